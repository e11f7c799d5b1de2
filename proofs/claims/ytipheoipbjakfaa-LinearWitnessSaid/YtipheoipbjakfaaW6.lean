/- What is proved: the evaluator of the translated code, and that it is sound, part 6. Conditions: those that each theorem names. -/
import Derived.Test.YtipheoipbjakfaaW5
set_option linter.unusedVariables false
set_option linter.unusedSimpArgs false
/- Memory: variables are read, and written; parts of types. -/
set_option linter.unusedVariables false
namespace Go.Own
variable {C : Cx} {P : Program} {E : Env} {w w' : World} {I I' : Nat → Prop} {st sv : St} {tm : Array Value} {tk tk' : Toks} {ds : List Deferred} {o : Oper} {e : TypeId}

theorem Blk.frozen {b : Nat} {cs : List Value} (h : Blk w b e cs) (o : Nat) (ho : o < cs.length) : w.frozen? ⟨b, o, none⟩ = false := by
  obtain ⟨c, fr, h1, h2, h3⟩ := h
  subst h2
  have := h3 o (by simpa using ho)
  obtain ⟨lo, hi⟩ := fr
  simp only [World.frozen?, h1]
  simp only [Bool.and_eq_false_iff, decide_eq_false_iff_not]
  simp only at this
  omega
theorem Blk.setCell {b : Nat} {cs : List Value} (h : Blk w b e cs) (o : Nat) (v : Value) : Blk (w.setCell ⟨b, o, none⟩ v) b e (cs.set o v) := by
  obtain ⟨c, fr, h1, h2, h3⟩ := h
  subst h2
  refine ⟨c.setIfInBounds o v, fr, ?_, by simp, by simpa using h3⟩
  simp [World.setCell, Array.getElem?_modify, h1]
theorem setCell_other (a : Addr) (v : Value) (b : Nat) (hb : b ≠ a.block) : (w.setCell a v).heap[b]? = w.heap[b]? := RowKit.Below.heap_setCell w a v b hb
theorem splice_cons (cs : List Value) (o : Nat) (v : Value) (r : List Value) (h : o + r.length < cs.length) : splice cs o (v :: r) = splice (cs.set o v) (o + 1) r := by
  apply list_ext; intro k
  rw [splice_get _ _ _ (by simp; omega), splice_get _ _ _ (by simp; omega), List.getElem?_set]
  simp only [List.length_cons]
  by_cases hk : o = k
  · subst hk
    rw [if_pos ⟨Nat.le_refl _, by omega⟩, if_neg (by omega), if_pos rfl, if_pos (by omega)]
    simp
  · by_cases hq : o + 1 ≤ k ∧ k < o + 1 + r.length
    · rw [if_pos (by omega), if_pos hq]
      have : k - o = (k - (o + 1)) + 1 := by omega
      rw [this, List.getElem?_cons_succ]
    · rw [if_neg (by omega), if_neg hq, if_neg hk]
theorem Blk.setCells {b : Nat} : ∀ {vs : List Value} {o : Nat} {cs : List Value} {w : World}, Blk w b e cs → o + vs.length ≤ cs.length → Blk (w.setCells b o vs) b e (splice cs o vs)
  | [], o, cs, w, h, _ => by
    have : splice cs o [] = cs := by unfold splice; simp
    rw [this]; exact h
  | v :: r, o, cs, w, h, hl => by
    simp only [List.length_cons] at hl
    rw [World.setCells, splice_cons cs o v r (by omega)]
    exact Blk.setCells (h.setCell o v) (by simp; omega)
theorem Wrote.cells (b : Nat) : ∀ (vs : List Value) (o : Nat) (w : World), Wrote b w (w.setCells b o vs)
  | [], _, w => ⟨fun _ _ => rfl, rfl, rfl, rfl, rfl⟩
  | v :: r, o, w => by
    have h := Wrote.cells b r (o + 1) (w.setCell ⟨b, o, none⟩ v)
    rw [World.setCells]
    exact ⟨fun k hk => (h.other k hk).trans (setCell_other _ _ _ (by simpa using hk)), h.size.trans (by simp), h.os, h.output, h.tape⟩
theorem Blk.alloc (w : World) (c : Array Value) (T : TypeId) : Blk (w.alloc (.cells c T)) w.heap.size T c.toList :=
  ⟨c, (0, 0), by simp only [World.alloc, Array.getElem?_push_size], rfl, fun o _ h => by simp at h⟩

theorem ptRep.val {s : Nat} {t : Ty} {pa : Path} {v : Value} (h : ptRep tk s t pa v) : ∃ a, v = .pointer (some a) := by
  obtain ⟨_, b, off, _, _, _, rfl⟩ := h; exact ⟨_, rfl⟩
theorem cellsRep.ones : ∀ {t : Ty} {x : t.den} {cs : List Value}, t.known = true → cellsRep w I tk t x cs → ∀ v ∈ cs, v.oneCell' = true := by
  intro t
  induction t with
  | int k => intro x cs _ h v hv; simp only [cellsRep] at h; subst h; simp at hv; subst hv; rfl
  | bool => intro x cs _ h v hv; simp only [cellsRep] at h; subst h; simp at hv; subst hv; rfl
  | str => intro x cs _ h v hv; simp only [cellsRep] at h; subst h; simp at hv; subst hv; rfl
  | flt => intro x cs _ h v hv; simp only [cellsRep] at h; subst h; simp at hv; subst hv; rfl
  | unit => intro x cs _ h v hv; simp only [cellsRep] at h; subst h; simp at hv
  | eos u => intro x cs _ h v hv; simp only [cellsRep] at h; subst h; simp at hv
  | pair a b iha ihb =>
    intro x cs hk h v hv
    simp only [Ty.known, Bool.and_eq_true] at hk
    obtain ⟨c1, c2, rfl, h1, h2⟩ := h
    rcases List.mem_append.1 hv with hv | hv
    · exact iha hk.1 h1 v hv
    · exact ihb hk.2 h2 v hv
  | arr n t ih =>
    intro x cs hk h v hv
    obtain ⟨hl, hc, h1⟩ := h
    obtain ⟨k, hk', rfl⟩ := List.getElem_of_mem hv
    have hs : 0 < t.size := by
      rcases Nat.eq_zero_or_pos t.size with h0 | h0
      · rw [h0] at hc; omega
      · exact h0
    have hi : k / t.size < x.length := by rw [hl]; exact Nat.div_lt_of_lt_mul (by rw [Nat.mul_comm]; omega)
    refine ih hk (h1 (k / t.size) _ (List.getElem?_eq_getElem hi)) _ ?_
    refine List.mem_of_getElem? (i := k % t.size) ?_
    rw [seg_get, if_pos (Nat.mod_lt _ hs), Nat.mul_comm, Nat.div_add_mod]
    exact List.getElem?_eq_getElem hk'
  | sl t ih => intro x cs _ h v hv; obtain ⟨ad, cap, rfl, _⟩ := h; simp at hv; subst hv; rfl
  | ref t ih =>
    intro x cs _ h v hv
    cases x with
    | none => simp only [cellsRep] at h; subst h; simp at hv; subst hv; rfl
    | some x => obtain ⟨_, b, o, c, rfl, _⟩ := h; simp at hv; subst hv; rfl
  | nif => intro x cs _ h v hv; simp only [cellsRep] at h; subst h; simp at hv; subst hv; rfl
  | slf => intro x cs _ h v hv; simp only [cellsRep] at h; subst h; simp at hv; subst hv; rfl
  | nsl t => intro x cs _ h v hv; simp only [cellsRep] at h; subst h; simp at hv; subst hv; rfl
  | sf s t pa =>
    intro x cs _ h v hv
    rcases h with ⟨_, rfl⟩ | ⟨_, u, rfl, h⟩
    · simp at hv; subst hv; rfl
    · obtain ⟨a, rfl⟩ := h.val; simp at hv; subst hv; rfl
  | vw s t => intro x cs _ h v hv; obtain ⟨k, _, _, rfl⟩ := h; simp at hv; subst hv; rfl
  | pt s t pa =>
    intro x cs _ h v hv
    obtain ⟨u, rfl, h⟩ := h
    obtain ⟨a, rfl⟩ := h.val; simp at hv; subst hv; rfl
  | mp s k v => intro x cs _ h v hv; obtain ⟨q, b, _, _, _, rfl⟩ := h; simp at hv; subst hv; rfl
  | junk t => intro x cs hk h; cases hk
  | dyn t => intro x cs _ h; exact h.elim
  | map k v => intro x cs _ h; exact h.elim

theorem valRep.cells {t : Ty} {x : t.den} {v : Value} (h : valRep w I tk t x v) (hk : t.known = true) : cellsRep w I tk t x v.cells.toList := by
  unfold valRep at h
  split at h
  · obtain ⟨cs, rfl, h⟩ := h; exact h
  · have := cellsRep.ones hk h v (by simp)
    have hc : v.cells = #[v] := by cases v <;> first | rfl | cases this
    rw [hc]; exact h

/-- A variable is read. -/
theorem loadVar_run {T : TypeId} {t : Ty} (h : TyAt P T t.frz) {x : t.den} {c : List Value} (hc : cellsRep w I tk t x c) {b o : Nat} (ha : cellsAt w b o c) :
    ∃ v, (loadVar T ⟨b, o, none⟩).run P w = .ok v w ∧ valRep w I tk t x v := by
  unfold loadVar
  rw [Sem.run_bind, h.isAgg w, Ty.frz_isAgg]
  simp only [Result.andThen_ok]
  have hadd : ∀ j, (⟨b, o, none⟩ : Addr).add j = ⟨b, o + j, none⟩ := fun j => addr_add b o j
  cases hg : t.isAgg with
  | true =>
    have hl := run_loadCells_list (P := P) w ⟨b, o, none⟩ c (fun j v hv => by rw [hadd]; exact ha j v hv)
    rw [hc.length] at hl
    refine ⟨.agg c.toArray, by simp [h.sizeOf w, Ty.frz_size, hl], ?_⟩
    unfold valRep
    simp only [hg, if_true]
    exact ⟨_, rfl, by simpa using hc⟩
  | false =>
    have h1 : t.size = 1 := by rw [← Ty.frz_size]; exact h.one (by rw [Ty.frz_isAgg]; exact hg)
    have hl := hc.length
    rw [h1] at hl
    match c, hl with
    | [v], _ =>
      have := ha 0 v rfl
      refine ⟨v, by simp [run_load, show w.cell? ⟨b, o, none⟩ = some v from this], ?_⟩
      unfold valRep
      simp only [hg, Bool.false_eq_true, if_false]
      exact hc
/-- A variable is written. -/
theorem storeVar_run {T : TypeId} {t : Ty} (h : TyAt P T t.frz) {x : t.den} {v : Value} (hk : t.known = true) (hv : valRep w I tk t x v) {b o : Nat} {cs : List Value} (hb : Blk w b e cs) (ho : o + t.size ≤ cs.length) :
    (storeVar T ⟨b, o, none⟩ v).run P w = .ok () (w.setCells b o v.cells.toList) ∧ cellsRep w I tk t x v.cells.toList := by
  have hc := hv.cells hk
  have hl := hc.length
  refine ⟨?_, hc⟩
  unfold storeVar
  rw [Sem.run_bind, h.sizeOf w, Ty.frz_size]
  simp only [Result.andThen_ok]
  rw [if_neg (by rw [← Array.length_toList, hl]; simp)]
  have := run_storeCells_cells (P := P) b o v.cells.toList 0 w (fun j hj => by rw [hb.cell, List.getElem?_eq_getElem (by omega)]; rfl)
    (fun j hj => hb.frozen _ (by omega)) (hc.ones hk)
  simpa using this

/-! ### Paths in types -/
theorem pathAt_append : ∀ {pa qa : Path} {t u v : Ty} {o1 o2 : Nat}, pathAt t pa = some (o1, u) → pathAt u qa = some (o2, v) → pathAt t (pa ++ qa) = some (o1 + o2, v) := by
  intro pa
  induction pa with
  | nil =>
    intro qa t u v o1 o2 h1 h2
    rw [pathAt_nil] at h1; cases h1
    simpa using h2
  | cons s pa ih =>
    intro qa t u v o1 o2 h1 h2
    cases t <;> cases s <;> simp only [pathAt, reduceCtorEq] at h1
    case pair.fst a b => simp only [List.cons_append, pathAt]; exact ih h1 h2
    all_goals
      obtain ⟨⟨o, u'⟩, h3, h4⟩ := Option.map_eq_some_iff.1 h1
      simp only [Prod.mk.injEq] at h4
      obtain ⟨rfl, rfl⟩ := h4
      simp only [List.cons_append, pathAt, ih h3 h2, Option.map_some, Nat.add_assoc]
theorem pathIn_append (n : Nat) : ∀ {pa qa : Path} {t u : Ty} {o1 : Nat}, pathAt t pa = some (o1, u) → pathIn n t pa → pathIn n u qa → pathIn n t (pa ++ qa) := by
  intro pa
  induction pa with
  | nil =>
    intro qa t u o1 h1 _ h2
    rw [pathAt_nil] at h1; cases h1
    simpa using h2
  | cons s pa ih =>
    intro qa t u o1 h1 hp h2
    cases t <;> cases s <;> simp only [pathAt, reduceCtorEq] at h1 <;> simp only [pathIn] at hp
    case pair.fst a b => simp only [List.cons_append, pathIn]; exact ih h1 hp h2
    case pair.snd a b =>
      obtain ⟨⟨o, u'⟩, h3, h4⟩ := Option.map_eq_some_iff.1 h1
      simp only [Prod.mk.injEq] at h4
      obtain ⟨rfl, rfl⟩ := h4
      simp only [List.cons_append, pathIn]; exact ih h3 hp h2
    all_goals
      obtain ⟨⟨o, u'⟩, h3, h4⟩ := Option.map_eq_some_iff.1 h1
      simp only [Prod.mk.injEq] at h4
      obtain ⟨rfl, rfl⟩ := h4
      simp only [List.cons_append, pathIn]; exact ⟨hp.1, ih h3 hp.2 h2⟩
theorem tyAt_pathAt : ∀ {pa : Path} {t u : Ty}, tyAt t pa = some u → ∃ off, pathAt t pa = some (off, u) := by
  intro pa
  induction pa with
  | nil => intro t u h; have : t = u := by cases t <;> simpa [tyAt] using h
           subst this; exact ⟨0, pathAt_nil _⟩
  | cons s pa ih =>
    intro t u h
    cases t <;> cases s <;> simp only [tyAt, reduceCtorEq] at h
    case pair.fst a b => exact ih h
    case pair.snd a b => obtain ⟨off, h⟩ := ih h; exact ⟨a.size + off, by simp [pathAt, h]⟩
    case arr.ix n t i => obtain ⟨off, h⟩ := ih h; exact ⟨i * t.size + off, by simp [pathAt, h]⟩
    case dyn.ix t i => obtain ⟨off, h⟩ := ih h; exact ⟨i * t.size + off, by simp [pathAt, h]⟩
/-- The cells of a part of what a box holds. -/
theorem box_at {q : Tk} {d x : DV} {pa : Path} {b : Nat} (hd : BoxRep w I tk q d) (hb : q.blk = some b) (hg : getP d.1 d.2 pa = some x) (hin : pathIn q.len q.ty pa) (hx : x.1.isTop = false) :
    ∃ off cs, pathAt q.ty pa = some (off, x.1.frz) ∧ Blk w b q.tid cs ∧ q.off + off + x.1.size ≤ cs.length ∧ cellsRep w I tk x.1 x.2 ((cs.drop (q.off + off)).take x.1.size) := by
  obtain ⟨dt, dx⟩ := d
  cases ht : dt.isTop with
  | false =>
    obtain ⟨h1, h2, b', cs, h3, h4, h5⟩ := (BoxRep.str ht).1 hd
    rw [hb] at h3; cases h3
    rw [h1] at hin
    obtain ⟨o, e1, e2, e3⟩ := getP_cells q.len (u := x.1) (y := x.2) h5 hg hin
    refine ⟨o, cs, by rw [h1]; exact e1, h4, ?_, ?_⟩
    · rw [h2, h5.length]; omega
    · rw [h2, Nat.zero_add]; exact e2
  | true =>
    cases dt <;> first | cases ht; done | skip
    · rename_i t0
      obtain ⟨h1, hp0, h2, h3, h4, h5⟩ := hd
      rw [h1] at hin
      have hfr : t0.frz = t0 := Ty.frz_plain hp0
      cases pa with
      | nil =>
        simp only [getP, Option.some.injEq] at hg
        subst hg; cases hx
      | cons s pa =>
        cases s <;> simp only [getP, reduceCtorEq] at hg
        · rename_i i
          simp only [pathIn] at hin
          rcases h5 with ⟨h5, h6⟩ | ⟨b', e1, e2, cs, e3, e4, e5⟩
          · rw [hb] at h5; cases h5
          · rw [hb] at e1; cases e1
            have hi : i < dx.2.length := by omega
            have hxi : dx.2[i]? = some (List.getD dx.2 i t0.dflt) := by
              rw [List.getD_eq_getElem?_getD, List.getElem?_eq_getElem hi]; rfl
            obtain ⟨c, hc, hv⟩ := e5 i _ hxi
            obtain ⟨o, f1, f2, f3⟩ := getP_cells q.len (u := x.1) (y := x.2) hc hg (by rw [hfr]; exact hin.2)
            rw [hfr] at f1
            have hm : (i + 1) * t0.size ≤ q.cap * t0.size := Nat.mul_le_mul_right _ (by omega)
            rw [Nat.add_mul, Nat.one_mul] at hm
            refine ⟨i * t0.size + o, cs, by rw [h1]; simp [pathAt, f1], e3, by omega, ?_⟩
            have : (cs.drop (q.off + (i * t0.size + o))).take x.1.size = (c.drop o).take x.1.size := by
              apply list_ext; intro j
              rw [seg_get, seg_get]
              split
              · have hl := hc.length
                have hj : c[o + j]? = some c[o + j] := List.getElem?_eq_getElem (by omega)
                rw [hj, ← hv _ _ hj]; congr 1; omega
              · rfl
            rw [this]; exact f2
        · rename_i lo k
          simp only [pathIn] at hin
          rcases h5 with ⟨h5, h6⟩ | ⟨b', e1, e2, cs, e3, e4, e5⟩
          · rw [hb] at h5; cases h5
          · rw [hb] at e1; cases e1
            have hc := own_sub (lo := lo) (k := k) e4 h3 (by omega) e5
            have hfr2 : (Ty.arr k t0).frz = .arr k t0 := by simp only [Ty.frz, hfr]
            obtain ⟨o, f1, f2, f3⟩ := getP_cells q.len (t := .arr k t0) (u := x.1) (y := x.2) hc hg (by rw [hfr2]; exact hin.2)
            rw [hfr2] at f1
            have hm : (lo + k) * t0.size ≤ q.cap * t0.size := Nat.mul_le_mul_right _ (by omega)
            rw [Nat.add_mul] at hm
            simp only [Ty.size] at f3
            refine ⟨lo * t0.size + o, cs, by rw [h1]; simp [pathAt, f1], e3, by omega, ?_⟩
            have : (cs.drop (q.off + (lo * t0.size + o))).take x.1.size = (((cs.drop (q.off + lo * t0.size)).take (k * t0.size)).drop o).take x.1.size := by
              apply list_ext; intro j
              rw [seg_get _ (q.off + (lo * t0.size + o)), seg_get _ o]
              split
              · rw [seg_get, if_pos (by omega)]; congr 1; omega
              · rfl
            rw [this]; exact f2
    · cases pa with
      | nil => simp only [getP, Option.some.injEq] at hg; subst hg; cases hx
      | cons s pa => cases s <;> simp [getP] at hg
end Go.Own

/- Operations, one by one. -/
set_option linter.unusedVariables false
namespace Go.Own
variable {C : Cx} {P : Program} {E : Env} {w w' : World} {I I' : Nat → Prop} {st sv : St} {tm : Array Value} {tk tk' : Toks} {ds : List Deferred} {o : Oper} {e : Ef}

theorem site_ne {n d j : Nat} (hn : n ≤ 900000) (hd : d < n) : d ≠ site j := by unfold site; omega
theorem TokTy.of {q : Tk} (ht : q.ty.isTop = false) (h : TyAt P q.tid q.ty) : TokTy P q := by
  unfold TokTy
  split
  · rename_i e; rw [e] at ht; cases ht
  · trivial
  · exact h
theorem frz_top : ∀ {t : Ty}, t.isTop = false → t.frz.isTop = false ∨ t.known = false := by
  intro t h
  cases t <;> first | exact .inl rfl | cases h; done | exact .inr rfl

/-- A new block, for a box whose site nothing points to any more. -/
theorem Inv.newAt (h : Inv C st tm w I tk) {d : Nat} (hd : d < st.sl.length) {x : DV} (hno : d ∉ mentions x.1) {q : Tk} {ob : Obj} (hq : q.blk = some w.heap.size) (hty : TokTy C.P q)
    (hr : BoxRep (w.alloc ob) I tk q x) : Inv C ((st.kill d).setBox d x) tm (w.alloc ob) I (tk.upd d q) := by
  have h1 := (h.kill d).grow (Grew.alloc w ob)
  refine h1.newBox (fun j => site_ne h.small hd) (free_kill st d) hno ?_ (fun _ _ => hty) hr
  intro b hb
  rw [hq] at hb; cases hb
  refine ⟨.inl h.size, by simp, fun hI => absurd (h.ilt _ hI) (Nat.lt_irrefl _), fun s' q' _ hs' hb' => absurd (h.tokLt s' q' _ hs' hb') (Nat.lt_irrefl _)⟩

/-- A new struct, or a variable of one cell, and the pointer to it. -/
theorem Inv.newVar (h : Inv C st tm w I tk) {d : Nat} (hd : d < st.sl.length) {x : DV} (hx : x.1.isTop = false) (hfx : x.1.frz.isTop = false) (hno : d ∉ mentions x.1) {c : Array Value} {T : TypeId} (hT : TyAt C.P T x.1.frz) (hc : cellsRep w I tk x.1 x.2 c.toList) :
    ∃ tk', Inv C (runPs (newPs d x) st) tm (w.alloc (.cells c T)) I tk' ∧ ptRep tk' d x.1.frz [] (.pointer (some ⟨w.heap.size, 0, none⟩)) := by
  have hg := Grew.alloc w (.cells c T)
  have hc' : cellsRep (w.alloc (.cells c T)) I tk x.1 x.2 c.toList := hc.mono (fun _ hb => hb) (fun b hb => hg.block b (h.ilt b hb)) (Toks.le.refl _)
  have hr : BoxRep (w.alloc (.cells c T)) I tk ⟨some w.heap.size, 0, none, 0, 0, x.1.frz, T⟩ x :=
    (BoxRep.str (t := x.1) (x := x.2) hx).2 ⟨rfl, rfl, w.heap.size, c.toList, rfl, Blk.alloc w c T, hc'⟩
  refine ⟨_, h.newAt hd hno rfl (TokTy.of hfx hT) hr, ⟨_, w.heap.size, 0, upd_same _ _ _, ?_, ?_, rfl⟩⟩
  · simp [Tk.at, pathAt_nil]
  · cases x.1.frz <;> trivial

theorem op_move {x : Operand} (hV : View sv st) (h : Inv C st tm w I tk) (hd : ∀ d, o.dst = some d → d < st.sl.length) (ho : o.op = .move x) (hf : opP E o sv = some (true, e)) :
    OpGood C o ds (e.run o.dst st) tm w := by
  simp only [opP, ho, Option.some.injEq, Prod.mk.injEq, true_and] at hf
  subst hf
  exact OpGood.v h hd (by simp [execOp, ho]) (ev_rep (ds := ds) hV h x)

theorem op_assign {x : Operand} (hV : View sv st) (h : Inv C st tm w I tk) (hd : ∀ d, o.dst = some d → d < st.sl.length) (ho : o.op = .assign x) (hf : opP E o sv = some (true, e)) :
    OpGood C o ds (e.run o.dst st) tm w := by
  have hx := ev_rep (ds := ds) hV h x
  have hr : (execOp (Act.eval ⟨tm, ds⟩) o).run C.P w = .ok (.value (Act.eval ⟨tm, ds⟩ x)) w := by simp [execOp, ho]
  simp only [opP, ho] at hf
  split at hf
  · rename_i e1
    rw [e1] at hx
    split at hf
    · rename_i d hd'
      simp only [Option.some.injEq, Prod.mk.injEq, true_and] at hf; subst hf
      obtain ⟨h1, h2⟩ := toData_sound hx hd'
      exact OpGood.v (v := .p d) h hd hr ⟨h1, h2⟩
    · cases hf
  · simp only [Option.some.injEq, Prod.mk.injEq, true_and] at hf; subst hf
    exact OpGood.v h hd hr hx

theorem boolOf_eq {v : SV} {b : Bool} (h : boolOf v = some b) : v = .p ⟨.bool, b⟩ := by
  unfold boolOf at h
  split at h
  · cases h; rfl
  · cases h
theorem op_pick {c a b : Operand} (hV : View sv st) (h : Inv C st tm w I tk) (hd : ∀ d, o.dst = some d → d < st.sl.length) (ho : o.op = .pick c a b) (hf : opP E o sv = some (true, e)) :
    OpGood C o ds (e.run o.dst st) tm w := by
  have hc := ev_rep (ds := ds) hV h c
  have ha := ev_rep (ds := ds) hV h a
  have hb := ev_rep (ds := ds) hV h b
  simp only [opP, ho] at hf
  split at hf
  · rename_i q d hp
    simp only [Option.some.injEq, Prod.mk.injEq] at hf; obtain ⟨rfl, rfl⟩ := hf
    unfold pickS at hp
    split at hp
    · rename_i c' x y e1 e2 e3
      rw [boolOf_eq e1] at hc; rw [boolOf_eq e2] at ha; rw [boolOf_eq e3] at hb
      simp only [Option.some.injEq, Prod.mk.injEq, true_and] at hp; subst hp
      refine OpGood.v (x := .bool (bif c' then x else y)) h hd ?_ (pRep_bool.2 rfl)
      simp only [execOp, ho, pRep_bool.1 hc, asBool, Sem.run_bind, Sem.run_pure, Result.andThen_ok, pRep_bool.1 ha, pRep_bool.1 hb]
      cases c' <;> rfl
    · rename_i c' x e1 e2 _
      rw [boolOf_eq e1] at hc; rw [boolOf_eq e2] at ha
      simp only [Option.some.injEq, Prod.mk.injEq] at hp; obtain ⟨rfl, rfl⟩ := hp
      refine OpGood.v (x := .bool x) h hd ?_ (pRep_bool.2 rfl)
      simp only [execOp, ho, pRep_bool.1 hc, asBool, Sem.run_bind, Sem.run_pure, Result.andThen_ok, pRep_bool.1 ha, if_true]
    · rename_i c' y e1 _ e3
      rw [boolOf_eq e1] at hc; rw [boolOf_eq e3] at hb
      simp only [Option.some.injEq, Prod.mk.injEq, Bool.not_eq_true'] at hp; obtain ⟨rfl, rfl⟩ := hp
      refine OpGood.v (x := .bool y) h hd ?_ (pRep_bool.2 rfl)
      simp only [execOp, ho, pRep_bool.1 hc, asBool, Sem.run_bind, Sem.run_pure, Result.andThen_ok, pRep_bool.1 hb, Bool.false_eq_true, if_false]
    · cases hp
  · cases hf

theorem op_binOp {op : BinOp} {T T' : TypeId} {x y : Operand} (hE : EnvOK C.P E) (hV : View sv st) (h : Inv C st tm w I tk) (hd : ∀ d, o.dst = some d → d < st.sl.length) (ho : o.op = .binOp op T x y T') (hf : opP E o sv = some (true, e)) :
    OpGood C o ds (e.run o.dst st) tm w := by
  have hx := ev_rep (ds := ds) hV h x
  have hy := ev_rep (ds := ds) hV h y
  simp only [opP, ho] at hf
  split at hf
  · rename_i c d hb
    simp only [Option.some.injEq, Prod.mk.injEq] at hf; obtain ⟨rfl, rfl⟩ := hf
    obtain ⟨v, hv, hr⟩ := binop_sound hE hV h x y hx hy hb
    refine OpGood.v h hd ?_ hr
    simp only [execOp, ho]
    rw [Sem.run_bind, hv]; rfl
  · cases hf

theorem op_unOp {op : UnOp} {T : TypeId} {x : Operand} (hV : View sv st) (h : Inv C st tm w I tk) (hd : ∀ d, o.dst = some d → d < st.sl.length) (ho : o.op = .unOp op T x) (hf : opP E o sv = some (true, e)) :
    OpGood C o ds (e.run o.dst st) tm w := by
  have hx := ev_rep (ds := ds) hV h x
  simp only [opP, ho] at hf
  split at hf
  · rename_i d hu
    simp only [Option.some.injEq, Prod.mk.injEq, true_and] at hf; subst hf
    unfold unop at hu
    split at hu
    · rename_i k n e
      rw [e] at hx
      have e1 := pRep_int.1 hx
      split at hu
      · simp only [Option.some.injEq] at hu; subst hu
        refine OpGood.v (x := .int k (k.wrap (0 - n))) h hd ?_ (pRep_int.2 rfl)
        simp only [execOp, ho, e1, Op.unary, Op.intArith, Sem.run_bind, Sem.run_pure, Result.andThen_ok]
      · simp only [Option.some.injEq] at hu; subst hu
        refine OpGood.v (x := .int k (ibits k (· ^^^ ·) (if k.signed then -1 else k.max) n)) h hd ?_ (pRep_int.2 rfl)
        simp only [execOp, ho, e1, Op.unary, Op.intBits, Sem.run_bind, Sem.run_pure, Result.andThen_ok, ibits]
      · cases hu
    · rename_i b e
      rw [e] at hx
      have e1 := pRep_bool.1 hx
      split at hu
      · simp only [Option.some.injEq] at hu; subst hu
        refine OpGood.v (x := .bool (!b)) h hd ?_ (pRep_bool.2 rfl)
        simp only [execOp, ho, e1, Op.unary, Sem.run_bind, Sem.run_pure, Result.andThen_ok]
      · cases hu
    · cases hu
  · cases hf

theorem op_extract {i j : Nat} (hV : View sv st) (h : Inv C st tm w I tk) (hd : ∀ d, o.dst = some d → d < st.sl.length) (ho : o.op = .extract (.tmp i) j) (hf : opP E o sv = some (true, e)) :
    OpGood C o ds (e.run o.dst st) tm w := by
  simp only [opP, ho] at hf
  split at hf
  · rename_i l hl
    have hr := hV.rep h i
    rw [hl] at hr
    obtain ⟨vs, e1, hlen, hc⟩ := hr
    split at hf
    · rename_i v hj
      simp only [Option.some.injEq, Prod.mk.injEq, true_and] at hf; subst hf
      have hjl : j < vs.size := by
        have := (List.getElem?_eq_some_iff.1 hj).1; omega
      have hv : vs[j]? = some vs[j] := by simp [hjl]
      refine OpGood.v h hd ?_ (SRep.of1 (hc j _ _ hj hv))
      have e' : Act.eval ⟨tm, ds⟩ (.tmp i) = .tuple vs := e1
      simp only [execOp, ho, e', Instr.extract, hv, Sem.run_bind, Sem.run_pure, Result.andThen_ok]
    · cases hf
  · cases hf

theorem op_nilCheck {x : Operand} (hV : View sv st) (h : Inv C st tm w I tk) (hd : ∀ d, o.dst = some d → d < st.sl.length) (ho : o.op = .nilCheck x) (hf : opP E o sv = some (true, e)) :
    OpGood C o ds (e.run o.dst st) tm w := by
  have hx := ev_rep (ds := ds) hV h x
  simp only [opP, ho] at hf
  split at hf
  · rename_i s t pa e1
    rw [e1] at hx
    simp only [Option.some.injEq, Prod.mk.injEq, true_and] at hf; subst hf
    have hx0 := hx
    obtain ⟨_, b, off, _, _, _, e2⟩ := hx
    exact OpGood.v h hd (by simp [execOp, ho, e2]) (e2 ▸ hx0)
  · rename_i s k v e1
    rw [e1] at hx
    simp only [Option.some.injEq, Prod.mk.injEq, true_and] at hf; subst hf
    have hx0 := hx
    obtain ⟨_, b, _, _, _, e2⟩ := hx
    exact OpGood.v h hd (by simp [execOp, ho, e2]) (e2 ▸ hx0)
  · rename_i f caps e1
    rw [e1] at hx
    simp only [Option.some.injEq, Prod.mk.injEq, true_and] at hf; subst hf
    have hx0 := hx
    obtain ⟨vs, e2, _⟩ := hx
    exact OpGood.v h hd (by simp [execOp, ho, e2]) (e2 ▸ hx0)
  · simp at hf
  · rename_i t r e1
    rw [e1] at hx
    simp only [Option.some.injEq, Prod.mk.injEq] at hf; obtain ⟨hr, rfl⟩ := hf
    cases r with
    | none => cases hr
    | some y =>
      have hx0 := hx
      have hr := hx.p
      simp only [valRep, Ty.isAgg, Bool.false_eq_true, if_false, cellsRep] at hr
      obtain ⟨_, b, off, c, e2, _⟩ := hr
      simp only [List.cons.injEq, and_true] at e2
      exact OpGood.v h hd (by simp [execOp, ho, e2]) (e2 ▸ hx0)
  · cases hf

theorem zero_run {T : TypeId} {t : Ty} (h : TyAt P T t) (w : World) : ∃ z, (zeroValue T).run P w = .ok z w ∧ z.cells.toList = t.zcells := by
  obtain ⟨i, z, hi, hz, hc⟩ := h.base.zero
  exact ⟨z, by simp [zeroValue, typeInfo, hi, hz], hc⟩
theorem zcells_plain : ∀ {t : Ty}, t.plain = true → cellsRep w I tk t t.dflt t.zcells := by
  intro t
  induction t with
  | pair a b iha ihb =>
    intro hp
    simp only [Ty.plain, Bool.and_eq_true] at hp
    exact ⟨_, _, rfl, iha hp.1, ihb hp.2⟩
  | arr n t ih =>
    intro hp
    have ih := ih hp
    have hl := ih.length
    refine ⟨by simp [Ty.dflt], by simp [Ty.zcells, hl], fun i x hx => ?_⟩
    simp only [Ty.dflt, List.getElem?_replicate] at hx
    split at hx
    · rename_i hi
      cases hx
      have : (((List.replicate n t.zcells).flatten).drop (i * t.size)).take t.size = t.zcells := by
        have hr : List.replicate n t.zcells = List.replicate i t.zcells ++ t.zcells :: List.replicate (n - i - 1) t.zcells := by
          have h2 : t.zcells :: List.replicate (n - i - 1) t.zcells = List.replicate (n - i) t.zcells := by
            rw [← List.replicate_succ]; congr 1; omega
          rw [h2, List.replicate_append_replicate]; congr 1; omega
        rw [hr, List.flatten_append, List.flatten_cons]
        have h1 : (List.replicate i t.zcells).flatten.length = i * t.size := by simp [hl]
        rw [← h1, List.drop_left, ← hl, List.take_left]
      simp only [Ty.zcells]
      rw [this]; exact ih
    · cases hx
  | sl t => intro hp; exact ⟨none, 0, rfl, Nat.le_refl _, .inl rfl⟩
  | ref t => intro hp; exact rfl
  | int k => intro hp; exact rfl
  | bool => intro hp; exact rfl
  | str => intro hp; exact rfl
  | flt => intro hp; exact rfl
  | unit => intro hp; exact rfl
  | eos u => intro hp; exact rfl
  | nif => intro hp; exact rfl
  | slf => intro hp; exact rfl
  | _ => intro hp; cases hp
theorem z_rep : ∀ {t : Ty}, t.zok = true → cellsRep w I tk t.z t.z.dflt t.zcells ∧ t.z.isTop = false ∧ mentions t.z = [] ∧ t.z.frz = t.frz := by
  have pz : ∀ {t : Ty}, t.plain = true → (cellsRep w I tk t t.dflt t.zcells ∧ t.isTop = false ∧ mentions t = [] ∧ t.frz = t.frz) := by
    intro t hp
    refine ⟨zcells_plain hp, (by cases t <;> first | rfl | cases hp), ?_, rfl⟩
    have : ∀ {t : Ty}, t.plain = true → mentions t = [] := by
      intro t
      induction t with
      | pair a b iha ihb => intro hp; simp only [Ty.plain, Bool.and_eq_true] at hp; simp [mentions, iha hp.1, ihb hp.2]
      | arr n t ih => intro hp; exact ih hp
      | _ => intro hp; first | rfl | cases hp
    exact this hp
  intro t
  induction t with
  | pair a b iha ihb =>
    intro hz
    simp only [Ty.zok, Bool.and_eq_true] at hz
    obtain ⟨a1, a2, a3, a4⟩ := iha hz.1
    obtain ⟨b1, b2, b3, b4⟩ := ihb hz.2
    exact ⟨⟨_, _, rfl, a1, b1⟩, rfl, by simp [Ty.z, mentions, a3, b3], by simp only [Ty.z, Ty.frz, a4, b4]⟩
  | arr n t ih =>
    intro hz
    exact pz (t := .arr n t) hz
  | mp s k v =>
    intro hz
    exact ⟨rfl, rfl, rfl, rfl⟩
  | sl t ih => intro hz; exact ⟨rfl, rfl, rfl, rfl⟩
  | int k => intro hz; exact pz (t := .int k) hz
  | bool => intro hz; exact pz (t := .bool) hz
  | str => intro hz; exact pz (t := .str) hz
  | flt => intro hz; exact pz (t := .flt) hz
  | unit => intro hz; exact pz (t := .unit) hz
  | eos u => intro hz; exact pz (t := .eos u) hz
  | ref t ih => intro hz; exact pz (t := .ref t) hz
  | nif => intro hz; exact pz (t := .nif) hz
  | slf => intro hz; exact pz (t := .slf) hz
  | _ => intro hz; cases hz

theorem op_alloc {T : TypeId} (hE : EnvOK C.P E) (hV : View sv st) (h : Inv C st tm w I tk) (hd : ∀ d, o.dst = some d → d < st.sl.length) (ho : o.op = .alloc T) (hf : opP E o sv = some (true, e)) :
    OpGood C o ds (e.run o.dst st) tm w := by
  simp only [opP, ho] at hf
  split at hf
  · rename_i t d hT hod
    cases hz : t.zok with
    | false => rw [hz] at hf; cases hf
    | true =>
      rw [hz] at hf
      simp only [cond_true, Option.some.injEq, Prod.mk.injEq, true_and] at hf; subst hf
      have hA := hE.ty T t hT
      obtain ⟨z, hz1, hz2⟩ := zero_run hA w
      obtain ⟨h1, h2, h3, h4⟩ := z_rep (w := w) (I := I) (tk := tk) hz
      rw [← hz2] at h1
      have hfr : t.z.frz = t := by rw [h4]; exact hA.frz
      have htop : t.isTop = false := by cases t <;> first | rfl | cases hz
      obtain ⟨tk', h5, h6⟩ := h.newVar (hd d hod) (x := ⟨t.z, t.z.dflt⟩) (T := T) h2 (by show t.z.frz.isTop = false; rw [hfr]; exact htop) (by show d ∉ mentions t.z; rw [h3]; exact List.not_mem_nil) (by show TyAt C.P T t.z.frz; rw [hfr]; exact hA) h1
      have h6' : ptRep tk' d t [] (.pointer (some ⟨w.heap.size, 0, none⟩)) := by have := h6; simp only [hfr] at this; exact this
      refine OpGood.of (I' := I) (tk' := tk') ?_ h5 (fun d' hd' => by rw [runPs_len]; exact hd d' hd') h6'
      simp only [execOp, ho, Instr.alloc, Sem.run_bind, hz1, Result.andThen_ok]
      rfl
  · cases hf
end Go.Own

/- Operations, one by one: places, loads, parts. -/
set_option linter.unusedVariables false
namespace Go.Own
variable {C : Cx} {P : Program} {E : Env} {w w' : World} {I I' : Nat → Prop} {st sv : St} {tm : Array Value} {tk tk' : Toks} {ds : List Deferred} {o : Oper} {e : Ef}

theorem Tk.at_some {k : Tk} {pa : Path} {b off : Nat} {t : Ty} (h : k.at pa = some (b, off, t)) : ∃ q, k.blk = some b ∧ pathAt k.ty pa = some (q, t) ∧ off = k.off + q := by
  unfold Tk.at at h
  cases hq : k.blk with
  | none => simp [hq] at h
  | some b' =>
    cases hp : pathAt k.ty pa with
    | none => simp [hq, hp] at h
    | some p =>
      obtain ⟨q, t'⟩ := p
      simp only [hq, hp, Option.some.injEq, Prod.mk.injEq] at h
      obtain ⟨rfl, rfl, rfl⟩ := h
      exact ⟨q, rfl, rfl, rfl⟩
theorem Tk.at_of {k : Tk} {pa : Path} {b q : Nat} {t : Ty} (h1 : k.blk = some b) (h2 : pathAt k.ty pa = some (q, t)) : k.at pa = some (b, k.off + q, t) := by
  simp [Tk.at, h1, h2]

/-- What a pointer into a box points to: its cells. -/
theorem pb_cells (hV : View sv st) (h : Inv C st tm w I tk) {s : Nat} {t : Ty} {pa : Path} {v : Value} {d x : DV} (hv : ptRep tk s t pa v) (hb : sv.box s = some d) (hg : getP d.1 d.2 pa = some x) (hx : x.1.isTop = false) :
    ∃ k b off cs, tk s = some k ∧ k.blk = some b ∧ BoxRep w I tk k d ∧ v = .pointer (some ⟨b, off, none⟩) ∧ t = x.1.frz ∧ Blk w b k.tid cs ∧ off + x.1.size ≤ cs.length ∧ cellsRep w I tk x.1 x.2 ((cs.drop off).take x.1.size) ∧ pathIn k.len k.ty pa ∧
      ∃ q, pathAt k.ty pa = some (q, t) ∧ off = k.off + q := by
  obtain ⟨k, b, off, h1, h2, h3, rfl⟩ := hv
  obtain ⟨q, h4, h5, rfl⟩ := Tk.at_some h2
  obtain ⟨k', h6, h7⟩ := h.boxes s d (hV.box s d hb)
  rw [h1] at h6; cases h6
  obtain ⟨off, cs, e1, e2, e3, e4⟩ := box_at h7 h4 hg h3 hx
  rw [h5] at e1
  simp only [Option.some.injEq, Prod.mk.injEq] at e1
  obtain ⟨rfl, e1⟩ := e1
  exact ⟨k, b, k.off + q, cs, h1, h4, h7, rfl, e1, e2, by omega, e4, h3, q, h5, rfl⟩

theorem load_run {T : TypeId} {v : Value} {b off : Nat} (hv : v = .pointer (some ⟨b, off, none⟩)) {u : Value} (h : (loadVar T ⟨b, off, none⟩).run P w = .ok u w) : (Instr.loadAt T v).run P w = .ok u w := by
  subst hv
  simp only [Instr.loadAt, Instr.sureAddr, Sem.run_bind, Sem.run_pure, Result.andThen_ok, h]

theorem loadP_sound (hE : EnvOK C.P E) (hV : View sv st) (h : Inv C st tm w I tk) {s : SV} {v : Value} {t : Ty} {r : SV} {T : TypeId} (hs : SRep w I tk s v) (hl : loadP sv s = some (t, r)) (hT : TyAt C.P T t) :
    ∃ u, (Instr.loadAt T v).run C.P w = .ok u w ∧ SRep w I tk r u := by
  unfold loadP at hl
  split at hl
  · rename_i q t0 pa
    split at hl
    · rename_i b hb
      split at hl
      · rename_i d hg
        obtain ⟨r', h1, h2⟩ := Option.map_eq_some_iff.1 hl
        cases h2
        have htop : d.1.isTop = false := by
          cases ht : d.1.isTop with
          | false => rfl
          | true =>
            exfalso
            unfold ofSing at h1
            split at h1
            · cases ht
            · cases ht
            · cases ht
            · cases ht
            · cases h1
            · rw [ht] at h1; cases h1
        obtain ⟨k, b', off, cs, e1, e2, e3, e4, e5, e6, e7, e8, e9, _⟩ := pb_cells hV h hs hb hg htop
        obtain ⟨u, hu, hr⟩ := loadVar_run (P := C.P) (T := T) hT e8 (cellsAt_seg e6)
        exact ⟨u, load_run e4 hu, ofSing_sound hr h1⟩
      · cases hl
    · cases hl
  · rename_i t0 x
    cases hl
    have hr := hs.p
    have hp := hs.pl
    simp only [valRep, Ty.isAgg, Bool.false_eq_true, if_false, cellsRep] at hr
    obtain ⟨_, b, off, c, e, _, hc, ha⟩ := hr
    simp only [List.cons.injEq, and_true] at e
    obtain ⟨u, hu, hr⟩ := loadVar_run (P := C.P) (T := T) (t := t) (hT.frz.symm ▸ hT) hc ha
    exact ⟨u, load_run e hu, hp, hr⟩
  · cases hl

theorem op_load {T : TypeId} {x : Operand} (hE : EnvOK C.P E) (hV : View sv st) (h : Inv C st tm w I tk) (hd : ∀ d, o.dst = some d → d < st.sl.length) (ho : o.op = .load T x) (hf : opP E o sv = some (true, e)) :
    OpGood C o ds (e.run o.dst st) tm w := by
  have hx := ev_rep (ds := ds) hV h x
  simp only [opP, ho] at hf
  split at hf
  · rename_i t v hl
    cases hT : E.isT T t with
    | false => rw [hT] at hf; cases hf
    | true =>
      rw [hT] at hf
      simp only [cond_true, Option.some.injEq, Prod.mk.injEq, true_and] at hf; subst hf
      obtain ⟨u, hu, hr⟩ := loadP_sound hE hV h hx hl (isT_at hE hT)
      refine OpGood.v h hd ?_ hr
      simp only [execOp, ho]
      rw [Sem.run_bind, hu]; rfl
  · cases hf

theorem op_box {T : TypeId} {x : Operand} (hE : EnvOK C.P E) (hV : View sv st) (h : Inv C st tm w I tk) (hd : ∀ d, o.dst = some d → d < st.sl.length) (ho : o.op = .box T x) (hf : opP E o sv = some (true, e)) :
    OpGood C o ds (e.run o.dst st) tm w := by
  have hx := ev_rep (ds := ds) hV h x
  have hr : (execOp (Act.eval ⟨tm, ds⟩) o).run C.P w = .ok (.value (.pointer (some ⟨w.heap.size, 0, none⟩))) (w.alloc (.cells (Act.eval ⟨tm, ds⟩ x).cells T)) := by
    simp only [execOp, ho, Instr.box, Sem.run_bind]
    rfl
  simp only [opP, ho] at hf
  split at hf
  · rename_i d t hod hT
    have hA := hE.ty T t hT
    have ttop : t.isTop = false := by cases t <;> first | rfl | exact hA.elim
    split at hf
    · rename_i v hv
      cases hc : (decide (v.1.frz = t) && v.1.known && !(mentions v.1).any (Nat.beq d)) with
      | false => rw [hc] at hf; cases hf
      | true =>
        rw [hc] at hf
        simp only [cond_true, Option.some.injEq, Prod.mk.injEq, true_and] at hf; subst hf
        simp only [Bool.and_eq_true, decide_eq_true_eq, Bool.not_eq_true', List.any_eq_false, Nat.beq_eq] at hc
        obtain ⟨⟨hft, hk⟩, hno⟩ := hc
        obtain ⟨h1, h2⟩ := singOf_sound hx hv
        obtain ⟨tk', h5, h6⟩ := h.newVar (hd d hod) (x := v) (T := T) h1 (by rw [hft]; exact ttop) (fun hm => hno d hm rfl) (by rw [hft]; exact hA) (h2.cells hk)
        refine OpGood.of (I' := I) (tk' := tk') hr h5 (fun d' hd' => by rw [runPs_len]; exact hd d' hd') ?_
        rw [hft] at h6; exact h6
    · split at hf
      · rename_i fs v hv
        cases hc : decide (v.1 = t) with
        | false => rw [hc] at hf; cases hf
        | true =>
          rw [hc] at hf
          simp only [cond_true, Option.some.injEq, Prod.mk.injEq, true_and] at hf; subst hf
          have hvt := of_decide_eq_true hc
          obtain ⟨I', tk1, hF, hp, hv2⟩ := dataF_sound hV h hx hv
          have hno : mentions v.1 = [] := by
            have : ∀ {t : Ty}, t.plain = true → mentions t = [] := by
              intro t
              induction t with
              | pair a b iha ihb => intro hp; simp only [Ty.plain, Bool.and_eq_true] at hp; simp [mentions, iha hp.1, ihb hp.2]
              | arr n t ih => intro hp; exact ih hp
              | _ => intro hp; first | rfl | cases hp
            exact this hp
          have hk : v.1.known = true := by
            have : ∀ {t : Ty}, t.plain = true → t.known = true := by
              intro t
              induction t with
              | pair a b iha ihb => intro hp; simp only [Ty.plain, Bool.and_eq_true] at hp; simp [Ty.known, iha hp.1, ihb hp.2]
              | arr n t ih => intro hp; exact ih hp
              | _ => intro hp; first | rfl | cases hp
            exact this hp
          have hfr : v.1.frz = t := by rw [hvt]; exact hA.frz
          obtain ⟨tk', h5, h6⟩ := hF.inv.newVar (by rw [runPs_len]; exact hd d hod) (x := v) (T := T) (by rw [hvt]; exact ttop) (by rw [hfr]; exact ttop) (by rw [hno]; exact List.not_mem_nil) (by rw [hfr]; exact hA) (hv2.cells hk)
          rw [← runPs_append] at h5
          refine OpGood.of (I' := I') (tk' := tk') hr h5 (fun d' hd' => by rw [runPs_len]; exact hd d' hd') ?_
          rw [hfr] at h6; exact h6
      · cases hf
  · cases hf
end Go.Own

/- Operations, one by one: fields, elements. -/
set_option linter.unusedVariables false
namespace Go.Own
variable {C : Cx} {P : Program} {E : Env} {w w' : World} {I I' : Nat → Prop} {st sv : St} {tm : Array Value} {tk tk' : Toks} {ds : List Deferred} {o : Oper} {e : Ef}

theorem fieldPath_in (n0 : Nat) : ∀ {n : Nat} {t u : Ty}, tyAt t (fieldPath n) = some u → pathIn n0 t (fieldPath n) := by
  intro n
  induction n with
  | zero => intro t u h; cases t <;> simp_all [fieldPath, tyAt, pathIn]
  | succ n ih =>
    intro t u h
    cases t <;> simp only [fieldPath, tyAt, reduceCtorEq] at h
    simp only [fieldPath, pathIn]
    exact ih h
/-- Field n of a struct: its offset, and its type. -/
theorem field_at : ∀ {n : Nat} {t u : Ty} {fs : List Field} {off : Nat}, FieldsAt P fs off t → tyAt t (fieldPath n) = some u →
    ∃ f o, fs[n]? = some f ∧ pathAt t (fieldPath n) = some (o, u) ∧ f.offset = off + o ∧ TyAt P f.type u := by
  intro n
  induction n with
  | zero =>
    intro t u fs off h hu
    cases t <;> simp only [fieldPath, tyAt, reduceCtorEq] at hu
    rename_i a b
    obtain ⟨f, r, rfl, ho, h1, h2⟩ := h
    have : a = u := by cases a <;> simpa [tyAt] using hu
    subst this
    exact ⟨f, 0, rfl, by cases a <;> rfl, by simpa using ho, h1⟩
  | succ n ih =>
    intro t u fs off h hu
    cases t <;> simp only [fieldPath, tyAt, reduceCtorEq] at hu
    rename_i a b
    obtain ⟨f, r, rfl, ho, h1, h2⟩ := h
    obtain ⟨g, o, h3, h4, h5, h6⟩ := ih h2 hu
    exact ⟨g, a.size + o, by simpa using h3, by simp [fieldPath, pathAt, h4], by omega, h6⟩
theorem struct_fields {T : TypeId} {t : Ty} (h : TyAt P T t) {n : Nat} {u : Ty} (hu : tyAt t (fieldPath n) = some u) :
    ∃ fs f o, P.underlying T = some (.struct fs) ∧ fs[n]? = some f ∧ pathAt t (fieldPath n) = some (o, u) ∧ f.offset = o ∧ TyAt P f.type u := by
  have hp : ∃ a b, t = .pair a b := by
    cases t <;> cases n <;> simp [fieldPath, tyAt] at hu ⊢
  obtain ⟨a, b, rfl⟩ := hp
  obtain ⟨_, _, _, fs, hfs, _, f, r, hfr, ho, h1, h2⟩ := h
  have hF : FieldsAt P fs.toList 0 (.pair a b) := ⟨f, r, hfr, ho, h1, by simpa [FieldsAt] using h2⟩
  obtain ⟨g, o, h3, h4, h5, h6⟩ := field_at hF hu
  exact ⟨fs, g, o, hfs, by simpa using h3, h4, by omega, h6⟩

theorem getP_tyAt : ∀ {pa : Path} {t : Ty} {x : t.den} {d : DV}, getP t x pa = some d → (∀ s, s ∈ pa → ∀ lo n, s ≠ .sub lo n) → tyAt t pa = some d.1 := by
  intro pa
  induction pa with
  | nil => intro t x d h _; cases t <;> (simp only [getP, Option.some.injEq] at h; subst h; rfl)
  | cons s pa ih =>
    intro t x d h hn
    have hn' : ∀ s, s ∈ pa → ∀ lo n, s ≠ .sub lo n := fun s hs => hn s (List.mem_cons_of_mem _ hs)
    cases t <;> cases s <;> simp only [getP, reduceCtorEq] at h
    case pair.fst a b => exact ih h hn'
    case pair.snd a b => exact ih h hn'
    case arr.ix n t i => exact ih h hn'
    case dyn.ix t i => exact ih h hn'
    case arr.sub n t lo k => exact absurd rfl (hn _ List.mem_cons_self lo k)
    case dyn.sub t lo k => exact absurd rfl (hn _ List.mem_cons_self lo k)
theorem fieldPath_nosub : ∀ {n : Nat} {s : PS}, s ∈ fieldPath n → ∀ lo k, s ≠ .sub lo k
  | 0, s, h, lo, k => by simp [fieldPath] at h; subst h; simp
  | n + 1, s, h, lo, k => by
    simp only [fieldPath, List.mem_cons] at h
    rcases h with rfl | h
    · simp
    · exact fieldPath_nosub h lo k

theorem idx_lt {i : Int} {n : Nat} (h0 : 0 ≤ i) (h1 : i < n) : i.toNat < n := by omega

/-- A pointer, and the one to a part: from the cell's offset on. -/
theorem part_ptr {s s' : SV} {v : Value} {pa : Path} {t u : Ty} {off : Nat} (hns : ∀ s, s ∈ pa → ∀ lo n, s ≠ .sub lo n) (hv : SRep w I tk s v) (ht : targetOf s = some t) (hp : partOf pa s = some s')
    (hat : pathAt t pa = some (off, u)) (hin : ∀ n, pathIn n t pa) :
    targetOf s' = some u ∧ ∃ b o, v = .pointer (some ⟨b, o, none⟩) ∧ SRep w I tk s' (.pointer (some ⟨b, o + off, none⟩)) := by
  cases s with
  | pb r t0 q =>
    simp only [targetOf, Option.some.injEq] at ht; subst ht
    obtain ⟨k, b, off0, h1, h2, h3, rfl⟩ := hv
    simp only [partOf] at hp
    obtain ⟨u', hu', rfl⟩ := Option.map_eq_some_iff.1 hp
    obtain ⟨off', ho'⟩ := tyAt_pathAt hu'
    rw [hat] at ho'; simp only [Option.some.injEq, Prod.mk.injEq] at ho'
    obtain ⟨rfl, rfl⟩ := ho'
    obtain ⟨q', h4, h5, rfl⟩ := Tk.at_some h2
    refine ⟨rfl, b, k.off + q', rfl, k, b, k.off + q' + off, h1, ?_, pathIn_append _ h5 h3 (hin _), rfl⟩
    have := Tk.at_of h4 (pathAt_append h5 hat)
    rw [this, Nat.add_assoc]
  | p e =>
    obtain ⟨te, x⟩ := e
    cases te with
    | ref t1 =>
      have ht' : some t1 = some t := ht
      cases ht'
      cases x with
      | none => cases hp
      | some y =>
        have hp' : (getP t y pa).map (fun d => SV.p ⟨.ref d.1, some d.2⟩) = some s' := hp
        obtain ⟨d, hg, rfl⟩ := Option.map_eq_some_iff.1 hp'
        have hr := hv.p
        have hpl := hv.pl
        have hplt : t.plain = true := hpl
        simp only [valRep, Ty.isAgg, Bool.false_eq_true, if_false, cellsRep] at hr
        obtain ⟨_, b, o, c, e, hI, hc, ha⟩ := hr
        simp only [List.cons.injEq, and_true] at e
        have hfr := Ty.frz_plain hplt
        obtain ⟨off', h5, h6, h7⟩ := getP_cells 0 hc (u := d.1) (y := d.2) hg (by rw [hfr]; exact hin 0)
        rw [hfr, hat] at h5; simp only [Option.some.injEq, Prod.mk.injEq] at h5
        have hdp : d.1.plain = true := getP_plain hplt hg
        obtain ⟨h5, h5'⟩ := h5
        subst h5
        refine ⟨by rw [h5', Ty.frz_plain hdp]; rfl, b, o, e, hdp, ?_⟩
        simp only [valRep, Ty.isAgg, Bool.false_eq_true, if_false, cellsRep]
        refine ⟨hdp, b, o + off, _, rfl, hI, h6, ?_⟩
        intro j v hj
        rw [seg_get] at hj
        split at hj
        · have := ha _ _ hj
          rw [← this]; congr 2; omega
        · cases hj
    | _ => cases ht
  | _ => cases ht

theorem op_fieldAddr {T : TypeId} {x : Operand} {f : Nat} (hE : EnvOK C.P E) (hV : View sv st) (h : Inv C st tm w I tk) (hd : ∀ d, o.dst = some d → d < st.sl.length) (ho : o.op = .fieldAddr T x f) (hf : opP E o sv = some (true, e)) :
    OpGood C o ds (e.run o.dst st) tm w := by
  have hx := ev_rep (ds := ds) hV h x
  simp only [opP, ho] at hf
  split at hf
  · rename_i s' t hp ht
    cases hc : (E.isT T t && nzT s') with
    | false => rw [hc] at hf; cases hf
    | true =>
      rw [hc] at hf
      simp only [cond_true, Option.some.injEq, Prod.mk.injEq, true_and] at hf; subst hf
      simp only [Bool.and_eq_true] at hc
      obtain ⟨hT, hz⟩ := hc
      have hA := isT_at hE hT
      have hty : ∃ u, tyAt t (fieldPath f) = some u := by
        generalize ev sv x = s at hp ht
        cases s with
        | pb r t0 q => cases ht; obtain ⟨u, hu, rfl⟩ := Option.map_eq_some_iff.1 hp; exact ⟨u, hu⟩
        | p e =>
          obtain ⟨te, y⟩ := e
          cases te with
          | ref t1 =>
            have ht' : some t1 = some t := ht
            cases ht'
            cases y with
            | none => cases hp
            | some y =>
              have hp' : (getP t y (fieldPath f)).map (fun d => SV.p ⟨.ref d.1, some d.2⟩) = some s' := hp
              obtain ⟨d, hg, rfl⟩ := Option.map_eq_some_iff.1 hp'
              exact ⟨d.1, getP_tyAt hg (fun s hs => fieldPath_nosub hs)⟩
          | _ => cases ht
        | _ => cases ht
      obtain ⟨u, hu⟩ := hty
      obtain ⟨fs, fl, off, hus, hfl, hat, hoff, hA2⟩ := struct_fields hA hu
      obtain ⟨htg, b, oo, e1, hs⟩ := part_ptr (fun s hs => fieldPath_nosub hs) hx ht hp hat (fun n => fieldPath_in n hu)
      unfold nzT at hz
      rw [htg] at hz
      have hz' : u.size ≠ 0 := by simpa using hz
      have hfl' : fs[f]? = some fl := by simpa using hfl
      refine OpGood.v h hd ?_ hs
      simp only [execOp, ho, e1, Instr.fieldAt, Sem.run_bind, run_underlying hus, Result.andThen_ok, hfl', Instr.sureAddr, Sem.run_pure, fieldPlace, hA2.sizeOf w]
      rw [if_neg hz', hoff, addr_add]; rfl
  · cases hf

theorem valRep.agg {t : Ty} {x : t.den} {v : Value} (h : valRep w I tk t x v) (ha : t.isAgg = true) : ∃ cs : Array Value, v = .agg cs ∧ cellsRep w I tk t x cs.toList := by
  unfold valRep at h
  simpa [ha] using h

theorem op_field {T : TypeId} {x : Operand} {f : Nat} (hE : EnvOK C.P E) (hV : View sv st) (h : Inv C st tm w I tk) (hd : ∀ d, o.dst = some d → d < st.sl.length) (ho : o.op = .field T x f) (hf : opP E o sv = some (true, e)) :
    OpGood C o ds (e.run o.dst st) tm w := by
  have hx := ev_rep (ds := ds) hV h x
  simp only [opP, ho] at hf
  have key : ∀ {d r : DV} {v : SV}, valRep w I tk d.1 d.2 (Act.eval ⟨tm, ds⟩ x) → getP d.1 d.2 (fieldPath f) = some r → E.isT T d.1.frz = true → ofSing r = some v → OpGood C o ds (Ef.run o.dst ⟨[], some v⟩ st) tm w := by
    intro d r v hr hg hT hv
    have hA := isT_at hE hT
    obtain ⟨off0, hpa⟩ : ∃ off, pathAt d.1.frz (fieldPath f) = some (off, r.1.frz) := by
      have : ∀ {n : Nat} {t : Ty} {y : t.den} {r : DV}, getP t y (fieldPath n) = some r → ∃ off, pathAt t.frz (fieldPath n) = some (off, r.1.frz) := by
        intro n
        induction n with
        | zero =>
          intro t y r hg
          cases t <;> simp only [fieldPath, getP, reduceCtorEq] at hg
          rename_i a b
          have : (⟨a, y.1⟩ : DV) = r := by cases a <;> simpa [getP] using hg
          subst this
          exact ⟨0, by simp only [Ty.frz, fieldPath, pathAt]⟩
        | succ n ih =>
          intro t y r hg
          cases t <;> simp only [fieldPath, getP, reduceCtorEq] at hg
          obtain ⟨off, ho⟩ := ih hg
          exact ⟨_, by simp only [Ty.frz, fieldPath, pathAt, ho, Option.map_some]; rfl⟩
      exact this hg
    have hty : tyAt d.1.frz (fieldPath f) = some r.1.frz := by
      have : ∀ {n : Nat} {t u : Ty} {off : Nat}, pathAt t (fieldPath n) = some (off, u) → tyAt t (fieldPath n) = some u := by
        intro n
        induction n with
        | zero =>
          intro t u off h
          cases t <;> simp only [fieldPath, pathAt, reduceCtorEq] at h
          rename_i a b
          cases h
          simp only [fieldPath, tyAt]
        | succ n ih =>
          intro t u off h
          cases t <;> simp only [fieldPath, pathAt, reduceCtorEq] at h
          obtain ⟨⟨o1, u1⟩, h1, h2⟩ := Option.map_eq_some_iff.1 h
          cases h2
          exact ih h1
      exact this hpa
    obtain ⟨fs, fl, off, hu, hfl, hp, hoff, hA2⟩ := struct_fields hA hty
    have hin := fieldPath_in 0 hty
    have hagg : d.1.isAgg = true := by
      obtain ⟨t, y⟩ := d
      cases t <;> cases f <;> simp [fieldPath, getP] at hg ⊢ <;> rfl
    obtain ⟨cs, e1, hc⟩ := hr.agg hagg
    obtain ⟨off', h5, h6, h7⟩ := getP_cells 0 hc (u := r.1) (y := r.2) hg hin
    rw [hp] at h5; simp only [Option.some.injEq, Prod.mk.injEq] at h5
    obtain ⟨v', hv', hr'⟩ := part_run hA2 cs off' r.2 w h6
    refine OpGood.v h hd ?_ (ofSing_sound hr' hv)
    have hfl' : fs[f]? = some fl := by simpa using hfl
    simp only [execOp, ho, Instr.field, Sem.run_bind, run_underlying hu, Result.andThen_ok, hfl', e1, asAgg, Sem.run_pure]
    rw [hoff, h5.1, hv']; rfl
  split at hf
  · rename_i d e
    rw [e] at hx
    split at hf
    · rename_i r hg
      cases hT : E.isT T d.1 with
      | false => rw [hT] at hf; cases hf
      | true =>
        rw [hT] at hf
        simp only [cond_true, Option.some.injEq, Prod.mk.injEq, true_and] at hf; subst hf
        have hrp := getP_plain hx.pl hg
        refine key hx.p hg (by rw [Ty.frz_plain hx.pl]; exact hT) ?_
        have htop : r.1.isTop = false := by obtain ⟨t, y⟩ := r; cases t <;> first | rfl | cases hrp
        unfold ofSing
        split <;> first | (cases hrp; done) | skip
        rw [htop]; simp only [cond_false, mkS]; rw [hrp]; rfl
    · cases hf
  · rename_i d e
    rw [e] at hx
    split at hf
    · rename_i r hg
      split at hf
      · rename_i v hv
        cases hT : E.isT T d.1.frz with
        | false => rw [hT] at hf; cases hf
        | true =>
          rw [hT] at hf
          simp only [cond_true, Option.some.injEq, Prod.mk.injEq, true_and] at hf; subst hf
          exact key hx.2 hg hT hv
      · cases hf
    · cases hf
  · cases hf

theorem str_get (s : ByteArray) (i : Nat) (h : i < s.size) : s[i]? = some (s.data.getD i 0) := by
  rw [getElem?_pos s i h]
  have h' : i < s.data.size := h
  simp only [Array.getD, h', dite_true]
  rfl
theorem op_index {T : TypeId} {x i : Operand} (hE : EnvOK C.P E) (hV : View sv st) (h : Inv C st tm w I tk) (hd : ∀ d, o.dst = some d → d < st.sl.length) (ho : o.op = .index T x i) (hf : opP E o sv = some (true, e)) :
    OpGood C o ds (e.run o.dst st) tm w := by
  have hx := ev_rep (ds := ds) hV h x
  have hi := ev_rep (ds := ds) hV h i
  simp only [opP, ho] at hf
  split at hf
  · rename_i s k n e1 e2
    rw [e1] at hx; rw [e2] at hi
    have hx' := pRep_str.1 hx
    have hi' := pRep_int.1 hi
    cases hT : E.isT T .str with
    | false => rw [hT] at hf; cases hf
    | true =>
      rw [hT] at hf
      simp only [cond_true, Option.some.injEq, Prod.mk.injEq, Bool.and_eq_true, decide_eq_true_eq] at hf
      obtain ⟨⟨h0, h1⟩, rfl⟩ := hf
      have hA := isT_at hE hT
      have hlt : (n : Int).toNat < s.size := idx_lt h0 h1
      refine OpGood.v (x := .int .u8 ((s.data.getD (n : Int).toNat 0).toNat : Int)) h hd ?_ (pRep_int.2 rfl)
      have hget := str_get s _ hlt
      simp only [execOp, ho, hx', hi', Instr.index, asIntOf, Sem.run_bind, Sem.run_pure, Result.andThen_ok, run_underlying hA.2]
      rw [if_pos h0, hget]; rfl
  · rename_i m t l k n e1 e2
    rw [e1] at hx; rw [e2] at hi
    have hi' := pRep_int.1 hi
    cases hT : E.isT T (.arr m t) with
    | false => rw [hT] at hf; cases hf
    | true =>
      rw [hT] at hf
      simp only [cond_true, Option.some.injEq, Prod.mk.injEq, Bool.and_eq_true, decide_eq_true_eq] at hf
      obtain ⟨⟨h0, h1⟩, rfl⟩ := hf
      obtain ⟨_, e, hu, hA0⟩ := isT_at hE hT
      have hA : TyAt C.P e t := hA0
      have hpl : t.plain = true := hx.pl
      obtain ⟨cs, e3, hl, hcl, hc⟩ := hx.p.agg rfl
      have hli : l[(n : Int).toNat]? = some (List.getD l (n : Int).toNat t.dflt) := by
        have : (n : Int).toNat < l.length := by rw [hl]; exact idx_lt h0 h1
        rw [List.getD_eq_getElem?_getD, List.getElem?_eq_getElem this]; rfl
      obtain ⟨v, hv, hr⟩ := part_run (t := t) (hA.frz.symm ▸ hA) cs ((n : Int).toNat * t.size) _ w (hc _ _ hli)
      refine OpGood.v (v := .p ⟨t, _⟩) h hd ?_ ⟨hpl, hr⟩
      simp only [execOp, ho, e3, hi', Instr.index, asIntOf, Sem.run_bind, Sem.run_pure, Result.andThen_ok, run_underlying hu]
      rw [if_pos ⟨h0, h1⟩, Sem.run_bind, hA.sizeOf w]
      simp only [Result.andThen_ok]
      rw [hv]; rfl
  · cases hf
end Go.Own

/- Operations, one by one: elements' places, parts of slices. -/
set_option linter.unusedVariables false
namespace Go.Own
variable {C : Cx} {P : Program} {E : Env} {w w' : World} {I I' : Nat → Prop} {st sv : St} {tm : Array Value} {tk tk' : Toks} {ds : List Deferred} {o : Oper} {e : Ef}

/-- A frozen slice's element. -/
theorem frozen_elem {t : Ty} {l : List t.den} {v : Value} (hv : valRep w I tk (.sl t) l v) {k : Nat} (hk : k < l.length) :
    ∃ b oo cap, v = .slice (some ⟨b, oo, none⟩) l.length cap ∧ l.length ≤ cap ∧ valRep w I tk (.ref t) (some (l.getD k t.dflt)) (.pointer (some ⟨b, oo + k * t.size, none⟩)) := by
  simp only [valRep, Ty.isAgg, Bool.false_eq_true, if_false, cellsRep, List.cons.injEq, and_true] at hv
  obtain ⟨ad, cap, rfl, hcap, hv⟩ := hv
  rcases hv with rfl | ⟨hp, b, oo, rfl, hI, hel⟩
  · simp at hk
  · have hki : l[k]? = some (l.getD k t.dflt) := by rw [List.getD_eq_getElem?_getD, List.getElem?_eq_getElem hk]; rfl
    obtain ⟨c, hc, ha⟩ := hel k _ hki
    refine ⟨b, oo, cap, rfl, hcap, ?_⟩
    simp only [valRep, Ty.isAgg, Bool.false_eq_true, if_false, cellsRep]
    exact ⟨hp, b, oo + k * t.size, c, rfl, hI, hc, ha⟩
theorem index_slice_run {T e : TypeId} {t : Ty} (hu : P.underlying T = some (.slice e)) (hA : TyAt P e t) {k : IntKind} {i : Int} {b oo n cap : Nat} (h0 : 0 ≤ i) (h1 : i < n) :
    (Instr.indexAt T (.slice (some ⟨b, oo, none⟩) n cap) (.int k i)).run P w = .ok (.pointer (some ⟨b, oo + i.toNat * t.size, none⟩)) w := by
  simp only [Instr.indexAt, asIntOf, Sem.run_bind, Sem.run_pure, Result.andThen_ok, run_underlying hu]
  rw [if_pos ⟨h0, h1⟩, Sem.run_bind, hA.sizeOf w]
  simp only [Result.andThen_ok, addr_add, Sem.run_pure]
theorem index_array_run {T e : TypeId} {t : Ty} {n : Nat} (hu : P.underlying T = some (.array n e)) (hA : TyAt P e t) {k : IntKind} {i : Int} {b oo : Nat} (h0 : 0 ≤ i) (h1 : i < n) :
    (Instr.indexAt T (.pointer (some ⟨b, oo, none⟩)) (.int k i)).run P w = .ok (.pointer (some ⟨b, oo + i.toNat * t.size, none⟩)) w := by
  simp only [Instr.indexAt, asIntOf, Instr.sureAddr, Sem.run_bind, Sem.run_pure, Result.andThen_ok, run_underlying hu]
  rw [if_pos ⟨h0, h1⟩, Sem.run_bind, hA.sizeOf w]
  simp only [Result.andThen_ok, addr_add, Sem.run_pure]

/-- An own array's token: where it lies, if it has elements. -/
theorem dyn_tok {q : Tk} {t : Ty} {x : (Ty.dyn t).den} (hd : BoxRep w I tk q ⟨.dyn t, x⟩) : q.ty = .dyn t ∧ q.len = x.2.length ∧ q.len ≤ q.cap ∧ (0 < q.len → ∃ b, q.blk = some b ∧ q.ad = some ⟨b, q.off, none⟩) := by
  obtain ⟨h1, hp, h2, h3, h4, h5⟩ := hd
  refine ⟨h1, h2, by omega, fun hl => ?_⟩
  rcases h5 with ⟨h5, h6⟩ | ⟨b, e1, e2, _⟩
  · omega
  · exact ⟨b, e1, e2⟩
/-- Where a part of an array begins. -/
theorem vs_addr (hV : View sv st) (h : Inv C st tm w I tk) {s : Nat} {t : Ty} {pa : Path} {lo n : Nat} {v : Value} (hv : SRep w I tk (.vs s t pa lo n) v) (hok : vsOK sv s pa = true) :
    ∃ q ad cap, tk s = some q ∧ v = .slice ad n cap ∧ n ≤ cap ∧ (0 < n → ∃ b o m, q.blk = some b ∧ ad = some ⟨b, q.off + o + lo * t.size, none⟩ ∧
      ((pa = [] ∧ o = 0 ∧ q.ty = .dyn t ∧ lo + n ≤ q.len) ∨ (pathAt q.ty pa = some (o, .arr m t) ∧ pathIn q.len q.ty pa ∧ lo + n ≤ m))) := by
  obtain ⟨q, hq, hr⟩ := hv
  rcases hr with ⟨rfl, hty, hl, ad', rfl, ha, hn⟩ | ⟨b, off, m, hat, hin, hl, ad', rfl, ha⟩
  · simp only [vsOK] at hok
    split at hok
    · rename_i t0 x hb
      obtain ⟨q', hq', hd⟩ := h.boxes s _ (hV.box s _ hb)
      rw [hq] at hq'; cases hq'
      obtain ⟨h1, h2, h3, h4⟩ := dyn_tok hd
      refine ⟨q, ad', q.cap - lo, hq, rfl, by omega, fun hn0 => ?_⟩
      obtain ⟨b, e1, e2⟩ := h4 (by omega)
      refine ⟨b, 0, 0, e1, ?_, .inl ⟨rfl, rfl, hty, hl.1⟩⟩
      rw [ha (by omega), e2]; simp [addr_add]
    · rename_i n0 t0 x hb
      obtain ⟨q', hq', hd⟩ := h.boxes _ _ (hV.box _ _ hb)
      rw [hq] at hq'; cases hq'
      have h1 : q.ty = (Ty.arr n0 t0).frz := hd.1
      rw [hty] at h1; cases h1
    · cases hok
  · obtain ⟨o, h1, h2, rfl⟩ := Tk.at_some hat
    refine ⟨q, some ad', m - lo, hq, rfl, by omega, fun hn0 => ⟨b, o, m, h1, ?_, .inr ⟨h2, hin, hl⟩⟩⟩
    rw [ha (by omega)]

theorem op_indexAddr {T : TypeId} {x y : Operand} (hE : EnvOK C.P E) (hV : View sv st) (h : Inv C st tm w I tk) (hd : ∀ d, o.dst = some d → d < st.sl.length) (ho : o.op = .indexAddr T x y) (hf : opP E o sv = some (true, e)) :
    OpGood C o ds (e.run o.dst st) tm w := by
  have hx := ev_rep (ds := ds) hV h x
  have hy := ev_rep (ds := ds) hV h y
  simp only [opP, ho] at hf
  split at hf
  · rename_i c s' hi
    simp only [Option.some.injEq, Prod.mk.injEq] at hf; obtain ⟨rfl, rfl⟩ := hf
    have fin : ∀ {u : Value}, (Instr.indexAt T (Act.eval ⟨tm, ds⟩ x) (Act.eval ⟨tm, ds⟩ y)).run C.P w = .ok u w → SRep w I tk s' u → OpGood C o ds (Ef.run o.dst ⟨[], some s'⟩ st) tm w := by
      intro u hu hr
      refine OpGood.v h hd ?_ hr
      simp only [execOp, ho]
      rw [Sem.run_bind, hu]; rfl
    unfold idxAddr at hi
    split at hi
    · rename_i n t k i hT hyi
      rw [hyi] at hy
      have ey := pRep_int.1 hy
      split at hi
      · rename_i htg
        split at hi
        · rename_i v hp
          simp only [Option.some.injEq, Prod.mk.injEq, Bool.and_eq_true, decide_eq_true_eq] at hi
          obtain ⟨⟨h0, h1⟩, rfl⟩ := hi
          obtain ⟨_, e, hu, hA0⟩ := hE.ty T _ hT
          have hA : TyAt C.P e t := hA0
          have hat : pathAt (.arr n t) [.ix (i : Int).toNat] = some ((i : Int).toNat * t.size, t) := by simp [pathAt, pathAt_nil]
          have hin : ∀ m, pathIn m (.arr n t) [.ix (i : Int).toNat] := fun m => ⟨idx_lt h0 h1, by cases t <;> trivial⟩
          obtain ⟨_, b, oo, e1, hs⟩ := part_ptr (by intro s hs lo n; simp at hs; subst hs; simp) hx htg hp hat hin
          exact fin (by rw [e1, ey]; exact index_array_run hu hA h0 h1) hs
        · cases hi
      · cases hi
    · rename_i t k i hT hyi
      rw [hyi] at hy
      have ey := pRep_int.1 hy
      obtain ⟨_, e, hu, hA0⟩ := hE.ty T _ hT
      have hA : TyAt C.P e t := hA0
      split at hi
      · rename_i u l e1
        rw [e1] at hx
        split at hi
        · cases hi
        · rename_i hne
          simp only [ne_eq, Decidable.not_not] at hne; subst hne
          simp only [Option.some.injEq, Prod.mk.injEq, Bool.and_eq_true, decide_eq_true_eq] at hi
          obtain ⟨⟨h0, h1⟩, rfl⟩ := hi
          obtain ⟨b, oo, cap, e2, _, hr⟩ := frozen_elem hx.p (idx_lt h0 h1)
          exact fin (by rw [e2, ey]; exact index_slice_run hu hA h0 h1) ⟨hx.pl, hr⟩
      · rename_i s u e1
        rw [e1] at hx
        split at hi
        · rename_i t0 l hb
          split at hi
          · cases hi
          · rename_i hne
            simp only [ne_eq, Decidable.not_not] at hne; subst hne
            simp only [Option.some.injEq, Prod.mk.injEq, Bool.and_eq_true, decide_eq_true_eq] at hi
            obtain ⟨⟨h0, h1⟩, rfl⟩ := hi
            obtain ⟨q, hq, hty, e2⟩ := hx
            obtain ⟨q', hq', hbr⟩ := h.boxes s _ (hV.box s _ hb)
            rw [hq] at hq'; cases hq'
            obtain ⟨g1, g2, g3, g4⟩ := dyn_tok hbr
            have hlt := idx_lt h0 h1
            obtain ⟨b, f1, f2⟩ := g4 (by omega)
            refine fin (u := .pointer (some ⟨b, q.off + (i : Int).toNat * u.size, none⟩)) ?_ ⟨q, b, _, hq, Tk.at_of f1 (by rw [hty]; simp [pathAt, pathAt_nil]), by rw [hty]; exact ⟨by omega, by cases u <;> trivial⟩, rfl⟩
            rw [e2, ey]; unfold Tk.hdr; rw [f2]
            exact index_slice_run hu hA h0 (by omega)
        · cases hi
      · rename_i s u pa lo n e1
        rw [e1] at hx
        split at hi
        · cases hi
        · rename_i hne
          simp only [ne_eq, not_or, Decidable.not_not, Bool.not_eq_false] at hne
          obtain ⟨rfl, hok⟩ := hne
          simp only [Option.some.injEq, Prod.mk.injEq, Bool.and_eq_true, decide_eq_true_eq] at hi
          obtain ⟨⟨h0, h1⟩, rfl⟩ := hi
          obtain ⟨q, ad, cap, hq, e2, hnc, hadr⟩ := vs_addr hV h hx hok
          have hlt := idx_lt h0 h1
          obtain ⟨b, oo, m, hb, e3, hc⟩ := hadr (by omega)
          have hp : pathAt q.ty (pa ++ [.ix (lo + (i : Int).toNat)]) = some (oo + (lo + (i : Int).toNat) * u.size, u) ∧ pathIn q.len q.ty (pa ++ [.ix (lo + (i : Int).toNat)]) := by
            rcases hc with ⟨rfl, rfl, hty, hl⟩ | ⟨hat, hin, hl⟩
            · rw [hty]
              exact ⟨by simp [pathAt, pathAt_nil], ⟨by omega, by cases u <;> trivial⟩⟩
            · exact ⟨pathAt_append hat (by simp [pathAt, pathAt_nil]), pathIn_append _ hat hin ⟨by omega, by cases u <;> trivial⟩⟩
          refine fin (u := .pointer (some ⟨b, q.off + (oo + (lo + (i : Int).toNat) * u.size), none⟩)) ?_ ⟨q, b, _, hq, Tk.at_of hb hp.1, hp.2, rfl⟩
          rw [e2, ey, e3, index_slice_run hu hA h0 h1]
          congr 4
          rw [Nat.add_mul]; omega
      · simp at hi
      · cases hi
    · cases hi
  · cases hf

/-! ### Parts of slices -/
theorem bound_run (hV : View sv st) (h : Inv C st tm w I tk) {n : Int} {x : Option Operand} {i : Int} (hb : boundOf n (x.map (ev sv)) = some i) :
    (x = none ∧ i = n) ∨ ∃ q k, x = some q ∧ Act.eval ⟨tm, ds⟩ q = .int k i := by
  cases x with
  | none => left; simp only [Option.map_none, boundOf, Option.some.injEq] at hb; exact ⟨rfl, hb.symm⟩
  | some q =>
    right
    have hq := ev_rep (ds := ds) hV h q
    simp only [Option.map_some] at hb
    unfold boundOf at hb
    split at hb
    · rename_i heq; cases heq
    · rename_i k j heq
      simp only [Option.some.injEq] at heq
      rw [heq] at hq
      simp only [Option.some.injEq] at hb; subst hb
      exact ⟨q, k, rfl, pRep_int.1 hq⟩
    · cases hb
theorem bounds_run (hV : View sv st) (h : Inv C st tm w I tk) {b : Bool} {len cap : Nat} {lo hi : Option Operand} {l u : Int} (h1 : boundOf 0 (lo.map (ev sv)) = some l) (h2 : boundOf len (hi.map (ev sv)) = some u)
    (h3 : 0 ≤ l) (h4 : l ≤ u) (h5 : u ≤ (len : Int)) (h6 : len ≤ cap) :
    (Instr.sliceBounds b len cap (lo.map (Act.eval ⟨tm, ds⟩)) (hi.map (Act.eval ⟨tm, ds⟩)) none).run P w = .ok (l.toNat, u.toNat, cap) w := by
  have c1 : 0 ≤ u ∧ u ≤ (cap : Int) := by omega
  have e1 : (u.toNat : Int) = u := by omega
  rcases bound_run (ds := ds) hV h h1 with ⟨rfl, rfl⟩ | ⟨q, k, rfl, hq⟩
  · rcases bound_run (ds := ds) hV h h2 with ⟨rfl, rfl⟩ | ⟨q2, k2, rfl, hq2⟩
    · simp [Instr.sliceBounds]
    · simp [Instr.sliceBounds, Instr.sliceBound, hq2, asIntOf, c1]
  · rcases bound_run (ds := ds) hV h h2 with ⟨rfl, rfl⟩ | ⟨q2, k2, rfl, hq2⟩
    · have c2 : 0 ≤ l ∧ l ≤ (len : Int) := by omega
      simp [Instr.sliceBounds, Instr.sliceBound, hq, asIntOf, c2]
    · have c2 : 0 ≤ l ∧ l ≤ (u.toNat : Int) := by omega
      simp only [Instr.sliceBounds, Instr.sliceBound, hq, hq2, asIntOf, Option.map_some, Sem.run_bind, Sem.run_pure, Result.andThen_ok]
      rw [if_pos c1]
      simp only [Sem.run_pure, Result.andThen_ok]
      rw [if_pos c2]
      simp only [Sem.run_pure, Result.andThen_ok]
theorem addr_add_add (a : Addr) (m n : Nat) : (a.add m).add n = a.add (m + n) := by
  unfold Addr.add
  by_cases h1 : n = 0
  · subst h1; simp
  · by_cases h2 : m = 0
    · subst h2; simp [h1]
    · simp [h1, h2]; omega
theorem slice_run {T e : TypeId} {t : Ty} (hu : C.P.underlying T = some (.slice e)) (hA : TyAt C.P e t) (hV : View sv st) (h : Inv C st tm w I tk) {ad : Option Addr} {len cap : Nat} {lo hi : Option Operand} {l u : Int} (h1 : boundOf 0 (lo.map (ev sv)) = some l) (h2 : boundOf len (hi.map (ev sv)) = some u)
    (h3 : 0 ≤ l) (h4 : l ≤ u) (h5 : u ≤ (len : Int)) (h6 : len ≤ cap) :
    (Instr.sliceAt T (.slice ad len cap) (lo.map (Act.eval ⟨tm, ds⟩)) (hi.map (Act.eval ⟨tm, ds⟩)) none).run C.P w = .ok (.slice (if cap = l.toNat then ad else ad.map (·.add (l.toNat * t.size))) (u.toNat - l.toNat) (cap - l.toNat)) w := by
  have hb := bounds_run (P := C.P) (ds := ds) (b := true) hV h h1 h2 h3 h4 h5 h6
  simp only [Instr.sliceAt, Sem.run_bind, run_underlying hu, Result.andThen_ok, Instr.slice, hb, hA.sizeOf w, Sem.run_pure]
theorem frozen_part {t : Ty} {l : List t.den} {ad ad' : Option Addr} {len cap lo n : Nat} (hr : valRep w I tk (.sl t) l (.slice ad len cap)) (hln : lo + n ≤ l.length) (had : lo < cap → ad' = ad.map (·.add (lo * t.size))) :
    valRep w I tk (.sl t) ((l.drop lo).take n) (.slice ad' n (cap - lo)) := by
  simp only [valRep, Ty.isAgg, Bool.false_eq_true, if_false, cellsRep, List.cons.injEq, Value.slice.injEq, and_true] at hr
  obtain ⟨ad2, cap', ⟨rfl, rfl, rfl⟩, hcap, hr⟩ := hr
  simp only [valRep, Ty.isAgg, Bool.false_eq_true, if_false]
  have hlen : ((l.drop lo).take n).length = n := by simp; omega
  refine ⟨_, _, by rw [hlen], by rw [hlen]; omega, ?_⟩
  rcases hr with rfl | ⟨hp, b, o, rfl, hI, hel⟩
  · left; simp
  · by_cases hn0 : n = 0
    · left; subst hn0; simp
    · right
      rw [had (by omega)]
      refine ⟨hp, b, o + lo * t.size, by simp [addr_add], hI, fun i x hx => ?_⟩
      obtain ⟨hi, hx⟩ := part_get _ _ _ _ _ hx
      obtain ⟨c, hc1, hc2⟩ := hel _ _ hx
      refine ⟨c, hc1, ?_⟩
      have : o + lo * t.size + i * t.size = o + (lo + i) * t.size := by rw [Nat.add_mul]; omega
      rw [this]; exact hc2
theorem inB_iff {l h n : Int} : inB l h n = true ↔ (0 ≤ l ∧ l ≤ h) ∧ h ≤ n := by simp [inB]

theorem op_slice {T : TypeId} {x : Operand} {lo hi : Option Operand} (hE : EnvOK C.P E) (hV : View sv st) (h : Inv C st tm w I tk) (hd : ∀ d, o.dst = some d → d < st.sl.length) (ho : o.op = .slice T x lo hi none) (hf : opP E o sv = some (true, e)) :
    OpGood C o ds (e.run o.dst st) tm w := by
  have hx := ev_rep (ds := ds) hV h x
  simp only [opP, ho] at hf
  split at hf
  · rename_i c s' hs
    simp only [Option.some.injEq, Prod.mk.injEq] at hf; obtain ⟨rfl, rfl⟩ := hf
    have fin : ∀ {u : Value}, (Instr.sliceAt T (Act.eval ⟨tm, ds⟩ x) (lo.map (Act.eval ⟨tm, ds⟩)) (hi.map (Act.eval ⟨tm, ds⟩)) none).run C.P w = .ok u w → SRep w I tk s' u → OpGood C o ds (Ef.run o.dst ⟨[], some s'⟩ st) tm w := by
      intro u hu hr
      refine OpGood.v h hd ?_ hr
      simp only [execOp, ho, Option.map_none]
      rw [Sem.run_bind, hu]; rfl
    unfold sliceS at hs
    split at hs
    · rename_i s hT ex
      rw [ex] at hx
      have e1 := pRep_str.1 hx
      split at hs
      · rename_i l u hl hu
        simp only [Option.some.injEq, Prod.mk.injEq] at hs
        obtain ⟨hc, rfl⟩ := hs
        obtain ⟨⟨h3, h4⟩, h5⟩ := inB_iff.1 hc
        obtain ⟨_, hue⟩ := hE.ty T _ hT
        have hb := bounds_run (P := C.P) (ds := ds) (b := false) hV h hl hu h3 h4 h5 (Nat.le_refl _)
        refine fin (u := .string (s.extract l.toNat u.toNat)) ?_ (pRep_str.2 rfl)
        simp only [e1, Instr.sliceAt, Sem.run_bind, run_underlying hue, Result.andThen_ok, Instr.slice, hb, Sem.run_pure, Option.isSome_none, Bool.false_eq_true, if_false]
      · cases hs
    · rename_i t0 t1 s hT ex
      rw [ex] at hx
      split at hs
      · rename_i l u hl hu
        split at hs
        · rename_i ht
          subst ht
          simp only [Option.some.injEq, Prod.mk.injEq] at hs
          obtain ⟨hc, rfl⟩ := hs
          obtain ⟨⟨h3, h4⟩, h5⟩ := inB_iff.1 hc
          obtain ⟨_, eT, hue, hAe⟩ := hE.ty T _ hT
          have hr0 := hx.p
          have hr := hx.p
          simp only [valRep, Ty.isAgg, Bool.false_eq_true, if_false, cellsRep, List.cons.injEq, and_true] at hr
          obtain ⟨ad, cap, e2, hcap, _⟩ := hr
          rw [e2] at hr0
          have hrun := slice_run (ds := ds) (t := t1) hue hAe hV h (ad := ad) (cap := cap) hl hu h3 h4 h5 hcap
          exact fin (by rw [e2]; exact hrun) ⟨hx.pl, frozen_part hr0 (by omega) (fun hlt => by rw [if_neg (by omega)])⟩
        · cases hs
      · cases hs
    · rename_i t0 g t1 hT ex
      rw [ex] at hx
      split at hs
      · rename_i t2 s hb
        split at hs
        · rename_i l u hl hu
          split at hs
          · rename_i ht
            subst ht
            simp only [Option.some.injEq, Prod.mk.injEq] at hs
            obtain ⟨hc, rfl⟩ := hs
            obtain ⟨⟨h3, h4⟩, h5⟩ := inB_iff.1 hc
            obtain ⟨_, eT, hue, hAe⟩ := hE.ty T _ hT
            obtain ⟨q, hq, hty, e2⟩ := hx
            obtain ⟨q', hq', hbr⟩ := h.boxes g _ (hV.box g _ hb)
            rw [hq] at hq'; cases hq'
            obtain ⟨g1, g2, g3, g4⟩ := dyn_tok hbr
            rw [← g2] at hu h5
            have hrun := slice_run (ds := ds) (t := t1) hue hAe hV h (ad := q.ad) (cap := q.cap) hl hu h3 h4 h5 g3
            refine fin (by rw [e2]; exact hrun) ⟨q, hq, .inl ⟨rfl, hty, ⟨by omega, g3⟩, _, rfl, fun hlt => by rw [if_neg (by omega)], by split <;> simp⟩⟩
          · cases hs
        · cases hs
      · cases hs
    · rename_i t0 g t1 pa a n hT ex
      rw [ex] at hx
      split at hs
      · rename_i l u hl hu
        split at hs
        · rename_i ht
          subst ht
          simp only [Option.some.injEq, Prod.mk.injEq] at hs
          obtain ⟨hc, rfl⟩ := hs
          obtain ⟨⟨h3, h4⟩, h5⟩ := inB_iff.1 hc
          obtain ⟨_, eT, hue, hAe⟩ := hE.ty T _ hT
          obtain ⟨q, hq, hv⟩ := hx
          rcases hv with ⟨rfl, hty, hll, ad', e2, ha, hn⟩ | ⟨b, off, m, hat, hin, hll, ad', e2, ha⟩
          · have hcap : n ≤ q.cap - a := by omega
            · have hrun := slice_run (ds := ds) (t := t1) hue hAe hV h (ad := ad') (len := n) (cap := q.cap - a) hl hu h3 h4 h5 hcap
              refine fin (by rw [e2]; exact hrun) ⟨q, hq, .inl ⟨rfl, hty, by omega, _, by rw [Nat.sub_sub], fun hlt => ?_, by split <;> simp [hn]⟩⟩
              rw [if_neg (by omega), ha (by omega), Option.map_map]
              congr 1
              funext z
              simp only [Function.comp_apply, addr_add_add, Nat.add_mul]
          · have hrun := slice_run (ds := ds) (t := t1) hue hAe hV h (ad := some ad') (len := n) (cap := m - a) hl hu h3 h4 h5 (by omega)
            refine fin (by rw [e2]; exact hrun) ⟨q, hq, .inr ⟨b, off, m, hat, hin, by omega, if m - a = l.toNat then ad' else ad'.add (l.toNat * t1.size), ?_, fun hlt => ?_⟩⟩
            · split <;> simp [Nat.sub_sub]
            · rw [if_neg (by omega), ha (by omega), addr_add, Nat.add_mul, Nat.add_assoc]
        · cases hs
      · cases hs
    · rename_i t0 hT ex
      rw [ex] at hx
      have e1 : Act.eval ⟨tm, ds⟩ x = .slice none 0 0 := hx
      split at hs
      · rename_i l u hl hu
        simp only [Option.some.injEq, Prod.mk.injEq] at hs
        obtain ⟨hc, rfl⟩ := hs
        obtain ⟨⟨h3, h4⟩, h5⟩ := inB_iff.1 hc
        obtain ⟨_, eT, hue, hAe⟩ := hE.ty T _ hT
        have hrun := slice_run (ds := ds) (t := t0) hue hAe hV h (ad := none) (len := 0) (cap := 0) hl (by simpa using hu) h3 h4 (by simpa using h5) (Nat.le_refl _)
        refine fin (u := .slice none 0 0) ?_ rfl
        rw [e1, hrun]
        have : u.toNat = 0 := by omega
        simp [this]
      · cases hs
    · rename_i m u0 g n t1 pa hT ex
      rw [ex] at hx
      split at hs
      · rename_i l u hl hu
        split at hs
        · rename_i ht
          obtain ⟨rfl, rfl⟩ := ht
          simp only [Option.some.injEq, Prod.mk.injEq] at hs
          obtain ⟨hc, rfl⟩ := hs
          obtain ⟨⟨h3, h4⟩, h5⟩ := inB_iff.1 hc
          obtain ⟨_, eT, hue, hAe⟩ := hE.ty T _ hT
          obtain ⟨_, e2, hue2, hA2⟩ := (show TyAt C.P eT (.arr n t1) from hAe)
          have hA2' : TyAt C.P e2 t1 := hA2
          obtain ⟨q, b, off, h6, h7, h8, e3⟩ := hx
          have hb := bounds_run (P := C.P) (ds := ds) (b := false) hV h hl hu h3 h4 h5 (Nat.le_refl _)
          refine fin (u := .slice (some (if n = l.toNat then ⟨b, off, none⟩ else (⟨b, off, none⟩ : Addr).add (l.toNat * t1.size))) (u.toNat - l.toNat) (n - l.toNat)) ?_ ⟨q, h6, .inr ⟨b, off, n, h7, h8, by omega, _, rfl, fun hlt => ?_⟩⟩
          · simp only [e3, Instr.sliceAt, Sem.run_bind, run_underlying hue, run_underlying hue2, Result.andThen_ok, Instr.slice, Instr.sureAddr, asAddr, Sem.run_pure, hb, hA2'.sizeOf w]
          · rw [if_neg (by omega), addr_add]
        · cases hs
      · cases hs
    · rename_i m u0 g n t1 pa hT ex
      rw [ex] at hx
      split at hs
      · rename_i l u hl hu
        split at hs
        · rename_i ht
          obtain ⟨rfl, rfl⟩ := ht
          simp only [Option.some.injEq, Prod.mk.injEq] at hs
          obtain ⟨hc, rfl⟩ := hs
          obtain ⟨⟨h3, h4⟩, h5⟩ := inB_iff.1 hc
          obtain ⟨_, e2, hue2, hA2⟩ := hE.ty T _ hT
          have hA2' : TyAt C.P e2 t1 := hA2
          obtain ⟨q, b, off, h6, h7, h8, e3⟩ := hx
          have hb := bounds_run (P := C.P) (ds := ds) (b := false) hV h hl hu h3 h4 h5 (Nat.le_refl _)
          refine fin (u := .slice (some (if n = l.toNat then ⟨b, off, none⟩ else (⟨b, off, none⟩ : Addr).add (l.toNat * t1.size))) (u.toNat - l.toNat) (n - l.toNat)) ?_ ⟨q, h6, .inr ⟨b, off, n, h7, h8, by omega, _, rfl, fun hlt => ?_⟩⟩
          · simp only [e3, Instr.sliceAt, Sem.run_bind, run_underlying hue2, Result.andThen_ok, Instr.sureAddr, Sem.run_pure, hb, hA2'.sizeOf w]
          · rw [if_neg (by omega), addr_add]
        · cases hs
      · cases hs
    · cases hs
  · cases hf
end Go.Own

/- Operations, one by one: stores. -/
set_option linter.unusedVariables false
namespace Go.Own
variable {C : Cx} {P : Program} {E : Env} {w w' : World} {I I' : Nat → Prop} {st sv : St} {tm : Array Value} {tk tk' : Toks} {ds : List Deferred} {o : Oper} {e : Ef}

theorem Blk.same {b : Nat} {e1 e2 : TypeId} {c1 c2 : List Value} (h1 : Blk w b e1 c1) (h2 : Blk w b e2 c2) : e1 = e2 ∧ c1 = c2 := by
  obtain ⟨a, fr, g1, rfl, _⟩ := h1
  obtain ⟨a', fr', g2, rfl, _⟩ := h2
  rw [g1] at g2
  simp only [Option.some.injEq, Obj.cells.injEq] at g2
  exact ⟨g2.2.1, by rw [g2.1]⟩
theorem setP_top : ∀ {pa : Path} {t : Ty} {x : t.den} {d z : DV}, setP t x pa d = some z → t.isTop = false → d.1.isTop = false → z.1.isTop = false
  | [], t, x, d, z, h, _, hd => by
    have : d = z := by cases t <;> simpa [setP] using h
    subst this; exact hd
  | s :: pa, t, x, d, z, h, ht, hd => by
    cases t <;> cases s <;> simp only [setP, reduceCtorEq] at h <;> first | cases ht; done | skip
    · obtain ⟨y, _, rfl⟩ := Option.map_eq_some_iff.1 h; rfl
    · obtain ⟨y, _, rfl⟩ := Option.map_eq_some_iff.1 h; rfl
    · obtain ⟨y, _, h2⟩ := Option.bind_eq_some_iff.1 h
      split at h2
      · cases h2; rfl
      · cases h2

/-- A part of what a box holds is written. -/
theorem box_setG {q : Tk} {d x z : DV} {pa : Path} {b off : Nat} {c : List Value} (hd : BoxRep w I tk q d) (hb : q.blk = some b) (hs : setP d.1 d.2 pa x = some z) (hin : pathIn q.len q.ty pa)
    (hat : pathAt q.ty pa = some (off, x.1.frz)) (hx : x.1.isTop = false) (hk : x.1.known = true) (hc : cellsRep w I tk x.1 x.2 c) (hI : ¬ I b) (hw : Wrote b w w') (hB : ∀ cs, Blk w b q.tid cs → q.off + off + x.1.size ≤ cs.length → Blk w' b q.tid (splice cs (q.off + off) c)) :
    BoxRep w' I tk q z ∧ ∃ cs, Blk w b q.tid cs ∧ q.off + off + x.1.size ≤ cs.length := by
  have hm : ∀ k, I k → w'.heap[k]? = w.heap[k]? := fun k hk => hw.other k (by rintro rfl; exact hI hk)
  have hl := hc.length
  obtain ⟨dt, dx⟩ := d
  cases ht : dt.isTop with
  | false =>
    obtain ⟨h1, h2, b', cs, h3, h4, h5⟩ := (BoxRep.str ht).1 hd
    rw [hb] at h3; cases h3
    rw [h1] at hin hat
    obtain ⟨e1, e2, e3⟩ := setP_cells q.len (u := x.1) (y := x.2) (t' := z.1) (x' := z.2) h5 hs hin hc hat
    refine ⟨(BoxRep.str (t := z.1) (x := z.2) (setP_top hs ht hx)).2 ⟨by rw [e3]; exact h1, h2, b, splice cs (q.off + off) c, hb, ?_, ?_⟩, cs, h4, by rw [h2, h5.length]; omega⟩
    · exact hB _ h4 (by rw [h2, h5.length]; omega)
    · rw [h2, Nat.zero_add]
      exact (e1.mono (fun _ hb => hb) (hm) (Toks.le.refl _))
  | true =>
    cases dt <;> first | cases ht; done | skip
    · rename_i t0
      obtain ⟨h1, hp0, h2, h3, h4, h5⟩ := hd
      rw [h1] at hin hat
      have hfr : t0.frz = t0 := Ty.frz_plain hp0
      cases pa with
      | nil =>
        rw [pathAt_nil] at hat
        simp only [Option.some.injEq, Prod.mk.injEq] at hat
        exfalso
        obtain ⟨t1, y⟩ := x
        cases t1 <;> first | (cases hx; done) | (cases hk; done) | (simp [Ty.frz] at hat; done)
      | cons s pa =>
        cases s <;> simp only [setP, reduceCtorEq] at hs
        rename_i i
        obtain ⟨⟨z1, z2⟩, hz, hs2⟩ := Option.bind_eq_some_iff.1 hs
        split at hs2
        · rename_i hzt
          dsimp only at hzt
          subst hzt
          cases hs2
          simp only [pathIn] at hin
          simp only [pathAt] at hat
          obtain ⟨⟨o1, u1⟩, ho1, e⟩ := Option.map_eq_some_iff.1 hat
          simp only [Prod.mk.injEq] at e
          obtain ⟨rfl, rfl⟩ := e
          rcases h5 with ⟨h5, h6⟩ | ⟨b', e1, e2, cs, e3, e4, e5⟩
          · rw [hb] at h5; cases h5
          · rw [hb] at e1; cases e1
            have hi : i < dx.2.length := by omega
            have hxi : dx.2[i]? = some (List.getD dx.2 i z1.dflt) := by
              rw [List.getD_eq_getElem?_getD, List.getElem?_eq_getElem hi]; rfl
            obtain ⟨ci, hci, hvi⟩ := e5 i _ hxi
            have hli := hci.length
            obtain ⟨f1, f2, f3⟩ := setP_cells q.len (u := x.1) (y := x.2) (t' := z1) (x' := z2) hci hz (by rw [hfr]; exact hin.2) hc (by rw [hfr]; exact ho1)
            have hm1 : (i + 1) * z1.size ≤ q.cap * z1.size := Nat.mul_le_mul_right _ (by omega)
            rw [Nat.add_mul, Nat.one_mul] at hm1
            have hlen : q.off + (i * z1.size + o1) + c.length ≤ cs.length := by rw [hl]; omega
            refine ⟨⟨h1, hp0, by simpa using h2, by simpa using h3, h4, .inr ⟨b, hb, e2, splice cs (q.off + (i * z1.size + o1)) c, hB _ e3 (by omega), by rw [splice_length _ _ _ hlen]; exact e4, fun j y hj => ?_⟩⟩, cs, e3, by omega⟩
            simp only [List.getElem?_set] at hj
            by_cases hij : i = j
            · subst hij
              rw [if_pos rfl, if_pos hi] at hj
              simp only [Option.some.injEq] at hj
              subst hj
              refine ⟨_, f1.mono (fun _ hb => hb) hm (Toks.le.refl _), fun k v hk => ?_⟩
              rw [splice_get _ _ _ (by omega)] at hk
              rw [splice_get _ _ _ hlen]
              by_cases hq : o1 ≤ k ∧ k < o1 + c.length
              · rw [if_pos hq] at hk
                rw [if_pos (by omega), ← hk]; congr 1; omega
              · rw [if_neg hq] at hk
                have hk' : k < ci.length := (List.getElem?_eq_some_iff.1 hk).1
                rw [if_neg (by omega)]
                exact hvi k v hk
            · rw [if_neg hij] at hj
              obtain ⟨cj, hcj, hvj⟩ := e5 j y hj
              refine ⟨cj, hcj.mono (fun _ hb => hb) hm (Toks.le.refl _), fun k v hk => ?_⟩
              have hk' : k < cj.length := (List.getElem?_eq_some_iff.1 hk).1
              have hlj := hcj.length
              rw [splice_get _ _ _ hlen, if_neg]
              · exact hvj k v hk
              · rintro ⟨q1, q2⟩
                rcases Nat.lt_or_gt_of_ne hij with hlt | hgt
                · have := Nat.mul_le_mul_right z1.size (show i + 1 ≤ j by omega)
                  rw [Nat.add_mul, Nat.one_mul] at this; omega
                · have := Nat.mul_le_mul_right z1.size (show j + 1 ≤ i by omega)
                  rw [Nat.add_mul, Nat.one_mul] at this; omega
        · cases hs2
    · cases pa with
      | nil =>
        obtain ⟨h1, _⟩ := hd
        rw [h1, pathAt_nil] at hat
        simp only [Option.some.injEq, Prod.mk.injEq] at hat
        exfalso
        obtain ⟨t1, y⟩ := x
        cases t1 <;> first | (cases hx; done) | (cases hk; done) | (simp [Ty.frz] at hat; done)
      | cons s pa => cases s <;> simp [setP] at hs

theorem box_set {q : Tk} {d x z : DV} {pa : Path} {b off : Nat} {c : List Value} (hd : BoxRep w I tk q d) (hb : q.blk = some b) (hs : setP d.1 d.2 pa x = some z) (hin : pathIn q.len q.ty pa)
    (hat : pathAt q.ty pa = some (off, x.1.frz)) (hx : x.1.isTop = false) (hk : x.1.known = true) (hc : cellsRep w I tk x.1 x.2 c) (hI : ¬ I b) :
    BoxRep (w.setCells b (q.off + off) c) I tk q z ∧ ∃ cs, Blk w b q.tid cs ∧ q.off + off + x.1.size ≤ cs.length :=
  box_setG hd hb hs hin hat hx hk hc hI (Wrote.cells b c (q.off + off) w) fun cs h1 h2 => h1.setCells (by rw [hc.length]; exact h2)

theorem plain_mentions : ∀ {t : Ty}, t.plain = true → mentions t = [] := by
  intro t
  induction t with
  | pair a b iha ihb => intro hp; simp only [Ty.plain, Bool.and_eq_true] at hp; simp [mentions, iha hp.1, ihb hp.2]
  | arr n t ih => intro hp; exact ih hp
  | _ => intro hp; first | rfl | cases hp
theorem plain_known : ∀ {t : Ty}, t.plain = true → t.known = true := by
  intro t
  induction t with
  | pair a b iha ihb => intro hp; simp only [Ty.plain, Bool.and_eq_true] at hp; simp [Ty.known, iha hp.1, ihb hp.2]
  | arr n t ih => intro hp; exact ih hp
  | _ => intro hp; first | rfl | cases hp
theorem plain_top {t : Ty} (h : t.plain = true) : t.isTop = false := by cases t <;> first | rfl | cases h

/-- A store into a box. -/
theorem setBox_sound (hV : View sv st) (h : Inv C st tm w I tk) {s : Nat} {t : Ty} {pa : Path} {v x : Value} {d : DV} {ps : List Pm} {T : TypeId} (hT : TyAt C.P T t) (hv : ptRep tk s t pa v) (hdr : valRep w I tk d.1 d.2 x) (hdt : d.1.isTop = false)
    (hs : setBoxP sv s t pa d = some ps) : ∃ w', (Instr.storeAt T v x).run C.P w = .ok () w' ∧ Inv C (runPs ps st) tm w' I tk := by
  unfold setBoxP at hs
  split at hs
  · rename_i b0 hb0
    cases hc : (decide (d.1.frz = t) && d.1.known) with
    | false => rw [hc] at hs; cases hs
    | true =>
      rw [hc] at hs
      simp only [cond_true] at hs
      simp only [Bool.and_eq_true, decide_eq_true_eq] at hc
      obtain ⟨hft, hk⟩ := hc
      obtain ⟨z, hz, rfl⟩ := Option.map_eq_some_iff.1 hs
      obtain ⟨k, b, off, h1, h2, h3, rfl⟩ := hv
      obtain ⟨q, h4, h5, rfl⟩ := Tk.at_some h2
      have hbst := hV.box s b0 hb0
      obtain ⟨k', h6, h7⟩ := h.boxes s b0 hbst
      rw [h1] at h6; cases h6
      have hc := hdr.cells hk
      have hnI := h.tokI s k b h1 h4
      obtain ⟨hnew, cs, hblk, hroom⟩ := box_set h7 h4 hz h3 (by rw [hft]; exact h5) hdt hk hc hnI
      obtain ⟨hst, _⟩ := storeVar_run (P := C.P) (T := T) (t := d.1) (by rw [hft]; exact hT) hk hdr hblk hroom
      refine ⟨w.setCells b (k.off + q) x.cells.toList, ?_, ?_⟩
      · simp only [Instr.storeAt, Instr.sureAddr, Sem.run_bind, Sem.run_pure, Result.andThen_ok, hst]
      · exact h.writeBox hbst h1 h4 (Wrote.cells _ _ _ _) hnew
  · cases hs

theorem Froze.pt {fs : List Pm} (hF : Froze C sv st tm w I tk fs I' tk') {s : Nat} {t : Ty} {pa : Path} {v : Value} (hv : ptRep tk s t pa v) (hs : s ∉ fs.flatMap Pm.fs) : ptRep tk' s t pa v := by
  obtain ⟨k, b, off, h1, h2⟩ := hv
  exact ⟨k, b, off, (hF.tok s hs).trans h1, h2⟩
theorem op_store {T : TypeId} {a x : Operand} (hE : EnvOK C.P E) (hV : View sv st) (h : Inv C st tm w I tk) (ho : o.op = .store T a x) (hf : opP E o sv = some (true, e)) :
    OpGood C o ds (e.run o.dst st) tm w := by
  have ha := ev_rep (ds := ds) hV h a
  have hx := ev_rep (ds := ds) hV h x
  simp only [opP, ho] at hf
  split at hf
  · rename_i hod
    split at hf
    · rename_i ps hs
      cases hc : tgtOK E T (ev sv a) with
      | false => rw [hc] at hf; cases hf
      | true =>
        rw [hc] at hf
        simp only [cond_true, Option.some.injEq, Prod.mk.injEq, true_and] at hf; subst hf
        have fin : ∀ {w' : World} {I' : Nat → Prop} {tk' : Toks}, (Instr.storeAt T (Act.eval ⟨tm, ds⟩ a) (Act.eval ⟨tm, ds⟩ x)).run C.P w = .ok () w' → Inv C (runPs ps st) tm w' I' tk' → OpGood C o ds (Ef.run o.dst ⟨ps, none⟩ st) tm w := by
          intro w' I' tk' hr hi
          refine ⟨undef, w', I', tk', .inr ⟨?_, rfl⟩, ?_⟩
          · simp only [execOp, ho]
            rw [Sem.run_bind, hr]; rfl
          · rw [hod]; exact hi
        unfold storeP at hs
        split at hs
        · rename_i s t pa ea
          rw [ea] at ha hc
          have hA := isT_at hE (t := t) hc
          split at hs
          · rename_i ps' h1
            cases hs
            obtain ⟨d, h2, h3⟩ := Option.bind_eq_some_iff.1 h1
            obtain ⟨g1, g2⟩ := singOf_sound hx h2
            obtain ⟨w', h4, h5⟩ := setBox_sound hV h hA ha g2 g1 h3
            exact fin h4 h5
          · split at hs
            · rename_i fs d hdf
              cases hn : (fs.flatMap Pm.fs).any (Nat.beq s) with
              | true => rw [hn] at hs; cases hs
              | false =>
              rw [hn] at hs
              simp only [cond_false] at hs
              obtain ⟨ps', h3, rfl⟩ := Option.map_eq_some_iff.1 hs
              obtain ⟨I', tk', hF, hp, hr⟩ := dataF_sound hV h hx hdf
              have hns : s ∉ fs.flatMap Pm.fs := fun hm => by
                have := List.any_eq_false.1 hn s hm
                simp at this
              obtain ⟨w', h4, h5⟩ := setBox_sound hF.view hF.inv hA (hF.pt ha hns) hr (plain_top hp) h3
              exact fin h4 (by rw [runPs_append]; exact h5 : Inv C (runPs (fs ++ ps') st) tm w' I' tk')
            · cases hs
        · cases hs
    · cases hf
  · cases hf
end Go.Own
