/- What is proved: more operations are sound. Conditions: those that each theorem names. -/
import Derived.Test.YtipheoipbjakfaaCoB
set_option linter.unusedVariables false
set_option linter.unusedSimpArgs false
/- Operations, one by one. -/
set_option linter.unusedVariables false
namespace Go.Own
variable {P : Program} {E : Env} {w0 w w' : World} {I0 I : Nat → Prop} {xs : List Nat} {st st' : St} {tm : Array Value} {tok : Tok} {ds : List Deferred} {o : Oper}

theorem setD_self (tm : Array Value) (i : Nat) : tm.setIfInBounds i (tm.getD i undef) = tm := by
  apply Array.ext_getElem?
  intro j
  by_cases h : i = j
  · subst h
    by_cases hi : i < tm.size
    · simp [hi]
    · simp [hi]
  · simp [Array.getElem?_setIfInBounds_ne h]

theorem put_notHome (st : St) (d : Nat) (v : SV) (h : (st.slot d).isHome = false) : st.put d v = { st with sl := st.sl.set d v } := by
  unfold St.put; rw [h]; rfl

/-- A tuple moves on. -/
theorem Inv.moveTup (h : Inv w0 I0 xs st tm w I tok) {i d : Nat} {l : List SV} (hi : st.slot i = .tup l) (hd : d < st.sl.length) :
    ∃ tok', Inv w0 I0 xs (({ st with sl := st.sl.set i .dead } : St).put d (.tup l)) (tm.setIfInBounds d (tm.getD i undef)) w I tok' := by
  have hil : i < st.sl.length := by
    rcases Nat.lt_or_ge i st.sl.length with hl | hl
    · exact hl
    · rw [slot_ge st i hl] at hi; cases hi
  have h1 := h.put_dead (v := tm.getD i undef) hil
  rw [setD_self, put_notHome st i _ (by rw [hi]; rfl)] at h1
  have hr := h.slots i hil
  rw [hi] at hr
  simp only [SRep] at hr
  obtain ⟨vs, e, hl, hc⟩ := hr
  let tok' : Tok := fun k => match k with
    | .tc a j => if a = d then tok (.tc i j) else tok.drop i (.tc a j)
    | .sl a => if a = d then none else tok.drop i (.sl a)
    | .box s => tok (.box s)
  have hdrop : ∀ k b, tok.drop i k = some b → tok k = some b ∧ ¬ k.at i := by
    intro k b hk
    by_cases hat : k.at i
    · rw [drop_at tok i k hat] at hk; cases hk
    · exact ⟨by rwa [drop_other tok i k hat] at hk, hat⟩
  refine ⟨tok', h1.put (by simpa using hd) ?_ ?_ ?_⟩
  · intro k hk
    cases k with
    | box s => rfl
    | sl a => simp only [Key.at] at hk; simp [tok', hk]
    | tc a j => simp only [Key.at] at hk; simp [tok', hk]
  · intro k b hk hb
    cases k with
    | box s => exact absurd hk (by simp [Key.at])
    | sl a => simp only [Key.at] at hk; simp [tok', hk] at hb
    | tc a j =>
      simp only [Key.at] at hk; subst hk
      simp only [tok', if_true] at hb
      refine ⟨h.tokLt _ b hb, h.tokI _ b hb, ?_, fun k' hk' => ?_⟩
      · rcases h.fresh _ b hb with h2 | h2
        · exact h2
        · obtain ⟨q, hq⟩ := List.getElem?_of_mem h2
          have := h.inj _ _ b hb (h.ext q b hq); cases this
      · cases k' with
        | box s => have := h.inj _ _ b hb (show tok (.box s) = some b from hk'); cases this
        | sl a' =>
          by_cases ha : a' = a
          · simp [tok', ha] at hk'
          · simp only [tok', ha, if_false] at hk'
            have := h.inj _ _ b hb (hdrop _ b hk').1; cases this
        | tc a' j' =>
          by_cases ha : a' = a
          · simp only [tok', ha, if_true] at hk'
            have := h.inj _ _ b hb hk'
            cases this; rw [ha]
          · simp only [tok', ha, if_false] at hk'
            obtain ⟨h3, h4⟩ := hdrop _ b hk'
            have := h.inj _ _ b hb h3
            cases this
            exact absurd rfl h4
  · simp only [SRep]
    refine ⟨vs, e, hl, fun j c x h2 h3 => ?_⟩
    have := hc j c x h2 h3
    cases c <;> simp only [compRep] at this ⊢ <;> first | exact this | skip
    simpa [tok'] using this

theorem op_move {x : Operand} (hE : EnvOK P E) (h : Inv w0 I0 xs st tm w I tok) (hd : ∀ d, o.dst = some d → d < st.sl.length) (ho : o.op = .move x) (hf : opF E o st = some (true, st')) :
    OpGood P o ds w0 I0 xs st' tm w := by
  have hv := ev_rep (ds := ds) h x
  have hr : (execOp (Act.eval ⟨tm, ds⟩) o).run P w = .ok (.value (Act.eval ⟨tm, ds⟩ x)) w := by simp [execOp, ho]
  simp only [opF, ho] at hf
  generalize hs : ev st x = s at hv hf
  cases s with
  | tup l =>
    simp only at hf
    cases hall : l.all SV.isP with
    | true =>
      rw [hall] at hf
      simp only [cond_true, Option.some.injEq, Prod.mk.injEq, true_and] at hf
      subst hf
      obtain ⟨i, vs, e, hl, hc⟩ := hv
      cases hod : o.dst with
      | none => exact ⟨_, w, I, tok, .inl hr, by rw [hod]; exact h⟩
      | some d =>
        refine ⟨_, w, I, tok.drop d, .inl hr, ?_⟩
        rw [hod]
        refine h.put (hd d hod) (drop_other tok d) (fun k b hk hb => by rw [drop_at tok d k hk] at hb; cases hb) ?_
        refine ⟨vs, e, hl, fun j c x h1 h2 => ?_⟩
        have h3 := hc j c x h1 h2
        have h4 := List.all_eq_true.1 hall c (List.mem_of_getElem? h1)
        cases c <;> simp only [SV.isP, Bool.false_eq_true] at h4
        exact h3
    | false =>
    rw [hall] at hf
    simp only [cond_false] at hf
    split at hf
    · rename_i i
      simp only [Option.some.injEq, Prod.mk.injEq, true_and] at hf
      subst hf
      have hi : st.slot i = .tup l := by
        simp only [ev] at hs; cases hq : st.slot i <;> rw [hq] at hs <;> simp_all
      cases hod : o.dst with
      | none =>
        have hil : i < st.sl.length := by
          rcases Nat.lt_or_ge i st.sl.length with hl | hl
          · exact hl
          · rw [slot_ge st i hl] at hi; cases hi
        have h1 := h.put_dead (v := tm.getD i undef) hil
        rw [setD_self, put_notHome st i _ (by rw [hi]; rfl)] at h1
        exact ⟨_, w, I, _, .inl hr, by rw [hod]; exact h1⟩
      | some d =>
        obtain ⟨tok', h1⟩ := h.moveTup hi (hd d hod)
        exact ⟨_, w, I, tok', .inl hr, by rw [hod]; exact h1⟩
    · cases hf
  | nil =>
    simp only [dataOf] at hf
    have e : Act.eval ⟨tm, ds⟩ x = .slice none 0 0 := hv
    split at hf
    · rename_i d hq
      split at hq
      · simp only [Option.some.injEq] at hq; subst hq
        simp only [Option.some.injEq, Prod.mk.injEq, true_and] at hf; subst hf
        refine OpGood.p h hd hr ?_
        rw [e]
        simp only [valRep, Ty.isAgg, Bool.false_eq_true, if_false]
        exact ⟨none, 0, rfl, Nat.le_refl _, .inl rfl⟩
      · cases hq
    · cases hf
  | nilp =>
    simp only [dataOf] at hf
    have e : Act.eval ⟨tm, ds⟩ x = .pointer none := hv
    split at hf
    · rename_i d hq
      split at hq
      · simp only [Option.some.injEq] at hq; subst hq
        simp only [Option.some.injEq, Prod.mk.injEq, true_and] at hf; subst hf
        refine OpGood.p h hd hr ?_
        rw [e]
        simp [valRep, Ty.isAgg, cellsRep]
      · cases hq
    · cases hf
  | own t nl l => exact absurd hv (by simp [ORep])
  | _ =>
    obtain ⟨i, hv⟩ := hv
    exact (OpGood.s h hd hr hv (by intros; simp) (by intros; simp) hf).2

theorem ORep.bool {b : Bool} {v : Value} (h : ORep w I tok st tm (.p ⟨.bool, b⟩) v) : v = .bool b := valRep_bool.1 h.p

theorem boolOf_eq {v : SV} {b : Bool} (h : boolOf v = some b) : v = .p ⟨.bool, b⟩ := by
  unfold boolOf at h
  split at h
  · cases h; rfl
  · cases h

theorem op_pick {c a b : Operand} (hE : EnvOK P E) (h : Inv w0 I0 xs st tm w I tok) (hd : ∀ d, o.dst = some d → d < st.sl.length) (ho : o.op = .pick c a b) (hf : opF E o st = some (true, st')) :
    OpGood P o ds w0 I0 xs st' tm w := by
  have hc := ev_rep (ds := ds) h c
  have ha := ev_rep (ds := ds) h a
  have hb := ev_rep (ds := ds) h b
  simp only [opF, ho] at hf
  split at hf
  · rename_i q d hp
    simp only [Option.some.injEq, Prod.mk.injEq] at hf; obtain ⟨rfl, rfl⟩ := hf
    unfold pickS at hp
    split at hp
    · rename_i c' x y e1 e2 e3
      rw [boolOf_eq e1] at hc; rw [boolOf_eq e2] at ha; rw [boolOf_eq e3] at hb
      simp only [Option.some.injEq, Prod.mk.injEq, true_and] at hp; subst hp
      refine OpGood.p (v := .bool (bif c' then x else y)) h hd ?_ (valRep_bool.2 rfl)
      simp only [execOp, ho, hc.bool, asBool, Sem.run_bind, Sem.run_pure, Result.andThen_ok, ha.bool, hb.bool]
      cases c' <;> rfl
    · rename_i c' x e1 e2 _
      rw [boolOf_eq e1] at hc; rw [boolOf_eq e2] at ha
      simp only [Option.some.injEq, Prod.mk.injEq] at hp; obtain ⟨rfl, rfl⟩ := hp
      refine OpGood.p (v := .bool x) h hd ?_ (valRep_bool.2 rfl)
      simp only [execOp, ho, hc.bool, asBool, Sem.run_bind, Sem.run_pure, Result.andThen_ok, ha.bool, if_true]
    · rename_i c' y e1 _ e3
      rw [boolOf_eq e1] at hc; rw [boolOf_eq e3] at hb
      simp only [Option.some.injEq, Prod.mk.injEq, Bool.not_eq_true'] at hp; obtain ⟨rfl, rfl⟩ := hp
      refine OpGood.p (v := .bool y) h hd ?_ (valRep_bool.2 rfl)
      simp only [execOp, ho, hc.bool, asBool, Sem.run_bind, Sem.run_pure, Result.andThen_ok, hb.bool, Bool.false_eq_true, if_false]
    · cases hp
  · cases hf

theorem op_binOp {op : BinOp} {T T' : TypeId} {x y : Operand} (hE : EnvOK P E) (h : Inv w0 I0 xs st tm w I tok) (hd : ∀ d, o.dst = some d → d < st.sl.length) (ho : o.op = .binOp op T x y T') (hf : opF E o st = some (true, st')) :
    OpGood P o ds w0 I0 xs st' tm w := by
  have hx := ev_rep (ds := ds) h x
  have hy := ev_rep (ds := ds) h y
  simp only [opF, ho] at hf
  split at hf
  · rename_i c d hb
    simp only [Option.some.injEq, Prod.mk.injEq] at hf; obtain ⟨rfl, rfl⟩ := hf
    obtain ⟨v, hv, hr⟩ := binop_sound (P := P) hE h x y hx hy hb
    refine OpGood.p h hd ?_ hr
    simp only [execOp, ho]
    rw [Sem.run_bind, hv]; rfl
  · cases hf

theorem op_unOp {op : UnOp} {T : TypeId} {x : Operand} (hE : EnvOK P E) (h : Inv w0 I0 xs st tm w I tok) (hd : ∀ d, o.dst = some d → d < st.sl.length) (ho : o.op = .unOp op T x) (hf : opF E o st = some (true, st')) :
    OpGood P o ds w0 I0 xs st' tm w := by
  have hx := ev_rep (ds := ds) h x
  simp only [opF, ho] at hf
  split at hf
  · rename_i d hu
    simp only [Option.some.injEq, Prod.mk.injEq, true_and] at hf; subst hf
    unfold unop at hu
    split at hu
    · rename_i k n e
      rw [e] at hx
      have e1 := valRep_int.1 hx.p
      split at hu
      · simp only [Option.some.injEq] at hu; subst hu
        refine OpGood.p (v := .int k (k.wrap (0 - n))) h hd ?_ (valRep_int.2 rfl)
        simp only [execOp, ho, e1, Op.unary, Op.intArith, Sem.run_bind, Sem.run_pure, Result.andThen_ok]
      · simp only [Option.some.injEq] at hu; subst hu
        refine OpGood.p (v := .int k (ibits k (· ^^^ ·) (if k.signed then -1 else k.max) n)) h hd ?_ (valRep_int.2 rfl)
        simp only [execOp, ho, e1, Op.unary, Op.intBits, Sem.run_bind, Sem.run_pure, Result.andThen_ok, ibits]
      · cases hu
    · rename_i b e
      rw [e] at hx
      have e1 := valRep_bool.1 hx.p
      split at hu
      · simp only [Option.some.injEq] at hu; subst hu
        refine OpGood.p (v := .bool (!b)) h hd ?_ (valRep_bool.2 rfl)
        simp only [execOp, ho, e1, Op.unary, Sem.run_bind, Sem.run_pure, Result.andThen_ok]
      · cases hu
    · cases hu
  · cases hf

theorem zero_run {T : TypeId} {t : Ty} (h : TyAt P T t) (w : World) : ∃ z, (zeroValue T).run P w = .ok z w ∧ z.cells.toList = t.zcells := by
  obtain ⟨i, z, hi, hz, hc⟩ := h.base.zero
  exact ⟨z, by simp [zeroValue, typeInfo, hi, hz], hc⟩

theorem site_ne {n d j : Nat} (hn : n ≤ 1000000) (hd : d < n) : d ≠ site j := by unfold site; omega

/-- A new box, and the pointer to it. -/
theorem Inv.newVar (h : Inv w0 I0 xs st tm w I tok) {d : Nat} (hd : d < st.sl.length) {x : DV} {c : Array Value} {T : TypeId} (hc : cellsRep w I x.1 x.2 c.toList) :
    ∃ tok', Inv w0 I0 xs ((({ st with sl := st.sl.map (SV.offB d) } : St).setBox d x).put d (.pb d x.1 [])) (tm.setIfInBounds d (.pointer (some ⟨w.heap.size, 0, none⟩))) (w.alloc (.cells c T)) I tok' := by
  have h1 := h.offBox d
  have h2 := h1.newBox (s := d) (fun j => site_ne h.small hd) (fun i _ => by rw [slot_map st _ rfl]; exact offB_no d _) hc (T := T)
  refine ⟨_, h2.put (by show d < (st.sl.map _).length; simpa using hd) (drop_other _ d) (fun k b hk hb => by rw [drop_at _ d k hk] at hb; cases hb) ?_⟩
  simp only [SRep, capRep]
  refine ⟨w.heap.size, 0, x, by simp [Tok.drop, Tok.withBox], ?_, by cases x.1 <;> rfl, by cases x.1 <;> trivial, rfl⟩
  have := box_setBox { st with sl := st.sl.map (SV.offB d) } d d x
  simpa [St.box, put_bx] using this

theorem op_alloc {T : TypeId} (hE : EnvOK P E) (h : Inv w0 I0 xs st tm w I tok) (hd : ∀ d, o.dst = some d → d < st.sl.length) (ho : o.op = .alloc T) (hf : opF E o st = some (true, st')) :
    OpGood P o ds w0 I0 xs st' tm w := by
  simp only [opF, ho] at hf
  split at hf
  · rename_i t d hT hod
    simp only [Option.some.injEq, Prod.mk.injEq, true_and] at hf; subst hf
    obtain ⟨z, hz, hc⟩ := zero_run (hE.ty T t hT) w
    have hzr := zcells_rep w I t
    rw [← hc] at hzr
    obtain ⟨tok', h1⟩ := h.newVar (hd d hod) (x := ⟨t, t.dflt⟩) (T := T) hzr
    refine ⟨.pointer (some ⟨w.heap.size, 0, none⟩), w.alloc (.cells z.cells T), I, tok', .inl ?_, by rw [hod]; exact h1⟩
    simp only [execOp, ho, Instr.alloc, Sem.run_bind, hz, Result.andThen_ok]
    rfl
  · cases hf
end Go.Own

/- Operations, one by one: memory. -/
set_option linter.unusedVariables false
namespace Go.Own
variable {P : Program} {E : Env} {w0 w w' : World} {I0 I : Nat → Prop} {xs : List Nat} {st st' : St} {tm : Array Value} {tok : Tok} {ds : List Deferred} {o : Oper}

theorem isT_eq {T : TypeId} {t : Ty} (h : E.isT T t = true) : E.T T = some t := by simpa [Env.isT] using h

theorem cellsAt_seg {b : Nat} {cs : List Value} (h : Blk w b cs) (off n : Nat) : cellsAt w b off ((cs.drop off).take n) := by
  intro j v hj
  rw [seg_get] at hj
  split at hj
  · rw [h.cell]; exact hj
  · cases hj

/-- What a pointer into a box points to. -/
theorem pb_load (h : Inv w0 I0 xs st tm w I tok) {s : Nat} {t : Ty} {pa : Path} {v : Value} {d : DV} (hv : ORep w I tok st tm (.pb s t pa) v) (hl : loadS st (.pb s t pa) = some d) {T : TypeId} (hT : TyAt P T d.1) :
    ∃ u, (Instr.loadAt T v).run P w = .ok u w ∧ valRep w I d.1 d.2 u := by
  obtain ⟨i, hv⟩ := hv
  obtain ⟨b, off, d0, h1, h2, h3, h4, rfl⟩ := hv
  simp only [loadS, h2] at hl
  obtain ⟨b', hb', cs, hblk, hc⟩ := h.boxes s d0 h2
  rw [h1] at hb'; cases hb'
  obtain ⟨off', h5, h6, h7⟩ := getP_cells hc (u := d.1) (y := d.2) hl h4
  rw [h3] at h5; simp only [Option.some.injEq, Prod.mk.injEq] at h5
  obtain ⟨u, hu, hr⟩ := loadVar_run hT h6 (cellsAt_seg hblk off' d.1.size)
  rw [← h5.1] at hu
  exact ⟨u, by simp only [Instr.loadAt, Instr.sureAddr, Sem.run_bind, Sem.run_pure, Result.andThen_ok, hu], hr⟩

theorem ref_load {t : Ty} {x : t.den} {v : Value} (hv : ORep w I tok st tm (.p ⟨.ref t, some x⟩) v) {T : TypeId} (hT : TyAt P T t) :
    ∃ u, (Instr.loadAt T v).run P w = .ok u w ∧ valRep w I t x u := by
  have h := hv.p
  simp only [valRep, Ty.isAgg, Bool.false_eq_true, if_false, cellsRep] at h
  obtain ⟨b, off, c, e, _, hc, ha⟩ := h
  simp only [List.cons.injEq, and_true] at e
  subst e
  obtain ⟨u, hu, hr⟩ := loadVar_run hT hc ha
  exact ⟨u, by simp only [Instr.loadAt, Instr.sureAddr, Sem.run_bind, Sem.run_pure, Result.andThen_ok, hu], hr⟩

/-- What a pointer into an own slice points to. -/
theorem pe_load (h : Inv w0 I0 xs st tm w I tok) {g k : Nat} {t0 t : Ty} {pa : Path} {v : Value} {d : DV} (hv : ORep w I tok st tm (.pe g t0 k t pa) v) (hl : loadS st (.pe g t0 k t pa) = some d) {T : TypeId} (hT : TyAt P T d.1) :
    ∃ u, (Instr.loadAt T v).run P w = .ok u w ∧ valRep w I d.1 d.2 u := by
  obtain ⟨i, hv⟩ := hv
  obtain ⟨⟨nl, l, hs, hk⟩, b, o, len, cap, off, h1, h2, h3, h4, rfl⟩ := hv
  simp only [loadS, hs] at hl
  have hg := h.slots g (home_lt st g (by rw [hs]; rfl))
  rw [hs] at hg
  obtain ⟨ad, cap', e, _, _, htk⟩ := hg
  rw [h2] at e
  simp only [Value.slice.injEq] at e
  obtain ⟨e1, e2, e3⟩ := e
  rcases htk with ⟨h5, _⟩ | ⟨b', o', h5, h6, cs, hblk, _, hel⟩
  · rw [h1] at h5; cases h5
  · rw [h1] at h5; cases h5
    rw [← e1] at h6; cases h6
    have hki : l[k]? = some (l.getD k t0.dflt) := by rw [List.getD_eq_getElem?_getD, List.getElem?_eq_getElem hk]; rfl
    obtain ⟨c, hc, hcv⟩ := hel k _ hki
    obtain ⟨off', h7, h8, h9⟩ := getP_cells hc (u := d.1) (y := d.2) hl h4
    rw [h3] at h7; simp only [Option.some.injEq, Prod.mk.injEq] at h7
    have hat : cellsAt w b (o + k * t0.size + off') ((c.drop off').take d.1.size) := by
      intro j v hj
      rw [seg_get] at hj
      split at hj
      · have := hcv _ _ hj
        rw [hblk.cell, ← this]; congr 1; omega
      · cases hj
    obtain ⟨u, hu, hr⟩ := loadVar_run hT h8 hat
    rw [← h7.1] at hu
    exact ⟨u, by simp only [Instr.loadAt, Instr.sureAddr, Sem.run_bind, Sem.run_pure, Result.andThen_ok, hu], hr⟩

theorem op_load {T : TypeId} {x : Operand} (hE : EnvOK P E) (h : Inv w0 I0 xs st tm w I tok) (hd : ∀ d, o.dst = some d → d < st.sl.length) (ho : o.op = .load T x) (hf : opF E o st = some (true, st')) :
    OpGood P o ds w0 I0 xs st' tm w := by
  have hx := ev_rep (ds := ds) h x
  simp only [opF, ho] at hf
  split at hf
  · rename_i d hl
    cases hT : E.isT T d.1 with
    | false => rw [hT] at hf; cases hf
    | true =>
      rw [hT] at hf
      simp only [cond_true, Option.some.injEq, Prod.mk.injEq, true_and] at hf; subst hf
      have hA := hE.ty T _ (isT_eq hT)
      have key : ∃ u, (Instr.loadAt T (Act.eval ⟨tm, ds⟩ x)).run P w = .ok u w ∧ valRep w I d.1 d.2 u := by
        generalize ev st x = s at hx hl
        cases s with
        | pb s t pa => exact pb_load h hx hl hA
        | pe g t0 k t pa => exact pe_load h hx hl hA
        | p e =>
          obtain ⟨t, r⟩ := e
          cases t with
          | ref t =>
            cases r with
            | none => cases hl
            | some y => have hl' : some (⟨t, y⟩ : DV) = some d := hl
                        cases hl'; exact ref_load hx hA
          | _ => cases hl
        | _ => cases hl
      obtain ⟨u, hu, hr⟩ := key
      refine OpGood.p h hd ?_ hr
      simp only [execOp, ho]
      rw [Sem.run_bind, hu]; rfl
  · cases hf

theorem dataOf_p {T : TypeId} {d : DV} : dataOf E st T (.p d) = some d := rfl

/-- Data of an operand, behind its freezing. -/
theorem data_rep (h : Inv w0 I0 xs st tm w I tok) (hE : EnvOK P E) {T : TypeId} {s : SV} {v : Value} {d : DV} (hv : ORep w I tok st tm s v) (hd : dataOf E st T s = some d) :
    ∃ I' tok', Inv w0 I0 xs (st.freezeAll [s]) tm w I' tok' ∧ (∀ b, I b → I' b) ∧ (∀ r, tok' (.box r) = tok (.box r)) ∧ valRep w I' d.1 d.2 v ∧
      (∀ q t nl l, (st.freezeAll [s]).slot q = .own t nl l → tok' (.sl q) = tok (.sl q) ∧ st.slot q = .own t nl l) := by
  have hnone : homes [s] = [] → valRep w I d.1 d.2 v → ∃ I' tok', Inv w0 I0 xs (st.freezeAll [s]) tm w I' tok' ∧ (∀ b, I b → I' b) ∧ (∀ r, tok' (.box r) = tok (.box r)) ∧ valRep w I' d.1 d.2 v ∧
      (∀ q t nl l, (st.freezeAll [s]).slot q = .own t nl l → tok' (.sl q) = tok (.sl q) ∧ st.slot q = .own t nl l) := by
    intro he hr
    have he' : st.freezeAll [s] = st := by unfold St.freezeAll; rw [he]; rfl
    rw [he']
    exact ⟨I, tok, h, fun _ hb => hb, fun _ => rfl, hr, fun q t nl l e => ⟨rfl, e⟩⟩
  have fromHome : ∀ g, (st.slot g).isHome = true → ∃ I' tok', Inv w0 I0 xs (st.freeze g) tm w I' tok' ∧ (∀ b, I b → I' b) ∧ (∀ r, tok' (.box r) = tok (.box r)) ∧ (∀ q t nl l, (st.freeze g).slot q = .own t nl l → tok' (.sl q) = tok (.sl q) ∧ st.slot q = .own t nl l) ∧
      (∀ t nl l, st.slot g = .own t nl l → valRep w I' (.sl t) l (tm.getD g undef)) ∧ (∀ t l, st.slot g = .p ⟨.sl t, l⟩ → valRep w I' (.sl t) l (tm.getD g undef)) := by
    intro g hg
    obtain ⟨I', tok', h1, h2, h3, h3'⟩ := h.freeze g
    have hgl := home_lt st g hg
    refine ⟨I', tok', h1, h2, h3, h3', fun t nl l e => ?_, fun t l e => ?_⟩
    · have hs := h1.slots g (by unfold St.freeze; rw [e]; simpa using hgl)
      have : (st.freeze g).slot g = .p ⟨.sl t, l⟩ := by
        unfold St.freeze; rw [e]
        have := slot_set { st with sl := st.sl.map (SV.offE g) } g g (.p ⟨.sl t, l⟩) (by simpa using hgl)
        simpa using this
      rw [this] at hs
      simpa only [SRep] using hs
    · have hs := h.slots g hgl
      rw [e] at hs
      exact (show valRep w I (.sl t) l (tm.getD g undef) from by simpa only [SRep] using hs).mono h2 (fun _ _ => rfl)
  cases s with
  | p e => simp only [dataOf, Option.some.injEq] at hd; subst hd; exact hnone rfl hv.p
  | nil =>
    simp only [dataOf] at hd
    split at hd
    · simp only [Option.some.injEq] at hd; subst hd
      refine hnone rfl ?_
      have e : v = .slice none 0 0 := hv
      rw [e]
      simp only [valRep, Ty.isAgg, Bool.false_eq_true, if_false]
      exact ⟨none, 0, rfl, Nat.le_refl _, .inl rfl⟩
    · cases hd
  | nilp =>
    simp only [dataOf] at hd
    split at hd
    · simp only [Option.some.injEq] at hd; subst hd
      refine hnone rfl ?_
      have e : v = .pointer none := hv
      rw [e]
      simp [valRep, Ty.isAgg, cellsRep]
    · cases hd
  | rf g =>
    obtain ⟨hh, rfl⟩ := hv.rf_eq
    obtain ⟨I', tok', h1, h2, h3, h3', h4, h5⟩ := fromHome g hh
    refine ⟨I', tok', h1, h2, h3, ?_, h3'⟩
    simp only [dataOf, seqOf] at hd
    split at hd
    · rename_i t nl l e
      simp only [Option.map_some, Option.some.injEq] at hd; subst hd
      exact h4 t nl l e
    · rename_i t l e
      simp only [Option.map_some, Option.some.injEq] at hd; subst hd
      exact h5 t l e
    · simp at hd
  | rs g t lo n =>
    obtain ⟨i, hv⟩ := hv
    obtain ⟨hh, hb1, hb2, ad, len, cap, ad', e1, rfl, had, hadn⟩ := hv
    obtain ⟨I', tok', h1, h2, h3, h3', h4, h5⟩ := fromHome g hh
    refine ⟨I', tok', h1, h2, h3, ?_, h3'⟩
    have sub : ∀ (l : List t.den), valRep w I' (.sl t) l (tm.getD g undef) → lo + n ≤ l.length → valRep w I' (.sl t) ((l.drop lo).take n) (.slice ad' n (cap - lo)) := by
      intro l hr hln
      rw [e1] at hr
      simp only [valRep, Ty.isAgg, Bool.false_eq_true, if_false, cellsRep, List.cons.injEq, Value.slice.injEq, and_true] at hr
      obtain ⟨ad2, cap', ⟨rfl, rfl, rfl⟩, hcap, hr⟩ := hr
      simp only [valRep, Ty.isAgg, Bool.false_eq_true, if_false]
      have hlen : ((l.drop lo).take n).length = n := by simp; omega
      refine ⟨_, _, by rw [hlen], by rw [hlen]; omega, ?_⟩
      rcases hr with rfl | ⟨b, o, rfl, hI, hel⟩
      · left; simp
      · by_cases hn0 : n = 0
        · left; subst hn0; simp
        · right
          · rw [had (by omega)]
            refine ⟨b, o + lo * t.size, by simp [addr_add], hI, fun i x hx => ?_⟩
            rw [List.getElem?_take] at hx
            split at hx
            · rw [List.getElem?_drop] at hx
              obtain ⟨c, hc1, hc2⟩ := hel _ _ hx
              refine ⟨c, hc1, ?_⟩
              have : o + lo * t.size + i * t.size = o + (lo + i) * t.size := by rw [Nat.add_mul]; omega
              rw [this]; exact hc2
            · cases hx
    simp only [dataOf, seqOf] at hd
    split at hd
    · rename_i u nl l e
      obtain ⟨rfl, hln⟩ := hb1 u nl l e
      simp only [Option.map_some, Option.some.injEq] at hd; subst hd
      exact sub l (h4 u nl l e) hln
    · rename_i u l e
      obtain ⟨rfl, hln⟩ := hb2 u l e
      simp only [Option.map_some, Option.some.injEq] at hd; subst hd
      exact sub l (h5 u l e) hln
    · simp at hd
  | own t nl l => exact absurd hv (by simp [ORep])
  | pb s t pa => simp [dataOf, seqOf] at hd
  | pe g t0 k t pa => simp [dataOf, seqOf] at hd
  | clo f caps => simp [dataOf, seqOf] at hd
  | tup l => simp [dataOf, seqOf] at hd
  | dead => simp [dataOf, seqOf] at hd
  | und => simp [dataOf, seqOf] at hd
end Go.Own

/- Operations, one by one: boxes, stores, places. -/
set_option linter.unusedVariables false
namespace Go.Own
variable {P : Program} {E : Env} {w0 w w' : World} {I0 I : Nat → Prop} {xs : List Nat} {st st' : St} {tm : Array Value} {tok : Tok} {ds : List Deferred} {o : Oper}

theorem freeze_len (st : St) (g : Nat) : (st.freeze g).sl.length = st.sl.length := by
  unfold St.freeze; split <;> simp
theorem freezeAll_len (st : St) (vs : List SV) : (st.freezeAll vs).sl.length = st.sl.length := by
  unfold St.freezeAll
  generalize homes vs = l
  induction l generalizing st with
  | nil => rfl
  | cons g l ih => simp only [List.foldl_cons]; rw [ih, freeze_len]
theorem freeze_bx (st : St) (g : Nat) : (st.freeze g).bx = st.bx := by
  unfold St.freeze; split <;> rfl
theorem freezeAll_bx (st : St) (vs : List SV) : (st.freezeAll vs).bx = st.bx := by
  unfold St.freezeAll
  generalize homes vs = l
  induction l generalizing st with
  | nil => rfl
  | cons g l ih => simp only [List.foldl_cons]; rw [ih, freeze_bx]

theorem op_box {T : TypeId} {x : Operand} (hE : EnvOK P E) (h : Inv w0 I0 xs st tm w I tok) (hd : ∀ d, o.dst = some d → d < st.sl.length) (ho : o.op = .box T x) (hf : opF E o st = some (true, st')) :
    OpGood P o ds w0 I0 xs st' tm w := by
  have hx := ev_rep (ds := ds) h x
  simp only [opF, ho] at hf
  split at hf
  · rename_i v d t hv hod hT
    split at hf
    · rename_i hvt
      simp only [Option.some.injEq, Prod.mk.injEq, true_and] at hf; subst hf
      obtain ⟨I', tok', h1, h2, h3, h4, _⟩ := data_rep h hE hx hv
      subst hvt
      obtain ⟨tok2, h5⟩ := h1.newVar (d := d) (by rw [freezeAll_len]; exact hd d hod) (x := v) (T := T) h4.cells
      refine ⟨.pointer (some ⟨w.heap.size, 0, none⟩), w.alloc (.cells (Act.eval ⟨tm, ds⟩ x).cells T), I', tok2, .inl ?_, by rw [hod]; exact h5⟩
      simp only [execOp, ho, Instr.box, Sem.run_bind]
      rfl
    · cases hf
  · cases hf

theorem valRep.agg {t : Ty} {x : t.den} {v : Value} (h : valRep w I t x v) (ha : t.isAgg = true) : ∃ cs : Array Value, v = .agg cs ∧ cellsRep w I t x cs.toList := by
  unfold valRep at h
  simpa [ha] using h

theorem op_field {T : TypeId} {x : Operand} {f : Nat} (hE : EnvOK P E) (h : Inv w0 I0 xs st tm w I tok) (hd : ∀ d, o.dst = some d → d < st.sl.length) (ho : o.op = .field T x f) (hf : opF E o st = some (true, st')) :
    OpGood P o ds w0 I0 xs st' tm w := by
  have hx := ev_rep (ds := ds) h x
  simp only [opF, ho] at hf
  split at hf
  · rename_i d e
    rw [e] at hx
    split at hf
    · rename_i r hg
      cases hT : E.isT T d.1 with
      | false => rw [hT] at hf; cases hf
      | true =>
        rw [hT] at hf
        simp only [cond_true, Option.some.injEq, Prod.mk.injEq, true_and] at hf; subst hf
        have hA := hE.ty T _ (isT_eq hT)
        have hty := getP_tyAt hg
        obtain ⟨fs, fl, off, hu, hfl, hp, hoff, hA2⟩ := struct_fields hA hty
        have hin := fieldPath_in hty
        have hagg : d.1.isAgg = true := by
          obtain ⟨t, y⟩ := d
          cases t <;> cases f <;> simp [fieldPath, tyAt] at hty ⊢ <;> rfl
        obtain ⟨cs, e1, hc⟩ := hx.p.agg hagg
        obtain ⟨off', h5, h6, h7⟩ := getP_cells hc (u := r.1) (y := r.2) hg hin
        rw [hp] at h5; simp only [Option.some.injEq, Prod.mk.injEq] at h5
        obtain ⟨v, hv, hr⟩ := part_run hA2 cs off' r.2 w h6
        refine OpGood.p h hd ?_ hr
        have hfl' : fs[f]? = some fl := by simpa using hfl
        simp only [execOp, ho, Instr.field, Sem.run_bind, run_underlying hu, Result.andThen_ok, hfl', e1, asAgg, Sem.run_pure]
        rw [hoff, h5.1, hv]; rfl
    · cases hf
  · cases hf

theorem idx_lt {i : Int} {n : Nat} (h0 : 0 ≤ i) (h1 : i < n) : i.toNat < n := by omega
theorem str_get (s : ByteArray) (i : Nat) (h : i < s.size) : s[i]? = some (s.data.getD i 0) := by
  rw [getElem?_pos s i h]
  have h' : i < s.data.size := h
  simp only [Array.getD, h', dite_true]
  rfl

theorem op_index {T : TypeId} {x i : Operand} (hE : EnvOK P E) (h : Inv w0 I0 xs st tm w I tok) (hd : ∀ d, o.dst = some d → d < st.sl.length) (ho : o.op = .index T x i) (hf : opF E o st = some (true, st')) :
    OpGood P o ds w0 I0 xs st' tm w := by
  have hx := ev_rep (ds := ds) h x
  have hi := ev_rep (ds := ds) h i
  simp only [opF, ho] at hf
  split at hf
  · rename_i s k n e1 e2
    rw [e1] at hx; rw [e2] at hi
    have hx' := valRep_str.1 hx.p
    have hi' := valRep_int.1 hi.p
    cases hT : E.isT T .str with
    | false => rw [hT] at hf; cases hf
    | true =>
      rw [hT] at hf
      simp only [cond_true, Option.some.injEq, Prod.mk.injEq, Bool.and_eq_true, decide_eq_true_eq] at hf
      obtain ⟨⟨h0, h1⟩, rfl⟩ := hf
      have hA := hE.ty T _ (isT_eq hT)
      have hlt : (n : Int).toNat < s.size := idx_lt h0 h1
      refine OpGood.p (v := .int .u8 ((s.data.getD (n : Int).toNat 0).toNat : Int)) h hd ?_ (valRep_int.2 rfl)
      have hget := str_get s _ hlt
      simp only [execOp, ho, hx', hi', Instr.index, asIntOf, Sem.run_bind, Sem.run_pure, Result.andThen_ok, run_underlying hA.2]
      rw [if_pos h0, hget]; rfl
  · rename_i m t l k n e1 e2
    rw [e1] at hx; rw [e2] at hi
    have hi' := valRep_int.1 hi.p
    cases hT : E.isT T (.arr m t) with
    | false => rw [hT] at hf; cases hf
    | true =>
      rw [hT] at hf
      simp only [cond_true, Option.some.injEq, Prod.mk.injEq, Bool.and_eq_true, decide_eq_true_eq] at hf
      obtain ⟨⟨h0, h1⟩, rfl⟩ := hf
      obtain ⟨_, e, hu, hA0⟩ := hE.ty T _ (isT_eq hT)
      have hA : TyAt P e t := hA0
      obtain ⟨cs, e3, hl, hcl, hc⟩ := hx.p.agg rfl
      have hli : l[(n : Int).toNat]? = some (List.getD l (n : Int).toNat t.dflt) := by
        have : (n : Int).toNat < l.length := by rw [hl]; exact idx_lt h0 h1
        rw [List.getD_eq_getElem?_getD, List.getElem?_eq_getElem this]; rfl
      obtain ⟨v, hv, hr⟩ := part_run hA cs ((n : Int).toNat * t.size) _ w (hc _ _ hli)
      refine OpGood.p h hd ?_ hr
      simp only [execOp, ho, e3, hi', Instr.index, asIntOf, Sem.run_bind, Sem.run_pure, Result.andThen_ok, run_underlying hu]
      rw [if_pos ⟨h0, h1⟩, Sem.run_bind, hA.sizeOf w]
      simp only [Result.andThen_ok]
      rw [hv]; rfl
  · cases hf

theorem op_nilCheck {x : Operand} (hE : EnvOK P E) (h : Inv w0 I0 xs st tm w I tok) (hd : ∀ d, o.dst = some d → d < st.sl.length) (ho : o.op = .nilCheck x) (hf : opF E o st = some (true, st')) :
    OpGood P o ds w0 I0 xs st' tm w := by
  have hx := ev_rep (ds := ds) h x
  simp only [opF, ho] at hf
  have hc : ∀ {s : SV} {b : Bool}, s.hang = none → (st.putO o.dst s = st' ↔ St.putC st o.dst true s = some (true, st')) := by
    intro s b hs
    unfold St.putC; rw [hs]
    simp
  split at hf
  · rename_i s t pa e
    rw [e] at hx
    obtain ⟨i, hx⟩ := hx
    have hx0 := hx
    obtain ⟨b, off, d, _, _, _, _, e1⟩ := hx
    simp only [Option.some.injEq, Prod.mk.injEq, true_and] at hf
    refine (OpGood.s h hd ?_ hx0 (by intros; simp) (by intros; simp) ((hc (b := true) rfl).1 hf)).2
    simp [execOp, ho, e1]
  · rename_i g t0 k t pa e
    rw [e] at hx
    obtain ⟨i, hx⟩ := hx
    have hx0 := hx
    obtain ⟨_, b, oo, len, cap, off, _, _, _, _, e1⟩ := hx
    refine (OpGood.s h hd ?_ hx0 (by intros; simp) (by intros; simp) hf).2
    simp [execOp, ho, e1]
  · rename_i f caps e
    rw [e] at hx
    obtain ⟨i, hx⟩ := hx
    have hx0 := hx
    obtain ⟨vs, e1, _⟩ := hx
    simp only [Option.some.injEq, Prod.mk.injEq, true_and] at hf
    refine (OpGood.s h hd ?_ hx0 (by intros; simp) (by intros; simp) ((hc (b := true) rfl).1 hf)).2
    simp [execOp, ho, e1]
  · rename_i t y e
    rw [e] at hx
    have hr := hx.p
    simp only [Option.some.injEq, Prod.mk.injEq, true_and] at hf; subst hf
    have hr0 := hr
    simp only [valRep, Ty.isAgg, Bool.false_eq_true, if_false, cellsRep] at hr
    obtain ⟨b, off, c, e1, _⟩ := hr
    simp only [List.cons.injEq, and_true] at e1
    refine OpGood.p h hd ?_ hr0
    simp [execOp, ho, e1]
  · cases hf

theorem op_extract {i j : Nat} (hE : EnvOK P E) (h : Inv w0 I0 xs st tm w I tok) (hd : ∀ d, o.dst = some d → d < st.sl.length) (ho : o.op = .extract (.tmp i) j) (hf : opF E o st = some (true, st')) :
    OpGood P o ds w0 I0 xs st' tm w := by
  simp only [opF, ho] at hf
  split at hf
  · rename_i l hl
    have hil : i < st.sl.length := by
      rcases Nat.lt_or_ge i st.sl.length with hq | hq
      · exact hq
      · rw [slot_ge st i hq] at hl; cases hl
    have hr := h.slots i hil
    rw [hl] at hr
    obtain ⟨vs, e, hlen, hc⟩ := hr
    have hrun : ∀ v, vs[j]? = some v → (execOp (Act.eval ⟨tm, ds⟩) o).run P w = .ok (.value v) w := by
      intro v hv
      have e' : Act.eval ⟨tm, ds⟩ (.tmp i) = .tuple vs := e
      simp only [execOp, ho, e', Instr.extract, hv, Sem.run_bind, Sem.run_pure, Result.andThen_ok]
    split at hf
    · rename_i d hj
      simp only [Option.some.injEq, Prod.mk.injEq, true_and] at hf; subst hf
      have hjl : j < vs.size := by
        have := (List.getElem?_eq_some_iff.1 hj).1; omega
      have hv : vs[j]? = some vs[j] := by simp [hjl]
      exact OpGood.p h hd (hrun _ hv) (hc j _ _ hj hv)
    · rename_i t nl s hj
      simp only [Option.some.injEq, Prod.mk.injEq, true_and] at hf; subst hf
      have hjl : j < vs.size := by
        have := (List.getElem?_eq_some_iff.1 hj).1; omega
      have hv : vs[j]? = some vs[j] := by simp [hjl]
      have hown : ownVal w I (tok (.tc i j)) t nl s vs[j] := hc j _ _ hj hv
      -- the tuple without its part
      let tok1 : Tok := fun k => match k with
        | .tc a c => if a = i ∧ c = j then none else tok (.tc a c)
        | .sl a => if a = i then none else tok (.sl a)
        | .box s => tok (.box s)
      have h1 : Inv w0 I0 xs { st with sl := st.sl.set i (.tup (l.set j .dead)) } tm w I tok1 := by
        have hp := h.put (d := i) (s := .tup (l.set j .dead)) (v := tm.getD i undef) (tok' := tok1) hil ?_ ?_ ?_
        · rwa [setD_self, put_notHome st i _ (by rw [hl]; rfl)] at hp
        · intro k hk
          cases k with
          | box s => rfl
          | sl a => simp only [Key.at] at hk; simp [tok1, hk]
          | tc a c => simp only [Key.at] at hk; simp [tok1, hk]
        · intro k b hk hb
          have hsame : ∀ k', tok1 k' = some b → tok k' = some b := by
            intro k' hk'
            cases k' with
            | box s => exact hk'
            | sl a => by_cases ha : a = i <;> simp [tok1, ha] at hk' ⊢; exact hk'
            | tc a c => by_cases ha : a = i ∧ c = j <;> simp only [tok1, ha, if_false, if_true] at hk' <;> first | exact hk' | cases hk'
          have hb' := hsame k hb
          refine ⟨h.tokLt k b hb', h.tokI k b hb', ?_, fun k' hk' => h.inj k k' b hb' (hsame k' hk')⟩
          rcases h.fresh k b hb' with h2 | h2
          · exact h2
          · obtain ⟨q, hq⟩ := List.getElem?_of_mem h2
            have := h.inj _ _ b hb' (h.ext q b hq); subst this
            exact absurd hk (by simp [Key.at])
        · simp only [SRep]
          refine ⟨vs, e, by simpa using hlen, fun c q x h2 h3 => ?_⟩
          rw [List.getElem?_set] at h2
          by_cases hjc : j = c
          · subst hjc
            rw [if_pos rfl] at h2
            split at h2
            · cases h2; trivial
            · cases h2
          · rw [if_neg hjc] at h2
            have := hc c q x h2 h3
            cases q <;> simp only [compRep] at this ⊢ <;> first | exact this | skip
            have hn : ¬ (c = j) := fun e => hjc e.symm
            simpa [tok1, hn] using this
      cases hod : o.dst with
      | none => exact ⟨_, w, I, tok1, .inl (hrun _ hv), by rw [hod]; exact h1⟩
      | some d =>
        have hdl := hd d hod
        let tok2 : Tok := fun k => match k with
          | .sl a => if a = d then tok (.tc i j) else tok1 (.sl a)
          | .tc a c => if a = d then none else tok1 (.tc a c)
          | .box s => tok (.box s)
        have hsame : ∀ k' b, tok1 k' = some b → tok k' = some b ∧ k' ≠ .tc i j := by
          intro k' b hk'
          cases k' with
          | box s => exact ⟨hk', by simp⟩
          | sl a => by_cases ha : a = i <;> simp [tok1, ha] at hk' ⊢; exact hk'
          | tc a c =>
            by_cases ha : a = i ∧ c = j
            · simp only [tok1, ha, and_self, if_true] at hk'; cases hk'
            · simp only [tok1, ha, if_false] at hk'; exact ⟨hk', fun e => ha (by cases e; exact ⟨rfl, rfl⟩)⟩
        refine ⟨vs[j], w, I, tok2, .inl (hrun _ hv), ?_⟩
        rw [hod]
        refine h1.put (by simpa using hdl) ?_ ?_ ?_
        · intro k hk
          cases k with
          | box s => rfl
          | sl a => simp only [Key.at] at hk; simp [tok2, hk]
          | tc a c => simp only [Key.at] at hk; simp [tok2, hk]
        · intro k b hk hb
          cases k with
          | box s => exact absurd hk (by simp [Key.at])
          | tc a c => simp only [Key.at] at hk; simp [tok2, hk] at hb
          | sl a =>
            simp only [Key.at] at hk; subst hk
            simp only [tok2, if_true] at hb
            refine ⟨h.tokLt _ b hb, h.tokI _ b hb, ?_, fun k' hk' => ?_⟩
            · rcases h.fresh _ b hb with h2 | h2
              · exact h2
              · obtain ⟨q, hq⟩ := List.getElem?_of_mem h2
                have := h.inj _ _ b hb (h.ext q b hq); cases this
            · cases k' with
              | box s => have := h.inj _ _ b hb (show tok (.box s) = some b from hk'); cases this
              | sl a' =>
                by_cases ha : a' = a
                · rw [ha]
                · simp only [tok2, ha, if_false] at hk'
                  have := h.inj _ _ b hb (hsame (.sl a') b hk').1; cases this
              | tc a' c' =>
                by_cases ha : a' = a
                · simp [tok2, ha] at hk'
                · simp only [tok2, ha, if_false] at hk'
                  obtain ⟨h3, h4⟩ := hsame (.tc a' c') b hk'
                  exact absurd (h.inj _ _ b hb h3).symm h4
        · simp only [SRep]
          simpa [tok2] using hown
    · cases hf
  · cases hf
end Go.Own

/- Operations, one by one: places of fields, of elements. -/
set_option linter.unusedVariables false
namespace Go.Own
variable {P : Program} {E : Env} {w0 w w' : World} {I0 I : Nat → Prop} {xs : List Nat} {st st' : St} {tm : Array Value} {tok : Tok} {ds : List Deferred} {o : Oper}

theorem addr_add' (b o j : Nat) : (⟨b, o, none⟩ : Addr).add j = ⟨b, o + j, none⟩ := addr_add b o j

/-- A pointer, and the one to a part: from the cell's offset on. -/
theorem part_ptr {s s' : SV} {v : Value} {pa : Path} {t u : Ty} {off : Nat} (hv : ORep w I tok st tm s v) (ht : targetOf s = some t) (hp : partOf pa s = some s')
    (hat : pathAt t pa = some (off, u)) (hin : pathIn t pa) :
    ∃ b o, v = .pointer (some ⟨b, o, none⟩) ∧ (∃ i, SRep w I tok st tm i s' (.pointer (some ⟨b, o + off, none⟩))) ∧ (∀ t nl l, s' ≠ .own t nl l) ∧ (∀ l, s' ≠ .tup l) := by
  cases s with
  | pb r t0 q =>
    simp only [targetOf, Option.some.injEq] at ht; subst ht
    obtain ⟨i, hv⟩ := hv
    obtain ⟨b, off0, d, h1, h2, h3, h4, rfl⟩ := hv
    simp only [partOf] at hp
    obtain ⟨u', hu', rfl⟩ := Option.map_eq_some_iff.1 hp
    obtain ⟨off', ho'⟩ := tyAt_pathAt hu'
    rw [hat] at ho'; simp only [Option.some.injEq, Prod.mk.injEq] at ho'
    obtain ⟨rfl, rfl⟩ := ho'
    exact ⟨b, off0, rfl, ⟨i, b, off0 + off, d, h1, h2, pathAt_append h3 hat, pathIn_append h3 h4 hin, rfl⟩, by intros; simp, by intros; simp⟩
  | pe g t0 k t1 q =>
    simp only [targetOf, Option.some.injEq] at ht; subst ht
    obtain ⟨i, hv⟩ := hv
    obtain ⟨h0, b, oo, len, cap, off0, h1, h2, h3, h4, rfl⟩ := hv
    simp only [partOf] at hp
    obtain ⟨u', hu', rfl⟩ := Option.map_eq_some_iff.1 hp
    obtain ⟨off', ho'⟩ := tyAt_pathAt hu'
    rw [hat] at ho'; simp only [Option.some.injEq, Prod.mk.injEq] at ho'
    obtain ⟨rfl, rfl⟩ := ho'
    refine ⟨b, oo + k * t0.size + off0, rfl, ⟨i, h0, b, oo, len, cap, off0 + off, h1, h2, pathAt_append h3 hat, pathIn_append h3 h4 hin, ?_⟩, by intros; simp, by intros; simp⟩
    rw [Nat.add_assoc]
  | p e =>
    obtain ⟨te, x⟩ := e
    cases te with
    | ref t1 =>
      have ht' : some t1 = some t := ht
      cases ht'
      cases x with
      | none => cases hp
      | some y =>
        have hp' : (getP t y pa).map (fun d => SV.p ⟨.ref d.1, some d.2⟩) = some s' := hp
        obtain ⟨d, hg, rfl⟩ := Option.map_eq_some_iff.1 hp'
        have hr := hv.p
        simp only [valRep, Ty.isAgg, Bool.false_eq_true, if_false, cellsRep] at hr
        obtain ⟨b, o, c, e, hI, hc, ha⟩ := hr
        simp only [List.cons.injEq, and_true] at e
        obtain ⟨off', h5, h6, h7⟩ := getP_cells hc (u := d.1) (y := d.2) hg hin
        rw [hat] at h5; simp only [Option.some.injEq, Prod.mk.injEq] at h5
        refine ⟨b, o, e, ⟨0, ?_⟩, by intros; simp, by intros; simp⟩
        show valRep w I (.ref d.1) (some d.2) _
        simp only [valRep, Ty.isAgg, Bool.false_eq_true, if_false, cellsRep]
        refine ⟨b, o + off, _, rfl, hI, h6, ?_⟩
        intro j v hj
        rw [seg_get] at hj
        split at hj
        · have := ha _ _ hj
          rw [← this, h5.1]; congr 2; omega
        · cases hj
    | _ => cases ht
  | _ => cases ht

theorem op_fieldAddr {T : TypeId} {x : Operand} {f : Nat} (hE : EnvOK P E) (h : Inv w0 I0 xs st tm w I tok) (hd : ∀ d, o.dst = some d → d < st.sl.length) (ho : o.op = .fieldAddr T x f) (hf : opF E o st = some (true, st')) :
    OpGood P o ds w0 I0 xs st' tm w := by
  have hx := ev_rep (ds := ds) h x
  simp only [opF, ho] at hf
  split at hf
  · rename_i s' t hp ht
    cases hc : (E.isT T t && nzT s') with
    | false => rw [hc] at hf; cases hf
    | true =>
      rw [hc] at hf
      simp only [cond_true] at hf
      simp only [Bool.and_eq_true] at hc
      obtain ⟨hT, hz⟩ := hc
      have hA := hE.ty T _ (isT_eq hT)
      have hty : ∃ u, tyAt t (fieldPath f) = some u ∧ targetOf s' = some u := by
        generalize ev st x = s at hp ht
        cases s with
        | pb r t0 q => cases ht; obtain ⟨u, hu, rfl⟩ := Option.map_eq_some_iff.1 hp; exact ⟨u, hu, rfl⟩
        | pe g t0 k t1 q => cases ht; obtain ⟨u, hu, rfl⟩ := Option.map_eq_some_iff.1 hp; exact ⟨u, hu, rfl⟩
        | p e =>
          obtain ⟨te, y⟩ := e
          cases te with
          | ref t1 =>
            have ht' : some t1 = some t := ht
            cases ht'
            cases y with
            | none => cases hp
            | some y =>
              have hp' : (getP t y (fieldPath f)).map (fun d => SV.p ⟨.ref d.1, some d.2⟩) = some s' := hp
              obtain ⟨d, hg, rfl⟩ := Option.map_eq_some_iff.1 hp'
              exact ⟨d.1, getP_tyAt hg, rfl⟩
          | _ => cases ht
        | _ => cases ht
      obtain ⟨u, hu, hu2⟩ := hty
      obtain ⟨fs, fl, off, hus, hfl, hat, hoff, hA2⟩ := struct_fields hA hu
      obtain ⟨b, oo, e1, ⟨i, hs⟩, hno, hnt⟩ := part_ptr hx ht hp hat (fieldPath_in hu)
      unfold nzT at hz
      rw [hu2] at hz
      have hz' : u.size ≠ 0 := by simpa using hz
      have hfl' : fs[f]? = some fl := by simpa using hfl
      refine (OpGood.s h hd ?_ hs hno hnt hf).2
      simp only [execOp, ho, e1, Instr.fieldAt, Sem.run_bind, run_underlying hus, Result.andThen_ok, hfl', Instr.sureAddr, Sem.run_pure, fieldPlace, hA2.sizeOf w]
      rw [if_neg hz', hoff, addr_add]; rfl
  · cases hf

/-- A frozen slice's element. -/
theorem frozen_elem {t : Ty} {l : List t.den} {v : Value} (hv : valRep w I (.sl t) l v) {k : Nat} (hk : k < l.length) :
    ∃ b oo cap, v = .slice (some ⟨b, oo, none⟩) l.length cap ∧ l.length ≤ cap ∧ valRep w I (.ref t) (some (l.getD k t.dflt)) (.pointer (some ⟨b, oo + k * t.size, none⟩)) := by
  simp only [valRep, Ty.isAgg, Bool.false_eq_true, if_false, cellsRep, List.cons.injEq, and_true] at hv
  obtain ⟨ad, cap, rfl, hcap, hv⟩ := hv
  rcases hv with rfl | ⟨b, oo, rfl, hI, hel⟩
  · simp at hk
  · have hki : l[k]? = some (l.getD k t.dflt) := by rw [List.getD_eq_getElem?_getD, List.getElem?_eq_getElem hk]; rfl
    obtain ⟨c, hc, ha⟩ := hel k _ hki
    refine ⟨b, oo, cap, rfl, hcap, ?_⟩
    simp only [valRep, Ty.isAgg, Bool.false_eq_true, if_false, cellsRep]
    exact ⟨b, oo + k * t.size, c, rfl, hI, hc, ha⟩

theorem index_slice_run {T e : TypeId} {t : Ty} (hu : P.underlying T = some (.slice e)) (hA : TyAt P e t) {k : IntKind} {i : Int} {b oo n cap : Nat} (h0 : 0 ≤ i) (h1 : i < n) :
    (Instr.indexAt T (.slice (some ⟨b, oo, none⟩) n cap) (.int k i)).run P w = .ok (.pointer (some ⟨b, oo + i.toNat * t.size, none⟩)) w := by
  simp only [Instr.indexAt, asIntOf, Sem.run_bind, Sem.run_pure, Result.andThen_ok, run_underlying hu]
  rw [if_pos ⟨h0, h1⟩, Sem.run_bind, hA.sizeOf w]
  simp only [Result.andThen_ok, addr_add, Sem.run_pure]

theorem index_array_run {T e : TypeId} {t : Ty} {n : Nat} (hu : P.underlying T = some (.array n e)) (hA : TyAt P e t) {k : IntKind} {i : Int} {b oo : Nat} (h0 : 0 ≤ i) (h1 : i < n) :
    (Instr.indexAt T (.pointer (some ⟨b, oo, none⟩)) (.int k i)).run P w = .ok (.pointer (some ⟨b, oo + i.toNat * t.size, none⟩)) w := by
  simp only [Instr.indexAt, asIntOf, Instr.sureAddr, Sem.run_bind, Sem.run_pure, Result.andThen_ok, run_underlying hu]
  rw [if_pos ⟨h0, h1⟩, Sem.run_bind, hA.sizeOf w]
  simp only [Result.andThen_ok, addr_add, Sem.run_pure]

/-- An own slice's cells. -/
theorem own_addr (h : Inv w0 I0 xs st tm w I tok) {g : Nat} {t : Ty} {nl : Bool} {l : List t.den} (hs : st.slot g = .own t nl l) (hne : 0 < l.length) :
    ∃ b oo cap, tok (.sl g) = some b ∧ tm.getD g undef = .slice (some ⟨b, oo, none⟩) l.length cap ∧ l.length ≤ cap := by
  have hg := h.slots g (home_lt st g (by rw [hs]; rfl))
  rw [hs] at hg
  obtain ⟨ad, cap, e, _, hcap, htk⟩ := hg
  rcases htk with ⟨_, h0⟩ | ⟨b, oo, h1, rfl, _⟩
  · omega
  · exact ⟨b, oo, cap, h1, e, hcap⟩

theorem op_indexAddr {T : TypeId} {x y : Operand} (hE : EnvOK P E) (h : Inv w0 I0 xs st tm w I tok) (hd : ∀ d, o.dst = some d → d < st.sl.length) (ho : o.op = .indexAddr T x y) (hf : opF E o st = some (true, st')) :
    OpGood P o ds w0 I0 xs st' tm w := by
  have hx := ev_rep (ds := ds) h x
  have hy := ev_rep (ds := ds) h y
  simp only [opF, ho] at hf
  split at hf
  · rename_i c s' hi
    have fin : c = true → ∀ u, (∃ i, SRep w I tok st tm i s' u) → (∀ t nl l, s' ≠ .own t nl l) → (∀ l, s' ≠ .tup l) → (Instr.indexAt T (Act.eval ⟨tm, ds⟩ x) (Act.eval ⟨tm, ds⟩ y)).run P w = .ok u w →
        OpGood P o ds w0 I0 xs st' tm w := by
      intro hc u ⟨i, hs⟩ hno hnt hr
      refine (OpGood.s h hd ?_ hs hno hnt hf).2
      simp only [execOp, ho]
      rw [Sem.run_bind, hr]; rfl
    have hct : c = true := by
      unfold St.putC at hf
      split at hf
      · rename_i d g _ _
        cases hgd : g == d with
        | true => rw [hgd] at hf; cases hf
        | false => rw [hgd] at hf; simp only [cond_false, Option.some.injEq, Prod.mk.injEq] at hf; exact hf.1
      · simp only [Option.some.injEq, Prod.mk.injEq] at hf; exact hf.1
    subst hct
    unfold idxAddr at hi
    split at hi
    · -- an array
      rename_i n t k i hT hyi
      rw [hyi] at hy
      have ey := valRep_int.1 hy.p
      split at hi
      · rename_i htg
        split at hi
        · rename_i v hp
          simp only [Option.some.injEq, Prod.mk.injEq, Bool.and_eq_true, decide_eq_true_eq] at hi
          obtain ⟨⟨h0, h1⟩, rfl⟩ := hi
          obtain ⟨_, e, hu, hA0⟩ := hE.ty T _ hT
          have hA : TyAt P e t := hA0
          have hat : pathAt (.arr n t) [.ix (i : Int).toNat] = some ((i : Int).toNat * t.size, t) := by cases t <;> rfl
          have hin : pathIn (.arr n t) [.ix (i : Int).toNat] := ⟨idx_lt h0 h1, by cases t <;> trivial⟩
          obtain ⟨b, oo, e1, hs, hno, hnt⟩ := part_ptr hx htg hp hat hin
          exact fin rfl _ hs hno hnt (by rw [e1, ey]; exact index_array_run hu hA h0 h1)
        · cases hi
      · cases hi
    · -- a slice
      rename_i t k i hT hyi
      rw [hyi] at hy
      have ey := valRep_int.1 hy.p
      obtain ⟨_, e, hu, hA0⟩ := hE.ty T _ hT
      have hA : TyAt P e t := hA0
      have frz : ∀ (l : List t.den) (v : Value), valRep w I (.sl t) l v → ∀ q : Int, 0 ≤ q → q < l.length → ∃ u, valRep w I (.ref t) (some (l.getD q.toNat t.dflt)) u ∧ (Instr.indexAt T v (.int k q)).run P w = .ok u w := by
        intro l v hv q h0 h1
        obtain ⟨b, oo, cap, rfl, _, hr⟩ := frozen_elem hv (idx_lt h0 h1)
        exact ⟨_, hr, index_slice_run hu hA h0 h1⟩
      split at hi
      · rename_i u l e1
        rw [e1] at hx
        split at hi
        · cases hi
        · rename_i hne
          simp only [ne_eq, Decidable.not_not] at hne; subst hne
          simp only [Option.some.injEq, Prod.mk.injEq, Bool.and_eq_true, decide_eq_true_eq] at hi
          obtain ⟨⟨h0, h1⟩, rfl⟩ := hi
          obtain ⟨v, hr, hrun⟩ := frz l _ hx.p i h0 h1
          exact fin rfl v ⟨0, hr⟩ (by intros; simp) (by intros; simp) (by rw [ey]; exact hrun)
      · rename_i g e1
        rw [e1] at hx
        obtain ⟨hh, ex⟩ := hx.rf_eq
        split at hi
        · rename_i u nl l hs
          split at hi
          · cases hi
          · rename_i hne
            simp only [ne_eq, Decidable.not_not] at hne; subst hne
            simp only [Option.some.injEq, Prod.mk.injEq, Bool.and_eq_true, decide_eq_true_eq] at hi
            obtain ⟨⟨h0, h1⟩, rfl⟩ := hi
            have hlt := idx_lt h0 h1
            obtain ⟨b, oo, cap, h2, h3, _⟩ := own_addr h hs (by omega)
            refine fin rfl (.pointer (some ⟨b, oo + (i : Int).toNat * u.size, none⟩)) ⟨0, ⟨⟨nl, l, hs, hlt⟩, b, oo, l.length, cap, 0, h2, h3, by cases u <;> rfl, by cases u <;> trivial, rfl⟩⟩ (by intros; simp) (by intros; simp) ?_
            rw [ex, h3, ey]; exact index_slice_run hu hA h0 h1
        · rename_i u l hs
          split at hi
          · cases hi
          · rename_i hne
            simp only [ne_eq, Decidable.not_not] at hne; subst hne
            simp only [Option.some.injEq, Prod.mk.injEq, Bool.and_eq_true, decide_eq_true_eq] at hi
            obtain ⟨⟨h0, h1⟩, rfl⟩ := hi
            have hg := h.slots g (home_lt st g hh)
            rw [hs] at hg
            obtain ⟨v, hr, hrun⟩ := frz l _ hg i h0 h1
            exact fin rfl v ⟨0, hr⟩ (by intros; simp) (by intros; simp) (by rw [ex, ey]; exact hrun)
        · cases hi
      · rename_i g t1 lo n e1
        rw [e1] at hx
        obtain ⟨j, hx⟩ := hx
        obtain ⟨hh, hb1, hb2, ad, len, cap, ad', hv, ex, had, hadn⟩ := hx
        split at hi
        · rename_i u nl l hs
          split at hi
          · cases hi
          · rename_i hne
            simp only [ne_eq, Decidable.not_not] at hne; subst hne
            simp only [Option.some.injEq, Prod.mk.injEq, Bool.and_eq_true, decide_eq_true_eq] at hi
            obtain ⟨⟨h0, h1⟩, rfl⟩ := hi
            obtain ⟨rfl, hln⟩ := hb1 _ nl l hs
            have hlt := idx_lt h0 h1
            obtain ⟨b, oo, cap', h2, h3, hcap⟩ := own_addr h hs (by omega)
            rw [h3] at hv; simp only [Value.slice.injEq] at hv
            obtain ⟨rfl, rfl, rfl⟩ := hv
            refine fin rfl (.pointer (some ⟨b, oo + (lo + (i : Int).toNat) * u.size, none⟩)) ⟨0, ⟨⟨nl, l, hs, by omega⟩, b, oo, l.length, cap', 0, h2, h3, by cases u <;> rfl, by cases u <;> trivial, rfl⟩⟩ (by intros; simp) (by intros; simp) ?_
            rw [ex, ey, had (by omega)]
            simp only [Option.map_some, addr_add]
            have := index_slice_run (w := w) (k := k) (b := b) (oo := oo + lo * u.size) (cap := cap' - lo) hu hA h0 h1
            rw [this, Nat.add_mul, Nat.add_assoc]
        · rename_i u l hs
          split at hi
          · cases hi
          · rename_i hne
            simp only [ne_eq, Decidable.not_not] at hne; subst hne
            simp only [Option.some.injEq, Prod.mk.injEq, Bool.and_eq_true, decide_eq_true_eq] at hi
            obtain ⟨⟨h0, h1⟩, rfl⟩ := hi
            obtain ⟨rfl, hln⟩ := hb2 _ l hs
            have hlt := idx_lt h0 h1
            have hg0 := h.slots g (home_lt st g hh)
            rw [hs] at hg0
            have hg : valRep w I (.sl u) l (tm.getD g undef) := hg0
            have hln2 : lo + n ≤ List.length l := hln
            obtain ⟨b, oo, cap', h3, hcap, hr⟩ := frozen_elem (k := lo + (i : Int).toNat) hg (by omega)
            rw [h3] at hv; simp only [Value.slice.injEq] at hv
            obtain ⟨rfl, rfl, rfl⟩ := hv
            refine fin rfl _ ⟨0, hr⟩ (by intros; simp) (by intros; simp) ?_
            have hln' : lo + n ≤ List.length l := hln
            rw [ex, ey, had (by omega)]
            simp only [Option.map_some, addr_add]
            have := index_slice_run (w := w) (k := k) (b := b) (oo := oo + lo * u.size) (cap := cap' - lo) hu hA h0 h1
            rw [this, Nat.add_mul, Nat.add_assoc]
        · cases hi
      · cases hi
    · cases hi
  · cases hf
end Go.Own

/- Operations, one by one: stores, conversions, lengths. -/
set_option linter.unusedVariables false
namespace Go.Own
variable {P : Program} {E : Env} {w0 w w' : World} {I0 I : Nat → Prop} {xs : List Nat} {st st' : St} {tm : Array Value} {tok : Tok} {ds : List Deferred} {o : Oper}

theorem box_bx {a b : St} (h : a.bx = b.bx) (s : Nat) : a.box s = b.box s := by simp [St.box, h]

theorem setP_ty : ∀ {pa : Path} {t : Ty} {x x' : t.den} {d : DV}, setP t x pa d = some x' → tyAt t pa = some d.1 := by
  intro pa
  induction pa with
  | nil =>
    intro t x x' d h
    have h' : (if h : d.1 = t then some (h ▸ d.2) else none) = some x' := by cases t <;> exact h
    split at h'
    · rename_i e; rw [e]; cases t <;> rfl
    · cases h'
  | cons s pa ih =>
    intro t x x' d h
    cases t <;> cases s <;> simp only [setP, reduceCtorEq] at h
    case pair.fst a b => obtain ⟨z, hz, _⟩ := Option.map_eq_some_iff.1 h; exact ih hz
    case pair.snd a b => obtain ⟨z, hz, _⟩ := Option.map_eq_some_iff.1 h; exact ih hz
    case arr.ix n t i => obtain ⟨z, hz, _⟩ := Option.map_eq_some_iff.1 h; exact ih hz

theorem op_store {T : TypeId} {a x : Operand} (hE : EnvOK P E) (h : Inv w0 I0 xs st tm w I tok) (hdn : o.dst = none) (ho : o.op = .store T a x) (hf : opF E o st = some (true, st')) :
    OpGood P o ds w0 I0 xs st' tm w := by
  have ha := ev_rep (ds := ds) h a
  have hx := ev_rep (ds := ds) h x
  simp only [opF, ho, hdn] at hf
  split at hf
  · rename_i d hdat
    cases hT : E.isT T d.1 with
    | false => rw [hT] at hf; cases hf
    | true =>
      rw [hT] at hf
      simp only [cond_true] at hf
      have hA := hE.ty T _ (isT_eq hT)
      obtain ⟨I', tok', h1, hII, hbox, hr, hown⟩ := data_rep h hE hx hdat
      split at hf
      · rename_i st2 hst
        simp only [Option.some.injEq, Prod.mk.injEq, true_and] at hf; subst hf
        -- the run, and the invariant behind it
        have key : ∃ w' tok2, (Instr.storeAt T (Act.eval ⟨tm, ds⟩ a) (Act.eval ⟨tm, ds⟩ x)).run P w = .ok () w' ∧ Inv w0 I0 xs st2 tm w' I' tok2 := by
          generalize ev st a = s at ha hst
          cases s with
          | pb r t pa =>
            obtain ⟨i, ha⟩ := ha
            obtain ⟨b, off, d0, h2, h3, h4, h5, e⟩ := ha
            have h3' : (st.freezeAll [ev st x]).box r = some d0 := by rw [box_bx (freezeAll_bx st _)]; exact h3
            simp only [storeS, h3'] at hst
            obtain ⟨x', hx', rfl⟩ := Option.map_eq_some_iff.1 hst
            obtain ⟨b', hb', cs, hblk, hc⟩ := h1.boxes r d0 h3'
            have hb2 : tok' (.box r) = some b := by rw [hbox]; exact h2
            rw [hb2] at hb'; cases hb'
            obtain ⟨off', h6, h7, h8⟩ := setP_cells (y := d.2) hc hx' h5 hr.cells
            have hoff : off' = off := by rw [h4] at h6; simp only [Option.some.injEq, Prod.mk.injEq] at h6; exact h6.1.symm
            subst hoff
            have hlen := hc.length
            obtain ⟨hrun, hcv⟩ := storeVar_run (P := P) hA hr hblk (o := off') (by omega)
            have hcl := hcv.length
            refine ⟨_, tok', ?_, h1.writeBox h3' (d' := ⟨d0.1, x'⟩) rfl hb2 (Wrote.cells b (Act.eval ⟨tm, ds⟩ x).cells.toList off' w) ⟨_, hblk.setCells (by omega), ?_⟩⟩
            · rw [e]; simp only [Instr.storeAt, Instr.sureAddr, Sem.run_bind, Sem.run_pure, Result.andThen_ok, hrun]
            · refine h7.mono (fun _ hb => hb) (fun k hk => setCells_other b _ off' w k ?_)
              rintro rfl; exact h1.tokI _ _ hb2 hk
          | pe g t0 k t pa =>
            obtain ⟨i, ha⟩ := ha
            obtain ⟨⟨nl0, l0, hs0, hk⟩, b, oo, len, cap, off, h2, h3, h4, h5, e⟩ := ha
            simp only [storeS] at hst
            split at hst
            · rename_i u nl l hs
              obtain ⟨htok, hs'⟩ := hown g u nl l hs
              rw [hs0] at hs'; cases hs'
              obtain ⟨x', hx', rfl⟩ := Option.map_eq_some_iff.1 hst
              have hb2 : tok' (.sl g) = some b := by rw [htok]; exact h2
              have hki : l0[k]? = some (l0.getD k t0.dflt) := by rw [List.getD_eq_getElem?_getD, List.getElem?_eq_getElem hk]; rfl
              -- the row
              have hg := h1.slots g (home_lt _ g (by rw [hs]; rfl))
              rw [hs] at hg
              obtain ⟨ad, cap', e2, _, _, htk⟩ := hg
              rw [h3] at e2; simp only [Value.slice.injEq] at e2
              obtain ⟨e3, e4, e5⟩ := e2
              rcases htk with ⟨hn, _⟩ | ⟨b', oo', hb3, hadr, hrow⟩
              · rw [hb2] at hn; cases hn
              · rw [hb2] at hb3; cases hb3
                rw [← e3] at hadr; cases hadr
                obtain ⟨cs, hblk, hroom, hel⟩ := hrow
                obtain ⟨c, hc, hcv⟩ := hel k _ hki
                have hcl := hc.length
                obtain ⟨off', h6, h7, h8⟩ := setP_cells (y := d.2) hc hx' h5 hr.cells
                have hoff : off' = off := by rw [h4] at h6; simp only [Option.some.injEq, Prod.mk.injEq] at h6; exact h6.1.symm
                subst hoff
                have hkc : k < cap' := by
                  have hg2 := h1.slots g (home_lt _ g (by rw [hs]; rfl))
                  rw [hs] at hg2
                  obtain ⟨ad2, cap2, e6, _, hcap2, _⟩ := hg2
                  rw [h3] at e6; simp only [Value.slice.injEq] at e6
                  omega
                have hmul : (k + 1) * t0.size ≤ cap' * t0.size := Nat.mul_le_mul_right _ hkc
                rw [Nat.add_mul, Nat.one_mul] at hmul
                obtain ⟨hrun, hcv2⟩ := storeVar_run (P := P) hA hr hblk (o := oo + k * t0.size + off') (by omega)
                have hcl2 := hcv2.length
                refine ⟨_, tok', ?_, h1.writeOwn hs (l' := l0.set k x') (by simp) hb2 (Wrote.cells b (Act.eval ⟨tm, ds⟩ x).cells.toList (oo + k * t0.size + off') w) ?_⟩
                · rw [e]; simp only [Instr.storeAt, Instr.sureAddr, Sem.run_bind, Sem.run_pure, Result.andThen_ok, hrun]
                · intro oo2 cap2 _ e7
                  rw [h3] at e7; simp only [Value.slice.injEq, Option.some.injEq, Addr.mk.injEq] at e7
                  obtain ⟨⟨_, rfl, _⟩, _, rfl⟩ := e7
                  have hIb : ∀ q, I' q → (w.setCells b (oo + k * t0.size + off') (Act.eval ⟨tm, ds⟩ x).cells.toList).heap[q]? = w.heap[q]? := by
                    intro q hq
                    refine setCells_other b _ _ w q ?_
                    rintro rfl; exact h1.tokI _ _ hb2 hq
                  refine ⟨_, hblk.setCells (by omega), by rw [splice_length _ _ _ (by omega)]; rw [← e5] at hroom; exact hroom, fun j y hj => ?_⟩
                  rw [List.getElem?_set] at hj
                  by_cases hkj : k = j
                  · subst hkj
                    rw [if_pos rfl, if_pos hk] at hj
                    cases hj
                    refine ⟨_, h7.mono (fun _ hb => hb) hIb, fun q v hv => ?_⟩
                    rw [splice_get _ _ _ (by omega)] at hv
                    rw [splice_get _ _ _ (by omega)]
                    split at hv
                    · rename_i hq
                      rw [if_pos (by omega), ← hv]; congr 1; omega
                    · rename_i hq
                      rw [if_neg (by omega)]
                      exact hcv q v hv
                  · rw [if_neg hkj] at hj
                    obtain ⟨c3, hc3, hcv3⟩ := hel j y hj
                    refine ⟨c3, hc3.mono (fun _ hb => hb) hIb, fun q v hv => ?_⟩
                    have hq3 := (List.getElem?_eq_some_iff.1 hv).1
                    have hl3 := hc3.length
                    rw [splice_get _ _ _ (by omega), if_neg]
                    · exact hcv3 q v hv
                    · rintro ⟨q1, q2⟩
                      rcases Nat.lt_or_gt_of_ne hkj with hlt | hgt
                      · have := Nat.mul_le_mul_right t0.size (show k + 1 ≤ j by omega)
                        rw [Nat.add_mul, Nat.one_mul] at this; omega
                      · have := Nat.mul_le_mul_right t0.size (show j + 1 ≤ k by omega)
                        rw [Nat.add_mul, Nat.one_mul] at this; omega
            · cases hst
          | _ => cases hst
        obtain ⟨w', tok2, hrun, hinv⟩ := key
        refine ⟨undef, w', I', tok2, .inr ⟨?_, rfl⟩, by rw [hdn]; exact hinv⟩
        simp only [execOp, ho]
        rw [Sem.run_bind, hrun]; rfl
      · cases hf
  · cases hf

theorem seq_len (h : Inv w0 I0 xs st tm w I tok) {s : SV} {v : Value} {t : Ty} {l : List t.den} (hv : ORep w I tok st tm s v) (hs : seqOf st s = some ⟨t, l⟩) : ∃ ad cap, v = .slice ad l.length cap := by
  have fz : ∀ {t : Ty} {l : List t.den} {v : Value}, valRep w I (.sl t) l v → ∃ ad cap, v = .slice ad l.length cap := by
    intro t l v hv
    simp only [valRep, Ty.isAgg, Bool.false_eq_true, if_false, cellsRep, List.cons.injEq, and_true] at hv
    obtain ⟨ad, cap, e, _⟩ := hv
    exact ⟨ad, cap, e⟩
  have own : ∀ {t : Ty} {nl : Bool} {l : List t.den} {v : Value} {tk}, ownVal w I tk t nl l v → ∃ ad cap, v = .slice ad l.length cap := by
    rintro t nl l v tk ⟨ad, cap, e, _⟩
    exact ⟨ad, cap, e⟩
  unfold seqOf at hs
  split at hs
  · cases hs; exact fz hv.p
  · rename_i g
    obtain ⟨hh, rfl⟩ := hv.rf_eq
    have hg := h.slots g (home_lt st g hh)
    split at hs
    · rename_i e; cases hs; rw [e] at hg; exact own hg
    · rename_i e; cases hs; rw [e] at hg; exact fz hg
    · cases hs
  · rename_i g u lo n
    obtain ⟨i, hv⟩ := hv
    obtain ⟨hh, hb1, hb2, ad, len, cap, ad', e1, rfl, had, hadn⟩ := hv
    split at hs
    · rename_i u' nl l' e
      cases hs
      obtain ⟨rfl, hln⟩ := hb1 _ nl l' e
      exact ⟨_, _, by rw [show ((l'.drop lo).take n).length = n by simp; omega]⟩
    · rename_i u' l' e
      cases hs
      obtain ⟨rfl, hln⟩ := hb2 _ l' e
      have hln' : lo + n ≤ List.length l' := hln
      exact ⟨_, _, by rw [show ((List.drop lo l').take n).length = n by simp; omega]⟩
    · cases hs
  · cases hs

theorem len_sound (hE : EnvOK P E) (h : Inv w0 I0 xs st tm w I tok) {T R : TypeId} {Ts : List TypeId} {s : SV} {v : Value} {d : DV} (hv : ORep w I tok st tm s v) (hl : lenS E st T s = some d) :
    ∃ u, (Builtin.len_ (T :: Ts).toArray R #[v]).run P w = .ok u w ∧ valRep w I d.1 d.2 u := by
  have hT0 : ((T :: Ts).toArray)[0]? = some T := by simp
  unfold lenS at hl
  split at hl
  · rename_i b
    split at hl
    · rename_i hT
      cases hl
      have hA := hE.ty T _ hT
      have e := valRep_str.1 hv.p
      exact ⟨goInt b.size, by simp [Builtin.len_, run_underlying hA.2, e], valRep_int.2 rfl⟩
    · cases hl
  · split at hl
    · rename_i n t hT
      cases hl
      obtain ⟨_, e, hu, _⟩ := hE.ty T _ hT
      exact ⟨goInt n, by simp [Builtin.len_, run_underlying hu], valRep_int.2 rfl⟩
    · rename_i t hT
      obtain ⟨⟨t', l⟩, hs, rfl⟩ := Option.map_eq_some_iff.1 hl
      obtain ⟨_, e, hu, _⟩ := hE.ty T _ hT
      obtain ⟨ad, cap, rfl⟩ := seq_len h hv hs
      exact ⟨goInt l.length, by simp [Builtin.len_, run_underlying hu], valRep_int.2 rfl⟩
    · cases hl
end Go.Own

/- Several values are frozen at once; a row that is the call's own is put. -/
set_option linter.unusedVariables false
namespace Go.Own
variable {P : Program} {E : Env} {w0 w w' : World} {I0 I : Nat → Prop} {xs : List Nat} {st st' : St} {tm : Array Value} {tok : Tok} {ds : List Deferred} {o : Oper}

/-- What freezing leaves of a state. -/
structure Frz (st st1 : St) : Prop where
  bx : st1.bx = st.bx
  len : st1.sl.length = st.sl.length
  own : ∀ h t nl l, st.slot h = .own t nl l → st1.slot h = .own t nl l ∨ st1.slot h = .p ⟨.sl t, l⟩
  p : ∀ h d, st.slot h = .p d → st1.slot h = .p d

theorem Frz.refl (st : St) : Frz st st := ⟨rfl, rfl, fun _ _ _ _ h => .inl h, fun _ _ h => h⟩
theorem Frz.trans {a b c : St} (h : Frz a b) (k : Frz b c) : Frz a c := by
  refine ⟨k.bx.trans h.bx, k.len.trans h.len, fun g t nl l e => ?_, fun g d e => k.p _ _ (h.p _ _ e)⟩
  rcases h.own g t nl l e with e | e
  · exact k.own g t nl l e
  · exact .inr (k.p _ _ e)

theorem frz_freeze (st : St) (g : Nat) : Frz st (st.freeze g) := by
  unfold St.freeze
  cases hv : st.slot g with
  | own t nl l =>
    have hgl : g < st.sl.length := home_lt st g (by rw [hv]; rfl)
    have hsl : ∀ i, ({ st with sl := (st.sl.map (SV.offE g)).set g (.p ⟨.sl t, l⟩) } : St).slot i = if i = g then .p ⟨.sl t, l⟩ else SV.offE g (st.slot i) := by
      intro i
      have := slot_set { st with sl := st.sl.map (SV.offE g) } g i (.p ⟨.sl t, l⟩) (by simpa using hgl)
      rw [slot_map st (SV.offE g) rfl] at this
      exact this
    refine ⟨rfl, by simp, fun i u nl' l' e => ?_, fun i d e => ?_⟩
    · simp only [hsl]
      by_cases hi : i = g
      · subst hi; rw [hv] at e; cases e; simp
      · rw [if_neg hi, e]; left; rfl
    · simp only [hsl]
      by_cases hi : i = g
      · subst hi; rw [hv] at e; cases e
      · rw [if_neg hi, e]; rfl
  | _ => exact Frz.refl st

theorem frz_all (st : St) (vs : List SV) : Frz st (st.freezeAll vs) := by
  unfold St.freezeAll
  generalize homes vs = l
  induction l generalizing st with
  | nil => exact Frz.refl st
  | cons g l ih => exact (frz_freeze st g).trans (ih _)

theorem Frz.seqOf {st1 : St} (hF : Frz st st1) {s : SV} {x} (h : seqOf st s = some x) : seqOf st1 s = some x := by
  unfold Own.seqOf at h ⊢
  split at h
  · exact h
  · rename_i g
    split at h
    · rename_i t nl l e
      cases h
      rcases hF.own g t nl l e with e | e <;> simp [e]
    · rename_i t l e
      simp [hF.p _ _ e, h]
    · cases h
  · rename_i g t lo n
    split at h
    · rename_i t nl l e
      cases h
      rcases hF.own g t nl l e with e | e <;> simp [e]
    · rename_i t l e
      simp [hF.p _ _ e, h]
    · cases h
  · cases h

theorem dataOf_seq {T : TypeId} {s : SV} {d : DV} (h : dataOf E st T s = some d) : (∃ e, s = .p e) ∨ s = .nil ∨ s = .nilp ∨ ∃ x, seqOf st s = some x ∧ d = ⟨.sl x.1, x.2⟩ ∧ ((∃ g, s = .rf g) ∨ ∃ g t lo n, s = .rs g t lo n) := by
  cases s with
  | p e => exact .inl ⟨e, rfl⟩
  | nil => exact .inr (.inl rfl)
  | nilp => exact .inr (.inr (.inl rfl))
  | rf g =>
    obtain ⟨x, hx, rfl⟩ := Option.map_eq_some_iff.1 (show (seqOf st (.rf g)).map (fun s => (⟨.sl s.1, s.2⟩ : DV)) = some d from h)
    exact .inr (.inr (.inr ⟨x, hx, rfl, .inl ⟨g, rfl⟩⟩))
  | rs g t lo n =>
    obtain ⟨x, hx, rfl⟩ := Option.map_eq_some_iff.1 (show (seqOf st (.rs g t lo n)).map (fun s => (⟨.sl s.1, s.2⟩ : DV)) = some d from h)
    exact .inr (.inr (.inr ⟨x, hx, rfl, .inr ⟨g, t, lo, n, rfl⟩⟩))
  | _ => simp [dataOf, seqOf] at h

theorem Frz.dataOf {st1 : St} (hF : Frz st st1) {T : TypeId} {s : SV} {d : DV} (h : dataOf E st T s = some d) : dataOf E st1 T s = some d := by
  rcases dataOf_seq h with ⟨e, rfl⟩ | rfl | rfl | ⟨x, hx, rfl, ⟨g, rfl⟩ | ⟨g, t, lo, n, rfl⟩⟩
  · exact h
  · exact h
  · exact h
  · simp only [Own.dataOf]; rw [hF.seqOf hx]; rfl
  · simp only [Own.dataOf]; rw [hF.seqOf hx]; rfl

theorem Frz.home {st1 : St} (hF : Frz st st1) {g : Nat} (h : (st.slot g).isHome = true) : (st1.slot g).isHome = true := by
  cases hv : st.slot g with
  | p d => rw [hF.p g d hv]; rwa [hv] at h
  | own t nl l => rcases hF.own g t nl l hv with e | e <;> rw [e] <;> rfl
  | _ => rw [hv] at h; cases h

theorem Frz.rep {st1 : St} {I1 : Nat → Prop} {tok1 : Tok} (hF : Frz st st1) (hI : ∀ b, I b → I1 b) {T : TypeId} {s : SV} {d : DV} {v : Value} (hv : ORep w I tok st tm s v) (h : Own.dataOf E st T s = some d) :
    ORep w I1 tok1 st1 tm s v := by
  rcases dataOf_seq h with ⟨e, rfl⟩ | rfl | rfl | ⟨x, hx, rfl, ⟨g, rfl⟩ | ⟨g, t, lo, n, rfl⟩⟩
  · exact ⟨0, by show valRep w I1 e.1 e.2 v; exact hv.p.mono hI (fun _ _ => rfl)⟩
  · exact hv
  · exact hv
  · obtain ⟨hh, rfl⟩ := hv.rf_eq
    exact ⟨0, hF.home hh, rfl⟩
  · obtain ⟨i, hh, hb1, hb2, hr⟩ := hv
    refine ⟨i, hF.home hh, ?_, ?_, hr⟩
    · intro u nl l e
      cases hq : st.slot g with
      | own u' nl' l' =>
        rcases hF.own g u' nl' l' hq with e' | e' <;> rw [e] at e'
        · cases e'; exact hb1 _ _ _ hq
        · cases e'
      | p d => have := hF.p g d hq; rw [e] at this; cases this
      | _ => rw [hq] at hh; cases hh
    · intro u l e
      cases hq : st.slot g with
      | own u' nl' l' =>
        rcases hF.own g u' nl' l' hq with e' | e' <;> rw [e] at e'
        · cases e'
        · cases e'; exact hb1 _ _ _ hq
      | p d => have := hF.p g d hq; rw [e] at this; cases this; exact hb2 _ _ hq
      | _ => rw [hq] at hh; cases hh

/-- A slice of a slot that holds data. -/
theorem frozen_data (h : Inv w0 I0 xs st tm w I tok) {s : SV} {v : Value} {x : (t : Ty) × List t.den} (hv : ORep w I tok st tm s v) (hx : seqOf st s = some x)
    (hn : (∃ g, s = .rf g ∧ ∀ t nl l, st.slot g ≠ .own t nl l) ∨ ∃ g t lo n, s = .rs g t lo n ∧ ∀ t nl l, st.slot g ≠ .own t nl l) : valRep w I (.sl x.1) x.2 v := by
  have hp : ∀ g t l, st.slot g = .p ⟨.sl t, l⟩ → valRep w I (.sl t) l (tm.getD g undef) := by
    intro g t l e
    have := h.slots g (home_lt st g (by rw [e]; rfl))
    rw [e] at this
    simpa only [SRep] using this
  rcases hn with ⟨g, rfl, hn⟩ | ⟨g, t, lo, n, rfl, hn⟩
  · obtain ⟨hh, rfl⟩ := hv.rf_eq
    simp only [seqOf] at hx
    split at hx
    · rename_i t nl l e; exact absurd e (hn _ _ _)
    · rename_i t l e; cases hx; exact hp g t l e
    · cases hx
  · obtain ⟨i, hv⟩ := hv
    obtain ⟨hh, hb1, hb2, ad, len, cap, ad', e1, rfl, had, hadn⟩ := hv
    simp only [seqOf] at hx
    split at hx
    · rename_i t nl l e; exact absurd e (hn _ _ _)
    · rename_i u l e
      cases hx
      obtain ⟨rfl, hln⟩ := hb2 u l e
      have hr := hp g u l e
      rw [e1] at hr
      simp only [valRep, Ty.isAgg, Bool.false_eq_true, if_false, cellsRep, List.cons.injEq, Value.slice.injEq, and_true] at hr
      obtain ⟨ad2, cap', ⟨rfl, rfl, rfl⟩, hcap, hr⟩ := hr
      simp only [valRep, Ty.isAgg, Bool.false_eq_true, if_false]
      have hlen : ((l.drop lo).take n).length = n := by simp; omega
      refine ⟨_, _, by rw [hlen], by rw [hlen]; omega, ?_⟩
      rcases hr with rfl | ⟨b, o, rfl, hI, hel⟩
      · left; simp
      · by_cases hn0 : n = 0
        · left; subst hn0; simp
        · right
          · rw [had (by omega)]
            refine ⟨b, o + lo * u.size, by simp [addr_add], hI, fun i x hx => ?_⟩
            rw [List.getElem?_take] at hx
            split at hx
            · rw [List.getElem?_drop] at hx
              obtain ⟨c, hc1, hc2⟩ := hel _ _ hx
              refine ⟨c, hc1, ?_⟩
              have : o + lo * u.size + i * u.size = o + (lo + i) * u.size := by rw [Nat.add_mul]; omega
              rw [this]; exact hc2
            · cases hx
    · cases hx

/-- Data of several operands, behind their freezing. -/
theorem datas_rep (hE : EnvOK P E) : ∀ (vs : List SV) {st : St} {I : Nat → Prop} {tok : Tok} (h : Inv w0 I0 xs st tm w I tok),
    ∃ I' tok', Inv w0 I0 xs (st.freezeAll vs) tm w I' tok' ∧ (∀ b, I b → I' b) ∧ (∀ r, tok' (.box r) = tok (.box r)) ∧
      ∀ s ∈ vs, ∀ T v d, ORep w I tok st tm s v → dataOf E st T s = some d → valRep w I' d.1 d.2 v := by
  intro vs st I tok h
  obtain ⟨I', tok', h1, h2, h3, _⟩ := h.freezeAll vs
  refine ⟨I', tok', h1, h2, h3, fun s hs T v d hv hd => ?_⟩
  have hF := frz_all st vs
  have hd' := hF.dataOf hd
  have hv' : ORep w I' tok' (st.freezeAll vs) tm s v := hF.rep h2 hv hd
  -- what is hung on is frozen
  have hfz : ∀ g, g ∈ homes vs → ∀ t nl l, (st.freezeAll vs).slot g ≠ .own t nl l := by
    unfold St.freezeAll
    generalize homes vs = hs'
    intro g hg t nl l
    induction hs' generalizing st with
    | nil => cases hg
    | cons a r ih =>
      simp only [List.foldl_cons]
      have key : ∀ (l' : List Nat) (s0 : St), (∀ t nl l, s0.slot g ≠ .own t nl l) → ∀ t nl l, (l'.foldl St.freeze s0).slot g ≠ .own t nl l := by
        intro l'
        induction l' with
        | nil => intro s0 h0; exact h0
        | cons b l' ih2 =>
          intro s0 h0
          refine ih2 _ ?_
          intro t nl l e
          unfold St.freeze at e
          split at e
          · rename_i u nlu lu hb
            have hbl := home_lt s0 b (by rw [hb]; rfl)
            have := slot_set { s0 with sl := s0.sl.map (SV.offE b) } b g (.p ⟨.sl u, lu⟩) (by simpa using hbl)
            rw [slot_map s0 (SV.offE b) rfl] at this
            rw [show ({ s0 with sl := (s0.sl.map (SV.offE b)).set b (.p ⟨.sl u, lu⟩) } : St).slot g = _ from this] at e
            split at e
            · cases e
            · cases hq : s0.slot g with
              | own a1 a2 a3 => exact h0 _ _ _ hq
              | pe => rw [hq] at e; simp only [SV.offE] at e; split at e <;> cases e
              | _ => rw [hq] at e; cases e
          · exact h0 _ _ _ e
      by_cases hga : g = a
      · subst hga
        refine key r _ ?_ t nl l
        intro t nl l e
        unfold St.freeze at e
        split at e
        · rename_i u nlu lu hb
          have hbl := home_lt st g (by rw [hb]; rfl)
          have := slot_set { st with sl := st.sl.map (SV.offE g) } g g (.p ⟨.sl u, lu⟩) (by simpa using hbl)
          simp only [if_true] at this
          rw [show ({ st with sl := (st.sl.map (SV.offE g)).set g (.p ⟨.sl u, lu⟩) } : St).slot g = _ from this] at e
          cases e
        · rename_i hn; exact hn _ _ _ e
      · have hgr : g ∈ r := by
          rcases List.mem_cons.1 hg with e | e
          · exact absurd e hga
          · exact e
        by_cases hgh : g ∈ r
        · clear ih
          -- somewhere in r it is frozen
          have : ∀ (l' : List Nat) (s0 : St), g ∈ l' → ∀ t nl l, (l'.foldl St.freeze s0).slot g ≠ .own t nl l := by
            intro l'
            induction l' with
            | nil => intro s0 hm; cases hm
            | cons b l' ih2 =>
              intro s0 hm
              simp only [List.foldl_cons]
              by_cases hb : g = b
              · subst hb
                refine key l' _ ?_
                intro t nl l e
                unfold St.freeze at e
                split at e
                · rename_i u nlu lu hb
                  have hbl := home_lt s0 g (by rw [hb]; rfl)
                  have := slot_set { s0 with sl := s0.sl.map (SV.offE g) } g g (.p ⟨.sl u, lu⟩) (by simpa using hbl)
                  simp only [if_true] at this
                  rw [show ({ s0 with sl := (s0.sl.map (SV.offE g)).set g (.p ⟨.sl u, lu⟩) } : St).slot g = _ from this] at e
                  cases e
                · rename_i hn; exact hn _ _ _ e
              · rcases List.mem_cons.1 hm with e | e
                · exact absurd e hb
                · exact ih2 _ e
          exact this r _ hgr t nl l
        · exact absurd hgr hgh
  have hmem : ∀ {l : List SV}, s ∈ l → (∀ g, s = .rf g → g ∈ homes l) ∧ (∀ g t lo n, s = .rs g t lo n → g ∈ homes l) := by
    intro l
    induction l with
    | nil => intro hm; cases hm
    | cons a r ih =>
      intro hm
      rcases List.mem_cons.1 hm with e | e
      · subst e
        exact ⟨fun g e => by subst e; simp [homes], fun g t lo n e => by subst e; simp [homes]⟩
      · obtain ⟨i1, i2⟩ := ih e
        refine ⟨fun g e => ?_, fun g t lo n e => ?_⟩
        · cases a <;> simp only [homes, List.mem_cons] <;> first | exact .inr (i1 g e) | exact i1 g e
        · cases a <;> simp only [homes, List.mem_cons] <;> first | exact .inr (i2 g t lo n e) | exact i2 g t lo n e
  -- nothing more is frozen by freezing it again
  have hagain : (st.freezeAll vs).freezeAll [s] = st.freezeAll vs := by
    have one : ∀ g, g ∈ homes vs → (st.freezeAll vs).freeze g = st.freezeAll vs := by
      intro g hg
      unfold St.freeze
      split
      · rename_i t nl l e; exact absurd e (hfz g hg t nl l)
      · rfl
    cases s with
    | rf g => exact one g ((hmem hs).1 g rfl)
    | rs g t lo n => exact one g ((hmem hs).2 g t lo n rfl)
    | _ => rfl
  -- so its data reads under the same blocks
  rcases dataOf_seq hd' with ⟨e, rfl⟩ | rfl | rfl | ⟨x, hx, rfl, hg⟩
  · simp only [dataOf, Option.some.injEq] at hd'; subst hd'; exact hv'.p
  · simp only [dataOf] at hd'
    split at hd'
    · simp only [Option.some.injEq] at hd'; subst hd'
      have e : v = .slice none 0 0 := hv'
      rw [e]
      simp only [valRep, Ty.isAgg, Bool.false_eq_true, if_false]
      exact ⟨none, 0, rfl, Nat.le_refl _, .inl rfl⟩
    · cases hd'
  · simp only [dataOf] at hd'
    split at hd'
    · simp only [Option.some.injEq] at hd'; subst hd'
      have e : v = .pointer none := hv'
      rw [e]
      simp [valRep, Ty.isAgg, cellsRep]
    · cases hd'
  · -- a slice of a frozen slot
    exact frozen_data h1 hv' hx (by
      rcases hg with ⟨g, rfl⟩ | ⟨g, t, lo, n, rfl⟩
      · exact .inl ⟨g, rfl, hfz g ((hmem hs).1 g rfl)⟩
      · exact .inr ⟨g, t, lo, n, rfl, hfz g ((hmem hs).2 g t lo n rfl)⟩)
end Go.Own
