/- What is proved: drawn regions and whole codes are sound. Conditions: those that each theorem names. -/
import Derived.Test.YtipheoipbjakfaaCoE
import Derived.Orders
import Derived.LoopN
import Derived.Scope
set_option linter.unusedVariables false
set_option linter.unusedSimpArgs false
/- What a local operation depends on. -/
set_option linter.unusedVariables false
namespace Go.Own
variable {P : Program} {E : Env} {st st' : St} {o : Oper}

/-- Two states say the same of what a value hangs on. -/
def Agree (st st' : St) (x : SV) : Prop := ∀ d ∈ refs x, st.slot d = st'.slot d ∧ st.box d = st'.box d

theorem Agree.slot {h : Nat} {x : SV} (ha : Agree st st' x) (hm : h ∈ refs x) : st.slot h = st'.slot h := (ha h hm).1

theorem seqOf_frame {x : SV} (ha : Agree st st' x) : seqOf st x = seqOf st' x := by
  cases x with
  | rf h => simp only [seqOf]; rw [ha.slot (by simp [refs])]
  | rs h t lo n => simp only [seqOf]; rw [ha.slot (by simp [refs])]
  | p d => obtain ⟨t, y⟩ := d; cases t <;> rfl
  | _ => rfl

theorem dataOf_frame {T : TypeId} {x : SV} (ha : Agree st st' x) : dataOf E st T x = dataOf E st' T x := by
  have := seqOf_frame ha
  cases x <;> first | rfl | (simp only [dataOf]; rw [this])

theorem loadS_frame {x : SV} (ha : Agree st st' x) : loadS st x = loadS st' x := by
  cases x with
  | pb s t pa => simp only [loadS]; rw [(ha s (by simp [refs])).2]
  | pe h t0 i t pa => simp only [loadS]; rw [ha.slot (by simp [refs])]
  | p d => obtain ⟨t, y⟩ := d; cases t <;> first | rfl | (cases y <;> rfl)
  | _ => rfl

theorem isNilS_frame {x : SV} (ha : Agree st st' x) : isNilS st x = isNilS st' x := by
  cases x with
  | rf h => simp only [isNilS]; rw [ha.slot (by simp [refs])]
  | p d => obtain ⟨t, y⟩ := d; cases t <;> rfl
  | _ => rfl

theorem idxAddr_frame {T : TypeId} {x i : SV} (ha : Agree st st' x) : idxAddr E st T x i = idxAddr E st' T x i := by
  unfold idxAddr
  split
  · rfl
  · cases x with
    | rf h => simp only; rw [ha.slot (by simp [refs])]
    | rs h t lo n => simp only; rw [ha.slot (by simp [refs])]
    | p d => obtain ⟨t, y⟩ := d; cases t <;> rfl
    | _ => rfl
  · rfl

theorem lenS_frame {T : TypeId} {x : SV} (ha : Agree st st' x) : lenS E st T x = lenS E st' T x := by
  have := seqOf_frame ha
  cases x with
  | p d => obtain ⟨t, y⟩ := d; cases t <;> first | rfl | (simp only [lenS]; rw [this])
  | _ => simp only [lenS]; rw [this]

theorem sliceS_frame {x : SV} {lo hi : Option SV} (ha : Agree st st' x) : sliceS st x lo hi = sliceS st' x lo hi := by
  cases x with
  | rf h => simp only [sliceS]; rw [ha.slot (by simp [refs])]
  | p d => obtain ⟨t, y⟩ := d; cases t <;> rfl
  | _ => rfl

theorem binop_frame {tx : Option Ty} {op : BinOp} {x y : SV} (hx : Agree st st' x) (hy : Agree st st' y) : binop st tx op x y = binop st' tx op x y := by
  have h1 := isNilS_frame hx
  have h2 := isNilS_frame hy
  unfold binop
  split <;> first | rfl | (rw [h1]) | (rw [h2]) | skip

theorem ev_tup {i : Nat} {l : List SV} : ev st (.tmp i) = .tup l ↔ st.slot i = .tup l := by
  simp only [ev]
  cases st.slot i <;> simp

theorem extract_frame {β : Type} {i : Nat} (he : ev st (.tmp i) = ev st' (.tmp i)) (f : List SV → Option β) : (match st.slot i with | .tup l => f l | _ => none) = (match st'.slot i with | .tup l => f l | _ => none) := by
  by_cases h : ∃ l, st.slot i = .tup l
  · obtain ⟨l, hl⟩ := h
    have := ev_tup.2 hl
    rw [he] at this
    rw [hl, ev_tup.1 this]
  · have h' : ¬ ∃ l, st'.slot i = .tup l := fun ⟨l, hl⟩ => h ⟨l, by
      have := ev_tup.2 hl
      rw [← he] at this
      exact ev_tup.1 this⟩
    split
    · rename_i l hl; exact absurd ⟨l, hl⟩ h
    · split
      · rename_i l hl; exact absurd ⟨l, hl⟩ h'
      · rfl

/-- The operands are the same, and what they hang on; of a pick, those that count. -/
def OpsAgree (st st' : St) (o : Oper) : Prop :=
  match o.op with
  | .pick c a b => (ev st c = ev st' c ∧ Agree st st' (ev st c)) ∧ ∀ x, x = a ∨ x = b → ev st x = ev st' x ∨ ((ev st x).isData = false ∧ (ev st' x).isData = false)
  | op => ∀ x ∈ op.operands.toList, ev st x = ev st' x ∧ Agree st st' (ev st x)

theorem partsOf_frame {parts : List (Nat × Operand)} (h : ∀ x ∈ parts.map (·.2), ev st x = ev st' x ∧ Agree st st' (ev st x)) : partsOf E st parts = partsOf E st' parts := by
  unfold partsOf
  apply List.map_congr_left
  intro q hq
  obtain ⟨h1, h2⟩ := h q.2 (List.mem_map.2 ⟨q, hq, rfl⟩)
  obtain ⟨i, x⟩ := q
  simp only at h1 h2 ⊢
  congr 1
  rw [← h1]
  have hd := dataOf_frame (E := E) (T := 0) h2
  generalize ev st x = s at hd
  cases s <;> first | rfl | (simp only; rw [hd])

theorem argOf_frame {sites : List Nat} {T : TypeId} {v : SV} (h : Agree st st' v) : argOf E st sites T v = argOf E st' sites T v := by
  have := dataOf_frame (E := E) (T := T) h
  cases v <;> first | rfl | (simp only [argOf]; rw [this])

theorem argsOf_frame {sites : List Nat} : ∀ {vs : List SV} {Ts : List TypeId}, (∀ v ∈ vs, Agree st st' v) → argsOf E st sites Ts vs = argsOf E st' sites Ts vs := by
  intro vs
  induction vs with
  | nil => intro Ts _; cases Ts <;> rfl
  | cons v vs ih =>
    intro Ts h
    have h1 := h v (by simp)
    have h2 : ∀ v ∈ vs, Agree st st' v := fun u hu => h u (by simp [hu])
    cases Ts with
    | nil => simp only [argsOf]; rw [argOf_frame h1, ih h2]
    | cons T Ts => simp only [argsOf]; rw [argOf_frame h1, ih h2]

theorem boolOf_frame {a a' : SV} (ha : a = a' ∨ (a.isData = false ∧ a'.isData = false)) : boolOf a = boolOf a' := by
  rcases ha with rfl | ⟨h1, h2⟩
  · rfl
  · have : ∀ x : SV, x.isData = false → boolOf x = none := by
      intro x hx
      cases x <;> first | rfl | cases hx
    rw [this a h1, this a' h2]
theorem pickS_frame {c a b a' b' : SV} (ha : a = a' ∨ (a.isData = false ∧ a'.isData = false)) (hb : b = b' ∨ (b.isData = false ∧ b'.isData = false)) : pickS c a b = pickS c a' b' := by
  unfold pickS
  rw [boolOf_frame ha, boolOf_frame hb]

theorem freezePs_frame {hs : List Nat} : ∀ {done : List Nat}, (∀ h ∈ hs, st.slot h = st'.slot h) → freezePs st done hs = freezePs st' done hs := by
  induction hs with
  | nil => intro done _; rfl
  | cons h hs ih =>
    intro done hh
    simp only [freezePs]
    rw [hh h (by simp), ih (done := done) fun x hx => hh x (by simp [hx])]
    split
    · rename_i t nl l e; rw [ih (done := h :: done) fun x hx => hh x (by simp [hx])]
    · rfl

theorem homes_refs : ∀ (vs : List SV) (h : Nat), h ∈ homes vs → ∃ v ∈ vs, h ∈ refs v := by
  intro vs
  induction vs with
  | nil => intro h hh; cases hh
  | cons v vs ih =>
    intro h hh
    cases v <;> simp only [homes, List.mem_cons] at hh
    case rf g =>
      rcases hh with rfl | hh
      · exact ⟨_, List.mem_cons_self, List.mem_singleton.2 rfl⟩
      · obtain ⟨v, h1, h2⟩ := ih h hh; exact ⟨v, by simp [h1], h2⟩
    case rs g t lo n =>
      rcases hh with rfl | hh
      · exact ⟨_, List.mem_cons_self, List.mem_singleton.2 rfl⟩
      · obtain ⟨v, h1, h2⟩ := ih h hh; exact ⟨v, by simp [h1], h2⟩
    all_goals obtain ⟨v, h1, h2⟩ := ih h hh; exact ⟨v, by simp [h1], h2⟩

theorem freeze_frame {vs : List SV} (h : ∀ v ∈ vs, Agree st st' v) : freezePs st [] (homes vs) = freezePs st' [] (homes vs) :=
  freezePs_frame fun g hg => by
    obtain ⟨v, h1, h2⟩ := homes_refs vs g hg
    exact (h v h1).slot h2

theorem sitesOf_refs : ∀ (vs : List SV) (acc : List Nat) (s : Nat), s ∈ sitesOf vs acc → s ∈ acc ∨ ∃ v ∈ vs, s ∈ refs v := by
  have add : ∀ (l : List Nat) (a s : Nat), s ∈ addSite l a → s ∈ l ∨ s = a := by
    intro l a s h
    unfold addSite at h
    cases hc : l.contains a <;> rw [hc] at h
    · simpa using h
    · exact .inl h
  intro vs
  induction vs with
  | nil => intro acc s h; exact .inl h
  | cons v vs ih =>
    intro acc s h
    cases v with
    | pb r t pa =>
      simp only [sitesOf] at h
      rcases ih _ _ h with h | ⟨v, h1, h2⟩
      · rcases add _ _ _ h with h | rfl
        · exact .inl h
        · exact .inr ⟨_, List.mem_cons_self, List.mem_singleton.2 rfl⟩
      · exact .inr ⟨v, by simp [h1], h2⟩
    | clo f caps =>
      simp only [sitesOf] at h
      rcases ih _ _ h with h | ⟨v, h1, h2⟩
      · have : ∀ (caps : List SV) (acc : List Nat), s ∈ caps.foldl (fun a (c : SV) => match c with | .pb s _ _ => addSite a s | _ => a) acc → s ∈ acc ∨ s ∈ refs (.clo f caps) := by
          intro caps
          induction caps with
          | nil => intro acc h; exact .inl h
          | cons c caps ih2 =>
            intro acc h
            simp only [List.foldl_cons] at h
            rcases ih2 _ h with h | h
            · cases c <;> simp only at h <;> first | exact .inl h | skip
              rcases add _ _ _ h with h | rfl
              · exact .inl h
              · exact .inr (by simp [refs])
            · refine .inr ?_
              simp only [refs, List.filterMap_cons] at h ⊢
              split
              · exact h
              · exact List.mem_cons_of_mem _ h
        rcases this caps acc h with h | h
        · exact .inl h
        · exact .inr ⟨_, by simp, h⟩
      · exact .inr ⟨v, by simp [h1], h2⟩
    | _ =>
      simp only [sitesOf] at h
      rcases ih _ _ h with h | ⟨v, h1, h2⟩
      · exact .inl h
      · exact .inr ⟨v, by simp [h1], h2⟩

theorem storeP_frame {d : DV} {a : SV} (h : Agree st st' a) : storeP st d a = storeP st' d a := by
  cases a with
  | pb s t pa => simp only [storeP]; rw [(h s (by simp [refs])).2]
  | pe q t0 i t pa => simp only [storeP]; rw [h.slot (by simp [refs])]
  | _ => rfl

theorem assignP_frame {d : Nat} {T : TypeId} {v : SV} (h : Agree st st' v) : assignP E d T v st = assignP E d T v st' := by
  cases v with
  | rf g => simp only [assignP]; rw [h.slot (by simp [refs])]
  | rs g t lo n =>
    have hg := h.slot (h := g) (by simp [refs])
    simp only [assignP]
    rw [hg, freezePs_frame (hs := [g]) (done := []) (by simpa using hg)]
  | _ => rfl

theorem moreOf_frame {T : TypeId} {v : SV} (h : Agree st st' v) : moreOf E st T v = moreOf E st' T v := by
  have := seqOf_frame h
  cases v with
  | p d => obtain ⟨t, y⟩ := d; cases t <;> first | rfl | (simp only [moreOf]; rw [this])
  | _ => first | rfl | (simp only [moreOf]; rw [this])

theorem appendP_frame {T : TypeId} {x y : SV} (hx : Agree st st' x) (hy : Agree st st' y) : appendP E T x y st = appendP E T x y st' := by
  unfold appendP
  rw [moreOf_frame hy]
  split
  · cases x with
    | rf g => simp only; rw [hx.slot (by simp [refs])]
    | rs g t lo n => simp only; rw [hx.slot (by simp [refs])]
    | _ => rfl
  · rfl

theorem builtinP_frame {b : Builtin} {Ts : List TypeId} {vs : List SV} (h : ∀ v ∈ vs, Agree st st' v) : builtinP E b Ts vs st = builtinP E b Ts vs st' := by
  unfold builtinP
  split
  · rw [lenS_frame (h _ (by simp))]
  · split
    · exact appendP_frame (h _ (by simp)) (h _ (by simp))
    · exact appendP_frame (h _ (by simp)) (h _ (by simp))
    · rfl
  · rfl
  · rfl
  · rfl

theorem capS_frame {v : SV} (h : Agree st st' v) : capS E st v = capS E st' v := by
  have := dataOf_frame (E := E) (T := 0) h
  cases v <;> first | rfl | (simp only [capS]; rw [this])

theorem opP_frame (h : OpsAgree st st' o) : opP E o st = opP E o st' := by
  cases ho : o.op with
  | pick c a b =>
    simp only [OpsAgree, ho] at h
    simp only [opP, ho]
    rw [← h.1.1, pickS_frame (h.2 a (.inl rfl)) (h.2 b (.inr rfl))]
  | alloc T => simp only [opP, ho]
  | move x =>
    simp only [OpsAgree, ho] at h
    obtain ⟨h1, h2⟩ := h x (by simp [Op.operands])
    simp only [opP, ho]; rw [← h1]
    cases ev st x <;> rfl
  | assign x =>
    simp only [OpsAgree, ho] at h
    obtain ⟨h1, h2⟩ := h x (by simp [Op.operands])
    simp only [opP, ho]; rw [← h1]
    cases o.dst with
    | none => rfl
    | some d => simp only; rw [assignP_frame h2]
  | box T x =>
    simp only [OpsAgree, ho] at h
    obtain ⟨h1, h2⟩ := h x (by simp [Op.operands])
    simp only [opP, ho]; rw [← h1, dataOf_frame h2, freeze_frame (vs := [ev st x]) (by simpa using h2)]
  | load T a =>
    simp only [OpsAgree, ho] at h
    obtain ⟨h1, h2⟩ := h a (by simp [Op.operands])
    simp only [opP, ho]; rw [← h1, loadS_frame h2]
  | store T a x =>
    simp only [OpsAgree, ho] at h
    obtain ⟨h1, h2⟩ := h a (by simp [Op.operands])
    obtain ⟨h3, h4⟩ := h x (by simp [Op.operands])
    simp only [opP, ho]; rw [← h1, ← h3, dataOf_frame h4]
    split
    · rw [storeP_frame h2]
    · rfl
  | nilCheck x =>
    simp only [OpsAgree, ho] at h
    obtain ⟨h1, _⟩ := h x (by simp [Op.operands])
    simp only [opP, ho]; rw [← h1]
  | binOp op T x y T' =>
    simp only [OpsAgree, ho] at h
    obtain ⟨h1, h2⟩ := h x (by simp [Op.operands])
    obtain ⟨h3, h4⟩ := h y (by simp [Op.operands])
    simp only [opP, ho]; rw [← h1, ← h3, binop_frame h2 h4]
  | unOp op T x =>
    simp only [OpsAgree, ho] at h
    obtain ⟨h1, _⟩ := h x (by simp [Op.operands])
    simp only [opP, ho]; rw [← h1]
  | convert S T x =>
    simp only [OpsAgree, ho] at h
    obtain ⟨h1, h2⟩ := h x (by simp [Op.operands])
    simp only [opP, ho]; rw [← h1, seqOf_frame h2]
  | build T parts =>
    simp only [OpsAgree, ho] at h
    have hp : ∀ x ∈ parts.toList.map (·.2), ev st x = ev st' x ∧ Agree st st' (ev st x) := fun x hx => h x (by simpa [Op.operands] using hx)
    simp only [opP, ho]
    rw [partsOf_frame hp]
    have e : (parts.toList.map fun (_, x) => ev st x) = parts.toList.map fun (_, x) => ev st' x := List.map_congr_left fun q hq => (hp q.2 (List.mem_map.2 ⟨q, hq, rfl⟩)).1
    have f := freeze_frame (st := st) (st' := st') (vs := parts.toList.map fun (_, x) => ev st x) (fun v hv => by
      obtain ⟨q, hq, rfl⟩ := List.mem_map.1 hv
      exact (hp q.2 (List.mem_map.2 ⟨q, hq, rfl⟩)).2)
    rw [f, e]
  | buildSlice T n parts =>
    simp only [OpsAgree, ho] at h
    have hp : ∀ x ∈ parts.toList.map (·.2), ev st x = ev st' x ∧ Agree st st' (ev st x) := fun x hx => h x (by simpa [Op.operands] using hx)
    simp only [opP, ho]
    rw [partsOf_frame hp]
    have e : (parts.toList.map fun (_, x) => ev st x) = parts.toList.map fun (_, x) => ev st' x := List.map_congr_left fun q hq => (hp q.2 (List.mem_map.2 ⟨q, hq, rfl⟩)).1
    have f := freeze_frame (st := st) (st' := st') (vs := parts.toList.map fun (_, x) => ev st x) (fun v hv => by
      obtain ⟨q, hq, rfl⟩ := List.mem_map.1 hv
      exact (hp q.2 (List.mem_map.2 ⟨q, hq, rfl⟩)).2)
    rw [f, e]
  | makeFunc f first caps =>
    cases f with
    | func f =>
      simp only [OpsAgree, ho] at h
      have hp : ∀ x ∈ caps.toList, ev st x = ev st' x ∧ Agree st st' (ev st x) := fun x hx => h x (by simp [Op.operands]; right; simpa using hx)
      simp only [opP, ho]
      have e1 : caps.toList.map (ev st) = caps.toList.map (ev st') := List.map_congr_left fun x hx => (hp x hx).1
      have e2 : ∀ l : List Operand, (∀ x ∈ l, x ∈ caps.toList) → l.mapM (fun x => capS E st (ev st x)) = l.mapM (fun x => capS E st' (ev st' x)) := by
        intro l hl
        induction l with
        | nil => rfl
        | cons x l ih =>
          obtain ⟨h1, h2⟩ := hp x (hl x (by simp))
          simp only [List.mapM_cons, ih fun y hy => hl y (by simp [hy]), ← h1, capS_frame h2]
      have f := freeze_frame (st := st) (st' := st') (vs := caps.toList.map (ev st)) (fun v hv => by
        obtain ⟨q, hq, rfl⟩ := List.mem_map.1 hv
        exact (hp q hq).2)
      rw [e2 _ (fun _ h => h), f, e1]
    | _ => simp only [opP, ho]
  | makeSlice T l c =>
    simp only [OpsAgree, ho] at h
    obtain ⟨h1, _⟩ := h l (by simp [Op.operands])
    obtain ⟨h2, _⟩ := h c (by simp [Op.operands])
    simp only [opP, ho]; rw [← h1, ← h2]
  | slice T x lo hi mx =>
    simp only [OpsAgree, ho] at h
    obtain ⟨h1, h2⟩ := h x (by simp [Op.operands])
    have hl : lo.map (ev st) = lo.map (ev st') := by
      cases lo with
      | none => rfl
      | some q => simp only [Option.map_some]; rw [(h q (by simp [Op.operands])).1]
    have hh : hi.map (ev st) = hi.map (ev st') := by
      cases hi with
      | none => rfl
      | some q => simp only [Option.map_some]; rw [(h q (by simp [Op.operands])).1]
    cases mx with
    | none => simp only [opP, ho]; rw [← hl, ← hh, ← h1, sliceS_frame h2]
    | some m => simp only [opP, ho]
  | fieldAddr T x f =>
    simp only [OpsAgree, ho] at h
    obtain ⟨h1, _⟩ := h x (by simp [Op.operands])
    simp only [opP, ho]; rw [← h1]
  | field T x f =>
    simp only [OpsAgree, ho] at h
    obtain ⟨h1, _⟩ := h x (by simp [Op.operands])
    simp only [opP, ho]; rw [← h1]
  | indexAddr T x i =>
    simp only [OpsAgree, ho] at h
    obtain ⟨h1, h2⟩ := h x (by simp [Op.operands])
    obtain ⟨h3, _⟩ := h i (by simp [Op.operands])
    simp only [opP, ho]; rw [← h1, ← h3, idxAddr_frame h2]
  | index T x i =>
    simp only [OpsAgree, ho] at h
    obtain ⟨h1, h2⟩ := h x (by simp [Op.operands])
    obtain ⟨h3, _⟩ := h i (by simp [Op.operands])
    simp only [opP, ho]; rw [← h1, ← h3]
  | extract t j =>
    cases t with
    | tmp i =>
      simp only [OpsAgree, ho] at h
      obtain ⟨h1, h2⟩ := h (.tmp i) (by simp [Op.operands])
      simp only [opP, ho]
      exact extract_frame h1 _
    | _ => simp only [opP, ho]
  | call c =>
    simp only [OpsAgree, ho] at h
    have hargs : ∀ x ∈ c.args.toList, ev st x = ev st' x ∧ Agree st st' (ev st x) := fun x hx => h x (by simp only [Op.operands, Call.operands]; cases c.callee <;> simp_all)
    have hm : c.args.toList.map (ev st) = c.args.toList.map (ev st') := List.map_congr_left fun x hx => (hargs x hx).1
    have hA : ∀ v ∈ c.args.toList.map (ev st), Agree st st' v := by
      intro v hv
      obtain ⟨x, hx, rfl⟩ := List.mem_map.1 hv
      exact (hargs x hx).2
    simp only [opP, ho]
    rw [← hm]
    cases hc : c.callee with
    | builtin b => simp only; exact builtinP_frame hA
    | _ => rfl
  | _ => simp only [opP, ho]

theorem callP_frame {D : CallD} {f : FuncId} {Ts : List TypeId} {vs : List SV} (h : ∀ v ∈ vs, Agree st st' v) : callP E D f Ts vs st = callP E D f Ts vs st' := by
  unfold callP
  rw [argsOf_frame h, freeze_frame h]
  have : ∀ l : List Nat, (∀ s ∈ l, ∃ v ∈ vs, s ∈ refs v) → l.mapM st.box = l.mapM st'.box := by
    intro l
    induction l with
    | nil => intro _; rfl
    | cons s l ih =>
      intro hl
      obtain ⟨v, h1, h2⟩ := hl s (by simp)
      simp only [List.mapM_cons, ih fun x hx => hl x (by simp [hx]), (h v h1 s h2).2]
  rw [this _ fun s hs => by
    rcases sitesOf_refs vs [] s hs with h | h
    · cases h
    · exact h]

theorem calleeOf_frame (h : OpsAgree st st' o) : calleeOf st o = calleeOf st' o := by
  unfold calleeOf
  cases ho : o.op with
  | call c =>
    simp only [OpsAgree, ho] at h
    have hargs : ∀ x ∈ c.args.toList, ev st x = ev st' x ∧ Agree st st' (ev st x) := fun x hx => h x (by simp only [Op.operands, Call.operands]; cases c.callee <;> simp_all)
    have hm : c.args.toList.map (ev st) = c.args.toList.map (ev st') := List.map_congr_left fun x hx => (hargs x hx).1
    simp only
    rw [← hm]
    cases hc : c.callee with
    | value x =>
      have hx := (h x (by simp [Op.operands, Call.operands, hc])).1
      cases x <;> simp only <;> rw [← hx]
    | _ => rfl
  | _ => rfl

theorem calleeOf_vs {f : FuncId} {Ts : List TypeId} {vs : List SV} (h : OpsAgree st st' o) (hok : capsOK st o = true) (hc : calleeOf st o = some (f, Ts, vs)) : ∀ v ∈ vs, Agree st st' v := by
  unfold calleeOf at hc
  split at hc
  · rename_i c ho
    simp only [OpsAgree, ho] at h
    have hargs : ∀ x ∈ c.args.toList, ev st x = ev st' x ∧ Agree st st' (ev st x) := fun x hx => h x (by simp only [Op.operands, Call.operands]; cases c.callee <;> simp_all)
    have hA : ∀ v ∈ c.args.toList.map (ev st), Agree st st' v := by
      intro v hv
      obtain ⟨x, hx, rfl⟩ := List.mem_map.1 hv
      exact (hargs x hx).2
    split at hc
    · simp only [Option.some.injEq, Prod.mk.injEq] at hc; obtain ⟨_, _, rfl⟩ := hc; exact hA
    · rename_i x _ hcal
      split at hc
      · rename_i g caps hx
        simp only [Option.some.injEq, Prod.mk.injEq] at hc; obtain ⟨_, _, rfl⟩ := hc
        have hxa := (h x (by simp [Op.operands, Call.operands, hcal])).2
        rw [hx] at hxa
        intro v hv
        rcases List.mem_append.1 hv with hv | hv
        · exact hA v hv
        · have hok' : caps.all SV.capOK = true := by
            unfold capsOK at hok
            simpa only [ho, hcal, hx] using hok
          have hck := List.all_eq_true.1 hok' v hv
          intro d hd
          cases v <;> simp only [refs, List.not_mem_nil] at hd <;> simp only [SV.capOK] at hck <;> try (cases hck; done)
          rename_i s _ _ _
          have e : d = s := List.mem_singleton.1 hd
          subst e
          exact hxa d (by simp only [refs]; exact List.mem_filterMap.2 ⟨_, hv, rfl⟩)
      · cases hc
    · cases hc
  · cases hc
theorem capsOK_frame (h : OpsAgree st st' o) : capsOK st o = capsOK st' o := by
  unfold capsOK
  cases ho : o.op with
  | call c =>
    simp only [OpsAgree, ho] at h
    cases hc : c.callee with
    | value x => simp only [hc]; rw [(h x (by simp [Op.operands, Call.operands, hc])).1]
    | _ => simp only [hc]
  | _ => rfl

theorem opPD_frame {D : CallD} (h : OpsAgree st st' o) : opPD E D o st = opPD E D o st' := by
  unfold opPD
  rw [calleeOf_frame h, capsOK_frame h]
  cases hc : calleeOf st' o with
  | none => exact opP_frame h
  | some q =>
    obtain ⟨f, Ts, vs⟩ := q
    simp only
    cases hk : capsOK st' o with
    | false => rfl
    | true => exact callP_frame (calleeOf_vs h (by rw [capsOK_frame h]; exact hk) (by rw [calleeOf_frame h]; exact hc))
end Go.Own

/- Regions whose order is drawn: every order comes to the same. -/
set_option linter.unusedVariables false
namespace Go.Own
variable {P : Program} {E : Env} {w0 w w' : World} {I0 I : Nat → Prop} {xs : List Nat} {st st' : St} {tm : Array Value} {tok : Tok} {ds : List Deferred} {o : Oper} {D : CallD} {all : List Oper}

def goD (E : Env) (D : CallD) (o : Oper) (g : List Nat) (st : St) : Option (Rec × List Pm) :=
  match opPD E D o st with
  | some (true, e) => some (recOf o g (looks o st) o.op.operands.toList st (fullPs o.dst e st), fullPs o.dst e st)
  | _ => none
def skipD (o : Oper) (g : Nat) (st : St) : Rec × List Pm := (recOf o [g] [] [] st (fullPs o.dst ⟨[], some .und⟩ st), fullPs o.dst ⟨[], some .und⟩ st)

/-- One operation under its guard. -/
def stepD (E : Env) (D : CallD) (all : List Oper) (o : Oper) (st : St) : Option (Rec × List Pm) :=
  match guardOf all o with
  | some none => goD E D o [] st
  | some (some (d, want)) => match st.slot d with
    | .p ⟨.bool, b⟩ => if b = want then goD E D o [d] st else some (skipD o d st)
    | .und => some (skipD o d st)
    | _ => none
  | none => none

theorem set_self {d : Nat} {v : SV} (h : st.slot d = v) (hv : v ≠ .dead) : ({ st with sl := st.sl.set d v } : St) = st := by
  have hl := slot_lt h hv
  have : st.sl.set d v = st.sl := by
    apply List.ext_getElem?
    intro i
    rw [List.getElem?_set]
    split
    · rename_i e; subst e
      have h2 : st.slot d = st.sl[d] := by unfold St.slot; simp [List.getD_eq_getElem?_getD, List.getElem?_eq_getElem hl]
      rw [List.getElem?_eq_getElem hl, ← h2, h]
    · rfl
  rw [this]

theorem drawOp_step {R : Type} {r : R} {k : Rec → List Pm → St → Option R} (h : drawOp E D all o st k = some r) : ∃ rc ps, stepD E D all o st = some (rc, ps) ∧ k rc ps st = some r := by
  have go : ∀ {g : List Nat}, (match opPD E D o st with
      | some (c, e) => req c (k (recOf o g (looks o st) o.op.operands.toList st (fullPs o.dst e st)) (fullPs o.dst e st) st)
      | none => none) = some r → ∃ rc ps, goD E D o g st = some (rc, ps) ∧ k rc ps st = some r := by
    intro g hh
    unfold goD
    split at hh
    · rename_i c e he
      cases c with
      | false => cases hh
      | true => rw [he]; exact ⟨_, _, rfl, hh⟩
    · cases hh
  unfold drawOp at h
  unfold stepD
  simp only at h
  split at h
  · rename_i hg; simp only [hg]; exact go h
  · rename_i d want hg
    simp only [hg]
    split at h
    · rename_i b hb
      simp only [hb]
      have e : ∀ b', b' = b → ({ st with sl := st.sl.set d (.p ⟨.bool, b'⟩) } : St) = st := by
        rintro b' rfl; exact set_self hb (by intro q; cases q)
      cases b <;> cases want <;> simp only [cond_true, cond_false] at h
      · rw [e false rfl] at h; rw [if_pos rfl]; exact go h
      · rw [e false rfl] at h; rw [if_neg (by decide)]; exact ⟨_, _, rfl, h⟩
      · rw [e true rfl] at h; rw [if_neg (by decide)]; exact ⟨_, _, rfl, h⟩
      · rw [e true rfl] at h; rw [if_pos rfl]; exact go h
    · rename_i hb; simp only [hb]; exact ⟨_, _, rfl, h⟩
    · cases h
  · cases h

/-- Two states at which an operation sees the same. -/
structure Near (o : Oper) (g : List Nat) (st st' : St) : Prop where
  len : st.sl.length = st'.sl.length
  gs : ∀ k ∈ g, st.slot k = st'.slot k
  ts : ∀ k ∈ tmpsIn (looks o st), st.slot k = st'.slot k
  hs : ∀ k ∈ (looks o st).flatMap (fun x => refs (ev st x)), st.slot k = st'.slot k ∧ st.box k = st'.box k
  dst : ∀ d, o.dst = some d → (st.slot d).isHome = (st'.slot d).isHome
  data : ∀ k ∈ tmpsIn o.op.operands.toList, (st.slot k).isData = (st'.slot k).isData

theorem ev_eq {x : Operand} (h : ∀ k, x = .tmp k → st.slot k = st'.slot k) : ev st x = ev st' x := by
  cases x with
  | tmp k => simp only [ev]; rw [h k rfl]
  | _ => rfl
theorem ev_data {x : Operand} (h : ∀ k, x = .tmp k → (st.slot k).isData = (st'.slot k).isData) : (ev st x).isData = (ev st' x).isData := by
  cases x with
  | tmp k =>
    have e : ∀ s : St, (ev s (.tmp k)).isData = (s.slot k).isData := by
      intro s; simp only [ev]; cases s.slot k <;> rfl
    rw [e, e, h k rfl]
  | _ => rfl
theorem mem_tmpsIn {xs : List Operand} {k : Nat} (h : Operand.tmp k ∈ xs) : k ∈ tmpsIn xs := List.mem_filterMap.2 ⟨_, h, rfl⟩

theorem looks_all (h : ∀ c a b, o.op ≠ .pick c a b) : looks o st = o.op.operands.toList := by
  unfold looks
  cases ho : o.op <;> first | rfl | exact absurd ho (h _ _ _)

theorem Near.agree {g : List Nat} (h : Near o g st st') : OpsAgree st st' o ∧ looks o st' = looks o st := by
  have one : ∀ x ∈ looks o st, ev st x = ev st' x ∧ Agree st st' (ev st x) := fun x hx =>
    ⟨ev_eq fun k e => h.ts k (mem_tmpsIn (e ▸ hx)), fun d hd => h.hs d (List.mem_flatMap.2 ⟨x, hx, hd⟩)⟩
  by_cases hp : ∃ c a b, o.op = .pick c a b
  · obtain ⟨c, a, b, ho⟩ := hp
    have hdat : ∀ x, x = a ∨ x = b → (ev st x).isData = (ev st' x).isData := fun x hx => ev_data fun k e => h.data k (mem_tmpsIn (by rw [ho, ← e]; rcases hx with rfl | rfl <;> simp [Op.operands]))
    constructor
    · simp only [OpsAgree, ho]
      refine ⟨one c (by simp [looks, ho]), fun x hx => ?_⟩
      cases hd : (ev st x).isData with
      | true => exact .inl (one x (by simp only [looks, ho]; exact List.mem_cons_of_mem _ (List.mem_filter.2 ⟨by rcases hx with rfl | rfl <;> simp, hd⟩))).1
      | false => exact .inr ⟨rfl, by rw [← hdat x hx]; exact hd⟩
    · simp only [looks, ho]
      congr 1
      apply List.filter_congr
      intro x hx
      exact (hdat x (by simpa using hx)).symm
  · have hl : ∀ s, looks o s = o.op.operands.toList := fun s => looks_all fun c a b e => hp ⟨c, a, b, e⟩
    refine ⟨?_, by rw [hl, hl]⟩
    rw [hl] at one
    unfold OpsAgree
    split
    · rename_i c a b ho; exact absurd ⟨c, a, b, ho⟩ hp
    · exact one

theorem fullPs_near {e : Ef} (hl : st.sl.length = st'.sl.length) (hd : ∀ d, o.dst = some d → (st.slot d).isHome = (st'.slot d).isHome) : fullPs o.dst e st = fullPs o.dst e st' := by
  unfold fullPs
  cases e.v with
  | none => rfl
  | some v =>
    cases hod : o.dst with
    | none => rfl
    | some d => simp only; rw [runPs_home e.ps st st' d hl (hd d hod)]

theorem flatMap_congr {α β : Type} {f g : α → List β} : ∀ {l : List α}, (∀ x ∈ l, f x = g x) → l.flatMap f = l.flatMap g
  | [], _ => rfl
  | a :: l, h => by rw [List.flatMap_cons, List.flatMap_cons, h a (by simp), flatMap_congr fun x hx => h x (by simp [hx])]
theorem any_congr {α : Type} {f g : α → Bool} : ∀ {l : List α}, (∀ x ∈ l, f x = g x) → l.any f = l.any g
  | [], _ => rfl
  | a :: l, h => by rw [List.any_cons, List.any_cons, h a (by simp), any_congr fun x hx => h x (by simp [hx])]

theorem goD_near {g : List Nat} (h : Near o g st st') : goD E D o g st' = goD E D o g st := by
  obtain ⟨h1, h2⟩ := h.agree
  unfold goD
  rw [← opPD_frame h1]
  split
  · rename_i e he
    rw [h2, fullPs_near h.len h.dst]
    have hhs : (looks o st).flatMap (fun x => refs (ev st' x)) = (looks o st).flatMap (fun x => refs (ev st x)) := by
      apply flatMap_congr
      intro x hx
      rw [ev_eq (st := st') (st' := st) fun k e => (h.ts k (mem_tmpsIn (e ▸ hx))).symm]
    have hsn : ∀ k ∈ g ++ tmpsIn (looks o st) ++ (looks o st).flatMap (fun x => refs (ev st x)), st'.slot k = st.slot k := by
      intro k hk
      rcases List.mem_append.1 hk with hk | hk
      · rcases List.mem_append.1 hk with hk | hk
        · exact (h.gs k hk).symm
        · exact (h.ts k hk).symm
      · exact (h.hs k hk).1.symm
    have hrec : recOf o g (looks o st) o.op.operands.toList st' (fullPs o.dst e st') = recOf o g (looks o st) o.op.operands.toList st (fullPs o.dst e st') := by
      unfold recOf
      simp only
      rw [hhs]
      congr 1
      · apply flatMap_congr
        intro k hk; rw [hsn k hk]
      · apply any_congr
        intro k hk; rw [hsn k hk]
    rw [hrec]
  · rfl
theorem disj_spec {a b : List Nat} (h : disj a b = true) : ∀ x ∈ a, x ∉ b := by
  intro x hx hb
  have := List.all_eq_true.1 h x hx
  have h2 : b.any (Nat.beq x) = true := List.any_eq_true.2 ⟨x, hb, by simp⟩
  rw [h2] at this; cases this

/-- What two operations need to change their places. -/
structure Ind (j i : Rec) : Prop where
  a : ∀ x ∈ j.ws, x ∉ i.rd
  b : ∀ x ∈ j.ws, x ∉ i.ws
  c : ∀ x ∈ i.ws, x ∉ j.rd
  d : ∀ x ∈ j.wb, x ∉ i.rb
  e : ∀ x ∈ j.wb, x ∉ i.wb
  f : ∀ x ∈ i.wb, x ∉ j.rb
  g : ∀ x ∈ j.tc, x ∉ i.rv
  h : ∀ x ∈ j.tc, x ∉ i.wr
  k : ∀ x ∈ j.tc, x ∉ i.tc
  l : ∀ x ∈ i.tc, x ∉ j.rv
  m : ∀ x ∈ i.tc, x ∉ j.wr
  n : j.tc = [] ∨ i.ded = false

theorem indep_spec {j i : Rec} (h : indep j i = true) : Ind j i := by
  unfold indep at h
  simp only [Bool.and_eq_true, Bool.or_eq_true, List.isEmpty_iff, Bool.not_eq_true'] at h
  obtain ⟨⟨⟨⟨⟨⟨⟨⟨⟨⟨⟨h1, h2⟩, h3⟩, h4⟩, h5⟩, h6⟩, h7⟩, h8⟩, h9⟩, h10⟩, h11⟩, h12⟩ := h
  exact ⟨disj_spec h1, disj_spec h2, disj_spec h3, disj_spec h4, disj_spec h5, disj_spec h6, disj_spec h7, disj_spec h8, disj_spec h9, disj_spec h10, disj_spec h11, h12⟩

/-- What an operation sees, and what its record says of it. -/
theorem near_later {o : Oper} {g : List Nat} {qs : List Pm} {ps : List Pm} {j : Rec} (hj1 : j.ws = ps.flatMap Pm.ws) (hj2 : j.wb = ps.flatMap Pm.wb) (hj3 : j.tc = ps.flatMap Pm.tc)
    (hi : Ind j (recOf o g (looks o (runPs ps st)) o.op.operands.toList (runPs ps st) qs)) : Near o g (runPs ps st) st := by
  have hws : ∀ k, k ∈ (recOf o g (looks o (runPs ps st)) o.op.operands.toList (runPs ps st) qs).rd → k ∉ ps.flatMap Pm.ws := fun k hk hw => hi.a k (hj1 ▸ hw) hk
  have htc : ∀ k, k ∈ (recOf o g (looks o (runPs ps st)) o.op.operands.toList (runPs ps st) qs).rd → Tch (ps.flatMap Pm.tc) (st.slot k) ((runPs ps st).slot k) := fun k hk => runPs_slot ps st k (hws k hk)
  -- the seen ones are the same
  have same : ∀ k, k ∈ g ++ tmpsIn (looks o (runPs ps st)) ++ (looks o (runPs ps st)).flatMap (fun x => refs (ev (runPs ps st) x)) → k ∈ (recOf o g (looks o (runPs ps st)) o.op.operands.toList (runPs ps st) qs).rd → (runPs ps st).slot k = st.slot k := by
    intro k hk hr
    have t := htc k hr
    rcases hi.n with hn | hn
    · rw [hj3] at hn; rw [hn] at t
      exact t.a fun x _ hx => by cases hx
    · refine (t.b (fun hd => ?_) fun x hx hT => ?_).symm
      · have : (recOf o g (looks o (runPs ps st)) o.op.operands.toList (runPs ps st) qs).ded = true := List.any_eq_true.2 ⟨k, hk, by rw [hd]; rfl⟩
        rw [this] at hn; cases hn
      · exact hi.g x (hj3 ▸ hT) (List.mem_flatMap.2 ⟨k, hk, hx⟩)
  have lk : ∀ k ∈ tmpsIn (looks o (runPs ps st)), k ∈ tmpsIn o.op.operands.toList := by
    intro k hk
    obtain ⟨x, hx, he⟩ := List.mem_filterMap.1 hk
    refine List.mem_filterMap.2 ⟨x, ?_, he⟩
    unfold looks at hx
    split at hx
    · rename_i c a b ho
      rw [ho]
      rcases List.mem_cons.1 hx with rfl | hx
      · simp [Op.operands]
      · have := (List.mem_filter.1 hx).1
        rcases List.mem_cons.1 this with rfl | h2
        · simp [Op.operands]
        · rcases List.mem_cons.1 h2 with rfl | h3
          · simp [Op.operands]
          · cases h3
    · exact hx
  have inrd : ∀ k, k ∈ o.dst.toList ++ g ++ tmpsIn o.op.operands.toList ++ (looks o (runPs ps st)).flatMap (fun x => refs (ev (runPs ps st) x)) → k ∈ (recOf o g (looks o (runPs ps st)) o.op.operands.toList (runPs ps st) qs).rd := fun k hk => hk
  refine ⟨runPs_len ps st, fun k hk => ?_, fun k hk => ?_, fun k hk => ⟨?_, ?_⟩, fun d hd => ?_, fun k hk => ?_⟩
  · exact same k (by simp [hk]) (inrd k (by simp [hk]))
  · exact same k (List.mem_append_left _ (List.mem_append_right _ hk)) (inrd k (List.mem_append_left _ (List.mem_append_right _ (lk k hk))))
  · exact same k (List.mem_append_right _ hk) (inrd k (List.mem_append_right _ hk))
  · exact runPs_box ps st k fun hw => hi.d k (hj2 ▸ hw) hk
  · exact (htc d (inrd d (by simp [hd]))).h.symm
  · have t := htc k (inrd k (List.mem_append_left _ (List.mem_append_right _ hk)))
    have : ∀ v : SV, v.isData = true ↔ ∃ d, v = .p d := by
      intro v; cases v <;> simp [SV.isData]
    cases h1 : ((runPs ps st).slot k).isData
    · cases h2 : (st.slot k).isData
      · rfl
      · have := (this _).2 (t.p.1 ((this _).1 h2)); rw [h1] at this; cases this
    · rw [(this _).2 (t.p.2 ((this _).1 h1))]

theorem near_sooner {o : Oper} {g : List Nat} {qs : List Pm} {ps : List Pm} {i : Rec} (hj1 : i.ws = ps.flatMap Pm.ws) (hj2 : i.wb = ps.flatMap Pm.wb) (hj3 : i.tc = ps.flatMap Pm.tc)
    (hi : Ind (recOf o g (looks o st) o.op.operands.toList st qs) i) : Near o g st (runPs ps st) := by
  have htc : ∀ k, k ∈ (recOf o g (looks o st) o.op.operands.toList st qs).rd → Tch (ps.flatMap Pm.tc) (st.slot k) ((runPs ps st).slot k) := fun k hk => runPs_slot ps st k (fun hw => hi.c k (hj1 ▸ hw) hk)
  have same : ∀ k, k ∈ g ++ tmpsIn (looks o st) ++ (looks o st).flatMap (fun x => refs (ev st x)) → k ∈ (recOf o g (looks o st) o.op.operands.toList st qs).rd → st.slot k = (runPs ps st).slot k := by
    intro k hk hr
    exact ((htc k hr).a fun x hx hT => hi.l x (hj3 ▸ hT) (List.mem_flatMap.2 ⟨k, hk, hx⟩)).symm
  have lk : ∀ k ∈ tmpsIn (looks o st), k ∈ tmpsIn o.op.operands.toList := by
    intro k hk
    obtain ⟨x, hx, he⟩ := List.mem_filterMap.1 hk
    refine List.mem_filterMap.2 ⟨x, ?_, he⟩
    unfold looks at hx
    split at hx
    · rename_i c a b ho
      rw [ho]
      rcases List.mem_cons.1 hx with rfl | hx
      · simp [Op.operands]
      · have := (List.mem_filter.1 hx).1
        rcases List.mem_cons.1 this with rfl | h2
        · simp [Op.operands]
        · rcases List.mem_cons.1 h2 with rfl | h3
          · simp [Op.operands]
          · cases h3
    · exact hx
  have inrd : ∀ k, k ∈ o.dst.toList ++ g ++ tmpsIn o.op.operands.toList ++ (looks o st).flatMap (fun x => refs (ev st x)) → k ∈ (recOf o g (looks o st) o.op.operands.toList st qs).rd := fun k hk => hk
  refine ⟨(runPs_len ps st).symm, fun k hk => ?_, fun k hk => ?_, fun k hk => ⟨?_, ?_⟩, fun d hd => ?_, fun k hk => ?_⟩
  · exact same k (by simp [hk]) (inrd k (by simp [hk]))
  · exact same k (List.mem_append_left _ (List.mem_append_right _ hk)) (inrd k (List.mem_append_left _ (List.mem_append_right _ (lk k hk))))
  · exact same k (List.mem_append_right _ hk) (inrd k (List.mem_append_right _ hk))
  · exact (runPs_box ps st k fun hw => hi.f k (hj2 ▸ hw) hk).symm
  · exact (htc d (inrd d (by simp [hd]))).h
  · have t := htc k (inrd k (List.mem_append_left _ (List.mem_append_right _ hk)))
    have : ∀ v : SV, v.isData = true ↔ ∃ d, v = .p d := by
      intro v; cases v <;> simp [SV.isData]
    cases h1 : (st.slot k).isData
    · cases h2 : ((runPs ps st).slot k).isData
      · rfl
      · have := (this _).2 (t.p.2 ((this _).1 h2)); rw [h1] at this; cases this
    · rw [(this _).2 (t.p.1 ((this _).1 h1))]

/-- What a step is. -/
theorem stepD_rec {rc : Rec} {ps : List Pm} (h : stepD E D all o st = some (rc, ps)) : rc.ws = ps.flatMap Pm.ws ∧ rc.wb = ps.flatMap Pm.wb ∧ rc.wr = ps.flatMap Pm.wr ∧ rc.tc = ps.flatMap Pm.tc := by
  have go : ∀ {g}, goD E D o g st = some (rc, ps) → rc.ws = ps.flatMap Pm.ws ∧ rc.wb = ps.flatMap Pm.wb ∧ rc.wr = ps.flatMap Pm.wr ∧ rc.tc = ps.flatMap Pm.tc := by
    intro g hg
    unfold goD at hg
    split at hg
    · cases hg; exact ⟨rfl, rfl, rfl, rfl⟩
    · cases hg
  unfold stepD at h
  split at h
  · exact go h
  · split at h
    · split at h
      · exact go h
      · cases h; exact ⟨rfl, rfl, rfl, rfl⟩
    · cases h; exact ⟨rfl, rfl, rfl, rfl⟩
    · cases h
  · cases h

/-- A step, where the same is seen. The state's slots at which it looks are told by its record. -/
theorem stepD_later {rc : Rec} {qs ps : List Pm} {j : Rec} (hj1 : j.ws = ps.flatMap Pm.ws) (hj2 : j.wb = ps.flatMap Pm.wb) (hj3 : j.tc = ps.flatMap Pm.tc) (h : stepD E D all o (runPs ps st) = some (rc, qs)) (hi : Ind j rc) :
    stepD E D all o st = some (rc, qs) := by
  have go : ∀ {g}, goD E D o g (runPs ps st) = some (rc, qs) → goD E D o g st = some (rc, qs) ∧ (∀ k ∈ g, (runPs ps st).slot k = st.slot k) := by
    intro g hg
    have hrec : ∃ qs', rc = recOf o g (looks o (runPs ps st)) o.op.operands.toList (runPs ps st) qs' := by
      unfold goD at hg
      split at hg
      · cases hg; exact ⟨_, rfl⟩
      · cases hg
    obtain ⟨qs', rfl⟩ := hrec
    have hn := near_later (qs := qs') hj1 hj2 hj3 hi
    exact ⟨by rw [goD_near hn]; exact hg, hn.gs⟩
  unfold stepD at h ⊢
  split at h
  · rename_i hg; exact (go h).1
  · rename_i d want hg
    split at h
    · rename_i b hb
      split at h
      · rename_i hbw
        obtain ⟨h1, h2⟩ := go h
        have := h2 d (by simp)
        rw [hb] at this
        rw [← this]
        simp only [hbw, if_true]; exact h1
      · rename_i hbw
        simp only [skipD, Option.some.injEq, Prod.mk.injEq] at h
        obtain ⟨rfl, rfl⟩ := h
        have hd : d ∈ (recOf o [d] [] [] (runPs ps st) (fullPs o.dst ⟨[], some .und⟩ (runPs ps st))).rd := by simp [recOf]
        have t := runPs_slot ps st d (fun hw => hi.a d (hj1 ▸ hw) hd)
        have e := t.p.2 ⟨_, hb⟩
        have hdd : st.slot d = (runPs ps st).slot d := by
          refine t.b (by rw [hb]; intro q; cases q) ?_
          rw [hb]; intro x hx; cases hx
        rw [hdd, hb]
        simp only [if_neg hbw]
        have hf : fullPs o.dst ⟨[], some .und⟩ st = fullPs o.dst ⟨[], some .und⟩ (runPs ps st) := fullPs_near (runPs_len ps st).symm (fun q hq => (runPs_slot ps st q (fun hw => hi.a q (hj1 ▸ hw) (by simp [recOf, hq]))).h)
        simp only [skipD, hf]
        simp [recOf, tmpsIn, hdd]
    · rename_i hb
      simp only [skipD, Option.some.injEq, Prod.mk.injEq] at h
      obtain ⟨rfl, rfl⟩ := h
      have hd : d ∈ (recOf o [d] [] [] (runPs ps st) (fullPs o.dst ⟨[], some .und⟩ (runPs ps st))).rd := by simp [recOf]
      have t := runPs_slot ps st d (fun hw => hi.a d (hj1 ▸ hw) hd)
      have hdd : st.slot d = (runPs ps st).slot d := by
        refine t.b (by rw [hb]; intro q; cases q) ?_
        rw [hb]; intro x hx; cases hx
      rw [hdd, hb]
      simp only
      have hf : fullPs o.dst ⟨[], some .und⟩ st = fullPs o.dst ⟨[], some .und⟩ (runPs ps st) := fullPs_near (runPs_len ps st).symm (fun q hq => (runPs_slot ps st q (fun hw => hi.a q (hj1 ▸ hw) (by simp [recOf, hq]))).h)
      simp only [skipD, hf]
      simp [recOf, tmpsIn, hdd]
    · cases h
  · cases h

theorem stepD_sooner {rc : Rec} {qs ps : List Pm} {i : Rec} (hj1 : i.ws = ps.flatMap Pm.ws) (hj2 : i.wb = ps.flatMap Pm.wb) (hj3 : i.tc = ps.flatMap Pm.tc) (h : stepD E D all o st = some (rc, qs)) (hi : Ind rc i) :
    stepD E D all o (runPs ps st) = some (rc, qs) := by
  have go : ∀ {g}, goD E D o g st = some (rc, qs) → goD E D o g (runPs ps st) = some (rc, qs) ∧ (∀ k ∈ g, st.slot k = (runPs ps st).slot k) := by
    intro g hg
    have hrec : ∃ qs', rc = recOf o g (looks o st) o.op.operands.toList st qs' := by
      unfold goD at hg
      split at hg
      · cases hg; exact ⟨_, rfl⟩
      · cases hg
    obtain ⟨qs', rfl⟩ := hrec
    have hn := near_sooner (qs := qs') hj1 hj2 hj3 hi
    exact ⟨by rw [goD_near hn]; exact hg, hn.gs⟩
  unfold stepD at h ⊢
  split at h
  · rename_i hg; exact (go h).1
  · rename_i d want hg
    split at h
    · rename_i b hb
      split at h
      · rename_i hbw
        obtain ⟨h1, h2⟩ := go h
        have := h2 d (by simp)
        rw [hb] at this
        rw [← this]
        simp only [hbw, if_true]; exact h1
      · rename_i hbw
        simp only [skipD, Option.some.injEq, Prod.mk.injEq] at h
        obtain ⟨rfl, rfl⟩ := h
        have hd : d ∈ (recOf o [d] [] [] st (fullPs o.dst ⟨[], some .und⟩ st)).rd := by simp [recOf]
        have t := runPs_slot ps st d (fun hw => hi.c d (hj1 ▸ hw) hd)
        have hdd : (runPs ps st).slot d = st.slot d := by
          refine t.a ?_
          rw [hb]; intro x hx; cases hx
        rw [hdd, hb]
        simp only [if_neg hbw]
        have hf : fullPs o.dst ⟨[], some .und⟩ (runPs ps st) = fullPs o.dst ⟨[], some .und⟩ st := fullPs_near (runPs_len ps st) (fun q hq => (runPs_slot ps st q (fun hw => hi.c q (hj1 ▸ hw) (by simp [recOf, hq]))).h.symm)
        simp only [skipD, hf]
        simp [recOf, tmpsIn, hdd]
    · rename_i hb
      simp only [skipD, Option.some.injEq, Prod.mk.injEq] at h
      obtain ⟨rfl, rfl⟩ := h
      have hd : d ∈ (recOf o [d] [] [] st (fullPs o.dst ⟨[], some .und⟩ st)).rd := by simp [recOf]
      have t := runPs_slot ps st d (fun hw => hi.c d (hj1 ▸ hw) hd)
      have hdd : (runPs ps st).slot d = st.slot d := by
        refine t.a ?_
        rw [hb]; intro x hx; cases hx
      rw [hdd, hb]
      simp only
      have hf : fullPs o.dst ⟨[], some .und⟩ (runPs ps st) = fullPs o.dst ⟨[], some .und⟩ st := fullPs_near (runPs_len ps st) (fun q hq => (runPs_slot ps st q (fun hw => hi.c q (hj1 ▸ hw) (by simp [recOf, hq]))).h.symm)
      simp only [skipD, hf]
      simp [recOf, tmpsIn, hdd]
    · cases h
  · cases h

/-- Two operations change their places. -/
theorem stepD_swap {oj oi : Oper} {rj ri : Rec} {pj pi : List Pm} (h1 : stepD E D all oj st = some (rj, pj)) (h2 : stepD E D all oi (runPs pj st) = some (ri, pi)) (hi : Ind rj ri) :
    stepD E D all oi st = some (ri, pi) ∧ stepD E D all oj (runPs pi st) = some (rj, pj) ∧ runPs pi (runPs pj st) = runPs pj (runPs pi st) := by
  obtain ⟨a1, a2, a3, a4⟩ := stepD_rec h1
  obtain ⟨b1, b2, b3, b4⟩ := stepD_rec h2
  have h3 := stepD_later a1 a2 a4 h2 hi
  refine ⟨h3, stepD_sooner b1 b2 b4 h1 hi, (frees_run pi pj st fun p hp q hq => ⟨fun x hx hy => ?_, fun x hx hy => ?_, fun x hx hy => ?_, fun x hx hy => ?_, fun x hx hy => ?_⟩).symm⟩
  · exact hi.b x (a1 ▸ List.mem_flatMap.2 ⟨p, hp, hx⟩) (b1 ▸ List.mem_flatMap.2 ⟨q, hq, hy⟩)
  · exact hi.e x (a2 ▸ List.mem_flatMap.2 ⟨p, hp, hx⟩) (b2 ▸ List.mem_flatMap.2 ⟨q, hq, hy⟩)
  · exact hi.h x (a4 ▸ List.mem_flatMap.2 ⟨p, hp, hx⟩) (b3 ▸ List.mem_flatMap.2 ⟨q, hq, hy⟩)
  · exact hi.m x (b4 ▸ List.mem_flatMap.2 ⟨q, hq, hx⟩) (a3 ▸ List.mem_flatMap.2 ⟨p, hp, hy⟩)
  · exact hi.k x (a4 ▸ List.mem_flatMap.2 ⟨p, hp, hx⟩) (b4 ▸ List.mem_flatMap.2 ⟨q, hq, hy⟩)

/-- Operations one behind the other. -/
def Runs (E : Env) (D : CallD) (all : List Oper) (rc : Nat → Rec) : List Nat → St → St → Prop
  | [], st, st' => st = st'
  | i :: L, st, st' => ∃ o ps, all[i]? = some o ∧ stepD E D all o st = some (rc i, ps) ∧ Runs E D all rc L (runPs ps st) st'

theorem Runs.front {rc : Nat → Rec} {i : Nat} {ys : List Nat} : ∀ {l : List Nat} {st st' : St}, Runs E D all rc (l ++ i :: ys) st st' → (∀ x ∈ l, Ind (rc x) (rc i)) → Runs E D all rc (i :: (l ++ ys)) st st' := by
  intro l
  induction l with
  | nil => intro st st' h _; exact h
  | cons x l ih =>
    intro st st' h hi
    obtain ⟨o, ps, h1, h2, h3⟩ := h
    obtain ⟨oi, pi, h4, h5, h6⟩ := ih h3 fun y hy => hi y (by simp [hy])
    obtain ⟨s1, s2, s3⟩ := stepD_swap h2 h5 (hi x (by simp))
    exact ⟨oi, pi, h4, s1, o, ps, h1, s2, by rw [← s3]; exact h6⟩
end Go.Own

/- Regions whose order is drawn: what their evaluation says of their run. -/
set_option linter.unusedVariables false
namespace Go.Own
variable {P : Program} {E : Env} {w0 w w' : World} {I0 I : Nat → Prop} {xs : List Nat} {st st' : St} {tm : Array Value} {tok : Tok} {ds : List Deferred} {o : Oper} {D : CallD} {all : List Oper}

theorem stepD_sound {ops : Array Oper} {rc : Rec} {ps : List Pm} (hE : EnvOK P E) (hD : SoundD P D) (h : Inv w0 I0 xs st tm w I tok) (hd : ∀ d, o.dst = some d → d < st.sl.length) (hf : stepD E D ops.toList o st = some (rc, ps))
    {K : Act → World → Prop} {Q : Exit → Act → World → Prop} (hK : ∀ v w' I' tok', Inv w0 I0 xs (runPs ps st) (putT tm o.dst v) w' I' tok' → K ⟨putT tm o.dst v, ds⟩ w') :
    if Region.wanted o (yielded ops tm) then o.wp P ⟨tm, ds⟩ w K Q else K (Act.put ⟨tm, ds⟩ o.dst undef) w := by
  have doK : ∀ {g}, goD E D o g st = some (rc, ps) → o.wp P ⟨tm, ds⟩ w K Q := by
    intro g hg
    unfold goD at hg
    split at hg
    · rename_i e he
      cases hg
      rw [fullPs_run] at hK
      exact opD_sound (P := P) (ds := ds) hE hD h hd (opPD_run he) hK
    · cases hg
  unfold stepD at hf
  split at hf
  · rename_i hg
    have hw : Region.wanted o (yielded ops tm) = true := by
      unfold guardOf at hg
      split at hg
      · rename_i e; simp [Region.wanted, e]
      · split at hg <;> cases hg
    rw [if_pos hw]
    exact doK hf
  · rename_i d want hg
    split at hf
    · rename_i b hb
      have hbl : d < st.sl.length := slot_lt hb (by intro q; cases q)
      have hr := h.slots d hbl
      rw [hb] at hr
      have hv : tm.getD d undef = .bool b := valRep_bool.1 hr
      have hw : Region.wanted o (yielded ops tm) = (b == want) := by
        unfold guardOf at hg
        split at hg
        · cases hg
        · rename_i j want' e
          split at hg
          · rename_i d' e2
            simp only [Option.some.injEq, Prod.mk.injEq] at hg
            obtain ⟨rfl, rfl⟩ := hg
            have e3 : (ops[j]?).bind (·.dst) = some d' := by simpa using e2
            have hdt : d' < tm.size := h.len ▸ hbl
            have e4 : tm[d']? = some (.bool b) := by
              rw [Array.getElem?_eq_getElem hdt]
              have : tm.getD d' undef = tm[d'] := by simp [Array.getD, hdt]
              rw [this] at hv; rw [hv]
            simp only [Region.wanted, e, yielded, e3, Option.bind_some, e4]
            cases b <;> cases want' <;> rfl
          · cases hg
      rw [hw]
      split at hf
      · rename_i e
        rw [if_pos (by simpa using e)]
        exact doK hf
      · rename_i e
        rw [if_neg (by simpa using e)]
        simp only [skipD, Option.some.injEq, Prod.mk.injEq] at hf
        obtain ⟨_, rfl⟩ := hf
        rw [fullPs_run] at hK
        rw [act_put]
        cases hod : o.dst with
        | none =>
          have := hK undef w I tok (by rw [hod]; exact h)
          rwa [hod] at this
        | some q =>
          have h2 := h.put_und (d := q) (hd q hod)
          have := hK undef w I _ (by rw [hod]; exact h2)
          rwa [hod] at this
    · rename_i hb
      have hbl : d < st.sl.length := slot_lt hb (by intro q; cases q)
      have hr := h.slots d hbl
      rw [hb] at hr
      rw [if_neg (by rw [wanted_und hg (h.len ▸ hbl) (by simpa only [SRep] using hr)]; decide)]
      simp only [skipD, Option.some.injEq, Prod.mk.injEq] at hf
      obtain ⟨_, rfl⟩ := hf
      rw [fullPs_run] at hK
      rw [act_put]
      cases hod : o.dst with
      | none =>
        have := hK undef w I tok (by rw [hod]; exact h)
        rwa [hod] at this
      | some q =>
        have h2 := h.put_und (d := q) (hd q hod)
        have := hK undef w I _ (by rw [hod]; exact h2)
        rwa [hod] at this
    · cases hf
  · cases hf

/-- Indices from n on. -/
def idx (n : Nat) : Nat → List Nat
  | 0 => []
  | m + 1 => n :: idx (n + 1) m

theorem drawK_runs {R : Type} {r : R} {k : St → Option R} {ah : List Nat} : ∀ (os : List Oper) (n : Nat) {acc : List (Nat × Rec)} {st : St}, (∀ j o, os[j]? = some o → all[n + j]? = some o) →
    drawK E D all ah (numbered n os) acc st k = some r →
    ∃ (rc : Nat → Rec) (st' : St), Runs E D all rc (idx n os.length) st st' ∧ k st' = some r ∧
      (∀ p ∈ acc, ∀ i ∈ idx n os.length, (ah.getD i 0).testBit p.1 = true ∨ indep p.2 (rc i) = true) ∧
      (∀ j ∈ idx n os.length, ∀ i ∈ idx n os.length, j < i → (ah.getD i 0).testBit j = true ∨ indep (rc j) (rc i) = true) := by
  intro os
  induction os with
  | nil => intro n acc st _ h; exact ⟨fun _ => default, st, rfl, h, (fun p _ i hi => by cases hi), fun j hj => by cases hj⟩
  | cons o os ih =>
    intro n acc st hall h
    simp only [numbered, drawK] at h
    obtain ⟨r0, ps, h1, h2⟩ := drawOp_step h
    cases hc : acc.all (fun p => (ah.getD n 0).testBit p.1 || indep p.2 r0) with
    | false => rw [hc] at h2; cases h2
    | true =>
      simp only [hc, cond_true] at h2
      obtain ⟨rc, st', h3, h4, h5, h6⟩ := ih (n + 1) (fun j o' hj => by have := hall (j + 1) o' (by simpa using hj); rwa [show n + (j + 1) = n + 1 + j by omega] at this) h2
      have mem : ∀ (m : Nat) {a x : Nat}, x ∈ idx a m → a ≤ x := by
        intro m
        induction m with
        | zero => intro a x hx; cases hx
        | succ m ih =>
          intro a x hx
          rcases List.mem_cons.1 hx with rfl | hx
          · exact Nat.le_refl _
          · have := ih hx; omega
      let rc' : Nat → Rec := fun i => if i = n then r0 else rc i
      have hrc : ∀ i ∈ idx (n + 1) os.length, rc' i = rc i := fun i hi => by
        have := mem _ hi
        simp only [rc']; rw [if_neg (by omega)]
      have runs : ∀ (L : List Nat) {s s' : St}, (∀ i ∈ L, rc' i = rc i) → Runs E D all rc L s s' → Runs E D all rc' L s s' := by
        intro L
        induction L with
        | nil => intro s s' _ h; exact h
        | cons i L ih =>
          rintro s s' he ⟨o, ps, q1, q2, q3⟩
          exact ⟨o, ps, q1, by rw [he i (by simp)]; exact q2, ih (fun x hx => he x (by simp [hx])) q3⟩
      refine ⟨rc', st', ⟨o, ps, by have := hall 0 o rfl; simpa using this, by simp only [rc', if_true]; exact h1, runs _ hrc h3⟩, h4, fun p hp i hi => ?_, fun j hj i hi hji => ?_⟩
      · rcases List.mem_cons.1 hi with rfl | hi
        · have := List.all_eq_true.1 hc p hp
          simpa [rc'] using this
        · rw [hrc i hi]; exact h5 p (List.mem_cons_of_mem _ hp) i hi
      · rcases List.mem_cons.1 hi with rfl | hi
        · rcases List.mem_cons.1 hj with rfl | hj
          · omega
          · have := mem _ hj; omega
        · rw [hrc i hi]
          rcases List.mem_cons.1 hj with rfl | hj
          · have := h5 (j, r0) (by simp) i hi
            simpa [rc'] using this
          · rw [hrc j hj]; exact h6 j hj i hi hji

/-- What stands ahead. -/
theorem aheads_get (ops : List Oper) : ∀ (i : Nat), (aheads ops)[i]? = (ops[i]?).map fun o => o.after.toList.foldl (fun s e => bif Region.binds .any e then s ||| 2 ^ e.on ||| ((aheads ops).take i).getD e.on 0 else s) 0 := by
  have key : ∀ (l : List Oper) (acc : List Nat), let F := l.foldl (fun acc o => acc ++ [o.after.toList.foldl (fun s e => bif Region.binds .any e then s ||| 2 ^ e.on ||| acc.getD e.on 0 else s) 0]) acc
      F.take acc.length = acc ∧ ∀ i, F[acc.length + i]? = (l[i]?).map fun o => o.after.toList.foldl (fun s e => bif Region.binds .any e then s ||| 2 ^ e.on ||| (F.take (acc.length + i)).getD e.on 0 else s) 0 := by
    intro l
    induction l with
    | nil => intro acc; simp
    | cons o l ih =>
      intro acc
      simp only [List.foldl_cons]
      obtain ⟨h1, h2⟩ := ih (acc ++ [o.after.toList.foldl (fun s e => bif Region.binds .any e then s ||| 2 ^ e.on ||| acc.getD e.on 0 else s) 0])
      generalize hF : l.foldl (fun acc o => acc ++ [o.after.toList.foldl (fun s e => bif Region.binds .any e then s ||| 2 ^ e.on ||| acc.getD e.on 0 else s) 0]) (acc ++ [o.after.toList.foldl (fun s e => bif Region.binds .any e then s ||| 2 ^ e.on ||| acc.getD e.on 0 else s) 0]) = F at *
      simp only [List.length_append, List.length_cons, List.length_nil, Nat.zero_add] at h1 h2
      have ht : F.take acc.length = acc := by
        have := congrArg (List.take acc.length) h1
        rw [List.take_take, Nat.min_eq_left (by omega)] at this
        rw [this]; simp
      refine ⟨ht, fun i => ?_⟩
      cases i with
      | zero =>
        have h3 : F[acc.length]? = (F.take (acc.length + 1))[acc.length]? := by rw [List.getElem?_take]; simp
        simp only [Nat.add_zero]
        rw [h3, h1, ht]; simp
      | succ i =>
        have := h2 i
        rw [show acc.length + (i + 1) = acc.length + 1 + i by omega, this]; rfl
  intro i
  have := (key ops []).2 i
  simpa [aheads] using this

theorem testBit_fold (g : Edge → Nat) (x : Nat) : ∀ (l : List Edge) (s : Nat), (l.foldl (fun s e => bif Region.binds .any e then s ||| 2 ^ e.on ||| g e else s) s).testBit x = true → s.testBit x = true ∨ ∃ e ∈ l, Region.binds .any e = true ∧ (e.on = x ∨ (g e).testBit x = true) := by
  intro l
  induction l with
  | nil => intro s h; exact .inl h
  | cons e l ih =>
    intro s h
    simp only [List.foldl_cons] at h
    rcases ih _ h with h | ⟨e', h1, h2⟩
    · cases hb : Region.binds .any e with
      | false => simp only [hb, cond_false] at h; exact .inl h
      | true =>
        simp only [hb, cond_true, Nat.testBit_or, Bool.or_eq_true, Nat.testBit_two_pow, decide_eq_true_eq] at h
        rcases h with (h | h) | h
        · exact .inl h
        · exact .inr ⟨e, by simp, hb, .inl h⟩
        · exact .inr ⟨e, by simp, hb, .inr h⟩
    · exact .inr ⟨e', by simp [h1], h2⟩

theorem aheads_bit {ops : List Oper} {i x : Nat} (h : ((aheads ops).getD i 0).testBit x = true) : ∃ o, ops[i]? = some o ∧ ∃ e ∈ o.after.toList, Region.binds .any e = true ∧ (e.on = x ∨ (e.on < i ∧ ((aheads ops).getD e.on 0).testBit x = true)) := by
  rw [List.getD_eq_getElem?_getD, aheads_get] at h
  cases ho : ops[i]? with
  | none => rw [ho] at h; simp at h
  | some o =>
    rw [ho] at h
    simp only [Option.map_some, Option.getD_some] at h
    rcases testBit_fold _ x _ _ h with h | ⟨e, h1, h2, h3⟩
    · simp at h
    · refine ⟨o, rfl, e, h1, h2, h3.imp id fun h4 => ?_⟩
      rw [List.getD_eq_getElem?_getD, List.getElem?_take] at h4
      split at h4
      · rename_i hlt; exact ⟨hlt, by rw [List.getD_eq_getElem?_getD]; exact h4⟩
      · simp at h4

/-- All that stands ahead of one whose direct ones are listed is listed. -/
theorem ahead_listed {ops : Array Oper} {listed : Array Bool} (hdown : ∀ (i : Nat) (o : Oper), ops[i]? = some o → listed.getD i false = true → ∀ e ∈ o.after.toList, Region.binds .any e = true → listed.getD e.on false = true) :
    ∀ (n i x : Nat), i < n → (∀ (o : Oper), ops[i]? = some o → ∀ e ∈ o.after.toList, Region.binds .any e = true → listed.getD e.on false = true) → ((aheads ops.toList).getD i 0).testBit x = true → listed.getD x false = true := by
  intro n
  induction n with
  | zero => intro i x hi; omega
  | succ n ih =>
    intro i x hi h hb
    obtain ⟨o, ho, e, h1, h2, h3⟩ := aheads_bit hb
    have ho' : ops[i]? = some o := by simpa using ho
    have hl := h o ho' e h1 h2
    rcases h3 with rfl | ⟨h3, h4⟩
    · exact hl
    · exact ih e.on x (by omega) (fun o' ho2 => hdown e.on o' ho2 hl) h4

theorem mem_ready {ops : Array Oper} {listed : Array Bool} {i : Nat} (h : i ∈ Region.ready .any ops listed) : i < ops.size ∧ listed.getD i true = false ∧ ∀ (o : Oper), ops[i]? = some o → ∀ e ∈ o.after.toList, Region.binds .any e = true → listed.getD e.on false = true := by
  unfold Region.ready at h
  obtain ⟨h1, h2⟩ := List.mem_filter.1 h
  have hi : i < ops.size := by simpa using h1
  simp only [Bool.and_eq_true, Bool.not_eq_true'] at h2
  refine ⟨hi, h2.1, fun o ho e he hb => ?_⟩
  have h3 := h2.2
  rw [ho] at h3
  simp only [Option.map_some, Option.getD_some] at h3
  rw [Array.all_eq_true'] at h3
  have := h3 e (by simpa using he)
  simpa [hb] using this

theorem ready_of {ops : Array Oper} {listed : Array Bool} {i : Nat} {o : Oper} (ho : ops[i]? = some o) (hl : listed.getD i true = false) (h : ∀ e ∈ o.after.toList, Region.binds .any e = true → listed.getD e.on false = true) : i ∈ Region.ready .any ops listed := by
  have hi : i < ops.size := by
    rcases Nat.lt_or_ge i ops.size with h1 | h1
    · exact h1
    · rw [Array.getElem?_eq_none h1] at ho; cases ho
  unfold Region.ready
  refine List.mem_filter.2 ⟨by simpa using hi, ?_⟩
  simp only [Bool.and_eq_true, Bool.not_eq_true']
  refine ⟨hl, ?_⟩
  rw [ho]
  simp only [Option.map_some, Option.getD_some]
  rw [Array.all_eq_true']
  intro e he
  cases hb : Region.binds .any e
  · rfl
  · simpa using h e (by simpa using he) hb

/-- What is not listed yet, in the text's order. -/
structure Left (ops : Array Oper) (listed : Array Bool) (R : List Nat) : Prop where
  size : listed.size = ops.size
  mem : ∀ i, i ∈ R ↔ i < ops.size ∧ listed.getD i true = false
  sorted : R.Pairwise (· < ·)
  down : ∀ (i : Nat) (o : Oper), ops[i]? = some o → listed.getD i false = true → ∀ e ∈ o.after.toList, Region.binds .any e = true → listed.getD e.on false = true

theorem draw_sound {ops : Array Oper} {rc : Nat → Rec} {stE : St} {Q : Exit → Act → World → Prop} {n : Nat} (hE : EnvOK P E) (hD : SoundD P D) (hdst : ∀ o ∈ ops.toList, ∀ d, o.dst = some d → d < n)
    (hback : ∀ (i : Nat) (o : Oper), ops[i]? = some o → ∀ e ∈ o.after.toList, Region.binds .any e = true → e.on < i)
    (hind : ∀ i j, i < ops.size → j < i → ((aheads ops.toList).getD i 0).testBit j = true ∨ indep (rc j) (rc i) = true)
    (hQ : ∀ tm w I tok, stE.sl.length = n → Inv w0 I0 xs stE tm w I tok → Q .normal ⟨tm, ds⟩ w) :
    ∀ (fuel : Nat) {R : List Nat} {listed : Array Bool} {st : St} {tm : Array Value} {w : World} {I : Nat → Prop} {tok : Tok}, R.length ≤ fuel → Left ops listed R → st.sl.length = n → Inv w0 I0 xs st tm w I tok → Runs E D ops.toList rc R st stE →
      wpAny P .any ops Q fuel listed ⟨tm, ds⟩ w := by
  intro fuel
  induction fuel with
  | zero =>
    intro R listed st tm w I tok hl hleft hn h hr
    have hR : R = [] := List.length_eq_zero_iff.1 (by omega)
    subst hR
    refine ⟨?_, ?_⟩
    · apply List.eq_nil_iff_forall_not_mem.2
      intro i hi
      obtain ⟨h1, h2, _⟩ := mem_ready hi
      exact absurd ((hleft.mem i).2 ⟨h1, h2⟩) (by simp)
    · have e : st = stE := hr
      subst e
      exact hQ tm w I tok hn h
  | succ fuel ih =>
    intro R listed st tm w I tok hl hleft hn h hr
    refine ⟨fun hnil => ?_, fun i hi => ?_⟩
    · -- the first of those that are left is ready
      cases R with
      | nil =>
        have e : st = stE := hr
        subst e
        exact hQ tm w I tok hn h
      | cons i R =>
        exfalso
        obtain ⟨o, ps, ho, _⟩ := hr
        have ho' : ops[i]? = some o := by simpa using ho
        obtain ⟨h1, h2⟩ := (hleft.mem i).1 (by simp)
        have : i ∈ Region.ready .any ops listed := ready_of ho' h2 fun e he hb => by
          have hlt := hback i o ho' e he hb
          have hsz : e.on < listed.size := by rw [hleft.size]; omega
          cases hc : listed.getD e.on false with
          | true => rfl
          | false =>
            exfalso
            have : e.on ∈ i :: R := (hleft.mem e.on).2 ⟨by omega, by simpa [Array.getD, hsz] using hc⟩
            rcases List.mem_cons.1 this with h3 | h3
            · omega
            · have := List.rel_of_pairwise_cons hleft.sorted h3; omega
        rw [hnil] at this; cases this
    · obtain ⟨h1, h2, h3⟩ := mem_ready hi
      have hiR : i ∈ R := (hleft.mem i).2 ⟨h1, h2⟩
      obtain ⟨l, ys, rfl⟩ := List.append_of_mem hiR
      have hlt : ∀ x ∈ l, x < i := fun x hx => by
        have := List.pairwise_append.1 hleft.sorted
        exact this.2.2 x hx i (by simp)
      have hfront := hr.front (fun x hx => by
        refine indep_spec ?_
        rcases hind i x h1 (hlt x hx) with hb | hb
        · exfalso
          have := ahead_listed hleft.down (i + 1) i x (by omega) h3 hb
          have h4 := ((hleft.mem x).1 (by simp [hx])).2
          have hxs : x < listed.size := by rw [hleft.size]; exact ((hleft.mem x).1 (by simp [hx])).1
          simp [Array.getD, hxs] at this h4
          rw [this] at h4; cases h4
        · exact hb)
      obtain ⟨o, ps, ho, hs, hrest⟩ := hfront
      have ho' : ops[i]? = some o := by simpa using ho
      have hom : o ∈ ops.toList := List.mem_of_getElem? ho
      unfold wpOp
      rw [ho']
      simp only
      have hnext : Left ops (listed.setIfInBounds i true) (l ++ ys) := by
        have hnd : i ∉ l ++ ys := by
          intro hc
          have hp := List.pairwise_append.1 hleft.sorted
          rcases List.mem_append.1 hc with hc | hc
          · have := hlt i hc; omega
          · have := List.rel_of_pairwise_cons hp.2.1 hc; omega
        have gd : ∀ (x : Nat) (b : Bool), (listed.setIfInBounds i true).getD x b = if x = i then (if i < listed.size then true else b) else listed.getD x b := by
          intro x b
          by_cases hxi : x = i
          · subst hxi
            by_cases hx : x < listed.size <;> simp [Array.getD, hx]
          · rw [if_neg hxi]
            have hne : i ≠ x := fun e => hxi e.symm
            simp [Array.getD_eq_getD_getElem?, Array.getElem?_setIfInBounds_ne hne]
        refine ⟨by simpa using hleft.size, fun x => ?_, ?_, ?_⟩
        · have hm := hleft.mem x
          rw [gd]
          by_cases hxi : x = i
          · subst hxi
            rw [if_pos rfl, if_pos (by rw [hleft.size]; exact h1)]
            constructor
            · intro hc; exact absurd hc hnd
            · intro hc; cases hc.2
          · rw [if_neg hxi, ← hm]
            simp [hxi]
        · have hp := List.pairwise_append.1 hleft.sorted
          refine List.pairwise_append.2 ⟨hp.1, (List.pairwise_cons.1 hp.2.1).2, fun a ha b hb => hp.2.2 a ha b (by simp [hb])⟩
        · intro x q hq hx e he hb
          rw [gd] at hx ⊢
          have hsz : i < listed.size := by rw [hleft.size]; exact h1
          by_cases hei : e.on = i
          · rw [if_pos hei, if_pos hsz]
          · rw [if_neg hei]
            by_cases hxi : x = i
            · subst hxi; exact h3 q hq e he hb
            · rw [if_neg hxi] at hx; exact hleft.down x q hq hx e he hb
      have := stepD_sound (P := P) (ds := ds) (o := o) (Q := Q) (K := wpAny P .any ops Q fuel (listed.setIfInBounds i true)) hE hD h (fun d hd => by rw [hn]; exact hdst o hom d hd) hs (fun v w' I' tok' hi =>
        ih (by simp at hl ⊢; omega) hnext (by rw [runPs_len]; exact hn) hi hrest)
      split
      · rename_i hw; rw [if_pos hw] at this; exact .inl this
      · rename_i hw; rw [if_neg hw] at this; exact this

theorem idx_mem : ∀ (m : Nat) {a x : Nat}, x ∈ idx a m ↔ a ≤ x ∧ x < a + m := by
  intro m
  induction m with
  | zero => intro a x; simp only [idx, List.not_mem_nil, false_iff]; omega
  | succ m ih =>
    intro a x
    simp only [idx, List.mem_cons, ih]
    omega
theorem idx_sorted : ∀ (m a : Nat), (idx a m).Pairwise (· < ·) := by
  intro m
  induction m with
  | zero => intro a; exact List.Pairwise.nil
  | succ m ih => intro a; exact List.pairwise_cons.2 ⟨fun x hx => by have := (idx_mem m).1 hx; omega, ih _⟩
theorem idx_length : ∀ (m a : Nat), (idx a m).length = m := by
  intro m
  induction m with
  | zero => intro a; rfl
  | succ m ih => intro a; simp [idx, ih]

theorem numbered_get : ∀ (l : List Oper) (n i : Nat), (numbered n l)[i]? = (l[i]?).map fun o => (n + i, o) := by
  intro l
  induction l with
  | nil => intro n i; simp [numbered]
  | cons o l ih =>
    intro n i
    cases i with
    | zero => simp [numbered]
    | succ i => simp only [numbered, List.getElem?_cons_succ, ih]; rw [show n + 1 + i = n + (i + 1) by omega]

/-- A region whose order is drawn. -/
theorem regionK_sound {r : Res} {id : Nat} {ops : Array Oper} {k : St → Option Res} {Q : Exit → Act → World → Prop} {n : Nat} (hE : EnvOK P E) (hM : P.follows .mixedOrders = true) (hD : SoundD P D) (hdst : ∀ o ∈ ops.toList, ∀ d, o.dst = some d → d < n)
    (hk : ∀ st tm w I tok, k st = some r → st.sl.length = n → Inv w0 I0 xs st tm w I tok → Q .normal ⟨tm, ds⟩ w) (h : Inv w0 I0 xs st tm w I tok) (hn : st.sl.length = n) (hf : regionK E D ops.toList st k = some r) :
    (Code.region id ops true).wp P Q ⟨tm, ds⟩ w := by
  unfold regionK at hf
  cases hb : backs (numbered 0 ops.toList) with
  | false => simp [hb] at hf
  | true =>
    simp only [hb, cond_true] at hf
    obtain ⟨rc, stE, h1, h2, _, h4⟩ := drawK_runs ops.toList 0 (fun j o hj => by simpa using hj) hf
    refine wp_region_any hM ?_
    have hg := h.grow (w' := { w with drawn := w.drawn + 1 }) (Grew.drew w)
    refine draw_sound (P := P) (ds := ds) (n := n) hE hD hdst ?_ ?_ (fun tm w I tok hl hi => hk stE tm w I tok h2 hl hi) ops.size ?_ ?_ hn hg h1
    · intro i o ho e he hbe
      have := List.all_eq_true.1 hb (i, o) (List.mem_of_getElem? (i := i) (by rw [numbered_get]; simp [ho]))
      have h5 := List.all_eq_true.1 this e he
      simp only [hbe, Bool.not_true, Bool.false_or] at h5
      exact Nat.le_of_ble_eq_true h5
    · intro i j hi hji
      exact h4 j ((idx_mem _).2 ⟨by omega, by simp; omega⟩) i ((idx_mem _).2 ⟨by omega, by simp; omega⟩) hji
    · rw [idx_length]; simp
    · refine ⟨by simp, fun i => ?_, idx_sorted _ _, fun i o ho hl => ?_⟩
      · rw [idx_mem]
        constructor
        · intro hi; have h6 : i < ops.size := by simpa using hi.2
          exact ⟨h6, by simp [Array.getD, h6]⟩
        · intro hi; exact ⟨by omega, by simpa using hi.1⟩
      · exfalso
        simp only [Array.getD, Array.size_replicate] at hl
        split at hl
        · simp at hl
        · cases hl
end Go.Own

/- Code: what its evaluation says of its run. -/
set_option linter.unusedVariables false
namespace Go.Own
variable {P : Program} {E : Env} {w0 w w' : World} {I0 I : Nat → Prop} {xs : List Nat} {st st' : St} {tm : Array Value} {tok : Tok} {ds : List Deferred} {o : Oper}

def dstIn (n : Nat) (o : Oper) : Bool := match o.dst with | some d => decide (d < n) | none => true
/-- Every slot that code sets is one of n. -/
def dstsIn (n : Nat) : Code → Bool
  | .region _ ops _ => ops.toList.all (dstIn n)
  | .seq a b => dstsIn n a && dstsIn n b
  | .cond _ a b => dstsIn n a && dstsIn n b
  | .block _ a => dstsIn n a
  | .loop a => dstsIn n a
  | .scope a => dstsIn n a
  | .rangeFunc .. => false
  | _ => true

def Ex.out : Ex → Exit
  | .normal => .normal
  | .exit id => .exit id
  | .ret => .ret

/-- What goes on behind code answers for its state. -/
def KGood (w0 : World) (I0 : Nat → Prop) (xs : List Nat) (ds : List Deferred) (n : Nat) (r : Res) (k : Ex → St → Option Res) (Q : Exit → Act → World → Prop) : Prop :=
  ∀ ex st tm w I tok, k ex st = some r → st.sl.length = n → Inv w0 I0 xs st tm w I tok → Q ex.out ⟨tm, ds⟩ w

/-- The loops of code, by their bodies. -/
def subLoops : Code → List Code
  | .seq a b => subLoops a ++ subLoops b
  | .cond _ a b => subLoops a ++ subLoops b
  | .block _ a => subLoops a
  | .loop a => a :: subLoops a
  | .scope a => subLoops a
  | _ => []

def LoopGood (P : Program) (r : Res) (w0 : World) (I0 : Nat → Prop) (xs : List Nat) (ds : List Deferred) (n : Nat) (loop : LoopK Res) (body : Code) : Prop :=
  ∀ {j : Nat} {st : St} {tm : Array Value} {w : World} {I : Nat → Prop} {tok : Tok} {k : Ex → St → Option Res} {Q : Exit → Act → World → Prop}, dstsIn n body = true → loop j body st k = some r → st.sl.length = n →
    Inv w0 I0 xs st tm w I tok → KGood w0 I0 xs ds n r k Q → (Code.loop body).wp P Q ⟨tm, ds⟩ w

theorem codeK_sound {D : CallD} {loop : LoopK Res} {r : Res} {n : Nat} (hE : EnvOK P E) (hM : P.follows .mixedOrders = true) (hD : SoundD P D) : ∀ (c : Code) {st : St} {tm : Array Value} {w : World} {I : Nat → Prop} {tok : Tok} {k : Ex → St → Option Res} {Q : Exit → Act → World → Prop},
    (∀ body ∈ subLoops c, LoopGood P r w0 I0 xs ds n loop body) → dstsIn n c = true → codeK E D loop c st k = some r → st.sl.length = n → Inv w0 I0 xs st tm w I tok → KGood w0 I0 xs ds n r k Q → c.wp P Q ⟨tm, ds⟩ w := by
  intro c
  induction c with
  | skip => intro st tm w I tok k Q _ _ hf hn h hk; exact wp_skip (hk .normal st tm w I tok hf hn h)
  | label l => intro st tm w I tok k Q _ _ hf hn h hk; exact wp_label (hk .normal st tm w I tok hf hn h)
  | exit id => intro st tm w I tok k Q _ _ hf hn h hk; exact wp_exit (hk (.exit id) st tm w I tok hf hn h)
  | ret => intro st tm w I tok k Q _ _ hf hn h hk; exact wp_ret (hk .ret st tm w I tok hf hn h)
  | goto l => intro st tm w I tok k Q _ _ hf; cases hf
  | refuse why => intro st tm w I tok k Q _ _ hf; cases hf
  | rangeFunc f ps a b => intro st tm w I tok k Q _ hd; cases hd
  | region id ops drawn =>
    intro st tm w I tok k Q _ hd hf hn h hk
    have hdst : ∀ o ∈ ops.toList, ∀ d, o.dst = some d → d < n := by
      intro o ho d hod
      have := List.all_eq_true.1 hd o ho
      simpa [dstIn, hod] using this
    cases drawn with
    | true =>
      simp only [codeK, cond_true] at hf
      exact regionK_sound (P := P) (k := k .normal) hE hM hD hdst (fun st tm w I tok e1 e2 e3 => hk .normal st tm w I tok e1 e2 e3) h hn hf
    | false =>
      simp only [codeK, cond_false] at hf
      exact wp_region_list (opsK_sound (P := P) hE hD (k := k .normal) (Q := Q) (fun st tm w I tok e1 e2 e3 => hk .normal st tm w I tok e1 e2 e3) ops.toList hdst h hn hf)
  | seq a b iha ihb =>
    intro st tm w I tok k Q hL hd hf hn h hk
    simp only [dstsIn, Bool.and_eq_true] at hd
    simp only [codeK] at hf
    refine wp_seq (iha (fun x hx => hL x (by simp [subLoops, hx])) hd.1 hf hn h ?_)
    intro ex st1 tm1 w1 I1 tok1 e1 e2 e3
    cases ex with
    | normal => exact ihb (fun x hx => hL x (by simp [subLoops, hx])) hd.2 e1 e2 e3 hk
    | exit id => exact hk (.exit id) _ _ _ _ _ e1 e2 e3
    | ret => exact hk .ret _ _ _ _ _ e1 e2 e3
  | cond c a b iha ihb =>
    intro st tm w I tok k Q hL hd hf hn h hk
    simp only [dstsIn, Bool.and_eq_true] at hd
    simp only [codeK] at hf
    have hc := ev_rep (ds := ds) h c
    split at hf
    · rename_i t e
      rw [e] at hc
      refine wp_cond (t := t) hc.bool ?_
      cases t with
      | true => exact iha (fun x hx => hL x (by simp [subLoops, hx])) hd.1 hf hn h hk
      | false => exact ihb (fun x hx => hL x (by simp [subLoops, hx])) hd.2 hf hn h hk
    · cases hf
  | block id a iha =>
    intro st tm w I tok k Q hL hd hf hn h hk
    simp only [codeK] at hf
    refine wp_block (iha hL hd hf hn h ?_)
    intro ex st1 tm1 w1 I1 tok1 e1 e2 e3
    cases ex with
    | normal => exact hk .normal _ _ _ _ _ e1 e2 e3
    | exit i =>
      show (if i = id then Q .normal ⟨tm1, ds⟩ w1 else Q (.exit i) ⟨tm1, ds⟩ w1)
      cases hi : i == id with
      | true =>
        simp only [hi, cond_true] at e1
        rw [if_pos (by simpa using hi)]
        exact hk .normal _ _ _ _ _ e1 e2 e3
      | false =>
        simp only [hi, cond_false] at e1
        rw [if_neg (by simpa using hi)]
        exact hk (.exit i) _ _ _ _ _ e1 e2 e3
    | ret => exact hk .ret _ _ _ _ _ e1 e2 e3
  | loop a iha =>
    intro st tm w I tok k Q hL hd hf hn h hk
    exact hL a (by simp [subLoops]) hd hf hn h hk
  | scope a iha =>
    intro st tm w I tok k Q hL hd hf hn h hk
    refine wp_scope_straight (iha hL hd hf hn h ?_)
    intro ex st1 tm1 w1 I1 tok1 e1 e2 e3
    cases ex with
    | normal => exact hk .normal _ _ _ _ _ e1 e2 e3
    | exit i => exact hk (.exit i) _ _ _ _ _ e1 e2 e3
    | ret => exact hk .ret _ _ _ _ _ e1 e2 e3

/-- A loop whose rounds are told one by one. -/
theorem loopN_good {D : CallD} {loop : LoopK Res} {r : Res} {n : Nat} (hE : EnvOK P E) (hM : P.follows .mixedOrders = true) (hD : SoundD P D) {body : Code} (hL : ∀ b ∈ subLoops body, LoopGood P r w0 I0 xs ds n loop b) :
    ∀ (q : Nat) {st : St} {tm : Array Value} {w : World} {I : Nat → Prop} {tok : Tok} {k : Ex → St → Option Res} {Q : Exit → Act → World → Prop}, dstsIn n body = true → loopN (fun st k => codeK E D loop body st k) q st k = some r → st.sl.length = n →
      Inv w0 I0 xs st tm w I tok → KGood w0 I0 xs ds n r k Q → (Code.loop body).wp P Q ⟨tm, ds⟩ w := by
  intro q st tm w I tok k Q hd hf hn h hk
  refine wp_loop_rounds q ?_
  induction q generalizing st tm w I tok with
  | zero => cases hf
  | succ q ihq =>
    rw [rounds_succ]
    refine codeK_sound (P := P) hE hM hD body hL hd hf hn h ?_
    intro ex st1 tm1 w1 I1 tok1 e1 e2 e3
    cases ex with
    | normal => exact ihq e1 e2 e3
    | exit i => exact hk (.exit i) _ _ _ _ _ e1 e2 e3
    | ret => exact hk .ret _ _ _ _ _ e1 e2 e3
end Go.Own
