/- What is proved: operations on values and on boxes are sound. Conditions: those that each theorem names. -/
import Derived.Test.YtipheoipbjakfaaCoI
set_option linter.unusedVariables false
set_option linter.unusedSimpArgs false
/- Operations on data: what the model's run of each comes to. -/
namespace Go.Own

def putT (tm : Array Value) (d : Option Nat) (v : Value) : Array Value := match d with | some d => tm.setIfInBounds d v | none => tm

/-- What an operation comes to: a value for its slot, and the state behind it. -/
def OpGood (P : Program) (o : Oper) (ds : List Deferred) (w0 : World) (I0 : Nat → Prop) (xs : List Nat) (st' : St) (tm : Array Value) (w : World) : Prop :=
  ∃ v w' I' tok', ((execOp (Act.eval ⟨tm, ds⟩) o).run P w = .ok (.value v) w' ∨ ((execOp (Act.eval ⟨tm, ds⟩) o).run P w = .ok .skip w' ∧ v = undef)) ∧
    Inv w0 I0 xs st' (putT tm o.dst v) w' I' tok'

/-- An operand. -/
def ORep (w : World) (I : Nat → Prop) (tok : Tok) (st : St) (tm : Array Value) (s : SV) (v : Value) : Prop :=
  match s with
  | .nil => v = .slice none 0 0
  | .nilp => v = .pointer none
  | .own .. => False
  | s => ∃ i, SRep w I tok st tm i s v

theorem ORep.of_s {w : World} {I : Nat → Prop} {tok : Tok} {st : St} {tm : Array Value} {s : SV} {v : Value} {i : Nat} (h : SRep w I tok st tm i s v) (ho : ∀ t nl l, s ≠ .own t nl l) :
    ORep w I tok st tm s v := by
  unfold ORep
  cases s <;> first | exact ⟨i, h⟩ | skip
  · exact absurd rfl (ho _ _ _)
  · simp only [SRep] at h
  · simp only [SRep] at h

variable {P : Program} {E : Env} {w0 w : World} {I0 I : Nat → Prop} {xs : List Nat} {st : St} {tm : Array Value} {tok : Tok} {ds : List Deferred}

theorem ev_rep (h : Inv w0 I0 xs st tm w I tok) (x : Operand) : ORep w I tok st tm (ev st x) (Act.eval ⟨tm, ds⟩ x) := by
  cases x with
  | tmp i =>
    simp only [ev, Act.eval]
    by_cases hi : i < st.sl.length
    · have hs := h.slots i hi
      cases hv : st.slot i <;> simp only [] <;> rw [hv] at hs <;> first | exact ORep.of_s hs (by intros; simp) | skip
      · refine ⟨0, ?_⟩
        show SRep w I tok st tm 0 (.rf i) _
        exact ⟨by rw [hv]; rfl, rfl⟩
      · exact ⟨0, trivial⟩
    · rw [slot_ge st i (Nat.le_of_not_lt hi)]
      exact ⟨0, trivial⟩
  | const v =>
    simp only [ev, Act.eval]
    unfold ofConst
    split <;> first | (refine ⟨0, ?_⟩; simp [SRep, valRep, Ty.isAgg, cellsRep]; done) | (simp [ORep]; done) | skip
  | global g => exact ⟨0, trivial⟩
  | func f => exact ⟨0, #[], rfl, rfl, by simp⟩

theorem ORep.p {d : DV} {v : Value} (h : ORep w I tok st tm (.p d) v) : valRep w I d.1 d.2 v := by
  obtain ⟨i, h⟩ := h
  simpa only [SRep] using h

theorem valRep_int {k : IntKind} {n : Int} {v : Value} : valRep w I (.int k) n v ↔ v = .int k n := by simp [valRep, Ty.isAgg, cellsRep]
theorem valRep_bool {b : Bool} {v : Value} : valRep w I .bool b v ↔ v = .bool b := by simp [valRep, Ty.isAgg, cellsRep]
theorem valRep_str {s : ByteArray} {v : Value} : valRep w I .str s v ↔ v = .string s := by simp [valRep, Ty.isAgg, cellsRep]
theorem valRep_flt {s : Nat} {v : Value} : valRep w I .flt s v ↔ v = .float .f64 s := by simp [valRep, Ty.isAgg, cellsRep]

theorem putO_some (st : St) (o : Oper) (v : SV) (d : Nat) (h : o.dst = some d) : st.putO o.dst v = st.put d v := by rw [h]; rfl

/-- Data comes, and nothing else turns. -/
theorem OpGood.p {o : Oper} {x : DV} {v : Value} (h : Inv w0 I0 xs st tm w I tok) (hd : ∀ d, o.dst = some d → d < st.sl.length)
    (hr : (execOp (Act.eval ⟨tm, ds⟩) o).run P w = .ok (.value v) w) (hv : valRep w I x.1 x.2 v) :
    OpGood P o ds w0 I0 xs (st.putO o.dst (.p x)) tm w := by
  cases ho : o.dst with
  | none => exact ⟨v, w, I, tok, .inl hr, by simpa [ho, putT, St.putO] using h⟩
  | some d => exact ⟨v, w, I, tok.drop d, .inl hr, by simpa [ho, putT, St.putO] using h.put_p (hd d ho) hv⟩

/-! ### Numbers -/
theorem ibin_run {op : BinOp} {k : IntKind} {a b : Int} {x : DV} (h : ibin op k a b = some (true, x)) (T : TypeId) (hne : op ≠ .shl ∧ op ≠ .shr) :
    ∃ v, (binOp op T (.int k a) (.int k b)).run P w = .ok v w ∧ valRep w I x.1 x.2 v := by
  cases op <;> simp only [ibin, Option.some.injEq, Prod.mk.injEq, true_and, reduceCtorEq, Bool.not_eq_true', decide_eq_false_iff_not] at h <;> (try simp at hne)
  case add => subst h; exact ⟨.int k (k.wrap (a + b)), by simp [binOp, Op.intArith], valRep_int.2 rfl⟩
  case sub => subst h; exact ⟨.int k (k.wrap (a - b)), by simp [binOp, Op.intArith], valRep_int.2 rfl⟩
  case mul => subst h; exact ⟨.int k (k.wrap (a * b)), by simp [binOp, Op.intArith], valRep_int.2 rfl⟩
  case quo => obtain ⟨h0, rfl⟩ := h; exact ⟨.int k (k.wrap (a.tdiv b)), by simp [binOp, Op.intDiv, h0], valRep_int.2 rfl⟩
  case rem => obtain ⟨h0, rfl⟩ := h; exact ⟨.int k (a.tmod b), by simp [binOp, Op.intDiv, h0], valRep_int.2 rfl⟩
  case and => subst h; exact ⟨.int k (ibits k (fun x y => x &&& y) a b), by simp [binOp, Op.intBits, ibits], valRep_int.2 rfl⟩
  case or => subst h; exact ⟨.int k (ibits k (fun x y => x ||| y) a b), by simp [binOp, Op.intBits, ibits], valRep_int.2 rfl⟩
  case xor => subst h; exact ⟨.int k (ibits k (fun x y => x ^^^ y) a b), by simp [binOp, Op.intBits, ibits], valRep_int.2 rfl⟩
  case andNot => subst h; exact ⟨.int k (ibits k (fun x y => x &&& ~~~y) a b), by simp [binOp, Op.intBits, ibits], valRep_int.2 rfl⟩
  case eql => subst h; exact ⟨.bool (a == b), by simp [binOp, Op.intCmp], valRep_bool.2 rfl⟩
  case neq => subst h; exact ⟨.bool (a != b), by simp [binOp, Op.intCmp], valRep_bool.2 rfl⟩
  case lss => subst h; exact ⟨.bool (decide (a < b)), by simp [binOp, Op.intCmp], valRep_bool.2 rfl⟩
  case leq => subst h; exact ⟨.bool (decide (a ≤ b)), by simp [binOp, Op.intCmp], valRep_bool.2 rfl⟩
  case gtr => subst h; exact ⟨.bool (decide (a > b)), by simp [binOp, Op.intCmp], valRep_bool.2 rfl⟩
  case geq => subst h; exact ⟨.bool (decide (a ≥ b)), by simp [binOp, Op.intCmp], valRep_bool.2 rfl⟩

theorem ishift_run {op : BinOp} {k k' : IntKind} {a b : Int} {x : DV} (h : ishift op k a b = some (true, x)) (T : TypeId) :
    ∃ v, (binOp op T (.int k a) (.int k' b)).run P w = .ok v w ∧ valRep w I x.1 x.2 v := by
  cases op <;> simp only [ishift, Option.some.injEq, Prod.mk.injEq, reduceCtorEq, Bool.not_eq_true', decide_eq_false_iff_not] at h
  case shl => obtain ⟨h0, rfl⟩ := h; exact ⟨.int k (k.wrap (a * 2 ^ (min b.toNat k.bits))), by simp [binOp, Op.shift, h0], valRep_int.2 rfl⟩
  case shr => obtain ⟨h0, rfl⟩ := h; exact ⟨.int k (a.fdiv (2 ^ (min b.toNat k.bits))), by simp [binOp, Op.shift, h0], valRep_int.2 rfl⟩

theorem sbin_run {op : BinOp} {a b : ByteArray} {x : DV} (h : sbin op a b = some (true, x)) (T : TypeId) :
    ∃ v, (binOp op T (.string a) (.string b)).run P w = .ok v w ∧ valRep w I x.1 x.2 v := by
  cases op <;> simp only [sbin, Option.some.injEq, Prod.mk.injEq, true_and, reduceCtorEq, decide_eq_true_eq] at h
  case add =>
    obtain ⟨h0, rfl⟩ := h
    have hm : ¬ (((a.size + b.size : Nat) : Int) > IntKind.i64.max) := by
      have : IntKind.i64.max = 9223372036854775807 := by decide
      omega
    refine ⟨.string (a ++ b), ?_, valRep_str.2 rfl⟩
    simp only [binOp, Op.stringOp]
    rw [if_neg hm]; rfl
  case eql => subst h; exact ⟨.bool (a.toList == b.toList), by simp [binOp, Op.stringOp], valRep_bool.2 rfl⟩
  case neq => subst h; exact ⟨.bool (!(a.toList == b.toList)), by simp [binOp, Op.stringOp], valRep_bool.2 rfl⟩
  case lss => subst h; exact ⟨.bool (Op.bytesLess a.toList b.toList), by simp [binOp, Op.stringOp], valRep_bool.2 rfl⟩
  case leq => subst h; exact ⟨.bool (Op.bytesLess a.toList b.toList || a.toList == b.toList), by simp [binOp, Op.stringOp], valRep_bool.2 rfl⟩
  case gtr => subst h; exact ⟨.bool (!(Op.bytesLess a.toList b.toList || a.toList == b.toList)), by simp [binOp, Op.stringOp], valRep_bool.2 rfl⟩
  case geq => subst h; exact ⟨.bool (!(Op.bytesLess a.toList b.toList)), by simp [binOp, Op.stringOp], valRep_bool.2 rfl⟩

end Go.Own

/- Equality of data, and parts of aggregates. -/
namespace Go.Own
variable {P : Program} {E : Env} {w0 w : World} {I0 I : Nat → Prop} {xs : List Nat} {st : St} {tm : Array Value} {tok : Tok} {ds : List Deferred}

theorem TyAt.isAgg {T : TypeId} {t : Ty} (h : TyAt P T t) (w : World) : (Go.isAgg T).run P w = .ok t.isAgg w := by
  unfold Go.isAgg
  cases t <;> simp only [TyAt, tyAF] at h
  case int k => simp [run_underlying h.2, Ty.isAgg]
  case bool => simp [run_underlying h.2, Ty.isAgg]
  case str => simp [run_underlying h.2, Ty.isAgg]
  case flt => simp [run_underlying h.2, Ty.isAgg]
  case unit => obtain ⟨_, _, fs, hu, _⟩ := h; simp [run_underlying hu, Ty.isAgg]
  case pair a b => obtain ⟨_, _, fs, hu, _⟩ := h; simp [run_underlying hu, Ty.isAgg]
  case arr n t => obtain ⟨_, e, hu, _⟩ := h; simp [run_underlying hu, Ty.isAgg]
  case sl t => obtain ⟨_, e, hu, _⟩ := h; simp [run_underlying hu, Ty.isAgg]
  case ref t => obtain ⟨_, e, hu, _⟩ := h; simp [run_underlying hu, Ty.isAgg]

theorem TyAt.sizeOf {T : TypeId} {t : Ty} (h : TyAt P T t) (w : World) : (Go.sizeOf T).run P w = .ok t.size w := by
  have hs := h.base.size
  cases hq : P.info? T with
  | none => simp [hq] at hs
  | some i => simp only [hq, Option.map_some, Option.some.injEq] at hs; simp [Go.sizeOf, typeInfo, hq, hs]

/-- A part of an aggregate's cells. -/
theorem part_run {T : TypeId} {t : Ty} (h : TyAt P T t) (cs : Array Value) (off : Nat) (x : t.den) (w : World)
    (hc : cellsRep w I t x ((cs.toList.drop off).take t.size)) : ∃ v, (part T cs off).run P w = .ok v w ∧ valRep w I t x v := by
  unfold part
  rw [Sem.run_bind, h.isAgg w]
  simp only [Result.andThen_ok]
  cases ha : t.isAgg with
  | true =>
    refine ⟨.agg (cs.extract off (off + t.size)), by simp [h.sizeOf w], ?_⟩
    unfold valRep
    simp only [ha, if_true]
    refine ⟨_, rfl, ?_⟩
    have : (cs.extract off (off + t.size)).toList = (cs.toList.drop off).take t.size := by
      rw [Array.toList_extract]; simp [List.extract]
    rw [this]; exact hc
  | false =>
    have h1 : t.size = 1 := by cases t <;> simp_all [Ty.isAgg, Ty.size]
    have hl := hc.length
    rw [h1] at hl hc
    match hm : (cs.toList.drop off).take 1, hl with
    | [v], _ =>
      have hv : cs[off]? = some v := by
        have : (cs.toList.drop off)[0]? = some v := by
          have h0 : ((cs.toList.drop off).take 1)[0]? = some v := by rw [hm]; rfl
          simpa using h0
        simpa using this
      refine ⟨v, by simp [hv], ?_⟩
      unfold valRep
      simp only [ha, Bool.false_eq_true, if_false]
      rw [hm] at hc
      exact hc

theorem eqGuard_no : ∀ {t : Ty}, (∀ (T : TypeId) (d : Nat), TyAt P T t → t.lev ≤ d → P.eqGuardType d T = false) ∧
    (∀ (fs : List Field) (off d : Nat), FieldsAt P fs off t → t.lev ≤ d + 1 → (fs.any fun f => f.name != "_" && P.eqGuardType d f.type) = false) := by
  intro t
  induction t with
  | int k => exact ⟨fun T d h hd => by cases d with | zero => simp [Ty.lev] at hd | succ d => simp [Program.eqGuardType, h.2], fun fs off d h => by cases h⟩
  | bool => exact ⟨fun T d h hd => by cases d with | zero => simp [Ty.lev] at hd | succ d => simp [Program.eqGuardType, h.2], fun fs off d h => by cases h⟩
  | str => exact ⟨fun T d h hd => by cases d with | zero => simp [Ty.lev] at hd | succ d => simp [Program.eqGuardType, h.2], fun fs off d h => by cases h⟩
  | flt => exact ⟨fun T d h hd => by cases d with | zero => simp [Ty.lev] at hd | succ d => simp [Program.eqGuardType, h.2], fun fs off d h => by cases h⟩
  | unit =>
    refine ⟨fun T d h hd => ?_, fun fs off d h _ => ?_⟩
    · obtain ⟨_, _, fs, hu, hfs⟩ := h
      cases d with
      | zero => simp [Ty.lev] at hd
      | succ d =>
        simp only [Program.eqGuardType, hu]
        rw [← Array.any_toList, hfs]; rfl
    · have : fs = [] := h
      subst this; rfl
  | pair a b iha ihb =>
    have hf : ∀ (f : Field) (r : List Field) (n d : Nat), TyAt P f.type a → FieldsAt P r n b → (Ty.pair a b).lev ≤ d + 1 → ((f :: r).any fun f => f.name != "_" && P.eqGuardType d f.type) = false := by
      intro f r n d h1 h2 hd
      simp only [Ty.lev] at hd
      rw [List.any_cons, iha.1 f.type d h1 (by omega), ihb.2 r n d h2 (by omega)]
      simp
    refine ⟨fun T d h hd => ?_, fun fs off d h hd => ?_⟩
    · obtain ⟨_, _, fs, hu, _, f, r, hfs, _, h1, h2⟩ := h
      cases d with
      | zero => simp only [Ty.lev] at hd; omega
      | succ d =>
        simp only [Program.eqGuardType, hu]
        rw [← Array.any_toList, hfs]
        exact hf f r _ d h1 h2 hd
    · obtain ⟨f, r, rfl, _, h1, h2⟩ := h
      exact hf f r _ d h1 h2 hd
  | arr n t ih =>
    refine ⟨fun T d h hd => ?_, fun fs off d h => by cases h⟩
    obtain ⟨_, e, hu, he⟩ := h
    cases d with
    | zero => simp [Ty.lev] at hd
    | succ d => simp only [Program.eqGuardType, hu]; exact ih.1 e d he (by simp only [Ty.lev] at hd; omega)
  | sl t ih =>
    refine ⟨fun T d h hd => ?_, fun fs off d h => by cases h⟩
    obtain ⟨_, e, hu, he⟩ := h
    cases d with
    | zero => simp [Ty.lev] at hd
    | succ d => simp [Program.eqGuardType, hu]
  | ref t ih =>
    refine ⟨fun T d h hd => ?_, fun fs off d h => by cases h⟩
    obtain ⟨_, e, hu, he⟩ := h
    cases d with
    | zero => simp [Ty.lev] at hd
    | succ d => simp [Program.eqGuardType, hu]

end Go.Own

/- Equality of data: the model's run. -/
namespace Go.Own
variable {P : Program} {E : Env} {w0 w : World} {I0 I : Nat → Prop} {xs : List Nat} {st : St} {tm : Array Value} {tok : Tok} {ds : List Deferred}

/-- The loop over an array's elements. -/
theorem forIn_eq (w : World) (body : Nat → Option Bool × Unit → Sem (ForInStep (Option Bool × Unit))) (g : Nat → Bool) : ∀ (l : List Nat),
    (∀ i ∈ l, ∀ s, (body i s).run P w = .ok (if g i = true then .yield (none, ()) else .done (some false, ())) w) →
    (forIn l (none, ()) body : Sem (Option Bool × Unit)).run P w = .ok (if l.all g then (none, ()) else (some false, ())) w := by
  intro l
  induction l with
  | nil => intro _; simp
  | cons i l ih =>
    intro h
    rw [List.forIn_cons, Sem.run_bind, h i (by simp)]
    simp only [Result.andThen_ok]
    cases hg : g i with
    | false => simp [hg]
    | true =>
      simp only [if_true]
      rw [ih fun j hj => h j (by simp [hj])]
      simp [hg]

theorem eq_foldr (n : Nat) (q : Nat → Option Bool) (r : Bool)
    (h : (List.range n).foldr (fun i r => match q i, r with | some x, some y => some (x && y) | _, _ => none) (some true) = some r) :
    (∀ i, i < n → (q i).isSome) ∧ r = (List.range n).all fun i => (q i).getD false := by
  have key : ∀ (l : List Nat) (r : Bool), l.foldr (fun i r => match q i, r with | some x, some y => some (x && y) | _, _ => none) (some true) = some r →
      (∀ i ∈ l, (q i).isSome) ∧ r = l.all fun i => (q i).getD false := by
    intro l
    induction l with
    | nil => intro r h; simp at h; simp [← h]
    | cons i l ih =>
      intro r h
      simp only [List.foldr_cons] at h
      split at h
      · rename_i x y hx hy
        simp only [Option.some.injEq] at h
        obtain ⟨h1, h2⟩ := ih y hy
        refine ⟨?_, by simp [← h, hx, h2]⟩
        intro j hj
        simp only [List.mem_cons] at hj
        rcases hj with rfl | hj
        · simp [hx]
        · exact h1 j hj
      · cases h
  obtain ⟨h1, h2⟩ := key _ _ h
  exact ⟨fun i hi => h1 i (by simpa using hi), h2⟩

theorem eq_run : ∀ {t : Ty}, (∀ (T : TypeId) (d : Nat) (v1 v2 : Value) (x y : t.den) (r : Bool), TyAt P T t → t.lev ≤ d → valRep w I t x v1 → valRep w I t y v2 → eqT t x y = some r →
      (Op.equalIn d T v1 v2).run P w = .ok r w) ∧
    (∀ (fs : List Field) (off d : Nat) (as bs : Array Value) (x y : t.den) (r : Bool), FieldsAt P fs off t → t.lev ≤ d + 1 → (∀ f ∈ fs, f.name ≠ "_") →
      cellsRep w I t x (as.toList.drop off) → cellsRep w I t y (bs.toList.drop off) → eqT t x y = some r → (Op.eqFields d as bs fs).run P w = .ok r w) := by
  intro t
  induction t with
  | int k =>
    refine ⟨fun T d v1 v2 x y r h hd h1 h2 he => ?_, fun fs off d as bs x y r h => by cases h⟩
    rw [valRep_int] at h1 h2; subst h1; subst h2
    simp only [eqT, Option.some.injEq] at he; subst he
    cases d with
    | zero => simp [Ty.lev] at hd
    | succ d => rw [run_equalIn_int w d T k k x y h.2]; congr 1
  | bool =>
    refine ⟨fun T d v1 v2 x y r h hd h1 h2 he => ?_, fun fs off d as bs x y r h => by cases h⟩
    rw [valRep_bool] at h1 h2; subst h1; subst h2
    simp only [eqT, Option.some.injEq] at he; subst he
    cases d with
    | zero => simp [Ty.lev] at hd
    | succ d => exact run_equalIn_bool w d T x y h.2
  | str =>
    refine ⟨fun T d v1 v2 x y r h hd h1 h2 he => ?_, fun fs off d as bs x y r h => by cases h⟩
    rw [valRep_str] at h1 h2; subst h1; subst h2
    simp only [eqT, Option.some.injEq] at he; subst he
    cases d with
    | zero => simp [Ty.lev] at hd
    | succ d => rw [run_equalIn_string w d T x y h.2, beq_toListBytes]
  | flt => exact ⟨fun T d v1 v2 x y r h hd h1 h2 he => by simp [eqT] at he, fun fs off d as bs x y r h => by cases h⟩
  | sl t ih => exact ⟨fun T d v1 v2 x y r h hd h1 h2 he => by simp [eqT] at he, fun fs off d as bs x y r h => by cases h⟩
  | ref t ih => exact ⟨fun T d v1 v2 x y r h hd h1 h2 he => by simp [eqT] at he, fun fs off d as bs x y r h => by cases h⟩
  | unit =>
    refine ⟨fun T d v1 v2 x y r h hd h1 h2 he => ?_, fun fs off d as bs x y r h _ _ _ _ he => ?_⟩
    · obtain ⟨_, hp, fs, hu, hfs⟩ := h
      unfold valRep at h1 h2
      simp only [Ty.isAgg, if_true] at h1 h2
      obtain ⟨as, rfl, h1⟩ := h1
      obtain ⟨bs, rfl, h2⟩ := h2
      simp only [eqT, Option.some.injEq] at he; subst he
      have hF : P.fieldsOf T = fs := by simp [Program.fieldsOf, hu]
      cases d with
      | zero => simp [Ty.lev] at hd
      | succ d => rw [run_equalIn_struct w d T as bs (by rw [hF, hu]) hp, hF, hfs]; simp [Op.eqFields]
    · have : fs = [] := h
      subst this
      simp only [eqT, Option.some.injEq] at he; subst he
      simp [Op.eqFields]
  | pair a b iha ihb =>
    have hf : ∀ (f : Field) (rs : List Field) (off d : Nat) (as bs : Array Value) (x y : (Ty.pair a b).den) (r : Bool), f.offset = off → TyAt P f.type a → FieldsAt P rs (off + a.size) b → (Ty.pair a b).lev ≤ d + 1 →
        f.name ≠ "_" → (∀ f ∈ rs, f.name ≠ "_") → cellsRep w I (.pair a b) x (as.toList.drop off) → cellsRep w I (.pair a b) y (bs.toList.drop off) → eqT (.pair a b) x y = some r →
        (Op.eqFields d as bs (f :: rs)).run P w = .ok r w := by
      intro f rs off d as bs x y r ho h1 h2 hd hn hns hx hy he
      simp only [Ty.lev] at hd
      obtain ⟨c1, c2, e1, hx1, hx2⟩ := hx
      obtain ⟨c3, c4, e2, hy1, hy2⟩ := hy
      have l1 := hx1.length
      have l3 := hy1.length
      have t1 : (as.toList.drop off).take a.size = c1 := by rw [e1, ← l1]; simp
      have t3 : (bs.toList.drop off).take a.size = c3 := by rw [e2, ← l3]; simp
      have t2 : as.toList.drop (off + a.size) = c2 := by rw [← List.drop_drop, e1, ← l1]; simp
      have t4 : bs.toList.drop (off + a.size) = c4 := by rw [← List.drop_drop, e2, ← l3]; simp
      obtain ⟨v1, hv1, hr1⟩ := part_run h1 as off x.1 w (by rw [t1]; exact hx1)
      obtain ⟨v2, hv2, hr2⟩ := part_run h1 bs off y.1 w (by rw [t3]; exact hy1)
      simp only [eqT] at he
      split at he
      · rename_i p q hp hq
        simp only [Option.some.injEq] at he
        have e3 := iha.1 f.type d v1 v2 x.1 y.1 p h1 (by omega) hr1 hr2 hp
        have e4 := ihb.2 rs (off + a.size) d as bs x.2 y.2 q h2 (by omega) hns (by rw [t2]; exact hx2) (by rw [t4]; exact hy2) hq
        simp only [Op.eqFields, hn, ne_eq, not_false_eq_true, if_true, Sem.run_bind, ho, hv1, hv2, e3, Result.andThen_ok, Sem.run_ite, e4, Sem.run_pure]
        cases p <;> simp_all
      · cases he
    refine ⟨fun T d v1 v2 x y r h hd h1 h2 he => ?_, fun fs off d as bs x y r h hd hn hx hy he => ?_⟩
    · obtain ⟨_, hp, fs, hu, hnm, f, rs, hfs, ho, hF1, hF2⟩ := h
      unfold valRep at h1 h2
      simp only [Ty.isAgg, if_true] at h1 h2
      obtain ⟨as, rfl, h1⟩ := h1
      obtain ⟨bs, rfl, h2⟩ := h2
      have hF : P.fieldsOf T = fs := by simp [Program.fieldsOf, hu]
      cases d with
      | zero => simp only [Ty.lev] at hd; omega
      | succ d =>
        rw [run_equalIn_struct w d T as bs (by rw [hF, hu]) hp, hF, hfs]
        rw [hfs] at hnm
        refine hf f rs 0 d as bs x y r ho hF1 ?_ hd (hnm f (by simp)) (fun g hg => hnm g (by simp [hg])) ?_ ?_ he
        · simpa [FieldsAt] using hF2
        · simpa using h1
        · simpa using h2
    · obtain ⟨f, rs, rfl, ho, hF1, hF2⟩ := h
      exact hf f rs off d as bs x y r ho hF1 hF2 hd (hn f (by simp)) (fun g hg => hn g (by simp [hg])) hx hy he
  | arr n t ih =>
    refine ⟨fun T d v1 v2 x y r h hd h1 h2 he => ?_, fun fs off d as bs x y r h => by cases h⟩
    obtain ⟨_, e, hu, hT0⟩ := h
    have hT : TyAt P e t := hT0
    unfold valRep at h1 h2
    simp only [Ty.isAgg, if_true] at h1 h2
    obtain ⟨as, rfl, hl1, _, h1⟩ := h1
    obtain ⟨bs, rfl, hl2, _, h2⟩ := h2
    simp only [eqT] at he
    obtain ⟨hs, rfl⟩ := eq_foldr n _ r he
    cases d with
    | zero => simp [Ty.lev] at hd
    | succ d =>
      simp only [Ty.lev] at hd
      have hstep : ∀ i, i < n → ((do let a ← part e as (i * t.size); let b ← part e bs (i * t.size); Op.equalIn d e a b : Sem Bool)).run P w =
          .ok ((eqT t (List.getD x i t.dflt) (List.getD y i t.dflt)).getD false) w := by
        intro i hi
        have hxi : x[i]? = some (List.getD x i t.dflt) := by
          rw [List.getD_eq_getElem?_getD, List.getElem?_eq_getElem (by omega)]; rfl
        have hyi : y[i]? = some (List.getD y i t.dflt) := by
          rw [List.getD_eq_getElem?_getD, List.getElem?_eq_getElem (by omega)]; rfl
        obtain ⟨a, ha, hra⟩ := part_run hT as (i * t.size) _ w (h1 i _ hxi)
        obtain ⟨b, hb, hrb⟩ := part_run hT bs (i * t.size) _ w (h2 i _ hyi)
        obtain ⟨q, hq⟩ := Option.isSome_iff_exists.1 (hs i hi)
        simp only [Sem.run_bind, ha, hb, Result.andThen_ok]
        rw [ih.1 e d a b _ _ q hT (by omega) hra hrb hq, hq]; rfl
      simp only [Op.equalIn, Sem.run_bind, run_underlying hu, Result.andThen_ok, hT.sizeOf w]
      rw [Std.Legacy.Range.forIn_eq_forIn_range', forIn_eq w _ (fun i => (eqT t (List.getD x i t.dflt) (List.getD y i t.dflt)).getD false)]
      · simp only [Result.andThen_ok]
        have hr : List.range' 0 (Std.Legacy.Range.size [:n]) 1 = List.range n := by
          simp [Std.Legacy.Range.size, List.range_eq_range']
        rw [hr]
        generalize (List.range n).all (fun i => (eqT t (List.getD x i t.dflt) (List.getD y i t.dflt)).getD false) = q
        cases q <;> rfl
      · intro i hi s
        have hi' : i < n := by simpa [Std.Legacy.Range.size] using hi
        have hst := hstep i hi'
        generalize (eqT t (List.getD x i t.dflt) (List.getD y i t.dflt)).getD false = q at hst ⊢
        have hb : ∀ (f : Bool → Sem (ForInStep (Option Bool × Unit))), ((do let a ← part e as (i * t.size); let b ← part e bs (i * t.size); let r ← Op.equalIn d e a b; f r : Sem _)).run P w = (f q).run P w := by
          intro f
          have h0 : (do let a ← part e as (i * t.size); let b ← part e bs (i * t.size); let r ← Op.equalIn d e a b; f r : Sem _) =
              (do let a ← part e as (i * t.size); let b ← part e bs (i * t.size); Op.equalIn d e a b : Sem Bool) >>= f := by simp only [bind_assoc]
          rw [h0, Sem.run_bind, hst]; rfl
        rw [hb]
        cases q <;> rfl
end Go.Own

/- Operations whose result is data. -/
namespace Go.Own
variable {P : Program} {E : Env} {w0 w : World} {I0 I : Nat → Prop} {xs : List Nat} {st : St} {tm : Array Value} {tok : Tok} {ds : List Deferred}

theorem eq_sound (hE : EnvOK P E) {T : TypeId} {t : Ty} (hT : E.T T = some t) {x y : t.den} {v1 v2 : Value} {r : Bool} (op : BinOp) (ox oy : Operand)
    (h1 : valRep w I t x v1) (h2 : valRep w I t y v2) (he : eqT t x y = some r) :
    (eqGuard op T ox oy v1 v2).run P w = .ok () w ∧ (binOp .eql T v1 v2).run P w = .ok (.bool r) w ∧ (binOp .neq T v1 v2).run P w = .ok (.bool (!r)) w := by
  have hA := hE.ty T t hT
  have hlev : t.lev ≤ 10000 := Nat.le_trans (hE.lev T t hT) (by omega)
  have hr := eq_run.1 T 10000 v1 v2 x y r hA hlev h1 h2 he
  have hg : P.eqGuardType P.depth T = false := eqGuard_no.1 T P.depth hA (Nat.le_trans (hE.lev T t hT) hE.depth)
  have agg : ∀ as bs, v1 = .agg as → v2 = .agg bs → (eqGuard op T ox oy v1 v2).run P w = .ok () w ∧ (binOp .eql T v1 v2).run P w = .ok (.bool r) w ∧ (binOp .neq T v1 v2).run P w = .ok (.bool (!r)) w := by
    rintro as bs rfl rfl
    refine ⟨run_eqGuard_agg w op T ox oy as bs hg, ?_, ?_⟩
    · rw [run_eql_struct, hr]; rfl
    · rw [run_neq_struct, hr]; rfl
  cases t with
  | int k =>
    rw [valRep_int] at h1 h2; subst h1; subst h2
    simp only [eqT, Option.some.injEq] at he; subst he
    refine ⟨by cases op <;> simp [eqGuard], ?_, ?_⟩
    · simp [binOp, Op.intCmp]; congr 1
    · simp [binOp, Op.intCmp, bne]; congr 1
  | bool =>
    rw [valRep_bool] at h1 h2; subst h1; subst h2
    refine ⟨by cases op <;> simp [eqGuard], ?_, ?_⟩
    · simp only [binOp, Op.equal, Op.maxDepth, Sem.run_bind, hr, Result.andThen_ok, Sem.run_pure]
    · simp only [binOp, Op.equal, Op.maxDepth, Sem.run_bind, hr, Result.andThen_ok, Sem.run_pure]
  | str =>
    rw [valRep_str] at h1 h2; subst h1; subst h2
    simp only [eqT, Option.some.injEq] at he; subst he
    refine ⟨by cases op <;> simp [eqGuard], ?_, ?_⟩
    · simp only [binOp, Op.stringOp, beq_toListBytes]; rfl
    · simp only [binOp, Op.stringOp, beq_toListBytes]; rfl
  | flt => simp [eqT] at he
  | sl t => simp [eqT] at he
  | ref t => simp [eqT] at he
  | unit => unfold valRep at h1 h2; simp only [Ty.isAgg, if_true] at h1 h2; obtain ⟨as, e1, _⟩ := h1; obtain ⟨bs, e2, _⟩ := h2; exact agg as bs e1 e2
  | pair a b => unfold valRep at h1 h2; simp only [Ty.isAgg, if_true] at h1 h2; obtain ⟨as, e1, _⟩ := h1; obtain ⟨bs, e2, _⟩ := h2; exact agg as bs e1 e2
  | arr n t => unfold valRep at h1 h2; simp only [Ty.isAgg, if_true] at h1 h2; obtain ⟨as, e1, _⟩ := h1; obtain ⟨bs, e2, _⟩ := h2; exact agg as bs e1 e2

theorem ORep.rf_eq {h : Nat} {v : Value} (hr : ORep w I tok st tm (.rf h) v) : (st.slot h).isHome = true ∧ v = tm.getD h undef := by
  obtain ⟨i, hr⟩ := hr; exact hr

theorem home_lt (st : St) (h : Nat) (hh : (st.slot h).isHome = true) : h < st.sl.length := by
  rcases Nat.lt_or_ge h st.sl.length with hl | hl
  · exact hl
  · rw [slot_ge st h hl] at hh; cases hh

/-- Is a slice nil? -/
theorem isNil_sound (hI : Inv w0 I0 xs st tm w I tok) {s : SV} {v : Value} {c r : Bool} (hs : ORep w I tok st tm s v) (h : isNilS st s = some (c, r)) (hc : c = true) :
    ∃ ad n cap, v = .slice ad n cap ∧ ad.isNone = r := by
  have fz : ∀ {t : Ty} {l : List t.den} {v : Value}, valRep w I (.sl t) l v → (!l.isEmpty) = true → ∃ ad n cap, v = .slice ad n cap ∧ ad.isNone = false := by
    intro t l v hv hl
    simp only [valRep, Ty.isAgg, Bool.false_eq_true, if_false, cellsRep] at hv
    obtain ⟨ad, cap, e, _, hv⟩ := hv
    simp only [List.cons.injEq, and_true] at e
    refine ⟨ad, _, cap, e, ?_⟩
    rcases hv with rfl | ⟨b, o, rfl, _⟩
    · simp at hl
    · rfl
  unfold isNilS at h
  split at h
  · rename_i t l
    simp only [Option.some.injEq, Prod.mk.injEq] at h
    obtain ⟨rfl, rfl⟩ := h
    exact fz hs.p hc
  · rename_i g
    obtain ⟨hh, rfl⟩ := hs.rf_eq
    have hg := hI.slots g (home_lt st g hh)
    split at h
    · rename_i t nl l he
      simp only [Option.some.injEq, Prod.mk.injEq] at h
      obtain ⟨rfl, rfl⟩ := h
      rw [he] at hg
      obtain ⟨ad, cap, e, hn, _⟩ := hg
      refine ⟨ad, _, cap, e, ?_⟩
      cases ad <;> cases nl <;> simp_all
    · rename_i t l he
      simp only [Option.some.injEq, Prod.mk.injEq] at h
      obtain ⟨rfl, rfl⟩ := h
      rw [he] at hg
      exact fz (by simpa only [SRep] using hg) hc
    · cases h
  · cases h

theorem run_eq_slice (T e : TypeId) (hu : P.underlying T = some (.slice e)) (a : Option Addr) (n c : Nat) (d : Nat) :
    (Op.equalIn (d + 1) T (.slice a n c) (.slice none 0 0)).run P w = .ok a.isNone w ∧ (Op.equalIn (d + 1) T (.slice none 0 0) (.slice a n c)).run P w = .ok a.isNone w := by
  constructor
  · cases a <;> simp [Op.equalIn, run_underlying hu]
  · simp [Op.equalIn, run_underlying hu]

theorem run_eq_ptr (T e : TypeId) (hu : P.underlying T = some (.pointer e)) (a : Option Addr) (d : Nat) :
    (Op.equalIn (d + 1) T (.pointer a) (.pointer none)).run P w = .ok a.isNone w ∧ (Op.equalIn (d + 1) T (.pointer none) (.pointer a)).run P w = .ok a.isNone w := by
  constructor
  · cases a <;> simp [Op.equalIn, run_underlying hu]
  · simp [Op.equalIn, run_underlying hu]

theorem nilOp_sound {op : BinOp} {r : Bool} {x : DV} {T : TypeId} {v1 v2 : Value} (h : nilOp op true r = some (true, x))
    (h1 : (binOp .eql T v1 v2).run P w = .ok (.bool r) w) (h2 : (binOp .neq T v1 v2).run P w = .ok (.bool (!r)) w) :
    ∃ v, (binOp op T v1 v2).run P w = .ok v w ∧ valRep w I x.1 x.2 v := by
  unfold nilOp at h
  split at h
  · simp only [Option.some.injEq, Prod.mk.injEq, true_and] at h; subst h; exact ⟨_, h1, valRep_bool.2 rfl⟩
  · simp only [Option.some.injEq, Prod.mk.injEq, true_and] at h; subst h; exact ⟨_, h2, valRep_bool.2 rfl⟩
  · cases h

theorem nilOp_true {op : BinOp} {c r : Bool} {x : DV} (h : nilOp op c r = some (true, x)) : c = true := by
  unfold nilOp at h
  split at h
  · simp only [Option.some.injEq, Prod.mk.injEq] at h; exact h.1
  · simp only [Option.some.injEq, Prod.mk.injEq] at h; exact h.1
  · cases h

theorem binop_sound (hE : EnvOK P E) (hI : Inv w0 I0 xs st tm w I tok) {T : TypeId} {op : BinOp} {s1 s2 : SV} {v1 v2 : Value} {x : DV} (ox oy : Operand)
    (h1 : ORep w I tok st tm s1 v1) (h2 : ORep w I tok st tm s2 v2) (hb : binop st (E.T T) op s1 s2 = some (true, x)) :
    ∃ v, ((do eqGuard op T ox oy v1 v2; binOp op T v1 v2 : Sem Value)).run P w = .ok v w ∧ valRep w I x.1 x.2 v := by
  have go : (eqGuard op T ox oy v1 v2).run P w = .ok () w → (∃ v, (binOp op T v1 v2).run P w = .ok v w ∧ valRep w I x.1 x.2 v) →
      ∃ v, ((do eqGuard op T ox oy v1 v2; binOp op T v1 v2 : Sem Value)).run P w = .ok v w ∧ valRep w I x.1 x.2 v := by
    rintro hg ⟨v, hv, hr⟩
    exact ⟨v, by rw [Sem.run_bind, hg]; exact hv, hr⟩
  unfold binop at hb
  split at hb
  · rename_i k a k' b
    have e1 := valRep_int.1 h1.p
    have e2 := valRep_int.1 h2.p
    subst e1; subst e2
    refine go (by cases op <;> simp [eqGuard]) ?_
    split at hb
    · exact ishift_run hb T
    · exact ishift_run hb T
    · split at hb
      · rename_i hns1 hns2 hk
        subst hk
        exact ibin_run hb T ⟨hns1, hns2⟩
      · cases hb
  · have e1 := valRep_str.1 h1.p
    have e2 := valRep_str.1 h2.p
    subst e1; subst e2
    exact go (by cases op <;> simp [eqGuard]) (sbin_run hb T)
  · rename_i t r
    split at hb
    · rename_i hT
      have hA := hE.ty T _ hT
      obtain ⟨_, e, hu, _⟩ := hA
      have e2 : v2 = .pointer none := h2
      subst e2
      have hv := h1.p
      simp only [valRep, Ty.isAgg, Bool.false_eq_true, if_false] at hv
      have : ∃ a : Option Addr, v1 = .pointer a ∧ a.isNone = r.isNone := by
        cases r with
        | none => simp only [cellsRep, List.cons.injEq, and_true] at hv; exact ⟨none, hv, rfl⟩
        | some y => simp only [cellsRep] at hv; obtain ⟨b, o, c, e, _⟩ := hv; simp only [List.cons.injEq, and_true] at e; exact ⟨_, e, rfl⟩
      obtain ⟨a, rfl, ha⟩ := this
      refine go (by cases op <;> simp [eqGuard]) (nilOp_sound hb ?_ ?_)
      · rw [← ha]; simp only [binOp, Op.equal, Op.maxDepth, Sem.run_bind, (run_eq_ptr (w := w) T e hu a 9999).1, Result.andThen_ok, Sem.run_pure]
      · rw [← ha]; simp only [binOp, Op.equal, Op.maxDepth, Sem.run_bind, (run_eq_ptr (w := w) T e hu a 9999).1, Result.andThen_ok, Sem.run_pure]
    · cases hb
  · rename_i t r
    split at hb
    · rename_i hT
      have hA := hE.ty T _ hT
      obtain ⟨_, e, hu, _⟩ := hA
      have e2 : v1 = .pointer none := h1
      subst e2
      have hv := h2.p
      simp only [valRep, Ty.isAgg, Bool.false_eq_true, if_false] at hv
      have : ∃ a : Option Addr, v2 = .pointer a ∧ a.isNone = r.isNone := by
        cases r with
        | none => simp only [cellsRep, List.cons.injEq, and_true] at hv; exact ⟨none, hv, rfl⟩
        | some y => simp only [cellsRep] at hv; obtain ⟨b, o, c, e, _⟩ := hv; simp only [List.cons.injEq, and_true] at e; exact ⟨_, e, rfl⟩
      obtain ⟨a, rfl, ha⟩ := this
      refine go (by cases op <;> simp [eqGuard]) (nilOp_sound hb ?_ ?_)
      · rw [← ha]; simp only [binOp, Op.equal, Op.maxDepth, Sem.run_bind, (run_eq_ptr (w := w) T e hu a 9999).2, Result.andThen_ok, Sem.run_pure]
      · rw [← ha]; simp only [binOp, Op.equal, Op.maxDepth, Sem.run_bind, (run_eq_ptr (w := w) T e hu a 9999).2, Result.andThen_ok, Sem.run_pure]
    · cases hb
  · rename_i t a t' b _ _
    split at hb
    · rename_i ht
      subst ht
      split at hb
      · rename_i hT
        split at hb
        · rename_i r he
          obtain ⟨hg, h3, h4⟩ := eq_sound hE hT op ox oy h1.p h2.p he
          exact go hg (nilOp_sound hb h3 h4)
        · cases hb
      · cases hb
    · cases hb
  · split at hb
    · rename_i t c r hT hn
      obtain ⟨_, e, hu, _⟩ := hE.ty T _ hT
      have hc := nilOp_true hb
      subst hc
      obtain ⟨ad, n, cap, rfl, rfl⟩ := isNil_sound hI h1 hn rfl
      have e2 : v2 = .slice none 0 0 := h2
      subst e2
      have hq := (run_eq_slice (w := w) T e hu ad n cap 9999).1
      refine go (by cases op <;> simp [eqGuard]) (nilOp_sound hb ?_ ?_)
      · simp only [binOp, Op.equal, Op.maxDepth, Sem.run_bind, hq, Result.andThen_ok, Sem.run_pure]
      · simp only [binOp, Op.equal, Op.maxDepth, Sem.run_bind, hq, Result.andThen_ok, Sem.run_pure]
    · cases hb
  · split at hb
    · rename_i t c r hT hn
      obtain ⟨_, e, hu, _⟩ := hE.ty T _ hT
      have hc := nilOp_true hb
      subst hc
      obtain ⟨ad, n, cap, rfl, rfl⟩ := isNil_sound hI h2 hn rfl
      have e2 : v1 = .slice none 0 0 := h1
      subst e2
      have hq := (run_eq_slice (w := w) T e hu ad n cap 9999).2
      refine go (by cases op <;> simp [eqGuard]) (nilOp_sound hb ?_ ?_)
      · simp only [binOp, Op.equal, Op.maxDepth, Sem.run_bind, hq, Result.andThen_ok, Sem.run_pure]
      · simp only [binOp, Op.equal, Op.maxDepth, Sem.run_bind, hq, Result.andThen_ok, Sem.run_pure]
    · cases hb
  · cases hb
end Go.Own

/- Paths into data, and the cells there. -/
namespace Go.Own
variable {w : World} {I : Nat → Prop}

/-- Cells with others laid over, from a place on. -/
def splice (cs : List Value) (off : Nat) (c : List Value) : List Value := cs.take off ++ c ++ cs.drop (off + c.length)

theorem splice_length (cs : List Value) (off : Nat) (c : List Value) (h : off + c.length ≤ cs.length) : (splice cs off c).length = cs.length := by
  unfold splice; simp; omega

theorem splice_get (cs : List Value) (off : Nat) (c : List Value) (h : off + c.length ≤ cs.length) (k : Nat) :
    (splice cs off c)[k]? = if off ≤ k ∧ k < off + c.length then c[k - off]? else cs[k]? := by
  unfold splice
  have hl : (cs.take off).length = off := by simp; omega
  rw [List.append_assoc]
  rcases Nat.lt_or_ge k off with h1 | h1
  · rw [List.getElem?_append_left (by omega), List.getElem?_take_of_lt h1, if_neg (by omega)]
  · rw [List.getElem?_append_right (by omega), hl]
    rcases Nat.lt_or_ge k (off + c.length) with h2 | h2
    · rw [List.getElem?_append_left (by omega), if_pos ⟨h1, h2⟩]
    · rw [List.getElem?_append_right (by omega), List.getElem?_drop, if_neg (by omega)]
      congr 1; omega

theorem seg_get (cs : List Value) (a n k : Nat) : ((cs.drop a).take n)[k]? = if k < n then cs[a + k]? else none := by
  rw [List.getElem?_take]
  split
  · rw [List.getElem?_drop]
  · rfl

theorem list_ext {a b : List Value} (h : ∀ k : Nat, a[k]? = b[k]?) : a = b := List.ext_getElem? h

/-- The part at a path. -/
theorem getP_cells : ∀ {pa : Path} {t u : Ty} {x : t.den} {y : u.den} {cs : List Value}, cellsRep w I t x cs → getP t x pa = some ⟨u, y⟩ → pathIn t pa →
    ∃ off, pathAt t pa = some (off, u) ∧ cellsRep w I u y ((cs.drop off).take u.size) ∧ off + u.size ≤ t.size := by
  intro pa
  induction pa with
  | nil =>
    intro t u x y cs h hg _
    have : (⟨t, x⟩ : DV) = ⟨u, y⟩ := by cases t <;> simpa [getP] using hg
    cases this
    refine ⟨0, by cases t <;> rfl, ?_, by omega⟩
    have hl := h.length
    rw [List.drop_zero, ← hl, List.take_length]
    exact h
  | cons s pa ih =>
    intro t u x y cs h hg hp
    cases t <;> cases s <;> simp only [getP, reduceCtorEq] at hg <;> simp only [pathIn] at hp
    case pair.fst a b =>
      obtain ⟨c1, c2, rfl, h1, h2⟩ := h
      obtain ⟨off, h3, h4, h5⟩ := ih h1 hg hp
      have l1 := h1.length
      refine ⟨off, h3, ?_, by simp only [Ty.size]; omega⟩
      have : ((c1 ++ c2).drop off).take u.size = (c1.drop off).take u.size := by
        apply list_ext; intro k
        rw [seg_get, seg_get]
        split
        · rw [List.getElem?_append_left (by omega)]
        · rfl
      rw [this]; exact h4
    case pair.snd a b =>
      obtain ⟨c1, c2, rfl, h1, h2⟩ := h
      obtain ⟨off, h3, h4, h5⟩ := ih h2 hg hp
      have l1 := h1.length
      refine ⟨a.size + off, by simp [pathAt, h3], ?_, by simp only [Ty.size]; omega⟩
      have : ((c1 ++ c2).drop (a.size + off)).take u.size = (c2.drop off).take u.size := by
        apply list_ext; intro k
        rw [seg_get, seg_get]
        split
        · rw [List.getElem?_append_right (by omega)]; congr 1; omega
        · rfl
      rw [this]; exact h4
    case arr.ix n t i =>
      obtain ⟨hl, hc, h1⟩ := h
      have hi : i < x.length := by omega
      have hxi : x[i]? = some (List.getD x i t.dflt) := by
        rw [List.getD_eq_getElem?_getD, List.getElem?_eq_getElem hi]; rfl
      obtain ⟨off, h3, h4, h5⟩ := ih (h1 i _ hxi) hg hp.2
      have hm : (i + 1) * t.size ≤ n * t.size := Nat.mul_le_mul_right _ hp.1
      rw [Nat.add_mul, Nat.one_mul] at hm
      refine ⟨i * t.size + off, by simp [pathAt, h3], ?_, by simp only [Ty.size]; omega⟩
      have : (cs.drop (i * t.size + off)).take u.size = (((cs.drop (i * t.size)).take t.size).drop off).take u.size := by
        apply list_ext; intro k
        rw [seg_get, seg_get]
        split
        · rw [seg_get, if_pos (by omega)]; congr 1; omega
        · rfl
      rw [this]; exact h4

/-- The part at a path is set. -/
theorem setP_cells : ∀ {pa : Path} {t u : Ty} {x x' : t.den} {y : u.den} {cs c : List Value}, cellsRep w I t x cs → setP t x pa ⟨u, y⟩ = some x' → pathIn t pa → cellsRep w I u y c →
    ∃ off, pathAt t pa = some (off, u) ∧ cellsRep w I t x' (splice cs off c) ∧ off + u.size ≤ t.size := by
  intro pa
  induction pa with
  | nil =>
    intro t u x x' y cs c h hs _ hc
    have hs' : (if h : u = t then some (h ▸ y) else none) = some x' := by cases t <;> simpa [setP] using hs
    split at hs'
    · rename_i e
      subst e
      simp only [Option.some.injEq] at hs'
      subst hs'
      refine ⟨0, by cases u <;> rfl, ?_, by omega⟩
      have l1 := h.length
      have l2 := hc.length
      have : splice cs 0 c = c := by unfold splice; simp [l1, l2]
      rw [this]; exact hc
    · cases hs'
  | cons s pa ih =>
    intro t u x x' y cs c h hs hp hc
    have l2 := hc.length
    cases t <;> cases s <;> simp only [setP, reduceCtorEq] at hs <;> simp only [pathIn] at hp
    case pair.fst a b =>
      obtain ⟨z, hz, rfl⟩ := Option.map_eq_some_iff.1 hs
      obtain ⟨c1, c2, rfl, h1, h2⟩ := h
      obtain ⟨off, h3, h4, h5⟩ := ih h1 hz hp hc
      have l1 := h1.length
      refine ⟨off, h3, ⟨splice c1 off c, c2, ?_, h4, h2⟩, by simp only [Ty.size]; omega⟩
      apply list_ext; intro k
      have hsl : (splice c1 off c).length = c1.length := splice_length _ _ _ (by omega)
      rw [splice_get _ _ _ (by simp; omega)]
      rcases Nat.lt_or_ge k c1.length with hk | hk
      · rw [List.getElem?_append_left (l₁ := splice c1 off c) (by omega), splice_get _ _ _ (by omega), List.getElem?_append_left hk]
      · rw [List.getElem?_append_right (l₁ := splice c1 off c) (by omega), hsl, List.getElem?_append_right hk, if_neg (by omega)]
    case pair.snd a b =>
      obtain ⟨z, hz, rfl⟩ := Option.map_eq_some_iff.1 hs
      obtain ⟨c1, c2, rfl, h1, h2⟩ := h
      obtain ⟨off, h3, h4, h5⟩ := ih h2 hz hp hc
      have l1 := h1.length
      have l3 := h2.length
      refine ⟨a.size + off, by simp [pathAt, h3], ⟨c1, splice c2 off c, ?_, h1, h4⟩, by simp only [Ty.size]; omega⟩
      apply list_ext; intro k
      rw [splice_get _ _ _ (by simp; omega)]
      rcases Nat.lt_or_ge k c1.length with hk | hk
      · rw [List.getElem?_append_left hk, List.getElem?_append_left hk, if_neg (by omega)]
      · rw [List.getElem?_append_right hk, List.getElem?_append_right hk, splice_get _ _ _ (by omega)]
        by_cases hq : a.size + off ≤ k ∧ k < a.size + off + c.length
        · rw [if_pos hq, if_pos (by omega)]; congr 1; omega
        · rw [if_neg hq, if_neg (by omega)]
    case arr.ix n t i =>
      obtain ⟨z, hz, rfl⟩ := Option.map_eq_some_iff.1 hs
      obtain ⟨hl, hcl, h1⟩ := h
      have hi : i < x.length := by omega
      have hxi : x[i]? = some (List.getD x i t.dflt) := by
        rw [List.getD_eq_getElem?_getD, List.getElem?_eq_getElem hi]; rfl
      obtain ⟨off, h3, h4, h5⟩ := ih (h1 i _ hxi) hz hp.2 hc
      have hm : (i + 1) * t.size ≤ n * t.size := Nat.mul_le_mul_right _ hp.1
      rw [Nat.add_mul, Nat.one_mul] at hm
      refine ⟨i * t.size + off, by simp [pathAt, h3], ⟨by simpa using hl, by rw [splice_length _ _ _ (by omega)]; exact hcl, ?_⟩, by simp only [Ty.size]; omega⟩
      intro j v hj
      rw [List.getElem?_set] at hj
      by_cases hij : i = j
      · subst hij
        rw [if_pos rfl, if_pos hi] at hj
        simp only [Option.some.injEq] at hj
        subst hj
        have : ((splice cs (i * t.size + off) c).drop (i * t.size)).take t.size = splice ((cs.drop (i * t.size)).take t.size) off c := by
          apply list_ext; intro k
          have hlen : ((cs.drop (i * t.size)).take t.size).length = t.size := by simp; omega
          rw [seg_get, splice_get _ _ _ (by omega), splice_get _ _ _ (by omega), seg_get]
          by_cases hk : k < t.size
          · rw [if_pos hk, if_pos hk]
            by_cases hq : off ≤ k ∧ k < off + c.length
            · rw [if_pos hq, if_pos (by omega)]; congr 1; omega
            · rw [if_neg hq, if_neg (by omega)]
          · rw [if_neg hk, if_neg hk, if_neg (by omega)]
        rw [this]; exact h4
      · rw [if_neg hij] at hj
        have hjl : j < n := by
          have := (List.getElem?_eq_some_iff.1 hj).1; omega
        have h6 := h1 j v hj
        have : ((splice cs (i * t.size + off) c).drop (j * t.size)).take t.size = (cs.drop (j * t.size)).take t.size := by
          apply list_ext; intro k
          rw [seg_get, seg_get]
          by_cases hk : k < t.size
          · rw [if_pos hk, if_pos hk, splice_get _ _ _ (by omega), if_neg]
            rintro ⟨q1, q2⟩
            rcases Nat.lt_or_gt_of_ne hij with hlt | hgt
            · have := Nat.mul_le_mul_right t.size (show i + 1 ≤ j by omega)
              rw [Nat.add_mul, Nat.one_mul] at this; omega
            · have := Nat.mul_le_mul_right t.size (show j + 1 ≤ i by omega)
              rw [Nat.add_mul, Nat.one_mul] at this; omega
          · rw [if_neg hk, if_neg hk]
        rw [this]; exact h6

theorem pathAt_append : ∀ {pa qa : Path} {t u v : Ty} {o1 o2 : Nat}, pathAt t pa = some (o1, u) → pathAt u qa = some (o2, v) → pathAt t (pa ++ qa) = some (o1 + o2, v) := by
  intro pa
  induction pa with
  | nil =>
    intro qa t u v o1 o2 h1 h2
    have : (0, t) = (o1, u) := by cases t <;> simpa [pathAt] using h1
    cases this
    simpa using h2
  | cons s pa ih =>
    intro qa t u v o1 o2 h1 h2
    cases t <;> cases s <;> simp only [pathAt, reduceCtorEq] at h1
    case pair.fst a b => simp only [List.cons_append, pathAt]; exact ih h1 h2
    case pair.snd a b =>
      obtain ⟨⟨o, u'⟩, h3, h4⟩ := Option.map_eq_some_iff.1 h1
      simp only [Prod.mk.injEq] at h4
      obtain ⟨rfl, rfl⟩ := h4
      simp only [List.cons_append, pathAt, ih h3 h2, Option.map_some, Nat.add_assoc]
    case arr.ix n t i =>
      obtain ⟨⟨o, u'⟩, h3, h4⟩ := Option.map_eq_some_iff.1 h1
      simp only [Prod.mk.injEq] at h4
      obtain ⟨rfl, rfl⟩ := h4
      simp only [List.cons_append, pathAt, ih h3 h2, Option.map_some, Nat.add_assoc]

theorem pathIn_append : ∀ {pa qa : Path} {t u : Ty} {o1 : Nat}, pathAt t pa = some (o1, u) → pathIn t pa → pathIn u qa → pathIn t (pa ++ qa) := by
  intro pa
  induction pa with
  | nil =>
    intro qa t u o1 h1 _ h2
    have : (0, t) = (o1, u) := by cases t <;> simpa [pathAt] using h1
    cases this
    simpa using h2
  | cons s pa ih =>
    intro qa t u o1 h1 hp h2
    cases t <;> cases s <;> simp only [pathAt, reduceCtorEq] at h1 <;> simp only [pathIn] at hp
    case pair.fst a b => simp only [List.cons_append, pathIn]; exact ih h1 hp h2
    case pair.snd a b =>
      obtain ⟨⟨o, u'⟩, h3, h4⟩ := Option.map_eq_some_iff.1 h1
      simp only [Prod.mk.injEq] at h4
      obtain ⟨rfl, rfl⟩ := h4
      simp only [List.cons_append, pathIn]; exact ih h3 hp h2
    case arr.ix n t i =>
      obtain ⟨⟨o, u'⟩, h3, h4⟩ := Option.map_eq_some_iff.1 h1
      simp only [Prod.mk.injEq] at h4
      obtain ⟨rfl, rfl⟩ := h4
      simp only [List.cons_append, pathIn]; exact ⟨hp.1, ih h3 hp.2 h2⟩

theorem tyAt_pathAt : ∀ {pa : Path} {t u : Ty}, tyAt t pa = some u → ∃ off, pathAt t pa = some (off, u) := by
  intro pa
  induction pa with
  | nil => intro t u h; have : t = u := by cases t <;> simpa [tyAt] using h
           subst this; exact ⟨0, by cases t <;> rfl⟩
  | cons s pa ih =>
    intro t u h
    cases t <;> cases s <;> simp only [tyAt, reduceCtorEq] at h
    case pair.fst a b => exact ih h
    case pair.snd a b => obtain ⟨off, h⟩ := ih h; exact ⟨a.size + off, by simp [pathAt, h]⟩
    case arr.ix n t i => obtain ⟨off, h⟩ := ih h; exact ⟨i * t.size + off, by simp [pathAt, h]⟩

theorem getP_tyAt : ∀ {pa : Path} {t : Ty} {x : t.den} {d : DV}, getP t x pa = some d → tyAt t pa = some d.1 := by
  intro pa
  induction pa with
  | nil => intro t x d h; cases t <;> (simp only [getP, Option.some.injEq] at h; subst h; rfl)
  | cons s pa ih =>
    intro t x d h
    cases t <;> cases s <;> simp only [getP, reduceCtorEq] at h
    case pair.fst a b => exact ih h
    case pair.snd a b => exact ih h
    case arr.ix n t i => exact ih h
end Go.Own

/- Memory is written: a box, an own slice; a new box. -/
namespace Go.Own
variable {P : Program} {E : Env} {w0 w w' : World} {I0 I : Nat → Prop} {xs : List Nat} {st : St} {tm : Array Value} {tok : Tok} {ds : List Deferred}

theorem Blk.cell {b : Nat} {cs : List Value} (h : Blk w b cs) (o : Nat) : w.cell? ⟨b, o, none⟩ = cs[o]? := by
  obtain ⟨c, e, fr, h1, h2, _⟩ := h
  subst h2
  simp [World.cell?, h1]

theorem Blk.frozen {b : Nat} {cs : List Value} (h : Blk w b cs) (o : Nat) (ho : o < cs.length) : w.frozen? ⟨b, o, none⟩ = false := by
  obtain ⟨c, e, fr, h1, h2, h3⟩ := h
  subst h2
  have := h3 o (by simpa using ho)
  obtain ⟨lo, hi⟩ := fr
  simp only [World.frozen?, h1]
  simp only [Bool.and_eq_false_iff, decide_eq_false_iff_not]
  simp only at this
  omega

theorem Blk.setCell {b : Nat} {cs : List Value} (h : Blk w b cs) (o : Nat) (v : Value) : Blk (w.setCell ⟨b, o, none⟩ v) b (cs.set o v) := by
  obtain ⟨c, e, fr, h1, h2, h3⟩ := h
  subst h2
  refine ⟨c.setIfInBounds o v, e, fr, ?_, by simp, by simpa using h3⟩
  simp [World.setCell, Array.getElem?_modify, h1]

theorem setCell_other (a : Addr) (v : Value) (b : Nat) (hb : b ≠ a.block) : (w.setCell a v).heap[b]? = w.heap[b]? := RowKit.Below.heap_setCell w a v b hb

theorem splice_cons (cs : List Value) (o : Nat) (v : Value) (r : List Value) (h : o + r.length < cs.length) : splice cs o (v :: r) = splice (cs.set o v) (o + 1) r := by
  apply list_ext; intro k
  rw [splice_get _ _ _ (by simp; omega), splice_get _ _ _ (by simp; omega), List.getElem?_set]
  simp only [List.length_cons]
  by_cases hk : o = k
  · subst hk
    rw [if_pos ⟨Nat.le_refl _, by omega⟩, if_neg (by omega), if_pos rfl, if_pos (by omega)]
    simp
  · by_cases hq : o + 1 ≤ k ∧ k < o + 1 + r.length
    · rw [if_pos (by omega), if_pos hq]
      have : k - o = (k - (o + 1)) + 1 := by omega
      rw [this, List.getElem?_cons_succ]
    · rw [if_neg (by omega), if_neg hq, if_neg hk]

theorem Blk.setCells {b : Nat} : ∀ {vs : List Value} {o : Nat} {cs : List Value} {w : World}, Blk w b cs → o + vs.length ≤ cs.length → Blk (w.setCells b o vs) b (splice cs o vs)
  | [], o, cs, w, h, _ => by
    have : splice cs o [] = cs := by unfold splice; simp
    rw [this]; exact h
  | v :: r, o, cs, w, h, hl => by
    simp only [List.length_cons] at hl
    rw [World.setCells, splice_cons cs o v r (by omega)]
    exact Blk.setCells (h.setCell o v) (by simp; omega)

theorem setCells_other (b : Nat) : ∀ (vs : List Value) (o : Nat) (w : World) (k : Nat), k ≠ b → (w.setCells b o vs).heap[k]? = w.heap[k]?
  | [], _, _, _, _ => rfl
  | v :: r, o, w, k, hk => by
    rw [World.setCells, setCells_other b r (o + 1) _ k hk, setCell_other _ _ _ (by simpa using hk)]

/-- Only block b may have turned. -/
structure Wrote (b : Nat) (w w' : World) : Prop where
  block : ∀ k, k ≠ b → w'.heap[k]? = w.heap[k]?
  size : w'.heap.size = w.heap.size
  os : w'.os = w.os
  output : w'.output = w.output
  tape : w'.tape = w.tape

theorem Wrote.cells (b : Nat) : ∀ (vs : List Value) (o : Nat) (w : World), Wrote b w (w.setCells b o vs)
  | [], _, w => ⟨fun _ _ => rfl, rfl, rfl, rfl, rfl⟩
  | v :: r, o, w => by
    have h := Wrote.cells b r (o + 1) (w.setCell ⟨b, o, none⟩ v)
    rw [World.setCells]
    exact ⟨fun k hk => (h.block k hk).trans (setCell_other _ _ _ (by simpa using hk)), h.size.trans (by simp), h.os, h.output, h.tape⟩

theorem cellsRep.one : ∀ {t : Ty} {x : t.den} {cs : List Value}, cellsRep w I t x cs → ∀ v ∈ cs, v.oneCell' = true := by
  intro t
  induction t with
  | int k => intro x cs h v hv; simp only [cellsRep] at h; subst h; simp at hv; subst hv; rfl
  | bool => intro x cs h v hv; simp only [cellsRep] at h; subst h; simp at hv; subst hv; rfl
  | str => intro x cs h v hv; simp only [cellsRep] at h; subst h; simp at hv; subst hv; rfl
  | flt => intro x cs h v hv; simp only [cellsRep] at h; subst h; simp at hv; subst hv; rfl
  | unit => intro x cs h v hv; simp only [cellsRep] at h; subst h; simp at hv
  | pair a b iha ihb =>
    intro x cs h v hv
    obtain ⟨c1, c2, rfl, h1, h2⟩ := h
    rcases List.mem_append.1 hv with hv | hv
    · exact iha h1 v hv
    · exact ihb h2 v hv
  | arr n t ih =>
    intro x cs h v hv
    obtain ⟨hl, hc, h1⟩ := h
    obtain ⟨k, hk, rfl⟩ := List.getElem_of_mem hv
    have hs : 0 < t.size := by
      rcases Nat.eq_zero_or_pos t.size with h0 | h0
      · rw [h0] at hc; omega
      · exact h0
    have hi : k / t.size < x.length := by rw [hl]; exact Nat.div_lt_of_lt_mul (by rw [Nat.mul_comm]; omega)
    refine ih (h1 (k / t.size) _ (List.getElem?_eq_getElem hi)) _ ?_
    refine List.mem_of_getElem? (i := k % t.size) ?_
    rw [seg_get, if_pos (Nat.mod_lt _ hs), Nat.mul_comm, Nat.div_add_mod]
    exact List.getElem?_eq_getElem hk
  | sl t ih => intro x cs h v hv; obtain ⟨ad, cap, rfl, _⟩ := h; simp at hv; subst hv; rfl
  | ref t ih =>
    intro x cs h v hv
    cases x with
    | none => simp only [cellsRep] at h; subst h; simp at hv; subst hv; rfl
    | some x => obtain ⟨b, o, c, rfl, _⟩ := h; simp at hv; subst hv; rfl

theorem addr_add (b o j : Nat) : (⟨b, o, none⟩ : Addr).add j = ⟨b, o + j, none⟩ := by unfold Addr.add; split <;> simp_all

/-- A variable is read. -/
theorem loadVar_run {T : TypeId} {t : Ty} (h : TyAt P T t) {x : t.den} {c : List Value} (hc : cellsRep w I t x c) {b o : Nat} (ha : cellsAt w b o c) :
    ∃ v, (loadVar T ⟨b, o, none⟩).run P w = .ok v w ∧ valRep w I t x v := by
  unfold loadVar
  rw [Sem.run_bind, h.isAgg w]
  simp only [Result.andThen_ok]
  have hadd : ∀ j, (⟨b, o, none⟩ : Addr).add j = ⟨b, o + j, none⟩ := fun j => addr_add b o j
  cases hg : t.isAgg with
  | true =>
    have hl := run_loadCells_list (P := P) w ⟨b, o, none⟩ c (fun j v hv => by rw [hadd]; exact ha j v hv)
    rw [hc.length] at hl
    refine ⟨.agg c.toArray, by simp [h.sizeOf w, hl], ?_⟩
    unfold valRep
    simp only [hg, if_true]
    exact ⟨_, rfl, by simpa using hc⟩
  | false =>
    have h1 : t.size = 1 := by cases t <;> simp_all [Ty.isAgg, Ty.size]
    have hl := hc.length
    rw [h1] at hl
    match c, hl with
    | [v], _ =>
      have := ha 0 v rfl
      refine ⟨v, by simp [run_load, show w.cell? ⟨b, o, none⟩ = some v from this], ?_⟩
      unfold valRep
      simp only [hg, Bool.false_eq_true, if_false]
      exact hc

/-- A variable is written. -/
theorem storeVar_run {T : TypeId} {t : Ty} (h : TyAt P T t) {x : t.den} {v : Value} (hv : valRep w I t x v) {b o : Nat} {cs : List Value} (hb : Blk w b cs) (ho : o + t.size ≤ cs.length) :
    (storeVar T ⟨b, o, none⟩ v).run P w = .ok () (w.setCells b o v.cells.toList) ∧ cellsRep w I t x v.cells.toList := by
  have hc := hv.cells
  have hl := hc.length
  refine ⟨?_, hc⟩
  unfold storeVar
  rw [Sem.run_bind, h.sizeOf w]
  simp only [Result.andThen_ok]
  rw [if_neg (by rw [← Array.length_toList, hl]; simp)]
  have := run_storeCells_cells (P := P) b o v.cells.toList 0 w (fun j hj => by rw [hb.cell, List.getElem?_eq_getElem (by omega)]; rfl)
    (fun j hj => hb.frozen _ (by omega)) hc.one
  simpa using this

theorem find_insB (s r : Nat) (d : DV) : ∀ l : List (Nat × DV), ((insB s d l).find? (·.1 == r)).map (·.2) = if r = s then some d else (l.find? (·.1 == r)).map (·.2) := by
  intro l
  induction l with
  | nil =>
    by_cases h : r = s
    · subst h; simp [insB]
    · have h' : (s == r) = false := by simpa using fun e => h e.symm
      simp [insB, h, h']
  | cons x l ih =>
    simp only [insB]
    cases h1 : Nat.beq x.1 s with
    | true =>
      have e : x.1 = s := Nat.eq_of_beq_eq_true h1
      simp only [cond_true]
      by_cases h : r = s
      · subst h; simp
      · have h' : (s == r) = false := by simpa using fun e => h e.symm
        have h2 : (x.1 == r) = false := by rw [e]; exact h'
        simp [List.find?_cons, h, h', h2]
    | false =>
      simp only [cond_false]
      cases h2 : Nat.blt s x.1 with
      | true =>
        simp only [cond_true]
        by_cases h : r = s
        · subst h; simp
        · have h' : (s == r) = false := by simpa using fun e => h e.symm
          simp [List.find?_cons, h, h']
      | false =>
        simp only [cond_false]
        by_cases h : r = s
        · subst h
          have h3 : (x.1 == r) = false := by simpa using Nat.ne_of_beq_eq_false h1
          simp only [List.find?_cons, h3]
          simpa using ih
        · simp only [List.find?_cons]
          cases h4 : x.1 == r with
          | true => simp [h]
          | false => simpa [h] using ih

theorem box_setBox (st : St) (s r : Nat) (d : DV) : (st.setBox s d).box r = if r = s then some d else st.box r := find_insB s r d st.bx

/-- A box is written. -/
theorem Inv.writeBox (h : Inv w0 I0 xs st tm w I tok) {s b : Nat} {d d' : DV} (hs : st.box s = some d) (ht : d'.1 = d.1) (hb : tok (.box s) = some b) (hw : Wrote b w w')
    (hr : BoxRep w' I b d') : Inv w0 I0 xs (st.setBox s d') tm w' I tok := by
  have hIb : ∀ k, I k → w'.heap[k]? = w.heap[k]? := fun k hk => hw.block k (fun e => h.tokI _ _ hb (e ▸ hk))
  have htb : ∀ k c, tok k = some c → k ≠ .box s → w'.heap[c]? = w.heap[c]? := fun k c hk hne => hw.block c (fun e => hne (h.inj _ _ b (e ▸ hk) hb))
  have hcap : ∀ c x, capRep w I tok st c x → capRep w' I tok (st.setBox s d') c x := by
    intro c x hc
    cases c <;> simp only [capRep] at hc ⊢ <;> first | exact hc.mono (fun _ hb => hb) hIb | exact hc | skip
    obtain ⟨b1, off, d1, h1, h2, h3, h4, h5⟩ := hc
    rename_i r t pa
    by_cases hrs : r = s
    · subst hrs
      rw [hs] at h2; cases h2
      exact ⟨b1, off, d', h1, by rw [box_setBox]; simp, by rw [ht]; exact h3, by rw [ht]; exact h4, h5⟩
    · exact ⟨b1, off, d1, h1, by rw [box_setBox]; simpa [hrs] using h2, h3, h4, h5⟩
  constructor
  case len => exact h.len
  case small => exact h.small
  case slots =>
    intro i hi
    have hsl : (st.setBox s d').slot = st.slot := rfl
    have := h.slots i hi
    rw [hsl]
    generalize hv : st.slot i = sv at this ⊢
    cases sv with
    | p e => simp only [SRep] at this ⊢; exact this.mono (fun _ hb => hb) hIb
    | own t nl l => simp only [SRep] at this ⊢; exact this.world (fun _ hb => hb) hIb (fun c hc => htb _ c hc (by simp))
    | rf g => simp only [SRep] at this ⊢; exact this
    | rs g t lo n => simp only [SRep] at this ⊢; exact this
    | pb r t pa => simp only [SRep] at this ⊢; exact hcap _ _ this
    | pe g t0 k t pa => simp only [SRep] at this ⊢; exact this
    | nil => simp only [SRep] at this
    | nilp => simp only [SRep] at this
    | clo f caps => simp only [SRep] at this ⊢; obtain ⟨vs, e, hl, hc⟩ := this; exact ⟨vs, e, hl, fun j c x h1 h2 => hcap c x (hc j c x h1 h2)⟩
    | tup l =>
      simp only [SRep] at this ⊢
      obtain ⟨vs, e, hl, hc⟩ := this
      refine ⟨vs, e, hl, fun j c x h1 h2 => ?_⟩
      have := hc j c x h1 h2
      cases c <;> simp only [compRep] at this ⊢
      · exact this.mono (fun _ hb => hb) hIb
      · exact this.world (fun _ hb => hb) hIb (fun c hc => htb _ c hc (by simp))
    | dead => simp only [SRep]
    | und => first | exact this | exact h | exact hr | exact hs | exact hv | (simp only [SRep] at *; assumption)
  case boxes =>
    intro r e hre
    rw [box_setBox] at hre
    by_cases hrs : r = s
    · subst hrs
      rw [if_pos rfl] at hre; cases hre
      exact ⟨b, hb, hr⟩
    · rw [if_neg hrs] at hre
      obtain ⟨c, hc, hrep⟩ := h.boxes r e hre
      exact ⟨c, hc, hrep.world (fun _ hb => hb) hIb (htb _ c hc (by simpa using hrs))⟩
  case inj => exact h.inj
  case tokLt => intro k c hk; rw [hw.size]; exact h.tokLt k c hk
  case tokI => exact h.tokI
  case ilt => intro c hc; rw [hw.size]; exact h.ilt c hc
  case fresh => exact h.fresh
  case ext => exact h.ext
  case keep =>
    intro c hc hx
    rw [hw.block c, h.keep c hc hx]
    rintro rfl
    rcases h.fresh _ _ hb with h1 | h1
    · omega
    · exact hx h1
  case size => rw [hw.size]; exact h.size
  case os => exact hw.os.trans h.os
  case output => exact hw.output.trans h.output
  case tape => exact hw.tape.trans h.tape
  case sub => exact h.sub
  case new => exact h.new
end Go.Own

/- A new box; an own slice's element is written; an own slice is frozen. -/
namespace Go.Own
variable {P : Program} {E : Env} {w0 w w' : World} {I0 I : Nat → Prop} {xs : List Nat} {st : St} {tm : Array Value} {tok : Tok} {ds : List Deferred}

theorem Blk.alloc (w : World) (c : Array Value) (T : TypeId) : Blk (w.alloc (.cells c T)) w.heap.size c.toList :=
  ⟨c, T, (0, 0), by simp only [World.alloc, Array.getElem?_push_size], rfl, fun o _ h => by simp at h⟩

def Tok.withBox (tok : Tok) (s : Nat) (b : Nat) : Tok
  | .box r => if r = s then some b else tok (.box r)
  | k => tok k

/-- Nothing points into the box of site s. -/
def noPb (s : Nat) : SV → Prop
  | .pb r _ _ => r ≠ s
  | .clo _ caps => ∀ c ∈ caps, ∀ r t pa, c = .pb r t pa → r ≠ s
  | _ => True

theorem offB_no (s : Nat) (v : SV) : noPb s (SV.offB s v) := by
  cases v <;> simp only [SV.offB] <;> try trivial
  · rename_i r t pa
    by_cases h : r = s
    · rw [if_pos h]; trivial
    · rw [if_neg h]; exact h
  · rename_i f caps
    split
    · trivial
    · rename_i hc
      intro c hm r t pa e hrs
      subst e; subst hrs
      apply hc
      rw [List.any_eq_true]
      exact ⟨_, hm, by simp⟩

theorem offB_eq (s : Nat) (v : SV) : SV.offB s v = v ∨ SV.offB s v = .dead := by
  cases v <;> simp only [SV.offB, true_or] <;> split <;> simp

/-- Whatever points into the box of site s is turned off. -/
theorem Inv.offBox (h : Inv w0 I0 xs st tm w I tok) (s : Nat) : Inv w0 I0 xs { st with sl := st.sl.map (SV.offB s) } tm w I tok := by
  have hsl : ∀ i, ({ st with sl := st.sl.map (SV.offB s) } : St).slot i = SV.offB s (st.slot i) := slot_map st _ rfl
  have hhome : ∀ g, (st.slot g).isHome = true → SV.offB s (st.slot g) = st.slot g := by
    intro g hg
    cases hv : st.slot g <;> rw [hv] at hg <;> first | rfl | (simp [SV.isHome] at hg)
  constructor
  case len => simpa using h.len
  case small => simpa using h.small
  case slots =>
    intro i hi
    rw [hsl]
    have hi' : i < st.sl.length := by simpa using hi
    have := h.slots i hi'
    rcases offB_eq s (st.slot i) with e | e
    · rw [e]
      generalize st.slot i = sv at this ⊢
      cases sv <;> simp only [SRep] at this ⊢ <;> first | exact this | skip
      · rename_i g; rw [hsl, hhome g this.1]; exact this
      · rename_i g t lo n; rw [hsl, hhome g this.1]; exact this
      · rename_i g t0 k t pa
        obtain ⟨⟨nl, l, hs, hk⟩, hr⟩ := this
        exact ⟨⟨nl, l, by rw [hsl, hs]; rfl, hk⟩, hr⟩
    · rw [e]; simp only [SRep]
  case boxes => exact h.boxes
  case inj => exact h.inj
  case tokLt => exact h.tokLt
  case tokI => exact h.tokI
  case ilt => exact h.ilt
  case fresh => exact h.fresh
  case ext => exact h.ext
  case keep => exact h.keep
  case size => exact h.size
  case os => exact h.os
  case output => exact h.output
  case tape => exact h.tape
  case sub => exact h.sub
  case new => exact h.new

/-- The box of site s is a new block. -/
theorem Inv.newBox (h : Inv w0 I0 xs st tm w I tok) {s : Nat} (hs : ∀ j, s ≠ site j) (hno : ∀ i, i < st.sl.length → noPb s (st.slot i)) {d : DV} {c : Array Value} {T : TypeId}
    (hc : cellsRep w I d.1 d.2 c.toList) :
    Inv w0 I0 xs (st.setBox s d) tm (w.alloc (.cells c T)) I (tok.withBox s w.heap.size) := by
  have g := Grew.alloc w (.cells c T)
  have hg := h.grow g
  have htok : ∀ k, k ≠ .box s → tok.withBox s w.heap.size k = tok k := by
    intro k hk
    cases k with
    | box r => simp only [Tok.withBox]; rw [if_neg (by simpa using hk)]
    | sl i => rfl
    | tc i j => rfl
  have hnew : tok.withBox s w.heap.size (.box s) = some w.heap.size := by simp [Tok.withBox]
  have hcap : ∀ q x, (∀ r t pa, q = SV.pb r t pa → r ≠ s) → capRep (w.alloc (.cells c T)) I tok st q x → capRep (w.alloc (.cells c T)) I (tok.withBox s w.heap.size) (st.setBox s d) q x := by
    intro q x hq hr
    cases q <;> simp only [capRep] at hr ⊢ <;> first | exact hr | skip
    rename_i r t pa
    have hrs := hq r t pa rfl
    rw [htok _ (by simpa using hrs), box_setBox, if_neg hrs]
    exact hr
  constructor
  case len => exact h.len
  case small => exact h.small
  case slots =>
    intro i hi
    have hsl : (st.setBox s d).slot = st.slot := rfl
    have hr := hg.slots i hi
    have hn := hno i hi
    rw [hsl]
    generalize st.slot i = sv at hr hn ⊢
    cases sv with
    | p e => simp only [SRep] at hr ⊢; exact hr
    | own t nl l => simp only [SRep] at hr ⊢; rw [htok _ (by simp)]; exact hr
    | rf g => simp only [SRep] at hr ⊢; exact hr
    | rs g t lo n => simp only [SRep] at hr ⊢; exact hr
    | pb r t pa => simp only [SRep] at hr ⊢; exact hcap _ _ (fun r' t' pa' e => by cases e; exact hn) hr
    | pe g t0 k t pa => simp only [SRep] at hr ⊢; rw [htok _ (by simp)]; exact hr
    | nil => simp only [SRep] at hr
    | nilp => simp only [SRep] at hr
    | clo f caps =>
      simp only [SRep] at hr ⊢
      obtain ⟨vs, e, hl, hcs⟩ := hr
      exact ⟨vs, e, hl, fun j q x h1 h2 => hcap q x (fun r t pa e => hn q (List.mem_of_getElem? h1) r t pa e) (hcs j q x h1 h2)⟩
    | tup l =>
      simp only [SRep] at hr ⊢
      obtain ⟨vs, e, hl, hcs⟩ := hr
      refine ⟨vs, e, hl, fun j q x h1 h2 => ?_⟩
      have := hcs j q x h1 h2
      cases q <;> simp only [compRep] at this ⊢ <;> first | exact this | (rw [htok _ (by simp)]; exact this)
    | dead => simp only [SRep]
    | und => first | exact this | exact h | exact hr | exact hs | exact hv | (simp only [SRep] at *; assumption)
  case boxes =>
    intro r e hre
    rw [box_setBox] at hre
    by_cases hrs : r = s
    · subst hrs
      rw [if_pos rfl] at hre; cases hre
      exact ⟨_, hnew, c.toList, Blk.alloc w c T, hc.mono (fun _ hb => hb) (fun b hb => g.block b (h.ilt b hb))⟩
    · rw [if_neg hrs] at hre
      obtain ⟨b, hb, hrep⟩ := hg.boxes r e hre
      exact ⟨b, by rw [htok _ (by simpa using hrs)]; exact hb, hrep⟩
  case inj =>
    intro k k' b h1 h2
    by_cases hk : k = .box s
    · by_cases hk' : k' = .box s
      · rw [hk, hk']
      · rw [hk, hnew] at h1; rw [htok k' hk'] at h2
        cases h1; exact absurd (h.tokLt _ _ h2) (Nat.lt_irrefl _)
    · by_cases hk' : k' = .box s
      · rw [hk', hnew] at h2; rw [htok k hk] at h1
        cases h2; exact absurd (h.tokLt _ _ h1) (Nat.lt_irrefl _)
      · rw [htok k hk] at h1; rw [htok k' hk'] at h2; exact h.inj k k' b h1 h2
  case tokLt =>
    intro k b h1
    by_cases hk : k = .box s
    · rw [hk, hnew] at h1; cases h1; simp
    · rw [htok k hk] at h1; exact hg.tokLt k b h1
  case tokI =>
    intro k b h1
    by_cases hk : k = .box s
    · rw [hk, hnew] at h1; cases h1; intro hi; exact absurd (h.ilt _ hi) (Nat.lt_irrefl _)
    · rw [htok k hk] at h1; exact h.tokI k b h1
  case ilt => exact hg.ilt
  case fresh =>
    intro k b h1
    by_cases hk : k = .box s
    · rw [hk, hnew] at h1; cases h1; exact .inl h.size
    · rw [htok k hk] at h1; exact h.fresh k b h1
  case ext =>
    intro j x hx
    rw [htok _ (by simpa using fun e => hs j e.symm)]; exact h.ext j x hx
  case keep => exact hg.keep
  case size => exact hg.size
  case os => exact hg.os
  case output => exact hg.output
  case tape => exact hg.tape
  case sub => exact h.sub
  case new => exact h.new

theorem home_lt' (st : St) (h : Nat) (hh : (st.slot h).isHome = true) : h < st.sl.length := by
  rcases Nat.lt_or_ge h st.sl.length with hl | hl
  · exact hl
  · rw [slot_ge st h hl] at hh; cases hh
theorem offE_eq (g : Nat) (v : SV) : SV.offE g v = v ∨ SV.offE g v = .dead := by
  cases v <;> simp only [SV.offE, true_or] <;> split <;> simp
theorem offE_home (g : Nat) (v : SV) (h : v.isHome = true) : SV.offE g v = v := by
  cases v <;> first | rfl | (simp [SV.isHome] at h)

/-- Slot g's own slice is frozen. -/
theorem Inv.freeze (h : Inv w0 I0 xs st tm w I tok) (g : Nat) : ∃ I' tok', Inv w0 I0 xs (st.freeze g) tm w I' tok' ∧ (∀ b, I b → I' b) ∧ (∀ s, tok' (.box s) = tok (.box s)) ∧
    (∀ q t nl l, (st.freeze g).slot q = .own t nl l → tok' (.sl q) = tok (.sl q) ∧ st.slot q = .own t nl l) := by
  unfold St.freeze
  cases hv : st.slot g with
  | own t nl l =>
    have hgl : g < st.sl.length := by
      rcases Nat.lt_or_ge g st.sl.length with hl | hl
      · exact hl
      · rw [slot_ge st g hl] at hv; cases hv
    simp only
    have hsl : ∀ i, ({ st with sl := (st.sl.map (SV.offE g)).set g (.p ⟨.sl t, l⟩) } : St).slot i = if i = g then .p ⟨.sl t, l⟩ else SV.offE g (st.slot i) := by
      intro i
      have := slot_set { st with sl := st.sl.map (SV.offE g) } g i (.p ⟨.sl t, l⟩) (by simpa using hgl)
      rw [slot_map st (SV.offE g) rfl] at this
      exact this
    have hown := h.slots g hgl
    rw [hv] at hown
    simp only [SRep] at hown
    obtain ⟨ad, cap, hval, hnl, hcap, htk⟩ := hown
    -- the new frozen set
    let I' : Nat → Prop := fun b => I b ∨ tok (.sl g) = some b
    have hII : ∀ b, I b → I' b := fun b hb => .inl hb
    have hp : valRep w I' (.sl t) l (tm.getD g undef) := by
      rw [hval]
      simp only [valRep, Ty.isAgg, Bool.false_eq_true, if_false]
      refine ⟨ad, cap, rfl, hcap, ?_⟩
      rcases htk with ⟨_, h0⟩ | ⟨b, o, hb, rfl, hrep⟩
      · left; exact List.length_eq_zero_iff.1 (by omega)
      · right
        obtain ⟨cs, hblk, _, hel⟩ := hrep
        refine ⟨b, o, rfl, .inr hb, fun i x hx => ?_⟩
        obtain ⟨c, hc, hcv⟩ := hel i x hx
        exact ⟨c, hc.mono hII (fun _ _ => rfl), fun j v hj => by rw [hblk.cell]; exact hcv j v hj⟩
    refine ⟨I', tok.drop g, ?_, hII, fun s => rfl, ?_⟩
    rotate_left
    · intro q t' nl' l' hq
      rw [hsl] at hq
      by_cases hqg : q = g
      · rw [if_pos hqg] at hq; cases hq
      · rw [if_neg hqg] at hq
        refine ⟨drop_other tok g (.sl q) (by simpa [Key.at] using hqg), ?_⟩
        rcases offE_eq g (st.slot q) with e | e
        · rw [← e]; exact hq
        · rw [e] at hq; cases hq
    have hdrop : ∀ k b, tok.drop g k = some b → tok k = some b := by
      intro k b hk
      by_cases hat : k.at g
      · rw [drop_at tok g k hat] at hk; cases hk
      · rwa [drop_other tok g k hat] at hk
    have hcapr : ∀ q x, capRep w I tok st q x → capRep w I' (tok.drop g) { st with sl := (st.sl.map (SV.offE g)).set g (.p ⟨.sl t, l⟩) } q x := by
      intro q x hq
      cases q <;> simp only [capRep] at hq ⊢
      · exact hq.mono hII (fun _ _ => rfl)
      · exact hq
    constructor
    case len => simpa using h.len
    case small => simpa using h.small
    case slots =>
      intro i hi
      rw [hsl]
      by_cases hig : i = g
      · subst hig
        rw [if_pos rfl]
        simpa only [SRep] using hp
      · rw [if_neg hig]
        have hr := h.slots i (by simpa using hi)
        generalize hsv : st.slot i = sv at hr ⊢
        cases sv with
        | p e => simp only [SRep, SV.offE] at hr ⊢; exact hr.mono hII (fun _ _ => rfl)
        | own u nl' l' =>
          simp only [SRep, SV.offE] at hr ⊢
          rw [drop_other tok g (.sl i) (by simpa [Key.at] using hig)]
          exact hr.world hII (fun _ _ => rfl) (fun _ _ => rfl)
        | rf q =>
          simp only [SRep, SV.offE] at hr ⊢
          refine ⟨?_, hr.2⟩
          rw [hsl]; split
          · rfl
          · rw [offE_home g _ hr.1]; exact hr.1
        | rs q u lo n =>
          simp only [SRep, SV.offE] at hr ⊢
          rw [hsl]
          by_cases hq : q = g
          · subst hq
            rw [if_pos rfl]
            refine ⟨rfl, (fun u' nl' l' e => by cases e), (fun u' l' e => ?_), hr.2.2.2⟩
            cases e
            exact hr.2.1 _ _ _ hv
          · rw [if_neg hq, offE_home g _ hr.1]; exact hr
        | pb r u pa => simp only [SRep, SV.offE] at hr ⊢; exact hcapr _ _ hr
        | pe q t0 k u pa =>
          simp only [SV.offE]
          by_cases hq : q = g
          · rw [if_pos hq]; simp only [SRep]
          · rw [if_neg hq]
            simp only [SRep] at hr ⊢
            obtain ⟨⟨nl', l', hs, hk⟩, hr⟩ := hr
            refine ⟨⟨nl', l', by rw [hsl, if_neg hq, hs]; rfl, hk⟩, ?_⟩
            rw [drop_other tok g (.sl q) (by simpa [Key.at] using hq)]
            exact hr
        | nil => simp only [SRep] at hr
        | nilp => simp only [SRep] at hr
        | clo f caps => simp only [SRep, SV.offE] at hr ⊢; obtain ⟨vs, e, hl, hc⟩ := hr; exact ⟨vs, e, hl, fun j c x h1 h2 => hcapr c x (hc j c x h1 h2)⟩
        | tup ls =>
          simp only [SRep, SV.offE] at hr ⊢
          obtain ⟨vs, e, hl, hc⟩ := hr
          refine ⟨vs, e, hl, fun j c x h1 h2 => ?_⟩
          have := hc j c x h1 h2
          cases c <;> simp only [compRep] at this ⊢
          · exact this.mono hII (fun _ _ => rfl)
          · rw [drop_other tok g (.tc i j) (by simpa [Key.at] using hig)]
            exact this.world hII (fun _ _ => rfl) (fun _ _ => rfl)
        | dead => simp only [SRep, SV.offE]
        | und => simp only [SRep, SV.offE] at hr ⊢; exact hr
    case boxes =>
      intro s d hs
      obtain ⟨b, hb, hr⟩ := h.boxes s d hs
      exact ⟨b, hb, hr.world hII (fun _ _ => rfl) rfl⟩
    case inj => intro k k' b h1 h2; exact h.inj k k' b (hdrop k b h1) (hdrop k' b h2)
    case tokLt => intro k b h1; exact h.tokLt k b (hdrop k b h1)
    case tokI =>
      intro k b h1 hi
      rcases hi with hi | hi
      · exact h.tokI k b (hdrop k b h1) hi
      · have := h.inj k (.sl g) b (hdrop k b h1) hi
        subst this
        rw [drop_at tok g (.sl g) rfl] at h1; cases h1
    case ilt =>
      intro b hb
      rcases hb with hb | hb
      · exact h.ilt b hb
      · exact h.tokLt _ b hb
    case fresh => intro k b h1; exact h.fresh k b (hdrop k b h1)
    case ext => exact h.ext
    case keep => exact h.keep
    case size => exact h.size
    case os => exact h.os
    case output => exact h.output
    case tape => exact h.tape
    case sub => intro b hb; exact .inl (h.sub b hb)
    case new =>
      intro b hb
      rcases hb with hb | hb
      · exact h.new b hb
      · rcases h.fresh _ b hb with h1 | h1
        · exact .inr h1
        · obtain ⟨j, hj⟩ := List.getElem?_of_mem h1
          have := h.inj _ _ b hb (h.ext j b hj)
          cases this
  | _ => exact ⟨I, tok, h, fun _ hb => hb, fun _ => rfl, fun q t nl l e => ⟨rfl, e⟩⟩

/-- Several are frozen. -/
theorem Inv.freezeAll (h : Inv w0 I0 xs st tm w I tok) (vs : List SV) : ∃ I' tok', Inv w0 I0 xs (st.freezeAll vs) tm w I' tok' ∧ (∀ b, I b → I' b) ∧ (∀ s, tok' (.box s) = tok (.box s)) ∧
    (∀ q t nl l, (st.freezeAll vs).slot q = .own t nl l → tok' (.sl q) = tok (.sl q) ∧ st.slot q = .own t nl l) := by
  unfold St.freezeAll
  generalize homes vs = l
  induction l generalizing st I tok with
  | nil => exact ⟨I, tok, h, fun _ hb => hb, fun _ => rfl, fun q t nl l e => ⟨rfl, e⟩⟩
  | cons g l ih =>
    obtain ⟨I1, tok1, h1, h2, h3, h3'⟩ := h.freeze g
    obtain ⟨I2, tok2, h4, h5, h6, h6'⟩ := ih h1
    refine ⟨I2, tok2, h4, fun b hb => h5 b (h2 b hb), fun s => (h6 s).trans (h3 s), fun q t nl l e => ?_⟩
    obtain ⟨e1, e2⟩ := h6' q t nl l e
    obtain ⟨e3, e4⟩ := h3' q t nl l e2
    exact ⟨e1.trans e3, e4⟩

/-- An own slice's array is written. -/
theorem Inv.writeOwn (h : Inv w0 I0 xs st tm w I tok) {g b : Nat} {t : Ty} {nl : Bool} {l l' : List t.den} (hs : st.slot g = .own t nl l) (hl : l'.length = l.length) (hb : tok (.sl g) = some b) (hw : Wrote b w w')
    (hr : ∀ oo cap, OwnRep w I b oo cap t l → tm.getD g undef = .slice (some ⟨b, oo, none⟩) l.length cap → OwnRep w' I b oo cap t l') : Inv w0 I0 xs { st with sl := st.sl.set g (.own t nl l') } tm w' I tok := by
  have hgl := home_lt' st g (by rw [hs]; rfl)
  have hIb : ∀ k, I k → w'.heap[k]? = w.heap[k]? := fun k hk => hw.block k (fun e => h.tokI _ _ hb (e ▸ hk))
  have htb : ∀ k c, tok k = some c → k ≠ .sl g → w'.heap[c]? = w.heap[c]? := fun k c hk hne => hw.block c (fun e => hne (h.inj _ _ b (e ▸ hk) hb))
  have hsl : ∀ i, ({ st with sl := st.sl.set g (.own t nl l') } : St).slot i = if i = g then .own t nl l' else st.slot i := fun i => slot_set st g i _ hgl
  have hcap : ∀ c x, capRep w I tok st c x → capRep w' I tok { st with sl := st.sl.set g (.own t nl l') } c x := by
    intro c x hc
    cases c <;> simp only [capRep] at hc ⊢ <;> first | exact hc.mono (fun _ hb => hb) hIb | exact hc
  constructor
  case len => simpa using h.len
  case small => simpa using h.small
  case slots =>
    intro i hi
    have := h.slots i (by simpa using hi)
    rw [hsl]
    by_cases hig : i = g
    · subst hig
      rw [if_pos rfl]
      rw [hs] at this
      obtain ⟨ad, cap, e, h1, h2, h3⟩ := this
      refine ⟨ad, cap, by rw [e, hl], h1, by omega, ?_⟩
      rcases h3 with ⟨h3, _⟩ | ⟨b', oo, h3, rfl, h4⟩
      · rw [hb] at h3; cases h3
      · rw [hb] at h3; cases h3
        exact .inr ⟨b, oo, hb, rfl, hr oo cap h4 e⟩
    · rw [if_neg hig]
      generalize st.slot i = sv at this ⊢
      cases sv with
      | p e => simp only [SRep] at this ⊢; exact this.mono (fun _ hb => hb) hIb
      | own u nl2 l2 => simp only [SRep] at this ⊢; exact this.world (fun _ hb => hb) hIb (fun c hc => htb _ c hc (by simpa using hig))
      | rf q =>
        simp only [SRep] at this ⊢
        refine ⟨?_, this.2⟩
        rw [hsl]; split
        · rfl
        · exact this.1
      | rs q u lo n =>
        simp only [SRep] at this ⊢
        rw [hsl]
        by_cases hq : q = g
        · subst hq
          rw [if_pos rfl]
          refine ⟨rfl, (fun u' nl' l2 e => ?_), (fun u' l2 e => by cases e), this.2.2.2⟩
          cases e
          rw [hl]
          exact this.2.1 _ _ _ hs
        · rw [if_neg hq]; exact this
      | pb r u pa => simp only [SRep] at this ⊢; exact hcap _ _ this
      | pe q t0 k u pa =>
        simp only [SRep] at this ⊢
        obtain ⟨⟨nl2, l2, h1, h2⟩, h3⟩ := this
        refine ⟨?_, h3⟩
        rw [hsl]
        by_cases hq : q = g
        · subst hq
          rw [if_pos rfl]
          rw [hs] at h1
          cases h1
          exact ⟨nl, l', rfl, by omega⟩
        · rw [if_neg hq]; exact ⟨nl2, l2, h1, h2⟩
      | nil => simp only [SRep] at this
      | nilp => simp only [SRep] at this
      | clo f caps => simp only [SRep] at this ⊢; obtain ⟨vs, e, hl, hc⟩ := this; exact ⟨vs, e, hl, fun j c x h1 h2 => hcap c x (hc j c x h1 h2)⟩
      | tup ls =>
        simp only [SRep] at this ⊢
        obtain ⟨vs, e, hl, hc⟩ := this
        refine ⟨vs, e, hl, fun j c x h1 h2 => ?_⟩
        have := hc j c x h1 h2
        cases c <;> simp only [compRep] at this ⊢
        · exact this.mono (fun _ hb => hb) hIb
        · exact this.world (fun _ hb => hb) hIb (fun c hc => htb _ c hc (by simp))
      | dead => simp only [SRep]
      | und => first | exact this | exact h | exact hr | exact hs | exact hv | (simp only [SRep] at *; assumption)
  case boxes =>
    intro r e hre
    obtain ⟨c, hc, hrep⟩ := h.boxes r e hre
    exact ⟨c, hc, hrep.world (fun _ hb => hb) hIb (htb _ c hc (by simp))⟩
  case inj => exact h.inj
  case tokLt => intro k c hk; rw [hw.size]; exact h.tokLt k c hk
  case tokI => exact h.tokI
  case ilt => intro c hc; rw [hw.size]; exact h.ilt c hc
  case fresh => exact h.fresh
  case ext => exact h.ext
  case keep =>
    intro c hc hx
    rw [hw.block c, h.keep c hc hx]
    rintro rfl
    rcases h.fresh _ _ hb with h1 | h1
    · omega
    · exact hx h1
  case size => rw [hw.size]; exact h.size
  case os => exact hw.os.trans h.os
  case output => exact hw.output.trans h.output
  case tape => exact hw.tape.trans h.tape
  case sub => exact h.sub
  case new => exact h.new
end Go.Own

/- Operations on pointers and boxes. -/
namespace Go.Own
variable {P : Program} {E : Env} {w0 w w' : World} {I0 I : Nat → Prop} {xs : List Nat} {st : St} {tm : Array Value} {tok : Tok} {ds : List Deferred}

theorem put_keepHome (st : St) (d g : Nat) (v : SV) (hd : d < st.sl.length) (hg : g ≠ d) (hh : (st.slot g).isHome = true) : (st.put d v).slot g = st.slot g := by
  rw [put_other st d g v hd hg]
  split
  · rcases off_eq d (st.slot g) with e | ⟨_, e⟩
    · exact e
    · cases hs : st.slot g <;> rw [hs] at hh e <;> simp only [SV.isHome, SV.onH] at hh e <;> cases hh
  · rfl

/-- What hangs on others, or on none, is put. -/
theorem SRep.putS {s : SV} {v : Value} {i d : Nat} (hd : d < st.sl.length) (hd' : d < tm.size) (h : SRep w I tok st tm i s v) (hon : ¬ s.onH d) (hno : ∀ t nl l, s ≠ .own t nl l) (hnt : ∀ l, s ≠ .tup l) :
    SRep w I (tok.drop d) (st.put d s) (tm.setIfInBounds d v) d s v := by
  have hbox : ∀ r, (st.put d s).box r = st.box r := fun r => by simp [St.box, put_bx]
  have hcap : ∀ q x, capRep w I tok st q x → capRep w I (tok.drop d) (st.put d s) q x := by
    intro q x hq
    cases q <;> simp only [capRep] at hq ⊢ <;> first | exact hq | skip
    simpa [hbox, Tok.drop] using hq
  have htm : ∀ g, g ≠ d → (tm.setIfInBounds d v).getD g undef = tm.getD g undef := fun g hg => by rw [getD_set tm d g v hd', if_neg hg]
  cases s with
  | p e => simp only [SRep] at h ⊢; exact h
  | own t nl l => exact absurd rfl (hno t nl l)
  | rf g => simp only [SRep] at h ⊢; simp only [SV.onH] at hon; rw [put_keepHome st d g _ hd hon h.1, htm g hon]; exact h
  | rs g t lo n => simp only [SRep] at h ⊢; simp only [SV.onH] at hon; rw [put_keepHome st d g _ hd hon h.1, htm g hon]; exact h
  | pb r t pa => simp only [SRep] at h ⊢; exact hcap _ _ h
  | pe g t0 k t pa =>
    have hg : (st.slot g).isHome = true := h.onHome rfl
    simp only [SRep] at h ⊢; simp only [SV.onH] at hon
    rw [put_keepHome st d g _ hd hon hg, htm g hon, drop_other tok d (.sl g) (by simpa [Key.at] using hon)]; exact h
  | nil => simp only [SRep] at h
  | nilp => simp only [SRep] at h
  | clo f caps => simp only [SRep] at h ⊢; obtain ⟨vs, e, hl, hc⟩ := h; exact ⟨vs, e, hl, fun j c x h1 h2 => hcap c x (hc j c x h1 h2)⟩
  | tup l => exact absurd rfl (hnt l)
  | dead => simp only [SRep]
  | und => first | exact this | exact h | exact hr | exact hs | exact hv | (simp only [SRep] at *; assumption)

theorem hang_on {s : SV} {d : Nat} : s.onH d ↔ s.hang = some d := by
  cases s <;> simp [SV.onH, SV.hang]

/-- A value comes that may hang on others. -/
theorem OpGood.s {o : Oper} {s : SV} {v : Value} {i : Nat} {st' : St} {c : Bool} (h : Inv w0 I0 xs st tm w I tok) (hd : ∀ d, o.dst = some d → d < st.sl.length)
    (hr : (execOp (Act.eval ⟨tm, ds⟩) o).run P w = .ok (.value v) w) (hv : SRep w I tok st tm i s v) (hno : ∀ t nl l, s ≠ .own t nl l) (hnt : ∀ l, s ≠ .tup l)
    (hp : st.putC o.dst c s = some (true, st')) :
    c = true ∧ OpGood P o ds w0 I0 xs st' tm w := by
  unfold St.putC at hp
  split at hp
  · rename_i d g hod hg
    cases hgd : g == d with
    | true => rw [hgd] at hp; cases hp
    | false =>
      rw [hgd] at hp
      simp only [cond_false, Option.some.injEq, Prod.mk.injEq] at hp
      obtain ⟨hc, rfl⟩ := hp
      have hdl := hd d hod
      refine ⟨hc, v, w, I, tok.drop d, .inl hr, ?_⟩
      rw [hod]
      refine h.put hdl (drop_other tok d) (fun k b hk hb => by rw [drop_at tok d k hk] at hb; cases hb) ?_
      refine hv.putS hdl (h.len ▸ hdl) ?_ hno hnt
      rw [hang_on, hg]
      simp only [Option.some.injEq]
      simpa using hgd
  · rename_i hn
    simp only [Option.some.injEq, Prod.mk.injEq] at hp
    obtain ⟨hc, rfl⟩ := hp
    refine ⟨hc, ?_⟩
    cases hod : o.dst with
    | none => exact ⟨v, w, I, tok, .inl hr, by rw [hod]; exact h⟩
    | some d =>
      have hdl := hd d hod
      refine ⟨v, w, I, tok.drop d, .inl hr, ?_⟩
      rw [hod]
      refine h.put hdl (drop_other tok d) (fun k b hk hb => by rw [drop_at tok d k hk] at hb; cases hb) ?_
      refine hv.putS hdl (h.len ▸ hdl) ?_ hno hnt
      rw [hang_on]
      intro e
      exact hn d d hod e

/-- A part's type. -/
theorem getP_in : ∀ {pa : Path} {t : Ty} {x : t.den}, pathIn t pa → ∃ d, getP t x pa = some d := by
  intro pa
  induction pa with
  | nil => intro t x _; exact ⟨⟨t, x⟩, by cases t <;> rfl⟩
  | cons s pa ih =>
    intro t x hp
    cases t <;> cases s <;> simp only [pathIn] at hp
    case pair.fst a b => exact ih hp
    case pair.snd a b => exact ih hp
    case arr.ix n t i => exact ih hp.2

theorem fieldPath_in : ∀ {n : Nat} {t u : Ty}, tyAt t (fieldPath n) = some u → pathIn t (fieldPath n) := by
  intro n
  induction n with
  | zero => intro t u h; cases t <;> simp_all [fieldPath, tyAt, pathIn]
  | succ n ih =>
    intro t u h
    cases t <;> simp only [fieldPath, tyAt, reduceCtorEq] at h
    simp only [fieldPath, pathIn]
    exact ih h

/-- Field n of a struct: its offset, and its type. -/
theorem field_at : ∀ {n : Nat} {t u : Ty} {fs : List Field} {off : Nat}, FieldsAt P fs off t → tyAt t (fieldPath n) = some u →
    ∃ f o, fs[n]? = some f ∧ pathAt t (fieldPath n) = some (o, u) ∧ f.offset = off + o ∧ TyAt P f.type u := by
  intro n
  induction n with
  | zero =>
    intro t u fs off h hu
    cases t <;> simp only [fieldPath, tyAt, reduceCtorEq] at hu
    rename_i a b
    obtain ⟨f, r, rfl, ho, h1, h2⟩ := h
    have : a = u := by cases a <;> simpa [tyAt] using hu
    subst this
    exact ⟨f, 0, rfl, by cases a <;> rfl, by simpa using ho, h1⟩
  | succ n ih =>
    intro t u fs off h hu
    cases t <;> simp only [fieldPath, tyAt, reduceCtorEq] at hu
    rename_i a b
    obtain ⟨f, r, rfl, ho, h1, h2⟩ := h
    obtain ⟨g, o, h3, h4, h5, h6⟩ := ih h2 hu
    exact ⟨g, a.size + o, by simpa using h3, by simp [fieldPath, pathAt, h4], by omega, h6⟩

theorem struct_fields {T : TypeId} {t : Ty} (h : TyAt P T t) {n : Nat} {u : Ty} (hu : tyAt t (fieldPath n) = some u) :
    ∃ fs f o, P.underlying T = some (.struct fs) ∧ fs[n]? = some f ∧ pathAt t (fieldPath n) = some (o, u) ∧ f.offset = o ∧ TyAt P f.type u := by
  have hp : ∃ a b, t = .pair a b := by
    cases t <;> cases n <;> simp [fieldPath, tyAt] at hu ⊢
  obtain ⟨a, b, rfl⟩ := hp
  obtain ⟨_, _, fs, hfs, _, f, r, hfr, ho, h1, h2⟩ := h
  have hF : FieldsAt P fs.toList 0 (.pair a b) := ⟨f, r, hfr, ho, h1, by simpa [FieldsAt] using h2⟩
  obtain ⟨g, o, h3, h4, h5, h6⟩ := field_at hF hu
  exact ⟨fs, g, o, hfs, by simpa using h3, h4, by omega, h6⟩
end Go.Own
