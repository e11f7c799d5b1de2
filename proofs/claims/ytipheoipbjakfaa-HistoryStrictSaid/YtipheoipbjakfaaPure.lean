/- What is proved: what the printed functions answer, in plain numbers and lists. Conditions: those that each theorem names. -/
import Derived.Test.YtipheoipbjakfaaW12
import Derived.IntWalk
import Derived.Laws.Strings
import Derived.Test.YtipheoipbjakfaaG3
set_option linter.unusedVariables false
set_option linter.unusedSimpArgs false
/- Loops of the printed functions: plain. -/
set_option linter.unusedVariables false
namespace Go.Own
open Go.IntWalk

theorem chk_true {W : Type} (z : Bool × W) : chk true z = z := by obtain ⟨a, b⟩ := z; rfl
theorem chk_and {W : Type} (z : Bool × W) {c : Bool} (h : c = true) : chk c z = z := by subst h; exact chk_true z
section
variable {X Y U V : Type} {g : (Bool → Bool × Nat × X × Y × U × V → Bool × Nat × X × Y × U × V) → (X → Y → Bool × Nat × X × Y × U × V) → (Nat → X → Y → Bool × Nat × X × Y × U × V) → (U → V → Bool × Nat × X × Y × U × V) → X → Y → Bool × Nat × X × Y × U × V} {u0 : U} {v0 : V}
/-- What a loop comes to: an invariant, a measure, and what holds behind it. -/
theorem rounds_post (I : X → Y → Prop) (m : X → Y → Nat) (Q : Bool × Nat × X × Y × U × V → Prop)
    (h : ∀ x y (R : X → Y → Bool × Nat × X × Y × U × V), I x y → (∀ x' y', I x' y' → m x' y' < m x y → Q (R x' y')) → Q (g chk R (fun e x y => (true, e + 1, x, y, u0, v0)) (fun u v => (true, 0, x, y, u, v)) x y)) :
    ∀ (q : Nat) x y, I x y → m x y < q → Q (rounds g u0 v0 q x y) := by
  intro q
  induction q with
  | zero => intro x y _ h; omega
  | succ q ih =>
    intro x y hI hm
    exact h x y _ hI fun x' y' hI' hm' => ih x' y' hI' (by omega)
theorem rounds_at {w : Bool × Nat × X × Y × U × V} {q : Nat} {x : X} {y : Y} (hw : w = rounds g u0 v0 q x y) (I : X → Y → Prop) (m : X → Y → Nat) (hI : I x y) (hm : m x y < q) {Q : Bool × Nat × X × Y × U × V → Prop}
    (h : ∀ x y (R : X → Y → Bool × Nat × X × Y × U × V), I x y → (∀ x' y', I x' y' → m x' y' < m x y → Q (R x' y')) → Q (g chk R (fun e x y => (true, e + 1, x, y, u0, v0)) (fun u v => (true, 0, x, y, u, v)) x y)) : Q w :=
  hw ▸ rounds_post I m Q h q x y hI hm
/-- Rounds one by one, whose states are told. -/
theorem rounds_up (N : Nat) (fx : Nat → X) (fy : Nat → Y) (w : Bool × Nat × X × Y × U × V)
    (hs : ∀ i (R : X → Y → Bool × Nat × X × Y × U × V), i < N → g chk R (fun e x y => (true, e + 1, x, y, u0, v0)) (fun u v => (true, 0, fx i, fy i, u, v)) (fx i) (fy i) = R (fx (i + 1)) (fy (i + 1)))
    (he : ∀ (R : X → Y → Bool × Nat × X × Y × U × V), g chk R (fun e x y => (true, e + 1, x, y, u0, v0)) (fun u v => (true, 0, fx N, fy N, u, v)) (fx N) (fy N) = w) :
    ∀ (q i : Nat), i ≤ N → N - i < q → rounds g u0 v0 q (fx i) (fy i) = w := by
  intro q
  induction q with
  | zero => intro i _ h; omega
  | succ q ih =>
    intro i hi hq
    simp only [rounds]
    rcases Nat.lt_or_ge i N with h | h
    · rw [hs i _ h]; exact ih (i + 1) h (by omega)
    · have : i = N := by omega
      subst this; exact he _
end
/-! ### Maps -/
section
variable {k v : Ty} (hk : ∀ a b : k.den, eqK k a b = true ↔ a = b)
theorem mapGet_nil {key : k.den} : mapGet k v key [] = none := rfl
theorem mapGet_cons {key : k.den} {p : k.den × v.den} {l : List (k.den × v.den)} : mapGet k v key (p :: l) = bif eqK k key p.1 then some p.2 else mapGet k v key l := by
  unfold mapGet
  simp only [mapIx]
  cases eqK k key p.1 with
  | true => rfl
  | false =>
    simp only [cond_false]
    cases mapIx k v key l with
    | none => rfl
    | some i => simp only [Option.map_some, List.getElem?_cons_succ]
theorem mapSet_cons {key : k.den} {x : v.den} {p : k.den × v.den} {l : List (k.den × v.den)} : mapSet k v key x (p :: l) = bif eqK k key p.1 then (key, x) :: l else p :: mapSet k v key x l := by
  unfold mapSet
  simp only [mapIx]
  cases eqK k key p.1 with
  | true => rfl
  | false =>
    simp only [cond_false]
    cases mapIx k v key l with
    | none => rfl
    | some i => simp only [Option.map_some, List.set_cons_succ]
include hk in
theorem mapGet_set {key key' : k.den} {x : v.den} : ∀ {l : List (k.den × v.den)}, (key' = key → mapGet k v key' (mapSet k v key x l) = some x) ∧ (key' ≠ key → mapGet k v key' (mapSet k v key x l) = mapGet k v key' l) := by
  intro l
  induction l with
  | nil =>
    refine ⟨?_, fun h => ?_⟩
    · rintro rfl
      show mapGet k v key' [(key', x)] = _
      rw [mapGet_cons, (hk key' key').2 rfl]; rfl
    · show mapGet k v key' [(key, x)] = _
      rw [mapGet_cons]
      cases he : eqK k key' key with
      | true => exact absurd ((hk _ _).1 he) h
      | false => rfl
  | cons p l ih =>
    rw [mapSet_cons]
    cases he : eqK k key p.1 with
    | true =>
      have e := (hk _ _).1 he
      simp only [cond_true]
      refine ⟨?_, fun h => ?_⟩
      · rintro rfl; rw [mapGet_cons, (hk key' key').2 rfl]; rfl
      · rw [mapGet_cons, mapGet_cons]
        cases h1 : eqK k key' key with
        | true => exact absurd ((hk _ _).1 h1) h
        | false =>
          cases h2 : eqK k key' p.1 with
          | true => exact absurd (((hk _ _).1 h2).trans e.symm) h
          | false => rfl
    | false =>
      simp only [cond_false]
      rw [mapGet_cons, mapGet_cons]
      refine ⟨?_, fun h => ?_⟩
      · rintro rfl; rw [he]; exact ih.1 rfl
      · rw [ih.2 h]
end
theorem eqK_int {q : IntKind} (a b : Int) : eqK (.int q) a b = true ↔ a = b := by
  show (some (decide ((a : Int) = b))).getD false = true ↔ _
  simp
/-! ### Comparisons -/
theorem ilt_t {a b : Int} (h : a < b) : ilt a b = true := decide_eq_true h
theorem ilt_f {a b : Int} (h : ¬ a < b) : ilt a b = false := decide_eq_false h
theorem ile_t {a b : Int} (h : a ≤ b) : ile a b = true := decide_eq_true h
theorem ile_f {a b : Int} (h : ¬ a ≤ b) : ile a b = false := decide_eq_false h
theorem ieq_t {a b : Int} (h : a = b) : ieq a b = true := decide_eq_true h
theorem ieq_self (a : Int) : ieq a a = true := ieq_t rfl
theorem ieq_f {a b : Int} (h : ¬ a = b) : ieq a b = false := decide_eq_false h
theorem nlt_t {a b : Nat} (h : a < b) : nlt a b = true := decide_eq_true h
theorem nlt_f {a b : Nat} (h : ¬ a < b) : nlt a b = false := decide_eq_false h
theorem nle_t {a b : Nat} (h : a ≤ b) : nle a b = true := decide_eq_true h
theorem nle_f {a b : Nat} (h : ¬ a ≤ b) : nle a b = false := decide_eq_false h
theorem neq_t {a b : Nat} (h : a = b) : neq a b = true := decide_eq_true h
theorem neq_f {a b : Nat} (h : ¬ a = b) : neq a b = false := decide_eq_false h
theorem ilt_iff {a b : Int} : ilt a b = true ↔ a < b := decide_eq_true_iff
theorem ile_iff {a b : Int} : ile a b = true ↔ a ≤ b := decide_eq_true_iff
theorem ieq_iff {a b : Int} : ieq a b = true ↔ a = b := decide_eq_true_iff
theorem nle_iff {a b : Nat} : nle a b = true ↔ a ≤ b := decide_eq_true_iff
theorem nlt_iff {a b : Nat} : nlt a b = true ↔ a < b := decide_eq_true_iff
/-- An index in its range. -/
theorem rng {i n : Nat} (h : i < n) : (ile 0 (i : Int) && ilt (i : Int) (n : Int)) = true := by
  rw [ile_t (by omega), ilt_t (by omega)]; rfl
theorem rngl {α : Type} {l : List α} {i : Nat} (h : i < l.length) : (ile 0 (i : Int) && ilt (i : Int) (l.length : Int)) = true := rng h
theorem i64n (n : Nat) (h : n < 9223372036854775808) : IntKind.i64.wrap (n : Int) = n := i64_in _ (by omega)
theorem i64i {n : Int} (h : -9223372036854775808 ≤ n) (h2 : n < 9223372036854775808) : IntKind.i64.wrap n = n := i64_in _ (by omega)
theorem succ_i64 (i : Nat) (h : i < 9223372036854775807) : IntKind.i64.wrap ((i : Int) + 1) = ((i + 1 : Nat) : Int) := i64_in _ (by omega)
theorem getD_lt {α : Type} {l : List α} {i : Nat} {d : α} (h : i < l.length) : l.getD i d = l[i] := by simp [List.getD_eq_getElem?_getD, h]
end Go.Own

/- Texts in order; lists that grow: plain. -/
set_option linter.unusedVariables false
namespace Go.Own

abbrev BL := List UInt8
theorem bl_irrefl (a : BL) : ¬ a < a := List.lt_irrefl a
theorem bl_trans {a b c : BL} (h : a < b) (k : b < c) : a < c := List.lt_trans h k
theorem bl_tri (a b : BL) : a < b ∨ a = b ∨ b < a := by
  by_cases h : a < b
  · exact .inl h
  · by_cases k : b < a
    · exact .inr (.inr k)
    · exact .inr (.inl (List.le_antisymm k h))
theorem bl_le {a b : BL} : a ≤ b ↔ ¬ b < a := Iff.rfl
theorem bl_le_trans {a b c : BL} (h : a ≤ b) (k : b ≤ c) : a ≤ c := List.le_trans h k
theorem bl_lt_of_le {a b : BL} (h : a ≤ b) (k : a ≠ b) : a < b := by
  rcases bl_tri a b with h1 | h1 | h1
  · exact h1
  · exact absurd h1 k
  · exact absurd h1 h
theorem bl_le_of_lt {a b : BL} (h : a < b) : a ≤ b := fun k => bl_irrefl _ (bl_trans h k)
theorem bl_lt_le {a b c : BL} (h : a < b) (k : b ≤ c) : a < c := by
  rcases bl_tri a c with h1 | h1 | h1
  · exact h1
  · subst h1; exact absurd h k
  · exact absurd (bl_trans h1 h) k
theorem bl_le_lt {a b c : BL} (h : a ≤ b) (k : b < c) : a < c := by
  rcases bl_tri a c with h1 | h1 | h1
  · exact h1
  · subst h1; exact absurd k h
  · exact absurd (bl_trans k h1) h
theorem bytesLess_eq : ∀ (x y : BL), Op.bytesLess x y = decide (x < y)
  | _, [] => by simp [Op.bytesLess]
  | [], _ :: _ => by simp [Op.bytesLess]
  | a :: x, b :: y => by
    rw [Op.bytesLess, bytesLess_eq x y]
    by_cases h : a < b
    · simp [h, List.cons_lt_cons_iff]
    · by_cases e : a = b
      · subst e; simp [h, List.cons_lt_cons_iff]
      · simp [h, e, List.cons_lt_cons_iff]
theorem bytesLess_s (a b : ByteArray) : Op.bytesLess a.toList b.toList = decide (a.data.toList < b.data.toList) := by
  rw [bytesLess_eq, ByteArray.toList_eq, ByteArray.toList_eq]
theorem eq_s (a b : ByteArray) : (a.toList == b.toList) = decide (a.data.toList = b.data.toList) := by
  rw [ByteArray.toList_eq, ByteArray.toList_eq]
  cases h : decide (a.data.toList = b.data.toList) with
  | true => exact beq_iff_eq.2 (of_decide_eq_true h)
  | false => exact beq_eq_false_iff_ne.2 (of_decide_eq_false h)
theorem bbeq_iff {a b : ByteArray} : (a == b) = true ↔ a = b := by
  cases a with | mk a => cases b with | mk b =>
  show (a == b) = true ↔ _
  rw [beq_iff_eq]
  exact ⟨fun h => by rw [h], fun h => by cases h; rfl⟩
theorem bbeq_self (s : ByteArray) : (s == s) = true := bbeq_iff.2 rfl
theorem bytes_inj {a b : ByteArray} (h : a.data.toList = b.data.toList) : a = b := by
  cases a; cases b; simp only [ByteArray.mk.injEq]; exact Array.ext' h

/-- Lists in strict order with the same members are the same. -/
theorem strict_unique : ∀ {a b : List BL}, a.Pairwise (· < ·) → b.Pairwise (· < ·) → (∀ x, x ∈ a ↔ x ∈ b) → a = b
  | [], [], _, _, _ => rfl
  | [], y :: b, _, _, h => absurd ((h y).2 (by simp)) (by simp)
  | x :: a, [], _, _, h => absurd ((h x).1 (by simp)) (by simp)
  | x :: a, y :: b, ha, hb, h => by
    obtain ⟨ha1, ha2⟩ := List.pairwise_cons.1 ha
    obtain ⟨hb1, hb2⟩ := List.pairwise_cons.1 hb
    have e : x = y := by
      rcases List.mem_cons.1 ((h x).1 (by simp)) with h1 | h1
      · exact h1
      · rcases List.mem_cons.1 ((h y).2 (by simp)) with h2 | h2
        · exact h2.symm
        · exact absurd (bl_trans (ha1 y h2) (hb1 x h1)) (bl_irrefl _)
    subst e
    congr 1
    refine strict_unique ha2 hb2 fun z => ⟨fun hz => ?_, fun hz => ?_⟩
    · rcases List.mem_cons.1 ((h z).1 (by simp [hz])) with h1 | h1
      · subst h1; exact absurd (ha1 z hz) (bl_irrefl _)
      · exact h1
    · rcases List.mem_cons.1 ((h z).2 (by simp [hz])) with h1 | h1
      · subst h1; exact absurd (hb1 z hz) (bl_irrefl _)
      · exact h1

/-- The sorted list is in order, and a permutation. -/
theorem sort_pw (l : List BL) : (l.mergeSort fun x y => decide (x ≤ y)).Pairwise (· ≤ ·) := by
  have := List.pairwise_mergeSort (le := fun x y : BL => decide (x ≤ y)) (fun a b c h1 h2 => by
    simp only [decide_eq_true_eq] at *; exact bl_le_trans h1 h2) (fun a b => by
    simp only [Bool.or_eq_true, decide_eq_true_eq]
    exact List.le_total a b) l
  exact this.imp fun h => of_decide_eq_true h
theorem sort_mem (l : List BL) (x : BL) : x ∈ (l.mergeSort fun x y => decide (x ≤ y)) ↔ x ∈ l := (List.mergeSort_perm l _).mem_iff
end Go.Own

/- Events that may be a history: what the program and the reference say: plain. -/
set_option linter.unusedVariables false
namespace Go.Own
open Go.IntWalk

abbrev evC (e : Api_Event) : Int := e.1
abbrev evS (e : Api_Event) : Int := e.2.2.2.2.1
abbrev evE (e : Api_Event) : Int := e.2.2.2.2.2.1
def evB (a b : Api_Event) : Bool := (evE a != 0) && ilt (evE a) (evS b)
def evM (e : Api_Event) : Bool := (evE e != 0) && (e.2.2.2.2.2.2.1.2.1 == 0)
def evF (e : Api_Event) : Bool := ile 1 e.2.1 && (ile e.2.1 3 && (ile 1 (evS e) && ((evE e == 0) || ile (evS e) (evE e))))
abbrev at0 (l : List Api_Event) (i : Nat) : Api_Event := l.getD i zApi_Event

theorem Before_r (a b : Api_Event) : History_Before.r a b = (true, evB a b) := by
  unfold History_Before.r History_Before.g evB evE evS; simp only [lt]; cases (a.2.2.2.2.2.1 != 0) <;> rfl
theorem rBefore_r (a b : Api_Event) : Sacristyref28_Before.r a b = (true, evB a b) := by
  unfold Sacristyref28_Before.r Sacristyref28_Before.g evB evE evS; simp only [lt]; cases (a.2.2.2.2.2.1 != 0) <;> rfl
theorem Must_r (a : Api_Event) : History_Must.r a = (true, evM a) := by
  unfold History_Must.r History_Must.g evM evE; simp only [lt]; cases (a.2.2.2.2.2.1 != 0) <;> rfl
theorem rMust_r (a : Api_Event) : Sacristyref28_Must.r a = (true, evM a) := by
  unfold Sacristyref28_Must.r Sacristyref28_Must.g evM evE; simp only [lt]; cases (a.2.2.2.2.2.1 != 0) <;> rfl
theorem fine_r (e : Api_Event) : History_fine.r e = (true, evF e) := by
  unfold History_fine.r History_fine.g evF evE evS; simp only [lt]
  cases ile 1 e.2.1 <;> cases ile e.2.1 3 <;> cases ile 1 e.2.2.2.2.1 <;> cases (e.2.2.2.2.2.1 == 0) <;> rfl

/-- Event i may stand where it stands. -/
def okI (l : List Api_Event) (i : Nat) : Prop :=
  evF (at0 l i) = true ∧ (∀ j, j + 1 = i → evS (at0 l j) < evS (at0 l i)) ∧ ∀ k, k < i → evC (at0 l k) = evC (at0 l i) → evB (at0 l k) (at0 l i) = true
def evMay (l : List Api_Event) : Prop := ∀ i, i < l.length → okI l i

abbrev MayQ1 (l : List Api_Event) (b : Bool) (i : Nat) (e : Api_Event) (w : Bool × Nat × Sacristyref28_May.X1 × Sacristyref28_May.Y1 × Sacristyref28_May.U1 × Sacristyref28_May.V1) : Prop :=
  w.1 = true ∧ ((w.2.1 = 0 ∧ w.2.2.2.2.1.1 = false ∧ ∃ k, k < i ∧ evC (at0 l k) = evC e ∧ evB (at0 l k) e = false) ∨
      (w.2.1 = 3 ∧ w.2.2.1.1 = l ∧ w.2.2.1.2.1 = b ∧ w.2.2.1.2.2.1 = (i : Int) ∧ ∀ k, k < i → evC (at0 l k) = evC e → evB (at0 l k) e = true))
abbrev MayQ (l : List Api_Event) (z : Bool × Nat × Sacristyref28_May.X0 × Sacristyref28_May.Y0 × Sacristyref28_May.U0 × Sacristyref28_May.V0) : Prop :=
  z.1 = true ∧ ((z.2.1 = 0 ∧ z.2.2.2.2.1.1 = false ∧ ¬ evMay l) ∨ (z.2.1 = 1 ∧ evMay l))
theorem May_l1 (l : List Api_Event) (hl : l.length ≤ 9223372036854775807) (b : Bool) (i : Nat) (hi : i < l.length) (e : Api_Event) :
    ∀ w, w = Sacristyref28_May.l1 (l, b, (i : Int), (), 0, ()) (e, ()) → MayQ1 l b i e w := by
  intro w hw
  refine rounds_at (Q := MayQ1 l b i e) hw (fun x y => y = (e, ()) ∧ ∃ k : Nat, k ≤ i ∧ x = (l, b, (i : Int), (), (k : Int), ()) ∧ ∀ j, j < k → evC (at0 l j) = evC e → evB (at0 l j) e = true) (fun x _ => ((i : Int) - x.2.2.2.2.1).toNat) ⟨rfl, 0, by omega, rfl, fun j hj => by omega⟩ (Nat.lt_succ_self _) ?_
  rintro x y R ⟨rfl, k, hk, rfl, hok⟩ hR
  simp only [Sacristyref28_May.g1, lt]
  rcases Nat.lt_or_ge k i with h | h
  · have h1 : (k : Int) < (i : Int) := by omega
    simp only [ilt_t h1, cond_true, Int.toNat_natCast, rngl (show k < l.length by omega), chk_true, rBefore_r, succ_i64 k (by omega)]
    cases hc : (at0 l k).1 == e.1 with
    | true =>
      have hc' : evC (at0 l k) = evC e := eq_of_beq hc
      simp only [cond_true]
      cases hb : evB (at0 l k) e with
      | true =>
        simp only [Bool.not_true, cond_false]
        refine hR _ _ ⟨rfl, k + 1, by omega, rfl, fun j hj he => ?_⟩ (by simp only []; omega)
        rcases Nat.lt_or_ge j k with h2 | h2
        · exact hok j h2 he
        · have : j = k := by omega
          subst this; exact hb
      | false =>
        simp only [Bool.not_false, cond_true]
        exact ⟨rfl, .inl ⟨rfl, rfl, k, h, hc', hb⟩⟩
    | false =>
      simp only [cond_false]
      refine hR _ _ ⟨rfl, k + 1, by omega, rfl, fun j hj he => ?_⟩ (by simp only []; omega)
      rcases Nat.lt_or_ge j k with h2 | h2
      · exact hok j h2 he
      · have : j = k := by omega
        subst this
        have : (evC (at0 l j) == evC e) = true := by rw [he]; simp
        rw [this] at hc; cases hc
  · have h1 : ¬ (k : Int) < (i : Int) := by omega
    simp only [ilt_f h1, cond_false]
    exact ⟨rfl, .inr ⟨rfl, rfl, rfl, rfl, fun j hj => hok j (by omega)⟩⟩

theorem May_r (l : List Api_Event) (hl : l.length ≤ 9223372036854775807) [Decidable (evMay l)] : Sacristyref28_May.r l = (true, decide (evMay l)) := by
  have key : ∀ w, w = Sacristyref28_May.l0 (l, false, 0, ()) () → MayQ l w := by
    intro w hw
    refine rounds_at (Q := MayQ l) hw (fun x _ => ∃ i : Nat, i ≤ l.length ∧ x = (l, false, (i : Int), ()) ∧ ∀ j, j < i → okI l j) (fun x _ => ((l.length : Int) - x.2.2.1).toNat) ⟨0, by omega, rfl, fun j hj => by omega⟩ (Nat.lt_succ_self _) ?_
    rintro x y R ⟨i, hi, rfl, hok⟩ hR
    simp only [Sacristyref28_May.g0, lt]
    rcases Nat.lt_or_ge i l.length with h | h
    · have h1 : (i : Int) < (l.length : Int) := by omega
      have bad : ¬ okI l i → ¬ evMay l := fun hn hm => hn (hm i h)
      simp only [ilt_t h1, cond_true, Int.toNat_natCast, rngl h, chk_true]
      -- the inner loop, and what stands ahead of it
      have fin : evF (at0 l i) = true → (∀ j, j + 1 = i → evS (at0 l j) < evS (at0 l i)) → ∀ (w : Bool × Nat × Sacristyref28_May.X1 × Sacristyref28_May.Y1 × Sacristyref28_May.U1 × Sacristyref28_May.V1), w = Sacristyref28_May.l1 (l, false, (i : Int), (), 0, ()) (at0 l i, ()) →
          (MayQ l
            (chk w.1 (bif Nat.beq w.2.1 0 then (true, 0, (l, false, (i : Int), ()), y, (w.2.2.2.2.1.1, ()), ()) else R (w.2.2.1.1, w.2.2.1.2.1, IntKind.i64.wrap (w.2.2.1.2.2.1 + 1), ()) ()))) := by
        rintro hF hS w rfl
        have hw := May_l1 l hl false i h (at0 l i) _ rfl
        revert hw
        generalize Sacristyref28_May.l1 (l, false, (i : Int), (), 0, ()) (at0 l i, ()) = w
        rintro ⟨w1, ⟨w2, w3, k, hk, hc, hb⟩ | ⟨w2, w3, w4, w5, hall⟩⟩
        · rw [w1, w2]
          simp only [chk_true, Nat.beq, cond_true]
          exact ⟨rfl, .inl ⟨rfl, w3, bad fun ho => by have := ho.2.2 k hk hc; rw [hb] at this; cases this⟩⟩
        · rw [w1, w2, w3, w4, w5]
          simp only [chk_true, Nat.beq, cond_false, succ_i64 i (by omega)]
          refine hR _ _ ⟨i + 1, by omega, rfl, fun j hj => ?_⟩ (by simp only []; omega)
          rcases Nat.lt_or_ge j i with h2 | h2
          · exact hok j h2
          · have : j = i := by omega
            subst this; exact ⟨hF, hS, hall⟩
      have no : ¬ okI l i → MayQ l (true, 0, (l, false, (i : Int), ()), y, (false, ()), ()) :=
        fun hn => ⟨rfl, .inl ⟨rfl, rfl, bad hn⟩⟩
      have hFi : evF (at0 l i) = (ile 1 (at0 l i).2.1 && (ile (at0 l i).2.1 3 && (ile 1 (evS (at0 l i)) && ((evE (at0 l i) == 0) || ile (evS (at0 l i)) (evE (at0 l i)))))) := rfl
      -- the one ahead
      have prev : evF (at0 l i) = true → MayQ l
          (bif ilt 0 (i : Int) then
            chk (ile 0 (IntKind.i64.wrap ((i : Int) - 1)) && ilt (IntKind.i64.wrap ((i : Int) - 1)) (l.length : Int))
              (bif ile (at0 l i).2.2.2.2.1 (l.getD (IntKind.i64.wrap ((i : Int) - 1)).toNat zApi_Event).2.2.2.2.1 then (true, 0, (l, false, (i : Int), ()), y, (false, ()), ())
               else chk (Sacristyref28_May.l1 (l, false, (i : Int), (), 0, ()) (at0 l i, ())).1 (bif Nat.beq (Sacristyref28_May.l1 (l, false, (i : Int), (), 0, ()) (at0 l i, ())).2.1 0 then (true, 0, (l, false, (i : Int), ()), y, ((Sacristyref28_May.l1 (l, false, (i : Int), (), 0, ()) (at0 l i, ())).2.2.2.2.1.1, ()), ()) else R ((Sacristyref28_May.l1 (l, false, (i : Int), (), 0, ()) (at0 l i, ())).2.2.1.1, (Sacristyref28_May.l1 (l, false, (i : Int), (), 0, ()) (at0 l i, ())).2.2.1.2.1, IntKind.i64.wrap ((Sacristyref28_May.l1 (l, false, (i : Int), (), 0, ()) (at0 l i, ())).2.2.1.2.2.1 + 1), ()) ()))
          else chk (Sacristyref28_May.l1 (l, false, (i : Int), (), 0, ()) (at0 l i, ())).1 (bif Nat.beq (Sacristyref28_May.l1 (l, false, (i : Int), (), 0, ()) (at0 l i, ())).2.1 0 then (true, 0, (l, false, (i : Int), ()), y, ((Sacristyref28_May.l1 (l, false, (i : Int), (), 0, ()) (at0 l i, ())).2.2.2.2.1.1, ()), ()) else R ((Sacristyref28_May.l1 (l, false, (i : Int), (), 0, ()) (at0 l i, ())).2.2.1.1, (Sacristyref28_May.l1 (l, false, (i : Int), (), 0, ()) (at0 l i, ())).2.2.1.2.1, IntKind.i64.wrap ((Sacristyref28_May.l1 (l, false, (i : Int), (), 0, ()) (at0 l i, ())).2.2.1.2.2.1 + 1), ()) ())) := by
        intro hF
        rcases Nat.eq_zero_or_pos i with h0 | h0
        · subst h0
          simp only [ilt_f (show ¬ (0 : Int) < ((0 : Nat) : Int) by omega), cond_false]
          exact fin hF (fun j hj => by omega) _ rfl
        · have e1 : IntKind.i64.wrap ((i : Int) - 1) = ((i - 1 : Nat) : Int) := by rw [i64i (by omega) (by omega)]; omega
          simp only [ilt_t (show (0 : Int) < ((i : Nat) : Int) by omega), cond_true, e1, rngl (show i - 1 < l.length by omega), chk_true, Int.toNat_natCast]
          by_cases hs : evS (at0 l (i - 1)) ≥ evS (at0 l i)
          · rw [show ile (at0 l i).2.2.2.2.1 (l.getD (i - 1) zApi_Event).2.2.2.2.1 = true from ile_t hs, cond_true]
            exact no fun ho => by have := ho.2.1 (i - 1) (by omega); omega
          · rw [show ile (at0 l i).2.2.2.2.1 (l.getD (i - 1) zApi_Event).2.2.2.2.1 = false from ile_f hs, cond_false]
            exact fin hF (fun j hj => by have : j = i - 1 := by omega
                                         subst this; omega) _ rfl
      by_cases k1 : (at0 l i).2.1 < 1
      · rw [show ilt (l.getD i zApi_Event).2.1 1 = true from ilt_t k1, cond_true]
        exact no fun ho => by have := ho.1; rw [hFi] at this; simp only [Bool.and_eq_true, ile_iff] at this; omega
      rw [show ilt (l.getD i zApi_Event).2.1 1 = false from ilt_f k1, cond_false]
      by_cases k2 : (at0 l i).2.1 > 3
      · rw [show ilt 3 (l.getD i zApi_Event).2.1 = true from ilt_t k2, cond_true]
        exact no fun ho => by have := ho.1; rw [hFi] at this; simp only [Bool.and_eq_true, ile_iff] at this; omega
      rw [show ilt 3 (l.getD i zApi_Event).2.1 = false from ilt_f k2, cond_false]
      by_cases k3 : evS (at0 l i) < 1
      · rw [show ilt (l.getD i zApi_Event).2.2.2.2.1 1 = true from ilt_t k3, cond_true]
        exact no fun ho => by have := ho.1; rw [hFi] at this; simp only [Bool.and_eq_true, ile_iff] at this; omega
      rw [show ilt (l.getD i zApi_Event).2.2.2.2.1 1 = false from ilt_f k3, cond_false]
      by_cases k4 : evE (at0 l i) = 0
      · rw [show ((l.getD i zApi_Event).2.2.2.2.2.1 != 0) = false from by rw [show (l.getD i zApi_Event).2.2.2.2.2.1 = 0 from k4]; rfl, cond_false]
        exact prev (by rw [hFi]; simp only [Bool.and_eq_true, ile_iff, Bool.or_eq_true, beq_iff_eq]; exact ⟨by omega, by omega, by omega, .inl k4⟩)
      · rw [show ((l.getD i zApi_Event).2.2.2.2.2.1 != 0) = true from bne_iff_ne.2 k4, cond_true]
        by_cases k5 : evE (at0 l i) < evS (at0 l i)
        · rw [show ilt (l.getD i zApi_Event).2.2.2.2.2.1 (l.getD i zApi_Event).2.2.2.2.1 = true from ilt_t k5, cond_true]
          exact no fun ho => by have := ho.1; rw [hFi] at this; simp only [Bool.and_eq_true, ile_iff, Bool.or_eq_true, beq_iff_eq] at this; omega
        · rw [show ilt (l.getD i zApi_Event).2.2.2.2.2.1 (l.getD i zApi_Event).2.2.2.2.1 = false from ilt_f k5, cond_false]
          exact prev (by rw [hFi]; simp only [Bool.and_eq_true, ile_iff, Bool.or_eq_true, beq_iff_eq]; exact ⟨by omega, by omega, by omega, .inr (by omega)⟩)
    · have h1 : ¬ (i : Int) < (l.length : Int) := by omega
      simp only [ilt_f h1, cond_false]
      exact ⟨rfl, .inr ⟨rfl, fun j hj => hok j (by omega)⟩⟩
  simp only [Sacristyref28_May.r, Sacristyref28_May.g, lt]
  obtain ⟨w1, ⟨w2, w3, hn⟩ | ⟨w2, hm⟩⟩ := key _ rfl
  · rw [w1, w2, w3, decide_eq_false hn]; rfl
  · rw [w1, w2, decide_eq_true hm]; rfl
end Go.Own

/- Whether events may be a history, as the program says it: plain. -/
set_option linter.unusedVariables false
namespace Go.Own
open Go.IntWalk

theorem evB_trans {a b c : Api_Event} (h1 : evB a b = true) (hb : evF b = true) (h2 : evB b c = true) : evB a c = true := by
  simp only [evB, evF, Bool.and_eq_true, bne_iff_ne, ilt_iff, ile_iff, Bool.or_eq_true, beq_iff_eq] at h1 hb h2 ⊢
  exact ⟨h1.1, by omega⟩

/-- What the map knows of a client: its last event. -/
def lastOK (l : List Api_Event) (i : Nat) (c : Int) : Option Api_Event → Prop
  | some e => ∃ k, k < i ∧ e = at0 l k ∧ evC e = c ∧ ∀ j, k < j → j < i → evC (at0 l j) ≠ c
  | none => ∀ j, j < i → evC (at0 l j) ≠ c
abbrev CheckQ (l : List Api_Event) (z : Bool × Nat × History_Check.X0 × History_Check.Y0 × History_Check.U0 × History_Check.V0) : Prop :=
  z.1 = true ∧ ((z.2.1 = 0 ∧ z.2.2.2.2.1.1 = 1 ∧ ¬ evMay l) ∨ (z.2.1 = 1 ∧ evMay l))

theorem Check_r (l : List Api_Event) (hl : l.length ≤ 9223372036854775807) [Decidable (evMay l)] : History_Check.r l = (true, bif decide (evMay l) then 0 else 1) := by
  have key : ∀ w, w = History_Check.l0 (l, 0, (), l, (l.length : Int), 0, ()) ([], ()) → CheckQ l w := by
    intro w hw
    refine rounds_at (Q := CheckQ l) hw (fun x y => ∃ i : Nat, i ≤ l.length ∧ x = (l, 0, (), l, (l.length : Int), (i : Int), ()) ∧ (∀ j, j < i → okI l j) ∧ ∀ c, lastOK l i c (mapGet (.int .i64) tApi_Event c y.1)) (fun x _ => ((l.length : Int) - x.2.2.2.2.2.1).toNat)
      ⟨0, by omega, rfl, fun j hj => by omega, fun c => fun j hj => by omega⟩ (Nat.lt_succ_self _) ?_
    rintro x ⟨mp, u⟩ R ⟨i, hi, rfl, hok, hmp⟩ hR
    simp only [] at hmp
    simp only [History_Check.g0, lt]
    rcases Nat.lt_or_ge i l.length with h | h
    · have h1 : (i : Int) < (l.length : Int) := by omega
      have bad : ¬ okI l i → ¬ evMay l := fun hn hm => hn (hm i h)
      have no : ¬ okI l i → CheckQ l (true, 0, (l, 0, (), l, (l.length : Int), (i : Int), ()), (mp, u), (1, ()), ()) := fun hn => ⟨rfl, .inl ⟨rfl, rfl, bad hn⟩⟩
      simp only [ilt_t h1, cond_true, Int.toNat_natCast, rngl h, chk_true, fine_r]
      rcases (Bool.eq_false_or_eq_true (evF (at0 l i))).symm with hF | hF
      · rw [show evF (l.getD i zApi_Event) = false from hF]
        exact no fun ho => by have := ho.1; rw [hF] at this; cases this
      rw [show evF (l.getD i zApi_Event) = true from hF]
      simp only [Bool.not_true, cond_false]
      have hm := hmp (evC (at0 l i))
      have cont : okI l i → CheckQ l (R (l, 0, (), l, (l.length : Int), IntKind.i64.wrap ((i : Int) + 1), ()) (mapSet (.int .i64) tApi_Event (at0 l i).1 (at0 l i) mp, ())) := by
        intro hoi
        rw [succ_i64 i (by omega)]
        refine hR _ _ ⟨i + 1, by omega, rfl, fun j hj => ?_, fun c => ?_⟩ (by simp only []; omega)
        · rcases Nat.lt_or_ge j i with h2 | h2
          · exact hok j h2
          · have : j = i := by omega
            subst this; exact hoi
        · by_cases hc : c = (at0 l i).1
          · rw [(mapGet_set (k := .int .i64) (v := tApi_Event) eqK_int).1 hc]
            exact ⟨i, by omega, rfl, hc.symm, fun j h1 h2 => by omega⟩
          · rw [(mapGet_set (k := .int .i64) (v := tApi_Event) eqK_int).2 hc]
            have := hmp c
            revert this
            cases mapGet (.int .i64) tApi_Event c mp with
            | none =>
              intro this j hj
              rcases Nat.lt_or_ge j i with h2 | h2
              · exact this j h2
              · have : j = i := by omega
                subst this; exact fun e => hc e.symm
            | some e =>
              rintro ⟨k, h2, h3, h4, h5⟩
              refine ⟨k, by omega, h3, h4, fun j hj hji => ?_⟩
              rcases Nat.lt_or_ge j i with h6 | h6
              · exact h5 j hj h6
              · have : j = i := by omega
                subst this; exact fun e => hc e.symm
      have last : (∀ j, j + 1 = i → evS (at0 l j) < evS (at0 l i)) → CheckQ l (bif (mapGet (.int .i64) tApi_Event (at0 l i).1 mp).isSome then
          bif !(evB ((mapGet (.int .i64) tApi_Event (at0 l i).1 mp).getD zApi_Event) (at0 l i)) then (true, 0, (l, 0, (), l, (l.length : Int), (i : Int), ()), (mp, u), (1, ()), ())
          else R (l, 0, (), l, (l.length : Int), IntKind.i64.wrap ((i : Int) + 1), ()) (mapSet (.int .i64) tApi_Event (at0 l i).1 (at0 l i) mp, ())
        else R (l, 0, (), l, (l.length : Int), IntKind.i64.wrap ((i : Int) + 1), ()) (mapSet (.int .i64) tApi_Event (at0 l i).1 (at0 l i) mp, ())) := by
        intro hS
        revert hm
        show lastOK l i (at0 l i).1 (mapGet (.int .i64) tApi_Event (at0 l i).1 mp) → _
        cases mapGet (.int .i64) tApi_Event (at0 l i).1 mp with
        | none =>
          intro hm
          simp only [Option.isSome_none, cond_false]
          exact cont ⟨hF, hS, fun k hk he => absurd he (hm k hk)⟩
        | some e =>
          rintro ⟨k, h2, rfl, h4, h5⟩
          simp only [Option.isSome_some, cond_true, Option.getD_some]
          cases hb : evB (at0 l k) (at0 l i) with
          | false =>
            simp only [Bool.not_false, cond_true]
            exact no fun ho => by have := ho.2.2 k h2 h4; rw [hb] at this; cases this
          | true =>
            simp only [Bool.not_true, cond_false]
            refine cont ⟨hF, hS, fun j hj he => ?_⟩
            rcases Nat.lt_trichotomy j k with h6 | h6 | h6
            · exact evB_trans ((hok k h2).2.2 j h6 (he.trans h4.symm)) (hok k h2).1 hb
            · subst h6; exact hb
            · exact absurd he (h5 j h6 hj)
      simp only [Before_r, chk_true]
      rcases Nat.eq_zero_or_pos i with h0 | h0
      · subst h0
        simp only [ilt_f (show ¬ (0 : Int) < ((0 : Nat) : Int) by omega), cond_false]
        exact last fun j hj => by omega
      · have e1 : IntKind.i64.wrap ((i : Int) - 1) = ((i - 1 : Nat) : Int) := by rw [i64i (by omega) (by omega)]; omega
        simp only [ilt_t (show (0 : Int) < ((i : Nat) : Int) by omega), cond_true, e1, rngl (show i - 1 < l.length by omega), chk_true, Int.toNat_natCast]
        by_cases hs : evS (at0 l (i - 1)) ≥ evS (at0 l i)
        · rw [show ile (at0 l i).2.2.2.2.1 (l.getD (i - 1) zApi_Event).2.2.2.2.1 = true from ile_t hs, cond_true]
          exact no fun ho => by have := ho.2.1 (i - 1) (by omega); omega
        · rw [show ile (at0 l i).2.2.2.2.1 (l.getD (i - 1) zApi_Event).2.2.2.2.1 = false from ile_f hs, cond_false]
          exact last fun j hj => by have : j = i - 1 := by omega
                                    subst this; omega
    · have h1 : ¬ (i : Int) < (l.length : Int) := by omega
      simp only [ilt_f h1, cond_false]
      exact ⟨rfl, .inr ⟨rfl, fun j hj => hok j (by omega)⟩⟩
  simp only [History_Check.r, History_Check.g, lt]
  obtain ⟨w1, ⟨w2, w3, hn⟩ | ⟨w2, hm⟩⟩ := key _ rfl
  · rw [w1, w2, w3, decide_eq_false hn]; rfl
  · rw [w1, w2, decide_eq_true hm]; rfl
end Go.Own

/- Keys, sorted, each once: what the program computes: plain. -/
set_option linter.unusedVariables false
namespace Go.Own
open Go.IntWalk

abbrev sx (s : ByteArray) : BL := s.data.toList
abbrev s0 : ByteArray := ⟨#[]⟩
/-- The first m elements, without those that are like the one ahead. -/
def ded (o : List ByteArray) : Nat → List ByteArray
  | 0 => []
  | m + 1 => if 0 < m ∧ sx (o.getD m s0) = sx (o.getD (m - 1) s0) then ded o m else ded o m ++ [o.getD m s0]
theorem ded_len (o : List ByteArray) : ∀ m, (ded o m).length ≤ m
  | 0 => Nat.le_refl _
  | m + 1 => by
    have := ded_len o m
    simp only [ded]
    split
    · omega
    · simp; omega
theorem ded_take (o : List ByteArray) : ∀ m, m ≤ o.length → (∀ j, 0 < j → j < m → sx (o.getD j s0) ≠ sx (o.getD (j - 1) s0)) → ded o m = o.take m
  | 0, _, _ => by simp [ded]
  | m + 1, hm, h => by
    have h1 : ¬ (0 < m ∧ sx (o.getD m s0) = sx (o.getD (m - 1) s0)) := fun hh => h m hh.1 (Nat.lt_succ_self m) hh.2
    simp only [ded, if_neg h1]
    rw [ded_take o m (by omega) fun j h2 h3 => h j h2 (by omega), List.take_add_one, getD_lt (show m < o.length by omega), List.getElem?_eq_getElem (show m < o.length by omega)]
    rfl

theorem ded_ok (o : List ByteArray) (hs : (o.map sx).Pairwise (· ≤ ·)) : ∀ m, m ≤ o.length →
    ((ded o m).map sx).Pairwise (· < ·) ∧ (∀ x, x ∈ (ded o m).map sx ↔ ∃ j, j < m ∧ sx (o.getD j s0) = x) ∧ ∀ x, x ∈ (ded o m).map sx → ∀ k, m ≤ k + 1 → k < o.length → x ≤ sx (o.getD k s0) := by
  have le : ∀ i j, i ≤ j → j < o.length → sx (o.getD i s0) ≤ sx (o.getD j s0) := by
    intro i j hij hj
    rcases Nat.eq_or_lt_of_le hij with h | h
    · subst h; exact List.le_refl _
    · have := List.pairwise_iff_getElem.1 hs i j (by simp; omega) (by simpa using hj) h
      rw [List.getElem_map, List.getElem_map] at this
      rw [getD_lt (show i < o.length by omega), getD_lt hj]
      exact this
  intro m
  induction m with
  | zero => intro _; refine ⟨List.Pairwise.nil, fun x => ⟨fun h => (by cases h), ?_⟩, fun x h => by cases h⟩
            rintro ⟨j, h, _⟩; omega
  | succ m ih =>
    intro hm
    obtain ⟨h1, h2, h3⟩ := ih (by omega)
    simp only [ded]
    split
    · rename_i hd
      refine ⟨h1, fun x => ?_, fun x hx k hk hko => h3 x hx k (by omega) hko⟩
      rw [h2]
      constructor
      · rintro ⟨j, hj, e⟩; exact ⟨j, by omega, e⟩
      · rintro ⟨j, hj, e⟩
        rcases Nat.lt_or_ge j m with h4 | h4
        · exact ⟨j, h4, e⟩
        · have : j = m := by omega
          subst this
          exact ⟨j - 1, by omega, by rw [← hd.2]; exact e⟩
    · rename_i hd
      have hlt : ∀ x, x ∈ (ded o m).map sx → x < sx (o.getD m s0) := by
        intro x hx
        obtain ⟨j, hj, e⟩ := (h2 x).1 hx
        have h5 : x ≤ sx (o.getD (m - 1) s0) := h3 x hx (m - 1) (by omega) (by omega)
        have h6 : sx (o.getD (m - 1) s0) < sx (o.getD m s0) := bl_lt_of_le (le _ _ (by omega) (by omega)) fun e => hd ⟨by omega, e.symm⟩
        exact bl_le_lt h5 h6
      rw [List.map_append]
      refine ⟨List.pairwise_append.2 ⟨h1, by simp, fun x hx y hy => ?_⟩, fun x => ?_, fun x hx k hk hko => ?_⟩
      · simp only [List.map_cons, List.map_nil, List.mem_singleton] at hy
        subst hy; exact hlt x hx
      · rw [List.mem_append, h2]
        simp only [List.map_cons, List.map_nil, List.mem_singleton]
        constructor
        · rintro (⟨j, hj, e⟩ | e)
          · exact ⟨j, by omega, e⟩
          · exact ⟨m, by omega, e.symm⟩
        · rintro ⟨j, hj, e⟩
          rcases Nat.lt_or_ge j m with h4 | h4
          · exact .inl ⟨j, h4, e⟩
          · have : j = m := by omega
            subst this; exact .inr e.symm
      · rcases List.mem_append.1 hx with h4 | h4
        · exact bl_le_trans (bl_le_of_lt (hlt x h4)) (le _ _ (by omega) hko)
        · simp only [List.map_cons, List.map_nil, List.mem_singleton] at h4
          subst h4; exact le _ _ (by omega) hko

/-! ### Compact -/
abbrev CompQ1 (o : List ByteArray) (b : Bool) (w : Bool × Nat × Slices_Compact_string_string.X1 × Slices_Compact_string_string.Y1 × Slices_Compact_string_string.U1 × Slices_Compact_string_string.V1) : Prop :=
  w.1 = true ∧ w.2.2.2.1.1.1 = b ∧ w.2.2.2.1.1.2.length = o.length ∧ w.2.2.1.2.2.1 = ((ded o o.length).length : Int) ∧ w.2.2.2.1.1.2.take (ded o o.length).length = ded o o.length

theorem set_take {α : Type} (c : List α) (i : Nat) (x : α) (h : i < c.length) : (c.set i x).take (i + 1) = c.take i ++ [x] := by
  rw [List.take_add_one, List.take_set_of_le (Nat.le_refl i)]
  simp [h]
theorem Compact_l1 (o : List ByteArray) (ho : o.length < 4611686018427387904) (b : Bool) (i0 : Nat) (h0 : 0 < i0) (hi : i0 < o.length) (hd : ded o (i0 + 1) = o.take i0) :
    ∀ w, w = Slices_Compact_string_string.l1 ((), (), (i0 : Int), (i0, o.length - i0), 1, ()) ((b, o), ()) → CompQ1 o b w := by
  intro w hw
  refine rounds_at (Q := CompQ1 o b) hw (fun x y => ∃ (k : Nat) (c : List ByteArray), 1 ≤ k ∧ i0 + k ≤ o.length ∧ c.length = o.length ∧ x = ((), (), ((ded o (i0 + k)).length : Int), (i0, o.length - i0), (k : Int), ()) ∧ y = ((b, c), ()) ∧
      c.take (ded o (i0 + k)).length = ded o (i0 + k) ∧ (ded o (i0 + k)).length + 1 ≤ i0 + k ∧ ∀ j, i0 + k ≤ j + 1 → c.getD j s0 = o.getD j s0) (fun x _ => (((o.length - i0 : Nat) : Int) - x.2.2.2.2.1).toNat)
    ⟨1, o, Nat.le_refl _, by omega, rfl, by rw [hd]; simp [Nat.min_eq_left (show i0 ≤ o.length by omega)], rfl, by rw [hd]; simp [Nat.min_eq_left (show i0 ≤ o.length by omega)], by rw [hd]; simp; omega, fun j hj => rfl⟩ (Nat.lt_succ_self _) ?_
  rintro x y R ⟨k, c, hk, hko, hcl, rfl, rfl, hct, hlen, hcd⟩ hR
  simp only [Slices_Compact_string_string.g1, lt]
  rcases Nat.lt_or_ge k (o.length - i0) with h | h
  · have h1 : (k : Int) < ((o.length - i0 : Nat) : Int) := by omega
    have e1 : IntKind.i64.wrap ((k : Int) - 1) = ((k - 1 : Nat) : Int) := by rw [i64i (by omega) (by omega)]; omega
    have r1 := rng h
    have r2 := rng (show k - 1 < o.length - i0 by omega)
    have g1 : c.getD (i0 + k) s0 = o.getD (i0 + k) s0 := hcd _ (by omega)
    have g2 : c.getD (i0 + (k - 1)) s0 = o.getD (i0 + k - 1) s0 := by rw [show i0 + (k - 1) = i0 + k - 1 by omega]; exact hcd _ (by omega)
    have r3 := rngl (l := c) (show (ded o (i0 + k)).length < c.length by omega)
    simp only [ilt_t h1, cond_true, Int.toNat_natCast, r1, e1, r2, r3, chk_true, g1, g2, eq_s, succ_i64 k (by omega), succ_i64 (ded o (i0 + k)).length (by omega)]
    by_cases hq : sx (o.getD (i0 + k) s0) = sx (o.getD (i0 + k - 1) s0)
    · have e2 : ded o (i0 + (k + 1)) = ded o (i0 + k) := by
        show ded o ((i0 + k) + 1) = _
        simp only [ded]; rw [if_pos ⟨by omega, hq⟩]
      rw [decide_eq_true hq]
      simp only [Bool.not_true, cond_false]
      exact hR _ _ ⟨k + 1, c, by omega, by omega, hcl, by rw [e2], rfl, by rw [e2]; exact hct, by rw [e2]; omega, fun j hj => hcd j (by omega)⟩ (by simp only []; omega)
    · have e2 : ded o (i0 + (k + 1)) = ded o (i0 + k) ++ [o.getD (i0 + k) s0] := by
        show ded o ((i0 + k) + 1) = _
        simp only [ded]; rw [if_neg (fun hh => hq hh.2)]
      have e3 : (ded o (i0 + (k + 1))).length = (ded o (i0 + k)).length + 1 := by rw [e2]; simp
      rw [decide_eq_false hq]
      simp only [Bool.not_false, cond_true]
      refine hR _ _ ⟨k + 1, c.set (ded o (i0 + k)).length (o.getD (i0 + k) s0), by omega, by omega, by simp [hcl], by rw [e3], rfl, ?_, by rw [e3]; omega, fun j hj => ?_⟩ (by simp only []; omega)
      · rw [e3, set_take _ _ _ (by omega), hct, e2]
      · have := hcd j (by omega)
        simp only [List.getD_eq_getElem?_getD] at this ⊢
        rw [List.getElem?_set_ne (by omega)]
        exact this
  · have h1 : ¬ (k : Int) < ((o.length - i0 : Nat) : Int) := by omega
    have e1 : i0 + k = o.length := by omega
    simp only [ilt_f h1, cond_false]
    rw [e1] at hct hlen ⊢
    exact ⟨rfl, rfl, hcl, rfl, hct⟩

abbrev CompQ (o : List ByteArray) (w : Bool × Nat × Slices_Compact_string_string.X0 × Slices_Compact_string_string.Y0 × Slices_Compact_string_string.U0 × Slices_Compact_string_string.V0) : Prop :=
  w.1 = true ∧ ((w.2.1 = 0 ∧ (w.2.2.2.2.2.1.2.drop w.2.2.2.2.1.1.1).take w.2.2.2.2.1.1.2 = ded o o.length) ∨ (w.2.1 = 1 ∧ w.2.2.2.1.1.2 = ded o o.length))
theorem over_take (c : List ByteArray) (n : Nat) (h : n ≤ c.length) (ys : List ByteArray) : (over c n ys).take n = c.take n := by
  unfold over
  rw [List.append_assoc, List.take_append_of_le_length (by simp; omega)]
  rw [List.take_take, Nat.min_self]
theorem Compact_r (b : Bool) (o : List ByteArray) (ho : o.length < 4611686018427387904) : Slices_Compact_string_string.r (b, o) = (true, ded o o.length) := by
  simp only [Slices_Compact_string_string.r, Slices_Compact_string_string.g, lt]
  by_cases h2 : o.length < 2
  · rw [ilt_t (show (o.length : Int) < 2 by omega), cond_true]
    have : ded o o.length = o := by rw [ded_take o _ (Nat.le_refl _) fun j h3 h4 => by omega]; simp
    rw [this]
  rw [ilt_f (show ¬ (o.length : Int) < 2 by omega), cond_false]
  have key : ∀ w, w = Slices_Compact_string_string.l0 ((), (), 1, ()) ((b, o), ()) → CompQ o w := by
    intro w hw
    refine rounds_at (Q := CompQ o) hw (fun x y => ∃ (i : Nat), 1 ≤ i ∧ i ≤ o.length ∧ x = ((), (), (i : Int), ()) ∧ y = ((b, o), ()) ∧ ∀ j, 0 < j → j < i → sx (o.getD j s0) ≠ sx (o.getD (j - 1) s0)) (fun x _ => ((o.length : Int) - x.2.2.1).toNat)
      ⟨1, Nat.le_refl _, by omega, rfl, rfl, fun j h3 h4 => by omega⟩ (Nat.lt_succ_self _) ?_
    rintro x y R ⟨i, hi, hio, rfl, rfl, hok⟩ hR
    simp only [Slices_Compact_string_string.g0, lt, Int.toNat_natCast]
    have hw := fun h hd => Compact_l1 o ho b i (by omega) h hd _ rfl
    revert hw
    generalize Slices_Compact_string_string.l1 ((), (), (i : Int), (i, o.length - i), 1, ()) ((b, o), ()) = w
    intro hw
    rcases Nat.lt_or_ge i o.length with h | h
    · have h1 : (i : Int) < (o.length : Int) := by omega
      have e1 : IntKind.i64.wrap ((i : Int) - 1) = ((i - 1 : Nat) : Int) := by rw [i64i (by omega) (by omega)]; omega
      simp only [ilt_t h1, e1, Int.toNat_natCast, rngl h, rngl (show i - 1 < o.length by omega), ile_t (show (0 : Int) ≤ (i : Int) by omega), ile_t (show (i : Int) ≤ (o.length : Int) by omega), ile_t (Int.le_refl _), Bool.and_self, cond_true, chk_true, eq_s, succ_i64 i (by omega)]
      by_cases hq : sx (o.getD i s0) = sx (o.getD (i - 1) s0)
      · rw [decide_eq_true hq, cond_true]
        have hd : ded o (i + 1) = o.take i := by
          simp only [ded]
          rw [if_pos ⟨by omega, hq⟩]
          exact ded_take o i (by omega) hok
        obtain ⟨w1, w2, w3, w4, w5⟩ := hw h hd
        have hdl := ded_len o o.length
        have hov : (over w.2.2.2.1.1.2 (ded o o.length).length (List.replicate (o.length - (ded o o.length).length) s0)).length = o.length := by
          rw [over_length _ _ _ (by simp; omega), w3]
        simp only [w1, w3, w4, Int.toNat_natCast, hov, chk_true, ile_t (show (0 : Int) ≤ ((ded o o.length).length : Int) by omega), ile_t (show ((ded o o.length).length : Int) ≤ (o.length : Int) by omega), ile_t (Int.le_refl _), Bool.and_self]
        refine ⟨rfl, .inl ⟨rfl, ?_⟩⟩
        show ((over w.2.2.2.1.1.2 (ded o o.length).length (List.replicate (o.length - (ded o o.length).length) s0)).drop 0).take (ded o o.length).length = _
        rw [List.drop_zero, over_take _ _ (by omega), w5]
      · rw [decide_eq_false hq, cond_false]
        refine hR _ _ ⟨i + 1, by omega, by omega, rfl, rfl, fun j h3 h4 => ?_⟩ (by simp only []; omega)
        rcases Nat.lt_or_ge j i with h5 | h5
        · exact hok j h3 h5
        · have : j = i := by omega
          subst this; exact hq
    · have h1 : ¬ (i : Int) < (o.length : Int) := by omega
      simp only [ilt_f h1, cond_false]
      refine ⟨rfl, .inr ⟨rfl, ?_⟩⟩
      show o = _
      rw [ded_take o _ (Nat.le_refl _) fun j h3 h4 => hok j h3 (by omega)]; simp
  obtain ⟨w1, ⟨w2, w3⟩ | ⟨w2, w3⟩⟩ := key _ rfl
  · rw [w1, w2, w3]; rfl
  · rw [w1, w2, w3]; rfl
end Go.Own

/- Keys, sorted, each once: the program and the reference agree: plain. -/
set_option linter.unusedVariables false
namespace Go.Own
open Go.IntWalk

abbrev evK (e : Api_Event) : ByteArray := e.2.2.1
/-- Keys in strict order, just those of the first i events. -/
def KeysOf (l : List Api_Event) (i : Nat) (o : List ByteArray) : Prop :=
  (o.map sx).Pairwise (· < ·) ∧ ∀ x, x ∈ o.map sx ↔ ∃ j, j < i ∧ sx (evK (at0 l j)) = x
theorem map_inj {a b : List ByteArray} (h : a.map sx = b.map sx) : a = b := by
  induction a generalizing b with
  | nil => cases b with
    | nil => rfl
    | cons y b => cases h
  | cons x a ih => cases b with
    | nil => cases h
    | cons y b =>
      simp only [List.map_cons, List.cons.injEq] at h
      rw [bytes_inj h.1, ih h.2]
theorem KeysOf.unique {l : List Api_Event} {i : Nat} {a b : List ByteArray} (h : KeysOf l i a) (k : KeysOf l i b) : a = b :=
  map_inj (strict_unique h.1 k.1 fun x => (h.2 x).trans (k.2 x).symm)

theorem take_get {α β : Type} (l : List α) (f : α → β) (i : Nat) (d : α) (h : i < l.length) : (l.take (i + 1)).map f = (l.take i).map f ++ [f (l.getD i d)] := by
  rw [List.take_add_one, List.getElem?_eq_getElem h, getD_lt h, List.map_append]
  rfl

abbrev KeysQ (l : List Api_Event) (w : Bool × Nat × History_Keys.X0 × History_Keys.Y0 × History_Keys.U0 × History_Keys.V0) : Prop :=
  w.1 = true ∧ w.2.2.2.1.1.2 = l.map evK
theorem Keys_r (l : List Api_Event) (hl : l.length ≤ 1000) : ∃ o, History_Keys.r l = (true, o) ∧ KeysOf l l.length o ∧ o.length ≤ l.length := by
  have key : ∀ w, w = History_Keys.l0 ((), (), l, (l.length : Int), 0, ()) ((true, []), ()) → KeysQ l w := by
    intro w hw
    refine rounds_at (Q := KeysQ l) hw (fun x y => ∃ i : Nat, i ≤ l.length ∧ x = ((), (), l, (l.length : Int), (i : Int), ()) ∧ y.1.2 = (l.take i).map evK) (fun x _ => ((l.length : Int) - x.2.2.2.2.1).toNat) ⟨0, by omega, rfl, rfl⟩ (Nat.lt_succ_self _) ?_
    rintro x ⟨⟨b, o⟩, u⟩ R ⟨i, hi, rfl, ho⟩ hR
    simp only [] at ho
    subst ho
    simp only [History_Keys.g0, lt, Int.toNat_natCast]
    rcases Nat.lt_or_ge i l.length with h | h
    · simp only [ilt_t (show (i : Int) < (l.length : Int) by omega), cond_true, rngl h, chk_true, succ_i64 i (by omega)]
      rw [nle_t (by simp; omega), chk_true]
      exact hR _ _ ⟨i + 1, by omega, rfl, (take_get l evK i _ h).symm⟩ (by simp only []; omega)
    · simp only [ilt_f (show ¬ (i : Int) < (l.length : Int) by omega), cond_false]
      refine ⟨rfl, ?_⟩
      show (l.take i).map evK = _
      rw [List.take_of_length_le h]
  simp only [History_Keys.r, History_Keys.g, lt]
  obtain ⟨w1, w2⟩ := key _ rfl
  have hs : (sortS (l.map evK)).length = l.length := by simp [sortS, List.length_mergeSort]
  rw [w1, w2, nlt_t (by simp; omega), Compact_r _ _ (by omega)]
  refine ⟨ded (sortS (l.map evK)) (sortS (l.map evK)).length, rfl, ?_⟩
  have e1 : (sortS (l.map evK)).map sx = ((l.map evK).map sx).mergeSort fun x y => decide (x ≤ y) := by
    unfold sortS
    rw [List.map_map]
    conv => rhs; rw [← List.map_id (List.mergeSort _ _)]
    congr 1
  obtain ⟨h1, h2, _⟩ := ded_ok (sortS (l.map evK)) (by rw [e1]; exact sort_pw _) _ (Nat.le_refl _)
  refine ⟨⟨h1, fun x => ?_⟩, by have := ded_len (sortS (l.map evK)) (sortS (l.map evK)).length; omega⟩
  rw [h2]
  have mem : (∃ j, j < (sortS (l.map evK)).length ∧ sx ((sortS (l.map evK)).getD j s0) = x) ↔ x ∈ (sortS (l.map evK)).map sx := by
    rw [List.mem_map]
    constructor
    · rintro ⟨j, hj, e⟩
      exact ⟨_, List.getElem_mem hj, by rw [← e, getD_lt hj]⟩
    · rintro ⟨s, hs, e⟩
      obtain ⟨j, hj, rfl⟩ := List.mem_iff_getElem.1 hs
      exact ⟨j, hj, by rw [getD_lt hj]; exact e⟩
  rw [mem, e1, sort_mem, List.map_map, List.mem_map]
  constructor
  · rintro ⟨e, he, rfl⟩
    obtain ⟨j, hj, rfl⟩ := List.mem_iff_getElem.1 he
    exact ⟨j, hj, by show sx (evK (l.getD j zApi_Event)) = _; rw [getD_lt hj]; rfl⟩
  · rintro ⟨j, hj, rfl⟩
    exact ⟨l[j], List.getElem_mem hj, by show _ = sx (evK (l.getD j zApi_Event)); rw [getD_lt hj]; rfl⟩

/-! ### The reference -/
abbrev rKeysQ1 (l : List Api_Event) (i : Nat) (b : Bool) (o : List ByteArray) (w : Bool × Nat × Sacristyref28_Keys.X1 × Sacristyref28_Keys.Y1 × Sacristyref28_Keys.U1 × Sacristyref28_Keys.V1) : Prop :=
  ∃ k : Nat, k ≤ o.length ∧ w.1 = true ∧ w.2.2.1 = (l, (), (), (i : Int), (k : Int), ()) ∧ w.2.2.2.1 = ((b, o), ()) ∧ (∀ j, j < k → sx (o.getD j s0) < sx (evK (at0 l i))) ∧ (k < o.length → ¬ sx (o.getD k s0) < sx (evK (at0 l i)))
theorem rKeys_l1 (l : List Api_Event) (i : Nat) (hi : i < l.length) (b : Bool) (o : List ByteArray) (ho : o.length ≤ 1000) :
    ∀ w, w = Sacristyref28_Keys.l1 (l, (), (), (i : Int), 0, ()) ((b, o), ()) → rKeysQ1 l i b o w := by
  intro w hw
  refine rounds_at (Q := rKeysQ1 l i b o) hw (fun x y => y = ((b, o), ()) ∧ ∃ k : Nat, k ≤ o.length ∧ x = (l, (), (), (i : Int), (k : Int), ()) ∧ ∀ j, j < k → sx (o.getD j s0) < sx (evK (at0 l i))) (fun x _ => ((o.length : Int) - x.2.2.2.2.1).toNat)
    ⟨rfl, 0, by omega, rfl, fun j hj => by omega⟩ (Nat.lt_succ_self _) ?_
  rintro x y R ⟨rfl, k, hk, rfl, hok⟩ hR
  simp only [Sacristyref28_Keys.g1, lt, Int.toNat_natCast]
  rcases Nat.lt_or_ge k o.length with h | h
  · simp only [ilt_t (show (k : Int) < (o.length : Int) by omega), cond_true, rngl h, rngl hi, chk_true, bytesLess_s, succ_i64 k (by omega)]
    by_cases hq : sx (o.getD k s0) < sx (evK (at0 l i))
    · rw [decide_eq_true hq, cond_true]
      refine hR _ _ ⟨rfl, k + 1, by omega, rfl, fun j hj => ?_⟩ (by simp only []; omega)
      rcases Nat.lt_or_ge j k with h2 | h2
      · exact hok j h2
      · have : j = k := by omega
        subst this; exact hq
    · rw [decide_eq_false hq, cond_false]
      exact ⟨k, hk, rfl, rfl, rfl, hok, fun _ => hq⟩
  · simp only [ilt_f (show ¬ (k : Int) < (o.length : Int) by omega), cond_false]
    exact ⟨k, hk, rfl, rfl, rfl, hok, fun hh => by omega⟩

/-- What is put between. -/
theorem put_keys {o : List ByteArray} {k : Nat} {s : ByteArray} (hk : k ≤ o.length) (ho : (o.map sx).Pairwise (· < ·)) (h1 : ∀ j, j < k → sx (o.getD j s0) < sx s) (h2 : k < o.length → sx s < sx (o.getD k s0)) :
    ((o.take k ++ [s] ++ o.drop k).map sx).Pairwise (· < ·) ∧ ∀ x, x ∈ (o.take k ++ [s] ++ o.drop k).map sx ↔ x ∈ o.map sx ∨ x = sx s := by
  have hl : ∀ x, x ∈ (o.take k).map sx → x < sx s := by
    intro x hx
    obtain ⟨t, ht, rfl⟩ := List.mem_map.1 hx
    obtain ⟨j, hj, rfl⟩ := List.mem_iff_getElem.1 ht
    have hj' : j < k := by simp at hj; omega
    have := h1 j hj'
    rw [getD_lt (show j < o.length by omega)] at this
    simpa using this
  have hr : ∀ x, x ∈ (o.drop k).map sx → sx s < x := by
    intro x hx
    obtain ⟨t, ht, rfl⟩ := List.mem_map.1 hx
    obtain ⟨j, hj, rfl⟩ := List.mem_iff_getElem.1 ht
    have hj' : k + j < o.length := by simp at hj; omega
    have h3 := h2 (by omega)
    rw [getD_lt (show k < o.length by omega)] at h3
    rw [List.getElem_drop]
    rcases Nat.eq_zero_or_pos j with h0 | h0
    · subst h0; simpa using h3
    · have := List.pairwise_iff_getElem.1 ho k (k + j) (by simp; omega) (by simp; omega) (by omega)
      rw [List.getElem_map, List.getElem_map] at this
      exact bl_trans h3 this
  have hsp : o.map sx = (o.take k).map sx ++ (o.drop k).map sx := by rw [← List.map_append, List.take_append_drop]
  rw [hsp] at ho
  obtain ⟨p1, p2, p3⟩ := List.pairwise_append.1 ho
  rw [List.map_append, List.map_append]
  refine ⟨List.pairwise_append.2 ⟨List.pairwise_append.2 ⟨p1, by simp, fun x hx y hy => ?_⟩, p2, fun x hx y hy => ?_⟩, fun x => ?_⟩
  · simp only [List.map_cons, List.map_nil, List.mem_singleton] at hy
    subst hy; exact hl x hx
  · rcases List.mem_append.1 hx with h4 | h4
    · exact p3 x h4 y hy
    · simp only [List.map_cons, List.map_nil, List.mem_singleton] at h4
      subst h4; exact hr y hy
  · rw [hsp]
    simp only [List.mem_append, List.map_cons, List.map_nil, List.mem_singleton]
    constructor
    · rintro ((h | h) | h)
      · exact .inl (.inl h)
      · exact .inr h
      · exact .inl (.inr h)
    · rintro ((h | h) | h)
      · exact .inl (.inl h)
      · exact .inr h
      · exact .inl (.inr h)

abbrev rKeysQ (l : List Api_Event) (w : Bool × Nat × Sacristyref28_Keys.X0 × Sacristyref28_Keys.Y0 × Sacristyref28_Keys.U0 × Sacristyref28_Keys.V0) : Prop :=
  w.1 = true ∧ KeysOf l l.length w.2.2.2.1.1.2
theorem rKeys_r (l : List Api_Event) (hl : l.length ≤ 1000) : ∃ o, Sacristyref28_Keys.r l = (true, o) ∧ KeysOf l l.length o := by
  have key : ∀ w, w = Sacristyref28_Keys.l0 (l, (), (), 0, ()) ((true, []), ()) → rKeysQ l w := by
    intro w hw
    refine rounds_at (Q := rKeysQ l) hw (fun x y => ∃ i : Nat, i ≤ l.length ∧ x = (l, (), (), (i : Int), ()) ∧ KeysOf l i y.1.2 ∧ y.1.2.length ≤ i) (fun x _ => ((l.length : Int) - x.2.2.2.1).toNat)
      ⟨0, by omega, rfl, ⟨List.Pairwise.nil, fun x => ⟨fun h => (by cases h), by rintro ⟨j, h, _⟩; omega⟩⟩, Nat.le_refl _⟩ (Nat.lt_succ_self _) ?_
    rintro x ⟨⟨b, o⟩, u⟩ R ⟨i, hi, rfl, ⟨hpw, hmem⟩, hlen⟩ hR
    simp only [] at hpw hmem hlen
    simp only [Sacristyref28_Keys.g0, lt, Int.toNat_natCast]
    rcases Nat.lt_or_ge i l.length with h | h
    · have hw := rKeys_l1 l i h b o (by omega) _ rfl
      revert hw
      generalize Sacristyref28_Keys.l1 (l, (), (), (i : Int), 0, ()) ((b, o), ()) = w
      rintro ⟨k, hk, w1, w2, w3, hlt, hge⟩
      have ins : sx (evK (at0 l i)) ∉ o.map sx → (k < o.length → sx (evK (at0 l i)) < sx (o.getD k s0)) → rKeysQ l (R (l, (), (), ((i + 1 : Nat) : Int), ()) ((((o.take k).isEmpty && false) && ((o.drop k).take (o.length - k)).isEmpty, o.take k ++ [evK (at0 l i)] ++ (o.drop k).take (o.length - k)), ())) := by
        intro hno hgt
        have e : (o.drop k).take (o.length - k) = o.drop k := List.take_of_length_le (by simp)
        rw [e]
        obtain ⟨q1, q2⟩ := put_keys hk hpw hlt hgt
        refine hR _ _ ⟨i + 1, by omega, rfl, ⟨q1, fun x => ?_⟩, by simp; omega⟩ (by simp only []; omega)
        simp only []
        rw [q2, hmem]
        constructor
        · rintro (⟨j, hj, e⟩ | e)
          · exact ⟨j, by omega, e⟩
          · exact ⟨i, by omega, e.symm⟩
        · rintro ⟨j, hj, e⟩
          rcases Nat.lt_or_ge j i with h4 | h4
          · exact .inl ⟨j, h4, e⟩
          · have : j = i := by omega
            subst this; exact .inr e.symm
      have b1 : nle ((2 * (0 + (o.take k).length) + 512) * 16) 70368744177664 = true := nle_t (by simp; omega)
      have b2 : nle ((2 * ((o.take k).length + 1) + 512) * 16) 70368744177664 = true := nle_t (by simp; omega)
      have b3 : nle ((2 * ((o.take k ++ [evK (at0 l i)]).length + ((o.drop k).take (o.length - k)).length) + 512) * 16) 70368744177664 = true := nle_t (by simp; omega)
      have c1 : ile (0 : Int) (k : Int) = true := ile_t (by omega)
      have c2 : ile (k : Int) (o.length : Int) = true := ile_t (by omega)
      have c3 : ile (o.length : Int) (o.length : Int) = true := ile_t (Int.le_refl _)
      simp only [ilt_t (show (i : Int) < (l.length : Int) by omega), cond_true, w1, w2, w3, Int.toNat_natCast, chk_true, rngl h, succ_i64 i (by omega), b1, b2, b3, c1, c2, c3, Bool.and_self, eq_s]
      rcases Nat.lt_or_ge k o.length with hko | hko
      · have hmk : sx (o.getD k s0) ∈ o.map sx := List.mem_map.2 ⟨_, List.getElem_mem hko, by rw [getD_lt hko]⟩
        simp only [ilt_t (show (k : Int) < (o.length : Int) by omega), cond_true, Bool.and_self, chk_true]
        by_cases hq : sx (o.getD k s0) = sx (evK (at0 l i))
        · rw [decide_eq_true hq, cond_true]
          refine hR _ _ ⟨i + 1, by omega, rfl, ⟨hpw, fun x => ?_⟩, by simp only []; omega⟩ (by simp only []; omega)
          simp only []
          rw [hmem]
          constructor
          · rintro ⟨j, hj, e⟩; exact ⟨j, by omega, e⟩
          · rintro ⟨j, hj, e⟩
            rcases Nat.lt_or_ge j i with h4 | h4
            · exact ⟨j, h4, e⟩
            · have : j = i := by omega
              subst this
              exact (hmem x).1 (by rw [← e, ← hq]; exact hmk)
        · rw [decide_eq_false hq, cond_false]
          have hgt : sx (evK (at0 l i)) < sx (o.getD k s0) := by
            rcases bl_tri (sx (o.getD k s0)) (sx (evK (at0 l i))) with h4 | h4 | h4
            · exact absurd h4 (hge hko)
            · exact absurd h4 hq
            · exact h4
          refine ins (fun hm => ?_) fun _ => hgt
          obtain ⟨t, ht, e⟩ := List.mem_map.1 hm
          obtain ⟨j, hj, rfl⟩ := List.mem_iff_getElem.1 ht
          rcases Nat.lt_trichotomy j k with h5 | h5 | h5
          · have := hlt j h5
            rw [getD_lt hj, e] at this
            exact bl_irrefl _ this
          · subst h5; rw [getD_lt hj] at hq; exact hq e
          · have := List.pairwise_iff_getElem.1 hpw k j (by simpa using hko) (by simpa using hj) h5
            rw [List.getElem_map, List.getElem_map, e] at this
            rw [getD_lt hko] at hgt
            exact bl_irrefl _ (bl_trans this hgt)
      · simp only [ilt_f (show ¬ (k : Int) < (o.length : Int) by omega), cond_false]
        refine ins (fun hm => ?_) fun hh => by omega
        obtain ⟨t, ht, e⟩ := List.mem_map.1 hm
        obtain ⟨j, hj, rfl⟩ := List.mem_iff_getElem.1 ht
        have := hlt j (by omega)
        rw [getD_lt hj, e] at this
        exact bl_irrefl _ this
    · simp only [ilt_f (show ¬ (i : Int) < (l.length : Int) by omega), cond_false]
      have : i = l.length := by omega
      subst this
      exact ⟨rfl, hpw, hmem⟩
  simp only [Sacristyref28_Keys.r, Sacristyref28_Keys.g, lt]
  obtain ⟨w1, w2⟩ := key _ rfl
  rw [w1]
  exact ⟨_, rfl, w2⟩

/-! ### Same -/
theorem Same22_r (a : List ByteArray) (ha : a.length ≤ 1000) : Sacristyref22_Same.r a a = (true, true) := by
  have key : ∀ w, w = Sacristyref22_Same.l0 (a, a, false, 0, ()) () → w.1 = true ∧ w.2.1 = 1 := by
    intro w hw
    refine rounds_at (Q := fun w => w.1 = true ∧ w.2.1 = 1) hw (fun x y => ∃ i : Nat, i ≤ a.length ∧ x = (a, a, false, (i : Int), ())) (fun x _ => ((a.length : Int) - x.2.2.2.1).toNat) ⟨0, by omega, rfl⟩ (Nat.lt_succ_self _) ?_
    rintro x y R ⟨i, hi, rfl⟩ hR
    simp only [Sacristyref22_Same.g0, lt, Int.toNat_natCast]
    rcases Nat.lt_or_ge i a.length with h | h
    · simp only [ilt_t (show (i : Int) < (a.length : Int) by omega), cond_true, rngl h, chk_true, succ_i64 i (by omega), beq_self_eq_true, Bool.not_true, cond_false]
      exact hR _ _ ⟨i + 1, by omega, rfl⟩ (by simp only []; omega)
    · simp only [ilt_f (show ¬ (i : Int) < (a.length : Int) by omega), cond_false]
      exact ⟨trivial, by first | trivial | rfl⟩
  simp only [Sacristyref22_Same.r, Sacristyref22_Same.g, lt, bne_self_eq_false, cond_false]
  obtain ⟨w1, w2⟩ := key _ rfl
  rw [w1, w2]; rfl
end Go.Own

/- The events of a key that count: the program and the reference agree: plain. -/
set_option linter.unusedVariables false
namespace Go.Own
open Go.IntWalk

def evD (b : ByteArray) (e : Api_Event) : Bool := ((e.2.1 == 3) && !evM e) || (((e.2.2.2.2.2.2.1.2.1 != 0) && (e.2.2.2.2.2.2.1.1 == 0)) || !(e.2.2.1.toList == b.toList))
abbrev evP (b : ByteArray) (e : Api_Event) : Bool := !evD b e
theorem evP_t {b : ByteArray} {e : Api_Event} (h : evD b e = false) : evP b e = true := by show (!evD b e) = true; rw [h]; rfl
theorem evP_f {b : ByteArray} {e : Api_Event} (h : evD b e = true) : evP b e = false := by show (!evD b e) = false; rw [h]; rfl
theorem Of1_r (e : Api_Event) (b : ByteArray) : History_Of_1.r e b = (true, evD b e, b) := by
  unfold History_Of_1.r History_Of_1.g evD; simp only [lt, Must_r]
  cases (e.2.1 == 3) <;> cases evM e <;> cases (e.2.2.2.2.2.2.1.2.1 != 0) <;> cases (e.2.2.2.2.2.2.1.1 == 0) <;> cases (e.2.2.1.toList == b.toList) <;> rfl

abbrev IdxQ (s : List Api_Event) (b : ByteArray) (w : Bool × Nat × Slices_IndexFunc_api_Event_api_Event.X0 × Slices_IndexFunc_api_Event_api_Event.Y0 × Slices_IndexFunc_api_Event_api_Event.U0 × Slices_IndexFunc_api_Event_api_Event.V0) : Prop :=
  w.1 = true ∧ ((w.2.1 = 0 ∧ ∃ k : Nat, k < s.length ∧ w.2.2.2.2.1.1 = (k : Int) ∧ w.2.2.2.2.2.1 = b ∧ evD b (at0 s k) = true ∧ ∀ j, j < k → evD b (at0 s j) = false) ∨ (w.2.1 = 1 ∧ w.2.2.2.1.1 = b ∧ ∀ j, j < s.length → evD b (at0 s j) = false))
theorem Idx_r (s : List Api_Event) (b : ByteArray) (hs : s.length ≤ 1000) :
    (∃ k : Nat, k < s.length ∧ Slices_IndexFunc_api_Event_api_Event.r s b = (true, (k : Int), b) ∧ evD b (at0 s k) = true ∧ ∀ j, j < k → evD b (at0 s j) = false) ∨
    (Slices_IndexFunc_api_Event_api_Event.r s b = (true, -1, b) ∧ ∀ j, j < s.length → evD b (at0 s j) = false) := by
  have key : ∀ w, w = Slices_IndexFunc_api_Event_api_Event.l0 (s, (), 0, (s.length : Int), 0, ()) (b, ()) → IdxQ s b w := by
    intro w hw
    refine rounds_at (Q := IdxQ s b) hw (fun x y => y = (b, ()) ∧ ∃ i : Nat, i ≤ s.length ∧ (∃ z, x = (s, (), z, (s.length : Int), (i : Int), ())) ∧ ∀ j, j < i → evD b (at0 s j) = false) (fun x _ => ((s.length : Int) - x.2.2.2.2.1).toNat)
      ⟨rfl, 0, by omega, ⟨_, rfl⟩, fun j hj => by omega⟩ (Nat.lt_succ_self _) ?_
    rintro x y R ⟨rfl, i, hi, ⟨z, rfl⟩, hok⟩ hR
    simp only [Slices_IndexFunc_api_Event_api_Event.g0, lt, Int.toNat_natCast]
    rcases Nat.lt_or_ge i s.length with h | h
    · simp only [ilt_t (show (i : Int) < (s.length : Int) by omega), cond_true, rngl h, chk_true, Of1_r, succ_i64 i (by omega)]
      cases hd : evD b (at0 s i) with
      | true =>
        simp only [cond_true]
        exact ⟨rfl, .inl ⟨rfl, i, h, rfl, rfl, hd, hok⟩⟩
      | false =>
        simp only [cond_false]
        refine hR _ _ ⟨rfl, i + 1, by omega, ⟨_, rfl⟩, fun j hj => ?_⟩ (by simp only []; omega)
        rcases Nat.lt_or_ge j i with h2 | h2
        · exact hok j h2
        · have : j = i := by omega
          subst this; exact hd
    · simp only [ilt_f (show ¬ (i : Int) < (s.length : Int) by omega), cond_false]
      exact ⟨rfl, .inr ⟨rfl, rfl, fun j hj => hok j (by omega)⟩⟩
  simp only [Slices_IndexFunc_api_Event_api_Event.r, Slices_IndexFunc_api_Event_api_Event.g, lt]
  obtain ⟨w1, ⟨w2, k, hk, w3, w4, hd, hok⟩ | ⟨w2, w3, hok⟩⟩ := key _ rfl
  · exact .inl ⟨k, hk, by rw [w1, w2, w3, w4]; rfl, hd, hok⟩
  · exact .inr ⟨by rw [w1, w2, w3]; rfl, hok⟩

theorem filter_take (p : Api_Event → Bool) (l : List Api_Event) (i : Nat) (h : i < l.length) : (l.take (i + 1)).filter p = (l.take i).filter p ++ bif p (at0 l i) then [at0 l i] else [] := by
  rw [List.take_add_one, List.getElem?_eq_getElem h, List.filter_append]
  have : at0 l i = l[i] := getD_lt h
  rw [this]
  cases hp : p l[i] <;> simp [hp]
theorem filter_all (p : Api_Event → Bool) (l : List Api_Event) (i : Nat) (hi : i ≤ l.length) (h : ∀ j, j < i → p (at0 l j) = true) : (l.take i).filter p = l.take i := by
  rw [List.filter_eq_self]
  intro e he
  obtain ⟨j, hj, rfl⟩ := List.mem_iff_getElem.1 he
  have hj' : j < i := by simp at hj; omega
  have := h j hj'
  have e1 : at0 l j = l[j] := getD_lt (by omega)
  rw [e1] at this
  simpa using this

abbrev DelQ (l : List Api_Event) (b : ByteArray) (w : Bool × Nat × Slices_DeleteFunc_api_Event_api_Event_1.X0 × Slices_DeleteFunc_api_Event_api_Event_1.Y0 × Slices_DeleteFunc_api_Event_api_Event_1.U0 × Slices_DeleteFunc_api_Event_api_Event_1.V0) : Prop :=
  w.1 = true ∧ w.2.2.2.1.1.2.length = l.length ∧ w.2.2.1.2.2.2.1 = ((l.filter (evP b)).length : Int) ∧ w.2.2.2.1.1.2.take (l.filter (evP b)).length = l.filter (evP b)
theorem Del_l0 (l : List Api_Event) (hl : l.length ≤ 1000) (nl : Bool) (b : ByteArray) (k : Nat) (hk : k < l.length) (hd : evD b (at0 l k) = true) (hok : ∀ j, j < k → evD b (at0 l j) = false) :
    ∀ w, w = Slices_DeleteFunc_api_Event_api_Event_1.l0 ((), (), (), (k : Int), ((k + 1 : Nat) : Int), ()) ((nl, l), b, ()) → DelQ l b w := by
  intro w hw
  have hf : (l.take (k + 1)).filter (evP b) = l.take k := by
    rw [filter_take _ _ _ hk, filter_all _ _ _ (by omega) (fun j hj => evP_t (hok j hj)), evP_f hd]
    simp
  refine rounds_at (Q := DelQ l b) hw (fun x y => ∃ (j : Nat) (c : List Api_Event), j ≤ l.length ∧ x = ((), (), (), (((l.take j).filter (evP b)).length : Int), (j : Int), ()) ∧ y = ((nl, c), b, ()) ∧ c.length = l.length ∧ c.take ((l.take j).filter (evP b)).length = (l.take j).filter (evP b) ∧
      ((l.take j).filter (evP b)).length < j ∧ ∀ q, j ≤ q → at0 c q = at0 l q) (fun x _ => ((l.length : Int) - x.2.2.2.2.1).toNat)
    ⟨k + 1, l, by omega, by rw [hf]; simp [Nat.min_eq_left (Nat.le_of_lt hk)], rfl, rfl, by rw [hf]; simp [Nat.min_eq_left (Nat.le_of_lt hk)], by rw [hf]; simp; omega, fun q hq => rfl⟩ (Nat.lt_succ_self _) ?_
  rintro x y R ⟨j, c, hj, rfl, rfl, hcl, hct, hlt, hcd⟩ hR
  simp only [Slices_DeleteFunc_api_Event_api_Event_1.g0, lt, Int.toNat_natCast]
  rcases Nat.lt_or_ge j l.length with h | h
  · have g1 : c.getD j zApi_Event = at0 l j := hcd j (Nat.le_refl _)
    have hft := filter_take (evP b) l j h
    simp only [ilt_t (show (j : Int) < (c.length : Int) by omega), cond_true, rngl (l := c) (show j < c.length by omega), chk_true, g1, Of1_r, succ_i64 j (by omega), rngl (l := c) (show ((l.take j).filter (evP b)).length < c.length by omega), succ_i64 ((l.take j).filter (evP b)).length (by omega)]
    cases hdj : evD b (at0 l j) with
    | false =>
      have hp : evP b (at0 l j) = true := evP_t hdj
      rw [hp, cond_true] at hft
      simp only [Bool.not_false, cond_true]
      refine hR _ _ ⟨j + 1, c.set ((l.take j).filter (evP b)).length (at0 l j), by omega, by rw [hft]; simp, rfl, by simp [hcl], ?_, by rw [hft]; simp; omega, fun q hq => ?_⟩ (by simp only []; omega)
      · rw [hft, List.length_append, List.length_singleton, set_take _ _ _ (by omega), hct]
      · rw [← hcd q (by omega)]
        show (c.set _ _).getD q zApi_Event = c.getD q zApi_Event
        rw [List.getD_eq_getElem?_getD, List.getD_eq_getElem?_getD, List.getElem?_set_ne (by omega)]
    | true =>
      have hp : evP b (at0 l j) = false := evP_f hdj
      rw [hp, cond_false, List.append_nil] at hft
      simp only [Bool.not_true, cond_false]
      exact hR _ _ ⟨j + 1, c, by omega, by rw [hft], rfl, hcl, by rw [hft]; exact hct, by rw [hft]; omega, fun q hq => hcd q (by omega)⟩ (by simp only []; omega)
  · simp only [ilt_f (show ¬ (j : Int) < (c.length : Int) by omega), cond_false]
    have e : l.take j = l := List.take_of_length_le h
    rw [e] at hct ⊢
    exact ⟨rfl, hcl, rfl, hct⟩

theorem over_takeE (c : List Api_Event) (n : Nat) (h : n ≤ c.length) (ys : List Api_Event) : (over c n ys).take n = c.take n := by
  unfold over
  rw [List.append_assoc, List.take_append_of_le_length (by simp; omega)]
  rw [List.take_take, Nat.min_self]
theorem Of_r (l : List Api_Event) (key : ByteArray) (hl : l.length ≤ 1000) : History_Of.r l key = (true, l.filter (evP key)) := by
  simp only [History_Of.r, History_Of.g, lt]
  cases l with
  | nil =>
    simp only [List.isEmpty_nil, cond_true, Slices_DeleteFunc_api_Event_api_Event.r, Slices_DeleteFunc_api_Event_api_Event.g, lt]
    rcases Idx_r [] key (by simp) with ⟨k, hk, _⟩ | ⟨h1, _⟩
    · simp at hk
    · rw [h1]; rfl
  | cons e0 l0 =>
    generalize hL : e0 :: l0 = l at hl
    have hne : l.isEmpty = false := by subst hL; rfl
    simp only [hne, cond_false, Slices_Clone_api_Event_api_Event.r, Slices_Clone_api_Event_api_Event.g, lt, Bool.not_false, chk_true]
    rw [nle_t (by omega)]
    simp only [chk_true, Slices_DeleteFunc_api_Event_api_Event_1.r, Slices_DeleteFunc_api_Event_api_Event_1.g, lt]
    rcases Idx_r l key hl with ⟨k, hk, h1, hd, hok⟩ | ⟨h1, hok⟩
    · have hw := Del_l0 l hl false key k hk hd hok _ rfl
      rw [h1]
      simp only [succ_i64 k (by omega), chk_true, show ((k : Int) == -1) = false by rw [beq_eq_false_iff_ne]; omega, cond_false]
      revert hw
      generalize Slices_DeleteFunc_api_Event_api_Event_1.l0 ((), (), (), (k : Int), ((k + 1 : Nat) : Int), ()) ((false, l), key, ()) = w
      rintro ⟨w1, w2, w3, w4⟩
      have hfl : (l.filter (evP key)).length ≤ l.length := List.length_filter_le _ _
      have hov : (over w.2.2.2.1.1.2 (l.filter (evP key)).length (List.replicate (l.length - (l.filter (evP key)).length) zApi_Event)).length = l.length := by
        rw [over_length _ _ _ (by simp; omega), w2]
      simp only [w1, w2, w3, Int.toNat_natCast, hov, chk_true, ile_t (show (0 : Int) ≤ ((l.filter (evP key)).length : Int) by omega), ile_t (show ((l.filter (evP key)).length : Int) ≤ (l.length : Int) by omega), ile_t (Int.le_refl _), Bool.and_self, Nat.beq, cond_false]
      rw [over_takeE _ _ (by omega), w4]
    · rw [h1]
      have : l.filter (evP key) = l := by
        have := filter_all (evP key) l l.length (Nat.le_refl _) fun j hj => evP_t (hok j hj)
        simpa using this
      rw [this]
      rfl

/-! ### The reference -/
abbrev rOfQ (l : List Api_Event) (b : ByteArray) (w : Bool × Nat × Sacristyref28_Of.X0 × Sacristyref28_Of.Y0 × Sacristyref28_Of.U0 × Sacristyref28_Of.V0) : Prop :=
  w.1 = true ∧ w.2.2.2.1.1.2 = l.filter (evP b)
theorem rOf_r (l : List Api_Event) (key : ByteArray) (hl : l.length ≤ 1000) : Sacristyref28_Of.r l key = (true, l.filter (evP key)) := by
  have hk : ∀ w, w = Sacristyref28_Of.l0 (l, key, (), (), 0, ()) ((true, []), ()) → rOfQ l key w := by
    intro w hw
    refine rounds_at (Q := rOfQ l key) hw (fun x y => ∃ i : Nat, i ≤ l.length ∧ x = (l, key, (), (), (i : Int), ()) ∧ y.1.2 = (l.take i).filter (evP key)) (fun x _ => ((l.length : Int) - x.2.2.2.2.1).toNat) ⟨0, by omega, rfl, rfl⟩ (Nat.lt_succ_self _) ?_
    rintro x ⟨⟨b, o⟩, u⟩ R ⟨i, hi, rfl, ho⟩ hR
    simp only [] at ho
    subst ho
    simp only [Sacristyref28_Of.g0, lt, Int.toNat_natCast]
    rcases Nat.lt_or_ge i l.length with h | h
    · have hft := filter_take (evP key) l i h
      have hle : nle ((2 * (((l.take i).filter (evP key)).length + 1) + 512) * 120) 70368744177664 = true := nle_t (by have := List.length_filter_le (evP key) (l.take i); simp at this; omega)
      have yes : evD key (at0 l i) = false → ∀ z, rOfQ l key (R (l, key, (), (), ((i + 1 : Nat) : Int), ()) ((z, (l.take i).filter (evP key) ++ [at0 l i]), ())) := by
        intro hd z
        refine hR _ _ ⟨i + 1, by omega, rfl, ?_⟩ (by simp only []; omega)
        rw [hft, evP_t hd]; rfl
      have no : evD key (at0 l i) = true → rOfQ l key (R (l, key, (), (), ((i + 1 : Nat) : Int), ()) ((b, (l.take i).filter (evP key)), ())) := by
        intro hd
        refine hR _ _ ⟨i + 1, by omega, rfl, ?_⟩ (by simp only []; omega)
        rw [hft, evP_f hd]; simp
      have hdd : evD key (at0 l i) = (((at0 l i).2.1 == 3) && !evM (at0 l i) || ((((at0 l i).2.2.2.2.2.2.1.2.1 != 0) && ((at0 l i).2.2.2.2.2.2.1.1 == 0)) || !((at0 l i).2.2.1.toList == key.toList))) := rfl
      simp only [ilt_t (show (i : Int) < (l.length : Int) by omega), cond_true, rngl h, chk_true, rMust_r, succ_i64 i (by omega), hle]
      cases h0 : ((l.getD i zApi_Event).2.1 == 3) <;> cases hm : evM (l.getD i zApi_Event) <;> cases h1 : ((l.getD i zApi_Event).2.2.2.2.2.2.1.2.1 != 0) <;> cases h2 : ((l.getD i zApi_Event).2.2.2.2.2.2.1.1 == 0) <;> cases h3 : ((l.getD i zApi_Event).2.2.1.toList == key.toList) <;>
        simp only [cond_true, cond_false, Bool.not_true, Bool.not_false] <;> first | exact no (by rw [hdd, h0, hm, h1, h2, h3]; rfl) | exact yes (by rw [hdd, h0, hm, h1, h2, h3]; rfl) _
    · simp only [ilt_f (show ¬ (i : Int) < (l.length : Int) by omega), cond_false]
      refine ⟨rfl, ?_⟩
      show (l.take i).filter _ = _
      rw [List.take_of_length_le h]
  simp only [Sacristyref28_Of.r, Sacristyref28_Of.g, lt]
  obtain ⟨w1, w2⟩ := hk _ rfl
  rw [w1, w2]; rfl

theorem SameEv_r (a : List Api_Event) (ha : a.length ≤ 1000) : Sacristyref27_SameEvents.r a a = (true, true) := by
  have key : ∀ w, w = Sacristyref27_SameEvents.l0 (a, a, false, 0, ()) () → w.1 = true ∧ w.2.1 = 1 := by
    intro w hw
    refine rounds_at (Q := fun w => w.1 = true ∧ w.2.1 = 1) hw (fun x y => ∃ i : Nat, i ≤ a.length ∧ x = (a, a, false, (i : Int), ())) (fun x _ => ((a.length : Int) - x.2.2.2.1).toNat) ⟨0, by omega, rfl⟩ (Nat.lt_succ_self _) ?_
    rintro x y R ⟨i, hi, rfl⟩ hR
    simp only [Sacristyref27_SameEvents.g0, lt, Int.toNat_natCast]
    rcases Nat.lt_or_ge i a.length with h | h
    · simp only [ilt_t (show (i : Int) < (a.length : Int) by omega), cond_true, rngl h, chk_true, succ_i64 i (by omega), ile_t (show (0 : Int) ≤ (i : Int) by omega), ieq_self, bbeq_self, beq_self_eq_true, Bool.and_true, Bool.and_self, Bool.not_true, cond_false]
      exact hR _ _ ⟨i + 1, by omega, rfl⟩ (by simp only []; omega)
    · simp only [ilt_f (show ¬ (i : Int) < (a.length : Int) by omega), cond_false]
      exact ⟨trivial, by first | trivial | rfl⟩
  simp only [Sacristyref27_SameEvents.r, Sacristyref27_SameEvents.g, lt, bne_self_eq_false, cond_false]
  obtain ⟨w1, w2⟩ := key _ rfl
  rw [w1, w2]; rfl

abbrev FewQ (l : List Api_Event) (m : Int) (w : Bool × Nat × Sacristyref28_Few.X0 × Sacristyref28_Few.Y0 × Sacristyref28_Few.U0 × Sacristyref28_Few.V0) : Prop :=
  w.1 = true ∧ ((w.2.1 = 0 ∧ w.2.2.2.2.1.1 = false) ∨ (w.2.1 = 1 ∧ w.2.2.1.1 = l ∧ w.2.2.1.2.1 = m))
theorem Few_r (l : List Api_Event) (hl : l.length ≤ 9223372036854775807) (m : Int) : ∃ b, Sacristyref28_Few.r l m = (true, b) ∧ (b = true → (l.length : Int) ≤ m) := by
  have key : ∀ w, w = Sacristyref28_Few.l0 (l, m, false, 0, ()) () → FewQ l m w := by
    intro w hw
    refine rounds_at (Q := FewQ l m) hw (fun x y => ∃ i : Nat, i ≤ l.length ∧ x = (l, m, false, (i : Int), ())) (fun x _ => ((l.length : Int) - x.2.2.2.1).toNat) ⟨0, by omega, rfl⟩ (Nat.lt_succ_self _) ?_
    rintro x y R ⟨i, hi, rfl⟩ hR
    simp only [Sacristyref28_Few.g0, lt, Int.toNat_natCast]
    rcases Nat.lt_or_ge i l.length with h | h
    · simp only [ilt_t (show (i : Int) < (l.length : Int) by omega), cond_true, rngl h, chk_true, succ_i64 i (by omega)]
      have c := hR (l, m, false, ((i + 1 : Nat) : Int), ()) () ⟨i + 1, by omega, rfl⟩ (by simp only []; omega)
      cases ilt (i : Int) m <;> simp only [cond_true, cond_false]
      · exact ⟨rfl, .inr ⟨rfl, rfl, rfl⟩⟩
      cases ilt 40 ((l.getD i zApi_Event).2.2.1.size : Int) <;> simp only [cond_true, cond_false]
      · cases ilt 40 ((l.getD i zApi_Event).2.2.2.1.size : Int) <;> simp only [cond_true, cond_false]
        · cases ilt 40 ((l.getD i zApi_Event).2.2.2.2.2.2.1.2.2.1.size : Int) <;> simp only [cond_true, cond_false]
          · exact c
          · exact ⟨rfl, .inl ⟨rfl, rfl⟩⟩
        · exact ⟨rfl, .inl ⟨rfl, rfl⟩⟩
      · exact ⟨rfl, .inl ⟨rfl, rfl⟩⟩
    · simp only [ilt_f (show ¬ (i : Int) < (l.length : Int) by omega), cond_false]
      exact ⟨rfl, .inr ⟨rfl, rfl, rfl⟩⟩
  simp only [Sacristyref28_Few.r, Sacristyref28_Few.g, lt]
  obtain ⟨w1, ⟨w2, w3⟩ | ⟨w2, w3, w4⟩⟩ := key _ rfl
  · rw [w1, w2, w3]; exact ⟨false, rfl, fun h => by cases h⟩
  · rw [w1, w2, w3, w4]; exact ⟨_, rfl, fun h => ile_iff.1 h⟩
end Go.Own

/- The statements about histories: plain. -/
set_option linter.unusedVariables false
namespace Go.Own
open Go.IntWalk

abbrev kk : ByteArray := ⟨#[107]⟩
abbrev aw1 : Api_Event := (1, (1, (kk, (s0, (1, (3, ((0, (0, (s0, (false, ((0, (0, ())), ()))))), ())))))))
abbrev aw2 : Api_Event := (1, (3, (kk, (s0, (4, (0, ((0, (0, (s0, (false, ((0, (0, ())), ()))))), ())))))))
theorem aw_of : [aw1, aw2].filter (evP kk) = [aw1] := by
  have h1 : evP kk aw1 = true := evP_t (by
    show ((_ && _) || ((_ && _) || !(kk.toList == kk.toList))) = false
    have : (kk.toList == kk.toList) = true := beq_self_eq_true _
    rw [this]; rfl)
  have h2 : evP kk aw2 = false := evP_f (by
    show ((true && !false) || _) = true
    rfl)
  simp only [List.filter_cons, h1, h2, List.filter_nil]; rfl
set_option maxRecDepth 100000 in
theorem awake28 : Sacristylaw28_awake.r = (true, true) := by
  have c1 : History_Check.r [aw1, aw2] = (true, 0) := by kernel_rfl
  have c2 : History_Check.r [aw2, aw1] = (true, 1) := by kernel_rfl
  have c3 : History_Of.r [aw1, aw2] kk = (true, [aw1]) := by rw [Of_r _ _ (by simp), aw_of]
  obtain ⟨o, c4, ho, -⟩ := Keys_r [aw1, aw2] (by show 2 ≤ 1000; omega)
  have hk : KeysOf [aw1, aw2] [aw1, aw2].length [kk] := by
    refine ⟨by simp, fun x => ?_⟩
    simp only [List.map_cons, List.map_nil, List.mem_singleton]
    constructor
    · rintro rfl; exact ⟨0, by simp, rfl⟩
    · rintro ⟨j, hj, rfl⟩
      match j, hj with
      | 0, _ => rfl
      | 1, _ => rfl
  have := ho.unique hk
  subst this
  have c5 := Same22_r [kk] (by simp)
  have c6 : History_Before.r aw1 aw2 = (true, true) := by kernel_rfl
  have c7 : History_Before.r aw2 aw1 = (true, false) := by kernel_rfl
  have c8 : History_Must.r aw1 = (true, true) := by kernel_rfl
  show Sacristylaw28_awake.g chk (fun x => (true, x)) = _
  unfold Sacristylaw28_awake.g
  simp only [lt]
  rw [c1, c2, c3, c4, c5, c6, c7, c8]
  rfl

theorem ok_len {t : Ty} {l : List t.den} (h : Ty.ok (.sl t) l) : l.length ≤ 9223372036854775807 := by
  have : l.length ≤ maxLen := h.1
  exact this
namespace Sacristylaw28_HistoryOrders
theorem pure (a b : Api_Event) (ha : Ty.ok tApi_Event a) (hb : Ty.ok tApi_Event b) : r a b = (true, true) := by
  obtain ⟨f, hf, _⟩ := Few_r [a, b] (by simp) 2
  simp only [r, g, lt, hf, awake28, Before_r, rBefore_r, Must_r, rMust_r, beq_self_eq_true, chk_true]
  cases f <;> rfl
end Sacristylaw28_HistoryOrders
namespace Sacristylaw28_HistoryChecks
theorem pure (l : List Api_Event) (key : ByteArray) (hl : Ty.ok (.sl tApi_Event) l) (hk : Ty.ok .str key) : r l key = (true, true) := by
  have hl' := ok_len hl
  obtain ⟨f, hf, hfl⟩ := Few_r l hl' 20
  simp only [r, g, lt, hf, awake28, chk_true]
  cases f with
  | false => rfl
  | true =>
    have h20 : l.length ≤ 20 := by have := hfl rfl; omega
    obtain ⟨o1, k1, ho1, hlen1⟩ := Keys_r l (by omega)
    obtain ⟨o2, k2, ho2⟩ := rKeys_r l (by omega)
    have := ho1.unique ho2
    subst this
    have hol : o1.length ≤ 1000 := by omega
    have hfl' := List.length_filter_le (evP key) l
    classical
    simp only [Bool.not_true, cond_false, Check_r l hl', May_r l hl', k1, k2, Same22_r o1 hol, Of_r l key (by omega), rOf_r l key (by omega), SameEv_r (l.filter (evP key)) (by omega), chk_true]
    cases ilt 40 (key.size : Int) <;> cases decide (evMay l) <;> rfl
end Sacristylaw28_HistoryChecks
end Go.Own

/- Before is a strict order: plain. -/
set_option linter.unusedVariables false
namespace Go.Own
open Go.IntWalk
namespace Sacristylaw28_HistoryStrict

theorem mono {l : List Api_Event} (h : evMay l) : ∀ {j i : Nat}, i < j → j < l.length → evS (at0 l i) < evS (at0 l j) := by
  intro j
  induction j with
  | zero => intro i h1; omega
  | succ j ih =>
    intro i h1 h2
    have h3 := (h (j + 1) h2).2.1 j rfl
    rcases Nat.lt_or_ge i j with h4 | h4
    · have := ih h4 (by omega); omega
    · have : i = j := by omega
      subst this; exact h3
theorem irr {e : Api_Event} (h : evF e = true) : evB e e = false := by
  simp only [evF, Bool.and_eq_true, ile_iff, Bool.or_eq_true, beq_iff_eq] at h
  cases hb : evB e e with
  | false => rfl
  | true =>
    simp only [evB, Bool.and_eq_true, bne_iff_ne, ilt_iff] at hb
    omega
theorem anti {a b : Api_Event} (hb : evF b = true) (h : evS a < evS b) : evB b a = false := by
  simp only [evF, Bool.and_eq_true, ile_iff, Bool.or_eq_true, beq_iff_eq] at hb
  cases hc : evB b a with
  | false => rfl
  | true =>
    simp only [evB, Bool.and_eq_true, bne_iff_ne, ilt_iff] at hc
    omega

abbrev Q2 (l : List Api_Event) (b : Bool) (i j : Nat) (w : Bool × Nat × X2 × Y2 × U2 × V2) : Prop := w.1 = true ∧ w.2.1 = 5 ∧ w.2.2.1.1 = l ∧ w.2.2.1.2.1 = b ∧ w.2.2.1.2.2.1 = (i : Int) ∧ w.2.2.1.2.2.2.1 = (j : Int)
theorem l2_r {l : List Api_Event} (hm : evMay l) (hl : l.length ≤ 1000) (b : Bool) {i j : Nat} (hi : i < l.length) (hj : j < l.length) : ∀ w, w = l2 (l, b, (i : Int), (j : Int), 0, ()) () → Q2 l b i j w := by
  intro w hw
  refine rounds_at (Q := Q2 l b i j) hw (fun x y => ∃ k : Nat, k ≤ l.length ∧ x = (l, b, (i : Int), (j : Int), (k : Int), ())) (fun x _ => ((l.length : Int) - x.2.2.2.2.1).toNat) ⟨0, by omega, rfl⟩ (Nat.lt_succ_self _) ?_
  rintro x y R ⟨k, hk, rfl⟩ hR
  simp only [g2, lt, Int.toNat_natCast]
  rcases Nat.lt_or_ge k l.length with h | h
  · have c := hR (l, b, (i : Int), (j : Int), ((k + 1 : Nat) : Int), ()) () ⟨k + 1, by omega, rfl⟩ (by simp only []; omega)
    simp only [rngl h, rngl hi, rngl hj, chk_true, Before_r, succ_i64 k (by omega)]
    rw [ilt_t (show (k : Int) < (l.length : Int) by omega), cond_true]
    cases h1 : evB (l.getD i zApi_Event) (l.getD j zApi_Event) with
    | false => exact c
    | true =>
      simp only [cond_true]
      cases h2 : evB (l.getD j zApi_Event) (l.getD k zApi_Event) with
      | false => exact c
      | true =>
        rw [evB_trans h1 (hm j hj).1 h2]
        exact c
  · rw [ilt_f (show ¬ (k : Int) < (l.length : Int) by omega), cond_false]
    exact ⟨rfl, rfl, rfl, rfl, rfl, rfl⟩

abbrev Q1 (l : List Api_Event) (b : Bool) (i : Nat) (w : Bool × Nat × X1 × Y1 × U1 × V1) : Prop := w.1 = true ∧ w.2.1 = 3 ∧ w.2.2.1.1 = l ∧ w.2.2.1.2.1 = b ∧ w.2.2.1.2.2.1 = (i : Int)
theorem l1_r {l : List Api_Event} (hm : evMay l) (hl : l.length ≤ 1000) (b : Bool) {i : Nat} (hi : i < l.length) : ∀ w, w = l1 (l, b, (i : Int), 0, ()) () → Q1 l b i w := by
  intro w hw
  refine rounds_at (Q := Q1 l b i) hw (fun x y => ∃ j : Nat, j ≤ l.length ∧ x = (l, b, (i : Int), (j : Int), ())) (fun x _ => ((l.length : Int) - x.2.2.2.1).toNat) ⟨0, by omega, rfl⟩ (Nat.lt_succ_self _) ?_
  rintro x y R ⟨j, hj, rfl⟩ hR
  simp only [g1, lt, Int.toNat_natCast]
  rcases Nat.lt_or_ge j l.length with h | h
  · have c := hR (l, b, (i : Int), ((j + 1 : Nat) : Int), ()) () ⟨j + 1, by omega, rfl⟩ (by simp only []; omega)
    obtain ⟨w1, w2, w3, w4, w5, w6⟩ := l2_r hm hl b hi h _ rfl
    simp only [rngl h, rngl hi, chk_true, Before_r, w1, w2, w3, w4, w5, w6, Nat.beq, cond_false, succ_i64 j (by omega)]
    rw [ilt_t (show (j : Int) < (l.length : Int) by omega), cond_true]
    by_cases hij : i < j
    · rw [ilt_t (show (i : Int) < (j : Int) by omega), cond_true]
      have ha : evB (l.getD j zApi_Event) (l.getD i zApi_Event) = false := anti (hm j h).1 (mono hm hij h)
      rw [ha]
      simp only [cond_false]
      cases hc : ((l.getD i zApi_Event).1 == (l.getD j zApi_Event).1) with
      | false => exact c
      | true =>
        have := (hm j h).2.2 i hij (eq_of_beq hc)
        rw [show evB (l.getD i zApi_Event) (l.getD j zApi_Event) = true from this]
        exact c
    · rw [ilt_f (show ¬ (i : Int) < (j : Int) by omega), cond_false]
      exact c
  · rw [ilt_f (show ¬ (j : Int) < (l.length : Int) by omega), cond_false]
    exact ⟨rfl, rfl, rfl, rfl, rfl⟩

abbrev Q3 (l : List Api_Event) (b : Bool) (i : Nat) (s : List Api_Event) (w : Bool × Nat × X3 × Y3 × U3 × V3) : Prop := w.1 = true ∧ w.2.1 = 7 ∧ w.2.2.1.1 = l ∧ w.2.2.1.2.1 = b ∧ w.2.2.1.2.2.1 = (i : Int) ∧ w.2.2.1.2.2.2.1 = s
theorem l3_r {l s : List Api_Event} (hs : s.length ≤ 1000) (hsm : ∀ k, k + 1 < s.length → evS (at0 s k) < evS (at0 s (k + 1))) (b : Bool) {i : Nat} : ∀ w, w = l3 (l, b, (i : Int), s, 0, ()) () → Q3 l b i s w := by
  intro w hw
  refine rounds_at (Q := Q3 l b i s) hw (fun x y => ∃ k : Nat, k ≤ s.length ∧ x = (l, b, (i : Int), s, (k : Int), ())) (fun x _ => (((s.length : Int)) - IntKind.i64.wrap (x.2.2.2.2.1 + 1)).toNat) ⟨0, by omega, rfl⟩ (Nat.lt_succ_self _) ?_
  rintro x y R ⟨k, hk, rfl⟩ hR
  simp only [g3, lt, Int.toNat_natCast, succ_i64 k (by omega)]
  rcases Nat.lt_or_ge (k + 1) s.length with h | h
  · have c := hR (l, b, (i : Int), s, ((k + 1 : Nat) : Int), ()) () ⟨k + 1, by omega, rfl⟩ (by simp only []; rw [succ_i64 k (by omega), succ_i64 (k + 1) (by omega)]; omega)
    simp only [rngl h, rngl (show k < s.length by omega), chk_true]
    rw [ilt_t (show ((k + 1 : Nat) : Int) < (s.length : Int) by omega), cond_true]
    rw [ile_f (show ¬ (s.getD (k + 1) zApi_Event).2.2.2.2.1 ≤ (s.getD k zApi_Event).2.2.2.2.1 by have h9 : (s.getD k zApi_Event).2.2.2.2.1 < (s.getD (k + 1) zApi_Event).2.2.2.2.1 := hsm k h; omega)]
    exact c
  · rw [ilt_f (show ¬ ((k + 1 : Nat) : Int) < (s.length : Int) by omega), cond_false]
    exact ⟨rfl, rfl, rfl, rfl, rfl, rfl⟩

/-- What counts keeps its order. -/
theorem some_mono {l : List Api_Event} (hm : evMay l) (p : Api_Event → Bool) : ∀ k, k + 1 < (l.filter p).length → evS (at0 (l.filter p) k) < evS (at0 (l.filter p) (k + 1)) := by
  have hp : l.Pairwise fun a b => evS a < evS b := by
    rw [List.pairwise_iff_getElem]
    intro i j hi hj hij
    have := mono hm hij hj
    have e1 : at0 l i = l[i] := getD_lt hi
    have e2 : at0 l j = l[j] := getD_lt hj
    rw [e1, e2] at this; exact this
  have hf := hp.filter p
  intro k hk
  have := List.pairwise_iff_getElem.1 hf k (k + 1) (by omega) hk (by omega)
  have e1 : at0 (l.filter p) k = (l.filter p)[k] := getD_lt (by omega)
  have e2 : at0 (l.filter p) (k + 1) = (l.filter p)[k + 1] := getD_lt hk
  rw [e1, e2]; exact this

abbrev Q0 (w : Bool × Nat × X0 × Y0 × U0 × V0) : Prop := w.1 = true ∧ w.2.1 = 1
theorem l0_r {l : List Api_Event} (hm : evMay l) (hl : l.length ≤ 1000) (b : Bool) : ∀ w, w = l0 (l, b, 0, ()) () → Q0 w := by
  intro w hw
  refine rounds_at (Q := Q0) hw (fun x y => ∃ i : Nat, i ≤ l.length ∧ x = (l, b, (i : Int), ())) (fun x _ => ((l.length : Int) - x.2.2.1).toNat) ⟨0, by omega, rfl⟩ (Nat.lt_succ_self _) ?_
  rintro x y R ⟨i, hi, rfl⟩ hR
  simp only [g0, lt, Int.toNat_natCast]
  rcases Nat.lt_or_ge i l.length with h | h
  · have c := hR (l, b, ((i + 1 : Nat) : Int), ()) () ⟨i + 1, by omega, rfl⟩ (by simp only []; omega)
    obtain ⟨w1, w2, w3, w4, w5⟩ := l1_r hm hl b h _ rfl
    have hfl := List.length_filter_le (evP (l.getD i zApi_Event).2.2.1) l
    obtain ⟨z1, z2, z3, z4, z5, z6⟩ := l3_r (l := l) (s := l.filter (evP (l.getD i zApi_Event).2.2.1)) (by omega) (some_mono hm _) b (i := i) _ rfl
    simp only [rngl h, chk_true, Before_r, w1, w2, w3, w4, w5, Int.toNat_natCast, Of_r l _ (show l.length ≤ 1000 by omega), z1, z2, z3, z4, z5, z6, Must_r, Nat.beq, cond_false, succ_i64 i (by omega)]
    rw [ilt_t (show (i : Int) < (l.length : Int) by omega), cond_true]
    rw [show evB (l.getD i zApi_Event) (l.getD i zApi_Event) = false from irr (hm i h).1, cond_false]
    cases hmu : evM (l.getD i zApi_Event) with
    | false => exact c
    | true =>
      have hin : l.getD i zApi_Event ∈ l.filter (evP (l.getD i zApi_Event).2.2.1) := by
        refine List.mem_filter.2 ⟨by rw [getD_lt h]; exact List.getElem_mem h, evP_t ?_⟩
        have he : ((l.getD i zApi_Event).2.2.2.2.2.2.1.2.1 != 0) = false := by
          simp only [evM, Bool.and_eq_true, beq_iff_eq] at hmu
          rw [hmu.2]; rfl
        unfold evD
        rw [hmu, he, beq_self_eq_true]
        simp
      have hpos : 0 < (l.filter (evP (l.getD i zApi_Event).2.2.1)).length := List.length_pos_of_mem hin
      simp only [cond_true]
      rw [show ((((l.filter (evP (l.getD i zApi_Event).2.2.1)).length : Nat) : Int) == 0) = false by rw [beq_eq_false_iff_ne]; omega]
      exact c
  · rw [ilt_f (show ¬ (i : Int) < (l.length : Int) by omega), cond_false]
    exact ⟨rfl, rfl⟩

theorem pure (l : List Api_Event) (hl : Ty.ok (.sl tApi_Event) l) : r l = (true, true) := by
  have hl' := ok_len hl
  obtain ⟨f, hf, hfl⟩ := Few_r l hl' 12
  classical
  simp only [r, g, lt, hf, awake28, chk_true, Check_r l hl']
  cases f with
  | false => rfl
  | true =>
    have h12 : l.length ≤ 12 := by have := hfl rfl; omega
    by_cases hm : evMay l
    · obtain ⟨w1, w2⟩ := l0_r hm (by omega) false _ rfl
      rw [decide_eq_true hm, w1, w2]
      rfl
    · rw [decide_eq_false hm]; rfl
end Sacristylaw28_HistoryStrict
end Go.Own
