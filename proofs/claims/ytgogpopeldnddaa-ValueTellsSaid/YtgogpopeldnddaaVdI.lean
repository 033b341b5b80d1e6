/- Operations compiled; what is compiled to an operation that writes nothing does what 'pop' says. -/
import Derived.Test.YtgogpopeldnddaaVdH
import Derived.Laws.Build
set_option linter.unusedVariables false
set_option linter.unusedSimpArgs false
namespace Go.Vd
open Go.RowKit

/-- Depth to which a struct's cells are looked at when two are compared. -/
def eqDepth : Nat := 8

def isU8T (P : Program) (e : TypeId) : Bool :=
  match P.underlying e with
  | some (.int .u8) => true
  | _ => false

theorem isU8T_spec {P : Program} {e : TypeId} (h : isU8T P e = true) : P.underlying e = some (.int .u8) := by
  unfold isU8T at h
  cases hu : P.underlying e with
  | none => simp [hu] at h
  | some d =>
    cases d <;> simp [hu] at h
    rename_i k
    cases k <;> simp at h
    rfl

def c1 (f : Opd → IOp) (x : Operand) : Option IOp := (copd x).map f
def c2 (f : Opd → Opd → IOp) (x y : Operand) : Option IOp :=
  match copd x, copd y with
  | some a, some b => some (f a b)
  | _, _ => none

def cparts (place : Nat → Option (Nat × Nat)) : List (Nat × Operand) → Option (List (Nat × Nat × Opd))
  | [] => some []
  | (i, x) :: r => match place i, copd x, cparts place r with
    | some (off, sz), some y, some q => some ((off, sz, y) :: q)
    | _, _, _ => none

def places (P : Program) (fs : Array Field) (i : Nat) : Option (Nat × Nat) :=
  match fs[i]? with
  | some f => (szT P f.type).map fun n => (f.offset, n)
  | none => none

/-- All fields have a size. -/
def sized (P : Program) (fs : Array Field) : Bool := fs.toList.all fun f => (szT P f.type).isSome

def cbin (P : Program) (op : BinOp) (t : TypeId) (x y : Operand) : Option IOp :=
  let ne? : Option Bool := match op with | .eql => some false | .neq => some true | _ => none
  match P.underlying t with
  | some (.int _) => c2 (.bin op) x y
  | some .string => c2 (.bin op) x y
  | some .bool => ne?.bind fun ne => c2 (.beq ne) x y
  | some (.struct _) => ne?.bind fun ne => if P.eqGuardType P.depth t = true then none else (kindsOf P eqDepth t).bind fun ks => c2 (.eqs ne ks) x y
  | some (.pointer e) => if (P.info? e).isSome then ne?.bind fun ne => c2 (.eqn ne) x y else none
  | _ => none

def czero (P : Program) (t : TypeId) : Option PV :=
  match P.info? t with
  | some i => match i.zero with
    | some z => (cval z).bind fun p => if p.cells.length = i.size ∧ 0 < i.size ∧ p.cells.all PV.one = true then some p else none
    | none => none
  | none => none

def okFunc (P : Program) (f : FuncId) : Bool :=
  match P.funcs[f]? with
  | some fn => fn.body.isSome && fn.name != "runtime.NumGoroutine"
  | none => false

def ccall (P : Program) (type : TypeId) (c : Call) : Option IOp :=
  match c.callee with
  | .builtin .len => match c.args.toList, c.argTypes.toList with
    | [x], [t] => match P.underlying t with
      | some .string => c1 (.len true) x
      | some (.slice _) => c1 (.len false) x
      | _ => none
    | _, _ => none
  | .builtin .max => match c.args.toList with
    | x :: r => match copd x, copds r with
      | some y, some q => some (.mm true y q)
      | _, _ => none
    | _ => none
  | .builtin .min => match c.args.toList with
    | x :: r => match copd x, copds r with
      | some y, some q => some (.mm false y q)
      | _, _ => none
    | _ => none
  | _ => none

/-- make with its length for a capacity. -/
def cmks (sz bytes : Nat) (z : PV) (x y : Opd) : Option IOp :=
  match x, y with
  | .t a, .t b => if a = b then some (.mks sz bytes z x) else none
  | .c (.int k a), .c (.int k' b) => if k = k' ∧ a = b then some (.mks sz bytes z x) else none
  | _, _ => none

theorem cmks_inv {sz bytes : Nat} {z : PV} {x y : Opd} {io : IOp} (h : cmks sz bytes z x y = some io) : io = .mks sz bytes z x ∧ x = y := by
  unfold cmks at h
  split at h
  · split at h
    · rename_i e; cases h; subst e; exact ⟨rfl, rfl⟩
    · cases h
  · split at h
    · rename_i e; cases h; obtain ⟨rfl, rfl⟩ := e; exact ⟨rfl, rfl⟩
    · cases h
  · cases h

def cop (P : Program) (o : Oper) : Option IOp :=
  match o.op with
  | .move x => c1 .mov x
  | .assign x => c1 .mov x
  | .pick c a b => match copd c, copd a, copd b with
    | some x, some y, some z => some (.pick x y z)
    | _, _, _ => none
  | .binOp op t x y _ => cbin P op t x y
  | .unOp op _ x => c1 (.un op) x
  | .convert src dst x => match P.underlying src, P.underlying dst with
    | some (.int _), some (.int k) => c1 (.cvi k) x
    | some .string, some .string => c1 .cvt x
    | some (.slice e), some .string => if isU8T P e = true then c1 .cvb x else none
    | _, _ => none
  | .build t parts => match P.underlying t, czero P t with
    | some (.struct fs), some (.agg z) => if sized P fs then (cparts (places P fs) parts.toList).map (.build z) else none
    | some (.array n e), some (.agg z) => (szT P e).bind fun sz => (cparts (fun i => some (i * sz, sz)) parts.toList).map (.build z)
    | _, _ => none
  | .field t x k => match P.underlying t with
    | some (.struct fs) => match fs[k]? with
      | some f => match szT P f.type, isAggT P f.type with
        | some sz, some ag => c1 (.fld f.offset sz ag) x
        | _, _ => none
      | none => none
    | _ => none
  | .fieldAddr t x k => match P.underlying t with
    | some (.struct fs) => match fs[k]? with
      | some f => match szT P f.type with
        | some sz => if sz = 0 then none else c1 (.fda f.offset) x
        | none => none
      | none => none
    | _ => none
  | .index t x i => match P.underlying t with
    | some .string => c2 .idxs x i
    | some (.array n e) => match szT P e, isAggT P e with
      | some sz, some ag => c2 (.idxa n sz ag) x i
      | _, _ => none
    | _ => none
  | .indexAddr t x i => match P.underlying t with
    | some (.slice e) => (szT P e).bind fun sz => c2 (.ixp sz) x i
    | some (.array n e) => (szT P e).bind fun sz => c2 (.ixq n sz) x i
    | _ => none
  | .slice t x lo hi none => match P.underlying t, copd x, copdO lo, copdO hi with
    | some .string, some y, some l, some h => some (.slcs y l h)
    | some (.slice e), some y, some l, some h => (szT P e).map fun sz => .slcl sz y l h
    | _, _, _, _ => none
  | .extract x i => c1 (.ext i) x
  | .makeFunc (.func f) first caps => if first.size = 0 then (copds caps.toList).map (.mkf f) else none
  | .makeInterface t x => if P.concrete t then c1 (.mki t) x else none
  | .nilCheck x => c1 .nck x
  | .load t x => match szT P t, isAggT P t with
    | some sz, some ag => c1 (.load sz ag) x
    | _, _ => none
  | .call c => ccall P o.type c
  | _ => none

/-- Operations that make, write, call. -/
def ccallE (P : Program) (c : Call) : Option IOp :=
  match c.callee with
  | .value (.func f) => if okFunc P f then (copds c.args.toList).map (.call f) else none
  | .value f => match copd f, copds c.args.toList with
    | some g, some xs => some (.calv g xs)
    | _, _ => none
  | .builtin .append => match c.args.toList, c.argTypes.toList with
    | [x, y], [t, u] => match P.underlying t, P.underlying u with
      | some (.slice e), some (.slice _) => match P.info? e with
        | some i => match i.zero with
          | some z => if z.cells.size = i.size ∧ 0 < i.size ∧ i.bytes ≤ 281474976710656 then c2 (.app i.size i.bytes) x y else none
          | none => none
        | none => none
      | some (.slice e), some .string => match P.info? e with
        | some i => match i.zero with
          | some z => if z.cells.size = i.size ∧ i.size = 1 ∧ i.bytes = 1 then c2 .aps x y else none
          | none => none
        | none => none
      | _, _ => none
    | _, _ => none
  | _ => none

def copE (P : Program) (o : Oper) : Option IOp :=
  match o.op with
  | .alloc e => (czero P e).map fun p => .box (.c p)
  | .box e x => c1 .box x
  | .buildSlice t n parts => match P.underlying t with
    | some (.slice e) => match szT P e, czero P e with
      | some sz, some _ => if n = parts.size ∧ parts.toList.map (·.1) = List.range n ∧ n * sz ≤ 16777216 ∧ 0 < n then (copds (parts.toList.map (·.2))).map (.bsl sz) else none
      | _, _ => none
    | _ => none
  | .makeSlice t l c => match P.underlying t with
    | some (.slice e) => match P.info? e, czero P e, copd l, copd c with
      | some i, some z, some x, some y => cmks i.size i.bytes z x y
      | _, _, _, _ => none
    | _ => none
  | .store t a x => (szT P t).bind fun sz => c2 (.store sz) a x
  | .convert src dst x => match P.underlying src, P.underlying dst with
    | some .string, some (.slice e) => if isU8T P e = true then c1 .cvs x else none
    | _, _ => none
  | .call c => ccallE P c
  | _ => none

section
variable {w : World} {O : Nat → Prop} {μ : Mu} {R : Rows} {P : Program} {s : Slots} {a : Act}

abbrev SlotsLie (w : World) (O : Nat → Prop) (μ : Mu) (R : Rows) (s : Slots) (a : Act) : Prop := ∀ k p, s k = some p → ∃ v, a.tmps[k]? = some v ∧ Rel w O μ R p v

theorem c1_inv {f : Opd → IOp} {x : Operand} {io : IOp} (h : c1 f x = some io) : ∃ y, copd x = some y ∧ io = f y := by
  obtain ⟨y, hy, rfl⟩ := Option.map_eq_some_iff.1 h
  exact ⟨y, hy, rfl⟩
theorem c2_inv {f : Opd → Opd → IOp} {x y : Operand} {io : IOp} (h : c2 f x y = some io) : ∃ p q, copd x = some p ∧ copd y = some q ∧ io = f p q := by
  unfold c2 at h
  cases hx : copd x with
  | none => simp [hx] at h
  | some p =>
    cases hy : copd y with
    | none => simp [hx, hy] at h
    | some q => simp only [hx, hy, Option.some.injEq] at h; exact ⟨p, q, rfl, rfl, h.symm⟩
theorem opt2_inv {f : PV → PV → Option PV} {x y : Option PV} {r : PV} (h : opt2 f x y = some r) : ∃ p q, x = some p ∧ y = some q ∧ f p q = some r := by
  unfold opt2 at h
  cases x with
  | none => cases h
  | some p => cases y with
    | none => cases h
    | some q => exact ⟨p, q, rfl, rfl, h⟩

theorem evs_rel (hs : SlotsLie w O μ R s a) : ∀ (l : List Operand) (m : List Opd) (ps : List PV), copds l = some m → evs s m = some ps → CellsRel w O μ R ps (l.map a.eval)
  | [], m, ps, h, h' => by
    simp only [copds, Option.some.injEq] at h
    subst h
    simp only [evs, Option.some.injEq] at h'
    subst h'
    exact ⟨rfl, fun j p u hj => by simp at hj⟩
  | x :: r, m, ps, h, h' => by
    simp only [copds] at h
    cases hx : copd x with
    | none => simp [hx] at h
    | some y =>
      cases hr : copds r with
      | none => simp [hx, hr] at h
      | some q =>
        simp only [hx, hr, Option.some.injEq] at h
        subst h
        simp only [evs] at h'
        cases hy : y.ev s with
        | none => simp [hy] at h'
        | some p =>
          cases hq : evs s q with
          | none => simp [hy, hq] at h'
          | some ps' =>
            simp only [hy, hq, Option.some.injEq] at h'
            subst h'
            have ih := evs_rel hs r q ps' hr hq
            refine ⟨by simp [ih.len], fun j p' u hj hu => ?_⟩
            cases j with
            | zero => simp at hj hu; subst hj; subst hu; exact ev_rel hs hx hy
            | succ j => exact ih.rel j p' u (by simpa using hj) (by simpa using hu)

theorem evO_rel (hs : SlotsLie w O μ R s a) {x : Option Operand} {y : Option Opd} (h : copdO x = some y) {q : Option PV} (hq : evO s y = some q) :
    (∀ p, q = some p → ∃ u, x.map a.eval = some u ∧ Rel w O μ R p u) ∧ (q = none → x.map a.eval = none) := by
  cases x with
  | none =>
    simp only [copdO, Option.some.injEq] at h
    subst h
    simp only [evO, Option.some.injEq] at hq
    subst hq
    exact ⟨(fun p hp => by cases hp), fun _ => rfl⟩
  | some x =>
    obtain ⟨z, hz, rfl⟩ := Option.map_eq_some_iff.1 h
    obtain ⟨p, hp, rfl⟩ := Option.map_eq_some_iff.1 hq
    exact ⟨(fun p' hp' => by cases hp'; exact ⟨a.eval x, rfl, ev_rel hs hz hp⟩), (fun h => by cases h)⟩

theorem val_of {o : Oper} {x : Sem Value} {v : Value} (he : execOp a.eval o = (do pure (.value (← x)))) (h : x.run P w = .ok v w) : (execOp a.eval o).run P w = .ok (.value v) w := by
  rw [he]; simp [h]

theorem mm_run {mx : Bool} {t : TypeId} {ats : Array TypeId} : ∀ (qs : List PV) (p r : PV) (u : Value) (us : List Value), Rel w O μ R p u → CellsRel w O μ R qs us → mmv mx p qs = some r →
    ∃ v, (us.foldlM (bif mx then Builtin.max2 else Builtin.min2) u).run P w = .ok v w ∧ Rel w O μ R r v
  | [], p, r, u, us, hp, hq, h => by
    cases us with
    | cons => exact absurd hq.len (by simp)
    | nil =>
      have : r = p := by cases p <;> simp [mmv] at h <;> exact h.symm
      subst this
      exact ⟨u, by simp, hp⟩
  | q :: qs, p, r, u, us, hp, hq, h => by
    cases us with
    | nil => exact absurd hq.len (by simp)
    | cons v us =>
      have hqv := hq.rel 0 q v rfl rfl
      cases p <;> cases q <;> simp only [mmv] at h <;> try cases h
      case int.int k x k' y =>
        cases hp.int_inv
        cases hqv.int_inv
        split at h
        · rename_i hk
          subst hk
          obtain ⟨z, hz, hr⟩ := mm_run (mx := mx) (t := t) (ats := ats) qs _ r (.int k (bif mx then (if y > x then y else x) else (if y < x then y else x))) us (.base _ _ (.int _ _))
            ⟨by simpa using hq.len, fun j p' u' hj hu => hq.rel (j + 1) p' u' (by simpa using hj) (by simpa using hu)⟩ h
          refine ⟨z, ?_, hr⟩
          cases mx
          · simpa [Builtin.min2] using hz
          · simpa [Builtin.max2] using hz
        · cases h

theorem cparts_len {place : Nat → Option (Nat × Nat)} : ∀ (l : List (Nat × Operand)) (q : List (Nat × Nat × Opd)), cparts place l = some q → l.length = q.length ∧
    ∀ (j : Nat) (i : Nat) (x : Operand) (off sz : Nat) (y : Opd), l[j]? = some (i, x) → q[j]? = some (off, sz, y) → place i = some (off, sz) ∧ copd x = some y
  | [], q, h => by
    simp only [cparts, Option.some.injEq] at h
    subst h
    exact ⟨rfl, fun j i x off sz y hj => by simp at hj⟩
  | (i, x) :: r, q, h => by
    simp only [cparts] at h
    cases hp : place i with
    | none => simp [hp] at h
    | some os =>
      obtain ⟨off, sz⟩ := os
      cases hx : copd x with
      | none => simp [hp, hx] at h
      | some y =>
        cases hr : cparts place r with
        | none => simp [hp, hx, hr] at h
        | some q' =>
          simp only [hp, hx, hr, Option.some.injEq] at h
          subst h
          obtain ⟨h1, h2⟩ := cparts_len r q' hr
          refine ⟨by simp [h1], fun j i' x' off' sz' y' hj hq => ?_⟩
          cases j with
          | zero => simp at hj hq; obtain ⟨rfl, rfl⟩ := hj; obtain ⟨rfl, rfl, rfl⟩ := hq; exact ⟨hp, hx⟩
          | succ j => exact h2 j i' x' off' sz' y' (by simpa using hj) (by simpa using hq)

theorem czero_spec {t : TypeId} {p : PV} (h : czero P t = some p) : ∃ i z, P.info? t = some i ∧ i.zero = some z ∧ (∀ w O, Rel0 w O p z) ∧ p.cells.length = i.size ∧ 0 < i.size ∧ ∀ q ∈ p.cells, q.one = true := by
  unfold czero at h
  cases hi : P.info? t with
  | none => simp [hi] at h
  | some i =>
    cases hz : i.zero with
    | none => simp [hi, hz] at h
    | some z =>
      simp only [hi, hz] at h
      obtain ⟨q, hq, h⟩ := Option.bind_eq_some_iff.1 h
      split at h
      · rename_i hc
        cases h
        exact ⟨i, z, rfl, hz, fun w O => cval_rel z p hq, hc.1, hc.2.1, fun q hq' => List.all_eq_true.1 hc.2.2 q hq'⟩
      · cases h
end
end Go.Vd
