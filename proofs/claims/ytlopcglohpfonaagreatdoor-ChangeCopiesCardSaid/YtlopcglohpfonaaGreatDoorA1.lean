/- A part of the proof: a logic of values, rows and steps. -/
import Derived.Test.YtlopcglohpfonaaGreatDoorA0
import Derived.Laws.Build
import Derived.Laws.IdiomStrings
import Derived.Laws.AppendOwn
section
set_option linter.unusedVariables false
set_option linter.unusedSimpArgs false
namespace Go.Vd
open Go.RowKit
def XP : Nat := 8
def qN (P : Program) (e : TypeId) : Bool :=
 match P.underlying e with
 | some (.int .u8) => true
 | _ => false
theorem bK {P : Program} {e : TypeId} (h : qN P e = true) : P.underlying e = some (.int .u8) := by
 unfold qN at h
 cases hu : P.underlying e with
 | none => simp [hu] at h
 | some d =>
  cases d <;> simp [hu] at h
  rename_i k
  cases k <;> simp at h
  rfl
def c1 (f : DD → KY) (x : Operand) : Option KY := (I6 x).map f
def c2 (f : DD → DD → KY) (x y : Operand) : Option KY :=
 match I6 x, I6 y with
 | some a, some b => some (f a b)
 | _, _ => none
def UU (place : Nat → Option (Nat × Nat)) : List (Nat × Operand) → Option (List (Nat × Nat × DD))
 | [] => some []
 | (i, x) :: r => match place i, I6 x, UU place r with
  | some (off, sz), some y, some q => some ((off, sz, y) :: q)
  | _, _, _ => none
def places (P : Program) (fs : Array Field) (i : Nat) : Option (Nat × Nat) :=
 match fs[i]? with
 | some f => (PW P f.type).map fun n => (f.offset, n)
 | none => none
def sized (P : Program) (fs : Array Field) : Bool := fs.toList.all fun f => (PW P f.type).isSome
def Kz (P : Program) (op : BinOp) (t : TypeId) (x y : Operand) : Option KY :=
 let ne? : Option Bool := match op with | .eql => some false | .neq => some true | _ => none
 match P.underlying t with
 | some (.int _) => c2 (.bin op) x y
 | some .string => c2 (.bin op) x y
 | some .bool => ne?.bind fun ne => c2 (.beq ne) x y
 | some (.struct _) => ne?.bind fun ne => if P.eqGuardType P.depth t = true then none else (N8 P XP t).bind fun ks => c2 (.eqs ne ks) x y
 | some (.pointer e) => if (P.info? e).isSome then ne?.bind fun ne => c2 (.eqn ne) x y else none
 | some (.interface _) => match y with
  | .const .nilIface => ne?.bind fun ne => c1 (.eqi ne) x
  | _ => none
 | _ => none
def U7 (P : Program) (t : TypeId) : Option PV :=
 match P.info? t with
 | some i => match i.zero with
  | some z => (PK z).bind fun p => if p.cells.length = i.size ∧ 0 < i.size ∧ p.cells.all PV.one = true then some p else none
  | none => none
 | none => none
def TP (P : Program) (f : FuncId) : Bool :=
 match P.funcs[f]? with
 | some fn => fn.body.isSome && fn.name != "runtime.NumGoroutine"
 | none => false
def Ei (P : Program) (type : TypeId) (c : Call) : Option KY :=
 match c.callee with
 | .builtin .len => match c.args.toList, c.argTypes.toList with
  | [x], [t] => match P.underlying t with
   | some .string => c1 (.len true) x
   | some (.slice _) => c1 (.len false) x
   | _ => none
  | _, _ => none
 | .builtin .max => match c.args.toList with
  | x :: r => match I6 x, OE r with
   | some y, some q => some (.mm true y q)
   | _, _ => none
  | _ => none
 | .builtin .min => match c.args.toList with
  | x :: r => match I6 x, OE r with
   | some y, some q => some (.mm false y q)
   | _, _ => none
  | _ => none
 | _ => none
def Kt (sz bytes : Nat) (z : PV) (x y : DD) : Option KY :=
 match x, y with
 | .t a, .t b => if a = b then some (.mks sz bytes z x) else none
 | .c (.int k a), .c (.int k' b) => if k = k' ∧ a = b then some (.mks sz bytes z x) else none
 | _, _ => none
theorem yK {sz bytes : Nat} {z : PV} {x y : DD} {io : KY} (h : Kt sz bytes z x y = some io) : io = .mks sz bytes z x ∧ x = y := by
 unfold Kt at h
 split at h
 ·split at h
  ·rename_i e; cases h; subst e; exact ⟨rfl, rfl⟩
  ·cases h
 ·split at h
  ·rename_i e; cases h; obtain ⟨rfl, rfl⟩ := e; exact ⟨rfl, rfl⟩
  ·cases h
 ·cases h
def Ed (P : Program) (o : Oper) : Option KY :=
 match o.op with
 | .move x => c1 .mov x
 | .assign x => c1 .mov x
 | .pick c a b => match I6 c, I6 a, I6 b with
  | some x, some y, some z => some (.pick x y z)
  | _, _, _ => none
 | .binOp op t x y _ => Kz P op t x y
 | .unOp op _ x => c1 (.un op) x
 | .convert src dst x => match P.underlying src, P.underlying dst with
  | some (.int _), some (.int k) => c1 (.cvi k) x
  | some .string, some .string => c1 .cvt x
  | some (.slice e), some .string => if qN P e = true then c1 .cvb x else none
  | _, _ => none
 | .build t parts => match P.underlying t, U7 P t with
  | some (.struct fs), some (.agg z) => if sized P fs then (UU (places P fs) parts.toList).map (.build z) else none
  | some (.array n e), some (.agg z) => (PW P e).bind fun sz => (UU (fun i => some (i * sz, sz)) parts.toList).map (.build z)
  | _, _ => none
 | .field t x k => match P.underlying t with
  | some (.struct fs) => match fs[k]? with
   | some f => match PW P f.type, FQ P f.type with
    | some sz, some ag => c1 (.fld f.offset sz ag) x
    | _, _ => none
   | none => none
  | _ => none
 | .fieldAddr t x k => match P.underlying t with
  | some (.struct fs) => match fs[k]? with
   | some f => match PW P f.type with
    | some sz => if sz = 0 then none else c1 (.fda f.offset) x
    | none => none
   | none => none
  | _ => none
 | .index t x i => match P.underlying t with
  | some .string => c2 .idxs x i
  | some (.array n e) => match PW P e, FQ P e with
   | some sz, some ag => c2 (.idxa n sz ag) x i
   | _, _ => none
  | _ => none
 | .indexAddr t x i => match P.underlying t with
  | some (.slice e) => (PW P e).bind fun sz => c2 (.ixp sz) x i
  | some (.array n e) => (PW P e).bind fun sz => c2 (.ixq n sz) x i
  | _ => none
 | .slice t x lo hi none => match P.underlying t, I6 x, ZA lo, ZA hi with
  | some .string, some y, some l, some h => some (.slcs y l h)
  | some (.slice e), some y, some l, some h => (PW P e).map fun sz => .slcl sz y l h
  | some (.array n e), some y, some none, some none => match PW P e with
   | some 1 => some (.slap n y)
   | _ => none
  | _, _, _, _ => none
 | .extract x i => c1 (.ext i) x
 | .makeFunc (.func f) first caps => if first.size = 0 then (OE caps.toList).map (.mkf f) else none
 | .makeInterface t x => if P.concrete t then c1 (.mki t) x else none
 | .nilCheck x => c1 .nck x
 | .load t x => match PW P t, FQ P t with
  | some sz, some ag => c1 (.load sz ag) x
  | _, _ => none
 | .call c => Ei P o.type c
 | _ => none
def yN (P : Program) (c : Call) : Option KY :=
 match c.callee with
 | .value (.func f) => if TP P f then (OE c.args.toList).map (.call f) else none
 | .value f => match I6 f, OE c.args.toList with
  | some g, some xs => some (.calv g xs)
  | _, _ => none
 | .builtin .append => match c.args.toList, c.argTypes.toList with
  | [x, y], [t, u] => match P.underlying t, P.underlying u with
   | some (.slice e), some (.slice _) => match P.info? e with
    | some i => match i.zero with
     | some z => if z.cells.size = i.size ∧ 0 < i.size ∧ i.bytes ≤ 281474976710656 then c2 (.app e i.size i.bytes) x y else none
     | none => none
    | none => none
   | some (.slice e), some .string => match P.info? e with
    | some i => match i.zero with
     | some z => if z.cells.size = i.size ∧ i.size = 1 ∧ i.bytes = 1 then c2 (.aps e) x y else none
     | none => none
    | none => none
   | _, _ => none
  | _, _ => none
 | _ => none
def SN (P : Program) (o : Oper) : Option KY :=
 match o.op with
 | .alloc e => (U7 P e).map fun p => .box e (.c p)
 | .box e x => c1 (.box e) x
 | .buildSlice t n parts => match P.underlying t with
  | some (.slice e) => match PW P e, U7 P e with
   | some sz, some _ => if n = parts.size ∧ parts.toList.map (·.1) = List.range n ∧ n * sz ≤ 16777216 ∧ 0 < n then (OE (parts.toList.map (·.2))).map (.bsl sz) else none
   | _, _ => none
  | _ => none
 | .makeSlice t l c => match P.underlying t with
  | some (.slice e) => match P.info? e, U7 P e, I6 l, I6 c with
   | some i, some z, some x, some y => Kt i.size i.bytes z x y
   | _, _, _, _ => none
  | _ => none
 | .store t a x => (PW P t).bind fun sz => c2 (.store sz) a x
 | .convert src dst x => match P.underlying src, P.underlying dst with
  | some .string, some (.slice e) => if qN P e = true then c1 .cvs x else none
  | _, _ => none
 | .call c => yN P c
 | _ => none
section
variable {w : World} {O : Nat → Prop} {μ : Mu} {R : Rows} {P : Program} {s : EY} {a : Act}
abbrev V3 (w : World) (O : Nat → Prop) (μ : Mu) (R : Rows) (s : EY) (a : Act) : Prop := ∀ k p, s k = some p → ∃ v, a.tmps[k]? = some v ∧ D8 w O μ R p v
theorem KJ {f : DD → KY} {x : Operand} {io : KY} (h : c1 f x = some io) : ∃ y, I6 x = some y ∧ io = f y := by
 obtain ⟨y, hy, rfl⟩ := Option.map_eq_some_iff.1 h
 exact ⟨y, hy, rfl⟩
theorem QG {f : DD → DD → KY} {x y : Operand} {io : KY} (h : c2 f x y = some io) : ∃ p q, I6 x = some p ∧ I6 y = some q ∧ io = f p q := by
 unfold c2 at h
 cases hx : I6 x with
 | none => simp [hx] at h
 | some p =>
  cases hy : I6 y with
  | none => simp [hx, hy] at h
  | some q => simp only [hx, hy, Option.some.injEq] at h; exact ⟨p, q, rfl, rfl, h.symm⟩
theorem MZ {f : PV → PV → Option PV} {x y : Option PV} {r : PV} (h : OC f x y = some r) : ∃ p q, x = some p ∧ y = some q ∧ f p q = some r := by
 unfold OC at h
 cases x with
 | none => cases h
 | some p => cases y with
  | none => cases h
  | some q => exact ⟨p, q, rfl, rfl, h⟩
theorem PH [BA] (hs : V3 w O μ R s a) : ∀ (l : List Operand) (m : List DD) (ps : List PV), OE l = some m → evs s m = some ps → EK w O μ R ps (l.map a.eval)
 | [], m, ps, h, h' => by
  simp only [OE, Option.some.injEq] at h
  subst h
  simp only [evs, Option.some.injEq] at h'
  subst h'
  exact ⟨rfl, fun j p u hj => by simp at hj⟩
 | x :: r, m, ps, h, h' => by
  simp only [OE] at h
  cases hx : I6 x with
  | none => simp [hx] at h
  | some y =>
   cases hr : OE r with
   | none => simp [hx, hr] at h
   | some q =>
    simp only [hx, hr, Option.some.injEq] at h
    subst h
    simp only [evs] at h'
    cases hy : y.ev s with
    | none => simp [hy] at h'
    | some p =>
     cases hq : evs s q with
     | none => simp [hy, hq] at h'
     | some ps' =>
      simp only [hy, hq, Option.some.injEq] at h'
      subst h'
      have ih := PH hs r q ps' hr hq
      refine ⟨by simp [ih.len], fun j p' u hj hu => ?_⟩
      cases j with
      | zero => simp at hj hu; subst hj; subst hu; exact CR hs hx hy
      | succ j => exact ih.rel j p' u (by simpa using hj) (by simpa using hu)
theorem cO {x : Option Operand} (h : ZA x = some none) : x = none := by
 cases x with
 | none => rfl
 | some o => simp [ZA] at h
theorem ZZ [BA] (hs : V3 w O μ R s a) {x : Option Operand} {y : Option DD} (h : ZA x = some y) {q : Option PV} (hq : bT s y = some q) :
  (∀ p, q = some p → ∃ u, x.map a.eval = some u ∧ D8 w O μ R p u) ∧ (q = none → x.map a.eval = none) := by
 cases x with
 | none =>
  simp only [ZA, Option.some.injEq] at h
  subst h
  simp only [bT, Option.some.injEq] at hq
  subst hq
  exact ⟨(fun p hp => by cases hp), fun _ => rfl⟩
 | some x =>
  obtain ⟨z, hz, rfl⟩ := Option.map_eq_some_iff.1 h
  obtain ⟨p, hp, rfl⟩ := Option.map_eq_some_iff.1 hq
  exact ⟨(fun p' hp' => by cases hp'; exact ⟨a.eval x, rfl, CR hs hz hp⟩), (fun h => by cases h)⟩
theorem JW {o : Oper} {x : Sem Value} {v : Value} (he : execOp a.eval o = (do pure (.value (← x)))) (h : x.run P w = .ok v w) : (execOp a.eval o).run P w = .ok (.value v) w := by
 rw [he]; simp [h]
theorem mV [BA] {mx : Bool} {t : TypeId} {ats : Array TypeId} : ∀ (qs : List PV) (p r : PV) (u : Value) (us : List Value), D8 w O μ R p u → EK w O μ R qs us → mmv mx p qs = some r →
  ∃ v, (us.foldlM (bif mx then Builtin.max2 else Builtin.min2) u).run P w = .ok v w ∧ D8 w O μ R r v
 | [], p, r, u, us, hp, hq, h => by
  cases us with
  | cons => exact absurd hq.len (by simp)
  | nil =>
   have : r = p := by cases p <;> simp [mmv] at h <;> exact h.symm
   subst this
   exact ⟨u, by simp, hp⟩
 | q :: qs, p, r, u, us, hp, hq, h => by
  cases us with
  | nil => exact absurd hq.len (by simp)
  | cons v us =>
   have hqv := hq.rel 0 q v rfl rfl
   cases p <;> cases q <;> simp only [mmv] at h <;> try cases h
   case int.int k x k' y =>
    cases hp.int_inv
    cases hqv.int_inv
    split at h
    ·rename_i hk
     subst hk
     obtain ⟨z, hz, hr⟩ := mV (mx := mx) (t := t) (ats := ats) qs _ r (.int k (bif mx then (if y > x then y else x) else (if y < x then y else x))) us (.base _ _ (.int _ _))
      ⟨by simpa using hq.len, fun j p' u' hj hu => hq.rel (j + 1) p' u' (by simpa using hj) (by simpa using hu)⟩ h
     refine ⟨z, ?_, hr⟩
     cases mx
     ·simpa [Builtin.min2] using hz
     ·simpa [Builtin.max2] using hz
    ·cases h
theorem cK [BA] {place : Nat → Option (Nat × Nat)} : ∀ (l : List (Nat × Operand)) (q : List (Nat × Nat × DD)), UU place l = some q → l.length = q.length ∧
  ∀ (j : Nat) (i : Nat) (x : Operand) (off sz : Nat) (y : DD), l[j]? = some (i, x) → q[j]? = some (off, sz, y) → place i = some (off, sz) ∧ I6 x = some y
 | [], q, h => by
  simp only [UU, Option.some.injEq] at h
  subst h
  exact ⟨rfl, fun j i x off sz y hj => by simp at hj⟩
 | (i, x) :: r, q, h => by
  simp only [UU] at h
  cases hp : place i with
  | none => simp [hp] at h
  | some os =>
   obtain ⟨off, sz⟩ := os
   cases hx : I6 x with
   | none => simp [hp, hx] at h
   | some y =>
    cases hr : UU place r with
    | none => simp [hp, hx, hr] at h
    | some q' =>
     simp only [hp, hx, hr, Option.some.injEq] at h
     subst h
     obtain ⟨h1, h2⟩ := cK r q' hr
     refine ⟨by simp [h1], fun j i' x' off' sz' y' hj hq => ?_⟩
     cases j with
     | zero => simp at hj hq; obtain ⟨rfl, rfl⟩ := hj; obtain ⟨rfl, rfl, rfl⟩ := hq; exact ⟨hp, hx⟩
     | succ j => exact h2 j i' x' off' sz' y' (by simpa using hj) (by simpa using hq)
theorem Q8 [BA] {t : TypeId} {p : PV} (h : U7 P t = some p) : ∃ i z, P.info? t = some i ∧ i.zero = some z ∧ (∀ w O, DZ w O p z) ∧ p.cells.length = i.size ∧ 0 < i.size ∧ ∀ q ∈ p.cells, q.one = true := by
 unfold U7 at h
 cases hi : P.info? t with
 | none => simp [hi] at h
 | some i =>
  cases hz : i.zero with
  | none => simp [hi, hz] at h
  | some z =>
   simp only [hi, hz] at h
   obtain ⟨q, hq, h⟩ := Option.bind_eq_some_iff.1 h
   split at h
   ·rename_i hc
    cases h
    exact ⟨i, z, rfl, hz, fun w O => bY z p hq, hc.1, hc.2.1, fun q hq' => List.all_eq_true.1 hc.2.2 q hq'⟩
   ·cases h
end
section
variable {w : World} {O : Nat → Prop} {μ : Mu} {R : Rows} {P : Program} {s : EY} {a : Act}
theorem tF [BA] {o : Oper} {op : BinOp} {t : TypeId} {x y : Operand} {yt : TypeId} (ho : o.op = .binOp op t x y yt) {io : KY} (h : Kz P op t x y = some io) (hs : V3 w O μ R s a) {p : PV} (hp : pop s R io = some p) :
  ∃ v, (execOp a.eval o).run P w = .ok (.value v) w ∧ D8 w O μ R p v := by
 have fin : ∀ {z : Value}, (eqGuard op t x y (a.eval x) (a.eval y)).run P w = .ok () w → (binOp op t (a.eval x) (a.eval y)).run P w = .ok z w → (execOp a.eval o).run P w = .ok (.value z) w := by
  intro z h1 h2
  simp only [execOp, ho]
  simp [h1, h2]
 have plain : ∀ {f : DD → DD → KY}, c2 f x y = some io → (∀ p q, pop s R (f p q) = OC (YR op) (p.ev s) (q.ev s)) → ∃ v, (execOp a.eval o).run P w = .ok (.value v) w ∧ D8 w O μ R p v := by
  intro f hc hf
  obtain ⟨m, n, hm, hn, rfl⟩ := QG hc
  rw [hf] at hp
  obtain ⟨p1, q1, e1, e2, e3⟩ := MZ hp
  have r1 := CR hs hm e1
  have r2 := CR hs hn e2
  obtain ⟨z, hz, hr⟩ := Di (P := P) op t e3 r1 r2
  exact ⟨z, fin (dU op t x y e3 r1) hz, .base _ _ hr⟩
 unfold Kz at h
 cases ht : P.underlying t with
 | none => simp [ht] at h
 | some d =>
  cases d <;> simp only [ht] at h <;> try cases h
  case int k => exact plain h (fun _ _ => rfl)
  case string => exact plain h (fun _ _ => rfl)
  case bool =>
   obtain ⟨ne, hne, h⟩ := Option.bind_eq_some_iff.1 h
   have hop : op = (bif ne then .neq else .eql) := by cases op <;> simp at hne <;> subst hne <;> rfl
   obtain ⟨m, n, hm, hn, rfl⟩ := QG h
   obtain ⟨p1, q1, e1, e2, e3⟩ := MZ hp
   have r1 := CR hs hm e1
   have r2 := CR hs hn e2
   obtain ⟨z, hz, hr⟩ := Dk (P := P) ne t ht e3 r1 r2
   refine ⟨z, fin ?_ (hop ▸ hz), .base _ _ hr⟩
   cases p1 <;> simp only [Dj] at e3 <;> try cases e3
   rw [r1.bool_inv, eqGuard_at_bool]
   rfl
  case struct fs =>
   obtain ⟨ne, hne, h⟩ := Option.bind_eq_some_iff.1 h
   have hop : op = (bif ne then .neq else .eql) := by cases op <;> simp at hne <;> subst hne <;> rfl
   split at h
   ·cases h
   ·rename_i hg
    obtain ⟨ks, hks, h⟩ := Option.bind_eq_some_iff.1 h
    obtain ⟨m, n, hm, hn, rfl⟩ := QG h
    obtain ⟨p1, q1, e1, e2, e3⟩ := MZ hp
    have r1 := CR hs hm e1
    have r2 := CR hs hn e2
    cases p1 <;> cases q1 <;> simp only [eqsv] at e3 <;> try cases e3
    rename_i xs ys
    obtain ⟨b, hb, rfl⟩ := Option.map_eq_some_iff.1 e3
    obtain ⟨us, hu, hul, _, hur⟩ := r1.agg_inv
    obtain ⟨vs, hv, hvl, _, hvr⟩ := r2.agg_inv
    have ha : FQ P t = some true := by simp [FQ, ht]
    have heq := xR XP t ks hks (10000 - XP) xs ys us vs b ⟨hul, hur⟩ ⟨hvl, hvr⟩ hb _ _ (.inl ⟨ha, rfl⟩) (.inl ⟨ha, rfl⟩)
    have hgd : P.eqGuardType P.depth t = false := by simpa using hg
    rw [show XP + (10000 - XP) = 10000 from rfl] at heq
    refine ⟨.bool (dH ne b), fin ?_ ?_, .base _ _ (.bool _)⟩
    ·rw [hu, hv]; exact run_eqGuard_agg w op t x y _ _ hgd
    ·rw [hu, hv, hop]
     cases ne
     ·show (binOp .eql t _ _).run P w = _
      rw [run_eql_struct, heq]; rfl
     ·show (binOp .neq t _ _).run P w = _
      rw [run_neq_struct, heq]; rfl
  case pointer e =>
   split at h
   ·rename_i hi
    obtain ⟨i, hi⟩ := Option.isSome_iff_exists.1 hi
    obtain ⟨ne, hne, h⟩ := Option.bind_eq_some_iff.1 h
    have hop : op = (bif ne then .neq else .eql) := by cases op <;> simp at hne <;> subst hne <;> rfl
    obtain ⟨m, n, hm, hn, rfl⟩ := QG h
    obtain ⟨p1, q1, e1, e2, e3⟩ := MZ hp
    have r1 := CR hs hm e1
    have r2 := CR hs hn e2
    obtain ⟨z, hz, hr⟩ := Cu (P := P) ne t e i ht e3 r1 r2
    refine ⟨z, fin ?_ (hop ▸ hz), .base _ _ hr⟩
    have hpt : ∀ u, D8 w O μ R p1 u → ∃ A, u = .pointer A := by
     intro u r1
     cases p1 <;> cases q1 <;> simp only [Ct] at e3 <;> try cases e3
     case ptr.nilp =>
      cases r1 with
      | base _ _ h' => cases h'
      | ptr => exact ⟨_, rfl⟩
     case ep.nilp => cases r1 with | base _ _ h' => cases h'; exact ⟨_, rfl⟩
     case nilp.nilp => cases r1 with | base _ _ h' => cases h'; exact ⟨_, rfl⟩
    obtain ⟨A, hA⟩ := hpt _ r1
    rw [hA, eqGuard_at_pointer]
    rfl
   ·cases h
  case interface ms =>
   split at h
   ·obtain ⟨ne, hne, h⟩ := Option.bind_eq_some_iff.1 h
    have hop : op = (bif ne then .neq else .eql) := by cases op <;> simp at hne <;> subst hne <;> rfl
    obtain ⟨m, hm, rfl⟩ := KJ h
    obtain ⟨p1, e1, e3⟩ := Option.bind_eq_some_iff.1 hp
    have r1 := CR hs hm e1
    obtain ⟨z, hz, hr⟩ := Cw (P := P) ne t ms ht e3 r1
    refine ⟨z, fin ?_ (by rw [hop]; exact hz), .base _ _ hr⟩
    have hsh : ∀ u, D8 w O μ R p1 u → u = .nilIface ∨ ∃ k v, u = .iface k v := by
     intro u r1
     cases p1 <;> simp only [Cv] at e3 <;> try cases e3
     case nili => cases r1 with | base _ _ h' => cases h'; exact .inl rfl
     case ifc => cases r1 with | base _ _ h' => cases h'; exact .inr ⟨_, _, rfl⟩
     case err => cases r1 with | base _ _ h' => cases h' with
      | errN => exact .inl rfl
      | errS => exact .inr ⟨_, _, rfl⟩
    show (eqGuard op t x (.const .nilIface) (a.eval x) .nilIface).run P w = _
    unfold eqGuard
    rcases hsh _ r1 with e | ⟨k, v, e⟩ <;> rw [e] <;> cases op <;> simp
   ·cases h
theorem dY [BA] {o : Oper} {io : KY} (h : Ed P o = some io) (hs : V3 w O μ R s a) (hR : PO w O μ R) {p : PV} (hp : pop s R io = some p) :
  ∃ v, (execOp a.eval o).run P w = .ok (.value v) w ∧ D8 w O μ R p v := by
 unfold Ed at h
 cases ho : o.op <;> simp only [ho] at h <;> try cases h
 case move x =>
  obtain ⟨y, hy, rfl⟩ := KJ h
  exact ⟨a.eval x, by simp [execOp, ho], CR hs hy hp⟩
 case assign x =>
  obtain ⟨y, hy, rfl⟩ := KJ h
  exact ⟨a.eval x, by simp [execOp, ho], CR hs hy hp⟩
 case pick c x y =>
  cases h1 : I6 c with
  | none => simp [h1] at h
  | some c' =>
   cases h2 : I6 x with
   | none => simp [h1, h2] at h
   | some x' =>
    cases h3 : I6 y with
    | none => simp [h1, h2, h3] at h
    | some y' =>
     simp only [h1, h2, h3, Option.some.injEq] at h
     subst h
     simp only [pop] at hp
     cases hc : c'.ev s with
     | none => simp [hc] at hp
     | some q =>
      have rc := CR hs h1 hc
      cases q <;> simp only [hc] at hp <;> try cases hp
      case bool t =>
       have hcv := rc.bool_inv
       cases t
       ·exact ⟨a.eval y, by simp [execOp, ho, hcv, asBool], CR hs h3 hp⟩
       ·exact ⟨a.eval x, by simp [execOp, ho, hcv, asBool], CR hs h2 hp⟩
 case binOp op t x y yt => exact tF ho h hs hp
 case unOp op t x =>
  obtain ⟨y, hy, rfl⟩ := KJ h
  obtain ⟨q, hq, hp⟩ := Option.bind_eq_some_iff.1 hp
  obtain ⟨z, hz, hr⟩ := Fv (P := P) op hp (CR hs hy hq)
  exact ⟨z, JW (by simp only [execOp, ho]) hz, .base _ _ hr⟩
 case convert src dst x =>
  cases hsr : P.underlying src with
  | none => simp [hsr] at h
  | some d1 =>
   cases hds : P.underlying dst with
   | none => cases d1 <;> simp [hsr, hds] at h
   | some d2 =>
    cases d1 <;> cases d2 <;> simp only [hsr, hds] at h <;> try cases h
    case int.int k k' =>
     obtain ⟨y, hy, rfl⟩ := KJ h
     obtain ⟨q, hq, hp⟩ := Option.bind_eq_some_iff.1 hp
     have hr := CR hs hy hq
     cases q <;> simp only [Cx] at hp <;> try cases hp
     rename_i k2 n
     have hrun : (convert src dst (a.eval x)).run P w = .ok (.int k' (k'.wrap n)) w := by
      rw [hr.int_inv]
      simp [convert, run_underlying hsr, run_underlying hds, Conv.intToInt]
     exact ⟨.int k' (k'.wrap n), JW (by simp only [execOp, ho]) hrun, .base _ _ (.int _ _)⟩
    case string.string =>
     obtain ⟨y, hy, rfl⟩ := KJ h
     obtain ⟨q, hq, hp⟩ := Option.bind_eq_some_iff.1 hp
     have hr := CR hs hy hq
     cases q <;> simp only [cvtv] at hp <;> try cases hp
     have hrun : (convert src dst (a.eval x)).run P w = .ok (a.eval x) w := by
      rw [hr.str_inv]
      simp [convert, run_underlying hsr, run_underlying hds]
     exact ⟨_, JW (by simp only [execOp, ho]) hrun, hr⟩
    case slice.string e =>
     split at h
     ·rename_i he
      obtain ⟨y, hy, rfl⟩ := KJ h
      obtain ⟨q, hq, hp⟩ := Option.bind_eq_some_iff.1 hp
      have he' := bK he
      obtain ⟨z, hz, hr⟩ := Cy (P := P) hsr hds he' hR (CR hs hy hq) hp
      exact ⟨z, JW (by simp only [execOp, ho]) hz, hr⟩
     ·cases h
 case build t parts =>
  cases ht : P.underlying t with
  | none => simp [ht] at h
  | some d =>
   cases hz : U7 P t with
   | none => cases d <;> simp [ht, hz] at h
   | some z0 =>
    obtain ⟨i, zv, hi, hzv, hzr, hzl, hzp, hzo⟩ := Q8 hz
    cases z0 <;> (try (cases d <;> simp [ht, hz] at h; done))
    rename_i z
    obtain ⟨zs, hzs, hzsl, hzso, hzsr⟩ := (D8.base (μ := μ) (R := R) _ _ (hzr w O)).agg_inv
    have hzero : (zeroValue t).run P w = .ok zv w := by simp [zeroValue, typeInfo, hi, hzv]
    have fin : ∀ {place : Nat → Option (Nat × Nat)}, (UU place parts.toList).map (KY.build z) = some io →
      (∀ {B : Array Value}, Instr.fill place zv.cells (parts.toList.map fun x => (x.1, a.eval x.2)) = some B → (Instr.build t (parts.map fun (i, x) => (i, a.eval x))).run P w = .ok (.agg B) w) →
      ∃ v, (execOp a.eval o).run P w = .ok (.value v) w ∧ D8 w O μ R p v := by
     intro place hcp hrun
     obtain ⟨q, hq, rfl⟩ := Option.map_eq_some_iff.1 hcp
     obtain ⟨hlen, hpl⟩ := cK _ _ hq
     obtain ⟨r, hlay, rfl⟩ := Option.map_eq_some_iff.1 hp
     obtain ⟨B, hB, hBl, hBo, hBr⟩ := kY (w := w) (O := O) (μ := μ) (R := R) (place := place) (s := s) (a := a) parts.toList q z zs r hlen
      (fun j i x off sz y h1 h2 => ⟨(hpl j i x off sz y h1 h2).1, fun p hp => CR hs (hpl j i x off sz y h1 h2).2 hp⟩) hzsl hzso hzsr hlay
     exact ⟨.agg B.toArray, JW (by simp only [execOp, ho]) (hrun (by rw [hzs]; exact hB)), .agg _ _ hBl hBo hBr⟩
    cases d <;> simp only [ht, hz] at h <;> try cases h
    case struct fs =>
     split at h
     ·rename_i hsz
      refine fin h fun {B} hB => ?_
      have hmap : ∀ (l : List Field), (∀ f ∈ l, (PW P f.type).isSome = true) → (l.mapM (m := Sem) fun f => do pure (f.offset, ← sizeOf f.type)).run P w = .ok (l.map fun f => (f.offset, (PW P f.type).getD 0)) w := by
       intro l hl
       induction l with
       | nil => simp
       | cons f r ih =>
        obtain ⟨n, hn⟩ := Option.isSome_iff_exists.1 (hl f (by simp))
        rw [List.mapM_cons]
        simp only [Sem.run_bind, HZ hn, Result.andThen_ok, Sem.run_pure, ih (fun f hf => hl f (by simp [hf])), hn, List.map_cons, Option.getD_some]
      have hall : ∀ f ∈ fs.toList, (PW P f.type).isSome = true := by
       unfold sized at hsz
       exact fun f hf => List.all_eq_true.1 hsz f hf
      have hm2 : (fs.mapM (m := Sem) fun f => do pure (f.offset, ← sizeOf f.type)).run P w = .ok (fs.toList.map fun f => (f.offset, (PW P f.type).getD 0)).toArray w := by
       rw [Array.mapM_eq_mapM_toList, Sem.run_map, hmap _ hall]
       rfl
      have hplace : (fun i => ((fs.toList.map fun f => (f.offset, (PW P f.type).getD 0)).toArray)[i]?) = places P fs := by
       funext i
       unfold places
       simp only [List.getElem?_toArray, List.getElem?_map, Array.getElem?_toList]
       cases hfi : fs[i]? with
       | none => rfl
       | some f =>
        obtain ⟨n, hn⟩ := Option.isSome_iff_exists.1 (hall f (Array.mem_toList_iff.2 (Array.mem_of_getElem? hfi)))
        simp [hn]
      unfold Instr.build
      simp only [Sem.run_bind, hzero, run_underlying ht, Result.andThen_ok, hm2, hplace]
      have : ((parts.map fun (x : Nat × Operand) => (x.1, a.eval x.2)).toList) = parts.toList.map fun x => (x.1, a.eval x.2) := by simp
      rw [this, hB]
      rfl
     ·cases h
    case array n e =>
     obtain ⟨sz, hsz, h⟩ := Option.bind_eq_some_iff.1 h
     refine fin h fun {B} hB => ?_
     unfold Instr.build
     simp only [Sem.run_bind, hzero, run_underlying ht, Result.andThen_ok, HZ hsz]
     have : ((parts.map fun (x : Nat × Operand) => (x.1, a.eval x.2)).toList) = parts.toList.map fun x => (x.1, a.eval x.2) := by simp
     rw [this, hB]
     rfl
 case field t x k =>
  cases ht : P.underlying t with
  | none => simp [ht] at h
  | some d =>
   cases d <;> simp only [ht] at h <;> try cases h
   rename_i fs
   cases hf : fs[k]? with
   | none => simp [hf] at h
   | some f =>
    simp only [hf] at h
    cases hz : PW P f.type with
    | none => simp [hz] at h
    | some sz =>
     cases hag : FQ P f.type with
     | none => simp [hz, hag] at h
     | some ag =>
      simp only [hz, hag] at h
      obtain ⟨y, hy, rfl⟩ := KJ h
      obtain ⟨q, hq, hp⟩ := Option.bind_eq_some_iff.1 hp
      obtain ⟨z, hzz, hr⟩ := Cn (P := P) ht hf hag hz rfl (CR hs hy hq) hp
      exact ⟨z, JW (by simp only [execOp, ho]) hzz, hr⟩
 case fieldAddr t x k =>
  cases ht : P.underlying t with
  | none => simp [ht] at h
  | some d =>
   cases d <;> simp only [ht] at h <;> try cases h
   rename_i fs
   cases hf : fs[k]? with
   | none => simp [hf] at h
   | some f =>
    simp only [hf] at h
    cases hz : PW P f.type with
    | none => simp [hz] at h
    | some sz =>
     simp only [hz] at h
     split at h
     ·cases h
     ·rename_i hne
      obtain ⟨y, hy, rfl⟩ := KJ h
      obtain ⟨q, hq, hp⟩ := Option.bind_eq_some_iff.1 hp
      obtain ⟨z, hzz, hr⟩ := Co (P := P) ht hf hz hne rfl (CR hs hy hq) hp
      exact ⟨z, JW (by simp only [execOp, ho]) hzz, hr⟩
 case index t x i =>
  cases ht : P.underlying t with
  | none => simp [ht] at h
  | some d =>
   cases d <;> simp only [ht] at h <;> try cases h
   case string =>
    obtain ⟨m, n, hm, hn, rfl⟩ := QG h
    obtain ⟨p1, q1, e1, e2, e3⟩ := MZ hp
    obtain ⟨z, hz, hr⟩ := wT (P := P) ht (CR hs hm e1) (CR hs hn e2) e3
    exact ⟨z, JW (by simp only [execOp, ho]) hz, hr⟩
   case array n e =>
    cases hz : PW P e with
    | none => simp [hz] at h
    | some sz =>
     cases hag : FQ P e with
     | none => simp [hz, hag] at h
     | some ag =>
      simp only [hz, hag] at h
      obtain ⟨m, n', hm, hn, rfl⟩ := QG h
      obtain ⟨p1, q1, e1, e2, e3⟩ := MZ hp
      obtain ⟨z, hzz, hr⟩ := wV (P := P) ht hag hz (CR hs hm e1) (CR hs hn e2) e3
      exact ⟨z, JW (by simp only [execOp, ho]) hzz, hr⟩
 case indexAddr t x i =>
  cases ht : P.underlying t with
  | none => simp [ht] at h
  | some d =>
   cases d <;> simp only [ht] at h <;> try cases h
   case slice e =>
    obtain ⟨sz, hsz, h⟩ := Option.bind_eq_some_iff.1 h
    obtain ⟨m, n, hm, hn, rfl⟩ := QG h
    obtain ⟨p1, q1, e1, e2, e3⟩ := MZ hp
    obtain ⟨z, hz, hr⟩ := Ce (P := P) ht hsz (CR hs hm e1) (CR hs hn e2) hR e3
    exact ⟨z, JW (by simp only [execOp, ho]) hz, hr⟩
   case array n e =>
    obtain ⟨sz, hsz, h⟩ := Option.bind_eq_some_iff.1 h
    obtain ⟨m, n', hm, hn, rfl⟩ := QG h
    obtain ⟨p1, q1, e1, e2, e3⟩ := MZ hp
    obtain ⟨z, hz, hr⟩ := Cc (P := P) ht hsz (CR hs hm e1) (CR hs hn e2) e3
    exact ⟨z, JW (by simp only [execOp, ho]) hz, hr⟩
 case slice t x lo hi mx =>
  cases mx with
  | some _ => cases h
  | none =>
   cases ht : P.underlying t with
   | none => simp [ht] at h
   | some d =>
    cases hx : I6 x with
    | none => cases d <;> simp [ht, hx] at h
    | some y =>
     cases hl : ZA lo with
     | none => cases d <;> simp [ht, hx, hl] at h
     | some l =>
      cases hh : ZA hi with
      | none => cases d <;> simp [ht, hx, hl, hh] at h
      | some m =>
       cases d <;> simp only [ht, hx, hl, hh] at h <;> try cases h
       case string.refl =>
        simp only [pop] at hp
        cases e1 : bT s l with
        | none => simp [e1] at hp
        | some pl =>
         cases e2 : bT s m with
         | none => simp [e1, e2] at hp
         | some pm =>
          simp only [e1, e2] at hp
          obtain ⟨q, hq, hp⟩ := Option.bind_eq_some_iff.1 hp
          obtain ⟨g1, g2⟩ := ZZ hs hl e1
          obtain ⟨g3, g4⟩ := ZZ hs hh e2
          obtain ⟨z, hz, hr⟩ := uI (P := P) ht (CR hs hx hq) hp g1 g2 g3 g4
          exact ⟨z, JW (by simp only [execOp, ho, Option.map_none]) hz, hr⟩
       case slice e =>
        obtain ⟨sz, hsz, rfl⟩ := Option.map_eq_some_iff.1 h
        simp only [pop] at hp
        cases e1 : bT s l with
        | none => simp [e1] at hp
        | some pl =>
         cases e2 : bT s m with
         | none => simp [e1, e2] at hp
         | some pm =>
          simp only [e1, e2] at hp
          obtain ⟨q, hq, hp⟩ := Option.bind_eq_some_iff.1 hp
          obtain ⟨g1, g2⟩ := ZZ hs hl e1
          obtain ⟨g3, g4⟩ := ZZ hs hh e2
          obtain ⟨z, hz, hr⟩ := uJ (P := P) ht hsz hR (CR hs hx hq) hp g1 g2 g3 g4
          exact ⟨z, JW (by simp only [execOp, ho, Option.map_none]) hz, hr⟩
       case array n e =>
        cases l with
        | some _ => cases m <;> simp at h
        | none =>
         cases m with
         | some _ => simp at h
         | none =>
          have hlo : lo = none := cO hl
          have hhi : hi = none := cO hh
          subst hlo; subst hhi
          simp only at h
          split at h
          case h_2 => cases h
          rename_i hsz
          cases h
          simp only [pop] at hp
          obtain ⟨q, hq, hp⟩ := Option.bind_eq_some_iff.1 hp
          obtain ⟨z, hz, hr⟩ := uL (P := P) ht hsz (CR hs hx hq) hp
          exact ⟨z, JW (by simp only [execOp, ho, Option.map_none]) hz, hr⟩
 case extract x i =>
  obtain ⟨y, hy, rfl⟩ := KJ h
  obtain ⟨q, hq, hp⟩ := Option.bind_eq_some_iff.1 hp
  obtain ⟨z, hz, hr⟩ := Cq (P := P) (CR hs hy hq) hp
  exact ⟨z, JW (by simp only [execOp, ho]) hz, hr⟩
 case makeFunc fn first caps =>
  cases fn <;> simp only at h <;> try cases h
  case func f =>
   split at h
   ·rename_i hf
    obtain ⟨m, hm, rfl⟩ := Option.map_eq_some_iff.1 h
    obtain ⟨ps, hps, rfl⟩ := Option.map_eq_some_iff.1 hp
    have hc := PH hs _ _ _ hm hps
    have hf0 : first = #[] := Array.size_eq_zero_iff.1 hf
    refine ⟨.func (.func f) #[] (caps.map a.eval), by simp [execOp, ho, hf0, Instr.makeFunc], ?_⟩
    have := D8.clo (w := w) (O := O) (μ := μ) (R := R) f ps _ hc.len hc.rel
    have e : (caps.toList.map a.eval).toArray = caps.map a.eval := by rw [← List.map_toArray, Array.toArray_toList]
    rwa [e] at this
   ·cases h
 case makeInterface t x =>
  split at h
  ·rename_i ht
   obtain ⟨y, hy, rfl⟩ := KJ h
   obtain ⟨q, hq, hp⟩ := Option.bind_eq_some_iff.1 hp
   have hr := CR hs hy hq
   refine ⟨.iface t (a.eval x), JW (by simp only [execOp, ho]) (run_makeInterface w t _ ht), ?_⟩
   cases q <;> simp only [mkiv] at hp <;> cases hp
   ·rw [hr.int_inv]; exact .base _ _ (.ifc _ _ _ (.int _ _))
   ·rw [hr.bool_inv]; exact .base _ _ (.ifc _ _ _ (.bool _))
   ·rw [hr.str_inv]; exact .base _ _ (.ifc _ _ _ (.str _))
  ·cases h
 case nilCheck x =>
  obtain ⟨y, hy, rfl⟩ := KJ h
  obtain ⟨q, hq, hp⟩ := Option.bind_eq_some_iff.1 hp
  exact Bd ho (CR hs hy hq) hp
 case load t x =>
  cases hz : PW P t with
  | none => simp [hz] at h
  | some sz =>
   cases hag : FQ P t with
   | none => simp [hz, hag] at h
   | some ag =>
    simp only [hz, hag] at h
    obtain ⟨y, hy, rfl⟩ := KJ h
    obtain ⟨q, hq, hp⟩ := Option.bind_eq_some_iff.1 hp
    obtain ⟨z, hzz, hr⟩ := kH (P := P) hag hz hR (CR hs hy hq) hp
    exact ⟨z, JW (by simp only [execOp, ho]) hzz, hr⟩
 case call c =>
  unfold Ei at h
  cases hc : c.callee <;> simp only [hc] at h <;> try cases h
  case builtin b =>
   have run : ∀ {v : Value} {f : Array TypeId → TypeId → Array Value → Sem Value}, (∀ ats ty cs args, builtin b ats ty cs args = (do pure (.value (← f ats ty args)))) → (f c.argTypes o.type (c.args.map a.eval)).run P w = .ok v w → (execOp a.eval o).run P w = .ok (.value v) w := by
    intro v f hb hf
    simp only [execOp, ho, resolve, hc]
    simp [invoke, hb, hf]
   cases b <;> simp only at h <;> try cases h
   case len =>
    split at h
    ·rename_i x t hx ht0
     have hargs : c.args = #[x] := by rw [← Array.toArray_toList (xs := c.args), hx]
     have htys : c.argTypes = #[t] := by rw [← Array.toArray_toList (xs := c.argTypes), ht0]
     cases ht : P.underlying t with
     | none => simp [ht] at h
     | some d =>
      cases d <;> simp only [ht] at h <;> try cases h
      case string =>
       obtain ⟨y, hy, rfl⟩ := KJ h
       obtain ⟨q, hq, hp⟩ := Option.bind_eq_some_iff.1 hp
       obtain ⟨z, hz, hr⟩ := vP (P := P) (ty := o.type) ht (CR hs hy hq) hp
       exact ⟨z, run (fun _ _ _ _ => rfl) (by rw [hargs, htys]; simpa using hz), hr⟩
      case slice e =>
       obtain ⟨y, hy, rfl⟩ := KJ h
       obtain ⟨q, hq, hp⟩ := Option.bind_eq_some_iff.1 hp
       obtain ⟨z, hz, hr⟩ := vQ (P := P) (ty := o.type) ht (CR hs hy hq) hp
       exact ⟨z, run (fun _ _ _ _ => rfl) (by rw [hargs, htys]; simpa using hz), hr⟩
    ·cases h
   case max =>
    split at h
    ·rename_i x r hx
     have hargs : c.args = (x :: r).toArray := by rw [← hx, Array.toArray_toList]
     cases h1 : I6 x with
     | none => simp [h1] at h
     | some y =>
      cases h2 : OE r with
      | none => simp [h1, h2] at h
      | some q =>
       simp only [h1, h2, Option.some.injEq] at h
       subst h
       simp only [pop] at hp
       cases e1 : y.ev s with
       | none => simp [e1] at hp
       | some p1 =>
        cases e2 : evs s q with
        | none => simp [e1, e2] at hp
        | some ps =>
         simp only [e1, e2] at hp
         obtain ⟨z, hz, hr⟩ := mV (P := P) (mx := true) (t := 0) (ats := #[]) ps p1 p _ _ (CR hs h1 e1) (PH hs _ _ _ h2 e2) hp
         refine ⟨z, run (f := Builtin.max_) (fun _ _ _ _ => rfl) ?_, hr⟩
         rw [hargs]
         simpa [Builtin.max_] using hz
    ·cases h
   case min =>
    split at h
    ·rename_i x r hx
     have hargs : c.args = (x :: r).toArray := by rw [← hx, Array.toArray_toList]
     cases h1 : I6 x with
     | none => simp [h1] at h
     | some y =>
      cases h2 : OE r with
      | none => simp [h1, h2] at h
      | some q =>
       simp only [h1, h2, Option.some.injEq] at h
       subst h
       simp only [pop] at hp
       cases e1 : y.ev s with
       | none => simp [e1] at hp
       | some p1 =>
        cases e2 : evs s q with
        | none => simp [e1, e2] at hp
        | some ps =>
         simp only [e1, e2] at hp
         obtain ⟨z, hz, hr⟩ := mV (P := P) (mx := false) (t := 0) (ats := #[]) ps p1 p _ _ (CR hs h1 e1) (PH hs _ _ _ h2 e2) hp
         refine ⟨z, run (f := Builtin.min_) (fun _ _ _ _ => rfl) ?_, hr⟩
         rw [hargs]
         simpa [Builtin.min_] using hz
    ·cases h
end
inductive ZT (P : Program) (o : Oper) : KY → Prop
 | alloc (e : TypeId) (p : PV) (ho : o.op = .alloc e) (hz : U7 P e = some p) : ZT P o (.box e (.c p))
 | box (e : TypeId) (y : Operand) (x : DD) (ho : o.op = .box e y) (hx : I6 y = some x) : ZT P o (.box e x)
 | bsl (t e : TypeId) (m : Nat) (parts : Array (Nat × Operand)) (sz : Nat) (z : PV) (xs : List DD) (ho : o.op = .buildSlice t m parts) (ht : P.underlying t = some (.slice e)) (hsz : PW P e = some sz)
   (hz : U7 P e = some z) (hm : m = parts.size) (hp : parts.toList.map (·.1) = List.range m) (hb : m * sz ≤ 16777216) (h0 : 0 < m) (hx : OE (parts.toList.map (·.2)) = some xs) : ZT P o (.bsl sz xs)
 | mks (t e : TypeId) (l c : Operand) (i : TypeInfo) (z : PV) (x : DD) (ho : o.op = .makeSlice t l c) (ht : P.underlying t = some (.slice e)) (hi : P.info? e = some i) (hz : U7 P e = some z)
   (hl : I6 l = some x) (hc : I6 c = some x) : ZT P o (.mks i.size i.bytes z x)
 | store (t : TypeId) (a' x' : Operand) (sz : Nat) (p q : DD) (ho : o.op = .store t a' x') (hsz : PW P t = some sz) (ha : I6 a' = some p) (hx : I6 x' = some q) : ZT P o (.store sz p q)
 | cvs (src dst e : TypeId) (x : Operand) (y : DD) (ho : o.op = .convert src dst x) (hs : P.underlying src = some .string) (hd : P.underlying dst = some (.slice e)) (he : P.underlying e = some (.int .u8)) (hx : I6 x = some y) : ZT P o (.cvs y)
 | call (c : Call) (f : FuncId) (xs : List DD) (ho : o.op = .call c) (hc : c.callee = .value (.func f)) (hf : TP P f = true) (hx : OE c.args.toList = some xs) : ZT P o (.call f xs)
 | calv (c : Call) (g : Operand) (f : DD) (xs : List DD) (ho : o.op = .call c) (hc : c.callee = .value g) (hg : I6 g = some f) (hx : OE c.args.toList = some xs) : ZT P o (.calv f xs)
 | app (c : Call) (x y : Operand) (t u e e' : TypeId) (i : TypeInfo) (z : Value) (p q : DD) (ho : o.op = .call c) (hc : c.callee = .builtin .append) (ha : c.args.toList = [x, y]) (hat : c.argTypes.toList = [t, u])
   (ht : P.underlying t = some (.slice e)) (hu : P.underlying u = some (.slice e')) (hi : P.info? e = some i) (hz : i.zero = some z) (hzs : z.cells.size = i.size) (h0 : 0 < i.size) (hb : i.bytes ≤ 281474976710656)
   (hx : I6 x = some p) (hy : I6 y = some q) : ZT P o (.app e i.size i.bytes p q)
 | aps (c : Call) (x y : Operand) (t u e : TypeId) (i : TypeInfo) (z : Value) (p q : DD) (ho : o.op = .call c) (hc : c.callee = .builtin .append) (ha : c.args.toList = [x, y]) (hat : c.argTypes.toList = [t, u])
   (ht : P.underlying t = some (.slice e)) (hu : P.underlying u = some .string) (hi : P.info? e = some i) (hz : i.zero = some z) (hzs : z.cells.size = i.size) (h0 : i.size = 1) (hb : i.bytes = 1)
   (hx : I6 x = some p) (hy : I6 y = some q) : ZT P o (.aps e p q)
theorem JJ [BA] {P : Program} {o : Oper} {io : KY} (h : SN P o = some io) : ZT P o io := by
 unfold SN at h
 cases ho : o.op <;> simp only [ho] at h <;> try cases h
 case alloc e =>
  obtain ⟨p, hz, rfl⟩ := Option.map_eq_some_iff.1 h
  exact .alloc e p ho hz
 case box e y =>
  obtain ⟨x, hx, rfl⟩ := KJ h
  exact .box e y x ho hx
 case buildSlice t m parts =>
  cases ht : P.underlying t with
  | none => simp [ht] at h
  | some d =>
   cases d <;> simp only [ht] at h <;> try cases h
   rename_i e
   cases hsz : PW P e with
   | none => simp [hsz] at h
   | some sz =>
    cases hz : U7 P e with
    | none => simp [hsz, hz] at h
    | some z =>
     simp only [hsz, hz] at h
     split at h
     ·rename_i hc
      obtain ⟨xs, hx, rfl⟩ := Option.map_eq_some_iff.1 h
      exact .bsl t e m parts sz z xs ho ht hsz hz hc.1 hc.2.1 hc.2.2.1 hc.2.2.2 hx
     ·cases h
 case makeSlice t l c =>
  cases ht : P.underlying t with
  | none => simp [ht] at h
  | some d =>
   cases d <;> simp only [ht] at h <;> try cases h
   rename_i e
   cases hi : P.info? e with
   | none => simp [hi] at h
   | some i =>
    cases hz : U7 P e with
    | none => simp [hi, hz] at h
    | some z =>
     cases hl : I6 l with
     | none => simp [hi, hz, hl] at h
     | some x =>
      cases hc : I6 c with
      | none => simp [hi, hz, hl, hc] at h
      | some y =>
       simp only [hi, hz, hl, hc] at h
       obtain ⟨rfl, rfl⟩ := yK h
       exact .mks t e l c i z x ho ht hi hz hl hc
 case store t a' x' =>
  obtain ⟨sz, hsz, h⟩ := Option.bind_eq_some_iff.1 h
  obtain ⟨p, q, hp, hq, rfl⟩ := QG h
  exact .store t a' x' sz p q ho hsz hp hq
 case convert src dst x =>
  cases hs : P.underlying src with
  | none => simp [hs] at h
  | some d1 =>
   cases hd : P.underlying dst with
   | none => cases d1 <;> simp [hs, hd] at h
   | some d2 =>
    cases d1 <;> cases d2 <;> simp only [hs, hd] at h <;> try cases h
    case string.slice e =>
     split at h
     ·rename_i he
      obtain ⟨y, hy, rfl⟩ := KJ h
      exact .cvs src dst e x y ho hs hd (bK he) hy
     ·cases h
 case call c =>
  unfold yN at h
  cases hc : c.callee <;> simp only [hc] at h <;> try cases h
  case value g =>
   have gen : ∀ {f : DD} {xs : List DD}, I6 g = some f → OE c.args.toList = some xs → ZT P o (.calv f xs) := fun hg hx => .calv c g _ _ ho hc hg hx
   cases g <;> simp only at h
   case func f =>
    split at h
    ·rename_i hf
     obtain ⟨xs, hx, rfl⟩ := Option.map_eq_some_iff.1 h
     exact .call c f xs ho hc hf hx
    ·cases h
   all_goals
    split at h
    ·cases h; exact gen (by assumption) (by assumption)
    ·cases h
  case builtin b =>
   cases b <;> simp only at h <;> try cases h
   case append =>
    split at h
    ·rename_i x y t u ha hat
     split at h
     ·rename_i e e' ht hu
      cases hi : P.info? e with
      | none => simp [hi] at h
      | some i =>
       cases hz : i.zero with
       | none => simp [hi, hz] at h
       | some z =>
        simp only [hi, hz] at h
        split at h
        ·rename_i hcond
         obtain ⟨p, q, hp, hq, rfl⟩ := QG h
         exact .app c x y t u e e' i z p q ho hc ha hat ht hu hi hz hcond.1 hcond.2.1 hcond.2.2 hp hq
        ·cases h
     ·rename_i e ht hu
      cases hi : P.info? e with
      | none => simp [hi] at h
      | some i =>
       cases hz : i.zero with
       | none => simp [hi, hz] at h
       | some z =>
        simp only [hi, hz] at h
        split at h
        ·rename_i hcond
         obtain ⟨p, q, hp, hq, rfl⟩ := QG h
         exact .aps c x y t u e i z p q ho hc ha hat ht hu hi hz hcond.1 hcond.2.1 hcond.2.2 hp hq
        ·cases h
     ·cases h
    ·cases h
section
variable {w0 w : World} {O : Nat → Prop} {L : MN} {n : Nat} {μ : Mu} {R : Rows} {P : Program} {st : St} {a : Act}
def PV.free (p : PV) : Bool := p.tk fun _ => false
theorem D8.free {w : World} {O : Nat → Prop} {μ : Mu} {R : Rows} {p : PV} {v : Value} (h : D8 w O μ R p v) (hf : p.tk (fun _ => false) = true) : DZ w O p v := by
 induction h with
 | base p v h => exact h
 | slr t lo n c row l hr hm hn hc hroom => simp [PV.tk] at hf
 | slr0 t lo row A hr hn => simp [PV.tk] at hf
 | ptr t i off row l hr hm hi ho => simp [PV.tk] at hf
 | clo g caps vs hl h ih => exact .clo g caps vs hl fun j p v hj hv => ih j p v hj hv (PV.tks_mem (by simpa [PV.tk] using hf) p (List.mem_of_getElem? hj))
 | agg cs vs hl hs h ih => exact .agg cs vs hl hs fun j p v hj hv => ih j p v hj hv (PV.tks_mem (by simpa [PV.tk] using hf) p (List.mem_of_getElem? hj))
 | tup cs vs hl h ih => exact .tup cs vs hl fun j p v hj hv => ih j p v hj hv (PV.tks_mem (by simpa [PV.tk] using hf) p (List.mem_of_getElem? hj))
theorem PV.free_cells [BA] {p : PV} (h : p.free = true) : ∀ q ∈ p.cells, q.tk (fun _ => false) = true := PV.tk_of_tks h
def Done (P : Program) (o : Oper) (a : Act) (w : World) (a' : Act) (w' : World) : Prop :=
 (∃ v, (execOp a.eval o).run P w = .ok (.value v) w' ∧ a' = a.put o.dst v) ∨ ((execOp a.eval o).run P w = .ok .skip w' ∧ a' = a.put o.dst undef)
theorem BJ.slots [BA] (h : BJ w0 O L n μ st a w) : V3 w (Av O μ st.r) μ st.r st.s a := h.slot
theorem BJ.rows [BA] (h : BJ w0 O L n μ st a w) : PO w (Av O μ st.r) μ st.r := h.row
theorem uX [BA] {o : Oper} {io : KY} (hc : Ed P o = some io) (hd : ∀ d, o.dst = some d → d < n) (h : BJ w0 O L n μ st a w) {p : PV} (hp : pop st.s st.r io = some p) :
  ∃ a' w', Done P o a w a' w' ∧ ∃ μ', BJ w0 O L n μ' (st.put o.dst p) a' w' := by
 obtain ⟨v, hv, hr⟩ := dY hc h.slots h.rows hp
 exact ⟨_, w, .inl ⟨v, hv, rfl⟩, μ, h.put o.dst hd hr⟩
theorem l7 [BA] {ps : List PV} {us : List Value} (h : EK w O μ R ps us) {sz : Nat} (hs : ∀ p ∈ ps, p.cells.length = sz) (hf : ∀ p ∈ ps, p.free = true) :
  (us.flatMap fun u => u.cells.toList).length = ps.length * sz ∧ ∀ (i : Nat) (x : PV) (j : Nat) (q : PV), ps[i]? = some x → x.cells[j]? = some q →
   ∃ v, (us.flatMap fun u => u.cells.toList)[i * sz + j]? = some v ∧ DZ w O q v := by
 induction ps generalizing us with
 | nil =>
  cases us with
  | nil => exact ⟨by simp, fun i x j q hi => by simp at hi⟩
  | cons => exact absurd h.len (by simp)
 | cons p ps ih =>
  cases us with
  | nil => exact absurd h.len (by simp)
  | cons u us =>
   have hr := h.rel 0 p u rfl rfl
   obtain ⟨vs, h1, h2, h3⟩ := hr.cells
   have hp := hs p (by simp)
   obtain ⟨e1, e2⟩ := ih (us := us) ⟨by simpa using h.len, fun j p' u' hj hu => h.rel (j + 1) p' u' (by simpa using hj) (by simpa using hu)⟩ (fun p hp => hs p (by simp [hp])) (fun p hp => hf p (by simp [hp]))
   have hul : u.cells.toList.length = sz := by rw [h1]; simp; omega
   refine ⟨?_, fun i x j q hi hj => ?_⟩
   ·rw [List.flatMap_cons, List.length_append, hul, e1, List.length_cons, Nat.add_mul]; omega
   ·rw [List.flatMap_cons]
    cases i with
    | zero =>
     simp at hi
     subst hi
     obtain ⟨hlt, _⟩ := List.getElem?_eq_some_iff.1 hj
     have hv : vs[j]? = some (vs[j]'(by omega)) := List.getElem?_eq_getElem (by omega)
     refine ⟨vs[j]'(by omega), ?_, (h3 j q _ hj hv).free (PV.free_cells (hf p (by simp)) q (List.mem_of_getElem? hj))⟩
     rw [Nat.zero_mul, Nat.zero_add, List.getElem?_append_left (by omega), h1]
     exact hv
    | succ i =>
     obtain ⟨v, hv, hrel⟩ := e2 i x j q (by simpa using hi) hj
     refine ⟨v, ?_, hrel⟩
     rw [List.getElem?_append_right (by rw [hul, Nat.add_mul]; omega), hul, ← hv]
     congr 1
     rw [Nat.add_mul]
     omega
theorem vH [BA] {p : PV} {v : Value} (hv : D8 w O μ R p v) : ∀ (i : Nat) (x : PV) (j : Nat) (q : PV), [p][i]? = some x → x.cells[j]? = some q →
  ∃ u, v.cells[i * p.cells.length + j]? = some u ∧ D6 w O μ R false q u := by
 intro i x j q hi hj
 cases i with
 | succ i => simp at hi
 | zero =>
  simp at hi
  subst hi
  obtain ⟨vs, h1, h2, h3⟩ := hv.cells
  obtain ⟨hlt, _⟩ := List.getElem?_eq_some_iff.1 hj
  have hu : vs[j]? = some (vs[j]'(by omega)) := List.getElem?_eq_getElem (by omega)
  exact ⟨vs[j]'(by omega), by rw [h1]; simp, h3 j q _ hj hu⟩
def uB (t e : Nat) : Bool := match IP t with
 | none => true
 | some k => Nat.beq k e
theorem rF {t e : Nat} (h : uB t e = true) : ∀ k, IP t = some k → e = k := by
 intro k hk
 unfold uB at h
 rw [hk] at h
 exact (Nat.eq_of_beq_eq_true h).symm
theorem yR [BA] {o : Oper} {e0 : Nat} {x : DD} (hc : SN P o = some (.box e0 x)) (hd : ∀ d, o.dst = some d → d < n) (h : BJ w0 O L n μ st a w) {p : PV} (hp : x.ev st.s = some p) (hpos : 0 < p.cells.length)
  (hone : ∀ q ∈ p.cells, q.one = true) (t : Nat) (ht : st.r t = none) (hty : uB t e0 = true) :
  ∃ a' w', Done P o a w a' w' ∧ ∃ μ', BJ w0 O L n μ' (St.put ⟨st.s, upd st.r t (some ⟨p.cells.length, false, [p]⟩)⟩ o.dst (.ptr t 0 0)) a' w' := by
 have key : ∀ (e : TypeId) (v : Value), e = e0 → D8 w (Av O μ st.r) μ st.r p v → (execOp a.eval o).run P w = .ok (.value (.pointer (some ⟨w.heap.size, 0, none⟩))) (w.alloc (.cells v.cells e)) →
   ∃ a' w', Done P o a w a' w' ∧ ∃ μ', BJ w0 O L n μ' (St.put ⟨st.s, upd st.r t (some ⟨p.cells.length, false, [p]⟩)⟩ o.dst (.ptr t 0 0)) a' w' := by
  intro e v he hv hrun
  obtain ⟨vs, hv1, hv2, hv3⟩ := hv.cells
  have h' := h.alloc t ht ⟨p.cells.length, false, [p]⟩ v.cells e (0, 0) hpos (fun q hq => by simp at hq; subst hq; exact ⟨rfl, hone⟩) (by rw [hv1]; simp [hv2]) (fun j _ hj => by simp at hj) (fun k hk => ⟨he.trans (rF hty k hk), fun _ => ⟨rfl, by rw [hv1]; simp [hv2]⟩⟩)
   (vH hv)
  refine ⟨_, _, .inl ⟨_, hrun, rfl⟩, _, h'.put o.dst hd ?_⟩
  have := D8.ptr (w := w.alloc (.cells v.cells e)) (O := Av O (upd μ t (some ⟨w.heap.size, 0, v.cells.size⟩)) (upd st.r t (some ⟨p.cells.length, false, [p]⟩))) (μ := upd μ t (some ⟨w.heap.size, 0, v.cells.size⟩))
   (R := upd st.r t (some ⟨p.cells.length, false, [p]⟩)) t 0 0 ⟨p.cells.length, false, [p]⟩ ⟨w.heap.size, 0, v.cells.size⟩ (upd_same _ _ _) (upd_same _ _ _) (by simp) hpos
  simpa using this
 cases JJ hc with
 | alloc e p' ho hz =>
  cases hp
  obtain ⟨i, z, hi, hzv, hzr, _, _, _⟩ := Q8 hz
  refine key _ z rfl (.base _ _ (hzr w _)) ?_
  simp only [execOp, ho]
  simp [Instr.alloc, zeroValue, typeInfo, hi, hzv, newVar, newRow]
 | box e y _ ho hx =>
  refine key _ (a.eval y) rfl (CR h.slots hx hp) ?_
  simp only [execOp, ho]
  simp [Instr.box, newVar, newRow]
theorem XH [BA] {o : Oper} (hd : ∀ d, o.dst = some d → d < n) (h : BJ w0 O L n μ st a w) {ps : List PV} {sz : Nat} (hsz : 0 < sz) (hel : ∀ p ∈ ps, p.cells.length = sz ∧ ∀ q ∈ p.cells, q.one = true)
  (t : Nat) (ht : st.r t = none) {arr : Array Value} {e : TypeId} (hty : ∀ k, IP t = some k → e = k) {fz : Nat × Nat} (hfz : ∀ j, j < arr.size → ¬ (fz.1 ≤ j ∧ j < fz.2)) {c : Nat} (hc : ps.length ≤ c) (hroom : c * sz ≤ arr.size)
  (hcells : ∀ (i : Nat) (x : PV) (j : Nat) (q : PV), ps[i]? = some x → x.cells[j]? = some q → ∃ v, arr[i * sz + j]? = some v ∧ DZ w (Av O μ st.r) q v) {w1 : World} (hw1 : w1 = w.drew ∨ w1 = w)
  (hrun : (execOp a.eval o).run P w = .ok (.value (.slice (some ⟨w.heap.size, 0, none⟩) ps.length c)) (w1.alloc (.cells arr e fz))) :
  ∃ a' w', Done P o a w a' w' ∧ ∃ μ', BJ w0 O L n μ' (St.put ⟨st.s, upd st.r t (some ⟨sz, true, ps⟩)⟩ o.dst (.slr t 0 ps.length)) a' w' := by
 have hs1 : w1.heap = w.heap := by rcases hw1 with rfl | rfl <;> rfl
 have h1 : BJ w0 O L n μ st a w1 := by
  rcases hw1 with rfl | rfl
  ·exact h.drew
  ·exact h
 have h' := h1.alloc t ht ⟨sz, true, ps⟩ arr e fz hsz hel (Nat.le_trans (Nat.mul_le_mul_right _ hc) hroom) hfz (fun k hk => ⟨hty k hk, fun hp => by cases hp⟩) (fun i x j q hi hj => by
  obtain ⟨v, hv, hr⟩ := hcells i x j q hi hj
  exact ⟨v, hv, by unfold D6; rw [if_pos rfl]; exact hr.frame (fun b _ _ => by rw [hs1]) (fun _ _ h => h)⟩)
 rw [show w1.heap.size = w.heap.size by rw [hs1]] at h'
 refine ⟨_, _, .inl ⟨_, hrun, rfl⟩, _, h'.put o.dst hd ?_⟩
 have := D8.slr (w := w1.alloc (.cells arr e fz)) (O := Av O (upd μ t (some ⟨w.heap.size, 0, arr.size⟩)) (upd st.r t (some ⟨sz, true, ps⟩))) (μ := upd μ t (some ⟨w.heap.size, 0, arr.size⟩))
  (R := upd st.r t (some ⟨sz, true, ps⟩)) t 0 ps.length c ⟨sz, true, ps⟩ ⟨w.heap.size, 0, arr.size⟩ (upd_same _ _ _) (upd_same _ _ _) (by simp) hc (by simpa using hroom)
 simpa using this
end
theorem UQ [BA] (sz : Nat) (hsz : 0 < sz) : ∀ (pl : List (Nat × Value)) (k : Nat) (A : List Value), (∀ x ∈ pl, x.2.cells.size = sz) → pl.map (·.1) = List.range' k pl.length → A.length = (k + pl.length) * sz →
  Instr.fill (fun i => some (i * sz, sz)) A.toArray pl = some (A.take (k * sz) ++ pl.flatMap fun x => x.2.cells.toList).toArray
 | [], k, A, _, _, hA => by
  simp only [Instr.fill, List.flatMap_nil, List.append_nil]
  rw [List.take_of_length_le (by simp at hA; omega)]
 | (i, v) :: pl, k, A, hc, hi, hA => by
  simp only [List.map_cons, List.length_cons, List.range'_succ, List.cons.injEq] at hi
  obtain ⟨rfl, hi⟩ := hi
  have hv : v.cells.size = sz := hc (i, v) (by simp)
  simp only [List.length_cons] at hA
  have hA' : i * sz + sz + pl.length * sz = A.length := by rw [hA, Nat.add_mul, Nat.add_mul]; omega
  simp only [Instr.fill]
  rw [hv, if_neg (by simp; omega)]
  have hsp := VM v.cells.toList 0 (i * sz) A.toArray (by simp [hv]; omega)
  have hfold : (v.cells.zipIdx.foldl (fun cs (x : Value × Nat) => cs.setIfInBounds (i * sz + x.2) x.1) A.toArray) = (A.take (i * sz) ++ v.cells.toList ++ A.drop (i * sz + sz)).toArray := by
   apply Array.toList_inj.1
   rw [← Array.foldl_toList]
   simp only [Array.toList_zipIdx]
   rw [hsp]
   simp [hv]
  rw [show (fun (cs : Array Value) (x : Value × Nat) => match x with | (c, j) => cs.setIfInBounds (i * sz + j) c) = fun cs x => cs.setIfInBounds (i * sz + x.2) x.1 from rfl, hfold]
  rw [UQ sz hsz pl (i + 1) _ (fun x hx => hc x (by simp [hx])) hi (by simp [hv]; rw [Nat.add_mul, Nat.add_mul]; omega)]
  congr 1
  rw [List.flatMap_cons, ← List.append_assoc]
  congr 2
  have l1 : (A.take (i * sz)).length = i * sz := by simp; omega
  have l2 : v.cells.toList.length = sz := by simpa using hv
  rw [List.take_append_of_le_length (by simp [hv]; rw [Nat.add_mul]; omega), List.take_of_length_le (by simp [hv]; rw [Nat.add_mul]; omega)]
section
variable {w0 w : World} {O : Nat → Prop} {L : MN} {n : Nat} {μ : Mu} {R : Rows} {P : Program} {st : St} {a : Act}
theorem lM [BA] {o : Oper} {sz : Nat} {xs : List DD} (hc : SN P o = some (.bsl sz xs)) (hd : ∀ d, o.dst = some d → d < n) (h : BJ w0 O L n μ st a w) {ps : List PV} (hp : evs st.s xs = some ps)
  (hel : ∀ p ∈ ps, p.cells.length = sz ∧ (∀ q ∈ p.cells, q.one = true) ∧ p.free = true) (t : Nat) (ht : st.r t = none) (hty : IP t = none) :
  ∃ a' w', Done P o a w a' w' ∧ ∃ μ', BJ w0 O L n μ' (St.put ⟨st.s, upd st.r t (some ⟨sz, true, ps⟩)⟩ o.dst (.slr t 0 ps.length)) a' w' := by
 cases JJ hc with
 | bsl t' e m parts _ z _ ho htt hsz hz hm hpi hb h0 hx =>
  obtain ⟨i, zv, hi, hzv, hzr, hzl, hzp, hzo⟩ := Q8 hz
  have hsz' : i.size = sz := by simp [PW, hi] at hsz; exact hsz
  have hr := PH h.slots _ _ _ hx hp
  obtain ⟨e1, e2⟩ := l7 hr (fun p hp => (hel p hp).1) (fun p hp => (hel p hp).2.2)
  have hlen : ps.length = m := by have := hr.len; simp at this; omega
  have hpos : 0 < sz := by omega
  have hzc : zv.cells.size = sz := by
   obtain ⟨vs, h1, h2, _⟩ := (D8.base (μ := μ) (R := st.r) _ _ (hzr w O)).cells
   rw [h1]; simp; omega
  have hfill : ∀ (A : Array Value), A.size = m * sz → Instr.fill (fun i => some (i * sz, sz)) A (parts.toList.map fun x => (x.1, a.eval x.2)) =
    some (((parts.toList.map (·.2)).map a.eval).flatMap fun u => u.cells.toList).toArray := by
   intro A hA
   have := UQ sz hpos (parts.toList.map fun x => (x.1, a.eval x.2)) 0 A.toList (fun x hx => by
    obtain ⟨⟨i, y⟩, hy, rfl⟩ := List.mem_map.1 hx
    obtain ⟨j, hj⟩ := List.getElem?_of_mem hy
    have hj2 : ((parts.toList.map (·.2)).map a.eval)[j]? = some (a.eval y) := by simp [hj]
    obtain ⟨hlt, _⟩ := List.getElem?_eq_some_iff.1 hj2
    have hpj : ps[j]? = some (ps[j]'(by have := hr.len; omega)) := List.getElem?_eq_getElem (by have := hr.len; omega)
    have hrel := hr.rel j _ _ hpj hj2
    obtain ⟨vs, h1, h2, _⟩ := hrel.cells
    rw [h1]
    have := (hel _ (List.mem_of_getElem? hpj)).1
    simp
    omega) (by rw [List.map_map, show ((fun (x : Nat × Value) => x.1) ∘ fun (x : Nat × Operand) => (x.1, a.eval x.2)) = (fun x => x.1) from rfl]; simpa [List.range_eq_range', hm] using hpi) (by simp [hA, hm])
   rw [Array.toArray_toList] at this
   rw [this]
   simp [List.flatMap_map]
  have hA : ((Array.range (m * sz)).map (fun j => zv.cells[j % zv.cells.size]!)).size = m * sz := by simp
  have hrun : (execOp a.eval o).run P w = .ok (.value (.slice (some ⟨w.heap.size, 0, none⟩) ps.length m)) (w.alloc (.cells (((parts.toList.map (·.2)).map a.eval).flatMap fun u => u.cells.toList).toArray e)) := by
   simp only [execOp, ho]
   have hmz : m * sz ≠ 0 := Nat.mul_ne_zero (by omega) (by omega)
   have hzero : (zeroValue e).run P w = .ok zv w := by simp [zeroValue, typeInfo, hi, hzv]
   have hlist : (parts.map fun (x : Nat × Operand) => (x.1, a.eval x.2)).toList = parts.toList.map fun x => (x.1, a.eval x.2) := by simp
   unfold Instr.buildSlice
   simp only [Sem.run_bind, run_underlying htt, Result.andThen_ok, HZ hsz, Sem.run_ite, if_neg (show ¬ m * sz > 2 ^ 24 by omega), Sem.run_pure, if_neg hmz, hzero, hlist, hfill _ hA]
   simp [newRow, hlen]
  refine XH hd h hpos (fun p hp => ⟨(hel p hp).1, (hel p hp).2.1⟩) t ht (fun k hk => by rw [hty] at hk; cases hk) (fz := (0, 0)) (fun j _ hj => by simp at hj) (by omega) (by simp only [List.size_toArray, e1, hlen]; exact Nat.le_refl _) (fun i x j q hi hj => ?_) (.inr rfl) hrun
  obtain ⟨v, hv, hrel⟩ := e2 i x j q hi hj
  exact ⟨v, by simpa using hv, hrel⟩
def JN (s : List UInt8) : List PV := s.map fun b => .int .u8 (b.toNat : Int)
def WS (s : List UInt8) (k : Nat) : Array Value := ((s.map fun b => Value.int .u8 (b.toNat : Int)) ++ List.replicate k (Value.int .u8 0)).toArray
theorem NT (s : List UInt8) : (JN s).length = s.length := by simp [JN]
theorem lK (s : List UInt8) (k : Nat) : (WS s k).size = s.length + k := by simp [WS]
theorem yC [BA] {o : Oper} {x : DD} (hc : SN P o = some (.cvs x)) (hd : ∀ d, o.dst = some d → d < n) (h : BJ w0 O L n μ st a w) {s : List UInt8} (hp : x.ev st.s = some (.str s)) (t : Nat) (ht : st.r t = none) (hty : IP t = none) :
  ∃ a' w', Done P o a w a' w' ∧ ∃ μ', BJ w0 O L n μ' (St.put ⟨st.s, upd st.r t (some ⟨1, true, JN s⟩)⟩ o.dst (.slr t 0 s.length)) a' w' := by
 cases JJ hc with
 | cvs src dst e x' _ ho hs hdst he hx =>
  have hr := (CR h.slots hx hp).str_inv
  have hbs : (⟨s.toArray⟩ : ByteArray).size = s.length := List.size_toArray
  have hcap : s.length ≤ grownCap w s.length 0 e := by
   unfold grownCap
   simp only [Question.cut]
   omega
  have hrow : bytesRow ⟨s.toArray⟩ (grownCap w s.length 0 e) = WS s (grownCap w s.length 0 e - s.length) := by
   apply Array.toList_inj.1
   simp [WS, bytesRow, hbs]
  generalize hcp : grownCap w s.length 0 e = cap at hcap hrow
  rw [← NT s]
  have hsz : (WS s (cap - s.length)).size = cap := by rw [lK]; omega
  have hrun : (execOp a.eval o).run P w = .ok (.value (.slice (some ⟨w.heap.size, 0, none⟩) (JN s).length cap)) (w.drew.alloc (.cells (WS s (cap - s.length)) e (cap, cap + 1))) := by
   have h1 := run_bytes_of_string (P := P) w src dst e ⟨s.toArray⟩ hs hdst he
   rw [hbs, hcp, hrow, hsz] at h1
   simp only [execOp, ho, hr, NT]
   rw [Sem.run_bind, h1]
   rfl
  refine XH hd h (Nat.one_pos) (fun p hp => by
   obtain ⟨b, _, rfl⟩ := List.mem_map.1 hp
   exact ⟨rfl, fun q hq => by simp [PV.cells] at hq; subst hq; rfl⟩) t ht (fun k hk => by rw [hty] at hk; cases hk) (fun j hj hf => by rw [hsz] at hj; simp only at hf; omega) (by rw [NT]; omega) (by rw [hsz]; omega) (fun i y j q hi hj => ?_) (.inl rfl) hrun
  unfold JN at hi
  rw [List.getElem?_map] at hi
  obtain ⟨b, hb, rfl⟩ := Option.map_eq_some_iff.1 hi
  cases j with
  | succ j => simp [PV.cells] at hj
  | zero =>
   simp [PV.cells] at hj
   subst hj
   refine ⟨.int .u8 (b.toNat : Int), ?_, .int _ _⟩
   obtain ⟨hlt, _⟩ := List.getElem?_eq_some_iff.1 hb
   simp only [WS, Nat.mul_one, Nat.add_zero, List.getElem?_toArray]
   rw [List.getElem?_append_left (by simpa using hlt), List.getElem?_map, hb]
   rfl
end
theorem PX [BA] {P : Program} (g : Nat) (ety : TypeId) (fz : Nat × Nat) : ∀ (vs : List Value) (o i : Nat) (w : World) (arr : Array Value), w.heap[g]? = some (.cells arr ety fz) → o + i + vs.length ≤ arr.size →
  (∀ j, o + i ≤ j → j < o + i + vs.length → ¬ (fz.1 ≤ j ∧ j < fz.2)) → (∀ v ∈ vs, v.oneCell' = true) →
  ∃ w' arr', (storeCells ⟨g, o, none⟩ vs i).run P w = .ok () w' ∧ Fr (fun b => b = g) w w' ∧ w'.heap.size = w.heap.size ∧ w'.heap[g]? = some (.cells arr' ety fz) ∧ arr'.size = arr.size ∧
   (∀ j, arr'[j]? = if o + i ≤ j ∧ j < o + i + vs.length then vs[j - (o + i)]? else arr[j]?)
 | [], o, i, w, arr, hg, _, _, _ => ⟨w, arr, rfl, Fr.refl _ _, rfl, hg, rfl, fun j => by
   have : ¬ (o + i ≤ j ∧ j < o + i + ([] : List Value).length) := by simp
   rw [if_neg this]⟩
 | v :: vs, o, i, w, arr, hg, hle, hfz, hone => by
  simp only [List.length_cons] at hle
  have hv := hone v (by simp)
  have hcell : w.cell? ⟨g, o + i, none⟩ = some (arr[o + i]'(by omega)) := by
   simp [World.cell?, hg, Array.getElem?_eq_getElem (show o + i < arr.size by omega)]
  have hfr : w.frozen? ⟨g, o + i, none⟩ = false := by
   have := hfz (o + i) (Nat.le_refl _) (by simp)
   simp only [World.frozen?, hg]
   simpa using this
  have hst : (store ((⟨g, o, none⟩ : Addr).add i) v).run P w = .ok () (w.setCell ⟨g, o + i, none⟩ v) := by
   rw [Addr.add_lit, run_store P w _ v _ hv, hcell]
   simp [hfr]
  have hg' : (w.setCell ⟨g, o + i, none⟩ v).heap[g]? = some (.cells (arr.setIfInBounds (o + i) v) ety fz) := by
   simp only [World.setCell, Array.getElem?_modify, if_pos rfl, hg]
   rfl
  obtain ⟨w', arr', h1, h2, h3, h4, h5, h6⟩ := PX (P := P) g ety fz vs o (i + 1) (w.setCell ⟨g, o + i, none⟩ v) (arr.setIfInBounds (o + i) v) hg' (by simp; omega)
   (fun j hj1 hj2 => hfz j (by omega) (by simp; omega)) (fun u hu => hone u (by simp [hu]))
  refine ⟨w', arr', ?_, ?_, by rw [h3]; simp [World.setCell], h4, by rw [h5]; simp, fun j => ?_⟩
  ·simp only [storeCells, Sem.run_bind, hst, Result.andThen_ok]
   exact h1
  ·refine Fr.trans (L := fun b => b = g) (b := w.setCell ⟨g, o + i, none⟩ v) ⟨rfl, rfl, rfl, by simp [World.setCell], fun b hb hne => Below.heap_setCell _ _ _ _ hne⟩ h2 (fun _ _ h => h)
  ·rw [h6]
   by_cases hj : j = o + i
   ·subst hj
    rw [if_neg (by omega), if_pos (by simp)]
    simp [show o + i < arr.size by omega]
   ·by_cases hj2 : o + (i + 1) ≤ j ∧ j < o + (i + 1) + vs.length
    ·rw [if_pos hj2, if_pos (by simp; omega)]
     rw [show j - (o + i) = (j - (o + (i + 1))) + 1 by omega]
     rfl
    ·rw [if_neg hj2, if_neg (by simp; omega)]
     rw [Array.getElem?_setIfInBounds_ne (by omega)]
section
variable {w0 w : World} {O : Nat → Prop} {L : MN} {n : Nat} {μ : Mu} {R : Rows} {P : Program} {st : St} {a : Act}
theorem vK [BA] {o : Oper} {sz bytes : Nat} {z : PV} {x : DD} (hc : SN P o = some (.mks sz bytes z x)) (hd : ∀ d, o.dst = some d → d < n) (h : BJ w0 O L n μ st a w) {k : IntKind} {m : Nat}
  (hp : x.ev st.s = some (.int k (m : Int))) (hb : bytes * m ≤ 281474976710656) (hm : m ≤ 9223372036854775807) (hzf : z.free = true) (t : Nat) (ht : st.r t = none) (hty : IP t = none) :
  ∃ a' w', Done P o a w a' w' ∧ ∃ μ', BJ w0 O L n μ' (St.put ⟨st.s, upd st.r t (some ⟨sz, true, List.replicate m z⟩)⟩ o.dst (.slr t 0 m)) a' w' := by
 cases JJ hc with
 | mks t' e l c i _ _ ho htt hi hz hl hcc =>
  obtain ⟨i', zv, hi', hzv, hzr, hzl, hzp, hzo⟩ := Q8 hz
  rw [hi] at hi'
  cases hi'
  have h1 := (CR h.slots hl hp).int_inv
  have h2 := (CR h.slots hcc hp).int_inv
  obtain ⟨vs, hv1, hv2, hv3⟩ := (D8.base (μ := μ) (R := st.r) _ _ (hzr w (Av O μ st.r))).cells
  have hzs : zv.cells.size = i.size := by rw [hv1]; simp; omega
  have hrun : (execOp a.eval o).run P w = .ok (.value (.slice (some ⟨w.heap.size, 0, none⟩) m m)) (w.alloc (.cells ((Array.range (m * i.size)).map fun j => zv.cells[j % zv.cells.size]!) e)) := by
   simp only [execOp, ho, h1, h2]
   have hw64 : IntKind.i64.wrap (m : Int) = m := by unfold IntKind.wrap; simp [IntKind.bits, IntKind.signed]; omega
   have hbz : ((i.bytes : Int) * (m : Int)) ≤ 281474976710656 := by
    have : ((i.bytes * m : Nat) : Int) ≤ 281474976710656 := by omega
    rwa [Int.natCast_mul] at this
   have hzero : (zeroValue e).run P w = .ok zv w := by simp [zeroValue, typeInfo, hi, hzv]
   unfold Instr.makeSlice
   simp only [Sem.run_bind, run_underlying htt, Result.andThen_ok, asInt, asIntOf, Sem.run_pure, dP hi, hw64]
   have hcond : (((decide ((m : Int) < 0) || decide ((i.bytes : Int) * (m : Int) > 2 ^ 48)) || decide ((m : Int) < 0)) || decide ((m : Int) > (m : Int))) = false := by
    simp
    omega
   rw [hcond]
   simp only [Bool.false_eq_true, if_false, Sem.run_bind, run_askRoom, Result.andThen_ok, Int.toNat_natCast, HZ (show PW P e = some i.size by simp [PW, hi])]
   by_cases h0 : m * i.size = 0
   ·rw [if_pos h0]
    simp only [newRow, Sem.run_pure, Result.andThen_ok, Sem.run_bind, run_newObj, World.alloc_eq, h0]
    rw [Array.range_zero']
    simp
   ·rw [if_neg h0]
    simp [hzero, newRow]
  have hmr : (List.replicate m z).length = m := by simp
  have := XH (P := P) (o := o) hd h (ps := List.replicate m z) (sz := i.size) hzp (fun p hp => by
   rw [(List.mem_replicate.1 hp).2]; exact ⟨hzl, hzo⟩) t ht (arr := (Array.range (m * i.size)).map fun j => zv.cells[j % zv.cells.size]!) (e := e) (hty := fun k hk => by rw [hty] at hk; cases hk) (fz := (0, 0)) (fun j _ hj => by simp at hj) (c := m) (by simp) (by simp) (fun k' y j q hk hj => by
    obtain ⟨hlt, hky⟩ := List.getElem?_eq_some_iff.1 hk
    have hlt' : k' < m := by simpa using hlt
    have hy : y = z := by rw [← hky]; simp
    subst hy
    obtain ⟨hjl, _⟩ := List.getElem?_eq_some_iff.1 hj
    have hu : vs[j]? = some (vs[j]'(by omega)) := List.getElem?_eq_getElem (by omega)
    refine ⟨vs[j]'(by omega), ?_, (hv3 j q _ hj hu).free (PV.free_cells hzf q (List.mem_of_getElem? hj))⟩
    have hidx : k' * i.size + j < m * i.size := by
     have : (k' + 1) * i.size ≤ m * i.size := Nat.mul_le_mul_right _ hlt'
     rw [Nat.add_mul] at this
     omega
    have hmod : (k' * i.size + j) % zv.cells.size = j := by
     rw [hzs, Nat.add_comm, Nat.add_mul_mod_self_right]
     exact Nat.mod_eq_of_lt (by omega)
    rw [Array.getElem?_map, Array.getElem?_range, if_pos hidx]
    simp only [Option.map_some, hmod]
    congr 1
    rw [hv1]
    simp [show j < vs.length by omega]) (.inr rfl) (by rw [hmr]; exact hrun)
  rw [hmr] at this
  exact this
def uH (y : PV) (o : Nat) (cs : List PV) : PV :=
 match y with
 | .agg ys => .agg (ys.take o ++ cs ++ ys.drop (o + cs.length))
 | _ => cs.headD .any
theorem rJ {y : PV} {o : Nat} {cs : List PV} (h : o + cs.length ≤ y.cells.length) (h0 : 0 < cs.length) (hone : ∀ q ∈ cs, q.one = true) : (uH y o cs).cells = y.cells.take o ++ cs ++ y.cells.drop (o + cs.length) := by
 by_cases hy : ∃ ys, y = .agg ys
 ·obtain ⟨ys, rfl⟩ := hy
  rfl
 ·have h1 : y.cells = [y] := by cases y <;> first | rfl | exact absurd ⟨_, rfl⟩ hy
  rw [h1] at h ⊢
  simp only [List.length_singleton] at h
  have ho : o = 0 := by omega
  subst ho
  match cs, h, h0 with
  | [c], _, _ =>
   have hc := hone c (by simp)
   have : uH y 0 [c] = c := by cases y <;> first | rfl | exact absurd ⟨_, rfl⟩ hy
   rw [this]
   cases c <;> simp_all [PV.cells, PV.one]
theorem mH [BA] {o : Oper} {sz : Nat} {p q : DD} (hc : SN P o = some (.store sz p q)) (hd : ∀ d, o.dst = some d → d < n) (h : BJ w0 O L n μ st a w) {t i off : Nat} {row : Row} {x y : PV}
  (hp : p.ev st.s = some (.ptr t i off)) (hq : q.ev st.s = some x) (ht : st.r t = some row) (hi : row.cs[i]? = some y) (hx : x.cells.length = sz) (h0 : 0 < sz) (hone : ∀ c ∈ x.cells, c.one = true)
  (hfit : off + sz ≤ row.sz) (hpr : row.pr = true → x.free = true) :
  ∃ a' w', Done P o a w a' w' ∧ ∃ μ', BJ w0 O L n μ' (St.put ⟨st.s, upd st.r t (some ⟨row.sz, row.pr, row.cs.set i (uH y off x.cells)⟩)⟩ o.dst .undef) a' w' := by
 cases JJ hc with
 | store ty a' x' _ _ _ ho hsz hpa hqa =>
  have hpr' := CR h.slots hpa hp
  have hqr := CR h.slots hqa hq
  have hloc : ∃ l, μ t = some l ∧ a.eval a' = .pointer (some ⟨l.b, l.base + (i * row.sz + off), none⟩) ∧ i < row.cs.length := by
   generalize a.eval a' = u at hpr'
   cases hpr' with
   | base _ _ h' => cases h'
   | ptr _ _ _ row' l hr' hm hil ho =>
    rw [ht] at hr'
    cases hr'
    exact ⟨l, hm, rfl, hil⟩
  obtain ⟨l, hl, hea, hil⟩ := hloc
  have hrr := h.rows t row ht
  obtain ⟨arr, ety, fz, g1, g2, g3, g4, g5⟩ := hrr.lie l hl
  obtain ⟨vs, hv1, hv2, hv3⟩ := hqr.cells
  have hy := hrr.el y (List.mem_of_getElem? hi)
  have hend : i * row.sz + off + sz ≤ l.room := by
   have : (i + 1) * row.sz ≤ row.cs.length * row.sz := Nat.mul_le_mul_right _ hil
   rw [Nat.add_mul] at this
   omega
  have hvs : vs.length = sz := by omega
  obtain ⟨w', arr', s1, s2, s3, s4, s5, s6⟩ := PX (P := P) l.b ety fz vs (l.base + (i * row.sz + off)) 0 w arr g1 (by omega) (fun j hj1 hj2 => g4 j (by omega) (by omega)) (fun v hv => by
   obtain ⟨j, hj⟩ := List.getElem?_of_mem hv
   obtain ⟨hlt, _⟩ := List.getElem?_eq_some_iff.1 hj
   have hxj : x.cells[j]? = some (x.cells[j]'(by omega)) := List.getElem?_eq_getElem (by omega)
   exact (hv3 j _ v hxj hj).oneCell (hone _ (List.mem_of_getElem? hxj)))
  have hrun : (execOp a.eval o).run P w = .ok .skip w' := by
   simp only [execOp, ho]
   have : (Instr.storeAt ty (a.eval a') (a.eval x')).run P w = .ok () w' := by
    unfold Instr.storeAt
    rw [hea]
    simp only [Instr.sureAddr, Sem.run_bind, Sem.run_pure, Result.andThen_ok, storeVar, HZ hsz]
    rw [hv1]
    simp only [List.size_toArray, hvs, ne_eq, not_true_eq_false, if_false]
    exact s1
   simp [this]
  have hspl := rJ (y := y) (o := off) (cs := x.cells) (by omega) (by omega) hone
  have hsl : (uH y off x.cells).cells.length = row.sz := by rw [hspl]; simp; omega
  have hw := h.write ht hl s2 ⟨row.sz, row.pr, row.cs.set i (uH y off x.cells)⟩ (fun arr0 ety0 fz0 g => by
   rw [g1] at g
   cases g
   exact ⟨arr', s4, s5⟩) rfl rfl (by simp) (fun z hz => by
   rcases List.mem_or_eq_of_mem_set hz with hz | rfl
   ·exact hrr.el z hz
   ·refine ⟨hsl, fun c hcm => ?_⟩
    rw [hspl] at hcm
    rcases List.mem_append.1 hcm with hcm | hcm
    ·rcases List.mem_append.1 hcm with hcm | hcm
     ·exact hy.2 c (List.mem_of_mem_take hcm)
     ·exact hone c hcm
    ·exact hy.2 c (List.mem_of_mem_drop hcm)) ⟨arr', ety, fz, s4, by omega, g4, fun i' z j c hi' hj => by
    rw [s6]
    obtain ⟨hjl, _⟩ := List.getElem?_eq_some_iff.1 hj
    by_cases hii : i' = i
    ·subst hii
     simp only [List.getElem?_set_self hil, Option.some.injEq] at hi'
     subst hi'
     rw [hsl] at hjl
     rw [hspl] at hj
     have l1 : (y.cells.take off).length = off := by simp; omega
     rw [List.append_assoc] at hj
     by_cases hj1 : j < off
     ·rw [List.getElem?_append_left (by omega), List.getElem?_take, if_pos hj1] at hj
      rw [if_neg (by omega)]
      exact g5 i' y j c hi hj
     ·rw [List.getElem?_append_right (by omega), l1] at hj
      by_cases hj2 : j - off < sz
      ·rw [List.getElem?_append_left (by omega)] at hj
       rw [if_pos (by omega)]
       have hu : vs[j - off]? = some (vs[j - off]'(by omega)) := List.getElem?_eq_getElem (by omega)
       refine ⟨vs[j - off]'(by omega), ?_, ?_⟩
       ·rw [← hu]
        congr 1
        omega
       ·have hr := hv3 _ c _ hj hu
        unfold D6
        split
        ·rename_i hprt
         exact hr.free (PV.free_cells (hpr hprt) c (List.mem_of_getElem? hj))
        ·exact hr
      ·rw [List.getElem?_append_right (by omega), List.getElem?_drop] at hj
       rw [if_neg (by omega)]
       rw [show off + x.cells.length + (j - off - x.cells.length) = j by omega] at hj
       exact g5 i' y j c hi hj
    ·rw [List.getElem?_set_ne (Ne.symm hii)] at hi'
     have hz := hrr.el z (List.mem_of_getElem? hi')
     rw [if_neg ?_]
     ·exact g5 i' z j c hi' hj
     ·intro hcon
      rcases Nat.lt_or_gt_of_ne hii with hlt | hgt
      ·have : (i' + 1) * row.sz ≤ i * row.sz := Nat.mul_le_mul_right _ hlt
       rw [Nat.add_mul] at this
       omega
      ·have : (i + 1) * row.sz ≤ i' * row.sz := Nat.mul_le_mul_right _ hgt
       rw [Nat.add_mul] at this
       omega⟩
  exact ⟨_, w', .inr ⟨hrun, rfl⟩, μ, hw.put o.dst hd (.base _ _ .undef)⟩
end
def kfs (t : Nat) : Nat → Nat → Nat → PV := fun u lo n => bif Nat.beq u t then .any else .slr u lo n
def zV (t : Nat) : Nat → Nat → Nat → PV := fun u i o => bif Nat.beq u t then .any else .ptr u i o
def PV.kill (t : Nat) (p : PV) : PV := p.map (kfs t) (zV t)
def Row.kill (t : Nat) (r : Row) : Row := bif r.pr then r else ⟨r.sz, r.pr, r.cs.map (PV.kill t)⟩
def fG (t : Nat) (s : EY) : EY := fun k => (s k).map (PV.kill t)
def MK (t : Nat) (r : Rows) : Rows := fun u => bif Nat.beq u t then none else (r u).map (Row.kill t)
theorem iO (t u lo n : Nat) : (kfs t u lo n).one = true := by unfold kfs; cases Nat.beq u t <;> rfl
theorem V8 (t u lo n : Nat) : (zV t u lo n).one = true := by unfold zV; cases Nat.beq u t <;> rfl
theorem PV.kill_one [BA] {t : Nat} {p : PV} (h : p.one = true) : (p.kill t).one = true := PV.map_one (iO t) (V8 t) p h
theorem E8 {u t : Nat} (h : u ≠ t) : Nat.beq u t = false := by rw [← Bool.not_eq_true, Nat.beq_eq]; exact h
theorem FM (t : Nat) : Nat.beq t t = true := Nat.beq_refl t
theorem PV.map_cells {fs fp : Nat → Nat → Nat → PV} (hs : ∀ t lo n, (fs t lo n).one = true) (hp : ∀ t i o, (fp t i o).one = true) (p : PV) : (p.map fs fp).cells = p.cells.map (PV.map fs fp) := by
 have one : ∀ q : PV, q.one = true → q.cells = [q] := by intro q h; cases q <;> first | rfl | simp [PV.one] at h
 cases p with
 | agg cs => simp only [PV.map, PV.cells, PV.maps_eq]
 | tup cs => simp [PV.map, PV.cells]
 | slr t lo n => simp only [PV.map, PV.cells, List.map_cons, List.map_nil]; exact one _ (hs t lo n)
 | ptr t i o => simp only [PV.map, PV.cells, List.map_cons, List.map_nil]; exact one _ (hp t i o)
 | _ => rfl
theorem PV.kill_cells [BA] (t : Nat) (p : PV) : (p.kill t).cells = p.cells.map (PV.kill t) := PV.map_cells (iO t) (V8 t) p
theorem Row.kill_sz (t : Nat) (r : Row) : (r.kill t).sz = r.sz := by unfold Row.kill; cases r.pr <;> rfl
theorem Row.kill_pr (t : Nat) (r : Row) : (r.kill t).pr = r.pr := by unfold Row.kill; cases h : r.pr <;> simp [h]
theorem Row.kill_len (t : Nat) (r : Row) : (r.kill t).cs.length = r.cs.length := by unfold Row.kill; cases r.pr <;> simp
section
variable {w w' : World} {O O' : Nat → Prop} {μ μ' : Mu} {R R' : Rows}
theorem D8.killed [BA] (t : Nat) (hw : ∀ b, b < w.heap.size → ¬ O b → w'.heap[b]? = w.heap[b]?) (hO : ∀ b, b < w.heap.size → O' b → O b)
  (hR : ∀ u row, u ≠ t → R u = some row → μ' u = μ u ∧ ∃ row', R' u = some row' ∧ row'.sz = row.sz ∧ row'.cs.length = row.cs.length) {p : PV} {v : Value} (h : D8 w O μ R p v) : D8 w' O' μ' R' (p.kill t) v := by
 refine D8.map (fs := kfs t) (fp := zV t) hw hO (iO t) (V8 t) (fun u lo n v h => ?_) (fun u i o v h => ?_) h
 ·unfold kfs
  by_cases hu : u = t
  ·rw [hu, FM]
   refine .base _ _ (.any v ?_)
   cases h with
   | base _ _ h => cases h
   | slr => rfl
   | slr0 => rfl
  ·rw [E8 hu]
   cases h with
   | base _ _ h => cases h
   | slr _ _ _ c row l hr hm hn hc hroom =>
    obtain ⟨h1, row', h2, h3, h4⟩ := hR u row hu hr
    rw [← h3]
    exact .slr u lo n c row' l h2 (h1.trans hm) (by omega) hc (by rw [h3]; exact hroom)
   | slr0 _ _ row A hr hn =>
    obtain ⟨h1, row', h2, h3, h4⟩ := hR u row hu hr
    exact .slr0 u lo row' A h2 (by omega)
 ·unfold zV
  by_cases hu : u = t
  ·rw [hu, FM]
   refine .base _ _ (.any v ?_)
   cases h with
   | base _ _ h => cases h
   | ptr => rfl
  ·rw [E8 hu]
   cases h with
   | base _ _ h => cases h
   | ptr _ _ _ row l hr hm hi ho =>
    obtain ⟨h1, row', h2, h3, h4⟩ := hR u row hu hr
    rw [← h3]
    exact .ptr u i o row' l h2 (h1.trans hm) (by omega) (by omega)
theorem LZ.killed [BA] (t : Nat) (hw : ∀ b, b < w.heap.size → ¬ O b → w'.heap[b]? = w.heap[b]?) (hO : ∀ b, b < w.heap.size → O' b → O b)
  (hR : ∀ u row, u ≠ t → R u = some row → μ' u = μ u ∧ ∃ row', R' u = some row' ∧ row'.sz = row.sz ∧ row'.cs.length = row.cs.length) {u : Nat} {row : Row} (h : LZ w O μ R u row)
  (hu : μ' u = μ u) (hb : ∀ l, μ u = some l → w'.heap[l.b]? = w.heap[l.b]?) : LZ w' O' μ' R' u (row.kill t) := by
 refine ⟨by rw [Row.kill_sz]; exact h.sz, fun x hx => ?_, fun hn => ?_, fun l hl => ?_, fun k hk l hl => by
  rw [hu] at hl
  obtain ⟨e1, arr, fz, e2, e3⟩ := h.ty k hk l hl
  exact ⟨e1, arr, fz, (hb l hl).trans e2, by rw [Row.kill_pr, Row.kill_sz]; exact e3⟩⟩
 ·rw [Row.kill_sz]
  unfold Row.kill at hx
  cases hp : row.pr with
  | true => rw [hp, cond_true] at hx; exact h.el x hx
  | false =>
   rw [hp, cond_false] at hx
   obtain ⟨y, hy, rfl⟩ := List.mem_map.1 hx
   obtain ⟨h1, h2⟩ := h.el y hy
   rw [PV.kill_cells]
   refine ⟨by simpa using h1, fun p hp' => ?_⟩
   obtain ⟨q, hq, rfl⟩ := List.mem_map.1 hp'
   exact PV.kill_one (h2 q hq)
 ·have := h.non (hu ▸ hn)
  have hl := Row.kill_len t row
  rw [this] at hl
  exact List.eq_nil_of_length_eq_zero (by simpa using hl)
 ·rw [hu] at hl
  obtain ⟨arr, ety, fz, h1, h2, h3, h4, h5⟩ := h.lie l hl
  refine ⟨arr, ety, fz, (hb l hl).trans h1, h2, by rw [Row.kill_len, Row.kill_sz]; exact h3, h4, fun i x j p hi hj => ?_⟩
  rw [Row.kill_sz, Row.kill_pr]
  unfold Row.kill at hi
  cases hp : row.pr with
  | true =>
   rw [hp, cond_true] at hi
   obtain ⟨v, hv, hc⟩ := h5 i x j p hi hj
   refine ⟨v, hv, ?_⟩
   rw [hp] at hc
   unfold D6 at hc ⊢
   rw [if_pos rfl] at hc ⊢
   exact hc.frame hw hO
  | false =>
   rw [hp, cond_false] at hi
   rw [List.getElem?_map] at hi
   obtain ⟨y, hy, rfl⟩ := Option.map_eq_some_iff.1 hi
   rw [PV.kill_cells, List.getElem?_map] at hj
   obtain ⟨q, hq, rfl⟩ := Option.map_eq_some_iff.1 hj
   obtain ⟨v, hv, hc⟩ := h5 i y j q hy hq
   refine ⟨v, hv, ?_⟩
   rw [hp] at hc
   unfold D6 at hc ⊢
   rw [if_neg (by simp)] at hc ⊢
   exact hc.killed t hw hO hR
end
section
variable {w0 w : World} {O : Nat → Prop} {L : MN} {n : Nat} {μ : Mu} {P : Program} {st : St} {a : Act}
theorem IA [BA] {t u : Nat} {R : Rows} {r : Row} (h : MK t R u = some r) : u ≠ t ∧ ∃ r', R u = some r' ∧ r = r'.kill t := by
 unfold MK at h
 by_cases hu : u = t
 ·rw [hu, FM] at h; cases h
 ·rw [E8 hu, cond_false] at h
  obtain ⟨r', hr, rfl⟩ := Option.map_eq_some_iff.1 h
  exact ⟨hu, r', hr, rfl⟩
theorem XL [BA] {t u : Nat} {R : Rows} {r : Row} (hu : u ≠ t) (h : R u = some r) : MK t R u = some (r.kill t) := by
 unfold MK
 rw [E8 hu, cond_false, h]
 rfl
theorem nA {t u : Nat} {R : Rows} (h : R u = none) : MK t R u = none := by
 unfold MK
 cases Nat.beq u t <;> simp [h]
theorem BJ.kill [BA] (h : BJ w0 O L n μ st a w) (t : Nat) (hT : L.T t = false) : BJ w0 O L n μ ⟨fG t st.s, MK t st.r⟩ a w := by
 have hO : ∀ b, b < w.heap.size → Av O μ (MK t st.r) b → Av O μ st.r b := by
  rintro b _ (h1 | ⟨u, r, l, h1, h2, h3⟩)
  ·exact .inl h1
  ·obtain ⟨hu, r', hr, rfl⟩ := IA h1
   exact .inr ⟨u, r', l, hr, h2, h3⟩
 have hR : ∀ u row, u ≠ t → st.r u = some row → μ u = μ u ∧ ∃ row', MK t st.r u = some row' ∧ row'.sz = row.sz ∧ row'.cs.length = row.cs.length :=
  fun u row hu hr => ⟨rfl, _, XL hu hr, Row.kill_sz _ _, Row.kill_len _ _⟩
 refine ⟨h.dfr, h.size, h.fr, h.out, fun k p hk => ?_, fun u r hr => ?_, ?_, ?_, fun u hu => ?_⟩
 ·obtain ⟨q, hq, rfl⟩ := Option.map_eq_some_iff.1 hk
  obtain ⟨v, hv, hrel⟩ := h.slot k q hq
  exact ⟨v, hv, hrel.killed t (fun _ _ _ => rfl) hO hR⟩
 ·obtain ⟨hu, r', hr', rfl⟩ := IA hr
  exact (h.row u r' hr').killed t (fun _ _ _ => rfl) hO hR rfl (fun _ _ => rfl)
 ·intro u u' r r' l l' h1 h2 h3 h4 h5
  obtain ⟨_, s, hs, _⟩ := IA h1
  obtain ⟨_, s', hs', _⟩ := IA h2
  exact h.inj u u' s s' l l' hs hs' h3 h4 h5
 ·intro u r l h1 h2
  obtain ⟨_, s, hs, _⟩ := IA h1
  exact h.own u s l hs h2
 ·obtain ⟨h1, r, h2⟩ := h.keep u hu
  have hne : u ≠ t := fun e => by rw [e, hT] at hu; cases hu
  exact ⟨h1, _, XL hne h2⟩
theorem BJ.swap [BA] (h : BJ w0 O L n μ st a w) {t : Nat} {row : Row} {l : Loc} (ht : st.r t = some row) (hl : μ t = some l) (hT : L.T t = false) (t' : Nat) (ht' : st.r t' = none) {w' : World} (hfr : Fr (fun b => b = l.b) w w')
  (row' : Row) (l' : Loc) (hty : ∀ k, IP t' = some k → l'.base = 0 ∧ ∃ arr fz, w'.heap[l.b]? = some (.cells arr k fz)) (hlb : l'.b = l.b) (hsz : 0 < row'.sz) (hel : ∀ x ∈ row'.cs, x.cells.length = row'.sz ∧ ∀ p ∈ x.cells, p.one = true) (hpr : row'.pr = true)
  (hlie : ∃ arr ety fz, w'.heap[l.b]? = some (.cells arr ety fz) ∧ l'.base + l'.room ≤ arr.size ∧ row'.cs.length * row'.sz ≤ l'.room ∧ (∀ j, l'.base ≤ j → j < l'.base + l'.room → ¬ (fz.1 ≤ j ∧ j < fz.2)) ∧
   (∀ (i : Nat) (x : PV) (j : Nat) (p : PV), row'.cs[i]? = some x → x.cells[j]? = some p → ∃ v, arr[l'.base + (i * row'.sz + j)]? = some v ∧ DZ w (Av O μ st.r) p v)) :
  BJ w0 O L n (upd μ t' (some l')) ⟨fG t st.s, upd (MK t st.r) t' (some row')⟩ a w' := by
 have hOw : OM μ st.r l.b := ⟨t, row, l, ht, hl, rfl⟩
 have hne : t ≠ t' := fun e => by rw [e, ht'] at ht; cases ht
 have hw : ∀ b, b < w.heap.size → ¬ Av O μ st.r b → w'.heap[b]? = w.heap[b]? := fun b hb hn => hfr.block b hb fun e => hn (.inr (e ▸ hOw))
 have hO : ∀ b, b < w.heap.size → Av O (upd μ t' (some l')) (upd (MK t st.r) t' (some row')) b → Av O μ st.r b := by
  rintro b _ (h1 | ⟨u, r, k, h1, h2, h3⟩)
  ·exact .inl h1
  ·by_cases hu : u = t'
   ·subst hu
    rw [upd_same] at h2
    cases h2
    rw [← h3, hlb]
    exact .inr hOw
   ·rw [upd_ne _ _ hu] at h1 h2
    obtain ⟨_, r', hr, _⟩ := IA h1
    exact .inr ⟨u, r', k, hr, h2, h3⟩
 have hR : ∀ u r, u ≠ t → st.r u = some r → upd μ t' (some l') u = μ u ∧ ∃ r', upd (MK t st.r) t' (some row') u = some r' ∧ r'.sz = r.sz ∧ r'.cs.length = r.cs.length := by
  intro u r hu hr
  have hut : u ≠ t' := fun e => by rw [e, ht'] at hr; cases hr
  exact ⟨upd_ne _ _ hut, _, by rw [upd_ne _ _ hut]; exact XL hu hr, Row.kill_sz _ _, Row.kill_len _ _⟩
 refine ⟨h.dfr, h.size, h.fr.trans hfr (fun x hx e => ?_), h.out, fun k p hk => ?_, fun u r hr => ?_, ?_, ?_, fun u hu => ?_⟩
 ·subst e
  rcases (h.own t row l ht hl).2 with h1 | h1
  ·omega
  ·exact h1
 ·obtain ⟨q, hq, rfl⟩ := Option.map_eq_some_iff.1 hk
  obtain ⟨v, hv, hrel⟩ := h.slot k q hq
  exact ⟨v, hv, hrel.killed t hw hO hR⟩
 ·by_cases hu : u = t'
  ·subst hu
   simp only [upd_same, Option.some.injEq] at hr
   subst hr
   refine ⟨hsz, hel, (fun hn => by rw [upd_same] at hn; cases hn), fun k hk => ?_, fun k hk l2 hl2 => by
    rw [upd_same] at hl2
    cases hl2
    obtain ⟨e1, arr, fz, e2⟩ := hty k hk
    exact ⟨e1, arr, fz, by rw [hlb]; exact e2, fun hp => by rw [hpr] at hp; cases hp⟩⟩
   rw [upd_same] at hk
   cases hk
   obtain ⟨arr, ety, fz, g1, g2, g3, g4, g5⟩ := hlie
   refine ⟨arr, ety, fz, by rw [hlb]; exact g1, g2, g3, g4, fun i x j p hi hj => ?_⟩
   obtain ⟨v, hv, hr0⟩ := g5 i x j p hi hj
   refine ⟨v, hv, ?_⟩
   unfold D6
   rw [hpr, if_pos rfl]
   exact hr0.frame hw hO
  ·simp only [upd_ne _ _ hu] at hr
   obtain ⟨hut, r', hr', rfl⟩ := IA hr
   refine (h.row u r' hr').killed t hw hO hR (upd_ne _ _ hu) (fun k hk => hfr.block _ (h.block_lt hr' hk) fun e => hut ?_)
   exact h.inj u t r' row k l hr' ht hk hl e
 ·intro u u' r r' k k' h1 h2 h3 h4 h5
  by_cases hu : u = t'
  ·by_cases hu' : u' = t'
   ·rw [hu, hu']
   ·subst hu
    simp only [upd_ne _ _ hu'] at h2 h4
    rw [upd_same] at h3
    cases h3
    obtain ⟨hut, s, hs, _⟩ := IA h2
    exact absurd (h.inj t u' row s l k' ht hs hl h4 (hlb ▸ h5)) (Ne.symm hut)
  ·simp only [upd_ne _ _ hu] at h1 h3
   obtain ⟨hut, s, hs, _⟩ := IA h1
   by_cases hu' : u' = t'
   ·subst hu'
    rw [upd_same] at h4
    cases h4
    exact absurd (h.inj u t s row k l hs ht h3 hl (h5.trans hlb)) hut
   ·simp only [upd_ne _ _ hu'] at h2 h4
    obtain ⟨_, s', hs', _⟩ := IA h2
    exact h.inj u u' s s' k k' hs hs' h3 h4 h5
 ·intro u r k h1 h2
  by_cases hu : u = t'
  ·subst hu
   rw [upd_same] at h2
   cases h2
   rw [hlb]
   exact h.own t row l ht hl
  ·simp only [upd_ne _ _ hu] at h1 h2
   obtain ⟨_, s, hs, _⟩ := IA h1
   exact h.own u s k hs h2
 ·obtain ⟨h1, r, h2⟩ := h.keep u hu
  have hne : u ≠ t := fun e => by rw [e, hT] at hu; cases hu
  have hne' : u ≠ t' := fun e => by rw [e, ht'] at h2; cases h2
  exact ⟨(upd_ne _ _ hne').trans h1, _, (upd_ne _ _ hne').trans (XL hne h2)⟩
end
def UR (R : Rows) (sz : Nat) : PV → Option (List PV)
 | .nl => some []
 | .sl sz' xs => if sz' = sz then some xs else none
 | .slr t lo n => match R t with
  | some row => if row.sz = sz ∧ row.pr = true then some ((row.cs.drop lo).take n) else none
  | none => none
 | _ => none
section
variable {w : World} {O : Nat → Prop} {μ : Mu} {R : Rows} {P : Program}
structure SS (P : Program) (w : World) (O : Nat → Prop) (sz : Nat) (ys : List PV) (v : Value) (news : List Value) : Prop where
 len : ∀ w', (Builtin.lenOf v).run P w' = .ok ys.length w'
 first : ∀ w', w'.heap = w.heap → (Builtin.firstCells sz ys.length v).run P w' = .ok news.toArray w'
 cnt : news.length = ys.length * sz
 el : ∀ y ∈ ys, y.cells.length = sz ∧ ∀ q ∈ y.cells, q.one = true
 rel : ∀ (i : Nat) (x : PV) (j : Nat) (q : PV), ys[i]? = some x → x.cells[j]? = some q → ∃ u, news[i * sz + j]? = some u ∧ DZ w O q u
 one : ∀ u ∈ news, u.oneCell' = true
theorem sN {k m sz : Nat} (hz : 0 < sz) (h : k < m * sz) : k / sz < m ∧ k / sz * sz + k % sz = k ∧ k % sz < sz :=
 ⟨Nat.div_lt_of_lt_mul (by rw [Nat.mul_comm]; exact h), by rw [Nat.mul_comm]; exact Nat.div_add_mod k sz, Nat.mod_lt _ hz⟩
theorem aK [BA] (sz : Nat) (hz : 0 < sz) (ys : List PV) (b o c : Nat) (hel : ∀ y ∈ ys, y.cells.length = sz ∧ ∀ q ∈ y.cells, q.one = true)
  (h : ∀ (i : Nat) (x : PV) (j : Nat) (q : PV), ys[i]? = some x → x.cells[j]? = some q → ∃ u, w.cell? ⟨b, o + (i * sz + j), none⟩ = some u ∧ DZ w O q u) :
  ∃ news, SS P w O sz ys (.slice (some ⟨b, o, none⟩) ys.length c) news := by
 have hcell : ∀ k, k < ys.length * sz → ∃ u, w.cell? ⟨b, o + k, none⟩ = some u ∧ ∃ x q, ys[k / sz]? = some x ∧ x.cells[k % sz]? = some q ∧ DZ w O q u := by
  intro k hk
  obtain ⟨h1, h2, h3⟩ := sN hz hk
  have hx : ys[k / sz]? = some (ys[k / sz]'h1) := List.getElem?_eq_getElem h1
  have hxl := (hel _ (List.mem_of_getElem? hx)).1
  have hq : (ys[k / sz]'h1).cells[k % sz]? = some ((ys[k / sz]'h1).cells[k % sz]'(by omega)) := List.getElem?_eq_getElem (by omega)
  obtain ⟨u, hu, hr⟩ := h _ _ _ _ hx hq
  rw [h2] at hu
  exact ⟨u, hu, _, _, hx, hq, hr⟩
 let f : Nat → Value := fun k => (w.cell? ⟨b, o + k, none⟩).getD undef
 have hf : ∀ k, k < ys.length * sz → w.cell? ⟨b, o + k, none⟩ = some (f k) := by
  intro k hk
  obtain ⟨u, hu, _⟩ := hcell k hk
  simp [f, hu]
 refine ⟨(List.range (ys.length * sz)).map f, fun w' => rfl, fun w' hw' => ?_, by simp, hel, fun i x j q hi hj => ?_, fun u hu => ?_⟩
 ·have hc : ∀ a : Addr, w'.cell? a = w.cell? a := fun a => by unfold World.cell?; rw [hw']
  exact run_loadCells w' ⟨b, o, none⟩ _ f fun k hk => by rw [Addr.add_lit, hc]; exact hf k hk
 ·obtain ⟨u, hu, hr⟩ := h i x j q hi hj
  obtain ⟨hil, _⟩ := List.getElem?_eq_some_iff.1 hi
  obtain ⟨hjl, _⟩ := List.getElem?_eq_some_iff.1 hj
  have hxl := (hel _ (List.mem_of_getElem? hi)).1
  have hk : i * sz + j < ys.length * sz := by
   have : (i + 1) * sz ≤ ys.length * sz := Nat.mul_le_mul_right _ hil
   rw [Nat.add_mul] at this
   omega
  refine ⟨u, ?_, hr⟩
  rw [List.getElem?_map, List.getElem?_range hk]
  simp [f, hu]
 ·obtain ⟨k, hk, rfl⟩ := List.mem_map.1 hu
  obtain ⟨u, hu, x, q, hx, hq, hr⟩ := hcell k (List.mem_range.1 hk)
  simp only [f, hu, Option.getD_some]
  exact hr.oneCell ((hel x (List.mem_of_getElem? hx)).2 q (List.mem_of_getElem? hq))
theorem RX (sz : Nat) (A : Option Addr) (c : Nat) : SS P w O sz [] (.slice A 0 c) [] := by
 refine ⟨(fun _ => rfl), (fun w' _ => ?_), (by simp), (fun y hy => by cases hy), (fun i x j q hi => by simp at hi), (fun u hu => by cases hu)⟩
 cases A with
 | none => simp [Builtin.firstCells]
 | some a =>
  have := run_loadCells_list (P := P) w' a [] (fun j v hj => by simp at hj)
  simpa [Builtin.firstCells] using this
theorem l6 [BA] {sz : Nat} {y : PV} {v : Value} {ys : List PV} (hR : PO w O μ R) (hy : D8 w O μ R y v) (h : UR R sz y = some ys) : ∃ news, SS P w O sz ys v news := by
 cases y <;> simp only [UR] at h <;> try cases h
 case nl =>
  cases hy with | base _ _ h' => cases h'; exact ⟨[], RX sz _ 0⟩
 case sl sz' xs =>
  split at h
  ·rename_i he
   cases h
   subst he
   cases hy with
   | base _ _ h' =>
    cases h' with
    | sl0 _ A c => exact ⟨[], RX sz' A c⟩
    | sl _ _ b o c V ho hx hc hz hs h1 h2 => exact aK sz' hz ys b o c hs fun i x j q hi hj => ⟨V i j, h1 i x j q hi hj, h2 i x j q hi hj⟩
  ·cases h
 case slr t lo k =>
  cases hr : R t with
  | none => simp [hr] at h
  | some row =>
   simp only [hr] at h
   split at h
   ·rename_i hc
    obtain ⟨hsz, hpr⟩ := hc
    cases h
    cases hy with
    | base _ _ h' => cases h'
    | slr0 => exact ⟨[], by simpa using RX sz _ 0⟩
    | slr _ _ _ c row' l hr' hm hn hc hroom =>
     rw [hr] at hr'
     cases hr'
     have hrr := hR t row hr
     have hlen : ((row.cs.drop lo).take k).length = k := by simp; omega
     have hz := hrr.sz
     obtain ⟨news, hs⟩ := aK (P := P) (w := w) (O := O) sz (by omega) ((row.cs.drop lo).take k) l.b (l.base + lo * row.sz) c (fun y hy => by
      have := hrr.el y (List.mem_of_mem_drop (List.mem_of_mem_take hy))
      rwa [hsz] at this) (fun i x j q hi hj => by
      rw [List.getElem?_take] at hi
      split at hi
      ·rw [List.getElem?_drop] at hi
       obtain ⟨u, hu, hcr⟩ := (hrr.lie l hm).cell hi hj
       unfold D6 at hcr
       rw [hpr, if_pos rfl] at hcr
       refine ⟨u, ?_, hcr⟩
       rw [← hu, hsz, Nat.add_mul]
       congr 2
       omega
      ·cases hi)
     rw [hlen] at hs
     exact ⟨news, hs⟩
   ·cases h
theorem dQ {t u ty e : TypeId} {i : TypeInfo} (ht : P.underlying t = some (.slice e)) (hu : P.underlying u = some .string ∨ ∃ e', P.underlying u = some (.slice e')) (hi : P.info? e = some i)
  {b o sLen sCap : Nat} {x : Value} {ys : List PV} {news : List Value} (hs : SS P w O i.size ys x news) (hg : sLen + ys.length ≤ sCap) :
  (Builtin.append_ #[t, u] ty #[.slice (some ⟨b, o, none⟩) sLen sCap, x]).run P w = ((storeCells ⟨b, o + sLen * i.size, none⟩ news 0).run P w).andThen fun _ w' => .ok (.slice (some ⟨b, o, none⟩) (sLen + ys.length) sCap) w' := by
 have hf := hs.first w rfl
 rcases hu with hu | ⟨e', hu⟩
 ·simp [Builtin.append_, run_underlying ht, run_underlying hu, sizeOf, typeInfo, hi, hs.len, hg, hf, Addr.add_lit]
 ·simp [Builtin.append_, run_underlying ht, run_underlying hu, sizeOf, typeInfo, hi, hs.len, hg, hf, Addr.add_lit]
theorem ZQ {t u ty e : TypeId} {i : TypeInfo} (ht : P.underlying t = some (.slice e)) (hu : P.underlying u = some .string ∨ ∃ e', P.underlying u = some (.slice e')) (hi : P.info? e = some i)
  {A : Option Addr} {x : Value} {news : List Value} (hs : SS P w O i.size [] x news) :
  (Builtin.append_ #[t, u] ty #[.slice A 0 0, x]).run P w = .ok (.slice A 0 0) w := by
 have hf := hs.first w rfl
 have hn : news = [] := List.eq_nil_of_length_eq_zero (by simpa using hs.cnt)
 subst hn
 simp only [List.length_nil] at hf
 have hl : ∀ w', (Builtin.lenOf x).run P w' = .ok 0 w' := hs.len
 rcases hu with hu | ⟨e', hu⟩ <;> cases A <;>
  simp [Builtin.append_, run_underlying ht, run_underlying hu, sizeOf, typeInfo, hi, hl, hf, storeCells]
theorem VO {t u ty e : TypeId} {i : TypeInfo} {z : Value} (ht : P.underlying t = some (.slice e)) (hu : P.underlying u = some .string ∨ ∃ e', P.underlying u = some (.slice e')) (hi : P.info? e = some i) (hz : i.zero = some z)
  {s x : Value} {A : Option Addr} {sLen sCap : Nat} (hsv : s = .slice A sLen sCap) {xs ys : List PV} {olds news : List Value} (ho : SS P w O i.size xs s olds) (hxl : xs.length = sLen) (hs : SS P w O i.size ys x news) (hg : sCap < sLen + ys.length)
  (h63 : sLen + ys.length ≤ 9223372036854775807) (hfit : Builtin.nextslicecap (sLen + ys.length) sCap * i.bytes ≤ 281474976710656) :
  (Builtin.append_ #[t, u] ty #[s, x]).run P w = .ok (.slice (some ⟨w.heap.size, 0, none⟩) (sLen + ys.length) (grownCap w (sLen + ys.length) sCap e))
   (w.drew.alloc (.cells ((olds ++ news).toArray ++ Builtin.zeroCells z.cells (grownCap w (sLen + ys.length) sCap e - (sLen + ys.length))) e)) := by
 have hn : ¬ (sLen + ys.length ≤ sCap) := by omega
 have h63' : ¬ (9223372036854775807 < ((sLen : Int) + (ys.length : Int))) := by omega
 have h48' : ¬ (281474976710656 < Builtin.nextslicecap (sLen + ys.length) sCap * i.bytes) := by omega
 have hf := hs.first w.drew rfl
 have hfo := ho.first w.drew rfl
 rw [hxl] at hfo
 have hbridge : ∀ (W : World), (Builtin.firstCells i.size sLen s).run P W = (Builtin.firstCells i.size sLen (.slice A sLen sCap)).run P W := fun W => by rw [hsv]
 rw [hbridge] at hfo
 subst hsv
 rcases hu with hu | ⟨e', hu⟩
 ·simp [Builtin.append_, run_underlying ht, run_underlying hu, sizeOf, typeInfo, zeroValue, hi, hz, hs.len, hn, h63', h48', Question.forced, hf, hfo, newRow, grownCap]
  rw [← List.append_toArray, Array.append_assoc]
 ·simp [Builtin.append_, run_underlying ht, run_underlying hu, sizeOf, typeInfo, zeroValue, hi, hz, hs.len, hn, h63', h48', Question.forced, hf, hfo, newRow, grownCap]
  rw [← List.append_toArray, Array.append_assoc]
theorem iA {sz : Nat} (hz : 0 < sz) {xs ys : List PV} {s x : Value} {olds news : List Value} (ho : SS P w O sz xs s olds) (hs : SS P w O sz ys x news) (rest : List Value) :
  ∀ (i : Nat) (y : PV) (j : Nat) (q : PV), (xs ++ ys)[i]? = some y → y.cells[j]? = some q → ∃ u, (olds ++ news ++ rest)[i * sz + j]? = some u ∧ DZ w O q u := by
 intro i y j q hi hj
 obtain ⟨hjl, _⟩ := List.getElem?_eq_some_iff.1 hj
 by_cases hil : i < xs.length
 ·rw [List.getElem?_append_left hil] at hi
  obtain ⟨u, hu, hr⟩ := ho.rel i y j q hi hj
  refine ⟨u, ?_, hr⟩
  obtain ⟨hlt, _⟩ := List.getElem?_eq_some_iff.1 hu
  rw [List.append_assoc, List.getElem?_append_left hlt]
  exact hu
 ·rw [List.getElem?_append_right (by omega)] at hi
  obtain ⟨u, hu, hr⟩ := hs.rel _ y j q hi hj
  refine ⟨u, ?_, hr⟩
  obtain ⟨hlt, _⟩ := List.getElem?_eq_some_iff.1 hu
  have hsplit : i * sz + j = xs.length * sz + ((i - xs.length) * sz + j) := by
   rw [← Nat.add_assoc, ← Nat.add_mul]
   congr 2
   omega
  rw [hsplit, List.append_assoc, List.getElem?_append_right (by rw [ho.cnt]; omega), ho.cnt, Nat.add_sub_cancel_left, List.getElem?_append_left hlt]
  exact hu
end
end Go.Vd
end
