/- The operations that write nothing, all of them: compiled, run on abstract values, and that the machine comes to the same. -/
import Derived.Test.YtgogpopeldnddaaVdC
import Derived.Laws.Cells
import Derived.Laws.BytesString
set_option linter.unusedVariables false
set_option linter.unusedSimpArgs false
namespace Go.Vd
open Go.RowKit

/-- Kinds of cells that can be compared at sight. -/
inductive CK where
  | i (k : IntKind)
  | s
  | b

inductive IOp where
  | mov (x : Opd)
  | pick (c a b : Opd)
  | bin (op : BinOp) (x y : Opd)
  | beq (ne : Bool) (x y : Opd)
  | eqs (ne : Bool) (ks : List CK) (x y : Opd)
  | eqn (ne : Bool) (x y : Opd)
  | un (op : UnOp) (x : Opd)
  | cvi (k : IntKind) (x : Opd)
  | cvt (x : Opd)
  | cvb (x : Opd)
  | build (z : List PV) (parts : List (Nat × Nat × Opd))
  | fld (off sz : Nat) (ag : Bool) (x : Opd)
  | idxs (x i : Opd)
  | idxa (n sz : Nat) (ag : Bool) (x i : Opd)
  | slcs (x : Opd) (lo hi : Option Opd)
  | slcl (sz : Nat) (x : Opd) (lo hi : Option Opd)
  | ext (i : Nat) (x : Opd)
  | len (st : Bool) (x : Opd)
  | mkf (f : FuncId) (caps : List Opd)
  | mki (t : TypeId) (x : Opd)
  | mm (mx : Bool) (x : Opd) (xs : List Opd)
  | nck (x : Opd)
  | fda (off : Nat) (x : Opd)
  | ixp (sz : Nat) (x i : Opd)
  | ixq (n sz : Nat) (x i : Opd)
  | load (sz : Nat) (ag : Bool) (x : Opd)
  -- what writes, makes, calls
  | box (x : Opd)
  | bsl (sz : Nat) (parts : List Opd)
  | cvs (x : Opd)
  | mks (sz bytes : Nat) (z : PV) (n : Opd)
  | store (sz : Nat) (a x : Opd)
  | app (sz bytes : Nat) (x y : Opd)
  | aps (x y : Opd)
  | call (f : FuncId) (args : List Opd)
  | calv (f : Opd) (args : List Opd)

def evs (s : Slots) : List Opd → Option (List PV)
  | [] => some []
  | x :: r => match x.ev s, evs s r with
    | some p, some q => some (p :: q)
    | _, _ => none

def evO (s : Slots) : Option Opd → Option (Option PV)
  | none => some none
  | some x => (x.ev s).map some

def PV.u8 : PV → Option UInt8
  | .int _ n => some (UInt8.ofNat n.toNat)
  | _ => none
def PV.isU8 : PV → Bool
  | .int .u8 _ => true
  | _ => false
def PV.byte : PV → UInt8
  | .int _ n => UInt8.ofNat n.toNat
  | _ => 0

def ceq : CK → PV → PV → Option Bool
  | .i k, .int k1 a, .int k2 b => if k1 = k ∧ k2 = k then some (a == b) else none
  | .s, .str a, .str b => some (a == b)
  | .b, .bool a, .bool b => some (a == b)
  | _, _, _ => none
def ceqs : List CK → List PV → List PV → Option Bool
  | [], [], [] => some true
  | k :: ks, x :: r, y :: q => match ceq k x y, ceqs ks r q with
    | some a, some b => some (a && b)
    | _, _ => none
  | _, _, _ => none

def xneg (ne b : Bool) : Bool := bif ne then !b else b

def beqv (ne : Bool) : PV → PV → Option PV
  | .bool a, .bool b => some (.bool (xneg ne (a == b)))
  | _, _ => none

def eqsv (ne : Bool) (ks : List CK) : PV → PV → Option PV
  | .agg xs, .agg ys => (ceqs ks xs ys).map fun b => .bool (xneg ne b)
  | _, _ => none

/-- A pointer against nil. -/
def eqnv (ne : Bool) : PV → PV → Option PV
  | .nilp, .nilp => some (.bool (xneg ne true))
  | .ptr _ _ _, .nilp => some (.bool (xneg ne false))
  | .ep _, .nilp => some (.bool (xneg ne false))
  | _, _ => none

def cviv (k : IntKind) : PV → Option PV
  | .int _ n => some (.int k (k.wrap n))
  | _ => none

def cvtv : PV → Option PV
  | .str s => some (.str s)
  | _ => none

def cvbv (R : Rows) : PV → Option PV
  | .nl => some (.str [])
  | .sl sz xs => if sz = 1 ∧ xs.all PV.isU8 = true then some (.str (xs.map PV.byte)) else none
  | .slr t lo n => match R t with
    | some row => if row.pr = true ∧ row.sz = 1 ∧ ((row.cs.drop lo).take n).all PV.isU8 = true then some (.str (((row.cs.drop lo).take n).map PV.byte)) else none
    | none => none
  | _ => none

/-- Cells laid over others. -/
def lay (z : List PV) : List (Nat × Nat × Opd) → Slots → Option (List PV)
  | [], _ => some z
  | (off, sz, x) :: r, s => match x.ev s with
    | some p => if p.cells.length = sz ∧ off + sz ≤ z.length ∧ p.cells.all PV.one = true then lay (z.take off ++ p.cells ++ z.drop (off + sz)) r s else none
    | none => none

def partv (off sz : Nat) (ag : Bool) (cs : List PV) : Option PV :=
  bif ag then some (.agg ((cs.drop off).take sz)) else cs[off]?

def fldv (off sz : Nat) (ag : Bool) : PV → Option PV
  | .agg cs => partv off sz ag cs
  | _ => none

def idxsv : PV → PV → Option PV
  | .str s, .int _ i => if 0 ≤ i then (s[i.toNat]?).map fun b => .int .u8 (b.toNat : Int) else none
  | _, _ => none

def idxav (n sz : Nat) (ag : Bool) : PV → PV → Option PV
  | .agg cs, .int _ i => if 0 ≤ i ∧ i < (n : Int) then partv (i.toNat * sz) sz ag cs else none
  | _, _ => none

/-- The bounds of a cut. -/
def bounds (n : Nat) : Option PV → Option PV → Option (Nat × Nat)
  | none, none => some (0, n)
  | some (.int _ l), none => if 0 ≤ l ∧ l ≤ (n : Int) then some (l.toNat, n) else none
  | none, some (.int _ h) => if 0 ≤ h ∧ h ≤ (n : Int) then some (0, h.toNat) else none
  | some (.int _ l), some (.int _ h) => if 0 ≤ l ∧ l ≤ h ∧ h ≤ (n : Int) then some (l.toNat, h.toNat) else none
  | _, _ => none

def slcsv (lo hi : Option PV) : PV → Option PV
  | .str s => (bounds s.length lo hi).map fun (l, h) => .str ((s.take h).drop l)
  | _ => none

def slclv (R : Rows) (sz : Nat) (lo hi : Option PV) : PV → Option PV
  | .nl => (bounds 0 lo hi).map fun _ => .nl
  | .sl sz' xs => if sz' = sz then (bounds xs.length lo hi).map fun (l, h) => .sl sz ((xs.take h).drop l) else none
  | .slr t o n => match R t with
    | some row => if row.sz = sz then (bounds n lo hi).map fun (l, h) => .slr t (o + l) (h - l) else none
    | none => none
  | _ => none

def extv (i : Nat) : PV → Option PV
  | .tup vs => vs[i]?
  | _ => none

def lensv : PV → Option PV
  | .str s => some (.int .i64 (s.length : Int))
  | _ => none
def lenlv : PV → Option PV
  | .sl _ xs => some (.int .i64 (xs.length : Int))
  | .slr _ _ n => some (.int .i64 (n : Int))
  | .nl => some (.int .i64 0)
  | _ => none
def lenv (st : Bool) (p : PV) : Option PV := bif st then lensv p else lenlv p

def mkiv (t : TypeId) : PV → Option PV
  | .int k n => some (.ifc t (.int k n))
  | .str s => some (.ifc t (.str s))
  | .bool b => some (.ifc t (.bool b))
  | _ => none

def mmv (mx : Bool) : PV → List PV → Option PV
  | x, [] => some x
  | .int k a, .int k' b :: r => if k = k' then mmv mx (.int k (bif mx then (if b > a then b else a) else (if b < a then b else a))) r else none
  | _, _ => none

def nckv : PV → Option PV
  | .ptr t i o => some (.ptr t i o)
  | .ep cs => some (.ep cs)
  | .clo f caps => some (.clo f caps)
  | _ => none

def fdav (R : Rows) (off : Nat) : PV → Option PV
  | .ptr t i o => match R t with
    | some row => if o + off < row.sz then some (.ptr t i (o + off)) else none
    | none => none
  | .ep cs => if off < cs.length then some (.ep (cs.drop off)) else none
  | _ => none

def ixpv (R : Rows) (sz : Nat) : PV → PV → Option PV
  | .sl sz' xs, .int _ i => if sz' = sz ∧ 0 ≤ i then (xs[i.toNat]?).map fun x => .ep x.cells else none
  | .slr t lo n, .int _ i => match R t with
    | some row => if row.sz = sz ∧ 0 ≤ i ∧ i < (n : Int) then some (.ptr t (lo + i.toNat) 0) else none
    | none => none
  | _, _ => none

def ixqv (R : Rows) (n sz : Nat) : PV → PV → Option PV
  | .ptr t i o, .int _ j => match R t with
    | some row => if 0 ≤ j ∧ j < (n : Int) ∧ o + j.toNat * sz < row.sz then some (.ptr t i (o + j.toNat * sz)) else none
    | none => none
  | .ep cs, .int _ j => if 0 ≤ j ∧ j < (n : Int) ∧ j.toNat * sz < cs.length then some (.ep (cs.drop (j.toNat * sz))) else none
  | _, _ => none

def loadv (R : Rows) (sz : Nat) (ag : Bool) : PV → Option PV
  | .ptr t i o => match R t with
    | some row => match row.cs[i]? with
      | some x => if ag = true ∧ x.cells.length < o + sz then none else partv o sz ag x.cells
      | none => none
    | none => none
  | .ep cs => if ag = true ∧ cs.length < sz then none else partv 0 sz ag cs
  | _ => none

def opt2 (f : PV → PV → Option PV) (x y : Option PV) : Option PV :=
  match x, y with
  | some p, some q => f p q
  | _, _ => none

/-- What an operation that writes nothing comes to. -/
def pop (s : Slots) (R : Rows) : IOp → Option PV
  | .mov x => x.ev s
  | .pick c a b => match c.ev s with
    | some (.bool t) => bif t then a.ev s else b.ev s
    | _ => none
  | .bin op x y => opt2 (binv op) (x.ev s) (y.ev s)
  | .beq ne x y => opt2 (beqv ne) (x.ev s) (y.ev s)
  | .eqs ne ks x y => opt2 (eqsv ne ks) (x.ev s) (y.ev s)
  | .eqn ne x y => opt2 (eqnv ne) (x.ev s) (y.ev s)
  | .un op x => (x.ev s).bind (unv op)
  | .cvi k x => (x.ev s).bind (cviv k)
  | .cvt x => (x.ev s).bind cvtv
  | .cvb x => (x.ev s).bind (cvbv R)
  | .build z parts => (lay z parts s).map .agg
  | .fld off sz ag x => (x.ev s).bind (fldv off sz ag)
  | .idxs x i => opt2 idxsv (x.ev s) (i.ev s)
  | .idxa n sz ag x i => opt2 (idxav n sz ag) (x.ev s) (i.ev s)
  | .slcs x lo hi => match evO s lo, evO s hi with
    | some l, some h => (x.ev s).bind (slcsv l h)
    | _, _ => none
  | .slcl sz x lo hi => match evO s lo, evO s hi with
    | some l, some h => (x.ev s).bind (slclv R sz l h)
    | _, _ => none
  | .ext i x => (x.ev s).bind (extv i)
  | .len st x => (x.ev s).bind (lenv st)
  | .mkf f caps => (evs s caps).map (.clo f)
  | .mki t x => (x.ev s).bind (mkiv t)
  | .mm mx x xs => match x.ev s, evs s xs with
    | some p, some q => mmv mx p q
    | _, _ => none
  | .nck x => (x.ev s).bind nckv
  | .fda off x => (x.ev s).bind (fdav R off)
  | .ixp sz x i => opt2 (ixpv R sz) (x.ev s) (i.ev s)
  | .ixq n sz x i => opt2 (ixqv R n sz) (x.ev s) (i.ev s)
  | .load sz ag x => (x.ev s).bind (loadv R sz ag)
  | _ => none

/-! ### the machine's side -/
section
variable {w : World} {O : Nat → Prop} {μ : Mu} {R : Rows}

theorem Rel.agg_inv {cs : List PV} {v : Value} (h : Rel w O μ R (.agg cs) v) : ∃ vs : List Value, v = .agg vs.toArray ∧ vs.length = cs.length ∧ (∀ p ∈ cs, p.one = true) ∧
    ∀ (j : Nat) (p : PV) (u : Value), cs[j]? = some p → vs[j]? = some u → Rel w O μ R p u := by
  cases h with
  | base _ _ h => cases h with | agg _ vs hl hs h => exact ⟨vs, rfl, hl, hs, fun j p u hj hu => .base _ _ (h j p u hj hu)⟩
  | agg _ vs hl hs h => exact ⟨vs, rfl, hl, hs, h⟩

theorem Rel.tup_inv {cs : List PV} {v : Value} (h : Rel w O μ R (.tup cs) v) : ∃ vs : List Value, v = .tuple vs.toArray ∧ vs.length = cs.length ∧
    ∀ (j : Nat) (p : PV) (u : Value), cs[j]? = some p → vs[j]? = some u → Rel w O μ R p u := by
  cases h with
  | base _ _ h => cases h with | tup _ vs hl h => exact ⟨vs, rfl, hl, fun j p u hj hu => .base _ _ (h j p u hj hu)⟩
  | tup _ vs hl h => exact ⟨vs, rfl, hl, h⟩

theorem Rel.cells {p : PV} {v : Value} (h : Rel w O μ R p v) : ∃ vs : List Value, v.cells = vs.toArray ∧ vs.length = p.cells.length ∧
    ∀ (j : Nat) (q : PV) (u : Value), p.cells[j]? = some q → vs[j]? = some u → Rel w O μ R q u := by
  by_cases hp : ∃ cs, p = .agg cs
  · obtain ⟨cs, rfl⟩ := hp
    obtain ⟨vs, rfl, hl, _, hr⟩ := h.agg_inv
    exact ⟨vs, rfl, hl, hr⟩
  · have h1 : p.cells = [p] := by cases p <;> first | rfl | (exact absurd ⟨_, rfl⟩ hp)
    have h2 : v.cells = #[v] := by
      cases h with
      | base _ _ h => cases h <;> first | rfl | (exact absurd ⟨_, rfl⟩ hp) | (rename_i h; exact cells_value v h)
      | agg cs => exact absurd ⟨_, rfl⟩ hp
      | _ => rfl
    refine ⟨[v], by rw [h2], by rw [h1]; rfl, fun j q u hq hu => ?_⟩
    rw [h1] at hq
    cases j with
    | zero => simp at hq hu; rw [← hq, ← hu]; exact h
    | succ j => simp at hq

/-- The cells of a part. -/
theorem part_rel {cs : List PV} {vs : List Value} (hl : vs.length = cs.length) (hs : ∀ p ∈ cs, p.one = true)
    (h : ∀ (j : Nat) (p : PV) (u : Value), cs[j]? = some p → vs[j]? = some u → Rel w O μ R p u) (off sz : Nat) :
    Rel w O μ R (.agg ((cs.drop off).take sz)) (.agg ((vs.drop off).take sz).toArray) := by
  refine .agg _ _ (by simp [hl]) (fun p hp => hs p (List.mem_of_mem_drop (List.mem_of_mem_take hp))) fun j p u hj hu => ?_
  rw [List.getElem?_take] at hj hu
  split at hj
  · rename_i hlt
    rw [if_pos hlt] at hu
    rw [List.getElem?_drop] at hj hu
    exact h _ p u hj hu
  · cases hj

variable {P : Program}

def isAggT (P : Program) (t : TypeId) : Option Bool :=
  match P.underlying t with
  | some (.struct _) => some true
  | some (.array _ _) => some true
  | some _ => some false
  | none => none
def szT (P : Program) (t : TypeId) : Option Nat := (P.info? t).map (·.size)

theorem run_isAggT {t : TypeId} {b : Bool} (h : isAggT P t = some b) (w : World) : (isAgg t).run P w = .ok b w := by
  unfold isAggT at h
  cases hu : P.underlying t with
  | none => simp [hu] at h
  | some d =>
    simp only [hu] at h
    unfold isAgg
    simp only [Sem.run_bind, run_underlying hu, Result.andThen_ok]
    cases d <;> simp at h <;> subst h <;> rfl
theorem run_szT {t : TypeId} {n : Nat} (h : szT P t = some n) (w : World) : (sizeOf t).run P w = .ok n w := by
  obtain ⟨i, hi, rfl⟩ := Option.map_eq_some_iff.1 h
  simp [sizeOf, typeInfo, hi]
theorem run_typeInfo' {t : TypeId} {i : TypeInfo} (h : P.info? t = some i) (w : World) : (typeInfo t).run P w = .ok i w := by simp [typeInfo, h]

theorem run_partv {t : TypeId} {ag : Bool} {sz off : Nat} (ha : isAggT P t = some ag) (hz : szT P t = some sz) {cs : List PV} {vs : List Value} (hl : vs.length = cs.length)
    (hs : ∀ p ∈ cs, p.one = true) (h : ∀ (j : Nat) (p : PV) (u : Value), cs[j]? = some p → vs[j]? = some u → Rel w O μ R p u) {p : PV} (hp : partv off sz ag cs = some p) :
    ∃ v, (part t vs.toArray off).run P w = .ok v w ∧ Rel w O μ R p v := by
  unfold part
  simp only [Sem.run_bind, run_isAggT ha, Result.andThen_ok]
  cases ag with
  | true =>
    simp only [partv, cond_true, Option.some.injEq] at hp
    subst hp
    refine ⟨.agg ((vs.drop off).take sz).toArray, ?_, part_rel hl hs h off sz⟩
    simp [run_szT hz]
  | false =>
    simp only [partv, cond_false] at hp
    obtain ⟨hlt, _⟩ := List.getElem?_eq_some_iff.1 hp
    have hv : vs[off]? = some (vs[off]'(by omega)) := List.getElem?_eq_getElem (by omega)
    refine ⟨vs[off]'(by omega), ?_, h off p _ hp hv⟩
    simp [hv]

end
end Go.Vd
