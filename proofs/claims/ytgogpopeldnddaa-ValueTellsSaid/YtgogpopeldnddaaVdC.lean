/- The operations that write nothing: what they come to on abstract values, and that the machine comes to the same. -/
import Derived.Test.YtgogpopeldnddaaVdB
import Derived.Laws.Slices
import Derived.Laws.Strings
import Derived.Laws.Concat
import Derived.Laws.Append
import Derived.Laws.StructEq
set_option linter.unusedVariables false
set_option linter.unusedSimpArgs false
namespace Go.Vd
open Go.RowKit

inductive Opd where
  | t (n : Nat)
  | c (p : PV)

def Opd.ev (s : Slots) : Opd → Option PV
  | .t n => s n
  | .c p => some p

mutual
def cval : Value → Option PV
  | .int k n => some (.int k n)
  | .bool b => some (.bool b)
  | .string s => some (.str s.data.toList)
  | .slice none 0 0 => some .nl
  | .pointer none => some .nilp
  | .nilFunc => some .nilf
  | .nilIface => some .nili
  | .agg cs => (cvals cs.toList).map .agg
  | _ => none
def cvals : List Value → Option (List PV)
  | [] => some []
  | v :: r => match cval v, cvals r with
    | some p, some q => if p.one then some (p :: q) else none
    | _, _ => none
end

def copd : Operand → Option Opd
  | .tmp t => some (.t t)
  | .const v => (cval v).map .c
  | .func f => some (.c (.clo f []))
  | .global _ => none

def copds : List Operand → Option (List Opd)
  | [] => some []
  | x :: r => match copd x, copds r with
    | some y, some q => some (y :: q)
    | _, _ => none

def copdO : Option Operand → Option (Option Opd)
  | none => some none
  | some x => (copd x).map some

/-- Bits of whole numbers. -/
def ibits (op : BinOp) (k : IntKind) (x y : Int) : Option Int :=
  match op with
  | .and => some (k.wrap ((BitVec.ofInt k.bits x &&& BitVec.ofInt k.bits y).toNat : Int))
  | .or => some (k.wrap ((BitVec.ofInt k.bits x ||| BitVec.ofInt k.bits y).toNat : Int))
  | .xor => some (k.wrap ((BitVec.ofInt k.bits x ^^^ BitVec.ofInt k.bits y).toNat : Int))
  | .andNot => some (k.wrap ((BitVec.ofInt k.bits x &&& ~~~ BitVec.ofInt k.bits y).toNat : Int))
  | _ => none

def ibin (op : BinOp) (k : IntKind) (a b : Int) : Option PV :=
  match op with
  | .add => some (.int k (k.wrap (a + b)))
  | .sub => some (.int k (k.wrap (a - b)))
  | .mul => some (.int k (k.wrap (a * b)))
  | .quo => if b = 0 then none else some (.int k (k.wrap (a.tdiv b)))
  | .rem => if b = 0 then none else some (.int k (a.tmod b))
  | .eql => some (.bool (a == b))
  | .neq => some (.bool (a != b))
  | .lss => some (.bool (decide (a < b)))
  | .leq => some (.bool (decide (a ≤ b)))
  | .gtr => some (.bool (decide (a > b)))
  | .geq => some (.bool (decide (a ≥ b)))
  | .shl | .shr => none
  | op => (ibits op k a b).map (.int k)

def ishift (op : BinOp) (k : IntKind) (a b : Int) : Option PV :=
  if b < 0 then none else
  match op with
  | .shl => some (.int k (k.wrap (a * 2 ^ min b.toNat k.bits)))
  | .shr => some (.int k (a.fdiv (2 ^ min b.toNat k.bits)))
  | _ => none

def sbin (op : BinOp) (a b : List UInt8) : Option PV :=
  match op with
  | .add => if a.length + b.length ≤ 9223372036854775807 then some (.str (a ++ b)) else none
  | .eql => some (.bool (a == b))
  | .neq => some (.bool (!(a == b)))
  | .lss => some (.bool (Op.bytesLess a b))
  | .leq => some (.bool (Op.bytesLess a b || a == b))
  | .gtr => some (.bool (!(Op.bytesLess a b || a == b)))
  | .geq => some (.bool (!Op.bytesLess a b))
  | _ => none

def isShift : BinOp → Bool
  | .shl | .shr => true
  | _ => false

/-- Numbers, texts. -/
def binv (op : BinOp) : PV → PV → Option PV
  | .int k a, .int k' b => if isShift op then ishift op k a b else if k = k' then ibin op k a b else none
  | .str a, .str b => if isShift op then none else sbin op a b
  | _, _ => none

def unv (op : UnOp) : PV → Option PV
  | .int k n => match op with
    | .neg => some (.int k (k.wrap (0 - n)))
    | .xor => (ibits .xor k (if k.signed then -1 else k.max) n).map (.int k)
    | _ => none
  | .bool b => match op with
    | .not => some (.bool (!b))
    | _ => none
  | _ => none

section
variable {w : World} {O : Nat → Prop} {μ : Mu} {R : Rows}

theorem ba_mk (s : ByteArray) : (⟨s.data.toList.toArray⟩ : ByteArray) = s := by cases s; rfl

mutual
theorem cval_rel : ∀ (v : Value) (p : PV), cval v = some p → Rel0 w O p v
  | .int k n, p, h => by rw [cval] at h; cases h; exact .int k n
  | .bool b, p, h => by rw [cval] at h; cases h; exact .bool b
  | .string s, p, h => by
    rw [cval] at h
    cases h
    have := Rel0.str (w := w) (O := O) s.data.toList
    rwa [ba_mk] at this
  | .slice A l c, p, h => by
    cases A with
    | some a => simp [cval] at h
    | none =>
      cases l with
      | succ l => simp [cval] at h
      | zero => cases c with
        | succ c => simp [cval] at h
        | zero => rw [cval] at h; cases h; exact .nl none
  | .pointer A, p, h => by
    cases A with
    | some a => simp [cval] at h
    | none => rw [cval] at h; cases h; exact .nilp
  | .nilFunc, p, h => by rw [cval] at h; cases h; exact .nilf
  | .nilIface, p, h => by rw [cval] at h; cases h; exact .nili
  | .agg cs, p, h => by
    rw [cval] at h
    obtain ⟨q, hq, rfl⟩ := Option.map_eq_some_iff.1 h
    obtain ⟨h1, h2, h3⟩ := cvals_rel cs.toList q hq
    have := Rel0.agg (w := w) (O := O) q cs.toList h1 h2 h3
    rwa [Array.toArray_toList] at this
  | .float _ _, p, h => by simp [cval] at h
  | .complex _ _ _, p, h => by simp [cval] at h
  | .map _, p, h => by simp [cval] at h
  | .chan _, p, h => by simp [cval] at h
  | .func _ _ _, p, h => by simp [cval] at h
  | .iface _ _, p, h => by simp [cval] at h
  | .tuple _, p, h => by simp [cval] at h
theorem cvals_rel : ∀ (l : List Value) (q : List PV), cvals l = some q → l.length = q.length ∧ (∀ p ∈ q, p.one = true) ∧ ∀ (j : Nat) (p : PV) (v : Value), q[j]? = some p → l[j]? = some v → Rel0 w O p v
  | [], q, h => by
    rw [cvals] at h
    cases h
    exact ⟨rfl, (fun p hp => by cases hp), (fun j p v hj _ => by simp at hj)⟩
  | v :: r, q, h => by
    rw [cvals] at h
    cases hv : cval v with
    | none => simp [hv] at h
    | some p =>
      cases hr : cvals r with
      | none => simp [hv, hr] at h
      | some q' =>
        simp only [hv, hr] at h
        split at h
        · rename_i hone
          cases h
          obtain ⟨h1, h2, h3⟩ := cvals_rel r q' hr
          refine ⟨by simp [h1], ?_, ?_⟩
          · intro x hx
            rcases List.mem_cons.1 hx with e | e
            · rw [e]; exact hone
            · exact h2 x e
          · intro j x u hj hu
            cases j with
            | zero => simp at hj hu; subst hj; subst hu; exact cval_rel v p hv
            | succ j => exact h3 j x u (by simpa using hj) (by simpa using hu)
        · cases h
end

theorem getD_tmp {a : Act} {t : Nat} {v : Value} (h : a.tmps[t]? = some v) : a.eval (.tmp t) = v := by
  obtain ⟨hlt, h⟩ := Array.getElem?_eq_some_iff.1 h
  simp [Act.eval, Array.getD, hlt, h]

theorem ev_rel {s : Slots} {a : Act} (hs : ∀ k p, s k = some p → ∃ v, a.tmps[k]? = some v ∧ Rel w O μ R p v) {x : Operand} {y : Opd} (h : copd x = some y) {p : PV} (hp : y.ev s = some p) :
    Rel w O μ R p (a.eval x) := by
  cases x with
  | tmp t =>
    cases h
    obtain ⟨v, hv, hr⟩ := hs t p hp
    rw [getD_tmp hv]
    exact hr
  | const v =>
    obtain ⟨q, hq, rfl⟩ := Option.map_eq_some_iff.1 h
    cases hp
    exact .base _ _ (cval_rel v p hq)
  | global g => cases h
  | func f =>
    cases h
    cases hp
    exact .base _ _ (.clo f [] [] rfl (fun j p v hj _ => by simp at hj))

theorem Rel.int_inv {k : IntKind} {n : Int} {v : Value} (h : Rel w O μ R (.int k n) v) : v = .int k n := by
  cases h with | base _ _ h => cases h; rfl
theorem Rel.bool_inv {b : Bool} {v : Value} (h : Rel w O μ R (.bool b) v) : v = .bool b := by
  cases h with | base _ _ h => cases h; rfl
theorem Rel.str_inv {s : List UInt8} {v : Value} (h : Rel w O μ R (.str s) v) : v = .string ⟨s.toArray⟩ := by
  cases h with | base _ _ h => cases h; rfl

theorem intBits_run {P : Program} {op : BinOp} {k : IntKind} {a b n : Int} (h : ibits op k a b = some n) : (Op.intBits op k a b).run P w = .ok (.int k n) w := by
  cases op <;> simp only [ibits] at h <;> cases h <;> rfl

theorem bin_run {P : Program} (op : BinOp) (t : TypeId) {p q r : PV} (h : binv op p q = some r) {u v : Value} (hu : Rel w O μ R p u) (hv : Rel w O μ R q v) :
    ∃ x, (binOp op t u v).run P w = .ok x w ∧ Rel0 w O r x := by
  cases p <;> cases q <;> simp only [binv] at h <;> try cases h
  case int.int k a k' b =>
    cases hu.int_inv
    cases hv.int_inv
    split at h
    · rename_i hs
      unfold ishift at h
      split at h
      · cases h
      · rename_i hb
        cases op <;> simp [isShift] at hs <;> simp at h <;> subst h
        · exact ⟨_, by simp [binOp, Op.shift, hb], .int _ _⟩
        · exact ⟨_, by simp [binOp, Op.shift, hb], .int _ _⟩
    · rename_i hs
      split at h
      · rename_i hk
        subst hk
        cases op <;> simp [isShift] at hs <;> simp [ibin] at h
        case add => subst h; exact ⟨_, by simp [binOp, Op.intArith], .int _ _⟩
        case sub => subst h; exact ⟨_, by simp [binOp, Op.intArith], .int _ _⟩
        case mul => subst h; exact ⟨_, by simp [binOp, Op.intArith], .int _ _⟩
        case quo => obtain ⟨h0, h⟩ := h; subst h; exact ⟨_, by simp [binOp, Op.intDiv, h0], .int _ _⟩
        case rem => obtain ⟨h0, h⟩ := h; subst h; exact ⟨_, by simp [binOp, Op.intDiv, h0], .int _ _⟩
        case eql => subst h; exact ⟨_, by simp [binOp, Op.intCmp], .bool _⟩
        case neq => subst h; exact ⟨_, by simp [binOp, Op.intCmp], .bool _⟩
        case lss => subst h; exact ⟨_, by simp [binOp, Op.intCmp], .bool _⟩
        case leq => subst h; exact ⟨_, by simp [binOp, Op.intCmp], .bool _⟩
        case gtr => subst h; exact ⟨_, by simp [binOp, Op.intCmp], .bool _⟩
        case geq => subst h; exact ⟨_, by simp [binOp, Op.intCmp], .bool _⟩
        all_goals
          obtain ⟨n, hn, rfl⟩ := h
          exact ⟨_, by simp only [binOp]; simpa using intBits_run hn, .int _ _⟩
      · cases h
  case str.str a b =>
    cases hu.str_inv
    cases hv.str_inv
    split at h
    · cases h
    · rename_i hs
      cases op <;> simp [isShift] at hs <;> simp [sbin] at h
      case add =>
        obtain ⟨h0, h⟩ := h
        subst h
        refine ⟨_, ?_, .str _⟩
        simp only [binOp]
        rw [run_string_add_sum _ _ _ (by simpa [ByteArray.size] using h0), ByteArray.mk_append_mk]
      case eql => subst h; exact ⟨_, by simp [binOp, Op.stringOp], .bool _⟩
      case neq => subst h; exact ⟨_, by simp [binOp, Op.stringOp], .bool _⟩
      case lss => subst h; exact ⟨_, by simp [binOp, Op.stringOp], .bool _⟩
      case leq => subst h; exact ⟨_, by simp [binOp, Op.stringOp], .bool _⟩
      case gtr => subst h; exact ⟨_, by simp [binOp, Op.stringOp], .bool _⟩
      case geq => subst h; exact ⟨_, by simp [binOp, Op.stringOp], .bool _⟩

theorem eqGuard_plain {P : Program} (op : BinOp) (t : TypeId) (x y : Operand) {p q r : PV} (h : binv op p q = some r) {u v : Value} (hu : Rel w O μ R p u) :
    (eqGuard op t x y u v).run P w = .ok () w := by
  cases p <;> cases q <;> simp only [binv] at h <;> try cases h
  case int.int => cases hu.int_inv; simp [eqGuard_at_int]
  case str.str => cases hu.str_inv; simp [eqGuard_at_string]

theorem un_run {P : Program} (op : UnOp) {p r : PV} (h : unv op p = some r) {u : Value} (hu : Rel w O μ R p u) : ∃ x, (Op.unary op u).run P w = .ok x w ∧ Rel0 w O r x := by
  cases p <;> simp only [unv] at h <;> try cases h
  case int k n =>
    cases hu.int_inv
    cases op <;> simp at h
    · subst h; exact ⟨_, by simp [Op.unary, Op.intArith], .int _ _⟩
    · obtain ⟨m, hm, rfl⟩ := h
      exact ⟨_, by simp only [Op.unary]; exact intBits_run hm, .int _ _⟩
  case bool b =>
    cases hu.bool_inv
    cases op <;> simp at h
    subst h; exact ⟨_, by simp [Op.unary], .bool _⟩
end
end Go.Vd
