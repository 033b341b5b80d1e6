/- Steps whose outcome is put in another way. -/
import Derived.Test.YtgogpopeldnddaaVeA
set_option linter.unusedVariables false
set_option linter.unusedSimpArgs false
namespace Go.Vd
open Go.RowKit

section
variable {P : Program} {T : Nat → Bool} {d : Option Nat} {st : St}

/-- Two operands, what comes of them as is said. -/
theorem obin {op : BinOp} {x y : Opd} {p q v : PV} (hx : x.ev st.s = some p) (hy : y.ev st.s = some q) (h : binv op p q = some v) : OpS P T (.bin op x y) d st (st.put d v) :=
  opop (by simp only [pop, hx, hy, opt2, h])
/-- A number in another kind. -/
theorem ocvi {k : IntKind} {x : Opd} {k' : IntKind} {n m : Int} (hx : x.ev st.s = some (.int k' n)) (h : k.wrap n = m) : OpS P T (.cvi k x) d st (st.put d (.int k m)) :=
  opop (by simp only [pop, hx, Option.bind_some, cviv, h])
/-- A place in an own row. -/
theorem oixr {sz : Nat} {x y : Opd} {t lo n i : Nat} {k : IntKind} {z : Int} {row : Row} (hx : x.ev st.s = some (.slr t lo n)) (hy : y.ev st.s = some (.int k z)) (hz : z = (i : Int)) (hr : st.r t = some row) (hs : Nat.beq row.sz sz = true) (hi : i < n) : OpS P T (.ixp sz x y) d st (st.put d (.ptr t (lo + i) 0)) :=
  opop (by
    simp only [pop, hx, hy, opt2, ixpv, hr]
    rw [if_pos ⟨Nat.eq_of_beq_eq_true hs, by omega, by omega⟩, hz, Int.toNat_natCast])
/-- A place in what nobody writes. -/
theorem oixs {sz : Nat} {x y : Opd} {i : Nat} {xs : List PV} {e : PV} {k : IntKind} {z : Int} (hx : x.ev st.s = some (.sl sz xs)) (hy : y.ev st.s = some (.int k z)) (hz : z = (i : Int)) (hi : xs[i]? = some e) : OpS P T (.ixp sz x y) d st (st.put d (.ep e.cells)) :=
  opop (by
    simp only [pop, hx, hy, opt2, ixpv]
    rw [if_pos ⟨trivial, by omega⟩, hz, Int.toNat_natCast, hi]
    rfl)
/-- A read through a pointer to a row. -/
theorem oldr {sz : Nat} {ag : Bool} {x : Opd} {t i o : Nat} {row : Row} {e v : PV} (hx : x.ev st.s = some (.ptr t i o)) (hr : st.r t = some row) (hi : row.cs[i]? = some e) (h : (if ag = true ∧ e.cells.length < o + sz then none else partv o sz ag e.cells) = some v) : OpS P T (.load sz ag x) d st (st.put d v) :=
  opop (by simp only [pop, hx, Option.bind_some, loadv, hr, hi]; exact h)
/-- The text of a row of bytes. -/
theorem ocvb {x : Opd} {t lo n : Nat} {row : Row} {b : List UInt8} (hx : x.ev st.s = some (.slr t lo n)) (hr : st.r t = some row) (hp : row.pr = true) (hs : Nat.beq row.sz 1 = true) (hb : (row.cs.drop lo).take n = bytesP b) : OpS P T (.cvb x) d st (st.put d (.str b)) :=
  opop (by
    simp only [pop, hx, Option.bind_some, cvbv, hr]
    rw [if_pos ⟨hp, Nat.eq_of_beq_eq_true hs, by rw [hb]; exact bytesP_u8 b⟩, hb, bytesP_byte])
/-- A byte of a text. -/
theorem oidx {x y : Opd} {s : List UInt8} {i : Nat} {k : IntKind} {z : Int} {b : UInt8} (hx : x.ev st.s = some (.str s)) (hy : y.ev st.s = some (.int k z)) (hz : z = (i : Int)) (hi : s[i]? = some b) : OpS P T (.idxs x y) d st (st.put d (.int .u8 (b.toNat : Int))) :=
  opop (by
    simp only [pop, hx, hy, opt2, idxsv]
    rw [if_pos (by omega), hz, Int.toNat_natCast, hi]
    rfl)
/-- A part of a text. -/
theorem oslc {x : Opd} {lo hi : Option Opd} {s : List UInt8} {pl ph : Option PV} {l h : Nat} (hx : x.ev st.s = some (.str s)) (hl : evO st.s lo = some pl) (hh : evO st.s hi = some ph) (hb : bounds s.length pl ph = some (l, h)) : OpS P T (.slcs x lo hi) d st (st.put d (.str ((s.take h).drop l))) :=
  opop (by simp only [pop, hx, hl, hh, Option.bind_some, slcsv, hb, Option.map_some])
end

theorem elems_row {R : Rows} {sz t lo n : Nat} {row : Row} {ys : List PV} (hr : R t = some row) (hp : row.pr = true) (hs : Nat.beq row.sz sz = true) (h : (row.cs.drop lo).take n = ys) (hn : lo + n ≤ row.cs.length) : elemsv R sz (.slr t lo n) = some ys := by
  simp only [elemsv, hr]
  simp [hp, Nat.eq_of_beq_eq_true hs, h]
theorem take_all {α : Type} {l : List α} {n : Nat} (h : l.length = n) : (l.drop 0).take n = l := by rw [List.drop_zero, ← h, List.take_length]

theorem binv_u8and (a b : UInt8) : binv .and (.int .u8 (a.toNat : Int)) (.int .u8 (b.toNat : Int)) = some (.int .u8 ((a &&& b).toNat : Int)) := u8_and a b
theorem binv_u8or (a b : UInt8) : binv .or (.int .u8 (a.toNat : Int)) (.int .u8 (b.toNat : Int)) = some (.int .u8 ((a ||| b).toNat : Int)) := u8_or a b
theorem binv_shr (n : Int) (k : IntKind) (m : Nat) (hm : m ≤ 64) : binv .shr (.int .i64 n) (.int k (m : Int)) = some (.int .i64 (n.fdiv (2 ^ m))) := shr_i64 n m hm
theorem binv_add {a b c : Int} (h : a + b = c) (h1 : -9223372036854775808 ≤ c) (h2 : c < 9223372036854775808) : binv .add (.int .i64 a) (.int .i64 b) = some (.int .i64 c) := by
  change some (PV.int .i64 (IntKind.i64.wrap (a + b))) = _
  rw [h, i64_wrap h1 h2]
theorem binv_sub {a b c : Int} (h : a - b = c) (h1 : -9223372036854775808 ≤ c) (h2 : c < 9223372036854775808) : binv .sub (.int .i64 a) (.int .i64 b) = some (.int .i64 c) := by
  change some (PV.int .i64 (IntKind.i64.wrap (a - b))) = _
  rw [h, i64_wrap h1 h2]
theorem binv_mul {a b c : Int} (h : a * b = c) (h1 : -9223372036854775808 ≤ c) (h2 : c < 9223372036854775808) : binv .mul (.int .i64 a) (.int .i64 b) = some (.int .i64 c) := by
  change some (PV.int .i64 (IntKind.i64.wrap (a * b))) = _
  rw [h, i64_wrap h1 h2]
theorem binv_cat {a b : List UInt8} (h : a.length + b.length ≤ 9223372036854775807) : binv .add (.str a) (.str b) = some (.str (a ++ b)) := by
  simp [binv, isShift, sbin, h]

theorem binv_i64or {z : Int} {c : Nat} (h1 : -9223372036854775808 ≤ z) (h2 : z < 9223372036854775808) (h3 : z % 256 = 0) (hc : c < 256) : binv .or (.int .i64 z) (.int .i64 (c : Int)) = some (.int .i64 (z + c)) := i64_or h1 h2 h3 hc
theorem binv_shl (n : Int) (k : IntKind) (m : Nat) (hm : m ≤ 64) : binv .shl (.int .i64 n) (.int k (m : Int)) = some (.int .i64 (IntKind.i64.wrap (n * 2 ^ m))) := by
  have : min m 64 = m := by omega
  simp [binv, isShift, ishift, IntKind.bits, this]
theorem bytesP_get {s : List UInt8} {i : Nat} {b : UInt8} (h : s[i]? = some b) : (bytesP s)[i]? = some (.int .u8 (b.toNat : Int)) := by
  simp [bytesP, h]

theorem noOwn {μ : Mu} {b : Nat} (h : Owned μ noRows b) : False := by
  obtain ⟨t, row, l, h1, _⟩ := h
  simp [noRows] at h1
/-- A law's contract, as its row asks for it. -/
theorem Sat.below {P : Program} {f : FuncId} {ps : List PV} (h : Sat P f noRows ps (.bool true) noRows) {W : World} {vs : List Value} (hargs : CellsRel W (fun _ => False) (fun _ => none) noRows ps vs) :
    Calls P f vs.toArray W fun e W' => e = .returned (.bool true) ∧ Below W.heap.size W W' := by
  have hav : ∀ (μ : Mu) b, Av (fun _ => False) μ noRows b → False := fun μ b hb => hb.elim id noOwn
  refine (h (fun _ => False) (fun _ => none) W vs (fun b hb => hb.elim) ⟨fun t row ht => by simp [noRows] at ht, fun t t' row row' l l' ht => by simp [noRows] at ht, fun t row l ht => by simp [noRows] at ht⟩ ⟨hargs.len, fun j p v hj hv => ?_⟩).mono ?_
  · exact (hargs.rel j p v hj hv).mono (fun _ => true) (fun _ _ _ => rfl) (fun b _ hb => (hav _ b hb).elim) (fun t row _ ht => by simp [noRows] at ht) (PV.tk_true _)
  · rintro e w' ⟨v, μ', rfl, hfr, _, _, _, hr⟩
    have := hr.bool_inv
    subst this
    exact ⟨rfl, hfr.os, hfr.tape, hfr.output, hfr.size, fun b hb => hfr.block b hb noOwn⟩
theorem cells_nil {W : World} : CellsRel W (fun _ => False) (fun _ => none) noRows [] [] := ⟨rfl, fun j p v hj => by simp at hj⟩
theorem cells_cons {W : World} {p : PV} {v : Value} {ps : List PV} {vs : List Value} (h : Rel0 W (fun _ => False) p v) (k : CellsRel W (fun _ => False) (fun _ => none) noRows ps vs) : CellsRel W (fun _ => False) (fun _ => none) noRows (p :: ps) (v :: vs) := by
  refine ⟨by simp [k.len], fun j q u hj hu => ?_⟩
  cases j with
  | zero => simp at hj hu; subst hj; subst hu; exact .base _ _ h
  | succ j => exact k.rel j q u (by simpa using hj) (by simpa using hu)

end Go.Vd
