/- Numbers, bytes. -/
import Derived.Test.YtgogpopeldnddaaVdZ
set_option linter.unusedVariables false
set_option linter.unusedSimpArgs false
namespace Go.Vd
open Go.RowKit

def byte (n : Int) : UInt8 := UInt8.ofNat (n % 256).toNat

theorem byte_toNat (n : Int) : ((byte n).toNat : Int) = n % 256 := by
  unfold byte
  rw [UInt8.toNat_ofNat']
  have h1 := Int.emod_nonneg n (show (256 : Int) ≠ 0 by decide)
  have h2 := Int.emod_lt_of_pos n (show (0 : Int) < 256 by decide)
  omega
theorem u8_wrap (n : Int) : IntKind.u8.wrap n = ((byte n).toNat : Int) := by
  rw [byte_toNat]
  simp [IntKind.wrap, IntKind.bits, IntKind.signed]
theorem u8_lt (b : UInt8) : ((b.toNat : Nat) : Int) < 256 := by have := b.toNat_lt; omega
theorem u8_nn (b : UInt8) : 0 ≤ ((b.toNat : Nat) : Int) := Int.natCast_nonneg _
theorem i64_wrap {n : Int} (h1 : -9223372036854775808 ≤ n) (h2 : n < 9223372036854775808) : IntKind.i64.wrap n = n := by
  change (if (true && decide (n % 18446744073709551616 ≥ 9223372036854775808)) = true then n % 18446744073709551616 - 18446744073709551616 else n % 18446744073709551616) = n
  simp only [Bool.true_and, decide_eq_true_eq]
  split <;> omega
theorem u64_wrap {n : Int} (h1 : 0 ≤ n) (h2 : n < 18446744073709551616) : IntKind.u64.wrap n = n := by
  change (if (false && decide (n % 18446744073709551616 ≥ 9223372036854775808)) = true then n % 18446744073709551616 - 18446744073709551616 else n % 18446744073709551616) = n
  rw [Bool.false_and, if_neg (by simp)]
  exact Int.emod_eq_of_lt h1 h2

theorem u8_ofInt (b : UInt8) : BitVec.ofInt 8 (b.toNat : Int) = b.toBitVec := by
  apply BitVec.eq_of_toNat_eq
  simp [BitVec.toNat_ofInt]
theorem u8_and (a b : UInt8) : ibin .and .u8 (a.toNat : Int) (b.toNat : Int) = some (.int .u8 ((a &&& b).toNat : Int)) := by
  change some (PV.int .u8 (IntKind.u8.wrap ((BitVec.ofInt 8 (a.toNat : Int) &&& BitVec.ofInt 8 (b.toNat : Int)).toNat : Int))) = _
  rw [u8_ofInt, u8_ofInt]
  refine congrArg (fun x => some (PV.int .u8 x)) ?_
  change IntKind.u8.wrap (((a &&& b).toNat : Nat) : Int) = _
  rw [u8_wrap, byte_toNat]
  have := (a &&& b).toNat_lt
  omega
theorem u8_or (a b : UInt8) : ibin .or .u8 (a.toNat : Int) (b.toNat : Int) = some (.int .u8 ((a ||| b).toNat : Int)) := by
  change some (PV.int .u8 (IntKind.u8.wrap ((BitVec.ofInt 8 (a.toNat : Int) ||| BitVec.ofInt 8 (b.toNat : Int)).toNat : Int))) = _
  rw [u8_ofInt, u8_ofInt]
  refine congrArg (fun x => some (PV.int .u8 x)) ?_
  change IntKind.u8.wrap (((a ||| b).toNat : Nat) : Int) = _
  rw [u8_wrap, byte_toNat]
  have := (a ||| b).toNat_lt
  omega

theorem shr_i64 (n : Int) (k : Nat) (hk : k ≤ 64) : ishift .shr .i64 n (k : Int) = some (.int .i64 (n.fdiv (2 ^ k))) := by
  have : min k 64 = k := by omega
  simp [ishift, IntKind.bits, this]

/-- The same value, put in another way. -/
theorem vi {k : IntKind} {a b : Int} (h : a = b) : some (PV.int k a) = some (PV.int k b) := by rw [h]
theorem vs {a b : List UInt8} (h : a = b) : some (PV.str a) = some (PV.str b) := by rw [h]
theorem vb {a b : Bool} (h : a = b) : some (PV.bool a) = some (PV.bool b) := by rw [h]
theorem vsl {a b : List UInt8} (h : a = b) : some [PV.str a] = some [PV.str b] := by rw [h]
theorem vbl {a b : Bool} (h : a = b) : some [PV.bool a] = some [PV.bool b] := by rw [h]
theorem vr {sz : Nat} {pr : Bool} {a b : List PV} (h : a = b) : some (Row.mk sz pr a) = some (Row.mk sz pr b) := by rw [h]
theorem vt {t lo a b : Nat} (h : a = b) : some (PV.slr t lo a) = some (PV.slr t lo b) := by rw [h]

theorem bytesP_length (l : List UInt8) : (bytesP l).length = l.length := by simp [bytesP]
theorem bytesP_u8 (l : List UInt8) : (bytesP l).all PV.isU8 = true := by
  induction l with
  | nil => rfl
  | cons x r ih => simp [bytesP, PV.isU8]
theorem bytesP_byte (l : List UInt8) : (bytesP l).map PV.byte = l := by
  induction l with
  | nil => rfl
  | cons x r ih =>
    simp only [bytesP, List.map_cons, PV.byte, List.cons.injEq] at ih ⊢
    refine ⟨?_, ih⟩
    simp
/-- The text of bytes. -/
theorem cvb_row {R : Rows} {t : Nat} {l : List UInt8} (h : R t = some ⟨1, true, bytesP l⟩) : cvbv R (.slr t 0 l.length) = some (.str l) := by
  simp only [cvbv, h, List.drop_zero]
  have : (bytesP l).take l.length = bytesP l := List.take_of_length_le (by rw [bytesP_length]; exact Nat.le_refl _)
  rw [this, bytesP_byte, if_pos ⟨trivial, trivial, bytesP_u8 l⟩]
/-- A byte of a row. -/
theorem ixp_row {R : Rows} {t lo n i : Nat} {k : IntKind} {row : Row} (h : R t = some row) (hi : i < n) : ixpv R row.sz (.slr t lo n) (.int k (i : Int)) = some (.ptr t (lo + i) 0) := by
  simp only [ixpv, h]
  rw [if_pos ⟨trivial, Int.natCast_nonneg _, by omega⟩]
  simp

theorem i64_range (z : Int) : -9223372036854775808 ≤ IntKind.i64.wrap z ∧ IntKind.i64.wrap z < 9223372036854775808 ∧ (IntKind.i64.wrap z - z) % 18446744073709551616 = 0 := by
  have h : IntKind.i64.wrap z = (if (true && decide (z % 18446744073709551616 ≥ 9223372036854775808)) = true then z % 18446744073709551616 - 18446744073709551616 else z % 18446744073709551616) := rfl
  rw [h]
  simp only [Bool.true_and, decide_eq_true_eq]
  split <;> omega

theorem nat_or (q c : Nat) (hc : c < 256) : (256 * q) ||| c = 256 * q + c := by
  have := Nat.two_pow_add_eq_or_of_lt (i := 8) (b := c) hc q
  exact this.symm

/-- A byte put beneath. -/
theorem i64_or {z : Int} {c : Nat} (h1 : -9223372036854775808 ≤ z) (h2 : z < 9223372036854775808) (h3 : z % 256 = 0) (hc : c < 256) : ibin .or .i64 z (c : Int) = some (.int .i64 (z + c)) := by
  change some (PV.int .i64 (IntKind.i64.wrap ((BitVec.ofInt 64 z ||| BitVec.ofInt 64 (c : Int)).toNat : Int))) = _
  refine congrArg (fun x => some (PV.int .i64 x)) ?_
  rw [BitVec.toNat_or, BitVec.toNat_ofInt, BitVec.toNat_ofInt]
  have e1 : ((c : Int) % ((2 ^ 64 : Nat) : Int)).toNat = c := by
    have : ((2 ^ 64 : Nat) : Int) = 18446744073709551616 := by decide
    rw [this]; omega
  have e2 : ∃ q : Nat, (z % ((2 ^ 64 : Nat) : Int)).toNat = 256 * q := by
    have : ((2 ^ 64 : Nat) : Int) = 18446744073709551616 := by decide
    rw [this]
    exact ⟨((z % 18446744073709551616).toNat) / 256, by omega⟩
  obtain ⟨q, hq⟩ := e2
  rw [e1, hq, nat_or q c hc, ← hq]
  have e3 : ((2 ^ 64 : Nat) : Int) = 18446744073709551616 := by decide
  rw [e3] at *
  have h4 := i64_range ((((z % 18446744073709551616).toNat + c : Nat)) : Int)
  omega

end Go.Vd
