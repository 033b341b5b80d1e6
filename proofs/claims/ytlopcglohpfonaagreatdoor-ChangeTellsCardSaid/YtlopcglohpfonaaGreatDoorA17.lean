/- A part of the proof: a logic of values, rows and steps. -/
import Derived.Test.YtlopcglohpfonaaGreatDoorA4
section
set_option linter.unusedVariables false
set_option linter.unusedSimpArgs false
namespace Go.Vd
theorem aI {n : Int} (h1 : -9223372036854775808 ≤ n) (h2 : n < 9223372036854775808) : BQ n = n := rO h1 h2
theorem JM {i : Nat} (h : i < 9223372036854775807) : BQ ((i : Int) + 1) = ((i + 1 : Nat) : Int) := by
 rw [aI (by omega) (by omega)]; omega
theorem yX {i : Nat} (h : i < 9223372036854775806) : BQ ((i : Int) + 2) = ((i + 2 : Nat) : Int) := by
 rw [aI (by omega) (by omega)]; omega
theorem dH {α : Type} (l : List α) (i : Nat) : CQ l (i : Int) = l[i]? := by
 unfold CQ; rw [if_pos (by omega)]; simp
theorem UN {α : Type} {l : List α} {i : Nat} {x : α} (h : l[i]? = some x) : CQ l (i : Int) = some x := by rw [dH, h]
theorem Ib {i n : Nat} (h : i < n) : R4 (i : Int) n = some i := by
 unfold R4; rw [if_pos ⟨by omega, by omega⟩]; simp
theorem sF {α : Type} {l : List α} {i j : Nat} (h1 : i ≤ j) (h2 : j ≤ l.length) : kQ l (i : Int) (j : Int) = some ((l.take j).drop i) := by
 unfold kQ; rw [if_pos ⟨by omega, by omega, by omega⟩]; simp
theorem VV {α : Type} {l : List α} {j : Nat} (h2 : j ≤ l.length) : TN l (j : Int) = some (l.take j) := by
 unfold TN; rw [if_pos ⟨by omega, by omega⟩]; simp
theorem TH {α : Type} {l : List α} {j : Nat} (h2 : j ≤ l.length) : U0 l (j : Int) = some (l.drop j) := by
 unfold U0; rw [if_pos ⟨by omega, by omega⟩]; simp
theorem KY {α : Type} {k : Nat} {a b : List α} (h : (a.length + b.length) * k ≤ 140737488355328) : QK k a b = some (a ++ b) := by
 unfold QK; rw [if_pos h]
theorem ZF {a b : List UInt8} (h : a.length + b.length ≤ 9223372036854775807) : bH a b = some (a ++ b) := by
 unfold bH; rw [if_pos h]
theorem M3 {i n : Nat} : decide ((i : Int) < (n : Int)) = decide (i < n) := by simp
theorem Ql {a b : UInt8} (h : a.toNat = b.toNat) : a = b := UInt8.toNat_inj.mp h
theorem u8_eq {a b : UInt8} : (((a.toNat : Nat) : Int) == ((b.toNat : Nat) : Int)) = (a == b) := by
 rw [Bool.eq_iff_iff]; simp; constructor
 ·intro h; exact Ql (by omega)
 ·intro h; rw [h]
theorem zC {α : Type} {l : List α} {i : Nat} {x : α} (h : l[i]? = some x) : l.take (i + 1) = l.take i ++ [x] := by
 rw [List.take_add_one, h]; rfl
theorem K7 {p : UInt8 → Bool} (h : (List.range 256).all (fun n => p (UInt8.ofNat n)) = true) (c : UInt8) : p c = true := by
 have := List.all_eq_true.1 h c.toNat (List.mem_range.2 c.toNat_lt)
 simpa using this
theorem O4 {α : Type} (a b : List α) (x : α) : (a ++ x :: b)[a.length]? = some x := by simp
theorem DD {α : Type} (a b : List α) (x : α) : CQ (a ++ x :: b) (a.length : Int) = some x := by rw [dH, O4]
theorem set_mid {α : Type} (a b : List α) (x y : α) : (a ++ x :: b).set a.length y = a ++ y :: b := by
 induction a with
 | nil => rfl
 | cons c a ih => simp only [List.cons_append, List.length_cons, List.set_cons_succ, ih]
theorem D9 {α : Type} (a b : List α) (x : α) : decide ((a.length : Int) < ((a ++ x :: b).length : Int)) = true := by simp; omega
theorem CZ {α : Type} (a : List α) : decide ((a.length : Int) < ((a ++ ([] : List α)).length : Int)) = false := by simp
theorem dM {α : Type} (a b : List α) (x : α) : R4 (a.length : Int) (a ++ x :: b).length = some a.length := Ib (by simp)
theorem fuel {k n : Nat} (h : k < n) : ∃ m, n = m + 1 ∧ k ≤ m := ⟨n - 1, by omega, by omega⟩
theorem DI {α : Type} {a b : List α} {x : α} (h : (a ++ x :: b).length ≤ 9223372036854775807) : BQ ((a.length : Int) + 1) = ((a ++ [x]).length : Int) := by
 rw [JM (by simp at h; omega)]; simp
theorem EA {α : Type} (a b : List α) (x : α) : a ++ x :: b = (a ++ [x]) ++ b := by simp
end Go.Vd
end
