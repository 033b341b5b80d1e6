/- A part of the proof: a logic of values, rows and steps. -/
import Derived.Test.YtlopcglohpfonaaGreatDoorA4
section
set_option linter.unusedVariables false
set_option linter.unusedSimpArgs false
namespace Go.Vd
theorem NF {n : Int} (h1 : -9223372036854775808 ≤ n) (h2 : n < 9223372036854775808) : BM n = n := tL h1 h2
theorem GA {i : Nat} (h : i < 9223372036854775807) : BM ((i : Int) + 1) = ((i + 1 : Nat) : Int) := by
 rw [NF (by omega) (by omega)]; omega
theorem nH {i : Nat} (h : i < 9223372036854775806) : BM ((i : Int) + 2) = ((i + 2 : Nat) : Int) := by
 rw [NF (by omega) (by omega)]; omega
theorem xL {i : Nat} (h : i < 9223372036854775808) : BM (i : Int) = (i : Int) := NF (by omega) (by omega)
theorem YS {α : Type} (l : List α) (i : Nat) : CE l (i : Int) = l[i]? := by
 unfold CE; rw [if_pos (by omega)]; simp
theorem R3 {α : Type} {l : List α} {i : Nat} {x : α} (h : l[i]? = some x) : CE l (i : Int) = some x := by rw [YS, h]
theorem UN {i n : Nat} (h : i < n) : OV (i : Int) n = some i := by
 unfold OV; rw [if_pos ⟨by omega, by omega⟩]; simp
theorem Z5 {α : Type} {l : List α} {i j : Nat} (h1 : i ≤ j) (h2 : j ≤ l.length) : lS l (i : Int) (j : Int) = some ((l.take j).drop i) := by
 unfold lS; rw [if_pos ⟨by omega, by omega, by omega⟩]; simp
theorem RQ {α : Type} {l : List α} {j : Nat} (h2 : j ≤ l.length) : U3 l (j : Int) = some (l.take j) := by
 unfold U3; rw [if_pos ⟨by omega, by omega⟩]; simp
theorem QF {α : Type} {l : List α} {j : Nat} (h2 : j ≤ l.length) : UH l (j : Int) = some (l.drop j) := by
 unfold UH; rw [if_pos ⟨by omega, by omega⟩]; simp
theorem IV {α : Type} {k : Nat} {a b : List α} (h : (a.length + b.length) * k ≤ 140737488355328) : RD k a b = some (a ++ b) := by
 unfold RD; rw [if_pos h]
theorem ZP {a b : List UInt8} (h : a.length + b.length ≤ 9223372036854775807) : bT a b = some (a ++ b) := by
 unfold bT; rw [if_pos h]
theorem MO {i n : Nat} : decide ((i : Int) < (n : Int)) = decide (i < n) := by simp
theorem Sb {a b : UInt8} (h : a.toNat = b.toNat) : a = b := UInt8.toNat_inj.mp h
theorem u8_eq {a b : UInt8} : (((a.toNat : Nat) : Int) == ((b.toNat : Nat) : Int)) = (a == b) := by
 rw [Bool.eq_iff_iff]; simp; constructor
 ·intro h; exact Sb (by omega)
 ·intro h; rw [h]
theorem Ap {α : Type} {l : List α} {i : Nat} {x : α} (h : l[i]? = some x) : l.take (i + 1) = l.take i ++ [x] := by
 rw [List.take_add_one, h]; rfl
theorem KN {p : UInt8 → Bool} (h : (List.range 256).all (fun n => p (UInt8.ofNat n)) = true) (c : UInt8) : p c = true := by
 have := List.all_eq_true.1 h c.toNat (List.mem_range.2 c.toNat_lt)
 simpa using this
theorem L9 {α : Type} (a b : List α) (x : α) : (a ++ x :: b)[a.length]? = some x := by simp
theorem D9 {α : Type} (a b : List α) (x : α) : CE (a ++ x :: b) (a.length : Int) = some x := by rw [YS, L9]
theorem set_mid {α : Type} (a b : List α) (x y : α) : (a ++ x :: b).set a.length y = a ++ y :: b := by
 induction a with
 | nil => rfl
 | cons c a ih => simp only [List.cons_append, List.length_cons, List.set_cons_succ, ih]
theorem CY {α : Type} (a b : List α) (x : α) : decide ((a.length : Int) < ((a ++ x :: b).length : Int)) = true := by simp; omega
theorem CS {α : Type} (a : List α) : decide ((a.length : Int) < ((a ++ ([] : List α)).length : Int)) = false := by simp
theorem XQ {α : Type} (a b : List α) (x : α) : OV (a.length : Int) (a ++ x :: b).length = some a.length := UN (by simp)
theorem fuel {k n : Nat} (h : k < n) : ∃ m, n = m + 1 ∧ k ≤ m := ⟨n - 1, by omega, by omega⟩
theorem D7 {α : Type} {a b : List α} {x : α} (h : (a ++ x :: b).length ≤ 9223372036854775807) : BM ((a.length : Int) + 1) = ((a ++ [x]).length : Int) := by
 rw [GA (by simp at h; omega)]; simp
theorem EN {α : Type} (a b : List α) (x : α) : a ++ x :: b = (a ++ [x]) ++ b := by simp
theorem oS {α β : Type} (x : α) (f : α → Option β) : (some x).bind f = f x := rfl
end Go.Vd
end
