/- A part of the proof: a logic of values, rows and steps. -/
import Derived.Test.YtlopcglohpfonaaGreatDoorA4
section
set_option linter.unusedVariables false
set_option linter.unusedSimpArgs false
namespace Go.Vd
theorem bC {n : Int} (h1 : -9223372036854775808 ≤ n) (h2 : n < 9223372036854775808) : CE n = n := lC h1 h2
theorem LP {i : Nat} (h : i < 9223372036854775807) : CE ((i : Int) + 1) = ((i + 1 : Nat) : Int) := by
 rw [bC (by omega) (by omega)]; omega
theorem Y8 {α : Type} (l : List α) (i : Nat) : EP l (i : Int) = l[i]? := by
 unfold EP; rw [if_pos (by omega)]; simp
theorem iY {α : Type} {l : List α} {i : Nat} {x : α} (h : l[i]? = some x) : EP l (i : Int) = some x := by rw [Y8, h]
theorem z8 {i n : Nat} (h : i < n) : QS (i : Int) n = some i := by
 unfold QS; rw [if_pos ⟨by omega, by omega⟩]; simp
theorem lM {α : Type} {l : List α} {i j : Nat} (h1 : i ≤ j) (h2 : j ≤ l.length) : fA l (i : Int) (j : Int) = some ((l.take j).drop i) := by
 unfold fA; rw [if_pos ⟨by omega, by omega, by omega⟩]; simp
theorem VM {α : Type} {l : List α} {j : Nat} (h2 : j ≤ l.length) : R9 l (j : Int) = some (l.take j) := by
 unfold R9; rw [if_pos ⟨by omega, by omega⟩]; simp
theorem VS {α : Type} {l : List α} {j : Nat} (h2 : j ≤ l.length) : UI l (j : Int) = some (l.drop j) := by
 unfold UI; rw [if_pos ⟨by omega, by omega⟩]; simp
theorem KA {α : Type} {k : Nat} {a b : List α} (h : (a.length + b.length) * k ≤ 140737488355328) : PO k a b = some (a ++ b) := by
 unfold PO; rw [if_pos h]
theorem VV {a b : List UInt8} (h : a.length + b.length ≤ 9223372036854775807) : XC a b = some (a ++ b) := by
 unfold XC; rw [if_pos h]
theorem X8 {i n : Nat} : decide ((i : Int) < (n : Int)) = decide (i < n) := by simp
theorem Gn {a b : UInt8} (h : a.toNat = b.toNat) : a = b := UInt8.toNat_inj.mp h
theorem u8_eq {a b : UInt8} : (((a.toNat : Nat) : Int) == ((b.toNat : Nat) : Int)) = (a == b) := by
 rw [Bool.eq_iff_iff]; simp; constructor
 ·intro h; exact Gn (by omega)
 ·intro h; rw [h]
theorem rU {α : Type} {l : List α} {i : Nat} {x : α} (h : l[i]? = some x) : l.take (i + 1) = l.take i ++ [x] := by
 rw [List.take_add_one, h]; rfl
theorem TN {p : UInt8 → Bool} (h : (List.range 256).all (fun n => p (UInt8.ofNat n)) = true) (c : UInt8) : p c = true := by
 have := List.all_eq_true.1 h c.toNat (List.mem_range.2 c.toNat_lt)
 simpa using this
theorem NY {α : Type} (a b : List α) (x : α) : (a ++ x :: b)[a.length]? = some x := by simp
theorem FH {α : Type} (a b : List α) (x : α) : EP (a ++ x :: b) (a.length : Int) = some x := by rw [Y8, NY]
theorem set_mid {α : Type} (a b : List α) (x y : α) : (a ++ x :: b).set a.length y = a ++ y :: b := by
 induction a with
 | nil => rfl
 | cons c a ih => simp only [List.cons_append, List.length_cons, List.set_cons_succ, ih]
theorem F3 {α : Type} (a b : List α) (x : α) : decide ((a.length : Int) < ((a ++ x :: b).length : Int)) = true := by simp; omega
theorem EX {α : Type} (a : List α) : decide ((a.length : Int) < ((a ++ ([] : List α)).length : Int)) = false := by simp
theorem YD {α : Type} (a b : List α) (x : α) : QS (a.length : Int) (a ++ x :: b).length = some a.length := z8 (by simp)
theorem fuel {k n : Nat} (h : k < n) : ∃ m, n = m + 1 ∧ k ≤ m := ⟨n - 1, by omega, by omega⟩
theorem F5 {α : Type} {a b : List α} {x : α} (h : (a ++ x :: b).length ≤ 9223372036854775807) : CE ((a.length : Int) + 1) = ((a ++ [x]).length : Int) := by
 rw [LP (by simp at h; omega)]; simp
theorem F8 {α : Type} (a b : List α) (x : α) : a ++ x :: b = (a ++ [x]) ++ b := by simp
theorem oS {α β : Type} (x : α) (f : α → Option β) : (some x).bind f = f x := rfl
end Go.Vd
end
