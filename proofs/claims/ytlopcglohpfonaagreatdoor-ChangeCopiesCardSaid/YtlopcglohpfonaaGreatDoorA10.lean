/- A part of the proof: a logic of values, rows and steps. -/
import Derived.Test.YtlopcglohpfonaaGreatDoorA4
section
set_option linter.unusedVariables false
set_option linter.unusedSimpArgs false
namespace Go.Vd
theorem tT {n : Int} (h1 : -9223372036854775808 ≤ n) (h2 : n < 9223372036854775808) : BX n = n := kU h1 h2
theorem JG {i : Nat} (h : i < 9223372036854775807) : BX ((i : Int) + 1) = ((i + 1 : Nat) : Int) := by
 rw [tT (by omega) (by omega)]; omega
theorem XN {α : Type} (l : List α) (i : Nat) : EM l (i : Int) = l[i]? := by
 unfold EM; rw [if_pos (by omega)]; simp
theorem iQ {α : Type} {l : List α} {i : Nat} {x : α} (h : l[i]? = some x) : EM l (i : Int) = some x := by rw [XN, h]
theorem UV {i n : Nat} (h : i < n) : NF (i : Int) n = some i := by
 unfold NF; rw [if_pos ⟨by omega, by omega⟩]; simp
theorem l9 {α : Type} {l : List α} {i j : Nat} (h1 : i ≤ j) (h2 : j ≤ l.length) : dW l (i : Int) (j : Int) = some ((l.take j).drop i) := by
 unfold dW; rw [if_pos ⟨by omega, by omega, by omega⟩]; simp
theorem V5 {α : Type} {l : List α} {j : Nat} (h2 : j ≤ l.length) : QR l (j : Int) = some (l.take j) := by
 unfold QR; rw [if_pos ⟨by omega, by omega⟩]; simp
theorem VB {α : Type} {l : List α} {j : Nat} (h2 : j ≤ l.length) : U6 l (j : Int) = some (l.drop j) := by
 unfold U6; rw [if_pos ⟨by omega, by omega⟩]; simp
theorem TV {α : Type} {k : Nat} {a b : List α} (h : (a.length + b.length) * k ≤ 140737488355328) : QP k a b = some (a ++ b) := by
 unfold QP; rw [if_pos h]
theorem WO {i n : Nat} : decide ((i : Int) < (n : Int)) = decide (i < n) := by simp
theorem Fx {a b : UInt8} (h : a.toNat = b.toNat) : a = b := UInt8.toNat_inj.mp h
theorem u8_eq {a b : UInt8} : (((a.toNat : Nat) : Int) == ((b.toNat : Nat) : Int)) = (a == b) := by
 rw [Bool.eq_iff_iff]; simp; constructor
 ·intro h; exact Fx (by omega)
 ·intro h; rw [h]
theorem rG {α : Type} {l : List α} {i : Nat} {x : α} (h : l[i]? = some x) : l.take (i + 1) = l.take i ++ [x] := by
 rw [List.take_add_one, h]; rfl
theorem TD {p : UInt8 → Bool} (h : (List.range 256).all (fun n => p (UInt8.ofNat n)) = true) (c : UInt8) : p c = true := by
 have := List.all_eq_true.1 h c.toNat (List.mem_range.2 c.toNat_lt)
 simpa using this
theorem KQ {α : Type} (a b : List α) (x : α) : (a ++ x :: b)[a.length]? = some x := by simp
theorem GV {α : Type} (a b : List α) (x : α) : EM (a ++ x :: b) (a.length : Int) = some x := by rw [XN, KQ]
theorem set_mid {α : Type} (a b : List α) (x y : α) : (a ++ x :: b).set a.length y = a ++ y :: b := by
 induction a with
 | nil => rfl
 | cons c a ih => simp only [List.cons_append, List.length_cons, List.set_cons_succ, ih]
theorem FX {α : Type} (a b : List α) (x : α) : decide ((a.length : Int) < ((a ++ x :: b).length : Int)) = true := by simp; omega
theorem FL {α : Type} (a : List α) : decide ((a.length : Int) < ((a ++ ([] : List α)).length : Int)) = false := by simp
theorem VE {α : Type} (a b : List α) (x : α) : NF (a.length : Int) (a ++ x :: b).length = some a.length := UV (by simp)
theorem fuel {k n : Nat} (h : k < n) : ∃ m, n = m + 1 ∧ k ≤ m := ⟨n - 1, by omega, by omega⟩
theorem FT {α : Type} {a b : List α} {x : α} (h : (a ++ x :: b).length ≤ 9223372036854775807) : BX ((a.length : Int) + 1) = ((a ++ [x]).length : Int) := by
 rw [JG (by simp at h; omega)]; simp
theorem F9 {α : Type} (a b : List α) (x : α) : a ++ x :: b = (a ++ [x]) ++ b := by simp
theorem oS {α β : Type} (x : α) (f : α → Option β) : (some x).bind f = f x := rfl
end Go.Vd
end
