/- A part of the proof: a logic of values, rows and steps. -/
import Derived.Test.YtgjeiamilppafaaDoorA4
section
set_option linter.unusedVariables false
set_option linter.unusedSimpArgs false
namespace Go.Vd
theorem w64_id {n : Int} (h1 : -9223372036854775808 ≤ n) (h2 : n < 9223372036854775808) : w64 n = n := i64_wrap h1 h2
theorem w64_succ {i : Nat} (h : i < 9223372036854775807) : w64 ((i : Int) + 1) = ((i + 1 : Nat) : Int) := by
  rw [w64_id (by omega) (by omega)]; omega
theorem w64_nat {i : Nat} (h : i < 9223372036854775808) : w64 (i : Int) = (i : Int) := w64_id (by omega) (by omega)
theorem idxL_nat {α : Type} (l : List α) (i : Nat) : idxL l (i : Int) = l[i]? := by
  unfold idxL; rw [if_pos (by omega)]; simp
theorem chkI_nat {i n : Nat} (h : i < n) : chkI (i : Int) n = some i := by
  unfold chkI; rw [if_pos ⟨by omega, by omega⟩]; simp
theorem takeL_nat {α : Type} {l : List α} {j : Nat} (h2 : j ≤ l.length) : takeL l (j : Int) = some (l.take j) := by
  unfold takeL; rw [if_pos ⟨by omega, by omega⟩]; simp
theorem dropL_nat {α : Type} {l : List α} {j : Nat} (h2 : j ≤ l.length) : dropL l (j : Int) = some (l.drop j) := by
  unfold dropL; rw [if_pos ⟨by omega, by omega⟩]; simp
theorem catS_ok {a b : List UInt8} (h : a.length + b.length ≤ 9223372036854775807) : catS a b = some (a ++ b) := by
  unfold catS; rw [if_pos h]
theorem get_mid {α : Type} (a b : List α) (x : α) : (a ++ x :: b)[a.length]? = some x := by simp
theorem set_mid {α : Type} (a b : List α) (x y : α) : (a ++ x :: b).set a.length y = a ++ y :: b := by
  induction a with
  | nil => rfl
  | cons c a ih => simp only [List.cons_append, List.length_cons, List.set_cons_succ, ih]
theorem fuel {k n : Nat} (h : k < n) : ∃ m, n = m + 1 ∧ k ≤ m := ⟨n - 1, by omega, by omega⟩
theorem app_mid {α : Type} (a b : List α) (x : α) : a ++ x :: b = (a ++ [x]) ++ b := by simp
end Go.Vd
end
