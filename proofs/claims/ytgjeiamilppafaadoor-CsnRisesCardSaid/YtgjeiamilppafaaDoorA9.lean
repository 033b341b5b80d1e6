/- A part of the proof: a logic of values, rows and steps. -/
import Derived.Test.YtgjeiamilppafaaDoorA4
section
set_option linter.unusedVariables false
set_option linter.unusedSimpArgs false
namespace Go.Vd
theorem w64_id {n : Int} (h1 : -9223372036854775808 ≤ n) (h2 : n < 9223372036854775808) : w64 n = n := i64_wrap h1 h2
theorem w64_succ {i : Nat} (h : i < 9223372036854775807) : w64 ((i : Int) + 1) = ((i + 1 : Nat) : Int) := by
  rw [w64_id (by omega) (by omega)]; omega
theorem idxL_nat {α : Type} (l : List α) (i : Nat) : idxL l (i : Int) = l[i]? := by
  unfold idxL; rw [if_pos (by omega)]; simp
theorem get_mid {α : Type} (a b : List α) (x : α) : (a ++ x :: b)[a.length]? = some x := by simp
theorem idx_mid {α : Type} (a b : List α) (x : α) : idxL (a ++ x :: b) (a.length : Int) = some x := by rw [idxL_nat, get_mid]
theorem len_mid {α : Type} (a b : List α) (x : α) : decide ((a.length : Int) < ((a ++ x :: b).length : Int)) = true := by simp; omega
theorem len_end {α : Type} (a : List α) : decide ((a.length : Int) < ((a ++ ([] : List α)).length : Int)) = false := by simp
theorem fuel {k n : Nat} (h : k < n) : ∃ m, n = m + 1 ∧ k ≤ m := ⟨n - 1, by omega, by omega⟩
theorem suc_mid {α : Type} {a b : List α} {x : α} (h : (a ++ x :: b).length ≤ 9223372036854775807) : w64 ((a.length : Int) + 1) = ((a ++ [x]).length : Int) := by
  rw [w64_succ (by simp at h; omega)]; simp
theorem app_mid {α : Type} (a b : List α) (x : α) : a ++ x :: b = (a ++ [x]) ++ b := by simp
end Go.Vd
end
