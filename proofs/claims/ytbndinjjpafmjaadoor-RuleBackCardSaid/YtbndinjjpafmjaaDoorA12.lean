/- A part of the proof: a logic of values, rows and steps. -/
import Derived.Test.YtbndinjjpafmjaaDoorA4
section
set_option linter.unusedVariables false
set_option linter.unusedSimpArgs false
namespace Go.Vd
theorem w64_id {n : Int} (h1 : -9223372036854775808 ≤ n) (h2 : n < 9223372036854775808) : w64 n = n := i64_wrap h1 h2
theorem w64_succ {i : Nat} (h : i < 9223372036854775807) : w64 ((i : Int) + 1) = ((i + 1 : Nat) : Int) := by
  rw [w64_id (by omega) (by omega)]; omega
theorem w64_nat {i : Nat} (h : i < 9223372036854775808) : w64 (i : Int) = (i : Int) := w64_id (by omega) (by omega)
theorem idxL_nat {α : Type} (l : List α) (i : Nat) : idxL l (i : Int) = l[i]? := by
  unfold idxL; rw [if_pos (by omega)]; simp
theorem idxL_lt {α : Type} {l : List α} {i : Nat} {x : α} (h : l[i]? = some x) : idxL l (i : Int) = some x := by rw [idxL_nat, h]
theorem chkI_nat {i n : Nat} (h : i < n) : chkI (i : Int) n = some i := by
  unfold chkI; rw [if_pos ⟨by omega, by omega⟩]; simp
theorem cutL_nat {α : Type} {l : List α} {i j : Nat} (h1 : i ≤ j) (h2 : j ≤ l.length) : cutL l (i : Int) (j : Int) = some ((l.take j).drop i) := by
  unfold cutL; rw [if_pos ⟨by omega, by omega, by omega⟩]; simp
theorem takeL_nat {α : Type} {l : List α} {j : Nat} (h2 : j ≤ l.length) : takeL l (j : Int) = some (l.take j) := by
  unfold takeL; rw [if_pos ⟨by omega, by omega⟩]; simp
theorem dropL_nat {α : Type} {l : List α} {j : Nat} (h2 : j ≤ l.length) : dropL l (j : Int) = some (l.drop j) := by
  unfold dropL; rw [if_pos ⟨by omega, by omega⟩]; simp
theorem appL_ok {α : Type} {k : Nat} {a b : List α} (h : (a.length + b.length) * k ≤ 140737488355328) : appL k a b = some (a ++ b) := by
  unfold appL; rw [if_pos h]
theorem catS_ok {a b : List UInt8} (h : a.length + b.length ≤ 9223372036854775807) : catS a b = some (a ++ b) := by
  unfold catS; rw [if_pos h]
theorem bldS_ok {a : List UInt8} (h0 : a ≠ []) (h : a.length ≤ 9223372036854775807) : bldS a = some a := by
  unfold bldS; rw [if_pos ⟨h0, h⟩]
theorem dec_lt_nat {i n : Nat} : decide ((i : Int) < (n : Int)) = decide (i < n) := by simp
theorem u8_ext {a b : UInt8} (h : a.toNat = b.toNat) : a = b := UInt8.toNat_inj.mp h
theorem u8_eq {a b : UInt8} : (((a.toNat : Nat) : Int) == ((b.toNat : Nat) : Int)) = (a == b) := by
  rw [Bool.eq_iff_iff]; simp; constructor
  · intro h; exact u8_ext (by omega)
  · intro h; rw [h]
theorem take_succ {α : Type} {l : List α} {i : Nat} {x : α} (h : l[i]? = some x) : l.take (i + 1) = l.take i ++ [x] := by
  rw [List.take_add_one, h]; rfl
theorem u8_all {p : UInt8 → Bool} (h : (List.range 256).all (fun n => p (UInt8.ofNat n)) = true) (c : UInt8) : p c = true := by
  have := List.all_eq_true.1 h c.toNat (List.mem_range.2 c.toNat_lt)
  simpa using this
theorem get_mid {α : Type} (a b : List α) (x : α) : (a ++ x :: b)[a.length]? = some x := by simp
theorem idx_mid {α : Type} (a b : List α) (x : α) : idxL (a ++ x :: b) (a.length : Int) = some x := by rw [idxL_nat, get_mid]
theorem set_mid {α : Type} (a b : List α) (x y : α) : (a ++ x :: b).set a.length y = a ++ y :: b := by
  induction a with
  | nil => rfl
  | cons c a ih => simp only [List.cons_append, List.length_cons, List.set_cons_succ, ih]
theorem len_mid {α : Type} (a b : List α) (x : α) : decide ((a.length : Int) < ((a ++ x :: b).length : Int)) = true := by simp; omega
theorem len_end {α : Type} (a : List α) : decide ((a.length : Int) < ((a ++ ([] : List α)).length : Int)) = false := by simp
theorem chk_mid {α : Type} (a b : List α) (x : α) : chkI (a.length : Int) (a ++ x :: b).length = some a.length := chkI_nat (by simp)
theorem fuel {k n : Nat} (h : k < n) : ∃ m, n = m + 1 ∧ k ≤ m := ⟨n - 1, by omega, by omega⟩
theorem suc_mid {α : Type} {a b : List α} {x : α} (h : (a ++ x :: b).length ≤ 9223372036854775807) : w64 ((a.length : Int) + 1) = ((a ++ [x]).length : Int) := by
  rw [w64_succ (by simp at h; omega)]; simp
theorem app_mid {α : Type} (a b : List α) (x : α) : a ++ x :: b = (a ++ [x]) ++ b := by simp
end Go.Vd
end
