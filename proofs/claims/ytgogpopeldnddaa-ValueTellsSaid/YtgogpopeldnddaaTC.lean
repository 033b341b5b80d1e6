import Derived.Test.YtgogpopeldnddaaTB
set_option linter.unusedVariables false
set_option linter.unusedSimpArgs false
namespace Go.Proofs.TR1
open Go.Vd Go.RowKit

/-! numbers as bytes -/
theorem fdiv256 (n : Int) : n.fdiv 256 = n / 256 := Int.fdiv_eq_ediv_of_nonneg _ (by decide)

theorem rd_enc : ∀ (k : Nat) (r : Int) (x : UInt8) (b : List UInt8), -(2 : Int) ^ (8 * k + 7) ≤ r * 256 + x.toNat → r * 256 + x.toNat < (2 : Int) ^ (8 * k + 7) → k ≤ 7 →
    rd (encL (k + 1) r x b) = b.foldl rdStep (r * 256 + x.toNat) := by
  intro k
  induction k with
  | zero =>
    intro r x b h1 h2 hk
    have hr := sgn_end h1 h2
    rw [encL_eq hr]
    have hx := x.toNat_lt
    have e : IntKind.i64.wrap (r * 256) = r * 256 := i64_wrap (by omega) (by omega)
    show b.foldl rdStep (rdStep (sgn x) x) = _
    rw [← hr, rdStep, e]
  | succ k ih =>
    intro r x b h1 h2 hk
    by_cases hr : r = sgn x
    · rw [encL_eq hr]
      have hx := x.toNat_lt
      have hs := sgn_eq x
      have e : IntKind.i64.wrap (r * 256) = r * 256 := i64_wrap (by rw [hr, hs]; split <;> omega) (by rw [hr, hs]; split <;> omega)
      show b.foldl rdStep (rdStep (sgn x) x) = _
      rw [← hr, rdStep, e]
    · rw [encL_ne hr]
      obtain ⟨g1, g2⟩ := step_bounds h1 h2
      rw [ih _ _ _ g1 g2 (by omega)]
      have h3 : r.fdiv 256 * 256 + (byte r).toNat = r := by
        rw [byte_toNat, fdiv256]
        omega
      rw [h3]
      have hp : (2 : Int) ^ (8 * (k + 1) + 7) ≤ 2 ^ 63 := by
        have := Nat.pow_le_pow_right (n := 2) (by decide) (show 8 * (k + 1) + 7 ≤ 63 by omega)
        exact_mod_cast this
      have hp' : (2 : Int) ^ 63 = 9223372036854775808 := by decide
      have hx := x.toNat_lt
      have e : IntKind.i64.wrap (r * 256) = r * 256 := i64_wrap (by omega) (by omega)
      show b.foldl rdStep (rdStep r x) = _
      rw [rdStep, e]

theorem rd_of {n : Int} (h1 : -9223372036854775808 ≤ n) (h2 : n < 9223372036854775808) : rd (enc n) = n := by
  have h3 : n.fdiv 256 * 256 + (byte n).toNat = n := by
    rw [byte_toNat, fdiv256]
    omega
  unfold enc
  rw [rd_enc 7 _ _ _ (by rw [h3]; exact h1) (by rw [h3]; exact h2) (by decide), h3]
  rfl

/-- How many bytes. -/
theorem encL_len : ∀ (k : Nat) (r : Int) (x : UInt8) (b : List UInt8), (encL k r x b).length ≤ b.length + 1 + k ∧ b.length + 1 ≤ (encL k r x b).length := by
  intro k
  induction k with
  | zero => intro r x b; simp [encL]
  | succ k ih =>
    intro r x b
    by_cases hr : r = sgn x
    · rw [encL_eq hr]; simp
    · rw [encL_ne hr]
      have := ih (r.fdiv 256) (byte r) (x :: b)
      simp at this
      omega
end Go.Proofs.TR1
