/- A part of the proof: a logic of values, rows and steps. -/
import Derived.Test.YtgjeiamilppafaaDoorA4
section
set_option linter.unusedVariables false
set_option linter.unusedSimpArgs false
namespace Go.Vd
theorem w64_id {n : Int} (h1 : -9223372036854775808 ≤ n) (h2 : n < 9223372036854775808) : w64 n = n := i64_wrap h1 h2
theorem fuel {k n : Nat} (h : k < n) : ∃ m, n = m + 1 ∧ k ≤ m := ⟨n - 1, by omega, by omega⟩
end Go.Vd
end
