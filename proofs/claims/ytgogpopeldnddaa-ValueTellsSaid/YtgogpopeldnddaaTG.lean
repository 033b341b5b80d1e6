import Derived.Test.YtgogpopeldnddaaTE
set_option linter.unusedVariables false
set_option linter.unusedSimpArgs false
namespace Go.Proofs.TR1
open Go.Vd Go.RowKit

theorem i16_wrapi {n : Int} (h1 : -32768 ≤ n) (h2 : n < 32768) : IntKind.i64.wrap n = n := i64_wrap (by omega) (by omega)
theorem binv_eqv {k : IntKind} {a b : Int} {c : Bool} (h : (a == b) = c) : binv .eql (.int k a) (.int k b) = some (.bool c) := by
  simp only [binv, isShift, ibin, ← h]
  simp

theorem enc_one {n : Int} (h1 : -128 ≤ n) (h2 : n ≤ 127) : enc n = [byte n] := by
  have hx := byte_toNat n
  have hf := fdiv256 n
  unfold enc
  refine encL_eq ?_
  rw [hf, sgn_eq]
  split <;> omega

theorem enc_two {n : Int} (h1 : -32768 ≤ n) (h2 : n < 32768) (h : ¬ (-128 ≤ n ∧ n ≤ 127)) : enc n = [byte (n / 256), byte n] := by
  have hx := byte_toNat n
  have hy := byte_toNat (n / 256)
  have hne : ¬ n.fdiv 256 = sgn (byte n) := by
    rw [fdiv256, sgn_eq]
    split <;> omega
  unfold enc
  rw [encL_ne hne, fdiv256 n]
  refine encL_eq ?_
  rw [fdiv256, sgn_eq]
  split <;> omega

theorem shr_i16 (n : Int) : binv .shr (.int .i16 n) (.int .u64 8) = some (.int .i16 (n / 256)) := by
  have : binv .shr (.int .i16 n) (.int .u64 8) = some (.int .i16 (n.fdiv (2 ^ 8))) := rfl
  rw [this, Int.fdiv_eq_ediv_of_nonneg _ (by decide)]
  rfl

theorem sat4 (n : Int) (h1 : -32768 ≤ n) (h2 : n < 32768) : Sat Try.prog 4 noRows [.int .i16 n] (.bool true) noRows := by
  have hs := sat7 n (by omega) (by omega)
  by_cases h : -128 ≤ n ∧ n ≤ 127
  · rw [enc_one h.1 h.2] at hs
    have e1 : decide (n ≥ -128) = true := decide_eq_true h.1
    refine sat_plain mixed Try.func4 c4 (rs := [_]) rfl rfl ?_
    refine wo (opop rfl) <| wo (ocall rfl rfl sat6 rfl rfl rfl) <| wo (opop rfl) ?_
    refine wcond rfl nofun (fun _ => ?_)
    refine wo (opop rfl) <| wo (ocvi rfl (i16_wrapi h1 h2)) <| wo (ocall rfl rfl hs rfl rfl rfl) <| wo (opop rfl) <| wo (opop rfl) <| wo (obin rfl rfl (v := .bool true) (by simp [binv, isShift, ibin, h.1])) <| wo (opop rfl) <| wog rfl (opop rfl) <| wog rfl (obin rfl rfl (v := .bool true) (by simp [binv, isShift, ibin, h.2])) ?_
    refine wo (opop rfl) ?_
    refine wcond rfl (fun _ => ?_) nofun
    refine wo (opop rfl) <| wo (opop rfl) <| wo (opop rfl) <| wo (opop rfl) <| wog rfl (opop rfl) <| wog rfl (opop rfl) <| wog rfl (opop rfl) <| wog rfl (ocvi rfl (u8_wrap n)) <| wog rfl (obin rfl rfl (binv_self _ _)) <| wo (opop rfl) <| wo (opop rfl) ?_
    exact ⟨nofun, rfl, rfl⟩
  · rw [enc_two h1 h2 h] at hs
    by_cases g : -128 ≤ n
    · skip
      refine sat_plain mixed Try.func4 c4 (rs := [_]) rfl rfl ?_
      refine wo (opop rfl) <| wo (ocall rfl rfl sat6 rfl rfl rfl) <| wo (opop rfl) ?_
      refine wcond rfl nofun (fun _ => ?_)
      refine wo (opop rfl) <| wo (ocvi rfl (i16_wrapi h1 h2)) <| wo (ocall rfl rfl hs rfl rfl rfl) <| wo (opop rfl) <| wo (opop rfl) <| wo (obin rfl rfl (v := .bool true) (by simp [binv, isShift, ibin]; omega)) <| wo (opop rfl) <| wog rfl (opop rfl) <| wog rfl (obin rfl rfl (v := .bool false) (by simp [binv, isShift, ibin]; omega)) ?_
      refine wo (opop rfl) ?_
      refine wcond rfl nofun (fun _ => ?_)
      refine wo (opop rfl) <| wo (opop rfl) <| wo (opop rfl) <| wo (opop rfl) <| wog rfl (opop rfl) <| wog rfl (opop rfl) <| wog rfl (opop rfl) <| wog rfl (obin rfl rfl (shr_i16 n)) <| wog rfl (ocvi rfl (u8_wrap _)) <| wog rfl (obin rfl rfl (binv_self _ _)) <| wo (opop rfl) <| wo (opop rfl) <| wog rfl (opop rfl) ?_
      refine wog rfl (opop rfl) <| wog rfl (opop rfl) <| wog rfl (ocvi rfl (u8_wrap n)) <| wog rfl (obin rfl rfl (binv_self _ _)) <| wo (opop rfl) <| wo (opop rfl) ?_
      exact ⟨nofun, rfl, rfl⟩
    · skip
      refine sat_plain mixed Try.func4 c4 (rs := [_]) rfl rfl ?_
      refine wo (opop rfl) <| wo (ocall rfl rfl sat6 rfl rfl rfl) <| wo (opop rfl) ?_
      refine wcond rfl nofun (fun _ => ?_)
      refine wo (opop rfl) <| wo (ocvi rfl (i16_wrapi h1 h2)) <| wo (ocall rfl rfl hs rfl rfl rfl) <| wo (opop rfl) <| wo (opop rfl) <| wo (obin rfl rfl (v := .bool false) (by simp [binv, isShift, ibin]; omega)) <| wo (opop rfl) <| wps rfl <| wps rfl <| wo (opop rfl) ?_
      refine wcond rfl nofun (fun _ => ?_)
      refine wo (opop rfl) <| wo (opop rfl) <| wo (opop rfl) <| wo (opop rfl) <| wog rfl (opop rfl) <| wog rfl (opop rfl) <| wog rfl (opop rfl) <| wog rfl (obin rfl rfl (shr_i16 n)) <| wog rfl (ocvi rfl (u8_wrap _)) <| wog rfl (obin rfl rfl (binv_self _ _)) <| wo (opop rfl) <| wo (opop rfl) <| wog rfl (opop rfl) ?_
      refine wog rfl (opop rfl) <| wog rfl (opop rfl) <| wog rfl (ocvi rfl (u8_wrap n)) <| wog rfl (obin rfl rfl (binv_self _ _)) <| wo (opop rfl) <| wo (opop rfl) ?_
      exact ⟨nofun, rfl, rfl⟩
end Go.Proofs.TR1
