import Derived.Test.YtgogpopeldnddaaTC
set_option linter.unusedVariables false
set_option linter.unusedSimpArgs false
namespace Go.Proofs.TR1
open Go.Vd Go.RowKit
def l3_0 : IC := (.seq (.seq (.reg [⟨(some 28), (.mov (.t 9)), none⟩, ⟨(some 29), (.bin .lss (.t 28) (.c (.int .i64 8))), none⟩, ⟨(some 30), (.mov (.t 29)), none⟩, ⟨(some 31), (.mov (.t 0)), (some (30, true))⟩, ⟨(some 32), (.mov (.t 9)), (some (30, true))⟩, ⟨(some 33), (.bin .mul (.c (.int .i64 8)) (.t 32)), (some (30, true))⟩, ⟨(some 34), (.bin .sub (.t 33) (.c (.int .i64 1))), (some (30, true))⟩, ⟨(some 35), (.cvi .u64 (.t 34)), (some (30, true))⟩, ⟨(some 36), (.bin .shr (.t 31) (.t 35)), (some (30, true))⟩, ⟨(some 37), (.bin .neq (.t 36) (.c (.int .i64 0))), (some (30, true))⟩, ⟨(some 38), (.mov (.t 37)), (some (30, true))⟩, ⟨(some 39), (.mov (.t 0)), (some (38, true))⟩, ⟨(some 40), (.mov (.t 9)), (some (38, true))⟩, ⟨(some 41), (.bin .mul (.c (.int .i64 8)) (.t 40)), (some (38, true))⟩, ⟨(some 42), (.bin .sub (.t 41) (.c (.int .i64 1))), (some (38, true))⟩, ⟨(some 43), (.cvi .u64 (.t 42)), (some (38, true))⟩, ⟨(some 44), (.bin .shr (.t 39) (.t 43)), (some (38, true))⟩, ⟨(some 45), (.bin .neq (.t 44) (.c (.int .i64 (-1)))), (some (38, true))⟩, ⟨(some 46), (.pick (.t 38) (.t 45) (.c (.bool false))), (some (30, true))⟩, ⟨(some 47), (.pick (.t 30) (.t 46) (.c (.bool false))), none⟩]) (.cond (.t 47) .skip (.exit 0))) (.block 1 (.reg [⟨(some 48), (.mov (.t 9)), none⟩, ⟨(some 49), (.bin .add (.t 48) (.c (.int .i64 1))), none⟩, ⟨(some 9), (.mov (.t 49)), none⟩])))
def k3 : IC := (.seq (.reg [⟨(some 2), (.mov (.c (.bool false))), none⟩]) (.seq (.seq (.reg [⟨(some 10), (.call 6 []), none⟩, ⟨(some 11), (.un .not (.t 10)), none⟩]) (.cond (.t 11) (.seq (.reg [⟨(some 2), (.mov (.c (.bool false))), none⟩]) .ret) .skip)) (.seq (.reg [⟨(some 12), (.mov (.t 0)), none⟩, ⟨(some 13), (.call 7 [(.t 12)]), none⟩, ⟨(some 3), (.mov (.t 13)), none⟩]) (.seq (.reg [⟨(some 15), (.mov (.t 3)), none⟩, ⟨(some 16), (.call 8 [(.t 15)]), none⟩, ⟨(some 14), (.mov (.t 16)), none⟩, ⟨(some 17), (.ext 0 (.t 14)), none⟩, ⟨(some 18), (.ext 1 (.t 14)), none⟩, ⟨(some 4), (.mov (.t 17)), none⟩, ⟨(some 5), (.mov (.t 18)), none⟩]) (.seq (.reg [⟨(some 6), (.mov (.c (.str [0]))), none⟩]) (.seq (.mark (.seq (.reg [⟨(some 19), (.mov (.t 0)), none⟩, ⟨(some 20), (.bin .lss (.t 19) (.c (.int .i64 0))), none⟩]) (.cond (.t 20) (.reg [⟨(some 6), (.mov (.c (.str [255]))), none⟩]) .skip))) (.seq (.reg [⟨(some 22), (.mov (.t 6)), none⟩, ⟨(some 23), (.mov (.t 3)), none⟩, ⟨(some 24), (.bin .add (.t 22) (.t 23)), none⟩, ⟨(some 25), (.call 8 [(.t 24)]), none⟩, ⟨(some 21), (.mov (.t 25)), none⟩, ⟨(some 26), (.ext 0 (.t 21)), none⟩, ⟨(some 27), (.ext 1 (.t 21)), none⟩, ⟨(some 7), (.mov (.t 26)), none⟩, ⟨(some 8), (.mov (.t 27)), none⟩]) (.seq (.reg [⟨(some 9), (.mov (.c (.int .i64 1))), none⟩]) (.seq (.block 0 (.loop l3_0)) (.seq (.reg [⟨(some 50), (.mov (.t 5)), none⟩, ⟨(some 51), (.mov (.t 50)), none⟩, ⟨(some 52), (.mov (.t 4)), (some (51, true))⟩, ⟨(some 53), (.mov (.t 0)), (some (51, true))⟩, ⟨(some 54), (.bin .eql (.t 52) (.t 53)), (some (51, true))⟩, ⟨(some 55), (.pick (.t 51) (.t 54) (.c (.bool false))), none⟩, ⟨(some 56), (.mov (.t 55)), none⟩, ⟨(some 57), (.mov (.t 8)), (some (56, true))⟩, ⟨(some 58), (.un .not (.t 57)), (some (56, true))⟩, ⟨(some 59), (.pick (.t 56) (.t 58) (.c (.bool false))), none⟩, ⟨(some 60), (.mov (.t 59)), none⟩, ⟨(some 61), (.mov (.t 3)), (some (60, true))⟩, ⟨(some 62), (.len true (.t 61)), (some (60, true))⟩, ⟨(some 63), (.mov (.t 9)), (some (60, true))⟩, ⟨(some 64), (.bin .eql (.t 62) (.t 63)), (some (60, true))⟩, ⟨(some 65), (.pick (.t 60) (.t 64) (.c (.bool false))), none⟩, ⟨(some 2), (.mov (.t 65)), none⟩]) .ret))))))))))
theorem c3 : cfunc Try.prog Try.f3 = some ⟨66, k3.un, [(.tmp 2)]⟩ := by kernel_rfl
def k4 : IC := (.seq (.reg [⟨(some 2), (.mov (.c (.bool false))), none⟩]) (.seq (.seq (.reg [⟨(some 4), (.call 6 []), none⟩, ⟨(some 5), (.un .not (.t 4)), none⟩]) (.cond (.t 5) (.seq (.reg [⟨(some 2), (.mov (.c (.bool false))), none⟩]) .ret) .skip)) (.seq (.reg [⟨(some 6), (.mov (.t 0)), none⟩, ⟨(some 7), (.cvi .i64 (.t 6)), none⟩, ⟨(some 8), (.call 7 [(.t 7)]), none⟩, ⟨(some 3), (.mov (.t 8)), none⟩]) (.seq (.seq (.reg [⟨(some 9), (.mov (.t 0)), none⟩, ⟨(some 10), (.bin .geq (.t 9) (.c (.int .i16 (-128)))), none⟩, ⟨(some 11), (.mov (.t 10)), none⟩, ⟨(some 12), (.mov (.t 0)), (some (11, true))⟩, ⟨(some 13), (.bin .leq (.t 12) (.c (.int .i16 127))), (some (11, true))⟩, ⟨(some 14), (.pick (.t 11) (.t 13) (.c (.bool false))), none⟩]) (.cond (.t 14) (.seq (.reg [⟨(some 15), (.mov (.t 3)), none⟩, ⟨(some 16), (.len true (.t 15)), none⟩, ⟨(some 17), (.bin .eql (.t 16) (.c (.int .i64 1))), none⟩, ⟨(some 18), (.mov (.t 17)), none⟩, ⟨(some 19), (.mov (.t 3)), (some (18, true))⟩, ⟨(some 20), (.idxs (.t 19) (.c (.int .i64 0))), (some (18, true))⟩, ⟨(some 21), (.mov (.t 0)), (some (18, true))⟩, ⟨(some 22), (.cvi .u8 (.t 21)), (some (18, true))⟩, ⟨(some 23), (.bin .eql (.t 20) (.t 22)), (some (18, true))⟩, ⟨(some 24), (.pick (.t 18) (.t 23) (.c (.bool false))), none⟩, ⟨(some 2), (.mov (.t 24)), none⟩]) .ret) .skip)) (.seq (.reg [⟨(some 25), (.mov (.t 3)), none⟩, ⟨(some 26), (.len true (.t 25)), none⟩, ⟨(some 27), (.bin .eql (.t 26) (.c (.int .i64 2))), none⟩, ⟨(some 28), (.mov (.t 27)), none⟩, ⟨(some 29), (.mov (.t 3)), (some (28, true))⟩, ⟨(some 30), (.idxs (.t 29) (.c (.int .i64 0))), (some (28, true))⟩, ⟨(some 31), (.mov (.t 0)), (some (28, true))⟩, ⟨(some 32), (.bin .shr (.t 31) (.c (.int .u64 8))), (some (28, true))⟩, ⟨(some 33), (.cvi .u8 (.t 32)), (some (28, true))⟩, ⟨(some 34), (.bin .eql (.t 30) (.t 33)), (some (28, true))⟩, ⟨(some 35), (.pick (.t 28) (.t 34) (.c (.bool false))), none⟩, ⟨(some 36), (.mov (.t 35)), none⟩, ⟨(some 37), (.mov (.t 3)), (some (36, true))⟩, ⟨(some 38), (.idxs (.t 37) (.c (.int .i64 1))), (some (36, true))⟩, ⟨(some 39), (.mov (.t 0)), (some (36, true))⟩, ⟨(some 40), (.cvi .u8 (.t 39)), (some (36, true))⟩, ⟨(some 41), (.bin .eql (.t 38) (.t 40)), (some (36, true))⟩, ⟨(some 42), (.pick (.t 36) (.t 41) (.c (.bool false))), none⟩, ⟨(some 2), (.mov (.t 42)), none⟩]) .ret)))))
theorem c4 : cfunc Try.prog Try.f4 = some ⟨43, k4.un, [(.tmp 2)]⟩ := by kernel_rfl
theorem q7a : Sat Try.prog 7 noRows [.int .i64 128] (.str [0, 128]) noRows := by
  have h := sat7 128 (by decide) (by decide)
  have e : enc 128 = [0, 128] := by decide +kernel
  rwa [e] at h
theorem q7b : Sat Try.prog 7 noRows [.int .i64 (-1)] (.str [255]) noRows := by
  have h := sat7 (-1) (by decide) (by decide)
  have e : enc (-1) = [255] := by decide +kernel
  rwa [e] at h
theorem q8a : Sat Try.prog 8 noRows [.str [0, 128]] (.tup [.int .i64 128, .bool true]) noRows := by
  have e : rd [0, 128] = 128 := by decide +kernel
  have e2 : enc 128 = [0, 128] := by decide +kernel
  refine sat8 [0, 128] (by decide) [_, _] (fun h => absurd h ?_) (fun _ => by rw [e]) (by rw [e]; decide)
  unfold BadI
  rw [e, e2]
  decide
theorem q8b : Sat Try.prog 8 noRows [.str [0, 1]] (.tup [.int .i64 0, .bool false]) noRows := by
  have e : rd [0, 1] = 1 := by decide +kernel
  have e2 : enc 1 = [1] := by decide +kernel
  refine sat8 [0, 1] (by decide) [_, _] (fun h => rfl) (fun h => absurd ?_ h) (by rw [e]; decide)
  unfold BadI
  rw [e, e2]
  decide
theorem q17 : Sat Try.prog 17 noRows [.int .u8 2, .int .i64 5] (.agg [.int .u8 2, .str [5], .nl]) noRows := by
  have h := sat17 2 5 (by decide) (by decide)
  have e : enc 5 = [5] := by decide +kernel
  rwa [e] at h
theorem q13 : Sat Try.prog 13 noRows [.bool true] (.str [255]) noRows := sat13 true

theorem sat6 : Sat Try.prog 6 noRows [] (.bool true) noRows := by
  refine sat_plain mixed Try.func6 c6 (rs := [_]) rfl rfl ?_
  refine wo (opop rfl) <| wo (ocall rfl rfl q8a rfl rfl rfl) <| wo (opop rfl) <| wo (opop rfl) <| wo (opop rfl) <| wo (opop rfl) <| wo (opop rfl) <| wo (ocall rfl rfl q8b rfl rfl rfl) <| wo (opop rfl) <| wo (opop rfl) <| wo (opop rfl) <| wo (opop rfl) <| wo (opop rfl) <| wo (ocall rfl rfl (sat10_1 5) rfl rfl rfl) ?_
  refine wo (opop rfl) <| wo (opop rfl) <| wo (opop rfl) <| wo (opop rfl) <| wo (opop rfl) <| wo (ocall rfl rfl sat10_0 rfl rfl rfl) <| wo (opop rfl) <| wo (opop rfl) <| wo (opop rfl) <| wo (opop rfl) <| wo (opop rfl) <| wo (ocall rfl rfl q7a rfl rfl rfl) <| wo (opop rfl) <| wo (opop rfl) <| wog rfl (ocall rfl rfl q7b rfl rfl rfl) ?_
  refine wog rfl (opop rfl) <| wo (opop rfl) <| wo (opop rfl) <| wog rfl (opop rfl) <| wo (opop rfl) <| wo (opop rfl) <| wog rfl (opop rfl) <| wog rfl (opop rfl) <| wo (opop rfl) <| wo (opop rfl) <| wog rfl (opop rfl) <| wog rfl (opop rfl) <| wo (opop rfl) <| wo (opop rfl) <| wog rfl (ocall rfl rfl q13 rfl rfl rfl) ?_
  refine wog rfl (opop rfl) <| wo (opop rfl) <| wo (opop rfl) <| wog rfl (opop rfl) <| wo (opop rfl) <| wo (opop rfl) <| wog rfl (opop rfl) <| wo (opop rfl) <| wo (opop rfl) <| wog rfl (opop rfl) <| wog rfl (opop rfl) <| wo (opop rfl) <| wo (opop rfl) <| wog rfl (ocall rfl rfl q17 rfl rfl rfl) <| wog rfl (opop rfl) ?_
  refine wog rfl (ocall rfl rfl (sat15 2 2 [5] [5]) rfl rfl rfl) <| wo (opop rfl) <| wo (opop rfl) <| wog rfl (ocall rfl rfl (sat16 4 [97]) rfl rfl rfl) <| wog rfl (opop rfl) <| wog rfl (ocall rfl rfl (sat15 4 4 [97] [97]) rfl rfl rfl) <| wo (opop rfl) <| wo (opop rfl) ?_
  exact ⟨nofun, rfl, rfl⟩


def Sm (n : Int) (i : Nat) : Prop := n.fdiv (2 ^ (8 * i - 1)) = 0 ∨ n.fdiv (2 ^ (8 * i - 1)) = -1

theorem Sm_iff {n r : Int} {x : UInt8} {m : Nat} (hv : r * 256 + x.toNat = n.fdiv (2 ^ (8 * m))) : r = sgn x ↔ Sm n (m + 1) := by
  have hx := x.toNat_lt
  have hp : (0 : Int) ≤ 2 ^ (8 * m) := Int.le_of_lt (Int.pow_pos (by decide))
  have e : n.fdiv (2 ^ (8 * (m + 1) - 1)) = (r * 256 + x.toNat) / 128 := by
    rw [hv, Int.fdiv_eq_ediv_of_nonneg _ hp, Int.fdiv_eq_ediv_of_nonneg _ (Int.le_of_lt (Int.pow_pos (by decide)))]
    rw [show 8 * (m + 1) - 1 = 8 * m + 7 from by omega, Int.pow_add, Int.ediv_ediv_of_nonneg hp]
    rfl
  unfold Sm
  rw [e, sgn_eq]
  split <;> omega

theorem enc_steps {n : Int} : ∀ (k : Nat) (r : Int) (x : UInt8) (b : List UInt8), -(2 : Int) ^ (8 * k + 7) ≤ r * 256 + x.toNat → r * 256 + x.toNat < (2 : Int) ^ (8 * k + 7) → r * 256 + x.toNat = n.fdiv (2 ^ (8 * b.length)) →
    (∀ i, b.length + 1 ≤ i → i < (encL (k + 1) r x b).length → ¬ Sm n i) ∧ Sm n (encL (k + 1) r x b).length ∧ (encL (k + 1) r x b).length ≤ b.length + 1 + k := by
  intro k
  induction k with
  | zero =>
    intro r x b h1 h2 hv
    have hr := sgn_end h1 h2
    rw [encL_eq hr]
    refine ⟨fun i h3 h4 => ?_, (Sm_iff hv).1 hr, by simp⟩
    simp at h4
    omega
  | succ k ih =>
    intro r x b h1 h2 hv
    by_cases hr : r = sgn x
    · rw [encL_eq hr]
      refine ⟨fun i h3 h4 => ?_, (Sm_iff hv).1 hr, by simp⟩
      simp at h4
      omega
    · rw [encL_ne hr]
      obtain ⟨g1, g2⟩ := step_bounds h1 h2
      have h3 : r.fdiv 256 * 256 + (byte r).toNat = r := by
        rw [byte_toNat, fdiv256]
        omega
      have hx := x.toNat_lt
      have hp : (0 : Int) ≤ 2 ^ (8 * b.length) := Int.le_of_lt (Int.pow_pos (by decide))
      have hv' : r.fdiv 256 * 256 + (byte r).toNat = n.fdiv (2 ^ (8 * (x :: b).length)) := by
        rw [h3, List.length_cons, Int.fdiv_eq_ediv_of_nonneg _ (Int.le_of_lt (Int.pow_pos (by decide))), show 8 * (b.length + 1) = 8 * b.length + 8 from by omega, Int.pow_add, ← Int.ediv_ediv_of_nonneg hp,
          ← Int.fdiv_eq_ediv_of_nonneg _ hp, ← hv]
        have : (2 : Int) ^ 8 = 256 := by decide
        rw [this]
        omega
      obtain ⟨j1, j2, j3⟩ := ih _ _ (x :: b) g1 g2 hv'
      refine ⟨fun i h4 h5 => ?_, j2, by simp at j3; omega⟩
      by_cases hi : i = b.length + 1
      · subst hi
        exact fun h => hr ((Sm_iff hv).2 h)
      · exact j1 i (by simp; omega) h5

theorem enc_facts {n : Int} (h1 : -9223372036854775808 ≤ n) (h2 : n < 9223372036854775808) : (∀ i, 1 ≤ i → i < (enc n).length → ¬ Sm n i) ∧ Sm n (enc n).length ∧ (enc n).length ≤ 8 ∧ 1 ≤ (enc n).length := by
  have h3 : n.fdiv 256 * 256 + (byte n).toNat = n := by
    rw [byte_toNat, fdiv256]
    omega
  have := enc_steps (n := n) 7 (n.fdiv 256) (byte n) [] (by rw [h3]; exact h1) (by rw [h3]; exact h2) (by rw [h3, List.length_nil, Int.fdiv_eq_ediv_of_nonneg _ (by decide)]; simp)
  have h4 := (encL_len 8 (n.fdiv 256) (byte n) []).2
  exact ⟨this.1, this.2.1, this.2.2, h4⟩

end Go.Proofs.TR1
