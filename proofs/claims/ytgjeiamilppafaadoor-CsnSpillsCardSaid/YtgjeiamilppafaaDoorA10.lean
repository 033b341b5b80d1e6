/- A part of the proof: functions of the program and what they compute. -/
import Derived.Test.YtgjeiamilppafaaDoorA5
import Derived.Test.YtgjeiamilppafaaDoorA9
section
set_option linter.unusedVariables false
set_option linter.unusedSimpArgs false
namespace Go.Gp
open Go.Vd
def okC (c : api_CSN) : Prop := 0 ≤ c.Time ∧ c.Time ≤ 1099511627776 ∧ 0 ≤ c.Seq ∧ c.Seq ≤ 65535 ∧ 0 ≤ c.Rep ∧ c.Rep < 6
instance (c : api_CSN) : Decidable (okC c) := by unfold okC; infer_instance
theorem andB (p q : Prop) [Decidable p] [Decidable q] : (bif decide p then some (decide q) else some false) = some (decide (p ∧ q)) := by
  by_cases h : p <;> simp [h]
theorem csnIs_eq (N : Nat) (c : api_CSN) : csn_Is N c = some (decide (okC c)) := by
  unfold csn_Is
  simp only [andB, Option.bind_some, ge_iff_le]
  congr 1
def cmpI (a b : Int) : Int := if a < b then -1 else if a > b then 1 else 0
theorem compare64_eq (N : Nat) (a b : Int) : cmp_Compare_int64 N a b = some (cmpI a b) := by
  unfold cmp_Compare_int64 cmp_isNaN_int64 cmpI
  simp only [bne_self_eq_false, Option.bind_some, cond_false]
  by_cases h : a < b
  · simp [h]
  · by_cases h2 : a > b
    · simp [h, h2]
    · simp [h, h2]
theorem compare_eq (N : Nat) (a b : Int) : cmp_Compare_int N a b = some (cmpI a b) := compare64_eq N a b
theorem bneI (a b : Int) : (a != b) = decide (¬ a = b) := by rw [Bool.eq_iff_iff]; simp
theorem or_eq (N : Nat) (x y z : Int) : cmp_Or_int (N + 4) [x, y, z] = some (if x ≠ 0 then x else if y ≠ 0 then y else z) := by
  have w0 : w64 1 = 1 := by rfl
  have w1 : w64 2 = 2 := by rfl
  have w2 : w64 3 = 3 := by rfl
  unfold cmp_Or_int
  simp only [cmp_Or_int_l8, cmp_Or_int_l8_b]
  by_cases hx : x = 0
  · by_cases hy : y = 0
    · by_cases hz : z = 0
      · simp [bneI, idxL, w0, w1, w2, hx, hy, hz]
      · simp [bneI, idxL, w0, w1, w2, hx, hy, hz]
    · simp [bneI, idxL, w0, w1, w2, hx, hy]
  · simp [bneI, idxL, w0, w1, w2, hx]
def cmpS (a b : api_CSN) : Int := if cmpI a.Time b.Time ≠ 0 then cmpI a.Time b.Time else if cmpI a.Seq b.Seq ≠ 0 then cmpI a.Seq b.Seq else cmpI a.Rep b.Rep
theorem csnCmp_eq (N : Nat) (hN : 4 ≤ N) (a b : api_CSN) : csn_Cmp N a b = some (cmpS a b) := by
  unfold csn_Cmp
  obtain ⟨n, rfl⟩ : ∃ n, N = n + 4 := ⟨N - 4, by omega⟩
  rw [compare64_eq, Option.bind_some, compare_eq, Option.bind_some, compare_eq, Option.bind_some, or_eq]
  rfl
theorem cmpI_pos {a b : Int} : cmpI a b > 0 ↔ b < a := by
  unfold cmpI
  split
  · omega
  · split <;> omega
theorem cmpI_zero {a b : Int} : cmpI a b = 0 ↔ a = b := by
  unfold cmpI
  split
  · omega
  · split <;> omega
theorem cmpS_pos {a b : api_CSN} : cmpS a b > 0 ↔ b.Time < a.Time ∨ (a.Time = b.Time ∧ (b.Seq < a.Seq ∨ (a.Seq = b.Seq ∧ b.Rep < a.Rep))) := by
  unfold cmpS
  split
  · rename_i h
    rw [ne_eq, cmpI_zero] at h
    rw [cmpI_pos]; omega
  · rename_i h
    rw [ne_eq, Classical.not_not, cmpI_zero] at h
    split
    · rename_i h2
      rw [ne_eq, cmpI_zero] at h2
      rw [cmpI_pos]; omega
    · rename_i h2
      rw [ne_eq, Classical.not_not, cmpI_zero] at h2
      rw [cmpI_pos]; omega
def okG (g : api_CSN) : Prop := 0 ≤ g.Time ∧ g.Time ≤ 1099511627776 ∧ 0 ≤ g.Seq ∧ g.Seq ≤ 65535
def rawN (g : api_CSN) (now : Int) : api_CSN := if now > g.Time then ⟨now, 0, g.Rep⟩ else if g.Seq < 65535 then ⟨g.Time, g.Seq + 1, g.Rep⟩ else ⟨g.Time + 1, 0, g.Rep⟩
def nextS (g : api_CSN) (now : Int) : api_CSN × Int × api_CSN := if (rawN g now).Time > 1099511627776 then (⟨0, 0, 0⟩, 19, g) else (rawN g now, 0, rawN g now)
theorem next_eq (N : Nat) {g : api_CSN} (hg : okG g) (now : Int) : csn_Gen_Next_o0 N ⟨g⟩ now = some ((nextS g now).1, (nextS g now).2.1, ⟨(nextS g now).2.2⟩) := by
  obtain ⟨h1, h2, h3, h4⟩ := hg
  unfold csn_Gen_Next_o0 csn_Gen_Next_o0_j8 csn_Gen_Next_o0_j6 nextS rawN
  simp only
  rw [w64_id (n := g.Seq + 1) (by omega) (by omega), w64_id (n := g.Time + 1) (by omega) (by omega), andB, Option.bind_some]
  by_cases c1 : now > g.Time
  · have c2 : ¬ now ≤ g.Time := by omega
    by_cases c3 : now > 1099511627776 <;> simp [c1, c2, c3]
  · have c2 : now ≤ g.Time := by omega
    by_cases c4 : g.Seq < 65535
    · have c5 : ¬ (g.Seq + 1 > 65535) := by omega
      have c6 : ¬ (g.Time > 1099511627776) := by omega
      simp [c1, c4, c5, c6]
    · have c5 : g.Seq + 1 > 65535 := by omega
      by_cases c6 : g.Time + 1 > 1099511627776 <;> simp [c1, c2, c4, c5, c6]
def aboveC (g c : api_CSN) : Prop := okC c ∧ (g.Time < c.Time ∨ (c.Time = g.Time ∧ g.Seq < c.Seq))
instance (g c : api_CSN) : Decidable (aboveC g c) := by unfold aboveC; infer_instance
def seeS (g c : api_CSN) : api_CSN := if aboveC g c then ⟨c.Time, c.Seq, g.Rep⟩ else g
theorem see_eq (N : Nat) (hN : 4 ≤ N) (g c : api_CSN) : csn_Gen_See_o0 N ⟨g⟩ c = some ⟨seeS g c⟩ := by
  unfold csn_Gen_See_o0 seeS
  rw [csnIs_eq, Option.bind_some, csnCmp_eq N hN, Option.bind_some, andB, Option.bind_some]
  have he : (okC c ∧ cmpS ⟨c.Time, c.Seq, g.Rep⟩ ⟨g.Time, g.Seq, g.Rep⟩ > 0) ↔ aboveC g c := by
    unfold aboveC
    rw [cmpS_pos]
    simp
  rw [show decide (okC c ∧ cmpS ⟨c.Time, c.Seq, g.Rep⟩ ⟨g.Time, g.Seq, g.Rep⟩ > 0) = decide (aboveC g c) from decide_eq_decide.2 he]
  by_cases h : aboveC g c <;> simp [h]
theorem cknown_big : prefectlaw10_known 9223372036854775808 = some true := by decide +kernel
end Go.Gp
end
section
set_option linter.unusedVariables false
set_option linter.unusedSimpArgs false
namespace Go.Gp
open Go.Vd
theorem spills_j (a0 : UInt8) (a2 : Bool) (N : Nat) (hN : 4 ≤ N) (t : Int) (ht : if a2 then t = 1099511627776 else 0 ≤ t ∧ t ≤ 65535) : prefectlaw10_CsnSpills_j14 a0 a2 N t = some true := by
  unfold prefectlaw10_CsnSpills_j14
  have hk : ((a0 % 6).toNat : Int) < 6 ∧ 0 ≤ ((a0 % 6).toNat : Int) := by
    have h := UInt8.toNat_mod a0 6
    have h2 : (6 : UInt8).toNat = 6 := rfl
    rw [h2] at h
    have := Nat.mod_lt a0.toNat (by omega : 0 < 6)
    omega
  generalize ((a0 % 6).toNat : Int) = k at *
  have ht2 : 0 ≤ t ∧ t ≤ 1099511627776 := by
    cases a2
    · simp at ht; omega
    · simp at ht; omega
  have hk1 : mn (mx k 0) 5 = k := by
    unfold mn mx
    repeat' split
    all_goals omega
  have hm : 0 ≤ Int.tmod (w64 (k + 1)) 6 ∧ Int.tmod (w64 (k + 1)) 6 < 6 := by
    rw [w64_id (by omega) (by omega)]
    exact ⟨Int.tmod_nonneg _ (by omega), Int.tmod_lt_of_pos _ (by omega)⟩
  generalize Int.tmod (w64 (k + 1)) 6 = m at *
  unfold csn_New_n0
  rw [Option.bind_some, hk1, see_eq N hN]
  have e1 : seeS ⟨0, 0, k⟩ ⟨t, 65534, m⟩ = ⟨t, 65534, k⟩ := by
    unfold seeS
    rw [if_pos]
    unfold aboveC okC
    simp only
    omega
  rw [e1, Option.bind_some, next_eq N (g := ⟨t, 65534, k⟩) ⟨ht2.1, ht2.2, by simp, by simp⟩]
  have e2 : nextS ⟨t, 65534, k⟩ 0 = (⟨t, 65535, k⟩, 0, ⟨t, 65535, k⟩) := by
    have r : rawN ⟨t, 65534, k⟩ 0 = ⟨t, 65535, k⟩ := by
      unfold rawN
      rw [if_neg (by simp only; omega), if_pos (by simp)]
      rfl
    unfold nextS
    rw [r, if_neg (by simp only; omega)]
  rw [e2, Option.bind_some, next_eq N (g := ⟨t, 65535, k⟩) ⟨ht2.1, ht2.2, by simp, by simp⟩, Option.bind_some]
  have r : rawN ⟨t, 65535, k⟩ 0 = ⟨t + 1, 0, k⟩ := by
    unfold rawN
    rw [if_neg (by simp only; omega), if_neg (by simp)]
  unfold nextS
  rw [r]
  cases a2 with
  | false =>
    simp at ht
    rw [if_neg (by simp only; omega), w64_id (n := t + 1) (by omega) (by omega)]
    simp
  | true =>
    simp at ht
    subst ht
    rw [if_pos (show (1099511627776 : Int) + 1 > 1099511627776 by omega)]
    simp [csn_Gen_Last]
theorem law_prefectlaw10_CsnSpills (a0 : UInt8) (a1 : Int) (a2 : Bool) (h0 : True) (h1 : IntKind.u16.min ≤ a1 ∧ a1 ≤ IntKind.u16.max) (h2 : True) : ∃ N, prefectlaw10_CsnSpills N a0 a1 a2 = some true := by
  refine ⟨9223372036854775808, ?_⟩
  unfold prefectlaw10_CsnSpills
  rw [cknown_big, Option.bind_some, Bool.not_true, cond_false]
  have hb : 0 ≤ a1 ∧ a1 ≤ 65535 := h1
  cases a2 with
  | false => rw [cond_false, spills_j _ _ _ (by omega) _ (by rw [w64_id (by omega) (by omega)]; simpa using hb)]
  | true => rw [cond_true, spills_j _ _ _ (by omega) _ (by simp)]
end Go.Gp
end
