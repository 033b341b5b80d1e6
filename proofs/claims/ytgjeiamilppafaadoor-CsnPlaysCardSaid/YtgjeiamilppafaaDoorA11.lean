/- A part of the proof: functions of the program and what they compute. -/
import Derived.Test.YtgjeiamilppafaaDoorA5
import Derived.Test.YtgjeiamilppafaaDoorA10
section
set_option linter.unusedVariables false
set_option linter.unusedSimpArgs false
namespace Go.Gp
open Go.Vd
def okC (c : api_CSN) : Prop := 0 ≤ c.Time ∧ c.Time ≤ 1099511627776 ∧ 0 ≤ c.Seq ∧ c.Seq ≤ 65535 ∧ 0 ≤ c.Rep ∧ c.Rep < 6
instance (c : api_CSN) : Decidable (okC c) := by unfold okC; infer_instance
theorem andB (p q : Prop) [Decidable p] [Decidable q] : (bif decide p then some (decide q) else some false) = some (decide (p ∧ q)) := by
  by_cases h : p <;> simp [h]
theorem csnIs_eq (N : Nat) (c : api_CSN) : csn_Is N c = some (decide (okC c)) := by
  unfold csn_Is
  simp only [andB, Option.bind_some, ge_iff_le]
  congr 1
theorem refIs_eq (N : Nat) (c : api_CSN) : prefectref10_Is N c = some (decide (okC c)) := csnIs_eq N c
def cmpI (a b : Int) : Int := if a < b then -1 else if a > b then 1 else 0
theorem compare64_eq (N : Nat) (a b : Int) : cmp_Compare_int64 N a b = some (cmpI a b) := by
  unfold cmp_Compare_int64 cmp_isNaN_int64 cmpI
  simp only [bne_self_eq_false, Option.bind_some, cond_false]
  by_cases h : a < b
  · simp [h]
  · by_cases h2 : a > b
    · simp [h, h2]
    · simp [h, h2]
theorem compare_eq (N : Nat) (a b : Int) : cmp_Compare_int N a b = some (cmpI a b) := compare64_eq N a b
theorem beqI (a b : Int) : (a == b) = decide (a = b) := by rw [Bool.eq_iff_iff]; simp
theorem bneI (a b : Int) : (a != b) = decide (¬ a = b) := by rw [Bool.eq_iff_iff]; simp
theorem or_eq (N : Nat) (x y z : Int) : cmp_Or_int (N + 4) [x, y, z] = some (if x ≠ 0 then x else if y ≠ 0 then y else z) := by
  have w0 : w64 1 = 1 := by rfl
  have w1 : w64 2 = 2 := by rfl
  have w2 : w64 3 = 3 := by rfl
  unfold cmp_Or_int
  simp only [cmp_Or_int_l8, cmp_Or_int_l8_b]
  by_cases hx : x = 0
  · by_cases hy : y = 0
    · by_cases hz : z = 0
      · simp [bneI, idxL, w0, w1, w2, hx, hy, hz]
      · simp [bneI, idxL, w0, w1, w2, hx, hy, hz]
    · simp [bneI, idxL, w0, w1, w2, hx, hy]
  · simp [bneI, idxL, w0, w1, w2, hx]
def cmpS (a b : api_CSN) : Int := if cmpI a.Time b.Time ≠ 0 then cmpI a.Time b.Time else if cmpI a.Seq b.Seq ≠ 0 then cmpI a.Seq b.Seq else cmpI a.Rep b.Rep
theorem csnCmp_eq (N : Nat) (hN : 4 ≤ N) (a b : api_CSN) : csn_Cmp N a b = some (cmpS a b) := by
  unfold csn_Cmp
  obtain ⟨n, rfl⟩ : ∃ n, N = n + 4 := ⟨N - 4, by omega⟩
  rw [compare64_eq, Option.bind_some, compare_eq, Option.bind_some, compare_eq, Option.bind_some, or_eq]
  rfl
theorem csn_ext {a b : api_CSN} : a = b ↔ a.Time = b.Time ∧ a.Seq = b.Seq ∧ a.Rep = b.Rep := by
  cases a; cases b; simp
theorem eqB (a b : api_CSN) : (a.Time == b.Time && (a.Seq == b.Seq && (a.Rep == b.Rep && true))) = decide (a = b) := by
  rw [Bool.eq_iff_iff]
  simp [csn_ext]
theorem cmpI_pos {a b : Int} : cmpI a b > 0 ↔ b < a := by
  unfold cmpI
  split
  · omega
  · split <;> omega
theorem cmpI_zero {a b : Int} : cmpI a b = 0 ↔ a = b := by
  unfold cmpI
  split
  · omega
  · split <;> omega
theorem cmpS_pos {a b : api_CSN} : cmpS a b > 0 ↔ b.Time < a.Time ∨ (a.Time = b.Time ∧ (b.Seq < a.Seq ∨ (a.Seq = b.Seq ∧ b.Rep < a.Rep))) := by
  unfold cmpS
  split
  · rename_i h
    rw [ne_eq, cmpI_zero] at h
    rw [cmpI_pos]; omega
  · rename_i h
    rw [ne_eq, Classical.not_not, cmpI_zero] at h
    split
    · rename_i h2
      rw [ne_eq, cmpI_zero] at h2
      rw [cmpI_pos]; omega
    · rename_i h2
      rw [ne_eq, Classical.not_not, cmpI_zero] at h2
      rw [cmpI_pos]; omega
def okG (g : api_CSN) : Prop := 0 ≤ g.Time ∧ g.Time ≤ 1099511627776 ∧ 0 ≤ g.Seq ∧ g.Seq ≤ 65535
def rawN (g : api_CSN) (now : Int) : api_CSN := if now > g.Time then ⟨now, 0, g.Rep⟩ else if g.Seq < 65535 then ⟨g.Time, g.Seq + 1, g.Rep⟩ else ⟨g.Time + 1, 0, g.Rep⟩
def nextS (g : api_CSN) (now : Int) : api_CSN × Int × api_CSN := if (rawN g now).Time > 1099511627776 then (⟨0, 0, 0⟩, 19, g) else (rawN g now, 0, rawN g now)
theorem next_eq (N : Nat) {g : api_CSN} (hg : okG g) (now : Int) : csn_Gen_Next_o0 N ⟨g⟩ now = some ((nextS g now).1, (nextS g now).2.1, ⟨(nextS g now).2.2⟩) := by
  obtain ⟨h1, h2, h3, h4⟩ := hg
  unfold csn_Gen_Next_o0 csn_Gen_Next_o0_j8 csn_Gen_Next_o0_j6 nextS rawN
  simp only
  rw [w64_id (n := g.Seq + 1) (by omega) (by omega), w64_id (n := g.Time + 1) (by omega) (by omega), andB, Option.bind_some]
  by_cases c1 : now > g.Time
  · have c2 : ¬ now ≤ g.Time := by omega
    by_cases c3 : now > 1099511627776 <;> simp [c1, c2, c3]
  · have c2 : now ≤ g.Time := by omega
    by_cases c4 : g.Seq < 65535
    · have c5 : ¬ (g.Seq + 1 > 65535) := by omega
      have c6 : ¬ (g.Time > 1099511627776) := by omega
      simp [c1, c4, c5, c6]
    · have c5 : g.Seq + 1 > 65535 := by omega
      by_cases c6 : g.Time + 1 > 1099511627776 <;> simp [c1, c2, c4, c5, c6]
theorem rnext_eq (N : Nat) {g : api_CSN} (hg : okG g) (now : Int) : prefectref10_Gen_Next_o0 N ⟨g⟩ now = some ((nextS g now).1, (nextS g now).2.1, ⟨(nextS g now).2.2⟩) := by
  obtain ⟨h1, h2, h3, h4⟩ := hg
  unfold prefectref10_Gen_Next_o0 prefectref10_Gen_Next_o0_j4 nextS rawN
  simp only
  rw [w64_id (n := g.Seq + 1) (by omega) (by omega), w64_id (n := g.Time + 1) (by omega) (by omega)]
  by_cases c1 : now > g.Time
  · by_cases c3 : now > 1099511627776 <;> simp [c1, c3]
  · by_cases c4 : g.Seq < 65535
    · have c6 : ¬ (g.Time > 1099511627776) := by omega
      simp [c1, c4, c6]
    · by_cases c6 : g.Time + 1 > 1099511627776 <;> simp [c1, c4, c6]
def aboveC (g c : api_CSN) : Prop := okC c ∧ (g.Time < c.Time ∨ (c.Time = g.Time ∧ g.Seq < c.Seq))
instance (g c : api_CSN) : Decidable (aboveC g c) := by unfold aboveC; infer_instance
def seeS (g c : api_CSN) : api_CSN := if aboveC g c then ⟨c.Time, c.Seq, g.Rep⟩ else g
theorem see_eq (N : Nat) (hN : 4 ≤ N) (g c : api_CSN) : csn_Gen_See_o0 N ⟨g⟩ c = some ⟨seeS g c⟩ := by
  unfold csn_Gen_See_o0 seeS
  rw [csnIs_eq, Option.bind_some, csnCmp_eq N hN, Option.bind_some, andB, Option.bind_some]
  have he : (okC c ∧ cmpS ⟨c.Time, c.Seq, g.Rep⟩ ⟨g.Time, g.Seq, g.Rep⟩ > 0) ↔ aboveC g c := by
    unfold aboveC
    rw [cmpS_pos]
    simp
  rw [show decide (okC c ∧ cmpS ⟨c.Time, c.Seq, g.Rep⟩ ⟨g.Time, g.Seq, g.Rep⟩ > 0) = decide (aboveC g c) from decide_eq_decide.2 he]
  by_cases h : aboveC g c <;> simp [h]
theorem see1_eq (N : Nat) (hN : 4 ≤ N) (g c : api_CSN) : csn_Gen_See_o1 N ⟨g⟩ c = some ⟨seeS g c⟩ := see_eq N hN g c
theorem rsee_eq (N : Nat) (g c : api_CSN) : prefectref10_Gen_See_o0 N ⟨g⟩ c = some ⟨seeS g c⟩ := by
  unfold prefectref10_Gen_See_o0 seeS aboveC
  rw [refIs_eq, Option.bind_some]
  by_cases h : okC c
  · by_cases h1 : g.Time < c.Time
    · simp [beqI, h, h1]
    · by_cases h2 : c.Time = g.Time
      · by_cases h3 : g.Seq < c.Seq <;> simp [beqI, h, h1, h2, h3]
      · simp [beqI, h, h1, h2]
  · simp [beqI, h]
theorem okG_raw {g : api_CSN} (hg : okG g) (now : Int) (h : ¬ (rawN g now).Time > 1099511627776) : okG (rawN g now) := by
  obtain ⟨h1, h2, h3, h4⟩ := hg
  unfold rawN at h ⊢
  by_cases c1 : now > g.Time
  · rw [if_pos c1] at h ⊢
    simp only at h
    refine ⟨?_, ?_, ?_, ?_⟩ <;> simp only <;> omega
  · rw [if_neg c1] at h ⊢
    by_cases c2 : g.Seq < 65535
    · rw [if_pos c2] at h ⊢
      simp only at h
      refine ⟨?_, ?_, ?_, ?_⟩ <;> simp only <;> omega
    · rw [if_neg c2] at h ⊢
      simp only at h
      refine ⟨?_, ?_, ?_, ?_⟩ <;> simp only <;> omega
theorem okG_next {g : api_CSN} (hg : okG g) (now : Int) : okG (nextS g now).2.2 := by
  unfold nextS
  by_cases h : (rawN g now).Time > 1099511627776
  · rw [if_pos h]; exact hg
  · rw [if_neg h]; exact okG_raw hg now h
theorem okG_see {g : api_CSN} (hg : okG g) (c : api_CSN) : okG (seeS g c) := by
  unfold seeS
  split
  · rename_i h
    exact ⟨h.1.1, h.1.2.1, h.1.2.2.1, h.1.2.2.2.1⟩
  · exact hg
theorem cknown_big : prefectlaw10_known 9223372036854775808 = some true := by decide +kernel
end Go.Gp
end
section
set_option linter.unusedVariables false
set_option linter.unusedSimpArgs false
namespace Go.Gp
open Go.Vd
theorem eqBf {a b : api_CSN} (h : a = b) : (!(a.Time == b.Time && (a.Seq == b.Seq && (a.Rep == b.Rep && true)))) = false := by rw [eqB, decide_eq_true h]; rfl
theorem plays_j (N : Nat) (hN : 4 ≤ N) (v : Int) (rec : (Int × prefectref10_Gen × csn_Gen) → Option (Unit ⊕ Bool)) (x g : api_CSN) : prefectlaw10_CsnPlays_j39 N v rec ⟨x⟩ ⟨g⟩ ⟨g⟩ = rec (w64 (v + 1), ⟨g⟩, ⟨g⟩) := by
  unfold prefectlaw10_CsnPlays_j39
  rw [see1_eq N hN, Option.bind_some]
  unfold csn_Gen_Last
  rw [Option.bind_some]
  simp only
  rw [eqBf (a := ⟨g.Time, g.Seq, g.Rep⟩) (b := g) rfl, cond_false]
theorem plays_loop (N : Nat) (hN : 4 ≤ N) : ∀ (b a : List prefectlaw10_Step) (g : api_CSN) (n : Nat), okG g → (a ++ b).length ≤ 1000 → b.length < n →
    prefectlaw10_CsnPlays_l28 N (a ++ b) n ((a.length : Int), ⟨g⟩, ⟨g⟩) = some (.inl ()) := by
  intro b
  induction b with
  | nil =>
    intro a g n hg hs hn
    obtain ⟨n, rfl, _⟩ := fuel hn
    simp only [prefectlaw10_CsnPlays_l28, prefectlaw10_CsnPlays_l28_b]
    rw [len_end, cond_false]
  | cons s b ih =>
    intro a g n hg hs hn
    obtain ⟨n, rfl, hn'⟩ := fuel hn
    simp only [prefectlaw10_CsnPlays_l28, prefectlaw10_CsnPlays_l28_b]
    rw [len_mid, cond_true]
    have nx : ∀ g', okG g' → prefectlaw10_CsnPlays_l28 N (a ++ s :: b) n (w64 ((a.length : Int) + 1), ⟨g'⟩, ⟨g'⟩) = some (.inl ()) := by
      intro g' h'
      rw [suc_mid (a := a) (b := b) (x := s) (by omega), app_mid]
      exact ih (a ++ [s]) g' n h' (by rw [← app_mid]; exact hs) hn'
    unfold csn_Gen_Copy_n1
    simp only [Option.bind_some, idx_mid]
    rw [next_eq N hg, rnext_eq N hg, see_eq N hN, rsee_eq]
    simp only [Option.bind_some]
    rw [eqBf rfl, bne_self_eq_false, cond_false, Option.bind_some, cond_false, plays_j N hN, plays_j N hN, nx _ (okG_next hg _), nx _ (okG_see hg _)]
    cases decide (s.What ≤ 1) <;> rfl
theorem law_prefectlaw10_CsnPlays (a0 : Int) (a1 : List prefectlaw10_Step) (h0 : IntKind.i64.min ≤ a0 ∧ a0 ≤ IntKind.i64.max) (h1 : a1.length ≤ maxLen ∧ ∀ y0 ∈ a1, b_prefectlaw10_Step y0) : ∃ N, prefectlaw10_CsnPlays N a0 a1 = some true := by
  refine ⟨9223372036854775808, ?_⟩
  unfold prefectlaw10_CsnPlays
  rw [cknown_big, Option.bind_some, Bool.not_true, cond_false]
  by_cases hl : a1.length ≤ 60
  · rw [decide_eq_false (by omega), cond_false]
    unfold csn_New_n0
    rw [Option.bind_some]
    have e : mx 0 (mn a0 5) = mn (mx a0 0) 5 := by
      unfold mx mn
      repeat' split
      all_goals omega
    rw [e]
    have := plays_loop 9223372036854775808 (by omega) a1 [] ⟨0, 0, mn (mx a0 0) 5⟩ 9223372036854775808 ⟨by simp, by simp, by simp, by simp⟩ (by simp; omega) (by omega)
    simp only [List.nil_append, List.length_nil] at this
    rw [show ((0 : Nat) : Int) = (0 : Int) from rfl] at this
    rw [this]
    rfl
  · rw [decide_eq_true (by omega), cond_true]
end Go.Gp
end
