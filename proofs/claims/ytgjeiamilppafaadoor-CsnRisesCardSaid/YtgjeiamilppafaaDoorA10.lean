/- A part of the proof: functions of the program and what they compute. -/
import Derived.Test.YtgjeiamilppafaaDoorA5
import Derived.Test.YtgjeiamilppafaaDoorA9
section
set_option linter.unusedVariables false
set_option linter.unusedSimpArgs false
namespace Go.Gp
open Go.Vd
def okC (c : api_CSN) : Prop := 0 ≤ c.Time ∧ c.Time ≤ 1099511627776 ∧ 0 ≤ c.Seq ∧ c.Seq ≤ 65535 ∧ 0 ≤ c.Rep ∧ c.Rep < 6
instance (c : api_CSN) : Decidable (okC c) := by unfold okC; infer_instance
theorem andB (p q : Prop) [Decidable p] [Decidable q] : (bif decide p then some (decide q) else some false) = some (decide (p ∧ q)) := by
  by_cases h : p <;> simp [h]
theorem csnIs_eq (N : Nat) (c : api_CSN) : csn_Is N c = some (decide (okC c)) := by
  unfold csn_Is
  simp only [andB, Option.bind_some, ge_iff_le]
  congr 1
def cmpI (a b : Int) : Int := if a < b then -1 else if a > b then 1 else 0
theorem compare64_eq (N : Nat) (a b : Int) : cmp_Compare_int64 N a b = some (cmpI a b) := by
  unfold cmp_Compare_int64 cmp_isNaN_int64 cmpI
  simp only [bne_self_eq_false, Option.bind_some, cond_false]
  by_cases h : a < b
  · simp [h]
  · by_cases h2 : a > b
    · simp [h, h2]
    · simp [h, h2]
theorem compare_eq (N : Nat) (a b : Int) : cmp_Compare_int N a b = some (cmpI a b) := compare64_eq N a b
theorem beqI (a b : Int) : (a == b) = decide (a = b) := by rw [Bool.eq_iff_iff]; simp
theorem bneI (a b : Int) : (a != b) = decide (¬ a = b) := by rw [Bool.eq_iff_iff]; simp
theorem or_eq (N : Nat) (x y z : Int) : cmp_Or_int (N + 4) [x, y, z] = some (if x ≠ 0 then x else if y ≠ 0 then y else z) := by
  have w0 : w64 1 = 1 := by rfl
  have w1 : w64 2 = 2 := by rfl
  have w2 : w64 3 = 3 := by rfl
  unfold cmp_Or_int
  simp only [cmp_Or_int_l8, cmp_Or_int_l8_b]
  by_cases hx : x = 0
  · by_cases hy : y = 0
    · by_cases hz : z = 0
      · simp [bneI, idxL, w0, w1, w2, hx, hy, hz]
      · simp [bneI, idxL, w0, w1, w2, hx, hy, hz]
    · simp [bneI, idxL, w0, w1, w2, hx, hy]
  · simp [bneI, idxL, w0, w1, w2, hx]
def cmpS (a b : api_CSN) : Int := if cmpI a.Time b.Time ≠ 0 then cmpI a.Time b.Time else if cmpI a.Seq b.Seq ≠ 0 then cmpI a.Seq b.Seq else cmpI a.Rep b.Rep
theorem csnCmp_eq (N : Nat) (hN : 4 ≤ N) (a b : api_CSN) : csn_Cmp N a b = some (cmpS a b) := by
  unfold csn_Cmp
  obtain ⟨n, rfl⟩ : ∃ n, N = n + 4 := ⟨N - 4, by omega⟩
  rw [compare64_eq, Option.bind_some, compare_eq, Option.bind_some, compare_eq, Option.bind_some, or_eq]
  rfl
theorem csn_ext {a b : api_CSN} : a = b ↔ a.Time = b.Time ∧ a.Seq = b.Seq ∧ a.Rep = b.Rep := by
  cases a; cases b; simp
theorem cmpI_pos {a b : Int} : cmpI a b > 0 ↔ b < a := by
  unfold cmpI
  split
  · omega
  · split <;> omega
theorem cmpI_zero {a b : Int} : cmpI a b = 0 ↔ a = b := by
  unfold cmpI
  split
  · omega
  · split <;> omega
theorem cmpS_pos {a b : api_CSN} : cmpS a b > 0 ↔ b.Time < a.Time ∨ (a.Time = b.Time ∧ (b.Seq < a.Seq ∨ (a.Seq = b.Seq ∧ b.Rep < a.Rep))) := by
  unfold cmpS
  split
  · rename_i h
    rw [ne_eq, cmpI_zero] at h
    rw [cmpI_pos]; omega
  · rename_i h
    rw [ne_eq, Classical.not_not, cmpI_zero] at h
    split
    · rename_i h2
      rw [ne_eq, cmpI_zero] at h2
      rw [cmpI_pos]; omega
    · rename_i h2
      rw [ne_eq, Classical.not_not, cmpI_zero] at h2
      rw [cmpI_pos]; omega
def okG (g : api_CSN) : Prop := 0 ≤ g.Time ∧ g.Time ≤ 1099511627776 ∧ 0 ≤ g.Seq ∧ g.Seq ≤ 65535
def rawN (g : api_CSN) (now : Int) : api_CSN := if now > g.Time then ⟨now, 0, g.Rep⟩ else if g.Seq < 65535 then ⟨g.Time, g.Seq + 1, g.Rep⟩ else ⟨g.Time + 1, 0, g.Rep⟩
def nextS (g : api_CSN) (now : Int) : api_CSN × Int × api_CSN := if (rawN g now).Time > 1099511627776 then (⟨0, 0, 0⟩, 19, g) else (rawN g now, 0, rawN g now)
theorem next_eq (N : Nat) {g : api_CSN} (hg : okG g) (now : Int) : csn_Gen_Next_o0 N ⟨g⟩ now = some ((nextS g now).1, (nextS g now).2.1, ⟨(nextS g now).2.2⟩) := by
  obtain ⟨h1, h2, h3, h4⟩ := hg
  unfold csn_Gen_Next_o0 csn_Gen_Next_o0_j8 csn_Gen_Next_o0_j6 nextS rawN
  simp only
  rw [w64_id (n := g.Seq + 1) (by omega) (by omega), w64_id (n := g.Time + 1) (by omega) (by omega), andB, Option.bind_some]
  by_cases c1 : now > g.Time
  · have c2 : ¬ now ≤ g.Time := by omega
    by_cases c3 : now > 1099511627776 <;> simp [c1, c2, c3]
  · have c2 : now ≤ g.Time := by omega
    by_cases c4 : g.Seq < 65535
    · have c5 : ¬ (g.Seq + 1 > 65535) := by omega
      have c6 : ¬ (g.Time > 1099511627776) := by omega
      simp [c1, c4, c5, c6]
    · have c5 : g.Seq + 1 > 65535 := by omega
      by_cases c6 : g.Time + 1 > 1099511627776 <;> simp [c1, c2, c4, c5, c6]
def aboveC (g c : api_CSN) : Prop := okC c ∧ (g.Time < c.Time ∨ (c.Time = g.Time ∧ g.Seq < c.Seq))
instance (g c : api_CSN) : Decidable (aboveC g c) := by unfold aboveC; infer_instance
def seeS (g c : api_CSN) : api_CSN := if aboveC g c then ⟨c.Time, c.Seq, g.Rep⟩ else g
theorem see_eq (N : Nat) (hN : 4 ≤ N) (g c : api_CSN) : csn_Gen_See_o0 N ⟨g⟩ c = some ⟨seeS g c⟩ := by
  unfold csn_Gen_See_o0 seeS
  rw [csnIs_eq, Option.bind_some, csnCmp_eq N hN, Option.bind_some, andB, Option.bind_some]
  have he : (okC c ∧ cmpS ⟨c.Time, c.Seq, g.Rep⟩ ⟨g.Time, g.Seq, g.Rep⟩ > 0) ↔ aboveC g c := by
    unfold aboveC
    rw [cmpS_pos]
    simp
  rw [show decide (okC c ∧ cmpS ⟨c.Time, c.Seq, g.Rep⟩ ⟨g.Time, g.Seq, g.Rep⟩ > 0) = decide (aboveC g c) from decide_eq_decide.2 he]
  by_cases h : aboveC g c <;> simp [h]
theorem okG_raw {g : api_CSN} (hg : okG g) (now : Int) (h : ¬ (rawN g now).Time > 1099511627776) : okG (rawN g now) := by
  obtain ⟨h1, h2, h3, h4⟩ := hg
  unfold rawN at h ⊢
  by_cases c1 : now > g.Time
  · rw [if_pos c1] at h ⊢
    simp only at h
    refine ⟨?_, ?_, ?_, ?_⟩ <;> simp only <;> omega
  · rw [if_neg c1] at h ⊢
    by_cases c2 : g.Seq < 65535
    · rw [if_pos c2] at h ⊢
      simp only at h
      refine ⟨?_, ?_, ?_, ?_⟩ <;> simp only <;> omega
    · rw [if_neg c2] at h ⊢
      simp only at h
      refine ⟨?_, ?_, ?_, ?_⟩ <;> simp only <;> omega
theorem cknown_big : prefectlaw10_known 9223372036854775808 = some true := by decide +kernel
end Go.Gp
end
section
set_option linter.unusedVariables false
set_option linter.unusedSimpArgs false
namespace Go.Gp
open Go.Vd
def under (k : Int) (t : api_CSN) : api_CSN := ⟨t.Time, t.Seq, k⟩
theorem raw_up {t : api_CSN} {k now : Int} (hg : okG t) (h : (rawN (under k t) now).Time > 1099511627776) : ¬ (now ≤ 1099511627776 ∧ t.Time < 1099511627776) := by
  obtain ⟨h1, h2, h3, h4⟩ := hg
  revert h
  unfold rawN under
  by_cases c1 : now > t.Time
  · simp only [if_pos c1]; omega
  · by_cases c2 : t.Seq < 65535
    · simp only [if_neg c1, if_pos c2]; omega
    · simp only [if_neg c1, if_neg c2]; omega
theorem raw_ok {t : api_CSN} {k now : Int} (hg : okG t) (hk : 0 ≤ k ∧ k < 6) (h : ¬ (rawN (under k t) now).Time > 1099511627776) :
    ¬ (rawN (under k t) now).Time < t.Time ∧ ¬ ((rawN (under k t) now).Time = t.Time ∧ (rawN (under k t) now).Seq ≤ t.Seq) ∧ (rawN (under k t) now).Rep = k ∧ ¬ (rawN (under k t) now).Time < now ∧ okC (rawN (under k t) now) := by
  obtain ⟨h1, h2, h3, h4⟩ := hg
  revert h
  unfold rawN under okC
  by_cases c1 : now > t.Time
  · simp only [if_pos c1]; intro h; refine ⟨?_, ?_, ?_, ?_, ?_, ?_, ?_, ?_, ?_, ?_⟩ <;> first | trivial | omega
  · by_cases c2 : t.Seq < 65535
    · simp only [if_neg c1, if_pos c2]; intro h; refine ⟨?_, ?_, ?_, ?_, ?_, ?_, ?_, ?_, ?_, ?_⟩ <;> first | trivial | omega
    · simp only [if_neg c1, if_neg c2]; intro h; refine ⟨?_, ?_, ?_, ?_, ?_, ?_, ?_, ?_, ?_, ?_⟩ <;> first | trivial | omega
def topS (t c : api_CSN) : api_CSN := if okC c ∧ cmpS c t > 0 then c else t
theorem see_top (t c : api_CSN) (k : Int) : seeS (under k t) c = under k (topS t c) := by
  unfold seeS topS
  have hab : aboveC (under k t) c ↔ okC c ∧ (t.Time < c.Time ∨ (c.Time = t.Time ∧ t.Seq < c.Seq)) := Iff.rfl
  by_cases h : aboveC (under k t) c
  · obtain ⟨h1, h2⟩ := hab.1 h
    have h3 : cmpS c t > 0 := by
      rw [cmpS_pos]; omega
    rw [if_pos h, if_pos (And.intro h1 h3)]; rfl
  · rw [if_neg h]
    by_cases h1 : okC c ∧ cmpS c t > 0
    · rw [if_pos h1]
      have h2 : ¬ (t.Time < c.Time ∨ (c.Time = t.Time ∧ t.Seq < c.Seq)) := fun h' => h (hab.2 ⟨h1.1, h'⟩)
      have h3 := h1.2
      rw [cmpS_pos] at h3
      unfold under
      have e1 : c.Time = t.Time := by omega
      have e2 : c.Seq = t.Seq := by omega
      rw [e1, e2]
    · rw [if_neg h1]
theorem okG_top {t : api_CSN} (hg : okG t) (c : api_CSN) : okG (topS t c) := by
  unfold topS
  split
  · rename_i h; exact ⟨h.1.1, h.1.2.1, h.1.2.2.1, h.1.2.2.2.1⟩
  · exact hg
theorem rises_loop (N : Nat) (hN : 4 ≤ N) (a0 : UInt8) (hk : 0 ≤ ((a0 % 6).toNat : Int) ∧ ((a0 % 6).toNat : Int) < 6) : ∀ (b a : List prefectlaw10_Step) (t : api_CSN) (n : Nat), okG t → (a ++ b).length ≤ 1000 → b.length < n →
    prefectlaw10_CsnRises_l26 N a0 (a ++ b) n ((a.length : Int), t, ⟨under ((a0 % 6).toNat : Int) t⟩) = some (.inl ()) := by
  intro b
  induction b with
  | nil =>
    intro a g n hg hs hn
    obtain ⟨n, rfl, _⟩ := fuel hn
    simp only [prefectlaw10_CsnRises_l26, prefectlaw10_CsnRises_l26_b]
    rw [len_end, cond_false]
  | cons s b ih =>
    intro a t n hg hs hn
    obtain ⟨n, rfl, hn'⟩ := fuel hn
    simp only [prefectlaw10_CsnRises_l26, prefectlaw10_CsnRises_l26_b]
    rw [len_mid, cond_true]
    have nx : ∀ t', okG t' → prefectlaw10_CsnRises_l26 N a0 (a ++ s :: b) n (w64 ((a.length : Int) + 1), t', ⟨under ((a0 % 6).toNat : Int) t'⟩) = some (.inl ()) := by
      intro t' h'
      rw [suc_mid (a := a) (b := b) (x := s) (by omega), app_mid]
      exact ih (a ++ [s]) t' n h' (by rw [← app_mid]; exact hs) hn'
    simp only [Option.bind_some, idx_mid]
    generalize ((a0 % 6).toNat : Int) = k at *
    unfold prefectlaw10_CsnRises_j41 prefectlaw10_CsnRises_j33
    cases hw : decide (s.What > 1) with
    | true =>
      rw [cond_true, see_eq N hN, Option.bind_some, csnIs_eq, Option.bind_some, csnCmp_eq N hN, Option.bind_some, andB, Option.bind_some]
      have ec : (⟨s.C.Time, s.C.Seq, s.C.Rep⟩ : api_CSN) = s.C := rfl
      rw [ec, see_top]
      by_cases hc : okC s.C ∧ cmpS s.C t > 0
      · have e : topS t s.C = s.C := if_pos hc
        rw [decide_eq_true hc, cond_true, e]
        exact nx _ (by rw [← e]; exact okG_top hg _)
      · have e : topS t s.C = t := if_neg hc
        rw [decide_eq_false hc, cond_false, e]
        exact nx _ hg
    | false =>
      have hg' : okG (under k t) := hg
      rw [cond_false, next_eq N hg', Option.bind_some]
      by_cases h : (rawN (under k t) s.Now).Time > 1099511627776
      · have h2 := raw_up hg h
        rw [show nextS (under k t) s.Now = (⟨0, 0, 0⟩, 19, under k t) from if_pos h]
        simp only
        rw [show ((19 : Int) != 0) = true from rfl, cond_true, bne_self_eq_false, cond_false]
        simp only [andB, decide_eq_false h2, BEq.rfl, Bool.and_true, Bool.not_true, cond_false, Option.bind_some]
        exact nx _ hg
      · obtain ⟨g1, g2, g3, g4, g5⟩ := raw_ok hg hk h
        rw [show nextS (under k t) s.Now = (rawN (under k t) s.Now, 0, rawN (under k t) s.Now) from if_neg h]
        simp only
        have hno := okG_raw hg' s.Now h
        have hund : rawN (under k t) s.Now = under k (rawN (under k t) s.Now) := by
          rw [csn_ext]; exact ⟨rfl, rfl, g3⟩
        generalize rawN (under k t) s.Now = c at *
        rw [bne_self_eq_false, cond_false, decide_eq_false g1, cond_false, csnIs_eq, Option.bind_some, decide_eq_true g5, decide_eq_false g4, cond_false, show (c.Rep != k) = false by rw [g3]; simp, cond_false, Bool.not_true]
        have main : (Option.bind (some false) fun g14 => bif g14 then some (Sum.inr false) else prefectlaw10_CsnRises_l26 N a0 (a ++ s :: b) n (w64 ((a.length : Int) + 1), c, (⟨c⟩ : csn_Gen))) = (some (.inl ()) : Option (Unit ⊕ Bool)) := by
          have := nx c hno
          rw [← hund] at this
          rw [Option.bind_some, cond_false, this]
        by_cases h3 : c.Time = t.Time
        · have h4 : ¬ c.Seq ≤ t.Seq := fun h' => g2 ⟨h3, h'⟩
          rw [beqI, decide_eq_true h3, cond_true, decide_eq_false h4, cond_false]
          exact main
        · rw [beqI, decide_eq_false h3, cond_false]
          exact main
theorem law_prefectlaw10_CsnRises (a0 : UInt8) (a1 : List prefectlaw10_Step) (h0 : True) (h1 : a1.length ≤ maxLen ∧ ∀ y0 ∈ a1, b_prefectlaw10_Step y0) : ∃ N, prefectlaw10_CsnRises N a0 a1 = some true := by
  refine ⟨9223372036854775808, ?_⟩
  unfold prefectlaw10_CsnRises
  rw [cknown_big, Option.bind_some, Bool.not_true, cond_false]
  by_cases hl : a1.length ≤ 60
  · rw [decide_eq_false (by omega), cond_false]
    have hk : 0 ≤ ((a0 % 6).toNat : Int) ∧ ((a0 % 6).toNat : Int) < 6 := by
      have h := UInt8.toNat_mod a0 6
      have h2 : (6 : UInt8).toNat = 6 := rfl
      rw [h2] at h
      have := Nat.mod_lt a0.toNat (by omega : 0 < 6)
      omega
    unfold csn_New_n0
    rw [Option.bind_some]
    have e : mn (mx ((a0 % 6).toNat : Int) 0) 5 = ((a0 % 6).toNat : Int) := by
      unfold mx mn
      repeat' split
      all_goals omega
    rw [e]
    have := rises_loop 9223372036854775808 (by omega) a0 hk a1 [] ⟨0, 0, 0⟩ 9223372036854775808 ⟨by simp, by simp, by simp, by simp⟩ (by simp; omega) (by omega)
    simp only [List.nil_append, List.length_nil] at this
    rw [show ((0 : Nat) : Int) = (0 : Int) from rfl] at this
    unfold under at this
    rw [this]
    rfl
  · rw [decide_eq_true (by omega), cond_true]
end Go.Gp
end
