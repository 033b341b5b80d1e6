/- A part of the proof: functions of the program and what they compute. -/
import Derived.Test.YtgjeiamilppafaaDoorA5
import Derived.Test.YtgjeiamilppafaaDoorA10
import Derived.Test.YtgjeiamilppafaaDoorA4
section
set_option linter.unusedVariables false
set_option linter.unusedSimpArgs false
namespace Go.Gp
open Go.Vd
def okC (c : api_CSN) : Prop := 0 ≤ c.Time ∧ c.Time ≤ 1099511627776 ∧ 0 ≤ c.Seq ∧ c.Seq ≤ 65535 ∧ 0 ≤ c.Rep ∧ c.Rep < 6
instance (c : api_CSN) : Decidable (okC c) := by unfold okC; infer_instance
theorem andB (p q : Prop) [Decidable p] [Decidable q] : (bif decide p then some (decide q) else some false) = some (decide (p ∧ q)) := by
  by_cases h : p <;> simp [h]
theorem csnIs_eq (N : Nat) (c : api_CSN) : csn_Is N c = some (decide (okC c)) := by
  unfold csn_Is
  simp only [andB, Option.bind_some, ge_iff_le]
  congr 1
theorem refIs_eq (N : Nat) (c : api_CSN) : prefectref10_Is N c = some (decide (okC c)) := csnIs_eq N c
def cmpI (a b : Int) : Int := if a < b then -1 else if a > b then 1 else 0
theorem compare64_eq (N : Nat) (a b : Int) : cmp_Compare_int64 N a b = some (cmpI a b) := by
  unfold cmp_Compare_int64 cmp_isNaN_int64 cmpI
  simp only [bne_self_eq_false, Option.bind_some, cond_false]
  by_cases h : a < b
  · simp [h]
  · by_cases h2 : a > b
    · simp [h, h2]
    · simp [h, h2]
theorem compare_eq (N : Nat) (a b : Int) : cmp_Compare_int N a b = some (cmpI a b) := compare64_eq N a b
theorem beqI (a b : Int) : (a == b) = decide (a = b) := by rw [Bool.eq_iff_iff]; simp
theorem bneI (a b : Int) : (a != b) = decide (¬ a = b) := by rw [Bool.eq_iff_iff]; simp
theorem or_eq (N : Nat) (x y z : Int) : cmp_Or_int (N + 4) [x, y, z] = some (if x ≠ 0 then x else if y ≠ 0 then y else z) := by
  have w0 : w64 1 = 1 := by rfl
  have w1 : w64 2 = 2 := by rfl
  have w2 : w64 3 = 3 := by rfl
  unfold cmp_Or_int
  simp only [cmp_Or_int_l8, cmp_Or_int_l8_b]
  by_cases hx : x = 0
  · by_cases hy : y = 0
    · by_cases hz : z = 0
      · simp [bneI, idxL, w0, w1, w2, hx, hy, hz]
      · simp [bneI, idxL, w0, w1, w2, hx, hy, hz]
    · simp [bneI, idxL, w0, w1, w2, hx, hy]
  · simp [bneI, idxL, w0, w1, w2, hx]
def cmpS (a b : api_CSN) : Int := if cmpI a.Time b.Time ≠ 0 then cmpI a.Time b.Time else if cmpI a.Seq b.Seq ≠ 0 then cmpI a.Seq b.Seq else cmpI a.Rep b.Rep
theorem csnCmp_eq (N : Nat) (hN : 4 ≤ N) (a b : api_CSN) : csn_Cmp N a b = some (cmpS a b) := by
  unfold csn_Cmp
  obtain ⟨n, rfl⟩ : ∃ n, N = n + 4 := ⟨N - 4, by omega⟩
  rw [compare64_eq, Option.bind_some, compare_eq, Option.bind_some, compare_eq, Option.bind_some, or_eq]
  rfl
theorem csn_ext {a b : api_CSN} : a = b ↔ a.Time = b.Time ∧ a.Seq = b.Seq ∧ a.Rep = b.Rep := by
  cases a; cases b; simp
theorem eqB (a b : api_CSN) : (a.Time == b.Time && (a.Seq == b.Seq && (a.Rep == b.Rep && true))) = decide (a = b) := by
  rw [Bool.eq_iff_iff]
  simp [csn_ext]
theorem cmpI_lt {a b : Int} (h : a < b) : cmpI a b = -1 := if_pos h
theorem cmpI_gt {a b : Int} (h : b < a) : cmpI a b = 1 := by unfold cmpI; rw [if_neg (by omega), if_pos (by omega)]
theorem cmpI_eq (a : Int) : cmpI a a = 0 := by unfold cmpI; rw [if_neg (by omega), if_neg (by omega)]
theorem refCmp_eq (N : Nat) (a b : api_CSN) : prefectref10_Cmp N a b = some (cmpS a b) := by
  unfold prefectref10_Cmp
  rw [eqB]
  rcases Int.lt_trichotomy a.Time b.Time with h | h | h
  · have hne : ¬ a = b := by rw [csn_ext]; omega
    simp [beqI, h, cmpS, cmpI_lt h]
  · rcases Int.lt_trichotomy a.Seq b.Seq with h2 | h2 | h2
    · simp [beqI, h, h2, cmpS, cmpI_eq, cmpI_lt h2]
    · rcases Int.lt_trichotomy a.Rep b.Rep with h3 | h3 | h3
      · simp [beqI, h, h2, h3, cmpS, cmpI_eq, cmpI_lt h3]
      · have he : a = b := by rw [csn_ext]; exact ⟨h, h2, h3⟩
        subst he
        simp [beqI, cmpS, cmpI_eq]
      · have hne : ¬ a = b := by rw [csn_ext]; omega
        have hl : ¬ a.Rep < b.Rep := by omega
        simp [beqI, h, h2, hl, hne, cmpS, cmpI_eq, cmpI_gt h3]
    · have hne : ¬ a = b := by rw [csn_ext]; omega
      have hl : ¬ a.Seq < b.Seq := by omega
      have hn : ¬ a.Seq = b.Seq := by omega
      simp [beqI, h, hl, hn, hne, cmpS, cmpI_eq, cmpI_gt h2]
  · have hne : ¬ a = b := by rw [csn_ext]; omega
    have hl : ¬ a.Time < b.Time := by omega
    have hn : ¬ a.Time = b.Time := by omega
    simp [beqI, hl, hn, hne, cmpS, cmpI_gt h]
def aboveC (g c : api_CSN) : Prop := okC c ∧ (g.Time < c.Time ∨ (c.Time = g.Time ∧ g.Seq < c.Seq))
instance (g c : api_CSN) : Decidable (aboveC g c) := by unfold aboveC; infer_instance
theorem cknown_big : prefectlaw10_known 9223372036854775808 = some true := by decide +kernel
end Go.Gp
end
section
set_option linter.unusedVariables false
set_option linter.unusedSimpArgs false
namespace Go.Gp
open Go.Vd
def cutC (k : UInt8) : List UInt8 → Option (List UInt8 × List UInt8)
  | [] => none
  | c :: s => if c = k then some ([], s) else (cutC k s).map fun x => (c :: x.1, x.2)
theorem cutC_some {k : UInt8} {s a v : List UInt8} (h : cutC k s = some (a, v)) : s = a ++ k :: v := by
  induction s generalizing a v with
  | nil => cases h
  | cons c s ih =>
    unfold cutC at h
    split at h
    · rename_i hc; subst hc; cases h; rfl
    · rw [Option.map_eq_some_iff] at h
      obtain ⟨⟨a', v'⟩, h1, h2⟩ := h
      cases h2
      rw [ih h1]; rfl
theorem indexByte_C (k : UInt8) : ∀ s : List UInt8, Lib.indexByte s k = match cutC k s with | some x => (x.1.length : Int) | none => -1
  | [] => rfl
  | c :: s => by
    rw [Lib.indexByte, cutC, indexByte_C k s]
    by_cases h : c = k
    · subst h; simp
    · have : (c == k) = false := by simpa using h
      rw [if_neg h]
      simp only [this]
      cases cutC k s with
      | none => simp
      | some x => simp <;> omega
def splitN (k : UInt8) : Nat → List UInt8 → List (List UInt8)
  | 0, s => [s]
  | n + 1, s => match cutC k s with
    | none => [s]
    | some x => x.1 :: splitN k n x.2
theorem splitN_len (k : UInt8) : ∀ (n : Nat) (s : List UInt8), (splitN k n s).length ≤ n + 1 ∧ (∀ x ∈ splitN k n s, x.length ≤ s.length)
  | 0, s => by simp [splitN]
  | n + 1, s => by
    rw [splitN]
    cases h : cutC k s with
    | none => simp
    | some x =>
      obtain ⟨a, v⟩ := x
      have e := cutC_some h
      obtain ⟨h1, h2⟩ := splitN_len k n v
      refine ⟨by simp; omega, fun y hy => ?_⟩
      rcases List.mem_cons.1 hy with rfl | hy
      · rw [e]; simp
      · have := h2 y hy; rw [e]; simp; omega
theorem splitN_big (k : UInt8) : ∀ (n m : Nat) (s : List UInt8), s.length ≤ n → s.length ≤ m → splitN k n s = splitN k m s
  | 0, 0, s, _, _ => rfl
  | 0, m + 1, s, h, _ => by
    have : s = [] := List.length_eq_zero_iff.1 (by omega)
    subst this; rfl
  | n + 1, 0, s, _, h => by
    have : s = [] := List.length_eq_zero_iff.1 (by omega)
    subst this; rfl
  | n + 1, m + 1, s, h1, h2 => by
    rw [splitN, splitN]
    cases h : cutC k s with
    | none => rfl
    | some x =>
      obtain ⟨a, v⟩ := x
      have e := congrArg List.length (cutC_some h)
      simp at e
      simp only
      rw [splitN_big k n m v (by omega) (by omega)]
theorem gen_loop (N : Nat) (a0 : List UInt8) (k : UInt8) (v3 : Int) (mx : Nat) (hmx : w64 (mn v3 (w64 ((a0.length : Int) + 1)) - 1) = (mx : Int)) (hm : mx ≤ 1000000) : ∀ (c : Nat) (d : List (List UInt8)) (s : List UInt8) (n : Nat), d.length + c = mx → c < n → s.length ≤ 1000000 →
    ∃ (s' : List UInt8) (d' : List (List UInt8)) (c' : Nat), strings_genSplit_l34 N a0 [k] 0 v3 n (s, (d.length : Int), d ++ List.replicate (c + 1) []) = some (s', (d'.length : Int), d' ++ List.replicate (c' + 1) []) ∧ d' ++ [s'] = d ++ splitN k c s := by
  intro c
  induction c with
  | zero =>
    intro d s n hd hn hs
    obtain ⟨n, rfl, _⟩ := fuel hn
    simp only [strings_genSplit_l34, strings_genSplit_l34_b]
    rw [hmx, decide_eq_false (by omega), cond_false]
    exact ⟨s, d, 0, rfl, rfl⟩
  | succ c ih =>
    intro d s n hd hn hs
    obtain ⟨n, rfl, hn'⟩ := fuel hn
    simp only [strings_genSplit_l34, strings_genSplit_l34_b]
    rw [hmx, decide_eq_true (by omega), cond_true]
    unfold strings_Index stringslite_Index
    simp only [Option.bind_some]
    rw [indexByte_C, splitN]
    cases h : cutC k s with
    | none =>
      refine ⟨s, d, c + 1, ?_, rfl⟩
      simp
    | some x =>
      obtain ⟨a, v⟩ := x
      have e := cutC_some h
      have el := congrArg List.length e
      simp at el
      simp only
      have hchk : chkI (d.length : Int) (d ++ List.replicate (c + 1 + 1) ([] : List UInt8)).length = some d.length := chkI_nat (by simp)
      have hget : (d ++ List.replicate (c + 1 + 1) ([] : List UInt8))[d.length]? = some [] := by
        rw [List.replicate_succ]; exact get_mid d _ _
      have hset : ∀ y, (d ++ List.replicate (c + 1 + 1) ([] : List UInt8)).set d.length y = (d ++ [y]) ++ List.replicate (c + 1) [] := by
        intro y
        rw [List.replicate_succ, set_mid]; simp
      rw [decide_eq_false (by omega), cond_false, show (a.length : Int) + 0 = (a.length : Int) by omega, w64_nat (by omega), takeL_nat (by omega), Option.bind_some, hchk, Option.bind_some, hget, Option.bind_some,
        show ((([k] : List UInt8).length : Int)) = 1 from rfl, w64_succ (by omega), dropL_nat (by omega), Option.bind_some, w64_succ (by omega), hset]
      have ht : s.take a.length = a := by rw [e, List.take_left' rfl]
      have hdr : s.drop (a.length + 1) = v := by rw [e, app_mid, List.drop_left' (by simp)]
      rw [ht, hdr]
      obtain ⟨s', d', c', h1, h2⟩ := ih (d ++ [a]) v n (by simp; omega) (by omega) (by omega)
      refine ⟨s', d', c', ?_, ?_⟩
      · rw [← h1]; simp
      · rw [h2]; simp
theorem gen_j (N : Nat) (s : List UInt8) (k : UInt8) (n : Nat) (hn : 1 ≤ n) (hn2 : n ≤ 1000000) (hs : s.length ≤ 1000000) (hN : 2000000 < N) : strings_genSplit_j18 s [k] 0 N (n : Int) = some (splitN k (n - 1) s) := by
  unfold strings_genSplit_j18
  have hmn : mn (n : Int) (w64 ((s.length : Int) + 1)) = ((min n (s.length + 1) : Nat) : Int) := by
    rw [w64_succ (by omega)]
    unfold mn
    split <;> omega
  have hmx : w64 (mn (n : Int) (w64 ((s.length : Int) + 1)) - 1) = ((min n (s.length + 1) - 1 : Nat) : Int) := by
    rw [hmn, w64_id (by omega) (by omega)]; omega
  obtain ⟨s', d', c', h1, h2⟩ := gen_loop N s k (n : Int) (min n (s.length + 1) - 1) hmx (by omega) (min n (s.length + 1) - 1) [] s N (by simp) (by omega) hs
  simp only [List.nil_append, List.length_nil] at h1 h2
  have hmk : mkN 16 (mn (n : Int) (w64 ((s.length : Int) + 1))) = some (min n (s.length + 1) - 1 + 1) := by
    rw [hmn]
    unfold mkN
    rw [if_pos (by constructor <;> omega)]
    simp; omega
  rw [show (((0 : Nat)) : Int) = (0 : Int) from rfl] at h1
  rw [hmk, Option.bind_some, h1, Option.bind_some]
  simp only
  have hchk : chkI (d'.length : Int) (d' ++ List.replicate (c' + 1) ([] : List UInt8)).length = some d'.length := chkI_nat (by simp)
  have hget : (d' ++ List.replicate (c' + 1) ([] : List UInt8))[d'.length]? = some [] := by
    rw [List.replicate_succ]; exact get_mid d' _ _
  have hset : ∀ y, (d' ++ List.replicate (c' + 1) ([] : List UInt8)).set d'.length y = (d' ++ [y]) ++ List.replicate c' [] := by
    intro y
    rw [List.replicate_succ, set_mid]; simp
  have hdl : d'.length ≤ 1000000 := by
    have e := congrArg List.length h2
    have := (splitN_len k (min n (s.length + 1) - 1) s).1
    simp at e
    omega
  rw [hchk, Option.bind_some, hget, Option.bind_some, hset, w64_succ (by omega), takeL_nat (by simp), Option.bind_some]
  have ht : ((d' ++ [s']) ++ List.replicate c' ([] : List UInt8)).take (d'.length + 1) = d' ++ [s'] := List.take_left' (by simp)
  rw [ht, h2]
  by_cases hc : n ≤ s.length + 1
  · rw [Nat.min_eq_left hc]
  · rw [Nat.min_eq_right (by omega)]
    congr 1
    exact splitN_big k _ _ s (by omega) (by omega)
theorem count_le (s : List UInt8) (k : UInt8) : Lib.countByte s k ≤ s.length := List.count_le_length
theorem split_eq (N : Nat) (s : List UInt8) (k : UInt8) (hs : s.length ≤ 999999) (hN : 2000000 < N) : strings_Split N s [k] = some (splitN k (Lib.countByte s k) s) := by
  unfold strings_Split strings_genSplit strings_Count
  have hc := count_le s k
  simp only [Option.bind_some]
  rw [w64_succ (by omega)]
  have := gen_j N s k (Lib.countByte s k + 1) (by omega) (by omega) (by omega) hN
  rw [show (((-1) : Int) == (0 : Int)) = false from rfl, cond_false, show (([k] : List UInt8) == ([] : List UInt8)) = false from rfl, cond_false, show decide (((-1) : Int) < (0 : Int)) = true from rfl, cond_true, this]
  rfl
theorem cutC_at {k : UInt8} {v : List UInt8} : ∀ {a : List UInt8}, k ∉ a → cutC k (a ++ k :: v) = some (a, v)
  | [], _ => by simp [cutC]
  | c :: a, h => by
    simp only [List.mem_cons, not_or] at h
    rw [List.cons_append, cutC, if_neg (fun e => h.1 e.symm), cutC_at h.2]; rfl
end Go.Gp
end
section
set_option linter.unusedVariables false
set_option linter.unusedSimpArgs false
namespace Go.Gp
open Go.Vd
theorem dig_mem : ∀ (f u : Nat) (a : List UInt8) (c : UInt8), c ∈ dig f u a → (48 ≤ c.toNat ∧ c.toNat ≤ 57) ∨ c ∈ a
  | 0, u, a, c, h => .inr h
  | f + 1, u, a, c, h => by
    have hd : ∀ r, r < 10 → (UInt8.ofNat (48 + r)).toNat = 48 + r := fun r hr => by rw [UInt8.toNat_ofNat']; omega
    rw [dig] at h
    split at h
    · rename_i hu
      rcases List.mem_cons.1 h with rfl | h
      · rw [hd u hu]; exact .inl (by omega)
      · exact .inr h
    · rcases dig_mem f _ _ c h with h | h
      · exact .inl h
      · rcases List.mem_cons.1 h with rfl | h
        · rw [hd _ (Nat.mod_lt _ (by omega))]; exact .inl (by omega)
        · exact .inr h
theorem dig_len : ∀ (f u : Nat) (a : List UInt8), (dig f u a).length ≤ f + a.length
  | 0, u, a => by rw [dig]; omega
  | f + 1, u, a => by
    rw [dig]
    split
    · simp; omega
    · have := dig_len f (u / 10) (UInt8.ofNat (48 + u % 10) :: a)
      rw [List.length_cons] at this; omega
theorem dig_parse (M : Nat) (hM : M = 18446744073709551615) : ∀ (f u : Nat) (a : List UInt8), u < 10 ^ f → 0 < f → u ≤ M → Lib.parseUintM M 0 (dig f u a) = Lib.parseUintM M u a
  | 0, u, a, h, h0, h1 => by omega
  | f + 1, u, a, h, h0, h1 => by
    have hd : ∀ r, r < 10 → (UInt8.ofNat (48 + r)).toNat = 48 + r := fun r hr => by rw [UInt8.toNat_ofNat']; omega
    rw [dig]
    split
    · rename_i hu
      rw [Lib.parseUintM, hd u hu, if_pos (by omega), if_neg (by omega), if_neg (by omega)]
      congr 1; omega
    · rename_i hu
      have h2 : u / 10 < 10 ^ f := by rw [Nat.pow_succ] at h; omega
      have h3 : 0 < f := by
        cases f with
        | zero => simp at h; omega
        | succ f => omega
      rw [dig_parse M hM f (u / 10) _ h2 h3 (by omega), Lib.parseUintM, hd _ (Nat.mod_lt _ (by omega)), if_pos (by omega), if_neg (by omega), if_neg (by omega)]
      congr 1; omega
theorem dig_ne (f u : Nat) (h : u < 10 ^ f) (h0 : 0 < f) (hu : u ≤ 18446744073709551615) : dig f u [] ≠ [] := by
  cases f with
  | zero => omega
  | succ f =>
    have aux : ∀ (f u : Nat) (a : List UInt8), a ≠ [] → dig f u a ≠ [] := by
      intro f
      induction f with
      | zero => intro u a h; exact h
      | succ f ih =>
        intro u a h
        rw [dig]
        split
        · simp
        · exact ih _ _ (by simp)
    rw [dig]
    split
    · simp
    · exact aux _ _ _ (by simp)
theorem dig_parseB (u : Nat) (hu : u ≤ 18446744073709551615) : Lib.parseUintB 64 (dig 20 u []) = .ok u := by
  unfold Lib.parseUintB
  rw [if_neg (dig_ne 20 u (by omega) (by omega) hu), dig_parse (2 ^ 64 - 1) (by decide) 20 u [] (by omega) (by omega) (by omega)]
  rfl
theorem parse_itoa {n : Int} (h0 : -9223372036854775808 ≤ n) (h1 : n ≤ 9223372036854775807) : Lib.parseIntB 64 (itoaS n) = .ok n := by
  unfold itoaS
  split
  · rename_i hn
    unfold Lib.parseIntB
    have e : (45 : UInt8).toNat = 45 := rfl
    simp only [e]
    rw [if_pos (.inr trivial), dig_parseB n.natAbs (by omega)]
    simp only
    rw [if_neg (fun h => h.1 trivial), if_neg (fun h => absurd h.2 (by omega)), if_pos trivial]
    congr 1; omega
  · rename_i hn
    have hp := dig_parseB n.toNat (by omega)
    have hm := dig_mem 20 n.toNat []
    have hne := dig_ne 20 n.toNat (by omega) (by omega) (by omega)
    generalize dig 20 n.toNat [] = l at *
    cases l with
    | nil => exact absurd rfl hne
    | cons c r =>
      have hc := hm c (by simp)
      simp at hc
      unfold Lib.parseIntB
      simp only
      rw [if_neg (by omega), hp]
      simp only
      rw [if_neg (by omega), if_neg (by omega), if_neg (by omega)]
      congr 1; omega
theorem itoaS_46 (n : Int) : (46 : UInt8) ∉ itoaS n := by
  have hd : ∀ u, (46 : UInt8) ∉ dig 20 u [] := by
    intro u h
    rcases dig_mem 20 u [] 46 h with h | h
    · have e : (46 : UInt8).toNat = 46 := rfl
      omega
    · cases h
  unfold itoaS
  split
  · intro h
    rcases List.mem_cons.1 h with h | h
    · cases h
    · exact hd _ h
  · exact hd _
theorem itoaS_len (n : Int) : (itoaS n).length ≤ 21 := by
  unfold itoaS
  split
  · have := dig_len 20 n.natAbs []
    simp at this ⊢; omega
  · have := dig_len 20 n.toNat []
    simp at this; omega
theorem num_loop (N : Nat) (pre : List UInt8) (hp : pre.length ≤ 100) : ∀ (f u : Nat) (a : List UInt8) (n : Nat), u < 10 ^ f → 0 < f → f ≤ n → u ≤ 18446744073709551615 → a.length + f ≤ 1000 →
    prefectref10_Num_l15 N pre n ((u : Int), a) = some (pre ++ dig f u a)
  | 0, u, a, n, h, h0, _, _, _ => by omega
  | f + 1, u, a, n, h, h0, hn, hu, ha => by
    obtain ⟨n, rfl⟩ : ∃ m, n = m + 1 := ⟨n - 1, by omega⟩
    simp only [prefectref10_Num_l15, prefectref10_Num_l15_b]
    have e1 : Int.tmod (u : Int) 10 = ((u % 10 : Nat) : Int) := rfl
    have e2 : Int.tdiv (u : Int) 10 = ((u / 10 : Nat) : Int) := rfl
    have w1 : IntKind.u64.wrap ((48 : Int) + ((u % 10 : Nat) : Int)) = ((48 + u % 10 : Nat) : Int) := by
      rw [u64_wrap (by omega) (by omega)]; omega
    have w2 : IntKind.u64.wrap ((u / 10 : Nat) : Int) = ((u / 10 : Nat) : Int) := u64_wrap (by omega) (by omega)
    have eb : byte ((48 + u % 10 : Nat) : Int) = UInt8.ofNat (48 + u % 10) := by
      unfold byte
      congr 1; omega
    rw [e1, e2, w1, w2, eb, catS_ok (by simp; omega), Option.bind_some, dig]
    by_cases hc : u < 10
    · have : u / 10 = 0 := by omega
      rw [this, show (((0 : Nat) : Int) == 0) = true from rfl, cond_true, catS_ok (by simp; omega), Option.bind_some, if_pos hc, Nat.mod_eq_of_lt hc]
      rfl
    · have h2 : u / 10 < 10 ^ f := by rw [Nat.pow_succ] at h; omega
      have h3 : 0 < f := by
        cases f with
        | zero => simp at h; omega
        | succ f => omega
      rw [beqI, decide_eq_false (by omega), cond_false, if_neg hc]
      exact num_loop N pre hp f (u / 10) _ n h2 h3 (by omega) (by omega) (by simp; omega)
theorem num_eq {N : Nat} (hN : 100 ≤ N) {n : Int} (h0 : -9223372036854775808 ≤ n) (h1 : n ≤ 9223372036854775807) : prefectref10_Num N n = some (itoaS n) := by
  unfold prefectref10_Num prefectref10_Num_j6 itoaS
  by_cases h : n < 0
  · have e : IntKind.u64.wrap (0 - IntKind.u64.wrap n) = ((n.natAbs : Nat) : Int) := by
      simp only [IntKind.wrap, IntKind.bits, IntKind.signed]
      simp
      omega
    rw [decide_eq_true h, cond_true, if_pos h, e, num_loop N [45] (by simp) 20 n.natAbs [] N (by omega) (by omega) (by omega) (by omega) (by simp)]
    rfl
  · have e : IntKind.u64.wrap n = ((n.toNat : Nat) : Int) := by rw [u64_wrap (by omega) (by omega)]; omega
    rw [decide_eq_false h, cond_false, if_neg h, e, num_loop N [] (by simp) 20 n.toNat [] N (by omega) (by omega) (by omega) (by omega) (by simp)]
    rfl
end Go.Gp
end
section
set_option linter.unusedVariables false
set_option linter.unusedSimpArgs false
namespace Go.Gp
open Go.Vd
def noC : api_CSN := ⟨0, 0, 0⟩
def textS (c : api_CSN) : List UInt8 := itoaS c.Time ++ 46 :: (itoaS c.Seq ++ 46 :: itoaS c.Rep)
def intC (c : api_CSN) : Prop := (-9223372036854775808 ≤ c.Time ∧ c.Time ≤ 9223372036854775807) ∧ (-9223372036854775808 ≤ c.Seq ∧ c.Seq ≤ 9223372036854775807) ∧ (-9223372036854775808 ≤ c.Rep ∧ c.Rep ≤ 9223372036854775807)
theorem text_cat (a b c : List UInt8) (ha : a.length ≤ 21) (hb : b.length ≤ 21) (hc : c.length ≤ 21) :
    (Option.bind (catS a ([46] : List UInt8)) fun (x6 : List UInt8) =>
      Option.bind (some b) fun (x9 : List UInt8) =>
      Option.bind (catS x6 x9) fun (x10 : List UInt8) =>
      Option.bind (catS x10 ([46] : List UInt8)) fun (x11 : List UInt8) =>
      Option.bind (some c) fun (x14 : List UInt8) =>
      Option.bind (catS x11 x14) fun (x15 : List UInt8) =>
      some x15) = some (a ++ 46 :: (b ++ 46 :: c)) := by
  rw [catS_ok (by simp; omega)]
  simp only [Option.bind_some]
  rw [catS_ok (by simp; omega), Option.bind_some, catS_ok (by simp; omega), Option.bind_some, catS_ok (by simp; omega), Option.bind_some]
  simp
theorem text_eq {N : Nat} {c : api_CSN} (h : intC c) : csn_Text N c = some (textS c) := by
  obtain ⟨h1, h2, h3⟩ := h
  unfold csn_Text strconv_FormatInt strconv_Itoa
  rw [if_pos ⟨rfl, h1⟩, if_pos h2, if_pos h3, Option.bind_some, text_cat _ _ _ (itoaS_len _) (itoaS_len _) (itoaS_len _)]
  rfl
theorem rtext_eq {N : Nat} (hN : 100 ≤ N) {c : api_CSN} (h : intC c) : prefectref10_Text N c = some (textS c) := by
  obtain ⟨h1, h2, h3⟩ := h
  unfold prefectref10_Text
  rw [num_eq hN h1.1 h1.2, num_eq hN h2.1 h2.2, num_eq hN h3.1 h3.2, Option.bind_some, text_cat _ _ _ (itoaS_len _) (itoaS_len _) (itoaS_len _)]
  rfl
theorem textS_len (c : api_CSN) : (textS c).length ≤ 65 := by
  unfold textS
  have h1 := itoaS_len c.Time
  have h2 := itoaS_len c.Seq
  have h3 := itoaS_len c.Rep
  simp; omega
theorem split_text (c : api_CSN) : splitN 46 (Lib.countByte (textS c) 46) (textS c) = [itoaS c.Time, itoaS c.Seq, itoaS c.Rep] := by
  have hc : Lib.countByte (textS c) 46 = 2 := by
    unfold Lib.countByte textS
    rw [List.count_append, List.count_cons_self, List.count_append, List.count_cons_self, List.count_eq_zero_of_not_mem (itoaS_46 _), List.count_eq_zero_of_not_mem (itoaS_46 _), List.count_eq_zero_of_not_mem (itoaS_46 _)]
  rw [hc]
  unfold textS
  rw [splitN, cutC_at (itoaS_46 _)]
  simp only
  rw [splitN, cutC_at (itoaS_46 _)]
  rfl
def stepP (p : List UInt8) : Option Int := match Lib.parseIntB 64 p with
  | .ok v => if 0 ≤ v ∧ v ≤ 1099511627776 then some v else none
  | _ => none
theorem stepP_ok {p : List UInt8} {v : Int} (h : stepP p = some v) : 0 ≤ v ∧ v ≤ 1099511627776 := by
  unfold stepP at h
  split at h
  · split at h
    · rename_i hv; cases h; exact hv
    · cases h
  · cases h
theorem stepP_itoa {n : Int} (h0 : -9223372036854775808 ≤ n) (h1 : n ≤ 9223372036854775807) : stepP (itoaS n) = if 0 ≤ n ∧ n ≤ 1099511627776 then some n else none := by
  unfold stepP
  rw [parse_itoa h0 h1]
theorem parse_step (N : Nat) (s : List UInt8) (ps : List (List UInt8)) (rec : (Int × List Int) → Option ((List Int) ⊕ (api_CSN × Int))) (i : Nat) (l : List Int) (p : List UInt8) (y : Int)
    (hi : i < ps.length) (hp : ps[i]? = some p) (h3 : i < 3) (hl : l[i]? = some y) (hlen : p.length ≤ 281474976710656) :
    csn_Parse_l18_b N s ps rec ((i : Int), l) = match stepP p with | some v => rec (((i + 1 : Nat) : Int), l.set i v) | none => some (.inr (noC, 14)) := by
  unfold csn_Parse_l18_b
  simp only
  rw [decide_eq_true (by omega), cond_true, idxL_nat, hp, Option.bind_some]
  unfold strconv_ParseInt stepP
  rw [if_pos ⟨rfl, rfl, hlen⟩, Option.bind_some, w64_succ (by omega)]
  have hc : chkI (i : Int) 3 = some i := chkI_nat h3
  rw [hc, Option.bind_some, hl]
  cases hv : Lib.parseIntB 64 p with
  | ok v =>
    simp only [cond_false, Option.bind_some]
    by_cases h1 : v < 0
    · rw [decide_eq_true h1, cond_true, Option.bind_some, cond_true, if_neg (by omega)]; rfl
    · rw [decide_eq_false h1, cond_false, Option.bind_some]
      by_cases h2 : v > 1099511627776
      · rw [decide_eq_true h2, cond_true, if_neg (by omega)]; rfl
      · rw [decide_eq_false h2, cond_false, if_pos (by omega)]
  | _ => rfl
theorem parse_3 {N : Nat} (hN : 4 ≤ N) {s p0 p1 p2 : List UInt8} (hs : strings_Split N s [46] = some [p0, p1, p2]) (h0 : p0.length ≤ 281474976710656) (h1 : p1.length ≤ 281474976710656) (h2 : p2.length ≤ 281474976710656) :
    csn_Parse N s = some (match stepP p0, stepP p1, stepP p2 with
      | some a, some b, some c => if okC ⟨a, b, c⟩ ∧ textS ⟨a, b, c⟩ = s then (⟨a, b, c⟩, 0) else (noC, 14)
      | _, _, _ => (noC, 14)) := by
  obtain ⟨n, rfl⟩ : ∃ n, N = n + 4 := ⟨N - 4, by omega⟩
  unfold csn_Parse
  rw [hs, Option.bind_some, show ((([p0, p1, p2] : List (List UInt8)).length : Int) != 3) = false from rfl, cond_false]
  rw [csn_Parse_l18, show (0 : Int) = ((0 : Nat) : Int) from rfl, parse_step (i := 0) (p := p0) (y := 0) (hi := by simp) (hp := rfl) (h3 := by omega) (hl := rfl) (hlen := h0)]
  cases e0 : stepP p0 with
  | none => rfl
  | some a =>
    simp only
    rw [csn_Parse_l18, parse_step (i := 0 + 1) (p := p1) (y := 0) (hi := by simp) (hp := rfl) (h3 := by omega) (hl := rfl) (hlen := h1)]
    cases e1 : stepP p1 with
    | none => rfl
    | some b =>
      simp only
      rw [csn_Parse_l18, parse_step (i := 0 + 1 + 1) (p := p2) (y := 0) (hi := by simp) (hp := rfl) (h3 := by omega) (hl := rfl) (hlen := h2)]
      cases e2 : stepP p2 with
      | none => rfl
      | some c =>
        have k0 := stepP_ok e0
        have k1 := stepP_ok e1
        have k2 := stepP_ok e2
        simp only
        rw [csn_Parse_l18, csn_Parse_l18_b]
        rw [show decide ((((0 + 1 + 1 + 1 : Nat)) : Int) < (([p0, p1, p2] : List (List UInt8)).length : Int)) = false from rfl, cond_false, Option.bind_some]
        simp only [Sum.elim_inl, List.set_cons_zero, List.set_cons_succ, List.getElem?_cons_zero, List.getElem?_cons_succ, Option.bind_some, Nat.zero_add]
        rw [csnIs_eq, Option.bind_some, text_eq (c := ⟨a, b, c⟩) ⟨⟨by simp only; omega, by simp only; omega⟩, ⟨by simp only; omega, by simp only; omega⟩, ⟨by simp only; omega, by simp only; omega⟩⟩, Option.bind_some]
        by_cases h : okC ⟨a, b, c⟩
        · rw [decide_eq_true h, Bool.not_true, cond_false, Option.bind_some]
          by_cases ht : textS ⟨a, b, c⟩ = s
          · rw [if_pos ⟨h, ht⟩, ht, BEq.rfl, Bool.not_true, cond_false]
          · rw [if_neg (fun h' => ht h'.2), show (textS ⟨a, b, c⟩ == s) = false from beq_eq_false_iff_ne.2 ht, Bool.not_false, cond_true]; rfl
        · rw [decide_eq_false h, Bool.not_false, cond_true, Option.bind_some, cond_true, if_neg (fun h' => h h'.1)]; rfl
theorem parse_no {N : Nat} {s : List UInt8} {ps : List (List UInt8)} (hs : strings_Split N s [46] = some ps) (hl : ps.length ≠ 3) : csn_Parse N s = some (noC, 14) := by
  unfold csn_Parse
  rw [hs, Option.bind_some, bneI, decide_eq_true (by omega), cond_true]
  rfl
theorem parse_form {N : Nat} (hN : 2000000 < N) {s : List UInt8} (hs : s.length ≤ 999999) : csn_Parse N s = some (noC, 14) ∨ ∃ c, csn_Parse N s = some (c, 0) ∧ okC c ∧ textS c = s := by
  have hsp := split_eq N s 46 hs hN
  have hle := (splitN_len 46 (Lib.countByte s 46) s).2
  generalize splitN 46 (Lib.countByte s 46) s = ps at *
  match ps, hsp, hle with
  | [p0, p1, p2], hsp, hle =>
    rw [parse_3 (by omega) hsp (by have := hle p0 (by simp); omega) (by have := hle p1 (by simp); omega) (by have := hle p2 (by simp); omega)]
    cases stepP p0 with
    | none => exact .inl rfl
    | some a =>
      cases stepP p1 with
      | none => exact .inl rfl
      | some b =>
        cases stepP p2 with
        | none => exact .inl rfl
        | some c =>
          simp only
          by_cases h : okC ⟨a, b, c⟩ ∧ textS ⟨a, b, c⟩ = s
          · rw [if_pos h]; exact .inr ⟨_, rfl, h⟩
          · rw [if_neg h]; exact .inl rfl
  | [], hsp, hle => exact .inl (parse_no hsp (by simp))
  | [_], hsp, hle => exact .inl (parse_no hsp (by simp))
  | [_, _], hsp, hle => exact .inl (parse_no hsp (by simp))
  | _ :: _ :: _ :: _ :: _, hsp, hle => exact .inl (parse_no hsp (by simp))
theorem parse_text {N : Nat} (hN : 2000000 < N) {c : api_CSN} (h : intC c) : csn_Parse N (textS c) = some (if okC c then (c, 0) else (noC, 14)) := by
  have hsp := split_eq N (textS c) 46 (by have := textS_len c; omega) hN
  rw [split_text] at hsp
  have l0 := itoaS_len c.Time
  have l1 := itoaS_len c.Seq
  have l2 := itoaS_len c.Rep
  rw [parse_3 (by omega) hsp (by omega) (by omega) (by omega), stepP_itoa h.1.1 h.1.2, stepP_itoa h.2.1.1 h.2.1.2, stepP_itoa h.2.2.1 h.2.2.2]
  congr 1
  by_cases h0 : 0 ≤ c.Time ∧ c.Time ≤ 1099511627776
  · rw [if_pos h0]
    by_cases h1 : 0 ≤ c.Seq ∧ c.Seq ≤ 1099511627776
    · rw [if_pos h1]
      by_cases h2 : 0 ≤ c.Rep ∧ c.Rep ≤ 1099511627776
      · rw [if_pos h2]
        simp only
        by_cases hk : okC c
        · rw [if_pos hk, if_pos (And.intro hk trivial)]
        · rw [if_neg hk, if_neg (fun h' => hk h'.1)]
      · rw [if_neg h2, if_neg (show ¬ okC c from fun hk => h2 ⟨hk.2.2.2.2.1, by have := hk.2.2.2.2.2; omega⟩)] <;> rfl
    · rw [if_neg h1, if_neg (show ¬ okC c from fun hk => h1 ⟨hk.2.2.1, by have := hk.2.2.2.1; omega⟩)] <;> rfl
  · rw [if_neg h0, if_neg (show ¬ okC c from fun hk => h0 ⟨hk.1, hk.2.1⟩)] <;> rfl
end Go.Gp
end
section
set_option linter.unusedVariables false
set_option linter.unusedSimpArgs false
namespace Go.Gp
open Go.Vd
theorem b_int {c : api_CSN} (h : b_api_CSN c) : intC c := h
theorem ok_int {c : api_CSN} (h : okC c) : intC c := by
  obtain ⟨h1, h2, h3, h4, h5, h6⟩ := h
  refine ⟨⟨?_, ?_⟩, ⟨?_, ?_⟩, ⟨?_, ?_⟩⟩ <;> omega
theorem law_prefectlaw10_CsnTells (a0 a1 : api_CSN) (a2 : List UInt8) (h0 : b_api_CSN a0) (h1 : b_api_CSN a1) (h2 : a2.length ≤ maxLen) : ∃ N, prefectlaw10_CsnTells N a0 a1 a2 = some true := by
  refine ⟨9223372036854775808, ?_⟩
  have hN : 2000000 < 9223372036854775808 := by omega
  have hN4 : 4 ≤ 9223372036854775808 := by omega
  have hN1 : 100 ≤ 9223372036854775808 := by omega
  have i0 := b_int h0
  unfold prefectlaw10_CsnTells
  rw [cknown_big, Option.bind_some, Bool.not_true, cond_false]
  by_cases hl : a2.length ≤ 80
  · rw [decide_eq_false (by omega), cond_false, rtext_eq hN1 i0, Option.bind_some, parse_text hN i0, Option.bind_some, refIs_eq, Option.bind_some, csnIs_eq, Option.bind_some, BEq.rfl, cond_true,
      csnCmp_eq _ hN4, Option.bind_some, refCmp_eq, Option.bind_some, BEq.rfl, cond_true, text_eq i0, Option.bind_some, Option.bind_some, BEq.rfl, cond_true]
    have hz : (Option.bind (csn_Zero 9223372036854775808 a0) fun (x62 : Bool) => Option.bind (prefectref10_Zero 9223372036854775808 a0) fun (x64 : Bool) => bif (x62 == x64) then
        bif (((if okC a0 then (a0, 0) else (noC, 14)) : api_CSN × Int).2 == (0 : Int)) == decide (okC a0) then
          bif !decide (okC a0) then some true
          else some (((if okC a0 then (a0, 0) else (noC, 14)) : api_CSN × Int).1.Time == a0.Time && (((if okC a0 then (a0, 0) else (noC, 14)) : api_CSN × Int).1.Seq == a0.Seq && (((if okC a0 then (a0, 0) else (noC, 14)) : api_CSN × Int).1.Rep == a0.Rep && true)))
        else some false
      else some false) = some true := by
      unfold csn_Zero prefectref10_Zero
      rw [Option.bind_some, Option.bind_some, BEq.rfl, cond_true]
      by_cases hk : okC a0
      · rw [if_pos hk, decide_eq_true hk]; simp
      · rw [if_neg hk, decide_eq_false hk]; rfl
    rw [hz]
    rcases parse_form hN (s := a2) (by omega) with h | ⟨c, h, hc, ht⟩
    · rw [h, Option.bind_some]; rfl
    · rw [h, Option.bind_some]
      simp only
      rw [bne_self_eq_false, cond_false, BEq.rfl, cond_true, refIs_eq, Option.bind_some, decide_eq_true hc, Bool.not_true, cond_false, rtext_eq hN1 (ok_int hc), Option.bind_some, ht, BEq.rfl, Bool.not_true, Option.bind_some, cond_false]
      rfl
  · rw [decide_eq_true (by omega), cond_true]
end Go.Gp
end
