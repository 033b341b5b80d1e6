import Derived.Test.YtgogpopeldnddaaTD
set_option linter.unusedVariables false
set_option linter.unusedSimpArgs false
namespace Go.Proofs.TR1
open Go.Vd Go.RowKit

theorem enc_sign : ∀ (k : Nat) (r : Int) (x : UInt8) (b : List UInt8), -(2 : Int) ^ (8 * k + 7) ≤ r * 256 + x.toNat → r * 256 + x.toNat < (2 : Int) ^ (8 * k + 7) →
    sgn ((encL (k + 1) r x b).headD 0) = if r * 256 + x.toNat < 0 then -1 else 0 := by
  intro k
  induction k with
  | zero =>
    intro r x b h1 h2
    have hr := sgn_end h1 h2
    have hx := x.toNat_lt
    have hs := sgn_eq x
    rw [encL_eq hr]
    show sgn x = _
    rw [← hr] at hs ⊢
    split at hs <;> split <;> omega
  | succ k ih =>
    intro r x b h1 h2
    have hx := x.toNat_lt
    by_cases hr : r = sgn x
    · have hs := sgn_eq x
      rw [encL_eq hr]
      show sgn x = _
      rw [← hr] at hs ⊢
      split at hs <;> split <;> omega
    · rw [encL_ne hr]
      obtain ⟨g1, g2⟩ := step_bounds h1 h2
      have h3 : r.fdiv 256 * 256 + (byte r).toNat = r := by
        rw [byte_toNat, fdiv256]
        omega
      rw [ih _ _ _ g1 g2, h3]
      split <;> split <;> omega

def lead (n : Int) : UInt8 := if n < 0 then 255 else 0

section
variable {n : Int} (h1 : -9223372036854775808 ≤ n) (h2 : n < 9223372036854775808)
include h1 h2
theorem rd_lead : rd (lead n :: enc n) = n := by
  have h3 : n.fdiv 256 * 256 + (byte n).toNat = n := by
    rw [byte_toNat, fdiv256]
    omega
  have hs := enc_sign 7 (n.fdiv 256) (byte n) [] (by rw [h3]; exact h1) (by rw [h3]; exact h2)
  rw [h3] at hs
  have hr := rd_of h1 h2
  unfold rd at hr ⊢
  have hs' : sgn ((enc n).headD 0) = if n < 0 then -1 else 0 := hs
  rw [hs'] at hr
  show (enc n).foldl rdStep (rdStep (sgn (lead n)) (lead n)) = n
  have e0 : rdStep (sgn 0) 0 = 0 := by decide +kernel
  have e1 : rdStep (sgn 255) 255 = -1 := by decide +kernel
  unfold lead
  by_cases hn : n < 0
  · rw [if_pos hn] at hr ⊢
    rw [e1]
    exact hr
  · rw [if_neg hn] at hr ⊢
    rw [e0]
    exact hr

theorem q8y : Sat Try.prog 8 noRows [.str (enc n)] (.tup [.int .i64 n, .bool true]) noRows := by
  obtain ⟨_, _, h5, h6⟩ := enc_facts h1 h2
  have hr := rd_of h1 h2
  refine sat8 _ (by omega) [_, _] (fun h => absurd h ?_) (fun _ => by rw [hr]) (by rw [hr]; exact ⟨h1, h2⟩)
  rintro (h | h | h)
  · rw [h] at h6; simp at h6
  · omega
  · exact h (by rw [hr])
theorem q8n : Sat Try.prog 8 noRows [.str (lead n :: enc n)] (.tup [.int .i64 0, .bool false]) noRows := by
  obtain ⟨_, _, h5, h6⟩ := enc_facts h1 h2
  have hr := rd_lead h1 h2
  refine sat8 _ (by simp; omega) [_, _] (fun h => rfl) (fun h => absurd ?_ h) (by rw [hr]; exact ⟨h1, h2⟩)
  refine .inr (.inr fun h => ?_)
  rw [hr] at h
  have := congrArg List.length h
  simp at this
end

theorem binv_self (k : IntKind) (a : Int) : binv .eql (.int k a) (.int k a) = some (.bool true) := by
  simp [binv, isShift, ibin]
theorem binv_eq {k : IntKind} {a b : Int} (h : a = b) : binv .eql (.int k a) (.int k b) = some (.bool true) := by rw [h]; exact binv_self k b

def S3 (n : Int) (i : Nat) : St := ⟨ofL [(0, .int .i64 n), (3, .str (enc n)), (4, .int .i64 n), (5, .bool true), (8, .bool false), (9, .int .i64 (i : Int))], noRows⟩

theorem binv_shrm (n : Int) (k : IntKind) {z : Int} (m : Nat) (hz : z = (m : Int)) (hm : m ≤ 64) : binv .shr (.int .i64 n) (.int k z) = some (.int .i64 (n.fdiv (2 ^ m))) := by rw [hz]; exact binv_shr n k m hm

theorem loop3 {n : Int} (h1 : -9223372036854775808 ≤ n) (h2 : n < 9223372036854775808) (Q : Xt → St → Prop) : ∀ (m i : Nat), i + m = (enc n).length → 1 ≤ i → (∀ st, Norm (fun _ => false) st (S3 n (enc n).length) → Q (.exit 0) st) →
    ∃ e st', Ex Try.prog (fun _ => false) (.loop l3_0.un) (S3 n i) e st' ∧ Q e st' := by
  obtain ⟨f1, f2, f3, f4⟩ := enc_facts h1 h2
  intro m
  induction m with
  | zero =>
    intro i hi h3 hQ
    have hi' : i = (enc n).length := by omega
    rw [← hi'] at f2 f3
    refine loop_round ?_
    refine wo (opop rfl) <| wo (opop rfl) <| wo (opop rfl) ?_
    refine wsplit 30 rfl (fun g30 => ?_) (fun g30 => ?_)
    · refine wog (gy rfl g30) (opop rfl) <| wog (gy rfl g30) (opop rfl) <| wog (gy rfl g30) (obin rfl rfl (binv_mul rfl (by omega) (by omega))) <| wog (gy rfl g30) (obin rfl rfl (binv_sub rfl (by omega) (by omega))) <|
        wog (gy rfl g30) (ocvi rfl (u64_wrap (by omega) (by omega))) <| wog (gy rfl g30) (obin rfl rfl (binv_shrm _ _ (8 * i - 1) (by omega) (by omega))) <| wog (gy rfl g30) (opop rfl) <| wog (gy rfl g30) (opop rfl) ?_
      refine wsplit 38 rfl (fun g38 => ?_) (fun g38 => ?_)
      · refine wog (gy rfl g38) (opop rfl) <| wog (gy rfl g38) (opop rfl) <| wog (gy rfl g38) (obin rfl rfl (binv_mul rfl (by omega) (by omega))) <| wog (gy rfl g38) (obin rfl rfl (binv_sub rfl (by omega) (by omega))) <|
          wog (gy rfl g38) (ocvi rfl (u64_wrap (by omega) (by omega))) <| wog (gy rfl g38) (obin rfl rfl (binv_shrm _ _ (8 * i - 1) (by omega) (by omega))) <| wog (gy rfl g38) (opop rfl) <| wog (gy rfl g30) (opick1 rfl g38 rfl) <| wo (opick1 rfl g30 rfl) ?_
        refine wcond rfl (fun c => ?_) (fun c => ?_)
        · exfalso
          rcases f2 with h | h
          · rw [h] at g38; simp at g38
          · rw [h] at c; simp at c
        · exact hQ _ (by rw [← hi']; exact canon0 (m := []) ⟨rfl, rfl, rfl, rfl, rfl, rfl, trivial⟩ trivial rfl rfl)
      · refine wps (gn rfl g38) <| wps (gn rfl g38) <| wps (gn rfl g38) <| wps (gn rfl g38) <| wps (gn rfl g38) <| wps (gn rfl g38) <| wps (gn rfl g38) <| wog (gy rfl g30) (opick0 rfl g38 rfl) <| wo (opick1 rfl g30 rfl) ?_
        refine wcond rfl nofun (fun c => ?_)
        exact hQ _ (by rw [← hi']; exact canon0 (m := []) ⟨rfl, rfl, rfl, rfl, rfl, rfl, trivial⟩ trivial rfl rfl)
    · refine wps (gn rfl g30) <| wps (gn rfl g30) <| wps (gn rfl g30) <| wps (gn rfl g30) <| wps (gn rfl g30) <| wps (gn rfl g30) <| wps (gn rfl g30) <| wps (gn rfl g30) <|
        wps (gu rfl) <| wps (gu rfl) <| wps (gu rfl) <| wps (gu rfl) <| wps (gu rfl) <| wps (gu rfl) <| wps (gu rfl) <| wps (gn rfl g30) <| wo (opick0 rfl g30 rfl) ?_
      refine wcond rfl nofun (fun c => ?_)
      exact hQ _ (by rw [← hi']; exact canon0 (m := []) ⟨rfl, rfl, rfl, rfl, rfl, rfl, trivial⟩ trivial rfl rfl)
  | succ m ih =>
    intro i hi h3 hQ
    have hne := f1 i h3 (by omega)
    have g30 : decide ((i : Int) < 8) = true := decide_eq_true (by omega)
    have g38 : ((n.fdiv (2 ^ (8 * i - 1))) != 0) = true := by
      simp only [bne_iff_ne, ne_eq]
      exact fun h => hne (.inl h)
    refine loop_round ?_
    refine wo (opop rfl) <| wo (opop rfl) <| wo (opop rfl) ?_
    refine wog (gy rfl g30) (opop rfl) <| wog (gy rfl g30) (opop rfl) <| wog (gy rfl g30) (obin rfl rfl (binv_mul rfl (by omega) (by omega))) <| wog (gy rfl g30) (obin rfl rfl (binv_sub rfl (by omega) (by omega))) <|
      wog (gy rfl g30) (ocvi rfl (u64_wrap (by omega) (by omega))) <| wog (gy rfl g30) (obin rfl rfl (binv_shrm _ _ (8 * i - 1) (by omega) (by omega))) <| wog (gy rfl g30) (opop rfl) <| wog (gy rfl g30) (opop rfl) ?_
    refine wog (gy rfl g38) (opop rfl) <| wog (gy rfl g38) (opop rfl) <| wog (gy rfl g38) (obin rfl rfl (binv_mul rfl (by omega) (by omega))) <| wog (gy rfl g38) (obin rfl rfl (binv_sub rfl (by omega) (by omega))) <|
      wog (gy rfl g38) (ocvi rfl (u64_wrap (by omega) (by omega))) <| wog (gy rfl g38) (obin rfl rfl (binv_shrm _ _ (8 * i - 1) (by omega) (by omega))) <| wog (gy rfl g38) (opop rfl) <| wog (gy rfl g30) (opick1 rfl g38 rfl) <| wo (opick1 rfl g30 rfl) ?_
    refine wcond rfl (fun c => ?_) (fun c => ?_)
    · refine wo (opop rfl) <| wo (obin rfl rfl (binv_add (c := ((i + 1 : Nat) : Int)) (by omega) (by omega) (by omega))) <| wo (opop rfl) ?_
      refine loop_norm (st1 := S3 n (i + 1)) (canon0 (m := []) ⟨rfl, rfl, rfl, rfl, rfl, rfl, trivial⟩ trivial rfl rfl) ?_
      exact ih (i + 1) (by omega) (by omega) hQ
    · exfalso
      exact hne (.inr (by simpa using c))

theorem sat3 (n : Int) (h1 : -9223372036854775808 ≤ n) (h2 : n < 9223372036854775808) : Sat Try.prog 3 noRows [.int .i64 n] (.bool true) noRows := by
  obtain ⟨f1, f2, f3, f4⟩ := enc_facts h1 h2
  refine sat_plain mixed Try.func3 c3 (rs := [_]) rfl rfl ?_
  refine wo (opop rfl) <| wo (ocall rfl rfl sat6 rfl rfl rfl) <| wo (opop rfl) ?_
  refine wcond rfl nofun (fun _ => ?_)
  refine wo (opop rfl) <| wo (ocall rfl rfl (sat7 n h1 h2) rfl rfl rfl) <| wo (opop rfl) <| wo (opop rfl) <| wo (ocall rfl rfl (q8y h1 h2) rfl rfl rfl) <| wo (opop rfl) <| wo (opop rfl) <| wo (opop rfl) <| wo (opop rfl) <| wo (opop rfl) <| wo (opop rfl) ?_
  refine wjoin ⟨ofL [(0, .int .i64 n), (3, .str (enc n)), (4, .int .i64 n), (5, .bool true), (6, .str [lead n])], noRows⟩ ?_ ?_
  · skip
    refine wo (opop rfl) <| wo (opop rfl) ?_
    refine wcond rfl (fun c20 => ?_) (fun c20 => ?_)
    · skip
      refine wo (opop rfl) ?_
      exact canon0 (m := []) ⟨rfl, rfl, rfl, rfl, vs (by rw [lead, if_pos (of_decide_eq_true c20)]), trivial⟩ trivial rfl rfl
    · skip
      exact canon0 (m := []) ⟨rfl, rfl, rfl, rfl, vs (by rw [lead, if_neg (of_decide_eq_false c20)]), trivial⟩ trivial rfl rfl
  refine wo (opop rfl) <| wo (opop rfl) <| wo (obin rfl rfl (binv_cat (by simp; omega))) <| wo (ocall rfl rfl (q8n h1 h2) rfl rfl rfl) <| wo (opop rfl) <| wo (opop rfl) <| wo (opop rfl) <| wo (opop rfl) <| wo (opop rfl) <| wo (opop rfl) ?_
  refine loop_norm (st1 := S3 n 1) (canon0 (m := []) ⟨rfl, rfl, rfl, rfl, rfl, rfl, trivial⟩ trivial rfl rfl) ?_
  refine loop3 h1 h2 _ ((enc n).length - 1) 1 (by omega) (by omega) fun st hn => ?_
  refine wn hn <| wo (opop rfl) <| wo (opop rfl) <| wog rfl (opop rfl) <| wog rfl (opop rfl) <| wog rfl (obin rfl rfl (binv_self _ _)) <| wo (opop rfl) <| wo (opop rfl) <| wog rfl (opop rfl) <| wog rfl (opop rfl) <| wo (opop rfl) <| wo (opop rfl) <| wog rfl (opop rfl) <| wog rfl (opop rfl) <| wog rfl (opop rfl) ?_
  refine wog rfl (obin rfl rfl (binv_self _ _)) <| wo (opop rfl) <| wo (opop rfl) ?_
  exact ⟨nofun, rfl, rfl⟩

end Go.Proofs.TR1
