import Derived.Test.YtgogpopeldnddaaTI
set_option linter.unusedVariables false
set_option linter.unusedSimpArgs false
namespace Go.Proofs.TR1
open Go.Vd Go.RowKit

theorem i8_wrap (x : UInt8) : IntKind.i8.wrap (x.toNat : Int) = rdStep (sgn x) x := by
  have hx := x.toNat_lt
  have e : IntKind.i64.wrap (sgn x * 256) = sgn x * 256 := i64_wrap (by rw [sgn_eq]; split <;> omega) (by rw [sgn_eq]; split <;> omega)
  rw [rdStep, e, sgn_eq]
  change (if (true && decide ((x.toNat : Int) % 256 ≥ 128)) = true then (x.toNat : Int) % 256 - 256 else (x.toNat : Int) % 256) = _
  simp only [Bool.true_and, decide_eq_true_eq]
  split <;> split <;> omega

theorem i8_range (x : UInt8) : -128 ≤ rdStep (sgn x) x ∧ rdStep (sgn x) x < 128 := by
  have hx := x.toNat_lt
  rw [← i8_wrap]
  change -128 ≤ (if (true && decide ((x.toNat : Int) % 256 ≥ 128)) = true then (x.toNat : Int) % 256 - 256 else (x.toNat : Int) % 256) ∧ (if (true && decide ((x.toNat : Int) % 256 ≥ 128)) = true then (x.toNat : Int) % 256 - 256 else (x.toNat : Int) % 256) < 128
  simp only [Bool.true_and, decide_eq_true_eq]
  split <;> omega

def S9 (s : List UInt8) (n : Int) (i : Nat) : St := ⟨ofL [(0, .str s), (4, .int .i64 n), (5, .int .i64 (i : Int))], noRows⟩

theorem loop9 (s : List UInt8) (Q : Xt → St → Prop) : ∀ (m i : Nat) (n : Int), s.length = i + m → s.length ≤ 1000 → (∀ st, Norm (fun _ => false) st ⟨ofL [(0, .str s), (4, .int .i64 ((s.drop i).foldl rdStep n))], noRows⟩ → Q (.exit 0) st) →
    ∃ e st', Ex Try.prog (fun _ => false) (.loop l9_0.un) (S9 s n i) e st' ∧ Q e st' := by
  intro m
  induction m with
  | zero =>
    intro i n hi hs hQ
    refine loop_round ?_
    refine wo (opop rfl) <| wo (opop rfl) <| wo (opop rfl) <| wo (opop rfl) ?_
    refine wcond rfl (fun c => absurd (of_decide_eq_true c) (by omega)) (fun c => ?_)
    refine hQ _ (canon0 (m := []) ⟨rfl, vi ?_, trivial⟩ trivial rfl rfl)
    rw [List.drop_of_length_le (by omega)]
    rfl
  | succ m ih =>
    intro i n hi hs hQ
    have hlt : i < s.length := by omega
    have hget : s[i]? = some (s[i]'hlt) := List.getElem?_eq_getElem hlt
    generalize s[i]'hlt = b at hget
    have hb := b.toNat_lt
    have hr := i64_range (n * 2 ^ 8)
    refine loop_round ?_
    refine wo (opop rfl) <| wo (opop rfl) <| wo (opop rfl) <| wo (opop rfl) ?_
    refine wcond rfl (fun c => ?_) (fun c => absurd (of_decide_eq_false c) (by omega))
    refine wo (opop rfl) <| wo (obin rfl rfl (binv_shl _ _ 8 (by decide))) <| wo (opop rfl) <| wo (opop rfl) <| wo (oidx (i := i) rfl rfl rfl hget) <| wo (ocvi rfl (i64_wrap (by omega) (by omega))) <|
      wo (obin rfl rfl (binv_i64or hr.1 hr.2.1 (by omega) hb)) <| wo (opop rfl) <| wo (opop rfl) <| wo (obin rfl rfl (binv_add (c := ((i + 1 : Nat) : Int)) (by omega) (by omega) (by omega))) <| wo (opop rfl) ?_
    refine loop_norm (st1 := S9 s (rdStep n b) (i + 1)) (canon0 (m := []) ⟨rfl, rfl, rfl, trivial⟩ trivial rfl rfl) ?_
    refine ih (i + 1) _ (by omega) hs fun st hn => hQ st ?_
    have : s.drop i = b :: s.drop (i + 1) := by
      obtain ⟨h1, h2⟩ := List.getElem?_eq_some_iff.1 hget
      rw [← h2]
      exact List.drop_eq_getElem_cons h1
    rw [this]
    exact hn

theorem sat9 (s : List UInt8) (hs : s.length ≤ 1000) (rs : List PV) (hno : BadI s → rs = [.int .i64 0, .bool false]) (hyes : ¬ BadI s → rs = [.int .i64 (rd s), .bool true]) (hrd : -9223372036854775808 ≤ rd s ∧ rd s < 9223372036854775808) : Sat Try.prog 9 noRows [.str s] (resOf rs) noRows := by
  have bad : ∀ st : St, st.s 2 = some (.int .i64 0) → st.s 3 = some (.bool false) → BadI s → (∀ id, Xt.ret ≠ .exit id) ∧ gets st [.tmp 2, .tmp 3] = some rs ∧ PV.tks (fun _ => false) rs = true := by
    intro st h2 h3 hb
    rw [hno hb]
    exact ⟨nofun, by simp only [gets, IRes.get, h2, h3], rfl⟩
  refine sat_plain mixed Try.func9 c9 (rs := rs) rfl rfl ?_
  cases s with
  | nil =>
    refine wo (opop rfl) <| wo (opop rfl) <| wo (opop rfl) <| wo (opop rfl) <| wo (opop rfl) <| wo (opop rfl) <| wps rfl <| wps rfl <| wps rfl <| wo (opop rfl) ?_
    refine wcond rfl (fun _ => ?_) nofun
    refine wo (opop rfl) <| wo (opop rfl) ?_
    exact bad _ rfl rfl (.inl rfl)
  | cons x s =>
    by_cases hl : 8 < (x :: s).length
    · have e1 : decide ((((x :: s).length : Nat) : Int) < 1) = false := decide_eq_false (by simp; omega)
      have e2 : decide ((((x :: s).length : Nat) : Int) > 8) = true := decide_eq_true (by omega)
      refine wo (opop rfl) <| wo (opop rfl) <| wo (opop rfl) <| wo (opop rfl) <| wo (obin rfl rfl (binv_lt e1)) <| wo (opop rfl) <| wog rfl (opop rfl) <| wog rfl (opop rfl) <| wog rfl (obin rfl rfl (binv_gt e2)) <| wo (opop rfl) ?_
      refine wcond rfl (fun _ => ?_) nofun
      refine wo (opop rfl) <| wo (opop rfl) ?_
      exact bad _ rfl rfl (.inr (.inl hl))
    · have e1 : decide ((((x :: s).length : Nat) : Int) < 1) = false := decide_eq_false (by simp; omega)
      have e2 : decide ((((x :: s).length : Nat) : Int) > 8) = false := decide_eq_false (by omega)
      have hr8 := i8_range x
      refine wo (opop rfl) <| wo (opop rfl) <| wo (opop rfl) <| wo (opop rfl) <| wo (obin rfl rfl (binv_lt e1)) <| wo (opop rfl) <| wog rfl (opop rfl) <| wog rfl (opop rfl) <| wog rfl (obin rfl rfl (binv_gt e2)) <| wo (opop rfl) ?_
      refine wcond rfl nofun (fun _ => ?_)
      refine wo (opop rfl) <| wo (oidx (i := 0) (b := x) rfl rfl rfl rfl) <| wo (ocvi rfl (i8_wrap x)) <| wo (ocvi rfl (i64_wrap (by omega) (by omega))) <| wo (opop rfl) <| wo (opop rfl) ?_
      refine loop_norm (st1 := S9 (x :: s) (rdStep (sgn x) x) 1) (canon0 (m := []) ⟨rfl, rfl, rfl, trivial⟩ trivial rfl rfl) ?_
      refine loop9 (x :: s) _ s.length 1 _ (by simp; omega) hs fun st hn => ?_
      refine wn hn <| wo (opop rfl) <| wo (ocall rfl rfl (sat12 (rd (x :: s)) hrd.1 hrd.2) rfl rfl rfl) <| wo (opop rfl) <| wo (opop rfl) ?_
      refine wcond rfl (fun c34 => ?_) (fun c34 => ?_)
      · skip
        refine wo (opop rfl) <| wo (opop rfl) ?_
        exact bad _ rfl rfl (.inr (.inr (by have h : (!(enc (rd (x :: s)) == (x :: s))) = true := c34; simpa using h)))
      · skip
        refine wo (opop rfl) <| wo (opop rfl) <| wo (opop rfl) ?_
        have hg : ¬ BadI (x :: s) := fun hb => hb.elim nofun fun hb => hb.elim (fun h => absurd h hl) fun h => h (by have h : (!(enc (rd (x :: s)) == (x :: s))) = false := c34; simpa using h)
        rw [hyes hg]
        exact ⟨nofun, rfl, rfl⟩

theorem sat11 (tag : Int) (s : List UInt8) : Sat Try.prog 11 noRows [.int .u8 tag, .str s] (.agg [.int .u8 tag, .str s, .nl]) noRows := by
  refine sat_plain mixed Try.func11 c11 (rs := [_]) rfl rfl ?_
  refine wo (obox 4 rfl rfl rfl rfl) <| wo (opop rfl) <| wo (opop rfl) <| wo (opop rfl) <| wo (osto rfl rfl rfl rfl rfl rfl rfl rfl nofun) ?_
  exact ⟨nofun, rfl, rfl⟩

theorem sat18 (tag : Int) (n : Int) (h1 : -9223372036854775808 ≤ n) (h2 : n < 9223372036854775808) : Sat Try.prog 18 noRows [.int .u8 tag, .int .i64 n] (.agg [.int .u8 tag, .str (enc n), .nl]) noRows := by
  refine sat_plain mixed Try.func18 c18 (rs := [_]) rfl rfl ?_
  refine wo (obox 4 rfl rfl rfl rfl) <| wo (opop rfl) <| wo (opop rfl) <| wo (ocall rfl rfl (sat12 _ h1 h2) rfl rfl rfl) <| wo (opop rfl) <| wo (osto rfl rfl rfl rfl rfl rfl rfl rfl nofun) ?_
  exact ⟨nofun, rfl, rfl⟩

theorem sat14 (b : Bool) : Sat Try.prog 14 noRows [.bool b] (.str (if b = true then [255] else [0])) noRows := by
  refine sat_plain mixed Try.func14 c14 (rs := [_]) rfl rfl ?_
  refine wo (opop rfl) <| wo (opop rfl) ?_
  refine wcond rfl (fun c3 => ?_) (fun c3 => ?_)
  · skip
    refine wo (opop rfl) ?_
    exact ⟨nofun, vsl (by rw [if_pos c3]), rfl⟩
  · skip
    refine wo (opop rfl) ?_
    exact ⟨nofun, vsl (by rw [c3]; rfl), rfl⟩

end Go.Proofs.TR1
