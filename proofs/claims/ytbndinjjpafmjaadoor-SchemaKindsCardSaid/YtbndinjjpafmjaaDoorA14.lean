/- A part of the proof: functions of the program and what they compute. -/
import Derived.Test.YtbndinjjpafmjaaDoorA13
section
set_option linter.unusedVariables false
set_option linter.unusedSimpArgs false
namespace Go.Gp
open Go.Vd
def digs : Nat → Nat → List UInt8
  | 0, _ => []
  | f + 1, k => if k < 10 then [UInt8.ofNat (48 + k)] else digs f (k / 10) ++ [UInt8.ofNat (48 + k % 10)]
theorem dig_b (r : Nat) (h : r < 10) : byte (w64 ((48 : Int) + (r : Int))) = UInt8.ofNat (48 + r) := by
  have : ∀ r : Fin 10, byte (w64 ((48 : Int) + ((r : Nat) : Int))) = UInt8.ofNat (48 + (r : Nat)) := by decide +kernel
  exact this ⟨r, h⟩
theorem digs_loop (N : Nat) (a1 : Int) : ∀ (f k n : Nat) (acc : List UInt8), k < 10 ^ f → f ≤ 10 → f < n → acc.length + f ≤ 100 → prefectlaw5_SchemaKinds_l28 N a1 n (acc, (k : Int)) = some (digs f k ++ acc) ∨ f = 0 := by
  intro f
  induction f with
  | zero => intro k n acc _ _ _ _; exact .inr rfl
  | succ f ih =>
    intro k n acc hk hf hn hacc
    left
    obtain ⟨n, rfl, hn'⟩ := fuel hn
    simp only [prefectlaw5_SchemaKinds_l28, prefectlaw5_SchemaKinds_l28_b]
    have hm : Int.tmod (k : Int) (10 : Int) = ((k % 10 : Nat) : Int) := rfl
    have hd : Int.tdiv (k : Int) (10 : Int) = ((k / 10 : Nat) : Int) := rfl
    have hkb : k < 10000000000 := Nat.lt_of_lt_of_le hk (by
      have := Nat.pow_le_pow_right (n := 10) (by omega) hf
      simpa using this)
    rw [hm, hd, dig_b _ (by omega), catS_ok (by simp; omega), Option.bind_some, digs]
    by_cases h : k < 10
    · rw [decide_eq_true (by omega), cond_true, if_pos h, Nat.mod_eq_of_lt h]
    · rw [decide_eq_false (by omega), cond_false, if_neg h, w64_nat (by omega)]
      rcases ih (k / 10) n ([UInt8.ofNat (48 + k % 10)] ++ acc) (by rw [Nat.pow_succ] at hk; omega) (by omega) (by omega) (by simp; omega) with h' | h'
      · rw [h']; simp
      · subst h'; simp at hk; omega
theorem digs_spec : ∀ (f k : Nat), 0 < f → k < 10 ^ f → (digs f k).all dgB = true ∧ (digs f k).length ≤ f ∧ ∃ c t, digs f k = c :: t ∧ (c = 48 → k = 0 ∧ t = []) ∧ (k = 0 → c = 48 ∧ t = []) := by
  have hdg : ∀ r : Fin 10, dgB (UInt8.ofNat (48 + (r : Nat))) = true ∧ (UInt8.ofNat (48 + (r : Nat)) = 48 → (r : Nat) = 0) ∧ ((r : Nat) = 0 → UInt8.ofNat (48 + (r : Nat)) = 48) := by decide +kernel
  intro f
  induction f with
  | zero => intro k h; omega
  | succ f ih =>
    intro k _ hk
    rw [digs]
    by_cases h : k < 10
    · rw [if_pos h]
      obtain ⟨h1, h2, h3⟩ := hdg ⟨k, h⟩
      exact ⟨by simpa using h1, by simp, _, _, rfl, fun e => ⟨h2 e, rfl⟩, fun e => ⟨h3 e, rfl⟩⟩
    · rw [if_neg h]
      have hf : 0 < f := by
        apply Nat.pos_of_ne_zero
        intro e; subst e; simp at hk; omega
      obtain ⟨h1, h2, c, t, h3, h4, h5⟩ := ih (k / 10) hf (by rw [Nat.pow_succ] at hk; omega)
      obtain ⟨g1, _, _⟩ := hdg ⟨k % 10, by omega⟩
      refine ⟨by rw [List.all_append, h1]; simpa using g1, by simp; omega, c, t ++ [UInt8.ofNat (48 + k % 10)], by rw [h3]; rfl, fun e => ?_, fun e => by omega⟩
      have := (h4 e).1
      omega
theorem dg_low (c : UInt8) (h : dgB c = true) : c ≠ 92 ∧ c ≠ 43 ∧ c ≠ 44 ∧ c ≠ 61 ∧ c ≠ 45 ∧ c ≠ 35 ∧ c ≠ 32 ∧ spc c = false := by
  have := u8_all (p := fun c => !dgB c || decide (c ≠ 92 ∧ c ≠ 43 ∧ c ≠ 44 ∧ c ≠ 61 ∧ c ≠ 45 ∧ c ≠ 35 ∧ c ≠ 32 ∧ spc c = false)) (by decide +kernel) c
  simpa [h] using this
theorem pl_dg : ∀ (s : List UInt8) (f : Bool), s.all dgB = true → plS f s = some s
  | [], f, _ => rfl
  | c :: s, f, h => by
    rw [List.all_cons, Bool.and_eq_true] at h
    obtain ⟨h1, _, _, _, _, h6, h7, h8⟩ := dg_low c h.1
    rw [plS_cons, if_neg h1, h8, decide_eq_false h6, decide_eq_false h7, if_neg (by simp), pl_dg s false h.2]
    rfl
theorem cut_plain {sep : UInt8} : ∀ x : List UInt8, (∀ c ∈ x, c ≠ 92 ∧ c ≠ sep) → cutS sep x = [x] := by
  intro x h
  have := cutS_skip sep x [] h
  rw [List.append_nil] at this
  rw [this]
  simp [cutS, preH]
theorem cutE_none : ∀ x : List UInt8, (∀ c ∈ x, c ≠ 61) → cutE x = none
  | [], _ => rfl
  | c :: x, h => by
    rw [cutE, if_neg (h c List.mem_cons_self), cutE_none x fun d hd => h d (List.mem_cons_of_mem _ hd)]; rfl
theorem cutE_at : ∀ (a v : List UInt8), (∀ c ∈ a, c ≠ 61) → cutE (a ++ 61 :: v) = some (a, v)
  | [], v, _ => by simp [cutE]
  | c :: a, v, h => by
    rw [List.cons_append, cutE, if_neg (h c List.mem_cons_self), cutE_at a v fun d hd => h d (List.mem_cons_of_mem _ hd)]
    rfl
theorem name_dg {d : List UInt8} (h : d.all dgB = true) (h0 : d ≠ []) : nameP d = none := by
  have hd := List.all_eq_true.1 h
  have e1 : cutS 44 d = [d] := cut_plain d fun c hc => ⟨(dg_low c (hd c hc)).1, (dg_low c (hd c hc)).2.2.1⟩
  have e2 : cutS 43 d = [d] := cut_plain d fun c hc => ⟨(dg_low c (hd c hc)).1, (dg_low c (hd c hc)).2.1⟩
  have e3 : avaP d = none := by unfold avaP; rw [cutE_none d fun c hc => (dg_low c (hd c hc)).2.2.2.1]; rfl
  have e4 : rdnP d = none := by unfold rdnP; rw [e2, List.mapM_cons, e3]; rfl
  unfold nameP
  rw [if_neg h0, e1, List.mapM_cons, e4]
  rfl
theorem name_cn {d : List UInt8} (h : d.all dgB = true) (h0 : d ≠ []) (hl : d.length ≤ 10) : nameP (99 :: 110 :: 61 :: d) = some [[⟨[99, 110], d⟩]] := by
  have hd := List.all_eq_true.1 h
  have hall : ∀ c ∈ (99 :: 110 :: 61 :: d), c ≠ 92 ∧ c ≠ 43 ∧ c ≠ 44 := by
    intro c hc
    simp only [List.mem_cons] at hc
    rcases hc with rfl | rfl | rfl | hc
    · decide
    · decide
    · decide
    · exact ⟨(dg_low c (hd c hc)).1, (dg_low c (hd c hc)).2.1, (dg_low c (hd c hc)).2.2.1⟩
  have e1 : cutS 44 (99 :: 110 :: 61 :: d) = [99 :: 110 :: 61 :: d] := cut_plain _ fun c hc => ⟨(hall c hc).1, (hall c hc).2.2⟩
  have e2 : cutS 43 (99 :: 110 :: 61 :: d) = [99 :: 110 :: 61 :: d] := cut_plain _ fun c hc => ⟨(hall c hc).1, (hall c hc).2.1⟩
  have e3 : avaP (99 :: 110 :: 61 :: d) = some ⟨[99, 110], d⟩ := by
    unfold avaP
    rw [show (99 :: 110 :: 61 :: d : List UInt8) = [99, 110] ++ 61 :: d from rfl, cutE_at [99, 110] d (by decide), Option.bind_some]
    simp only [pl_dg d true h]
    rfl
  have hr : isRDNS [(⟨[99, 110], d⟩ : api_AVA)] = true := by
    have hty : isTypeS [99, 110] = true := by decide +kernel
    have hlen : 1 ≤ d.length := List.length_pos_iff.2 h0
    simp [isRDNS, rdnGo, avaS, hty]
    omega
  have e4 : rdnP (99 :: 110 :: 61 :: d) = some [⟨[99, 110], d⟩] := by
    unfold rdnP
    rw [e2, List.mapM_cons, e3]
    simp [hr]
  unfold nameP
  rw [if_neg (by simp), e1, List.mapM_cons, e4]
  rfl
def cnT : List UInt8 := [99, 110]
theorem findC (n : List UInt8) (t : api_Type) (h : findS n = some t) (v : List UInt8) : checkS n v = if v ≠ [] ∧ v.length ≤ 60 ∧ mayS t.Syntax v = true then 0 else 17 := by
  unfold checkS; rw [h]
theorem law_prefectlaw5_SchemaKinds (a0 : UInt8) (a1 : Int) (_ : True) (h1 : IntKind.u16.min ≤ a1 ∧ a1 ≤ IntKind.u16.max) : ∃ N, prefectlaw5_SchemaKinds N a0 a1 = some true := by
  refine ⟨9223372036854775808, ?_⟩
  have e1 : IntKind.u16.min = 0 := by decide
  have e2 : IntKind.u16.max = 65535 := by decide
  rw [e1, e2] at h1
  obtain ⟨k, rfl⟩ : ∃ k : Nat, a1 = (k : Int) := ⟨a1.toNat, by omega⟩
  have hk : k < 65536 := by omega
  unfold prefectlaw5_SchemaKinds
  rw [sknown_big, Option.bind_some]
  simp only [Bool.not_true, cond_false]
  rw [pr_c2, nb_c]
  have fm : findS [109, 97, 105, 108] = some ⟨[109, 97, 105, 108], 2, false⟩ := by decide +kernel
  have fc : findS [99, 110] = some ⟨[99, 110], 1, false⟩ := by decide +kernel
  have fp : findS [117, 115, 101, 114, 112, 97, 115, 115, 119, 111, 114, 100] = some ⟨[117, 115, 101, 114, 112, 97, 115, 115, 119, 111, 114, 100], 4, false⟩ := by decide +kernel
  have fu : findS [117, 105, 100, 110, 117, 109, 98, 101, 114] = some ⟨[117, 105, 100, 110, 117, 109, 98, 101, 114], 3, true⟩ := by decide +kernel
  have fb : findS [109, 101, 109, 98, 101, 114] = some ⟨[109, 101, 109, 98, 101, 114], 5, false⟩ := by decide +kernel
  have ck : ∀ n v : List UInt8, n.length ≤ 20 → v.length ≤ 100 → schema_Check 9223372036854775808 n v = some (checkS n v) := fun n v hn hv => check_eq (by omega) (by omega) (by omega) (Nat.le_refl _)
  obtain ⟨d1, d2, c, t, d3, d4, d5⟩ := digs_spec 5 k (by omega) (by omega)
  have hdl := (digs_loop 9223372036854775808 (k : Int) 5 k 9223372036854775808 [] (by omega) (by omega) (by omega) (by simp)).resolve_right (by omega)
  rw [List.append_nil] at hdl
  rw [w64_nat (by omega), hdl]
  generalize digs 5 k = d at *
  subst d3
  rw [ck _ [a0] (by simp) (by simp), ck _ [a0] (by simp) (by simp), ck _ [a0] (by simp) (by simp)]
  simp only [Option.bind_some]
  rw [ck _ (c :: t) (by simp) (by omega), ck _ (c :: t) (by simp) (by omega), ck _ [] (by simp) (by simp), catS_ok (by simp at d2 ⊢; omega), catS_ok (by simp at d2 ⊢; omega), catS_ok (by simp at d2 ⊢; omega)]
  simp only [Option.bind_some, List.cons_append, List.nil_append]
  rw [ck _ (45 :: c :: t) (by simp) (by simp at d2 ⊢; omega), ck _ (48 :: c :: t) (by simp) (by simp at d2 ⊢; omega), ck _ (99 :: 110 :: 61 :: c :: t) (by simp) (by simp at d2 ⊢; omega)]
  simp only [Option.bind_some]
  have hc45 : c ≠ 45 := by
    have := List.all_eq_true.1 d1 c List.mem_cons_self
    exact (dg_low c this).2.2.2.2.1
  have hlt : t.length < 15 := by simp at d2; omega
  have hlt2 : t.length + 1 < 15 := by simp at d2; omega
  have i1 : isIntS (c :: t) = true := by
    unfold isIntS
    rw [trimP_ne hc45]
    unfold isIntD
    simp only
    rw [decide_eq_true hlt, d1]
    by_cases h48 : c = 48
    · obtain ⟨_, rfl⟩ := d4 h48; subst h48; rfl
    · rw [decide_eq_false h48]; rfl
  have i2 : isIntS (45 :: c :: t) = decide (k ≠ 0) := by
    show isIntD (45 :: c :: t) (c :: t) = _
    unfold isIntD
    simp only
    rw [decide_eq_true hlt, d1, show (45 :: c :: t == ([48] : List UInt8)) = false by simp]
    by_cases h48 : c = 48
    · obtain ⟨rfl, _⟩ := d4 h48
      rw [decide_eq_true h48]; rfl
    · rw [decide_eq_false h48]
      have : k ≠ 0 := fun e => h48 (d5 e).1
      simp [this]
  have i3 : isIntS (48 :: c :: t) = false := by
    unfold isIntS
    rw [trimP_ne (by decide)]
    unfold isIntD
    simp
  have n1 := name_dg d1 (by simp)
  have n2 := name_cn d1 (by simp) (by omega)
  rw [findC _ _ fm, findC _ _ fc, findC _ _ fp, findC _ _ fu, findC _ _ fu, findC _ _ fu, findC _ _ fb, findC _ _ fb, findC _ _ fc]
  have h60 : t.length + 1 ≤ 60 := by omega
  have h61 : t.length + 1 + 1 ≤ 60 := by simp at d2; omega
  have h62 : t.length + 1 + 1 + 1 + 1 ≤ 60 := by simp at d2; omega
  simp only [mayS, i1, i2, i3, n1, n2]
  have hz : ((k : Int) != 0) = decide (k ≠ 0) := by rw [Bool.eq_iff_iff]; simp
  rw [hz]
  cases hp : prB a0 <;> cases hb : nbB a0 <;> by_cases k0 : k = 0 <;> simp [hp, hb, k0, h60, h61, h62]
end Go.Gp
end
