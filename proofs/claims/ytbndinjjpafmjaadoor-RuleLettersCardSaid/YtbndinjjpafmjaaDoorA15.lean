/- A part of the proof: functions of the program and what they compute. -/
import Derived.Test.YtbndinjjpafmjaaDoorA6
import Derived.Test.YtbndinjjpafmjaaDoorA14
section
set_option linter.unusedVariables false
set_option linter.unusedSimpArgs false
namespace Go.Gp
open Go.Vd
theorem let_cong (N : Nat) (a0 a1 a2 : UInt8) (a3 a4 : Bool) : ∀ (n : Nat) (x : List UInt8 × Int), prefectlaw18_RuleLetters_l18 N a0 a1 a2 a3 a4 n x = prefectlaw18_RuleLetters_l18 N a0 0 0 false false n x := by
  intro n
  induction n with
  | zero => intro x; rfl
  | succ n ih =>
    intro x
    have h : prefectlaw18_RuleLetters_l18 N a0 a1 a2 a3 a4 n = prefectlaw18_RuleLetters_l18 N a0 0 0 false false n := funext ih
    obtain ⟨p, q⟩ := x
    simp only [prefectlaw18_RuleLetters_l18, prefectlaw18_RuleLetters_l18_b, h]
def letS (a0 : UInt8) : List UInt8 := (prefectlaw18_RuleLetters_l18 9223372036854775808 a0 0 0 false false 9223372036854775808 (([] : List UInt8), 0)).getD []
theorem let_eq (a0 : UInt8) : prefectlaw18_RuleLetters_l18 9223372036854775808 a0 0 0 false false 9223372036854775808 (([] : List UInt8), 0) = some (letS a0) := by
  have := u8_all (p := fun a0 => prefectlaw18_RuleLetters_l18 9223372036854775808 a0 0 0 false false 9223372036854775808 (([] : List UInt8), 0) == some (letS a0)) (by decide +kernel) a0
  simpa using this
theorem let_mod (a0 : UInt8) : letS a0 = letS (UInt8.ofNat (a0.toNat % 64)) := by
  have := u8_all (p := fun a0 => letS a0 == letS (UInt8.ofNat (a0.toNat % 64))) (by decide +kernel) a0
  simpa using this
theorem rknown_big : prefectlaw18_known 9223372036854775808 = some true := by decide +kernel
def letR (a3 a4 : Bool) (y : List UInt8) : Option Bool :=
  Option.bind (aci_Is 9223372036854775808 (⟨a3, y, a4, ([115, 101, 108, 102] : List UInt8), []⟩ : api_Rule)) fun (x44 : Bool) =>
  bif !(x44 == (!(y == ([] : List UInt8)))) then some false
  else
    bif (y == ([] : List UInt8)) then
      Option.bind (aci_Print 9223372036854775808 (⟨a3, y, a4, ([115, 101, 108, 102] : List UInt8), []⟩ : api_Rule)) fun (x51 : List UInt8) =>
      some (x51 == ([] : List UInt8))
    else
      Option.bind (aci_Print 9223372036854775808 (⟨a3, y, a4, ([115, 101, 108, 102] : List UInt8), []⟩ : api_Rule)) fun (x55 : List UInt8) =>
      Option.bind (aci_Parse 9223372036854775808 x55) fun (x56 : api_Rule × Int) =>
      bif (x56.2 == (0 : Int)) then aci_Same 9223372036854775808 x56.1 (⟨a3, y, a4, ([115, 101, 108, 102] : List UInt8), []⟩ : api_Rule) else some false
def letT (a b : Nat) : Option Bool :=
  Option.bind (cutL ([114, 115, 99, 119, 97, 100] : List UInt8) (a : Int) (w64 ((a : Int) + (1 : Int)))) fun (x69 : List UInt8) =>
  Option.bind (cutL ([114, 115, 99, 119, 97, 100] : List UInt8) (b : Int) (w64 ((b : Int) + (1 : Int)))) fun (x74 : List UInt8) =>
  Option.bind (catS x69 x74) fun (x75 : List UInt8) =>
  Option.bind (aci_Is 9223372036854775808 (⟨false, x75, false, ([97, 110, 121] : List UInt8), []⟩ : api_Rule)) fun (x86 : Bool) => some (x86 == decide ((a : Int) < (b : Int)))
theorem letR_all0 : ((List.range 64).all fun n => letR false false (letS (UInt8.ofNat n)) == some true) = true := by decide +kernel
theorem letR_all1 : ((List.range 64).all fun n => letR false true (letS (UInt8.ofNat n)) == some true) = true := by decide +kernel
theorem letR_all2 : ((List.range 64).all fun n => letR true false (letS (UInt8.ofNat n)) == some true) = true := by decide +kernel
theorem letR_all3 : ((List.range 64).all fun n => letR true true (letS (UInt8.ofNat n)) == some true) = true := by decide +kernel
theorem letT_all : ((List.range 6).all fun a => (List.range 6).all fun b => letT a b == some true) = true := by decide +kernel
theorem letR_eq (a3 a4 : Bool) (a0 : UInt8) : letR a3 a4 (letS a0) = some true := by
  rw [let_mod]
  have hm : a0.toNat % 64 ∈ List.range 64 := List.mem_range.2 (Nat.mod_lt _ (by omega))
  cases a3 <;> cases a4
  · simpa using List.all_eq_true.1 letR_all0 _ hm
  · simpa using List.all_eq_true.1 letR_all1 _ hm
  · simpa using List.all_eq_true.1 letR_all2 _ hm
  · simpa using List.all_eq_true.1 letR_all3 _ hm
theorem letT_eq (a b : UInt8) : letT (a % 6).toNat (b % 6).toNat = some true := by
  have h6 : ∀ c : UInt8, (c % 6).toNat < 6 := by intro c; rw [UInt8.toNat_mod]; exact Nat.mod_lt _ (by decide)
  have := List.all_eq_true.1 (List.all_eq_true.1 letT_all _ (List.mem_range.2 (h6 a))) _ (List.mem_range.2 (h6 b))
  simpa using this
theorem law_prefectlaw18_RuleLetters (a0 a1 a2 : UInt8) (a3 a4 : Bool) (_ : True) (_ : True) (_ : True) (_ : True) (_ : True) : ∃ N, prefectlaw18_RuleLetters N a0 a1 a2 a3 a4 = some true := by
  refine ⟨9223372036854775808, ?_⟩
  unfold prefectlaw18_RuleLetters
  rw [rknown_big, Option.bind_some]
  simp only [Bool.not_true, cond_false]
  rw [let_cong, let_eq, Option.bind_some]
  have h1 := letR_eq a3 a4 a0
  have h2 := letT_eq a1 a2
  generalize letS a0 = y at *
  unfold letR at h1
  unfold letT at h2
  rw [Option.bind_eq_some_iff] at h1
  obtain ⟨x44, e1, h1⟩ := h1
  rw [e1, Option.bind_some]
  cases hc : !(x44 == (!(y == ([] : List UInt8)))) with
  | true => rw [hc] at h1; cases h1
  | false =>
    rw [hc, cond_false] at h1
    rw [cond_false]
    cases hy : (y == ([] : List UInt8)) with
    | true => rw [hy, cond_true] at h1; rw [cond_true]; exact h1
    | false =>
      rw [hy, cond_false] at h1
      rw [cond_false]
      rw [Option.bind_eq_some_iff] at h1
      obtain ⟨x55, e2, h1⟩ := h1
      rw [Option.bind_eq_some_iff] at h1
      obtain ⟨x56, e3, h1⟩ := h1
      rw [Option.bind_eq_some_iff] at h2
      obtain ⟨x69, e4, h2⟩ := h2
      rw [Option.bind_eq_some_iff] at h2
      obtain ⟨x74, e5, h2⟩ := h2
      rw [Option.bind_eq_some_iff] at h2
      obtain ⟨x75, e6, h2⟩ := h2
      rw [e2, Option.bind_some, e3, Option.bind_some, e4, Option.bind_some, e5, Option.bind_some, e6, Option.bind_some]
      cases h0 : (x56.2 == (0 : Int)) with
      | false => rw [h0] at h1; cases h1
      | true =>
        rw [h0, cond_true] at h1
        rw [cond_true, h1, Option.bind_some, cond_true, h2]
        rfl
end Go.Gp
end
