/- A part of the proof: functions of the program and what they compute. -/
import Derived.Test.YtbndinjjpafmjaaDoorA14
section
set_option linter.unusedVariables false
set_option linter.unusedSimpArgs false
namespace Go.Gp
open Go.Vd
theorem u64_nn (i : Nat) (h : i < 9223372036854775808) : nn (IntKind.u64.wrap (i : Int)) = some () := by
  rw [u64_wrap (by omega) (by omega)]
  unfold nn
  rw [if_pos (by omega)]
theorem low_back (c : UInt8) (h : 97 ≤ c.toNat) (h' : c.toNat ≤ 122) : lowB (c - 32) = lowB c := by
  have := u8_all (p := fun c => !(decide (97 ≤ c.toNat) && decide (c.toNat ≤ 122)) || decide (lowB (c - 32) = lowB c)) (by decide +kernel) c
  simpa [h, h'] using this
theorem up_loop (N : Nat) (a1 : Int) (a2 : List UInt8) (t : api_Type) : ∀ (b d : List UInt8) (n : Nat), (d ++ b).length ≤ 9223372036854775807 → b.length < n →
    ∃ y, prefectlaw5_SchemaAll_l57 N a1 a2 t n ((d.length : Int), d ++ b) = some y ∧ low y = low (d ++ b) ∧ y.length = (d ++ b).length := by
  intro b
  induction b with
  | nil =>
    intro d n hs hn
    obtain ⟨n, rfl, _⟩ := fuel hn
    simp only [prefectlaw5_SchemaAll_l57, prefectlaw5_SchemaAll_l57_b]
    rw [len_end, cond_false]; exact ⟨_, rfl, rfl, rfl⟩
  | cons c b ih =>
    intro d n hs hn
    obtain ⟨n, rfl, hn'⟩ := fuel hn
    simp only [prefectlaw5_SchemaAll_l57, prefectlaw5_SchemaAll_l57_b, prefectlaw5_SchemaAll_j64]
    have hdl : d.length < 9223372036854775808 := by simp at hs; omega
    rw [len_mid, cond_true, u64_nn _ hdl, chk_mid]
    simp only [Option.bind_some, get_mid, set_mid]
    have hnx : ∀ x, ∃ y, prefectlaw5_SchemaAll_l57 N a1 a2 t n (w64 ((d.length : Int) + 1), d ++ x :: b) = some y ∧ low y = low (d ++ x :: b) ∧ y.length = (d ++ x :: b).length := by
      intro x
      have hs' : (d ++ x :: b).length ≤ 9223372036854775807 := by simpa using hs
      rw [suc_mid hs', app_mid d b x]
      exact ih (d ++ [x]) n (by simpa using hs') hn'
    generalize ((iop .and .u16 (shrK .u16 a1 (IntKind.u64.wrap (d.length : Int))) (1 : Int)) == (1 : Int)) = g
    cases g with
    | false =>
      simp only [cond_false, Option.bind_some]
      exact hnx c
    | true =>
      simp only [cond_true]
      by_cases h1 : 97 ≤ c.toNat
      · by_cases h2 : c.toNat ≤ 122
        · rw [decide_eq_true (show ((c.toNat : Int) ≥ 97) by omega), cond_true, decide_eq_true (show ((c.toNat : Int) ≤ 122) by omega)]
          simp only [Option.bind_some, cond_true]
          obtain ⟨y, e1, e2, e3⟩ := hnx (c - 32)
          refine ⟨y, e1, e2.trans ?_, by simpa using e3⟩
          simp [low, low_back c h1 h2]
        · rw [decide_eq_true (show ((c.toNat : Int) ≥ 97) by omega), cond_true, decide_eq_false (show ¬ ((c.toNat : Int) ≤ 122) by omega)]
          simp only [Option.bind_some, cond_false]
          exact hnx c
      · rw [decide_eq_false (show ¬ ((c.toNat : Int) ≥ 97) by omega), cond_false]
        simp only [Option.bind_some, cond_false]
        exact hnx c
theorem all32 (a0 : UInt8) (a1 : Int) (a2 : List UInt8) : prefectlaw5_SchemaAll_l32 9223372036854775808 a0 a1 a2 allT allT 9223372036854775808 0 = some (.inl ()) := by
  have : ∀ (b a : List api_Type) (n : Nat), (a ++ b).length ≤ 9223372036854775807 → b.length < n → prefectlaw5_SchemaAll_l32 9223372036854775808 a0 a1 a2 (a ++ b) (a ++ b) n (a.length : Int) = some (.inl ()) := by
    intro b
    induction b with
    | nil =>
      intro a n hs hn
      obtain ⟨n, rfl, _⟩ := fuel hn
      simp only [prefectlaw5_SchemaAll_l32, prefectlaw5_SchemaAll_l32_b]
      rw [len_end, cond_false]
    | cons c b ih =>
      intro a n hs hn
      obtain ⟨n, rfl, hn'⟩ := fuel hn
      simp only [prefectlaw5_SchemaAll_l32, prefectlaw5_SchemaAll_l32_b]
      rw [len_mid, cond_true, idx_mid, Option.bind_some, Option.bind_some, suc_mid hs]
      have := ih (a ++ [c]) n (by simpa using hs) hn'
      rw [← app_mid] at this
      rw [this]
      simp
  have := this allT [] 9223372036854775808 (by rw [List.nil_append, allT_len]; omega) (by rw [allT_len]; omega)
  exact this
theorem find_own : (allT.all fun t => decide (allT.find? (fun u => u.Name == t.Name) = some t) && decide (low t.Name = t.Name) && decide (t.Name.length ≤ 20)) = true := by decide +kernel
theorem law_prefectlaw5_SchemaAll (a0 : UInt8) (a1 : Int) (a2 : List UInt8) (_ : True) (h1 : IntKind.u16.min ≤ a1 ∧ a1 ≤ IntKind.u16.max) (h2 : a2.length ≤ maxLen) : ∃ N, prefectlaw5_SchemaAll N a0 a1 a2 = some true := by
  refine ⟨9223372036854775808, ?_⟩
  unfold prefectlaw5_SchemaAll
  rw [sknown_big, Option.bind_some]
  simp only [Bool.not_true, cond_false]
  by_cases h100 : a2.length ≤ 100
  case neg => rw [decide_eq_true (by omega)]; rfl
  rw [decide_eq_false (by omega), cond_false, all_eq, rall_eq, Option.bind_some, Option.bind_some, allT_len, all32]
  simp only [Option.bind_some, bne, BEq.rfl, Bool.not_true, cond_false, Sum.elim_inl]
  have hz : nz ((15 : Nat) : Int) = some () := rfl
  have hm : Int.tmod ((a0.toNat : Nat) : Int) ((15 : Nat) : Int) = ((a0.toNat % 15 : Nat) : Int) := rfl
  have hlt : a0.toNat % 15 < allT.length := by rw [allT_len]; omega
  rw [hz, Option.bind_some, hm, idxL_nat, List.getElem?_eq_getElem hlt, Option.bind_some]
  have hmem : allT[a0.toNat % 15] ∈ allT := List.getElem_mem hlt
  generalize allT[a0.toNat % 15] = t at hmem ⊢
  have hown := List.all_eq_true.1 find_own t hmem
  simp only [Bool.and_eq_true, decide_eq_true_eq] at hown
  obtain ⟨⟨o1, o2⟩, o3⟩ := hown
  obtain ⟨y, e1, e2, e3⟩ := up_loop 9223372036854775808 a1 a2 t t.Name [] 9223372036854775808 (by simp; omega) (by omega)
  simp only [List.nil_append, List.length_nil] at e1 e2 e3
  rw [show ((0 : Int)) = ((0 : Nat) : Int) from rfl, e1, Option.bind_some]
  have hf : findS y = some t := by unfold findS; rw [e2, o2]; exact o1
  have hf' : findS t.Name = some t := by unfold findS; rw [o2]; exact o1
  rw [find_eq (by omega) (by omega) (by omega), hf, Option.bind_some, check_eq (by omega) (by omega) (by omega) (Nat.le_refl _), rcheck_eq (by omega) (by omega) (by omega) (Nat.le_refl _)]
  have hc : checkS y a2 = checkS t.Name a2 := by unfold checkS; rw [hf, hf']
  rw [hc]
  simp
end Go.Gp
end
