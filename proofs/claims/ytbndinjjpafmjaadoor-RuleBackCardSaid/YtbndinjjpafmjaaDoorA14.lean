/- A part of the proof: functions of the program and what they compute. -/
import Derived.Test.YtbndinjjpafmjaaDoorA13
import Derived.Test.YtbndinjjpafmjaaDoorA5
section
set_option linter.unusedVariables false
set_option linter.unusedSimpArgs false
namespace Go.Gp
open Go.Vd
theorem rgGo_gt : ∀ (s : List UInt8) (l : Int), rgGo l s = true → ∀ c ∈ s, l < rgV c
  | [], _, _, c, hc => by cases hc
  | x :: s, l, h, c, hc => by
    rw [rgGo, Bool.and_eq_true, decide_eq_true_eq] at h
    rcases List.mem_cons.1 hc with rfl | hc
    · exact h.1
    · have := rgGo_gt s (rgV x) h.2 c hc
      omega
theorem rights_nb {s : List UInt8} (h : isRightsS s = true) : s ≠ [] ∧ 32 ∉ s := by
  unfold isRightsS at h
  rw [Bool.and_eq_true, decide_eq_true_eq] at h
  refine ⟨h.1, fun hm => ?_⟩
  have := rgGo_gt s (-1) h.2 32 hm
  have e : rgV 32 = -1 := by decide
  omega
theorem names_ok : (allT.all fun t => !t.Name.contains 32 && (!t.Name.contains 44 && (!(t.Name == [42]) && !(t.Name == [])))) = true := by decide +kernel
theorem find_name {s : List UInt8} {t : api_Type} (h : findS s = some t) : t ∈ allT := by
  unfold findS at h
  exact List.mem_of_find?_eq_some h
theorem at_ok : ∀ (b a : List (List UInt8)), atGo a b = true → ∀ x ∈ b, 32 ∉ x ∧ 44 ∉ x ∧ x ≠ [42] ∧ x ≠ []
  | [], _, _, x, hx => by cases hx
  | y :: b, a, h, x, hx => by
    rw [atGo, Bool.and_eq_true, Bool.and_eq_true] at h
    rcases List.mem_cons.1 hx with rfl | hx
    · have h1 := h.1
      split at h1
      · rename_i t ht
        have hn : t.Name = x := by simpa using h1
        have := List.all_eq_true.1 names_ok t (find_name ht)
        rw [hn] at this
        simp only [Bool.and_eq_true, Bool.not_eq_true', List.contains_eq_mem, decide_eq_false_iff_not, beq_eq_false_iff_ne, ne_eq] at this
        exact this
      · cases h1
    · exact at_ok b _ h.2.2 x hx
theorem cat1_two (k : UInt8) (x y : List UInt8) (l : List (List UInt8)) : cat1 k (x :: y :: l) = x ++ k :: cat1 k (y :: l) := by simp [cat1]
theorem split_cat (k : UInt8) : ∀ (l : List (List UInt8)), l ≠ [] → (∀ x ∈ l, k ∉ x) → splitA k (cat1 k l) = l
  | [], h, _ => absurd rfl h
  | [x], _, h => by
    rw [show cat1 k [x] = x by simp [cat1], splitA_none (cutC_none (h x (by simp)))]
  | x :: y :: l, _, h => by
    rw [cat1_two, splitA_cut (cutC_at (h x (by simp))), split_cat k (y :: l) (by simp) fun z hz => h z (List.mem_cons_of_mem _ hz)]
theorem cat1_nb (j k : UInt8) (hjk : j ≠ k) : ∀ (l : List (List UInt8)), (∀ x ∈ l, j ∉ x) → j ∉ cat1 k l
  | [], _ => by simp [cat1]
  | [x], h => by rw [show cat1 k [x] = x by simp [cat1]]; exact h x (by simp)
  | x :: y :: l, h => by
    rw [cat1_two]
    simp only [List.mem_append, List.mem_cons, not_or]
    exact ⟨h x (by simp), hjk, cat1_nb j k hjk (y :: l) fun z hz => h z (List.mem_cons_of_mem _ hz)⟩
theorem cat1_star {l : List (List UInt8)} (h : ∀ x ∈ l, x ≠ [42]) : cat1 44 l ≠ [42] := by
  match l, h with
  | [], _ => simp [cat1]
  | [x], h => rw [show cat1 44 [x] = x by simp [cat1]]; exact h x (by simp)
  | x :: y :: l, h =>
    rw [cat1_two]
    intro e
    have : (44 : UInt8) ∈ ([42] : List UInt8) := by rw [← e]; simp
    simp at this
def verbT (b : Bool) : List UInt8 := if b then [100, 101, 110, 121] else [103, 114, 97, 110, 116]
def reachT (b : Bool) : List UInt8 := if b then [115, 117, 98] else [98, 97, 115, 101]
def attsT (l : List (List UInt8)) : List UInt8 := if l = [] then [42] else cat1 44 l
theorem ruleT_w (r : api_Rule) : ruleT r = verbT r.Deny ++ 32 :: (r.Rights ++ 32 :: (reachT r.Sub ++ 32 :: (attsT r.Attrs ++ 32 :: r.Who))) := by
  unfold ruleT verbT reachT attsT
  simp [cat1]
theorem verb_nb (b : Bool) : (32 : UInt8) ∉ verbT b := by cases b <;> decide
theorem reach_nb (b : Bool) : (32 : UInt8) ∉ reachT b := by cases b <;> decide
theorem ruleS_parts {r : api_Rule} (h : ruleS r = true) : atGo [] r.Attrs = true ∧ isRightsS r.Rights = true ∧ whoS r.Who = true := by
  unfold ruleS at h
  rw [Bool.and_eq_true, Bool.and_eq_true] at h
  exact h
theorem rdR_back {r : api_Rule} (h : ruleS r = true) : rdR (ruleT r) = some r := by
  obtain ⟨h1, h2, h3⟩ := ruleS_parts h
  have hr := (rights_nb h2).2
  have ha := at_ok _ _ h1
  have hat : (32 : UInt8) ∉ attsT r.Attrs := by
    unfold attsT
    split
    · decide
    · exact cat1_nb 32 44 (by decide) _ fun x hx => (ha x hx).1
  have hm : mkR (verbT r.Deny) r.Rights (reachT r.Sub) (attsT r.Attrs) r.Who = r := by
    have e1 : (verbT r.Deny == [100, 101, 110, 121]) = r.Deny := by cases r.Deny <;> rfl
    have e2 : (reachT r.Sub == [115, 117, 98]) = r.Sub := by cases r.Sub <;> rfl
    have e3 : (if attsT r.Attrs = [42] then [] else splitA 44 (attsT r.Attrs)) = r.Attrs := by
      unfold attsT
      by_cases hn : r.Attrs = []
      · rw [if_pos hn, if_pos rfl, hn]
      · rw [if_neg hn, if_neg (cat1_star fun x hx => (ha x hx).2.2.1), split_cat 44 _ hn fun x hx => (ha x hx).2.1]
    unfold mkR
    rw [e1, e2, e3]
  unfold rdR
  rw [ruleT_w, cutC_at (verb_nb _), Option.bind_some, cutC_at hr, Option.bind_some, cutC_at (reach_nb _), Option.bind_some, cutC_at hat, Option.bind_some]
  simp only
  rw [hm, h, ruleT_w, BEq.rfl]
  rfl
theorem rdR_inv {s : List UInt8} {r : api_Rule} (h : rdR s = some r) : ruleS r = true ∧ ruleT r = s := by
  unfold rdR at h
  rw [Option.bind_eq_some_iff] at h
  obtain ⟨w0, h0, h⟩ := h
  rw [Option.bind_eq_some_iff] at h
  obtain ⟨w1, h1, h⟩ := h
  rw [Option.bind_eq_some_iff] at h
  obtain ⟨w2, h2, h⟩ := h
  rw [Option.bind_eq_some_iff] at h
  obtain ⟨w3, h3, h⟩ := h
  split at h
  · rename_i hc
    cases h
    rw [Bool.and_eq_true] at hc
    exact ⟨hc.1, by simpa using hc.2⟩
  · cases h
theorem rdR_words {s : List UInt8} {r : api_Rule} (h : rdR s = some r) : ∃ t u, cutC 32 s = some (verbT r.Deny, t) ∧ cutC 32 t = some (r.Rights, u) ∧ isRightsS r.Rights = true := by
  obtain ⟨h1, h2⟩ := rdR_inv h
  obtain ⟨_, h3, _⟩ := ruleS_parts h1
  rw [← h2, ruleT_w]
  exact ⟨_, _, cutC_at (verb_nb _), cutC_at (rights_nb h3).2, h3⟩
theorem rdR_none {s a v : List UInt8} (h : cutC 32 s = some (a, v)) (h1 : a ≠ [100, 101, 110, 121]) (h2 : a ≠ [103, 114, 97, 110, 116]) : rdR s = none := by
  cases hr : rdR s with
  | none => rfl
  | some r =>
    obtain ⟨t, u, e, _⟩ := rdR_words hr
    rw [h] at e
    cases e
    cases hd : r.Deny <;> rw [hd] at h1 h2
    · exact absurd rfl h2
    · exact absurd rfl h1
theorem rdR_none2 {s a v w : List UInt8} (h : cutC 32 s = some (a, v)) (h2 : cutC 32 v = some ([], w)) : rdR s = none := by
  cases hr : rdR s with
  | none => rfl
  | some r =>
    obtain ⟨t, u, e, e2, e3⟩ := rdR_words hr
    rw [h] at e
    cases e
    rw [h2] at e2
    have : r.Rights = [] := by injection e2 with e4; injection e4 with e5 e6; exact e5.symm
    rw [this] at e3
    cases e3
theorem spoilt_blank {r : api_Rule} (h : ruleS r = true) (k : Nat) (hk : k < 6) : rdR ((ruleT r).take k ++ 32 :: (ruleT r).drop k) = none := by
  obtain ⟨h1, h2, h3⟩ := ruleS_parts h
  rw [ruleT_w]
  generalize (r.Rights ++ 32 :: (reachT r.Sub ++ 32 :: (attsT r.Attrs ++ 32 :: r.Who))) = q
  have h6 : k = 0 ∨ k = 1 ∨ k = 2 ∨ k = 3 ∨ k = 4 ∨ k = 5 := by omega
  cases r.Deny
  · rcases h6 with rfl | rfl | rfl | rfl | rfl | rfl
    · exact rdR_none (a := []) (v := _) rfl (by decide) (by decide)
    · exact rdR_none (a := [103]) (v := _) rfl (by decide) (by decide)
    · exact rdR_none (a := [103, 114]) (v := _) rfl (by decide) (by decide)
    · exact rdR_none (a := [103, 114, 97]) (v := _) rfl (by decide) (by decide)
    · exact rdR_none (a := [103, 114, 97, 110]) (v := _) rfl (by decide) (by decide)
    · exact rdR_none2 (a := [103, 114, 97, 110, 116]) (v := 32 :: q) rfl rfl
  · rcases h6 with rfl | rfl | rfl | rfl | rfl | rfl
    · exact rdR_none (a := []) (v := _) rfl (by decide) (by decide)
    · exact rdR_none (a := [100]) (v := _) rfl (by decide) (by decide)
    · exact rdR_none (a := [100, 101]) (v := _) rfl (by decide) (by decide)
    · exact rdR_none (a := [100, 101, 110]) (v := _) rfl (by decide) (by decide)
    · exact rdR_none2 (a := [100, 101, 110, 121]) (v := 32 :: q) rfl rfl
    · exact rdR_none2 (a := [100, 101, 110, 121]) (v := 32 :: q) rfl rfl
theorem spoilt_word {r : api_Rule} (h : ruleS r = true) : rdR ((ruleT r).drop 5) = none := by
  obtain ⟨h1, h2, h3⟩ := ruleS_parts h
  rw [ruleT_w]
  cases r.Deny
  · exact rdR_none (a := []) (v := _) rfl (by decide) (by decide)
  · show rdR (r.Rights ++ 32 :: _) = none
    have hr := (rights_nb h2).2
    refine rdR_none (cutC_at hr) (fun e => ?_) (fun e => ?_)
    · rw [e] at h2; revert h2; decide
    · rw [e] at h2; revert h2; decide
theorem ruleT_12 {r : api_Rule} (h : ruleS r = true) : 12 ≤ (ruleT r).length := by
  obtain ⟨h1, h2, h3⟩ := ruleS_parts h
  rw [ruleT_w]
  have a1 : 4 ≤ (verbT r.Deny).length := by cases r.Deny <;> decide
  have a2 : 0 < r.Rights.length := List.length_pos_iff.2 (rights_nb h2).1
  have a3 : 3 ≤ (reachT r.Sub).length := by cases r.Sub <;> decide
  have a4 : r.Who ≠ [] := by intro e; rw [e] at h3; revert h3; decide
  have a5 : 0 < r.Who.length := List.length_pos_iff.2 a4
  have a6 : 0 < (attsT r.Attrs).length := by
    unfold attsT
    split
    · decide
    · rename_i hn
      cases hl : r.Attrs with
      | nil => exact absurd hl hn
      | cons x l =>
        have := (at_ok _ _ h1 x (by rw [hl]; simp)).2.2.2
        have := List.length_pos_iff.2 this
        simp [cat1]; omega
  simp
  omega
theorem few_len {r : api_Rule} (h : fewS r = true) : (ruleT r).length ≤ 899 := by
  unfold fewS at h
  simp only [Bool.and_eq_true, List.all_eq_true, decide_eq_true_eq] at h
  obtain ⟨h1, h2, h3, h4⟩ := h
  have hc := cat1_len 44 30 r.Attrs h1
  rw [ruleT_w]
  have a1 : (verbT r.Deny).length ≤ 5 := by cases r.Deny <;> decide
  have a3 : (reachT r.Sub).length ≤ 4 := by cases r.Sub <;> decide
  have a6 : (attsT r.Attrs).length ≤ 651 := by
    unfold attsT
    split
    · decide
    · omega
  simp
  omega
end Go.Gp
end
section
set_option linter.unusedVariables false
set_option linter.unusedSimpArgs false
namespace Go.Gp
open Go.Vd
theorem tknown_big : prefectlaw18_known 9223372036854775808 = some true := by decide +kernel
theorem mod6 (c : UInt8) : ∃ k : Nat, k < 6 ∧ Int.tmod ((c).toNat : Int) (6 : Int) = (k : Int) := by
  refine ⟨c.toNat % 6, Nat.mod_lt _ (by omega), ?_⟩
  rw [Int.tmod_eq_emod_of_nonneg (by omega)]; omega
theorem law_prefectlaw18_RuleBack (a0 : api_Rule) (a1 : UInt8) (h0 : b_api_Rule a0) (h1 : True) : ∃ N, prefectlaw18_RuleBack N a0 a1 = some true := by
  refine ⟨9223372036854775808, ?_⟩
  have m0 : a0.Attrs.length ≤ 9223372036854775807 := by
    have := h0; unfold b_api_Rule maxLen at this; omega
  unfold prefectlaw18_RuleBack
  rw [tknown_big, Option.bind_some, Bool.not_true, cond_false, few_eq m0 (by omega), Option.bind_some]
  cases f0 : fewS a0 with
  | false => rfl
  | true =>
    have k0 := few_ok f0
    have hN : 2000000 < 9223372036854775808 := by omega
    rw [Bool.not_true, cond_false, aciIs_eq k0 hN (Nat.le_refl _), Option.bind_some, Option.bind_some]
    cases hr : ruleS a0 with
    | false => rfl
    | true =>
      obtain ⟨k, hk, hk6⟩ := mod6 a1
      have hl := few_len f0
      have h12 := ruleT_12 hr
      rw [Bool.not_true, cond_false, aciPrint_eq k0 hN (Nat.le_refl _), Option.bind_some, hr, if_pos rfl, pparse_eq (by omega) hN (Nat.le_refl _), Option.bind_some, rdR_back hr]
      simp only
      have hl1 : a0.Attrs.length ≤ 1000000 ∧ a0.Attrs.length < 9223372036854775808 := by have := k0.1; omega
      rw [show ((0 : Int) != (0 : Int)) = false from rfl, cond_false, rsame_eq hl1.1 hl1.2, Option.bind_some, show sameR a0 a0 = true by unfold sameR; simp, Bool.not_true, cond_false, decide_eq_false (by omega), Option.bind_some, cond_false, hk6,
        takeL_nat (by omega), Option.bind_some, catS_ok (by simp; omega), Option.bind_some, dropL_nat (by omega), Option.bind_some, catS_ok (by simp; omega), Option.bind_some]
      have e : List.take k (ruleT a0) ++ [32] ++ List.drop k (ruleT a0) = List.take k (ruleT a0) ++ 32 :: List.drop k (ruleT a0) := by simp
      rw [e, pparse_eq (by simp; omega) hN (Nat.le_refl _), Option.bind_some, spoilt_blank hr k hk, show (5 : Int) = ((5 : Nat) : Int) from rfl, dropL_nat (by omega), Option.bind_some, pparse_eq (by simp; omega) hN (Nat.le_refl _), Option.bind_some, spoilt_word hr,
        pparse_eq (by simp) hN (Nat.le_refl _)]
      rfl
end Go.Gp
end
