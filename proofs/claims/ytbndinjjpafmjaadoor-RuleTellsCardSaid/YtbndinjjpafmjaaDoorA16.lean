/- A part of the proof: functions of the program and what they compute. -/
import Derived.Test.YtbndinjjpafmjaaDoorA15
import Derived.Test.YtbndinjjpafmjaaDoorA5
section
set_option linter.unusedVariables false
set_option linter.unusedSimpArgs false
namespace Go.Gp
open Go.Vd
def cat1 (sep : UInt8) : List (List UInt8) → List UInt8
  | [] => []
  | x :: xs => x ++ xs.flatMap (sep :: ·)
theorem join_cat1 (sep : UInt8) : ∀ l : List (List UInt8), Lib.join l [sep] = cat1 sep l
  | [] => rfl
  | [x] => by simp [Lib.join, cat1, List.intercalate]
  | x :: y :: xs => by
    have ih := join_cat1 sep (y :: xs)
    simp only [Lib.join, List.intercalate, List.intersperse_cons_cons, List.flatten_cons] at ih ⊢
    rw [ih]
    simp [cat1]
def avaT (a : api_AVA) : List UInt8 := a.Attr ++ 61 :: escS true a.Value
def rdnT (r : List api_AVA) : List UInt8 := cat1 43 (r.map avaT)
def dnT (d : List (List api_AVA)) : List UInt8 := cat1 44 (d.map rdnT)
def smA (a : api_AVA) : Prop := a.Attr.length ≤ 1000 ∧ a.Value.length ≤ 1000
def smR (r : List api_AVA) : Prop := r.length ≤ 1000 ∧ ∀ a ∈ r, smA a
theorem flat_len {α : Type} (f : α → List UInt8) (k : Nat) : ∀ l : List α, (∀ x ∈ l, (f x).length ≤ k) → (l.flatMap f).length ≤ l.length * k
  | [], _ => by simp
  | x :: l, h => by
    have := flat_len f k l fun y hy => h y (List.mem_cons_of_mem _ hy)
    have h1 := h x List.mem_cons_self
    rw [List.flatMap_cons, List.length_append, List.length_cons, Nat.add_mul]; omega
theorem cat1_len (sep : UInt8) (k : Nat) (l : List (List UInt8)) (h : ∀ x ∈ l, x.length ≤ k) : (cat1 sep l).length ≤ l.length * (k + 1) := by
  cases l with
  | nil => simp [cat1]
  | cons x l =>
    have h1 := h x List.mem_cons_self
    have h2 := flat_len (sep :: ·) (k + 1) l (fun y hy => by have := h y (List.mem_cons_of_mem _ hy); simp; omega)
    rw [cat1, List.length_append, List.length_cons, Nat.add_mul]; omega
theorem avaT_len {a : api_AVA} (h : smA a) : (avaT a).length ≤ 4001 := by
  have := escS_len a.Value true
  have h1 := h.1
  have h2 := h.2
  unfold avaT
  rw [List.length_append, List.length_cons]; omega
theorem rdnT_len {r : List api_AVA} (h : smR r) : (rdnT r).length ≤ 4002000 := by
  have := cat1_len 43 4001 (r.map avaT) (fun x hx => by obtain ⟨a, ha, rfl⟩ := List.mem_map.1 hx; exact avaT_len (h.2 a ha))
  have h1 := h.1
  unfold rdnT
  rw [List.length_map] at this
  omega
theorem sjoin_eq (N : Nat) (l : List (List UInt8)) (sep : UInt8) (h1 : l.length ≤ 1000000) (h2 : (cat1 sep l).length ≤ 140737488355328) : strings_Join N l [sep] = some (cat1 sep l) := by
  unfold strings_Join
  rw [join_cat1, if_pos ⟨by omega, h2⟩]
theorem join_loop (N : Nat) (hN : 1000 < N) : ∀ (b a : List api_AVA) (out : List (List UInt8)) (n : Nat), (a ++ b).length ≤ 1000 → b.length < n → out.length = a.length → (∀ x ∈ b, smA x) →
    dn_Join_l8 N (a ++ b) n ((a.length : Int), out) = some (out ++ b.map avaT) := by
  intro b
  induction b with
  | nil =>
    intro a out n hs hn ho _
    obtain ⟨n, rfl, _⟩ := fuel hn
    simp only [dn_Join_l8, dn_Join_l8_b]
    rw [len_end, cond_false]; simp
  | cons x b ih =>
    intro a out n hs hn ho hp
    obtain ⟨n, rfl, hn'⟩ := fuel hn
    have hal : (a ++ x :: b).length = a.length + b.length + 1 := by simp; omega
    have hx := hp x List.mem_cons_self
    have hx1 := hx.1
    have hx2 := hx.2
    have hel := escS_len x.Value true
    simp only [dn_Join_l8, dn_Join_l8_b]
    rw [len_mid, cond_true, idx_mid, Option.bind_some, catS_ok (by simp; omega), Option.bind_some, escape_eq (by omega) (by omega), Option.bind_some, catS_ok (by simp; omega), Option.bind_some, appL_ok (by simp; omega), Option.bind_some, suc_mid (a := a) (b := b) (x := x) (by omega)]
    have := ih (a ++ [x]) (out ++ [x.Attr ++ [61] ++ escS true x.Value]) n (by simpa using hs) hn' (by simp [ho]) (fun q hq => hp q (List.mem_cons_of_mem _ hq))
    rw [← app_mid] at this
    rw [this]
    simp [avaT]
theorem pjoin_eq {N : Nat} {r : List api_AVA} (hN : 1000 < N) (h : smR r) : dn_Join N r = some (rdnT r) := by
  unfold dn_Join
  have := join_loop N hN r [] [] N (by simpa using h.1) (by have := h.1; omega) rfl h.2
  simp only [List.nil_append, List.length_nil] at this
  have hl := rdnT_len h
  have h1 := h.1
  rw [show ((0 : Int)) = ((0 : Nat) : Int) from rfl, this, Option.bind_some, sjoin_eq N _ 43 (by simp; omega) (by unfold rdnT at hl; omega)]
  rfl
theorem print_loop (N : Nat) (hN : 1000 < N) : ∀ (b a : List (List api_AVA)) (out : List (List UInt8)) (n : Nat), (a ++ b).length ≤ 1000 → b.length < n → out.length = a.length → (∀ x ∈ b, smR x) →
    dn_Print_l16 N (a ++ b) n ((a.length : Int), out) = some (out ++ b.map rdnT) := by
  intro b
  induction b with
  | nil =>
    intro a out n hs hn ho _
    obtain ⟨n, rfl, _⟩ := fuel hn
    simp only [dn_Print_l16, dn_Print_l16_b]
    rw [len_end, cond_false]; simp
  | cons x b ih =>
    intro a out n hs hn ho hp
    obtain ⟨n, rfl, hn'⟩ := fuel hn
    have hal : (a ++ x :: b).length = a.length + b.length + 1 := by simp; omega
    have hx := hp x List.mem_cons_self
    simp only [dn_Print_l16, dn_Print_l16_b]
    rw [len_mid, cond_true, idx_mid, Option.bind_some, pjoin_eq hN hx, Option.bind_some, appL_ok (by simp; omega), Option.bind_some, suc_mid (a := a) (b := b) (x := x) (by omega)]
    have := ih (a ++ [x]) (out ++ [rdnT x]) n (by simpa using hs) hn' (by simp [ho]) (fun q hq => hp q (List.mem_cons_of_mem _ hq))
    rw [← app_mid] at this
    rw [this]
    simp
theorem smR_ok {N : Nat} {r : List api_AVA} (hN : 2000000 < N) (h : smR r) : r.length < N ∧ ∀ x ∈ r, okA N x :=
  ⟨by have := h.1; omega, fun x hx => ⟨by have := (h.2 x hx).1; omega, by have := (h.2 x hx).2; omega⟩⟩
theorem dnT_len {d : List (List api_AVA)} (hl : d.length ≤ 1000) (h : ∀ r ∈ d, smR r) : (dnT d).length ≤ 4002001000 := by
  have := cat1_len 44 4002000 (d.map rdnT) (fun x hx => by obtain ⟨a, ha, rfl⟩ := List.mem_map.1 hx; exact rdnT_len (h a ha))
  unfold dnT
  rw [List.length_map] at this
  omega
theorem print_eq {N : Nat} {d : List (List api_AVA)} (hN : 2000000 < N) (hN2 : N ≤ 9223372036854775808) (hl : d.length ≤ 1000) (h : ∀ r ∈ d, smR r) : dn_Print N d = some (if isS d then dnT d else []) := by
  unfold dn_Print
  rw [is_eq hN2 (by omega) (by omega) (fun r hr => smR_ok hN (h r hr)), Option.bind_some]
  have := print_loop N (by omega) d [] [] N (by simpa using hl) (by omega) rfl h
  simp only [List.nil_append, List.length_nil] at this
  have hdl := dnT_len hl h
  rw [show ((0 : Int)) = ((0 : Nat) : Int) from rfl, this, Option.bind_some, sjoin_eq N _ 44 (by simp; omega) (by unfold dnT at hdl; omega), Option.bind_some]
  cases isS d <;> rfl
theorem at0' {α : Type} (a : List α) : decide ((a.length : Int) > (0 : Int)) = !decide (a = []) := by
  rw [Bool.eq_iff_iff]; cases a <;> simp
theorem rjoin_loop (N : Nat) (hN : 1000 < N) : ∀ (b a : List api_AVA) (out : List UInt8) (n : Nat), (a ++ b).length ≤ 1000 → b.length < n → out.length ≤ a.length * 5000 → (∀ x ∈ b, smA x) →
    prefectref4_PrintRDN_l8 N (a ++ b) n (out, (a.length : Int)) = some (out ++ if a = [] then cat1 43 (b.map avaT) else (b.map avaT).flatMap (43 :: ·)) := by
  intro b
  induction b with
  | nil =>
    intro a out n hs hn ho _
    obtain ⟨n, rfl, _⟩ := fuel hn
    simp only [prefectref4_PrintRDN_l8, prefectref4_PrintRDN_l8_b]
    rw [len_end, cond_false]; simp [cat1]
  | cons x b ih =>
    intro a out n hs hn ho hp
    obtain ⟨n, rfl, hn'⟩ := fuel hn
    have hal : (a ++ x :: b).length = a.length + b.length + 1 := by simp; omega
    have hx := hp x List.mem_cons_self
    have hx1 := hx.1
    have hx2 := hx.2
    have hel := escS_len x.Value true
    have hol : out.length ≤ 5000000 := by have := Nat.mul_le_mul_right 5000 (show a.length ≤ 1000 by omega); omega
    have hrest : ∀ o : List UInt8, o.length ≤ a.length * 5000 + 1 → prefectref4_PrintRDN_j17 (a ++ x :: b) N (a.length : Int) (prefectref4_PrintRDN_l8 N (a ++ x :: b) n) o = some (o ++ avaT x ++ (b.map avaT).flatMap (43 :: ·)) := by
      intro o ho'
      unfold prefectref4_PrintRDN_j17
      rw [idx_mid, Option.bind_some, catS_ok (by omega), Option.bind_some, catS_ok (by simp; omega), Option.bind_some, Option.bind_some, value_eq (by omega) (by omega), Option.bind_some, catS_ok (by simp; omega), Option.bind_some, suc_mid (a := a) (b := b) (x := x) (by omega)]
      have := ih (a ++ [x]) (o ++ x.Attr ++ [61] ++ escS true x.Value) n (by simpa using hs) hn' (by simp; omega) (fun q hq => hp q (List.mem_cons_of_mem _ hq))
      rw [← app_mid, if_neg (by simp)] at this
      rw [this]
      simp [avaT]
    simp only [prefectref4_PrintRDN_l8, prefectref4_PrintRDN_l8_b]
    rw [len_mid, cond_true, at0']
    by_cases ha : a = []
    · subst ha
      rw [decide_eq_true rfl, Bool.not_true, cond_false, hrest _ (by omega), if_pos rfl]
      simp [cat1]
    · rw [decide_eq_false ha, Bool.not_false, cond_true, catS_ok (by simp; omega), Option.bind_some, hrest _ (by simp; omega), if_neg ha]
      simp
theorem rprintRDN_eq {N : Nat} {r : List api_AVA} (hN : 1000 < N) (h : smR r) : prefectref4_PrintRDN N r = some (rdnT r) := by
  unfold prefectref4_PrintRDN
  have := rjoin_loop N hN r [] [] N (by simpa using h.1) (by have := h.1; omega) (by simp) h.2
  simp only [List.nil_append, List.length_nil, if_true] at this
  rw [show ((0 : Int)) = ((0 : Nat) : Int) from rfl, this]
  rfl
theorem rprint_loop (N : Nat) (hN : 1000 < N) : ∀ (b a : List (List api_AVA)) (out : List UInt8) (n : Nat), (a ++ b).length ≤ 1000 → b.length < n → out.length ≤ a.length * 5000000 → (∀ x ∈ b, smR x) →
    prefectref4_Print_l8 N (a ++ b) n (out, (a.length : Int)) = some (out ++ if a = [] then cat1 44 (b.map rdnT) else (b.map rdnT).flatMap (44 :: ·)) := by
  intro b
  induction b with
  | nil =>
    intro a out n hs hn ho _
    obtain ⟨n, rfl, _⟩ := fuel hn
    simp only [prefectref4_Print_l8, prefectref4_Print_l8_b]
    rw [len_end, cond_false]; simp [cat1]
  | cons x b ih =>
    intro a out n hs hn ho hp
    obtain ⟨n, rfl, hn'⟩ := fuel hn
    have hal : (a ++ x :: b).length = a.length + b.length + 1 := by simp; omega
    have hx := hp x List.mem_cons_self
    have hrl := rdnT_len hx
    have hol : out.length ≤ 5000000000 := by have := Nat.mul_le_mul_right 5000000 (show a.length ≤ 1000 by omega); omega
    have hrest : ∀ o : List UInt8, o.length ≤ a.length * 5000000 + 1 → prefectref4_Print_j17 (a ++ x :: b) N (a.length : Int) (prefectref4_Print_l8 N (a ++ x :: b) n) o = some (o ++ rdnT x ++ (b.map rdnT).flatMap (44 :: ·)) := by
      intro o ho'
      unfold prefectref4_Print_j17
      rw [idx_mid, Option.bind_some, rprintRDN_eq hN hx, Option.bind_some, catS_ok (by omega), Option.bind_some, suc_mid (a := a) (b := b) (x := x) (by omega)]
      have := ih (a ++ [x]) (o ++ rdnT x) n (by simpa using hs) hn' (by simp; omega) (fun q hq => hp q (List.mem_cons_of_mem _ hq))
      rw [← app_mid, if_neg (by simp)] at this
      rw [this]
    simp only [prefectref4_Print_l8, prefectref4_Print_l8_b]
    rw [len_mid, cond_true, at0']
    by_cases ha : a = []
    · subst ha
      rw [decide_eq_true rfl, Bool.not_true, cond_false, hrest _ (by omega), if_pos rfl]
      simp [cat1]
    · rw [decide_eq_false ha, Bool.not_false, cond_true, catS_ok (by simp; omega), Option.bind_some, hrest _ (by simp; omega), if_neg ha]
      simp
theorem rprint_eq {N : Nat} {d : List (List api_AVA)} (hN : 1000 < N) (hl : d.length ≤ 1000) (h : ∀ r ∈ d, smR r) : prefectref4_Print N d = some (dnT d) := by
  unfold prefectref4_Print
  have := rprint_loop N hN d [] [] N (by simpa using hl) (by omega) (by simp) h
  simp only [List.nil_append, List.length_nil, if_true] at this
  rw [show ((0 : Int)) = ((0 : Nat) : Int) from rfl, this]
  rfl
end Go.Gp
end
section
set_option linter.unusedVariables false
set_option linter.unusedSimpArgs false
namespace Go.Gp
open Go.Vd
end Go.Gp
end
section
set_option linter.unusedVariables false
set_option linter.unusedSimpArgs false
namespace Go.Gp
open Go.Vd
def rgT : List UInt8 := [114, 115, 99, 119, 97, 100]
def rgV (c : UInt8) : Int := Lib.indexByte rgT c
def rgGo : Int → List UInt8 → Bool
  | _, [] => true
  | l, c :: s => decide (l < rgV c) && rgGo (rgV c) s
def isRightsS (s : List UInt8) : Bool := decide (s ≠ []) && rgGo (-1) s
theorem rgV_range (c : UInt8) : -1 ≤ rgV c ∧ rgV c < 6 := by
  have := u8_all (p := fun c => decide (-1 ≤ rgV c ∧ rgV c < 6)) (by decide +kernel) c
  simpa using this
theorem rights_loop (N : Nat) : ∀ (b a : List UInt8) (l : Int) (n : Nat), (a ++ b).length ≤ 9223372036854775807 → b.length < n → -1 ≤ l →
    ∃ m : Int, aci_isRights_l8 N (a ++ b) n (l, (a.length : Int)) = some (bif rgGo l b then .inl m else .inr false) ∧ (rgGo l b = true → (m ≥ 0 ↔ (b ≠ [] ∨ l ≥ 0))) := by
  intro b
  induction b with
  | nil =>
    intro a l n hs hn hl
    obtain ⟨n, rfl, _⟩ := fuel hn
    simp only [aci_isRights_l8, aci_isRights_l8_b]
    rw [len_end, cond_false]
    exact ⟨l, rfl, fun _ => by simp⟩
  | cons c b ih =>
    intro a l n hs hn hl
    obtain ⟨n, rfl, hn'⟩ := fuel hn
    simp only [aci_isRights_l8, aci_isRights_l8_b]
    rw [len_mid, cond_true, idx_mid, Option.bind_some, suc_mid (a := a) (b := b) (x := c) hs]
    unfold strings_IndexByte
    rw [Option.bind_some, show Lib.indexByte ([114, 115, 99, 119, 97, 100] : List UInt8) c = rgV c from rfl]
    have hr := rgV_range c
    by_cases h : l < rgV c
    · rw [decide_eq_false (show ¬ (rgV c ≤ l) by omega), cond_false, rgGo, decide_eq_true h, Bool.true_and]
      obtain ⟨m, h1, h2⟩ := ih (a ++ [c]) (rgV c) n (by simpa using hs) hn' hr.1
      rw [← app_mid] at h1
      refine ⟨m, h1, fun hg => ?_⟩
      rw [h2 hg]
      constructor
      · intro _; exact .inl (by simp)
      · intro _; exact .inr (by omega)
    · rw [decide_eq_true (show rgV c ≤ l by omega), cond_true, rgGo, decide_eq_false h]
      exact ⟨0, rfl, fun hg => by simp at hg⟩
theorem isRights_eq {N : Nat} {s : List UInt8} (hs : s.length ≤ 9223372036854775807) (hN : s.length < N) : aci_isRights N s = some (isRightsS s) := by
  unfold aci_isRights isRightsS
  obtain ⟨m, h1, h2⟩ := rights_loop N s [] (-1) N hs hN (by omega)
  simp only [List.nil_append, List.length_nil] at h1
  rw [show ((0 : Int)) = ((0 : Nat) : Int) from rfl, h1]
  cases hg : rgGo (-1) s with
  | false => simp
  | true =>
    have := h2 hg
    simp only [cond_true, Option.bind_some, Sum.elim_inl, Bool.and_true]
    congr 1
    rw [Bool.eq_iff_iff, decide_eq_true_eq, decide_eq_true_eq]
    constructor
    · intro h; rcases this.1 h with h | h; exact h; omega
    · intro h; exact this.2 (.inl h)
theorem rg_inner (N : Nat) (r : api_Rule) (i : Nat) (c : UInt8) (hi : r.Rights[i]? = some c) : ∀ (k at' n : Nat), at' + k = 6 → k < n →
    prefectref17_IsRule_l19 N r (i : Int) n (at' : Int) = some (if (at' : Int) ≤ rgV c then rgV c else 6) := by
  have hr := rgV_range c
  have htab : ∀ (j : Fin 6) , ∃ d, rgT[(j : Nat)]? = some d ∧ (rgV d = ((j : Nat) : Int)) := by
    intro j
    have hall : ∀ j : Fin 6, rgV (rgT.getD (j : Nat) 0) = ((j : Nat) : Int) := by decide +kernel
    exact ⟨rgT.getD (j : Nat) 0, by
      have : (j : Nat) < rgT.length := j.2
      rw [List.getD_eq_getElem?_getD, List.getElem?_eq_getElem this]; rfl, hall j⟩
  have hinj : ∀ d : UInt8, 0 ≤ rgV d → d = rgT.getD (rgV d).toNat 0 := by
    intro d hd
    have := u8_all (p := fun d => !decide (0 ≤ rgV d) || decide (d = rgT.getD (rgV d).toNat 0)) (by decide +kernel) d
    simpa [hd] using this
  intro k
  induction k with
  | zero =>
    intro at' n ha hn
    obtain ⟨n, rfl, _⟩ := fuel hn
    simp only [prefectref17_IsRule_l19, prefectref17_IsRule_l19_b]
    rw [decide_eq_false (by omega), if_neg (by omega)]
    simp; omega
  | succ k ih =>
    intro at' n ha hn
    obtain ⟨n, rfl, hn'⟩ := fuel hn
    simp only [prefectref17_IsRule_l19, prefectref17_IsRule_l19_b]
    obtain ⟨d, hd, hv⟩ := htab ⟨at', by omega⟩
    rw [decide_eq_true (by omega), cond_true, show ([114, 115, 99, 119, 97, 100] : List UInt8) = rgT from rfl, idxL_lt hd, Option.bind_some, idxL_lt hi, Option.bind_some, Option.bind_some, w64_succ (by omega), ih (at' + 1) n (by omega) (by omega), bne, u8c_eq]
    by_cases hdc : d = c
    · subst hdc
      have hv' : rgV d = (at' : Int) := hv
      rw [decide_eq_true rfl]
      simp only [Bool.not_true, cond_false]
      rw [if_pos (by omega), hv']
    · rw [decide_eq_false hdc]
      have hne : rgV c ≠ (at' : Int) := by
        intro e
        apply hdc
        have h1 := hinj c (by omega)
        have h2 := hinj d (by rw [hv]; simp)
        rw [h1, h2, e, hv]
      simp only [Bool.not_false, cond_true]
      congr 1
      by_cases h : ((at' + 1 : Nat) : Int) ≤ rgV c
      · rw [if_pos h, if_pos (by omega)]
      · rw [if_neg h, if_neg (by omega)]
theorem rrights_loop (N : Nat) (r : api_Rule) (hN : 7 < N) : ∀ (b a : List UInt8) (l : Int) (n : Nat), r.Rights = a ++ b → (a ++ b).length ≤ 9223372036854775807 → b.length < n → -1 ≤ l → l < 6 →
    prefectref17_IsRule_l8 N r n (l + 1, (a.length : Int)) = some (bif rgGo l b then .inl () else .inr false) := by
  intro b
  induction b with
  | nil =>
    intro a l n hr hs hn hl hl6
    obtain ⟨n, rfl, _⟩ := fuel hn
    simp only [prefectref17_IsRule_l8, prefectref17_IsRule_l8_b]
    rw [hr, len_end, cond_false]; rfl
  | cons c b ih =>
    intro a l n hr hs hn hl hl6
    obtain ⟨n, rfl, hn'⟩ := fuel hn
    simp only [prefectref17_IsRule_l8, prefectref17_IsRule_l8_b]
    have hg : r.Rights[a.length]? = some c := by rw [hr, get_mid]
    have hv := rgV_range c
    obtain ⟨at', hat⟩ : ∃ at' : Nat, l + 1 = (at' : Int) := ⟨(l + 1).toNat, by omega⟩
    rw [hr, len_mid, cond_true, hat, rg_inner N r a.length c hg (6 - at') at' N (by omega) (by omega), Option.bind_some, suc_mid (a := a) (b := b) (x := c) hs]
    by_cases h : l < rgV c
    · rw [if_pos (by omega), show (rgV c == (6 : Int)) = false by (rw [Bool.eq_false_iff]; simp; omega), cond_false, w64_id (by omega) (by omega), ih (a ++ [c]) (rgV c) n (by rw [hr]; simp) (by simpa using hs) hn' hv.1 hv.2, rgGo, decide_eq_true h, Bool.true_and]
    · rw [if_neg (by omega), rgGo, decide_eq_false h]
      rfl
end Go.Gp
end
section
set_option linter.unusedVariables false
set_option linter.unusedSimpArgs false
namespace Go.Gp
open Go.Vd
def atGo : List (List UInt8) → List (List UInt8) → Bool
  | _, [] => true
  | d, a :: r => (match findS a with | some t => t.Name == a | none => false) && ((match d.getLast? with | some p => !(Op.bytesLess a p || a == p) | none => true) && atGo (d ++ [a]) r)
theorem at_prev (a b : List (List UInt8)) (x : List UInt8) (h : (a ++ x :: b).length ≤ 9223372036854775807) (ha : a ≠ []) : ∃ p, a.getLast? = some p ∧ idxL (a ++ x :: b) (w64 ((a.length : Int) - 1)) = some p := by
  have hl : 0 < a.length := List.length_pos_iff.2 ha
  have hal : (a ++ x :: b).length = a.length + b.length + 1 := by simp; omega
  obtain ⟨p, hp⟩ : ∃ p, a.getLast? = some p := by
    cases hg : a.getLast? with
    | none => rw [List.getLast?_eq_none_iff] at hg; exact absurd hg ha
    | some p => exact ⟨p, rfl⟩
  refine ⟨p, hp, ?_⟩
  rw [w64_id (by omega) (by omega), show (a.length : Int) - 1 = ((a.length - 1 : Nat) : Int) by omega, idxL_nat, List.getElem?_append_left (by omega)]
  rw [List.getLast?_eq_getElem?] at hp
  exact hp
theorem attrs_loop (N : Nat) (r : api_Rule) (h15 : 15 < N) : ∀ (b a : List (List UInt8)) (n : Nat), r.Attrs = a ++ b → (a ++ b).length ≤ 9223372036854775807 → b.length < n → (∀ s ∈ b, s.length ≤ 9223372036854775807 ∧ s.length < N) →
    aci_Is_l6 N r n (a.length : Int) = some (bif atGo a b then .inl () else .inr false) := by
  intro b
  induction b with
  | nil =>
    intro a n hr hs hn _
    obtain ⟨n, rfl, _⟩ := fuel hn
    simp only [aci_Is_l6, aci_Is_l6_b]
    rw [hr, len_end, cond_false]; rfl
  | cons x b ih =>
    intro a n hr hs hn hok
    obtain ⟨n, rfl, hn'⟩ := fuel hn
    have hx := hok x List.mem_cons_self
    have hi := ih (a ++ [x]) n (by rw [hr]; simp) (by simpa using hs) hn' (fun y hy => hok y (List.mem_cons_of_mem _ hy))
    simp only [aci_Is_l6, aci_Is_l6_b]
    rw [hr, len_mid, cond_true, idx_mid, Option.bind_some, find_eq hx.1 hx.2 h15, Option.bind_some, suc_mid (a := a) (b := b) (x := x) hs, hi, atGo, at0']
    cases hf : findS x with
    | none => rfl
    | some t =>
      simp only [Bool.not_true, cond_false]
      cases hn : t.Name == x with
      | false => rfl
      | true =>
        simp only [Bool.not_true, cond_false, Bool.true_and]
        by_cases ha : a = []
        · subst ha
          rw [decide_eq_true rfl]
          simp only [Bool.not_true, cond_false, Option.bind_some, List.getLast?_nil, Bool.true_and]
        · obtain ⟨p, hp, hq⟩ := at_prev a b x hs ha
          rw [decide_eq_false ha, hp, hq]
          simp only [Bool.not_false, cond_true, Option.bind_some]
          cases (Op.bytesLess x p || x == p) <;> rfl
theorem rattrs_loop (N : Nat) (r : api_Rule) (h15 : 15 < N) : ∀ (b a : List (List UInt8)) (n : Nat), r.Attrs = a ++ b → (a ++ b).length ≤ 9223372036854775807 → b.length < n → (∀ s ∈ b, s.length ≤ 9223372036854775807 ∧ s.length < N) →
    prefectref17_IsRule_l42 N r n (a.length : Int) = some (bif atGo a b then .inl () else .inr false) := by
  intro b
  induction b with
  | nil =>
    intro a n hr hs hn _
    obtain ⟨n, rfl, _⟩ := fuel hn
    simp only [prefectref17_IsRule_l42, prefectref17_IsRule_l42_b]
    rw [hr, len_end, cond_false]; rfl
  | cons x b ih =>
    intro a n hr hs hn hok
    obtain ⟨n, rfl, hn'⟩ := fuel hn
    have hx := hok x List.mem_cons_self
    have hi := ih (a ++ [x]) n (by rw [hr]; simp) (by simpa using hs) hn' (fun y hy => hok y (List.mem_cons_of_mem _ hy))
    simp only [prefectref17_IsRule_l42, prefectref17_IsRule_l42_b]
    rw [hr, len_mid, cond_true]
    simp only [idx_mid, Option.bind_some]
    rw [rfind_eq hx.1 hx.2 h15, Option.bind_some, suc_mid (a := a) (b := b) (x := x) hs, hi, atGo, at0']
    cases hf : findS x with
    | none => rfl
    | some t =>
      simp only [Bool.not_true, cond_false]
      cases hn : t.Name == x with
      | false => rfl
      | true =>
        simp only [Bool.not_true, cond_false, Bool.true_and]
        by_cases ha : a = []
        · subst ha
          rw [decide_eq_true rfl]
          simp only [Bool.not_true, cond_false, Option.bind_some, List.getLast?_nil, Bool.true_and]
        · obtain ⟨p, hp, hq⟩ := at_prev a b x hs ha
          rw [decide_eq_false ha, hp, hq]
          simp only [Bool.not_false, cond_true, Option.bind_some]
          cases (Op.bytesLess x p || x == p) <;> rfl
theorem nameP_sm {s : List UInt8} {d : List (List api_AVA)} (h : nameP s = some d) (hs : s.length ≤ 900) : d.length ≤ 8 ∧ (∀ r ∈ d, smR r ∧ isRDNS r = true) ∧ isS d = true := by
  unfold nameP at h
  split at h
  · cases h; exact ⟨by simp, by simp, rfl⟩
  · rw [Option.bind_eq_some_iff] at h
    obtain ⟨l, h1, h2⟩ := h
    split at h2
    · rename_i h8
      have e : l = d := by simpa using h2
      subst e
      obtain ⟨h3, h4⟩ := mapM_len h1
      obtain ⟨h5, h6⟩ := cutS_len 44 s.length s (Nat.le_refl _)
      have hall : ∀ r ∈ l, smR r ∧ isRDNS r = true := by
        intro r hr
        obtain ⟨p, hp, hpr⟩ := h4 r hr
        have hpl := h6 p hp
        refine ⟨?_, rdnP_is hpr⟩
        have hi := rdnP_is hpr
        unfold rdnP at hpr
        rw [Option.bind_eq_some_iff] at hpr
        obtain ⟨q, h7, h8'⟩ := hpr
        split at h8'
        · cases h8'
          obtain ⟨h9, h10⟩ := mapM_len h7
          obtain ⟨h11, h12⟩ := cutS_len 43 p.length p (Nat.le_refl _)
          refine ⟨by omega, fun a ha => ?_⟩
          obtain ⟨u, hu, hua⟩ := h10 a ha
          have h13 := avaP_len hua
          have h14 := h12 u hu
          exact ⟨by omega, by omega⟩
        · cases h8'
      refine ⟨h8, hall, ?_⟩
      unfold isS
      rw [decide_eq_true h8, Bool.true_and]
      exact List.all_eq_true.2 fun r hr => (hall r hr).2
    · cases h2
def whoS (s : List UInt8) : Bool := s == [97, 110, 121] || (s == [115, 101, 108, 102] || (match s with
  | 100 :: 110 :: 58 :: n => decide (n ≠ []) && (match nameP n with | some d => dnT d == n | none => false)
  | _ => false))
def whoP (s : List UInt8) : Option (List UInt8) := match s with
  | 100 :: 110 :: 58 :: n => some n
  | _ => none
theorem whoP_take (s : List UInt8) : whoP s = if s.take 3 = [100, 110, 58] then some (s.drop 3) else none := by
  unfold whoP
  split
  · simp
  · rename_i h
    rw [if_neg]
    intro e
    match s, e with
    | [], e => simp at e
    | [_], e => simp at e
    | [_, _], e => simp at e
    | a :: b :: c :: n, e =>
      simp at e
      obtain ⟨rfl, rfl, rfl⟩ := e
      exact h n rfl
theorem whoS_P (s : List UInt8) : whoS s = (s == [97, 110, 121] || (s == [115, 101, 108, 102] || (match whoP s with | some n => decide (n ≠ []) && (match nameP n with | some d => dnT d == n | none => false) | none => false))) := by
  unfold whoS whoP
  split <;> rfl
theorem cutPre_eq (N : Nat) (s : List UInt8) (hs : s.length ≤ 9223372036854775807) : strings_CutPrefix N s [100, 110, 58] = some (match whoP s with | some n => (n, true) | none => (s, false)) := by
  unfold strings_CutPrefix internal_stringslite_CutPrefix internal_stringslite_HasPrefix
  rw [whoP_take, show ((([100, 110, 58] : List UInt8).length : Int)) = ((3 : Nat) : Int) from rfl]
  by_cases h3 : 3 ≤ s.length
  · rw [decide_eq_true (by omega), cond_true, takeL_nat h3, Option.bind_some, Option.bind_some]
    by_cases ht : s.take 3 = [100, 110, 58]
    · rw [ht, if_pos rfl, show (([100, 110, 58] : List UInt8) == [100, 110, 58]) = true from rfl]
      simp only [Option.bind_some, Bool.not_true, cond_false]
      rw [dropL_nat h3]
      rfl
    · rw [if_neg ht, show (s.take 3 == ([100, 110, 58] : List UInt8)) = false by simpa using ht]
      rfl
  · rw [decide_eq_false (by omega), if_neg (by
      intro e
      have := congrArg List.length e
      simp at this
      omega)]
    rfl
theorem isWho_eq {N : Nat} {s : List UInt8} (hs : s.length ≤ 900) (hN : 2000000 < N) (hN2 : N ≤ 9223372036854775808) : aci_isWho N s = some (whoS s) := by
  unfold aci_isWho aci_isWho_j4
  rw [whoS_P]
  by_cases h1 : s = [97, 110, 121]
  · subst h1; rfl
  · rw [show (s == ([97, 110, 121] : List UInt8)) = false by simpa using h1, cond_false, Bool.false_or]
    by_cases h2 : s = [115, 101, 108, 102]
    · subst h2; rfl
    · rw [show (s == ([115, 101, 108, 102] : List UInt8)) = false by simpa using h2, cond_false, Bool.false_or, cutPre_eq N s (by omega), Option.bind_some]
      have hwl : ∀ n, whoP s = some n → n.length ≤ 900 := by
        intro n hn
        rw [whoP_take] at hn
        split at hn
        · cases hn; simp; omega
        · cases hn
      cases hw : whoP s with
      | none =>
        simp only
        rw [parse_eq (by omega) hN hN2, Option.bind_some]
        rfl
      | some n =>
        have hnl := hwl n hw
        simp only
        rw [parse_eq (by omega) hN hN2, Option.bind_some]
        by_cases h0 : n = []
        · subst h0; rfl
        · rw [show (n == ([] : List UInt8)) = false by simpa using h0, decide_eq_true h0]
          cases hp : nameP n with
          | none => rfl
          | some d =>
            obtain ⟨k1, k2, k3⟩ := nameP_sm hp hnl
            simp only [cond_true, Bool.not_false, BEq.rfl, Bool.true_and]
            rw [print_eq hN hN2 (by omega) (fun r hr => (k2 r hr).1), k3, if_pos rfl]
            rfl
def ruleS (r : api_Rule) : Bool := atGo [] r.Attrs && (isRightsS r.Rights && whoS r.Who)
def okR (r : api_Rule) : Prop := r.Attrs.length ≤ 1000 ∧ (∀ s ∈ r.Attrs, s.length ≤ 1000) ∧ r.Rights.length ≤ 1000 ∧ r.Who.length ≤ 900
theorem aciIs_eq {N : Nat} {r : api_Rule} (h : okR r) (hN : 2000000 < N) (hN2 : N ≤ 9223372036854775808) : aci_Is N r = some (ruleS r) := by
  unfold aci_Is ruleS
  have := attrs_loop N r (by omega) r.Attrs [] N rfl (by have := h.1; simp; omega) (by have := h.1; omega) (fun s hs => by have := h.2.1 s hs; exact ⟨by omega, by omega⟩)
  simp only [List.length_nil] at this
  rw [show ((0 : Int)) = ((0 : Nat) : Int) from rfl, this, isRights_eq (by have := h.2.2.1; omega) (by have := h.2.2.1; omega), isWho_eq h.2.2.2 hN hN2]
  cases atGo [] r.Attrs <;> cases isRightsS r.Rights <;> cases whoS r.Who <;> rfl
theorem isRule_eq {N : Nat} {r : api_Rule} (h : okR r) (hN : 2000000 < N) (hN2 : N ≤ 9223372036854775808) : prefectref17_IsRule N r = some (ruleS r) := by
  unfold prefectref17_IsRule ruleS
  have h1 := rrights_loop N r (by omega) r.Rights [] (-1) N rfl (by have := h.2.2.1; simp; omega) (by have := h.2.2.1; omega) (by omega) (by omega)
  have h2 := rattrs_loop N r (by omega) r.Attrs [] N rfl (by have := h.1; simp; omega) (by have := h.1; omega) (fun s hs => by have := h.2.1 s hs; exact ⟨by omega, by omega⟩)
  simp only [List.length_nil, show (-1 : Int) + 1 = ((0 : Nat) : Int) from rfl] at h1 h2
  rw [show ((0 : Int)) = ((0 : Nat) : Int) from rfl, h1, h2, whoS_P]
  unfold isRightsS
  have hw := h.2.2.2
  cases hg : rgGo (-1) r.Rights with
  | false => cases atGo [] r.Attrs <;> simp
  | true =>
    cases ha : atGo [] r.Attrs with
    | false => rfl
    | true =>
      simp only [cond_true, Option.bind_some, Sum.elim_inl, Bool.and_true, Bool.true_and]
      by_cases h0 : r.Rights = []
      · rw [h0]; rfl
      · have hl : 0 < r.Rights.length := List.length_pos_iff.2 h0
        rw [show ((r.Rights.length : Int) == ((0 : Nat) : Int)) = false by (rw [Bool.eq_false_iff]; simp; omega), cond_false, decide_eq_true h0, Bool.true_and]
        by_cases k1 : r.Who = [97, 110, 121]
        · rw [k1]; rfl
        · rw [show (r.Who == ([97, 110, 121] : List UInt8)) = false by simpa using k1, cond_false, Option.bind_some, Bool.false_or]
          cases k2 : (r.Who == ([115, 101, 108, 102] : List UInt8)) with
          | true => rfl
          | false =>
            simp only [cond_false, Bool.false_or]
            rw [whoP_take]
            by_cases k4 : r.Who.length < 4
            · rw [decide_eq_true (by omega)]
              have : (match (if r.Who.take 3 = [100, 110, 58] then some (r.Who.drop 3) else none : Option (List UInt8)) with | some n => decide (n ≠ []) && (match nameP n with | some d => dnT d == n | none => false) | none => false) = false := by
                split
                · rename_i n hn
                  split at hn
                  · cases hn
                    have : r.Who.drop 3 = [] := List.drop_eq_nil_of_le (by omega)
                    rw [this]; rfl
                  · cases hn
                · rfl
              rw [this]; rfl
            · have h3 : 3 ≤ r.Who.length := by omega
              rw [decide_eq_false (by omega), cond_false, show (3 : Int) = ((3 : Nat) : Int) from rfl, takeL_nat h3, dropL_nat h3]
              simp only [Option.bind_some]
              by_cases k5 : r.Who.take 3 = [100, 110, 58]
              · rw [if_pos k5, k5]
                have hne : r.Who.drop 3 ≠ [] := by
                  intro e
                  have := congrArg List.length e
                  simp at this
                  omega
                have hdl : (r.Who.drop 3).length ≤ 900 := by simp; omega
                simp only [BEq.rfl, Bool.not_true, cond_false]
                rw [rparse_eq (by omega) hN hN2, Option.bind_some, decide_eq_true hne, Bool.true_and]
                cases hp : nameP (r.Who.drop 3) with
                | none => rfl
                | some d =>
                  obtain ⟨m1, m2, m3⟩ := nameP_sm hp hdl
                  simp only [cond_true]
                  rw [rprint_eq (by omega) (by omega) (fun q hq => (m2 q hq).1)]
                  rfl
              · rw [if_neg k5, show (r.Who.take 3 == ([100, 110, 58] : List UInt8)) = false by simpa using k5]
                rfl
end Go.Gp
end
section
set_option linter.unusedVariables false
set_option linter.unusedSimpArgs false
namespace Go.Gp
open Go.Vd
def cutC (k : UInt8) : List UInt8 → Option (List UInt8 × List UInt8)
  | [] => none
  | c :: s => if c = k then some ([], s) else (cutC k s).map fun x => (c :: x.1, x.2)
theorem cutC_some {k : UInt8} {s a v : List UInt8} (h : cutC k s = some (a, v)) : s = a ++ k :: v := by
  induction s generalizing a v with
  | nil => cases h
  | cons c s ih =>
    unfold cutC at h
    split at h
    · rename_i hc; subst hc; cases h; rfl
    · rw [Option.map_eq_some_iff] at h
      obtain ⟨⟨a', v'⟩, h1, h2⟩ := h
      cases h2
      rw [ih h1]; rfl
theorem indexByte_C (k : UInt8) : ∀ s : List UInt8, Lib.indexByte s k = match cutC k s with | some x => (x.1.length : Int) | none => -1
  | [] => rfl
  | c :: s => by
    rw [Lib.indexByte, cutC, indexByte_C k s]
    by_cases h : c = k
    · subst h; simp
    · have : (c == k) = false := by simpa using h
      rw [if_neg h]
      simp only [this]
      cases cutC k s with
      | none => simp
      | some x => simp <;> omega
def splitN (k : UInt8) : Nat → List UInt8 → List (List UInt8)
  | 0, s => [s]
  | n + 1, s => match cutC k s with
    | none => [s]
    | some x => x.1 :: splitN k n x.2
theorem splitN_len (k : UInt8) : ∀ (n : Nat) (s : List UInt8), (splitN k n s).length ≤ n + 1 ∧ (∀ x ∈ splitN k n s, x.length ≤ s.length)
  | 0, s => by simp [splitN]
  | n + 1, s => by
    rw [splitN]
    cases h : cutC k s with
    | none => simp
    | some x =>
      obtain ⟨a, v⟩ := x
      have e := cutC_some h
      obtain ⟨h1, h2⟩ := splitN_len k n v
      refine ⟨by simp; omega, fun y hy => ?_⟩
      rcases List.mem_cons.1 hy with rfl | hy
      · rw [e]; simp
      · have := h2 y hy; rw [e]; simp; omega
theorem splitN_big (k : UInt8) : ∀ (n m : Nat) (s : List UInt8), s.length ≤ n → s.length ≤ m → splitN k n s = splitN k m s
  | 0, 0, s, _, _ => rfl
  | 0, m + 1, s, h, _ => by
    have : s = [] := List.length_eq_zero_iff.1 (by omega)
    subst this; rfl
  | n + 1, 0, s, _, h => by
    have : s = [] := List.length_eq_zero_iff.1 (by omega)
    subst this; rfl
  | n + 1, m + 1, s, h1, h2 => by
    rw [splitN, splitN]
    cases h : cutC k s with
    | none => rfl
    | some x =>
      obtain ⟨a, v⟩ := x
      have e := congrArg List.length (cutC_some h)
      simp at e
      simp only
      rw [splitN_big k n m v (by omega) (by omega)]
theorem gen_loop (N : Nat) (a0 : List UInt8) (k : UInt8) (v3 : Int) (mx : Nat) (hmx : w64 (mn v3 (w64 ((a0.length : Int) + 1)) - 1) = (mx : Int)) (hm : mx ≤ 1000000) : ∀ (c : Nat) (d : List (List UInt8)) (s : List UInt8) (n : Nat), d.length + c = mx → c < n → s.length ≤ 1000000 →
    ∃ (s' : List UInt8) (d' : List (List UInt8)) (c' : Nat), strings_genSplit_l34 N a0 [k] 0 v3 n (s, (d.length : Int), d ++ List.replicate (c + 1) []) = some (s', (d'.length : Int), d' ++ List.replicate (c' + 1) []) ∧ d' ++ [s'] = d ++ splitN k c s := by
  intro c
  induction c with
  | zero =>
    intro d s n hd hn hs
    obtain ⟨n, rfl, _⟩ := fuel hn
    simp only [strings_genSplit_l34, strings_genSplit_l34_b]
    rw [hmx, decide_eq_false (by omega), cond_false]
    exact ⟨s, d, 0, rfl, rfl⟩
  | succ c ih =>
    intro d s n hd hn hs
    obtain ⟨n, rfl, hn'⟩ := fuel hn
    simp only [strings_genSplit_l34, strings_genSplit_l34_b]
    rw [hmx, decide_eq_true (by omega), cond_true]
    unfold strings_Index stringslite_Index
    simp only [Option.bind_some]
    rw [indexByte_C, splitN]
    cases h : cutC k s with
    | none =>
      refine ⟨s, d, c + 1, ?_, rfl⟩
      simp
    | some x =>
      obtain ⟨a, v⟩ := x
      have e := cutC_some h
      have el := congrArg List.length e
      simp at el
      simp only
      have hchk : chkI (d.length : Int) (d ++ List.replicate (c + 1 + 1) ([] : List UInt8)).length = some d.length := chkI_nat (by simp)
      have hget : (d ++ List.replicate (c + 1 + 1) ([] : List UInt8))[d.length]? = some [] := by
        rw [List.replicate_succ]; exact get_mid d _ _
      have hset : ∀ y, (d ++ List.replicate (c + 1 + 1) ([] : List UInt8)).set d.length y = (d ++ [y]) ++ List.replicate (c + 1) [] := by
        intro y
        rw [List.replicate_succ, set_mid]; simp
      rw [decide_eq_false (by omega), cond_false, show (a.length : Int) + 0 = (a.length : Int) by omega, w64_nat (by omega), takeL_nat (by omega), Option.bind_some, hchk, Option.bind_some, hget, Option.bind_some,
        show ((([k] : List UInt8).length : Int)) = 1 from rfl, w64_succ (by omega), dropL_nat (by omega), Option.bind_some, w64_succ (by omega), hset]
      have ht : s.take a.length = a := by rw [e, List.take_left' rfl]
      have hdr : s.drop (a.length + 1) = v := by rw [e, app_mid, List.drop_left' (by simp)]
      rw [ht, hdr]
      obtain ⟨s', d', c', h1, h2⟩ := ih (d ++ [a]) v n (by simp; omega) (by omega) (by omega)
      refine ⟨s', d', c', ?_, ?_⟩
      · rw [← h1]; simp
      · rw [h2]; simp
theorem gen_j (N : Nat) (s : List UInt8) (k : UInt8) (n : Nat) (hn : 1 ≤ n) (hn2 : n ≤ 1000000) (hs : s.length ≤ 1000000) (hN : 2000000 < N) : strings_genSplit_j18 s [k] 0 N (n : Int) = some (splitN k (n - 1) s) := by
  unfold strings_genSplit_j18
  have hmn : mn (n : Int) (w64 ((s.length : Int) + 1)) = ((min n (s.length + 1) : Nat) : Int) := by
    rw [w64_succ (by omega)]
    unfold mn
    split <;> omega
  have hmx : w64 (mn (n : Int) (w64 ((s.length : Int) + 1)) - 1) = ((min n (s.length + 1) - 1 : Nat) : Int) := by
    rw [hmn, w64_id (by omega) (by omega)]; omega
  obtain ⟨s', d', c', h1, h2⟩ := gen_loop N s k (n : Int) (min n (s.length + 1) - 1) hmx (by omega) (min n (s.length + 1) - 1) [] s N (by simp) (by omega) hs
  simp only [List.nil_append, List.length_nil] at h1 h2
  have hmk : mkN 16 (mn (n : Int) (w64 ((s.length : Int) + 1))) = some (min n (s.length + 1) - 1 + 1) := by
    rw [hmn]
    unfold mkN
    rw [if_pos (by constructor <;> omega)]
    simp; omega
  rw [show (((0 : Nat)) : Int) = (0 : Int) from rfl] at h1
  rw [hmk, Option.bind_some, h1, Option.bind_some]
  simp only
  have hchk : chkI (d'.length : Int) (d' ++ List.replicate (c' + 1) ([] : List UInt8)).length = some d'.length := chkI_nat (by simp)
  have hget : (d' ++ List.replicate (c' + 1) ([] : List UInt8))[d'.length]? = some [] := by
    rw [List.replicate_succ]; exact get_mid d' _ _
  have hset : ∀ y, (d' ++ List.replicate (c' + 1) ([] : List UInt8)).set d'.length y = (d' ++ [y]) ++ List.replicate c' [] := by
    intro y
    rw [List.replicate_succ, set_mid]; simp
  have hdl : d'.length ≤ 1000000 := by
    have e := congrArg List.length h2
    have := (splitN_len k (min n (s.length + 1) - 1) s).1
    simp at e
    omega
  rw [hchk, Option.bind_some, hget, Option.bind_some, hset, w64_succ (by omega), takeL_nat (by simp), Option.bind_some]
  have ht : ((d' ++ [s']) ++ List.replicate c' ([] : List UInt8)).take (d'.length + 1) = d' ++ [s'] := List.take_left' (by simp)
  rw [ht, h2]
  by_cases hc : n ≤ s.length + 1
  · rw [Nat.min_eq_left hc]
  · rw [Nat.min_eq_right (by omega)]
    congr 1
    exact splitN_big k _ _ s (by omega) (by omega)
end Go.Gp
end
section
set_option linter.unusedVariables false
set_option linter.unusedSimpArgs false
namespace Go.Gp
open Go.Vd
theorem splitN_eq (N : Nat) (s : List UInt8) (k : UInt8) (n : Nat) (hn : 1 ≤ n) (hn2 : n ≤ 1000000) (hs : s.length ≤ 1000000) (hN : 2000000 < N) : strings_SplitN N s [k] (n : Int) = some (splitN k (n - 1) s) := by
  unfold strings_SplitN strings_genSplit
  rw [show ((n : Int) == (0 : Int)) = false by (rw [Bool.eq_false_iff]; simp; omega), cond_false, show (([k] : List UInt8) == ([] : List UInt8)) = false from rfl, cond_false, decide_eq_false (by omega), cond_false, gen_j N s k n hn hn2 hs hN]
  rfl
theorem count_le (s : List UInt8) (k : UInt8) : Lib.countByte s k ≤ s.length := List.count_le_length
theorem split_eq (N : Nat) (s : List UInt8) (k : UInt8) (hs : s.length ≤ 999999) (hN : 2000000 < N) : strings_Split N s [k] = some (splitN k (Lib.countByte s k) s) := by
  unfold strings_Split strings_genSplit strings_Count
  have hc := count_le s k
  simp only [Option.bind_some]
  rw [w64_succ (by omega)]
  have := gen_j N s k (Lib.countByte s k + 1) (by omega) (by omega) (by omega) hN
  rw [show (((-1) : Int) == (0 : Int)) = false from rfl, cond_false, show (([k] : List UInt8) == ([] : List UInt8)) = false from rfl, cond_false, show decide (((-1) : Int) < (0 : Int)) = true from rfl, cond_true, this]
  rfl
theorem word_loop (N : Nat) : ∀ (b a : List UInt8) (n : Nat), (a ++ b).length ≤ 1000000 → b.length < n →
    prefectref17_word_l6 N (a ++ b) n (a.length : Int) = some (match cutC 32 b with | some x => .inr (a ++ x.1, x.2, true) | none => .inl ()) := by
  intro b
  induction b with
  | nil =>
    intro a n hs hn
    obtain ⟨n, rfl, _⟩ := fuel hn
    simp only [prefectref17_word_l6, prefectref17_word_l6_b]
    rw [len_end, cond_false]; rfl
  | cons c b ih =>
    intro a n hs hn
    obtain ⟨n, rfl, hn'⟩ := fuel hn
    simp only [prefectref17_word_l6, prefectref17_word_l6_b]
    have hal : (a ++ c :: b).length = a.length + b.length + 1 := by simp; omega
    rw [len_mid, cond_true, idx_mid, Option.bind_some, is32, suc_mid (a := a) (b := b) (x := c) (by omega), cutC]
    by_cases hc : c = 32
    · rw [decide_eq_true hc, cond_true, takeL_nat (by omega), Option.bind_some, dropL_nat (by simp), Option.bind_some, if_pos hc, List.take_left' rfl, app_mid a b c, List.drop_left' rfl]
      simp
    · rw [decide_eq_false hc, cond_false, if_neg hc]
      have := ih (a ++ [c]) n (by simpa using hs) hn'
      rw [← app_mid] at this
      rw [this]
      cases cutC 32 b <;> simp
theorem word_eq {N : Nat} {s : List UInt8} (hs : s.length ≤ 1000000) (hN : s.length < N) : prefectref17_word N s = some (match cutC 32 s with | some x => (x.1, x.2, true) | none => ([], [], false)) := by
  unfold prefectref17_word
  have := word_loop N s [] N hs hN
  simp only [List.nil_append, List.length_nil] at this
  rw [show ((0 : Int)) = ((0 : Nat) : Int) from rfl, this]
  cases cutC 32 s <;> rfl
end Go.Gp
end
section
set_option linter.unusedVariables false
set_option linter.unusedSimpArgs false
namespace Go.Gp
open Go.Vd
def ruleT (r : api_Rule) : List UInt8 := cat1 32 [if r.Deny then [100, 101, 110, 121] else [103, 114, 97, 110, 116], r.Rights, if r.Sub then [115, 117, 98] else [98, 97, 115, 101], if r.Attrs = [] then [42] else cat1 44 r.Attrs, r.Who]
theorem ruleT_len {r : api_Rule} (h : okR r) : (cat1 44 r.Attrs).length ≤ 1001000 ∧ (ruleT r).length ≤ 1010000 := by
  have h1 := cat1_len 44 1000 r.Attrs h.2.1
  have h2 := h.1
  have h3 := h.2.2.1
  have h4 := h.2.2.2
  refine ⟨by omega, ?_⟩
  unfold ruleT
  generalize cat1 44 r.Attrs = q at *
  simp only [cat1, List.flatMap_cons, List.flatMap_nil, List.length_append, List.length_cons, List.length_nil]
  split <;> split <;> split <;> simp <;> omega
theorem aciPrint_eq {N : Nat} {r : api_Rule} (h : okR r) (hN : 2000000 < N) (hN2 : N ≤ 9223372036854775808) : aci_Print N r = some (if ruleS r then ruleT r else []) := by
  obtain ⟨h1, h2⟩ := ruleT_len h
  unfold aci_Print aci_Print_j12 aci_Print_j18 aci_Print_j24
  rw [aciIs_eq h hN hN2, Option.bind_some, at0']
  have hj : strings_Join N r.Attrs [44] = some (cat1 44 r.Attrs) := sjoin_eq N _ 44 (by have := h.1; omega) (by omega)
  rw [hj]
  cases hr : ruleS r with
  | false => rfl
  | true =>
    simp only [Bool.not_true, cond_false, if_true, Option.bind_some]
    have key : ∀ l : List (List UInt8), l.length = 5 → cat1 32 l = ruleT r → strings_Join N l [32] = some (ruleT r) := by
      intro l hl e
      rw [sjoin_eq N l 32 (by omega) (by rw [e]; omega), e]
    cases hd : r.Deny <;> cases hs : r.Sub <;> by_cases ha : r.Attrs = [] <;>
      simp only [ha, decide_true, decide_false, Bool.not_true, Bool.not_false, cond_true, cond_false] <;>
      rw [key _ rfl (by unfold ruleT; simp [hd, hs, ha])] <;> rfl
end Go.Gp
end
section
set_option linter.unusedVariables false
set_option linter.unusedSimpArgs false
namespace Go.Gp
open Go.Vd
theorem rprint_at (N : Nat) (r : api_Rule) : ∀ (b a : List (List UInt8)) (out : List UInt8) (n : Nat), r.Attrs = a ++ b → (a ++ b).length ≤ 1000 → b.length < n → (∀ s ∈ b, s.length ≤ 1000) → out.length ≤ 10000 + a.length * 2000 →
    prefectref17_Print_l28 N r n (out, (a.length : Int)) = some (out ++ if a = [] then cat1 44 b else b.flatMap (44 :: ·)) := by
  intro b
  induction b with
  | nil =>
    intro a out n hr hs hn _ _
    obtain ⟨n, rfl, _⟩ := fuel hn
    simp only [prefectref17_Print_l28, prefectref17_Print_l28_b]
    rw [hr, len_end, cond_false]; simp [cat1]
  | cons x b ih =>
    intro a out n hr hs hn hp ho
    obtain ⟨n, rfl, hn'⟩ := fuel hn
    have hal : (a ++ x :: b).length = a.length + b.length + 1 := by simp; omega
    have hx := hp x List.mem_cons_self
    have hrest : ∀ o : List UInt8, o.length ≤ 10001 + a.length * 2000 → prefectref17_Print_j37 r (a.length : Int) (prefectref17_Print_l28 N r n) o = some (o ++ x ++ b.flatMap (44 :: ·)) := by
      intro o ho'
      unfold prefectref17_Print_j37
      rw [hr, idx_mid, Option.bind_some, catS_ok (by omega), Option.bind_some, suc_mid (a := a) (b := b) (x := x) (by omega)]
      have := ih (a ++ [x]) (o ++ x) n (by rw [hr]; simp) (by simpa using hs) hn' (fun q hq => hp q (List.mem_cons_of_mem _ hq)) (by simp; omega)
      rw [if_neg (by simp)] at this
      exact this
    simp only [prefectref17_Print_l28, prefectref17_Print_l28_b]
    rw [hr, len_mid, cond_true, at0']
    by_cases ha : a = []
    · subst ha
      rw [decide_eq_true rfl, Bool.not_true, cond_false, hrest _ (by omega), if_pos rfl]
      simp [cat1]
    · rw [decide_eq_false ha, Bool.not_false, cond_true, catS_ok (by simp; omega), Option.bind_some, hrest _ (by simp; omega), if_neg ha]
      simp
theorem ruleT_flat (r : api_Rule) : ruleT r = (if r.Deny then [100, 101, 110, 121, 32] else [103, 114, 97, 110, 116, 32]) ++ r.Rights ++ (if r.Sub then [32, 115, 117, 98, 32] else [32, 98, 97, 115, 101, 32]) ++ (if r.Attrs = [] then [42] else cat1 44 r.Attrs) ++ [32] ++ r.Who := by
  unfold ruleT
  generalize (if r.Attrs = [] then [42] else cat1 44 r.Attrs) = q
  cases r.Deny <;> cases r.Sub <;> simp [cat1]
theorem rulePrint_eq {N : Nat} {r : api_Rule} (h : okR r) (hN : 2000000 < N) : prefectref17_Print N r = some (ruleT r) := by
  obtain ⟨h1, h2⟩ := ruleT_len h
  have g1 := h.1
  have g3 := h.2.2.1
  have g4 := h.2.2.2
  rw [ruleT_flat] at h2 ⊢
  have hl0 : ((r.Attrs.length : Int) == (0 : Int)) = decide (r.Attrs = []) := by
    rw [Bool.eq_iff_iff]; cases r.Attrs <;> simp; omega
  have key : ∀ o : List UInt8, o.length ≤ 2000 → prefectref17_Print_j12 r N o = some (o ++ (if r.Attrs = [] then [42] else cat1 44 r.Attrs) ++ [32] ++ r.Who) := by
    intro o ho
    unfold prefectref17_Print_j12
    have hj : ∀ q : List UInt8, q.length ≤ 3000 → prefectref17_Print_j18 r N q = some (q ++ cat1 44 r.Attrs ++ [32] ++ r.Who) := by
      intro q hq
      unfold prefectref17_Print_j18
      have := rprint_at N r r.Attrs [] q N rfl (by simpa using g1) (by omega) h.2.1 (by simp; omega)
      rw [if_pos rfl, List.length_nil] at this
      rw [show ((0 : Int)) = ((0 : Nat) : Int) from rfl, this, Option.bind_some, catS_ok (by simp; omega), Option.bind_some, catS_ok (by simp; omega)]
      simp
    rw [hl0]
    by_cases ha : r.Attrs = []
    · rw [decide_eq_true ha, cond_true, catS_ok (by simp; omega), Option.bind_some, hj _ (by simp; omega), if_pos ha, ha]
      simp [cat1]
    · rw [decide_eq_false ha, cond_false, hj _ (by omega), if_neg ha]
  have hk : ∀ o : List UInt8, o.length ≤ 10 → prefectref17_Print_j4 r N o = some (o ++ r.Rights ++ (if r.Sub then [32, 115, 117, 98, 32] else [32, 98, 97, 115, 101, 32]) ++ (if r.Attrs = [] then [42] else cat1 44 r.Attrs) ++ [32] ++ r.Who) := by
    intro o ho
    unfold prefectref17_Print_j4
    rw [catS_ok (by omega), Option.bind_some]
    cases hs : r.Sub with
    | true => rw [cond_true, catS_ok (by simp; omega), Option.bind_some, key _ (by simp; omega)]; rfl
    | false => rw [cond_false, catS_ok (by simp; omega), Option.bind_some, key _ (by simp; omega)]; rfl
  unfold prefectref17_Print
  cases hd : r.Deny with
  | true => rw [cond_true, hk _ (by simp)]; rfl
  | false => rw [cond_false, hk _ (by simp)]; rfl
theorem cutC_none {k : UInt8} : ∀ {s : List UInt8}, k ∉ s → cutC k s = none
  | [], _ => rfl
  | c :: s, h => by
    simp only [List.mem_cons, not_or] at h
    rw [cutC, if_neg (fun e => h.1 e.symm), cutC_none h.2]; rfl
theorem cutC_at {k : UInt8} {v : List UInt8} : ∀ {a : List UInt8}, k ∉ a → cutC k (a ++ k :: v) = some (a, v)
  | [], _ => by simp [cutC]
  | c :: a, h => by
    simp only [List.mem_cons, not_or] at h
    rw [List.cons_append, cutC, if_neg (fun e => h.1 e.symm), cutC_at h.2]; rfl
theorem cutC_notin {k : UInt8} : ∀ {s a v : List UInt8}, cutC k s = some (a, v) → k ∉ a
  | [], a, v, h => by cases h
  | c :: s, a, v, h => by
    unfold cutC at h
    split at h
    · cases h; simp
    · rename_i hc
      rw [Option.map_eq_some_iff] at h
      obtain ⟨⟨a', v'⟩, h1, h2⟩ := h
      cases h2
      simp only [List.mem_cons, not_or]
      exact ⟨fun e => hc e.symm, cutC_notin h1⟩
theorem cutC_cnt {k : UInt8} {s a v : List UInt8} (h : cutC k s = some (a, v)) : Lib.countByte v k + 1 ≤ Lib.countByte s k := by
  rw [cutC_some h]
  unfold Lib.countByte
  rw [List.count_append, List.count_cons_self]; omega
theorem splitN_cnt (k : UInt8) : ∀ (n m : Nat) (s : List UInt8), Lib.countByte s k ≤ n → Lib.countByte s k ≤ m → splitN k n s = splitN k m s
  | 0, 0, s, _, _ => rfl
  | 0, m + 1, s, h, _ => by
    rw [splitN, splitN]
    cases hc : cutC k s with
    | none => rfl
    | some x => have := cutC_cnt (a := x.1) (v := x.2) hc; omega
  | n + 1, 0, s, _, h => by
    rw [splitN, splitN]
    cases hc : cutC k s with
    | none => rfl
    | some x => have := cutC_cnt (a := x.1) (v := x.2) hc; omega
  | n + 1, m + 1, s, h1, h2 => by
    rw [splitN, splitN]
    cases hc : cutC k s with
    | none => rfl
    | some x =>
      have := cutC_cnt (a := x.1) (v := x.2) hc
      simp only
      rw [splitN_cnt k n m x.2 (by omega) (by omega)]
def splitA (k : UInt8) (s : List UInt8) : List (List UInt8) := splitN k (Lib.countByte s k) s
theorem splitA_cut {k : UInt8} {s a v : List UInt8} (h : cutC k s = some (a, v)) : splitA k s = a :: splitA k v := by
  have := cutC_cnt h
  unfold splitA
  rw [splitN_cnt k (Lib.countByte s k) (Lib.countByte v k + 1) s (Nat.le_refl _) (by
    rw [cutC_some h]
    have e := cutC_some h
    unfold Lib.countByte
    rw [List.count_append, List.count_cons_self]
    have : List.count k a = 0 := by
      rw [List.count_eq_zero]
      intro hm
      exact cutC_notin h hm
    omega), splitN, h]
theorem splitA_none {k : UInt8} {s : List UInt8} (h : cutC k s = none) : splitA k s = [s] := by
  unfold splitA
  cases Lib.countByte s k with
  | zero => rfl
  | succ n => rw [splitN, h]
theorem splitA_len (k : UInt8) (s : List UInt8) : (splitA k s).length ≤ s.length + 1 ∧ ∀ x ∈ splitA k s, x.length ≤ s.length := by
  have h1 := splitN_len k (Lib.countByte s k) s
  have h2 := count_le s k
  unfold splitA
  exact ⟨by omega, h1.2⟩
theorem is44 (c : UInt8) : (((c).toNat : Int) == (44 : Int)) = decide (c = 44) := by
  have := u8_all (p := fun c => ((((c).toNat : Int) == (44 : Int)) == decide (c = 44))) (by decide +kernel) c
  simpa using this
theorem rsplit_loop (N : Nat) (s : List UInt8) (hs : s.length ≤ 100000) : ∀ (b p c : List UInt8) (out : List (List UInt8)) (n : Nat), s = p ++ c ++ b → 44 ∉ c → out.length + b.length ≤ 200000 → b.length + 1 < n →
    prefectref17_split_l10 N s n ((p.length : Int), ((p ++ c).length : Int), out) = some (out ++ splitA 44 (c ++ b)) := by
  intro b
  induction b with
  | nil =>
    intro p c out n he hc ho hn
    obtain ⟨n, rfl, hn'⟩ := fuel (k := 1) hn
    obtain ⟨n, rfl, _⟩ := fuel (k := 0) hn'
    rw [List.append_nil] at he
    subst he
    simp only [prefectref17_split_l10, prefectref17_split_l10_b]
    rw [decide_eq_true (Int.le_refl _), cond_true, BEq.rfl, cond_true, Option.bind_some, cond_true, cutL_nat (by simp) (Nat.le_refl _), Option.bind_some]
    rw [List.take_length, List.drop_left' rfl, appL_ok (by simp at ho ⊢; omega), Option.bind_some]
    unfold prefectref17_split_j17
    rw [w64_succ (by omega)]
    dsimp only
    rw [decide_eq_false (by omega), cond_false, List.append_nil, splitA_none (cutC_none hc)]
  | cons x b ih =>
    intro p c out n he hc ho hn
    obtain ⟨n, rfl, hn'⟩ := fuel (k := b.length + 2) hn
    have hsl : s.length = (p ++ c).length + b.length + 1 := by rw [he]; simp; omega
    simp only [prefectref17_split_l10, prefectref17_split_l10_b]
    rw [decide_eq_true (by omega), cond_true, show (((p ++ c).length : Int) == (s.length : Int)) = false by (rw [Bool.eq_false_iff]; simp only [ne_eq, beq_iff_eq]; omega), cond_false]
    have hi : idxL s (((p ++ c).length : Nat) : Int) = some x := by rw [he]; exact idx_mid _ _ _
    rw [hi, Option.bind_some, is44, Option.bind_some]
    unfold prefectref17_split_j17
    rw [w64_succ (by omega)]
    by_cases hx : x = 44
    · subst hx
      rw [decide_eq_true rfl, cond_true, cutL_nat (by simp) (by omega), Option.bind_some]
      have ht : (s.take (p ++ c).length).drop p.length = c := by
        rw [he, List.take_left' rfl, List.drop_left' rfl]
      rw [ht, appL_ok (by simp at ho ⊢; omega), Option.bind_some]
      have := ih (p ++ c ++ [44]) [] (out ++ [c]) n (by rw [he]; simp) (by simp) (by simp at ho ⊢; omega) (by omega)
      rw [List.append_nil] at this
      rw [show ((p ++ c).length + 1) = (p ++ c ++ [44]).length by simp; omega]
      rw [this, splitA_cut (cutC_at hc)]
      simp
    · rw [decide_eq_false hx, cond_false]
      have := ih p (c ++ [x]) out n (by rw [he]; simp) (by simp; exact ⟨hc, fun e => hx e.symm⟩) (by simp at ho ⊢; omega) (by omega)
      rw [show ((p ++ c).length + 1) = (p ++ (c ++ [x])).length by simp; omega]
      rw [this]
      simp
theorem rsplit_eq {N : Nat} {s : List UInt8} (hs : s.length ≤ 100000) (hN : 2000000 < N) : prefectref17_split N s = some (splitA 44 s) := by
  unfold prefectref17_split
  have := rsplit_loop N s hs s [] [] [] N rfl (by simp) (by simp; omega) (by omega)
  simp only [List.nil_append, List.length_nil, List.append_nil] at this
  rw [show ((0 : Int)) = ((0 : Nat) : Int) from rfl, this]
  rfl
theorem psplit_eq {N : Nat} {s : List UInt8} (hs : s.length ≤ 100000) (hN : 2000000 < N) : strings_Split N s [44] = some (splitA 44 s) := split_eq N s 44 (by omega) hN
end Go.Gp
end
section
set_option linter.unusedVariables false
set_option linter.unusedSimpArgs false
namespace Go.Gp
open Go.Vd
def noR : api_Rule := ⟨false, [], false, [], []⟩
def mkR (a b c d e : List UInt8) : api_Rule := ⟨a == [100, 101, 110, 121], b, c == [115, 117, 98], e, if d = [42] then [] else splitA 44 d⟩
def rdR (s : List UInt8) : Option api_Rule :=
  (cutC 32 s).bind fun w0 => (cutC 32 w0.2).bind fun w1 => (cutC 32 w1.2).bind fun w2 => (cutC 32 w2.2).bind fun w3 =>
    if (ruleS (mkR w0.1 w1.1 w2.1 w3.1 w3.2) && ruleT (mkR w0.1 w1.1 w2.1 w3.1 w3.2) == s) = true then some (mkR w0.1 w1.1 w2.1 w3.1 w3.2) else none
theorem cutC_len {k : UInt8} {s a v : List UInt8} (h : cutC k s = some (a, v)) : a.length + v.length + 1 = s.length := by
  have := congrArg List.length (cutC_some h)
  simp at this
  omega
theorem mkR_ok {a b c d e : List UInt8} (hb : b.length ≤ 900) (hd : d.length ≤ 900) (he : e.length ≤ 900) : okR (mkR a b c d e) := by
  have := splitA_len 44 d
  unfold mkR okR
  refine ⟨?_, ?_, by simp; omega, he⟩
  · simp only
    split
    · simp
    · omega
  · intro x hx
    simp only at hx
    split at hx
    · cases hx
    · have := this.2 x hx; omega
theorem pparse_end {N : Nat} {s : List UInt8} {r : api_Rule} (h : okR r) (hs : s ≠ []) (hN : 2000000 < N) (hN2 : N ≤ 9223372036854775808) :
    aci_Parse_j14 s N r = some (match (if (ruleS r && ruleT r == s) = true then some r else none) with | some r => (r, 0) | none => (noR, 20)) := by
  unfold aci_Parse_j14
  rw [aciPrint_eq h hN hN2, Option.bind_some]
  cases hr : ruleS r with
  | false =>
    have : (([] : List UInt8) == s) = false := by rw [Bool.eq_false_iff]; simpa using fun e => hs e
    simp only [Bool.false_and, Bool.false_eq_true, if_false, this, Bool.not_false, cond_true]
    rfl
  | true =>
    simp only [if_true, Bool.true_and]
    cases ruleT r == s <;> rfl
theorem pparse_eq {N : Nat} {s : List UInt8} (hs : s.length ≤ 900) (hN : 2000000 < N) (hN2 : N ≤ 9223372036854775808) : aci_Parse N s = some (match rdR s with | some r => (r, 0) | none => (noR, 20)) := by
  unfold aci_Parse rdR
  have := splitN_eq N s 32 5 (by omega) (by omega) (by omega) hN
  rw [show ((5 : Nat) : Int) = (5 : Int) from rfl] at this
  rw [this, Option.bind_some, splitN]
  cases h0 : cutC 32 s with
  | none => rfl
  | some w0 =>
    obtain ⟨a, v⟩ := w0
    simp only [Option.bind_some]
    rw [splitN]
    have l0 := cutC_len h0
    cases h1 : cutC 32 v with
    | none => rfl
    | some w1 =>
      obtain ⟨b, v⟩ := w1
      simp only [Option.bind_some]
      rw [splitN]
      have l1 := cutC_len h1
      cases h2 : cutC 32 v with
      | none => rfl
      | some w2 =>
        obtain ⟨c, v⟩ := w2
        simp only [Option.bind_some]
        rw [splitN]
        have l2 := cutC_len h2
        cases h3 : cutC 32 v with
        | none => rfl
        | some w3 =>
          obtain ⟨d, e⟩ := w3
          have l3 := cutC_len h3
          have hne : s ≠ [] := by intro e; rw [e] at h0; cases h0
          have hok : okR (mkR a b c d e) := mkR_ok (by omega) (by omega) (by omega)
          have hfin := pparse_end hok hne hN hN2
          simp only [Option.bind_some, splitN]
          rw [show idxL [a, b, c, d, e] (0 : Int) = some a from rfl, show idxL [a, b, c, d, e] (1 : Int) = some b from rfl, show idxL [a, b, c, d, e] (2 : Int) = some c from rfl, show idxL [a, b, c, d, e] (4 : Int) = some e from rfl, show idxL [a, b, c, d, e] (3 : Int) = some d from rfl]
          simp only [Option.bind_some]
          rw [psplit_eq (by omega) hN, Option.bind_some, show ((([a, b, c, d, e] : List (List UInt8)).length : Int) != (5 : Int)) = false from rfl, cond_false]
          by_cases hd : d = [42]
          · subst hd
            rw [show ((([42] : List UInt8)) == ([42] : List UInt8)) = true from rfl, Bool.not_true, cond_false]
            exact hfin
          · rw [show (d == ([42] : List UInt8)) = false by simpa using hd, Bool.not_false, cond_true]
            have e1 : mkR a b c d e = ⟨a == [100, 101, 110, 121], b, c == [115, 117, 98], e, splitA 44 d⟩ := by unfold mkR; rw [if_neg hd]
            rw [← e1]
            exact hfin
theorem rparseR_eq {N : Nat} {s : List UInt8} (hs : s.length ≤ 900) (hN : 2000000 < N) (hN2 : N ≤ 9223372036854775808) : prefectref17_Parse N s = some (match rdR s with | some r => (r, true) | none => (noR, false)) := by
  unfold prefectref17_Parse rdR
  rw [word_eq (by omega) (by omega), Option.bind_some]
  have hz : ∀ (x0 x1 x2 x3 : List UInt8 × List UInt8 × Bool) (r : api_Rule), (x0.2.2 && (x1.2.2 && (x2.2.2 && x3.2.2))) = false → prefectref17_Parse_j12 s N x0 x1 x2 x3 r = some (noR, false) := by
    intro x0 x1 x2 x3 r h
    unfold prefectref17_Parse_j12
    cases g0 : x0.2.2 <;> cases g1 : x1.2.2 <;> cases g2 : x2.2.2 <;> cases g3 : x3.2.2 <;> simp_all <;> rfl
  have wd : ∀ v : List UInt8, v.length ≤ 900 → prefectref17_word N v = some (match cutC 32 v with | some x => (x.1, x.2, true) | none => ([], [], false)) := fun v hv => word_eq (by omega) (by omega)
  have sp : ∀ v : List UInt8, v.length ≤ 900 → prefectref17_split N v = some (splitA 44 v) := fun v hv => rsplit_eq (by omega) hN
  have nil : cutC 32 [] = none := rfl
  cases h0 : cutC 32 s with
  | none =>
    simp only [wd [] (by simp), nil, Option.bind_some, sp [] (by simp)]
    rw [hz _ _ _ _ _ rfl, hz _ _ _ _ _ rfl]; rfl
  | some w0 =>
    obtain ⟨a, v⟩ := w0
    have l0 := cutC_len h0
    simp only [Option.bind_some, wd v (by omega)]
    cases h1 : cutC 32 v with
    | none =>
      simp only [wd [] (by simp), nil, Option.bind_some, sp [] (by simp)]
      rw [hz _ _ _ _ _ rfl, hz _ _ _ _ _ rfl]; rfl
    | some w1 =>
      obtain ⟨b, v⟩ := w1
      have l1 := cutC_len h1
      simp only [Option.bind_some, wd v (by omega)]
      cases h2 : cutC 32 v with
      | none =>
        simp only [wd [] (by simp), nil, Option.bind_some, sp [] (by simp)]
        rw [hz _ _ _ _ _ rfl, hz _ _ _ _ _ rfl]; rfl
      | some w2 =>
        obtain ⟨c, v⟩ := w2
        have l2 := cutC_len h2
        simp only [Option.bind_some, wd v (by omega)]
        cases h3 : cutC 32 v with
        | none =>
          simp only [Option.bind_some, sp [] (by simp)]
          rw [hz _ _ _ _ _ rfl, hz _ _ _ _ _ rfl]; rfl
        | some w3 =>
          obtain ⟨d, e⟩ := w3
          have l3 := cutC_len h3
          have hok : okR (mkR a b c d e) := mkR_ok (by omega) (by omega) (by omega)
          have fin : prefectref17_Parse_j12 s N (a, v, true) (b, v, true) (c, v, true) (d, e, true) (mkR a b c d e) = some (match (if (ruleS (mkR a b c d e) && ruleT (mkR a b c d e) == s) = true then some (mkR a b c d e) else none) with | some r => (r, true) | none => (noR, false)) := by
            unfold prefectref17_Parse_j12
            rw [isRule_eq hok hN hN2, rulePrint_eq hok hN]
            simp only [Option.bind_some]
            cases ruleS (mkR a b c d e) <;> cases ruleT (mkR a b c d e) == s <;> rfl
          simp only [Option.bind_some]
          rw [sp d (by omega), Option.bind_some]
          by_cases hd : d = [42]
          · subst hd
            rw [show ((([42] : List UInt8)) == ([42] : List UInt8)) = true from rfl, Bool.not_true, cond_false]
            exact fin
          · rw [show (d == ([42] : List UInt8)) = false by simpa using hd, Bool.not_false, cond_true]
            have e1 : mkR a b c d e = ⟨a == [100, 101, 110, 121], b, c == [115, 117, 98], e, splitA 44 d⟩ := by unfold mkR; rw [if_neg hd]
            rw [← e1]
            exact fin
theorem eql_loop (N : Nat) : ∀ (b d a c : List (List UInt8)) (n : Nat), a.length = c.length → b.length = d.length → (a ++ b).length ≤ 1000000 → b.length < n →
    slices_Equal_string_string_l14 N (a ++ b) (c ++ d) n (a.length : Int) = some (if b = d then .inl () else .inr false) := by
  intro b
  induction b with
  | nil =>
    intro d a c n h1 h2 hs hn
    obtain ⟨n, rfl, _⟩ := fuel hn
    obtain rfl : d = [] := List.length_eq_zero_iff.1 h2.symm
    simp only [slices_Equal_string_string_l14, slices_Equal_string_string_l14_b]
    rw [len_end, cond_false]; rfl
  | cons x b ih =>
    intro d a c n h1 h2 hs hn
    obtain ⟨n, rfl, hn'⟩ := fuel hn
    cases d with
    | nil => simp at h2
    | cons y d =>
      have hal : (a ++ x :: b).length = a.length + b.length + 1 := by simp; omega
      simp only [slices_Equal_string_string_l14, slices_Equal_string_string_l14_b]
      rw [len_mid, cond_true, idx_mid, Option.bind_some, show ((a.length : Nat) : Int) = ((c.length : Nat) : Int) by rw [h1], idx_mid, Option.bind_some]
      by_cases hxy : x = y
      · subst hxy
        rw [BEq.rfl, Bool.not_true, cond_false, ← h1, suc_mid (a := a) (b := b) (x := x) (by omega)]
        have := ih d (a ++ [x]) (c ++ [x]) n (by simp [h1]) (by simpa using h2) (by simpa using hs) hn'
        rw [← app_mid, ← app_mid] at this
        rw [this]
        simp
      · rw [show (x == y) = false by simpa using hxy, Bool.not_false, cond_true, if_neg (by intro e; cases e; exact hxy rfl)]
theorem eql_eq {N : Nat} {a b : List (List UInt8)} (h : a.length ≤ 1000000) (hN : a.length < N) : slices_Equal_string_string N a b = some (a == b) := by
  unfold slices_Equal_string_string
  by_cases hl : a.length = b.length
  · have := eql_loop N a b [] [] N rfl hl (by simpa using h) hN
    simp only [List.nil_append, List.length_nil] at this
    rw [show ((a.length : Int) != (b.length : Int)) = false by simp [hl], cond_false, show ((0 : Int)) = ((0 : Nat) : Int) from rfl, this]
    by_cases e : a = b
    · rw [if_pos e, e, BEq.rfl]; rfl
    · rw [if_neg e, show (a == b) = false by simpa using e]; rfl
  · rw [show ((a.length : Int) != (b.length : Int)) = true by simp; omega, cond_true, show (a == b) = false by rw [Bool.eq_false_iff]; simp; intro e; exact hl (by rw [e])]
theorem reql_loop (N : Nat) (p q : api_Rule) : ∀ (b d a c : List (List UInt8)) (n : Nat), p.Attrs = a ++ b → q.Attrs = c ++ d → a.length = c.length → b.length = d.length → (a ++ b).length ≤ 1000000 → b.length < n →
    prefectref17_SameRule_l14 N p q n (a.length : Int) = some (if b = d then .inl () else .inr false) := by
  intro b
  induction b with
  | nil =>
    intro d a c n hp hq h1 h2 hs hn
    obtain ⟨n, rfl, _⟩ := fuel hn
    obtain rfl : d = [] := List.length_eq_zero_iff.1 h2.symm
    simp only [prefectref17_SameRule_l14, prefectref17_SameRule_l14_b]
    rw [hp, len_end, cond_false]; rfl
  | cons x b ih =>
    intro d a c n hp hq h1 h2 hs hn
    obtain ⟨n, rfl, hn'⟩ := fuel hn
    cases d with
    | nil => simp at h2
    | cons y d =>
      have hal : (a ++ x :: b).length = a.length + b.length + 1 := by simp; omega
      have hi : idxL q.Attrs ((a.length : Nat) : Int) = some y := by rw [hq, show ((a.length : Nat) : Int) = ((c.length : Nat) : Int) by rw [h1], idx_mid]
      simp only [prefectref17_SameRule_l14, prefectref17_SameRule_l14_b]
      rw [hi, hp, len_mid, cond_true, idx_mid, Option.bind_some, Option.bind_some]
      by_cases hxy : x = y
      · subst hxy
        rw [BEq.rfl, Bool.not_true, cond_false, suc_mid (a := a) (b := b) (x := x) (by omega)]
        have := ih d (a ++ [x]) (c ++ [x]) n (by rw [hp]; simp) (by rw [hq]; simp) (by simp [h1]) (by simpa using h2) (by simpa using hs) hn'
        rw [this]
        simp
      · rw [show (x == y) = false by simpa using hxy, Bool.not_false, cond_true, if_neg (by intro e; cases e; exact hxy rfl)]
def sameR (a b : api_Rule) : Bool := decide (a = b)
theorem sameR_bits (a b : api_Rule) : sameR a b = (a.Deny == b.Deny && (a.Rights == b.Rights && (a.Sub == b.Sub && (a.Who == b.Who && a.Attrs == b.Attrs)))) := by
  unfold sameR
  obtain ⟨a1, a2, a3, a4, a5⟩ := a
  obtain ⟨b1, b2, b3, b4, b5⟩ := b
  rw [Bool.eq_iff_iff]
  simp
theorem same_eq {N : Nat} {a b : api_Rule} (h : a.Attrs.length ≤ 1000000) (hN : a.Attrs.length < N) : aci_Same N a b = some (sameR a b) := by
  unfold aci_Same
  rw [eql_eq h hN, sameR_bits]
  cases a.Deny == b.Deny <;> cases a.Rights == b.Rights <;> cases a.Sub == b.Sub <;> cases a.Who == b.Who <;> rfl
theorem rsame_eq {N : Nat} {a b : api_Rule} (h : a.Attrs.length ≤ 1000000) (hN : a.Attrs.length < N) : prefectref17_SameRule N a b = some (sameR a b) := by
  unfold prefectref17_SameRule
  rw [sameR_bits]
  by_cases hl : a.Attrs.length = b.Attrs.length
  · have := reql_loop N a b a.Attrs b.Attrs [] [] N rfl rfl rfl hl (by simpa using h) hN
    simp only [List.length_nil] at this
    rw [show ((a.Attrs.length : Int) != (b.Attrs.length : Int)) = false by simp [hl], show ((0 : Int)) = ((0 : Nat) : Int) from rfl, this]
    by_cases e : a.Attrs = b.Attrs
    · rw [if_pos e, show (a.Attrs == b.Attrs) = true by rw [e, BEq.rfl]]
      cases a.Deny == b.Deny <;> cases a.Rights == b.Rights <;> cases a.Sub == b.Sub <;> cases a.Who == b.Who <;> rfl
    · rw [if_neg e, show (a.Attrs == b.Attrs) = false by simpa using e]
      cases a.Deny == b.Deny <;> cases a.Rights == b.Rights <;> cases a.Sub == b.Sub <;> cases a.Who == b.Who <;> rfl
  · rw [show ((a.Attrs.length : Int) != (b.Attrs.length : Int)) = true by simp; omega, show (a.Attrs == b.Attrs) = false by rw [Bool.eq_false_iff]; simp; intro e; exact hl (by rw [e])]
    cases a.Deny == b.Deny <;> cases a.Rights == b.Rights <;> cases a.Sub == b.Sub <;> cases a.Who == b.Who <;> rfl
def fewS (r : api_Rule) : Bool := r.Attrs.all (fun s => decide (s.length ≤ 30)) && (decide (r.Attrs.length ≤ 20) && (decide (r.Rights.length ≤ 20) && decide (r.Who.length ≤ 200)))
theorem few_loop (N : Nat) (r : api_Rule) : ∀ (b a : List (List UInt8)) (n : Nat), r.Attrs = a ++ b → (a ++ b).length ≤ 9223372036854775807 → b.length < n →
    prefectlaw18_fewRule_l6 N r n (a.length : Int) = some (bif b.all (fun s => decide (s.length ≤ 30)) then .inl () else .inr false) := by
  intro b
  induction b with
  | nil =>
    intro a n hr hs hn
    obtain ⟨n, rfl, _⟩ := fuel hn
    simp only [prefectlaw18_fewRule_l6, prefectlaw18_fewRule_l6_b]
    rw [hr, len_end, cond_false]; rfl
  | cons x b ih =>
    intro a n hr hs hn
    obtain ⟨n, rfl, hn'⟩ := fuel hn
    simp only [prefectlaw18_fewRule_l6, prefectlaw18_fewRule_l6_b]
    rw [hr, len_mid, cond_true, idx_mid, Option.bind_some, suc_mid (a := a) (b := b) (x := x) hs, ih (a ++ [x]) n (by rw [hr]; simp) (by simpa using hs) hn', List.all_cons]
    by_cases h : x.length ≤ 30
    · rw [decide_eq_false (by omega), decide_eq_true h]; rfl
    · rw [decide_eq_true (by omega), decide_eq_false h]; rfl
theorem few_eq {N : Nat} {r : api_Rule} (h : r.Attrs.length ≤ 9223372036854775807) (hN : r.Attrs.length < N) : prefectlaw18_fewRule N r = some (fewS r) := by
  unfold prefectlaw18_fewRule fewS
  have := few_loop N r r.Attrs [] N rfl (by simpa using h) hN
  simp only [List.length_nil] at this
  rw [show ((0 : Int)) = ((0 : Nat) : Int) from rfl, this]
  have e1 : decide ((r.Attrs.length : Int) ≤ (20 : Int)) = decide (r.Attrs.length ≤ 20) := by rw [Bool.eq_iff_iff]; simp; omega
  have e2 : decide ((r.Rights.length : Int) ≤ (20 : Int)) = decide (r.Rights.length ≤ 20) := by rw [Bool.eq_iff_iff]; simp; omega
  have e3 : decide ((r.Who.length : Int) ≤ (200 : Int)) = decide (r.Who.length ≤ 200) := by rw [Bool.eq_iff_iff]; simp; omega
  rw [e1, e2, e3]
  cases r.Attrs.all (fun s => decide (s.length ≤ 30)) <;> cases decide (r.Attrs.length ≤ 20) <;> cases decide (r.Rights.length ≤ 20) <;> rfl
theorem few_ok {r : api_Rule} (h : fewS r = true) : okR r := by
  unfold fewS at h
  simp only [Bool.and_eq_true, List.all_eq_true, decide_eq_true_eq] at h
  obtain ⟨h1, h2, h3, h4⟩ := h
  exact ⟨by omega, fun s hs => by have := h1 s hs; omega, by omega, by omega⟩
end Go.Gp
end
section
set_option linter.unusedVariables false
set_option linter.unusedSimpArgs false
namespace Go.Gp
open Go.Vd
theorem tknown_big : prefectlaw18_known 9223372036854775808 = some true := by decide +kernel
theorem rdR_ok {s : List UInt8} {r : api_Rule} (hs : s.length ≤ 900) (h : rdR s = some r) : okR r := by
  unfold rdR at h
  rw [Option.bind_eq_some_iff] at h
  obtain ⟨w0, h0, h⟩ := h
  rw [Option.bind_eq_some_iff] at h
  obtain ⟨w1, h1, h⟩ := h
  rw [Option.bind_eq_some_iff] at h
  obtain ⟨w2, h2, h⟩ := h
  rw [Option.bind_eq_some_iff] at h
  obtain ⟨w3, h3, h⟩ := h
  have l0 := cutC_len (a := w0.1) (v := w0.2) h0
  have l1 := cutC_len (a := w1.1) (v := w1.2) h1
  have l2 := cutC_len (a := w2.1) (v := w2.2) h2
  have l3 := cutC_len (a := w3.1) (v := w3.2) h3
  split at h
  · cases h; exact mkR_ok (by omega) (by omega) (by omega)
  · cases h
theorem law_prefectlaw18_RuleTells (a0 a1 : api_Rule) (a2 : List UInt8) (h0 : b_api_Rule a0) (h1 : b_api_Rule a1) (h2 : a2.length ≤ maxLen) : ∃ N, prefectlaw18_RuleTells N a0 a1 a2 = some true := by
  refine ⟨9223372036854775808, ?_⟩
  have m0 : a0.Attrs.length ≤ 9223372036854775807 := by
    have := h0; unfold b_api_Rule maxLen at this; omega
  have m1 : a1.Attrs.length ≤ 9223372036854775807 := by
    have := h1; unfold b_api_Rule maxLen at this; omega
  unfold prefectlaw18_RuleTells
  rw [tknown_big, Option.bind_some, Bool.not_true, cond_false, few_eq m0 (by omega), few_eq m1 (by omega), Option.bind_some, Option.bind_some]
  cases f0 : fewS a0 with
  | false => rfl
  | true =>
    cases f1 : fewS a1 with
    | false => rfl
    | true =>
      have k0 := few_ok f0
      have k1 := few_ok f1
      have hN : 2000000 < 9223372036854775808 := by omega
      simp only [Bool.not_true, cond_false, Option.bind_some]
      by_cases hs : a2.length ≤ 200
      · rw [decide_eq_false (by omega), cond_false, isRule_eq k0 hN (Nat.le_refl _), Option.bind_some, rulePrint_eq k0 hN, Option.bind_some]
        have main : ∀ w, w = (if ruleS a0 then ruleT a0 else []) → prefectlaw18_RuleTells_j20 a0 a1 a2 9223372036854775808 w = some true := by
          intro w hw
          have hl : a0.Attrs.length ≤ 1000000 ∧ a0.Attrs.length < 9223372036854775808 := by have := k0.1; omega
          unfold prefectlaw18_RuleTells_j20
          rw [pparse_eq (by omega) hN (Nat.le_refl _), Option.bind_some, rparseR_eq (by omega) hN (Nat.le_refl _), Option.bind_some, aciIs_eq k0 hN (Nat.le_refl _), Option.bind_some, isRule_eq k0 hN (Nat.le_refl _), Option.bind_some, BEq.rfl, cond_true,
            aciPrint_eq k0 hN (Nat.le_refl _), Option.bind_some, ← hw, BEq.rfl, cond_true, same_eq hl.1 hl.2, Option.bind_some, rsame_eq hl.1 hl.2, Option.bind_some, BEq.rfl, cond_true]
          cases hr : rdR a2 with
          | none =>
            simp only
            rw [rsame_eq (by simp [noR]) (by simp [noR])]
            rfl
          | some r =>
            have kr := rdR_ok (by omega) hr
            have hl : r.Attrs.length ≤ 1000000 ∧ r.Attrs.length < 9223372036854775808 := by have := kr.1; omega
            simp only
            rw [rsame_eq hl.1 hl.2]
            simp only [BEq.rfl, cond_true, Option.bind_some]
            unfold sameR
            rw [decide_eq_true rfl]
        cases hr : ruleS a0 with
        | true => rw [cond_true]; exact main _ (by rw [hr]; rfl)
        | false => rw [cond_false]; exact main _ (by rw [hr]; rfl)
      · rw [decide_eq_true (by omega), cond_true]
end Go.Gp
end
