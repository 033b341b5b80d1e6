/- A part of the proof: functions of the program and what they compute. -/
import Derived.Test.YtbndinjjpafmjaaDoorA5
import Derived.Test.YtbndinjjpafmjaaDoorA12
section
set_option linter.unusedVariables false
set_option linter.unusedSimpArgs false
namespace Go.Gp
open Go.Vd
def lowB (c : UInt8) : UInt8 := if 65 ≤ c.toNat ∧ c.toNat ≤ 90 then c + 32 else c
def low (s : List UInt8) : List UInt8 := s.map lowB
def isUp (c : UInt8) : Bool := decide (65 ≤ c.toNat) && decide (c.toNat ≤ 90)
theorem up_cond (c : UInt8) : (bif decide (((c).toNat : Int) ≥ (65 : Int)) then some (decide (((c).toNat : Int) ≤ (90 : Int))) else some false) = some (isUp c) := by
  have := u8_all (p := fun c => (bif decide (((c).toNat : Int) ≥ (65 : Int)) then some (decide (((c).toNat : Int) ≤ (90 : Int))) else some false) == some (isUp c)) (by decide +kernel) c
  simpa using this
theorem low_up (c : UInt8) : lowB c = bif isUp c then c + 32 else c := by
  have := u8_all (p := fun c => lowB c == bif isUp c then c + 32 else c) (by decide +kernel) c
  simpa using this
theorem lower_loop (N : Nat) : ∀ (b a d : List UInt8) (n : Nat), (a ++ b).length ≤ 9223372036854775807 → b.length < n → d.length = a.length →
    dn_Lower_l8 N (a ++ b) n ((a.length : Int), d ++ b) = some (d ++ low b) := by
  intro b
  induction b with
  | nil =>
    intro a d n hs hn hd
    obtain ⟨n, rfl, _⟩ := fuel hn
    simp only [dn_Lower_l8, dn_Lower_l8_b]
    rw [len_end, cond_false]; rfl
  | cons c b ih =>
    intro a d n hs hn hd
    obtain ⟨n, rfl, hn'⟩ := fuel hn
    simp only [dn_Lower_l8, dn_Lower_l8_b, dn_Lower_j15]
    rw [len_mid, cond_true]
    have hnx : ∀ x, dn_Lower_l8 N (a ++ c :: b) n (w64 ((a.length : Int) + 1), d ++ x :: b) = some (d ++ x :: low b) := by
      intro x
      rw [suc_mid hs, app_mid a b c, app_mid d b x, ih (a ++ [c]) (d ++ [x]) n (by simpa using hs) hn' (by simp [hd])]
      simp
    rw [← hd, chk_mid, Option.bind_some, get_mid, Option.bind_some, up_cond]
    simp only [Option.bind_some, get_mid, set_mid]
    rw [hd, hnx, hnx]
    show _ = some (d ++ lowB c :: low b)
    rw [low_up]
    cases isUp c <;> rfl
theorem lower_eq {N : Nat} {s : List UInt8} (hs : s.length ≤ 9223372036854775807) (hN : s.length < N) : dn_Lower N s = some (low s) := by
  unfold dn_Lower
  have := lower_loop N s [] [] N hs hN rfl
  simp only [List.nil_append, List.length_nil] at this
  rw [show ((0 : Int)) = ((0 : Nat) : Int) from rfl, this]
  rfl
def tyA (c : UInt8) : Bool := decide (97 ≤ c.toNat) && decide (c.toNat ≤ 122)
def tyB (c : UInt8) : Bool := tyA c || (decide (48 ≤ c.toNat) && decide (c.toNat ≤ 57)) || decide (c.toNat = 45)
def isTypeS (s : List UInt8) : Bool := match s with
  | [] => false
  | c :: t => decide (t.length < 16) && (tyA c && (c :: t).all tyB)
theorem ty_cond (c : UInt8) (x y : Option (Unit ⊕ Bool)) : (Option.bind (bif decide (((c).toNat : Int) ≥ (97 : Int)) then some (decide (((c).toNat : Int) ≤ (122 : Int))) else some false) fun (g7 : Bool) =>
      bif g7 then x else Option.bind (bif decide (((c).toNat : Int) ≥ (48 : Int)) then some (decide (((c).toNat : Int) ≤ (57 : Int))) else some false) fun (g11 : Bool) =>
        bif g11 then (bif g11 then x else y) else (bif (((c).toNat : Int) == (45 : Int)) then x else y)) = bif tyB c then x else y := by
  have := u8_all (p := fun c => (Option.bind (bif decide (((c).toNat : Int) ≥ (97 : Int)) then some (decide (((c).toNat : Int) ≤ (122 : Int))) else some false) fun (g7 : Bool) =>
      bif g7 then some true else Option.bind (bif decide (((c).toNat : Int) ≥ (48 : Int)) then some (decide (((c).toNat : Int) ≤ (57 : Int))) else some false) fun (g11 : Bool) =>
        bif g11 then (bif g11 then some true else some false) else (bif (((c).toNat : Int) == (45 : Int)) then some true else some false)) == some (tyB c)) (by decide +kernel) c
  revert this
  cases decide (((c).toNat : Int) ≥ (97 : Int)) <;> cases decide (((c).toNat : Int) ≤ (122 : Int)) <;> cases decide (((c).toNat : Int) ≥ (48 : Int)) <;> cases decide (((c).toNat : Int) ≤ (57 : Int)) <;> cases (((c).toNat : Int) == (45 : Int)) <;> cases tyB c <;> simp
theorem ty_head (c : UInt8) : (bif decide (((c).toNat : Int) < (97 : Int)) then some true else some (decide (((c).toNat : Int) > (122 : Int)))) = some (!tyA c) := by
  have := u8_all (p := fun c => (bif decide (((c).toNat : Int) < (97 : Int)) then some true else some (decide (((c).toNat : Int) > (122 : Int)))) == some (!tyA c)) (by decide +kernel) c
  simpa using this
theorem type_loop (N : Nat) : ∀ (b a : List UInt8) (n : Nat), (a ++ b).length ≤ 9223372036854775807 → b.length < n →
    dn_IsType_l14 N (a ++ b) n (a.length : Int) = some (bif b.all tyB then .inl () else .inr false) := by
  intro b
  induction b with
  | nil =>
    intro a n hs hn
    obtain ⟨n, rfl, _⟩ := fuel hn
    simp only [dn_IsType_l14, dn_IsType_l14_b]
    rw [len_end, cond_false]; rfl
  | cons c b ih =>
    intro a n hs hn
    obtain ⟨n, rfl, hn'⟩ := fuel hn
    simp only [dn_IsType_l14, dn_IsType_l14_b, dn_IsType_j28, dn_IsType_j38]
    rw [len_mid, cond_true, chk_mid, Option.bind_some, get_mid, Option.bind_some, suc_mid hs]
    have := ih (a ++ [c]) n (by simpa using hs) hn'
    rw [← app_mid] at this
    rw [this, ty_cond, List.all_cons]
    cases tyB c <;> rfl
theorem isType_eq {N : Nat} {s : List UInt8} (hs : s.length ≤ 9223372036854775807) (hN : s.length < N) : dn_IsType N s = some (isTypeS s) := by
  unfold dn_IsType isTypeS
  cases s with
  | nil => rfl
  | cons c s =>
    have h0 : (c :: s == ([] : List UInt8)) = false := rfl
    have hi := idx_mid [] s c
    have hl := type_loop N (c :: s) [] N hs hN
    simp only [List.nil_append, List.length_nil] at hi hl
    rw [h0, cond_false, show ((0 : Int)) = ((0 : Nat) : Int) from rfl, hi]
    simp only [Option.bind_some, ty_head, hl]
    by_cases hl : s.length < 16
    · rw [decide_eq_false (show ¬ (((c :: s).length : Int) > 16) by rw [List.length_cons]; omega), cond_false, Option.bind_some, decide_eq_true hl, Bool.true_and]
      cases tyA c <;> cases (c :: s).all tyB <;> rfl
    · rw [decide_eq_true (show (((c :: s).length : Int) > 16) by rw [List.length_cons]; omega), decide_eq_false hl]
      rfl
end Go.Gp
end
section
set_option linter.unusedVariables false
set_option linter.unusedSimpArgs false
namespace Go.Gp
open Go.Vd
def okA (N : Nat) (a : api_AVA) : Prop := a.Attr.length < N ∧ a.Value.length < N
def avaS (a : api_AVA) : Bool := isTypeS a.Attr && (decide (1 ≤ a.Value.length) && decide (a.Value.length ≤ 60))
def rdnGo : List api_AVA → List api_AVA → Bool
  | _, [] => true
  | d, a :: r => avaS a && (!d.any (fun x => x.Attr == a.Attr) && rdnGo (d ++ [a]) r)
def isRDNS (r : List api_AVA) : Bool := decide (1 ≤ r.length) && (decide (r.length ≤ 4) && rdnGo [] r)
def isS (d : List (List api_AVA)) : Bool := decide (d.length ≤ 8) && d.all isRDNS
theorem contains_loop (N : Nat) (c : api_AVA) : ∀ (b a : List api_AVA) (n : Nat), (a ++ b).length ≤ 9223372036854775807 → b.length < n →
    ∃ i : Nat, slices_IndexFunc_api_RDN_api_AVA_c_dn_IsRDN_1_l6 N (a ++ b) c n (a.length : Int) = some (bif b.any (fun x => x.Attr == c.Attr) then .inr (i : Int) else .inl ()) := by
  intro b
  induction b with
  | nil =>
    intro a n hs hn
    obtain ⟨n, rfl, _⟩ := fuel hn
    simp only [slices_IndexFunc_api_RDN_api_AVA_c_dn_IsRDN_1_l6, slices_IndexFunc_api_RDN_api_AVA_c_dn_IsRDN_1_l6_b]
    rw [len_end, cond_false]; exact ⟨0, rfl⟩
  | cons x b ih =>
    intro a n hs hn
    obtain ⟨n, rfl, hn'⟩ := fuel hn
    obtain ⟨i, hi⟩ := ih (a ++ [x]) n (by simpa using hs) hn'
    rw [← app_mid] at hi
    simp only [slices_IndexFunc_api_RDN_api_AVA_c_dn_IsRDN_1_l6, slices_IndexFunc_api_RDN_api_AVA_c_dn_IsRDN_1_l6_b, dn_IsRDN_1]
    rw [len_mid, cond_true, idx_mid, Option.bind_some, Option.bind_some, suc_mid hs, hi, List.any_cons]
    cases x.Attr == c.Attr
    · exact ⟨i, rfl⟩
    · exact ⟨a.length, rfl⟩
theorem contains_eq {N : Nat} {l : List api_AVA} {c : api_AVA} (hs : l.length < N) (hN : N ≤ 9223372036854775808) : slices_ContainsFunc_api_RDN_api_AVA_c_dn_IsRDN_1 N l c = some (l.any (fun x => x.Attr == c.Attr)) := by
  unfold slices_ContainsFunc_api_RDN_api_AVA_c_dn_IsRDN_1 slices_IndexFunc_api_RDN_api_AVA_c_dn_IsRDN_1
  obtain ⟨i, hi⟩ := contains_loop N c l [] N (by simp; omega) hs
  simp only [List.nil_append, List.length_nil] at hi
  rw [show ((0 : Int)) = ((0 : Nat) : Int) from rfl, hi]
  cases l.any (fun x => x.Attr == c.Attr)
  · rfl
  · simp [Option.bind]
theorem isRDN_loop (N : Nat) (hN : N ≤ 9223372036854775808) (h5 : 5 < N) : ∀ (b a : List api_AVA) (n : Nat), (a ++ b).length < N → b.length < n → (∀ x ∈ b, okA N x) →
    dn_IsRDN_l6 N (a ++ b) n (a.length : Int) = some (bif decide ((a ++ b).length ≤ 4) && rdnGo a b || decide (b = []) then .inl () else .inr false) := by
  intro b
  induction b with
  | nil =>
    intro a n hs hn _
    obtain ⟨n, rfl, _⟩ := fuel hn
    simp only [dn_IsRDN_l6, dn_IsRDN_l6_b]
    rw [len_end, cond_false]; simp
  | cons x b ih =>
    intro a n hs hn hok
    obtain ⟨n, rfl, hn'⟩ := fuel hn
    have hi := ih (a ++ [x]) n (by simpa using hs) hn' (fun y hy => hok y (List.mem_cons_of_mem _ hy))
    rw [← app_mid] at hi
    have hx := hok x List.mem_cons_self
    simp only [dn_IsRDN_l6, dn_IsRDN_l6_b]
    rw [len_mid, cond_true, idx_mid, Option.bind_some, suc_mid (a := a) (b := b) (x := x) (by omega), hi, isType_eq (by have := hx.1; omega) hx.1, takeL_nat (by simp)]
    rw [List.take_left' rfl]
    have hal : (a ++ x :: b).length = a.length + b.length + 1 := by simp; omega
    simp only [Option.bind_some]
    rw [contains_eq (by omega) hN, Option.bind_some]
    by_cases h4 : a.length < 4
    · rw [decide_eq_false (show ¬ ((a.length : Int) ≥ 4) by omega), cond_false]
      have hv0 : (x.Value == ([] : List UInt8)) = !decide (1 ≤ x.Value.length) := by cases x.Value <;> simp
      have hv1 : decide ((x.Value.length : Int) > 60) = !decide (x.Value.length ≤ 60) := by rw [Bool.eq_iff_iff]; simp; omega
      rw [hv0, hv1]
      have hnil : decide (x :: b = []) = false := by simp
      rw [hnil, Bool.or_false, rdnGo, avaS]
      have hb : decide ((a ++ x :: b).length ≤ 4) = true ∨ (decide ((a ++ x :: b).length ≤ 4) = false ∧ decide (b = []) = false) := by
        by_cases hh : (a ++ x :: b).length ≤ 4
        · exact .inl (decide_eq_true hh)
        · refine .inr ⟨decide_eq_false hh, decide_eq_false fun e => hh ?_⟩
          subst e; rw [hal]; simp; omega
      have hgo : b = [] → rdnGo (a ++ [x]) b = true := by intro e; subst e; rfl
      have hgo' : (decide ((a ++ x :: b).length ≤ 4) && rdnGo (a ++ [x]) b || decide (b = [])) = (decide ((a ++ x :: b).length ≤ 4) && rdnGo (a ++ [x]) b) := by
        rcases hb with hb | ⟨hb, hb'⟩
        · by_cases e : b = []
          · rw [hb, hgo e]; simp
          · rw [decide_eq_false e, Bool.or_false]
        · rw [hb, hb']; rfl
      rw [hgo']
      cases isTypeS x.Attr <;> cases decide (1 ≤ x.Value.length) <;> cases decide (x.Value.length ≤ 60) <;> cases a.any (fun y => y.Attr == x.Attr) <;> cases decide ((a ++ x :: b).length ≤ 4) <;> cases rdnGo (a ++ [x]) b <;> rfl
    · rw [decide_eq_true (show ((a.length : Int) ≥ 4) by omega), decide_eq_false (show ¬ ((a ++ x :: b).length ≤ 4) by omega)]
      simp
theorem isRDN_eq {N : Nat} {r : List api_AVA} (hN : N ≤ 9223372036854775808) (h5 : 5 < N) (hr : r.length < N) (hok : ∀ x ∈ r, okA N x) : dn_IsRDN N r = some (isRDNS r) := by
  unfold dn_IsRDN
  have h := isRDN_loop N hN h5 r [] N (by simpa using hr) hr hok
  simp only [List.nil_append, List.length_nil] at h
  rw [show ((0 : Int)) = ((0 : Nat) : Int) from rfl, h]
  unfold isRDNS
  cases r with
  | nil => rfl
  | cons x r =>
    rw [decide_eq_true (show 1 ≤ (x :: r).length by simp)]
    have : decide (x :: r = []) = false := by simp
    rw [this, Bool.or_false, Bool.true_and]
    have : decide (((x :: r).length : Int) > ((0 : Nat) : Int)) = true := by simp
    cases decide ((x :: r).length ≤ 4) && rdnGo [] (x :: r)
    · rfl
    · simp [Option.bind]
end Go.Gp
end
section
set_option linter.unusedVariables false
set_option linter.unusedSimpArgs false
namespace Go.Gp
open Go.Vd
def preH (p : List UInt8) : List (List UInt8) → List (List UInt8)
  | [] => [p]
  | x :: xs => (p ++ x) :: xs
def cutS (sep : UInt8) : List UInt8 → List (List UInt8)
  | [] => [[]]
  | [c] => if c = 92 then [[c]] else if c = sep then [[], []] else [[c]]
  | c :: d :: s => if c = 92 then preH [c, d] (cutS sep s) else if c = sep then [] :: cutS sep (d :: s) else preH [c] (cutS sep (d :: s))
theorem preH_pre (p q : List UInt8) (l : List (List UInt8)) : preH p (preH q l) = preH (p ++ q) l := by cases l <;> simp [preH]
theorem preH_ne (p : List UInt8) (l : List (List UInt8)) : preH p l ≠ [] := by cases l <;> simp [preH]
theorem preH_nil {l : List (List UInt8)} (h : l ≠ []) : preH [] l = l := by cases l <;> simp_all [preH]
theorem cutS_ne (sep : UInt8) : ∀ s, cutS sep s ≠ []
  | [] => by simp [cutS]
  | [c] => by unfold cutS; split; simp; split <;> simp
  | c :: d :: s => by
    unfold cutS
    split
    · exact preH_ne _ _
    · split
      · simp
      · exact preH_ne _ _
theorem cutS_sep {sep : UInt8} (h : sep ≠ 92) (s : List UInt8) : cutS sep (sep :: s) = [] :: cutS sep s := by
  cases s with
  | nil => simp [cutS, h]
  | cons d s => rw [cutS, if_neg h, if_pos rfl]
theorem cutS_other {sep c : UInt8} (h : c ≠ 92) (h' : c ≠ sep) (s : List UInt8) : cutS sep (c :: s) = preH [c] (cutS sep s) := by
  cases s with
  | nil => simp [cutS, h, h', preH]
  | cons d s => rw [cutS, if_neg h, if_neg h']
theorem u8c_eq (c d : UInt8) : (((c.toNat : Nat) : Int) == ((d.toNat : Nat) : Int)) = decide (c = d) := by
  rw [u8_eq, Bool.eq_iff_iff]; simp
theorem is92 (c : UInt8) : (((c).toNat : Int) == (92 : Int)) = decide (c = 92) := by
  have := u8_all (p := fun c => (((c).toNat : Int) == (92 : Int)) == decide (c = 92)) (by decide +kernel) c
  simpa using this
theorem cut_loop (N : Nat) (sep : UInt8) : ∀ (k : Nat) (b a : List UInt8) (f : Nat) (out : List (List UInt8)) (n : Nat), b.length ≤ k → (a ++ b).length ≤ 1000000 → b.length < n → f ≤ a.length → out.length ≤ a.length →
    ∃ (f' : Nat) (out' : List (List UInt8)), dn_cut_l10 N (a ++ b) sep n ((f : Int), (a.length : Int), out) = some ((f' : Int), out') ∧ f' ≤ (a ++ b).length ∧ out'.length ≤ (a ++ b).length ∧ out' ++ [(a ++ b).drop f'] = out ++ preH (a.drop f) (cutS sep b) := by
  intro k
  induction k with
  | zero =>
    intro b a f out n hk hs hn hf ho
    obtain rfl : b = [] := List.length_eq_zero_iff.1 (by omega)
    obtain ⟨n, rfl, _⟩ := fuel hn
    simp only [dn_cut_l10, dn_cut_l10_b]
    rw [len_end, cond_false]
    exact ⟨f, out, rfl, by simpa using hf, by simpa using ho, by simp [cutS, preH]⟩
  | succ k ih =>
    intro b a f out n hk hs hn hf ho
    cases b with
    | nil =>
      obtain ⟨n, rfl, _⟩ := fuel hn
      simp only [dn_cut_l10, dn_cut_l10_b]
      rw [len_end, cond_false]
      exact ⟨f, out, rfl, by simpa using hf, by simpa using ho, by simp [cutS, preH]⟩
    | cons c b =>
      obtain ⟨n, rfl, hn'⟩ := fuel hn
      have hal : (a ++ c :: b).length = a.length + b.length + 1 := by simp; omega
      simp only [dn_cut_l10, dn_cut_l10_b, dn_cut_j17]
      rw [len_mid, cond_true, idx_mid, Option.bind_some, is92, u8c_eq, suc_mid (a := a) (b := b) (x := c) (by omega)]
      by_cases hc : c = 92
      · rw [decide_eq_true hc, cond_true, w64_succ (by simp; omega)]
        cases b with
        | nil =>
          obtain ⟨n, rfl, _⟩ := fuel (k := 0) (n := n) (by simp at hn; omega)
          simp only [dn_cut_l10, dn_cut_l10_b]
          rw [dec_lt_nat, decide_eq_false (by simp), cond_false]
          refine ⟨f, out, rfl, by simp; omega, by simp; omega, ?_⟩
          rw [cutS, if_pos hc, List.drop_append_of_le_length hf]
          rfl
        | cons d s =>
          obtain ⟨f', out', h1, h2, h3, h4⟩ := ih s (a ++ [c, d]) f out n (by simp at hk; omega) (by simpa using hs) (by simp at hn; omega) (by simp; omega) (by simp; omega)
          have e : a ++ c :: d :: s = a ++ [c, d] ++ s := by simp
          have el : ((((a ++ [c]).length + 1 : Nat)) : Int) = ((a ++ [c, d]).length : Int) := by simp; omega
          rw [e, el]
          refine ⟨f', out', h1, h2, h3, ?_⟩
          · rw [h4, cutS, if_pos hc, preH_pre, List.drop_append_of_le_length hf]
      · rw [decide_eq_false hc, cond_false]
        have e : a ++ c :: b = a ++ [c] ++ b := by simp
        by_cases hp : c = sep
        · rw [decide_eq_true hp, cond_true, cutL_nat hf (by omega), Option.bind_some, appL_ok (by simp; omega), Option.bind_some, List.take_left' rfl]
          obtain ⟨f', out', h1, h2, h3, h4⟩ := ih b (a ++ [c]) (a ++ [c]).length (out ++ [a.drop f]) n (by simp at hk; omega) (by simpa using hs) (by simp at hn; omega) (by omega) (by simp; omega)
          rw [e]
          refine ⟨f', out', h1, h2, h3, ?_⟩
          · rw [h4, List.drop_length, preH_nil (cutS_ne _ _)]
            subst hp
            rw [cutS_sep hc]
            simp [preH]
        · rw [decide_eq_false hp, cond_false]
          obtain ⟨f', out', h1, h2, h3, h4⟩ := ih b (a ++ [c]) f out n (by simp at hk; omega) (by simpa using hs) (by simp at hn; omega) (by simp; omega) (by simp; omega)
          rw [e]
          refine ⟨f', out', h1, h2, h3, ?_⟩
          rw [h4, cutS_other hc hp, preH_pre, List.drop_append_of_le_length hf]
theorem cut_eq {N : Nat} {s : List UInt8} {sep : UInt8} (hs : s.length ≤ 1000000) (hN : s.length < N) : dn_cut N s sep = some (cutS sep s) := by
  unfold dn_cut
  obtain ⟨f', out', h1, h2, h3, h4⟩ := cut_loop N sep s.length s [] 0 [] N (Nat.le_refl _) hs hN (Nat.le_refl _) (Nat.le_refl _)
  simp only [List.nil_append, List.length_nil, List.drop_nil] at h1 h2 h3 h4
  rw [show ((0 : Int)) = ((0 : Nat) : Int) from rfl, h1, Option.bind_some]
  simp only
  rw [dropL_nat h2, Option.bind_some, appL_ok (by simp; omega), Option.bind_some, h4, preH_nil (cutS_ne _ _)]
def cutE : List UInt8 → Option (List UInt8 × List UInt8)
  | [] => none
  | c :: s => if c = 61 then some ([], s) else (cutE s).map fun x => (c :: x.1, x.2)
theorem cutE_some {s a v : List UInt8} (h : cutE s = some (a, v)) : s = a ++ 61 :: v ∧ ∀ c ∈ a, c ≠ 61 := by
  induction s generalizing a v with
  | nil => cases h
  | cons c s ih =>
    unfold cutE at h
    split at h
    · rename_i hc; subst hc; cases h; exact ⟨rfl, by simp⟩
    · rename_i hc
      rw [Option.map_eq_some_iff] at h
      obtain ⟨⟨a', v'⟩, h1, h2⟩ := h
      cases h2
      obtain ⟨e, h3⟩ := ih h1
      exact ⟨by rw [e]; rfl, by intro d hd; rcases List.mem_cons.1 hd with rfl | hd; exact hc; exact h3 d hd⟩
theorem indexByte_cut : ∀ s : List UInt8, Lib.indexByte s 61 = match cutE s with | some x => (x.1.length : Int) | none => -1
  | [] => rfl
  | c :: s => by
    rw [Lib.indexByte, cutE, indexByte_cut s]
    by_cases h : c = 61
    · subst h; rfl
    · have : (c == 61) = false := by simpa using h
      rw [if_neg h]
      simp only [this]
      cases cutE s with
      | none => simp
      | some x => simp
theorem scut_eq {N : Nat} {s : List UInt8} (hs : s.length ≤ 1000000) : strings_Cut N s [61] = some (match cutE s with | some x => (x.1, x.2, true) | none => (s, [], false)) := by
  unfold strings_Cut internal_stringslite_Cut stringslite_Index
  simp only [Option.bind_some]
  rw [indexByte_cut]
  cases h : cutE s with
  | none => rfl
  | some x =>
    obtain ⟨a, v⟩ := x
    obtain ⟨e, _⟩ := cutE_some h
    simp only
    have hl : s.length = a.length + v.length + 1 := by rw [e]; simp; omega
    rw [decide_eq_true (by omega), cond_true, takeL_nat (by omega), Option.bind_some, show (([61] : List UInt8).length : Int) = 1 from rfl, w64_succ (by omega), dropL_nat (by omega), Option.bind_some, Option.bind_some]
    rw [e, List.take_left' rfl, app_mid, List.drop_left' (by simp)]
end Go.Gp
end
section
set_option linter.unusedVariables false
set_option linter.unusedSimpArgs false
namespace Go.Gp
open Go.Vd
def hexT : List UInt8 := [48, 49, 50, 51, 52, 53, 54, 55, 56, 57, 97, 98, 99, 100, 101, 102]
def hexV (c : UInt8) : Int := Lib.indexByte hexT (lowB c)
def spc (c : UInt8) : Bool := decide (Lib.indexByte ([44, 43, 34, 92, 60, 62, 59] : List UInt8) c ≥ 0)
def mayC (c : UInt8) : Bool := decide (Lib.indexByte ([44, 43, 34, 92, 60, 62, 59, 35, 61, 32] : List UInt8) c ≥ 0)
def hx2 (d e : UInt8) : UInt8 := shlB (byte (mx (hexV d) 0)) 4 ||| byte (mx (hexV e) 0)
theorem digit_some {N : Nat} {s : List UInt8} {i : Nat} {c : UInt8} (h : s[i]? = some c) (hs : s.length ≤ 1000000) (h2 : 2 < N) : dn_digit N s (i : Int) = some (byte (mx (hexV c) 0), decide (hexV c ≥ 0)) := by
  have hi := (List.getElem?_eq_some_iff.1 h).1
  unfold dn_digit
  rw [decide_eq_false (by omega), cond_false, w64_succ (by omega), cutL_nat (by omega) (by omega), Option.bind_some, take_succ h]
  have : (s.take i ++ [c]).drop i = [c] := by
    rw [List.drop_left' (by simp; omega)]
  rw [this, lower_eq (by simp) (by simp; omega), Option.bind_some, show ((0 : Int)) = ((0 : Nat) : Int) from rfl, idxL_nat]
  rfl
theorem digit_none {N : Nat} {s : List UInt8} {i : Nat} (h : s.length ≤ i) : dn_digit N s (i : Int) = some (0, false) := by
  unfold dn_digit
  rw [decide_eq_true (by omega)]; rfl
theorem is35 (c : UInt8) : (((c).toNat : Int) == (35 : Int)) = decide (c = 35) := by
  have := u8_all (p := fun c => (((c).toNat : Int) == (35 : Int)) == decide (c = 35)) (by decide +kernel) c
  simpa using this
theorem is32 (c : UInt8) : (((c).toNat : Int) == (32 : Int)) = decide (c = 32) := by
  have := u8_all (p := fun c => (((c).toNat : Int) == (32 : Int)) == decide (c = 32)) (by decide +kernel) c
  simpa using this
def unS : List UInt8 → Bool → Option (List UInt8 × Bool)
  | [], bl => some ([], bl)
  | c :: s, _ =>
    if c = 92 then
      match s with
      | [] => none
      | d :: s => if mayC d then (unS s false).map fun x => (d :: x.1, x.2) else
        match s with
        | [] => none
        | e :: s => if 0 ≤ hexV d ∧ 0 ≤ hexV e then (unS s false).map fun x => (hx2 d e :: x.1, x.2) else none
    else if spc c then none else (unS s (decide (c = 32))).map fun x => (c :: x.1, x.2)
def plS : Bool → List UInt8 → Option (List UInt8)
  | _, [] => some []
  | f, c :: s =>
    if c = 92 then
      match s with
      | [] => none
      | d :: s => if mayC d then (plS false s).map (d :: ·) else
        match s with
        | [] => none
        | e :: s => if 0 ≤ hexV d ∧ 0 ≤ hexV e then (plS false s).map (hx2 d e :: ·) else none
    else if spc c || (f && (decide (c = 35) || decide (c = 32))) || (decide (s = []) && decide (c = 32)) then none else (plS false s).map (c :: ·)
theorem unS_cons (c : UInt8) (s : List UInt8) (bl : Bool) : unS (c :: s) bl = if c = 92 then
      match s with
      | [] => none
      | d :: s => if mayC d then (unS s false).map fun x => (d :: x.1, x.2) else
        match s with
        | [] => none
        | e :: s => if 0 ≤ hexV d ∧ 0 ≤ hexV e then (unS s false).map fun x => (hx2 d e :: x.1, x.2) else none
    else if spc c then none else (unS s (decide (c = 32))).map fun x => (c :: x.1, x.2) := by
  rw [unS.eq_def]
theorem plS_cons (f : Bool) (c : UInt8) (s : List UInt8) : plS f (c :: s) = if c = 92 then
      match s with
      | [] => none
      | d :: s => if mayC d then (plS false s).map (d :: ·) else
        match s with
        | [] => none
        | e :: s => if 0 ≤ hexV d ∧ 0 ≤ hexV e then (plS false s).map (hx2 d e :: ·) else none
    else if spc c || (f && (decide (c = 35) || decide (c = 32))) || (decide (s = []) && decide (c = 32)) then none else (plS false s).map (c :: ·) := by
  rw [plS.eq_def]
theorem un_loop (N : Nat) (hN : 2 < N) : ∀ (k : Nat) (b a out : List UInt8) (bl : Bool) (n : Nat), b.length ≤ k → (a ++ b).length ≤ 1000000 → b.length < n → out.length ≤ a.length →
    dn_unescape_l18 N (a ++ b) n (bl, (a.length : Int), out) = some (match unS b bl with | some x => .inl (x.2, out ++ x.1) | none => .inr ([], false)) := by
  intro k
  induction k with
  | zero =>
    intro b a out bl n hk hs hn ho
    obtain rfl : b = [] := List.length_eq_zero_iff.1 (by omega)
    obtain ⟨n, rfl, _⟩ := fuel hn
    simp only [dn_unescape_l18, dn_unescape_l18_b]
    rw [len_end, cond_false]
    simp [unS]
  | succ k ih =>
    intro b a out bl n hk hs hn ho
    cases b with
    | nil =>
      obtain ⟨n, rfl, _⟩ := fuel hn
      simp only [dn_unescape_l18, dn_unescape_l18_b]
      rw [len_end, cond_false]
      simp [unS]
    | cons c b =>
      obtain ⟨n, rfl, hn'⟩ := fuel hn
      have hal : (a ++ c :: b).length = a.length + b.length + 1 := by simp; omega
      have e1 : a ++ c :: b = a ++ [c] ++ b := by simp
      have ha : a.length < 1000000 := by omega
      simp only [dn_unescape_l18, dn_unescape_l18_b, dn_unescape_j25]
      rw [len_mid, cond_true, idx_mid, Option.bind_some, is92, is32, w64_succ (i := a.length) (by omega), unS_cons]
      by_cases hc : c = 92
      · rw [decide_eq_true hc, cond_true, if_pos hc]
        have h32 : decide (c = 32) = false := by subst hc; decide
        rw [h32]
        cases b with
        | nil =>
          rw [dec_lt_nat, decide_eq_false (by simp), cond_false, Option.bind_some, cond_false, digit_none (by simp), Option.bind_some, w64_succ (by omega), digit_none (by simp), Option.bind_some]
          rfl
        | cons d s =>
          have hd : (a ++ c :: d :: s)[a.length + 1]? = some d := by
            have := get_mid (a ++ [c]) s d
            simp only [List.append_assoc, List.length_append, List.length_cons, List.length_nil] at this
            exact this
          rw [dec_lt_nat, decide_eq_true (by simp), cond_true, idxL_lt hd, Option.bind_some]
          unfold strings_IndexByte
          simp only [Option.bind_some]
          rw [show decide (Lib.indexByte ([44, 43, 34, 92, 60, 62, 59, 35, 61, 32] : List UInt8) d ≥ 0) = mayC d from rfl]
          by_cases hm : mayC d = true
          · rw [hm, cond_true, if_pos rfl, appL_ok (by simp; omega), Option.bind_some, w64_succ (by omega)]
            have := ih s (a ++ [c, d]) (out ++ [d]) false n (by simp at hk; omega) (by simpa using hs) (by simp at hn; omega) (by simp; omega)
            have e : a ++ c :: d :: s = a ++ [c, d] ++ s := by simp
            have el : ((((a.length + 1 + 1 : Nat)) : Int)) = ((a ++ [c, d]).length : Int) := by simp; omega
            rw [e, el, this]
            cases unS s false <;> simp
          · have hm' : mayC d = false := by simpa using hm
            rw [hm', cond_false, digit_some hd (by omega) hN, Option.bind_some, w64_succ (by omega), if_neg (by simp)]
            cases s with
            | nil =>
              rw [digit_none (by simp), Option.bind_some]
              simp only
              cases decide (hexV d ≥ 0) <;> rfl
            | cons e s =>
              have he : (a ++ c :: d :: e :: s)[a.length + 1 + 1]? = some e := by
                have := get_mid (a ++ [c, d]) s e
                simp only [List.append_assoc, List.length_append, List.length_cons, List.length_nil] at this
                exact this
              rw [digit_some he (by omega) hN, Option.bind_some]
              simp only
              by_cases h1 : 0 ≤ hexV d
              · by_cases h2 : 0 ≤ hexV e
                · rw [decide_eq_true h1, decide_eq_true h2, if_pos ⟨h1, h2⟩]
                  simp only [Bool.not_true, cond_false, Option.bind_some]
                  rw [appL_ok (by simp; omega), Option.bind_some, w64_succ (by omega)]
                  have := ih s (a ++ [c, d, e]) (out ++ [hx2 d e]) false n (by simp at hk; omega) (by simpa using hs) (by simp at hn; omega) (by simp; omega)
                  have e' : a ++ c :: d :: e :: s = a ++ [c, d, e] ++ s := by simp
                  have el : ((((a.length + 1 + 1 + 1 : Nat)) : Int)) = ((a ++ [c, d, e]).length : Int) := by simp; omega
                  rw [e', el]
                  refine Eq.trans this ?_
                  cases unS s false <;> simp
                · rw [decide_eq_true h1, decide_eq_false h2, if_neg (by simp [h2])]
                  rfl
              · rw [decide_eq_false h1, if_neg (by simp [h1])]
                rfl
      · rw [decide_eq_false hc, cond_false, if_neg hc]
        unfold strings_IndexByte
        simp only [Option.bind_some]
        rw [show decide (Lib.indexByte ([44, 43, 34, 92, 60, 62, 59] : List UInt8) c ≥ 0) = spc c from rfl]
        by_cases hsp : spc c = true
        · rw [hsp, cond_true, if_pos rfl]
        · have hsp' : spc c = false := by simpa using hsp
          rw [hsp', cond_false, if_neg (by simp), appL_ok (by simp; omega), Option.bind_some]
          have := ih b (a ++ [c]) (out ++ [c]) (decide (c = 32)) n (by simp at hk; omega) (by simpa using hs) (by simp at hn; omega) (by simp; omega)
          have el : ((((a.length + 1 : Nat)) : Int)) = ((a ++ [c]).length : Int) := by simp
          rw [e1, el, this]
          cases unS b (decide (c = 32)) <;> simp
end Go.Gp
end
section
set_option linter.unusedVariables false
set_option linter.unusedSimpArgs false
namespace Go.Gp
open Go.Vd
theorem at0 (a : List UInt8) : ((a.length : Int) == (0 : Int)) = decide (a = []) := by
  rw [Bool.eq_iff_iff]; cases a <;> simp; omega
theorem atEnd (a b : List UInt8) (c : UInt8) (h : (a ++ c :: b).length ≤ 1000000) : ((a.length : Int) == w64 (((a ++ c :: b).length : Int) - 1)) = decide (b = []) := by
  have hal : (a ++ c :: b).length = a.length + b.length + 1 := by simp; omega
  rw [w64_id (by omega) (by omega), hal, Bool.eq_iff_iff]
  cases b <;> simp
  omega
theorem un_pl : ∀ (k : Nat) (s : List UInt8), s.length ≤ k → (∀ v, plS false s = some v ↔ unS s false = some (v, false)) ∧ (s ≠ [] → unS s true = unS s false) := by
  intro k
  induction k with
  | zero =>
    intro s hk
    obtain rfl : s = [] := List.length_eq_zero_iff.1 (by omega)
    exact ⟨by intro v; simp [plS, unS], fun h => absurd rfl h⟩
  | succ k ih =>
    intro s hk
    cases s with
    | nil => exact ⟨by intro v; simp [plS, unS], fun h => absurd rfl h⟩
    | cons c s =>
      refine ⟨?_, fun _ => by rw [unS_cons, unS_cons]⟩
      intro v
      have lift : ∀ (c : UInt8) (s : List UInt8), s.length ≤ k → ∀ v, ((plS false s).map (c :: ·) = some v ↔ ((unS s false).map fun x => (c :: x.1, x.2)) = some (v, false)) := by
        intro c s hs v
        rw [Option.map_eq_some_iff, Option.map_eq_some_iff]
        constructor
        · rintro ⟨w, h1, rfl⟩
          exact ⟨(w, false), ((ih s hs).1 w).1 h1, rfl⟩
        · rintro ⟨⟨w, b⟩, h1, h2⟩
          simp only [Prod.mk.injEq] at h2
          obtain ⟨rfl, rfl⟩ := h2
          exact ⟨w, ((ih s hs).1 w).2 h1, rfl⟩
      rw [plS_cons, unS_cons]
      by_cases hc : c = 92
      · rw [if_pos hc, if_pos hc]
        cases s with
        | nil => simp
        | cons d s =>
          simp only
          by_cases hm : mayC d = true
          · rw [if_pos hm, if_pos hm]
            exact lift d s (by simp at hk; omega) v
          · rw [if_neg hm, if_neg hm]
            cases s with
            | nil => simp
            | cons e s =>
              simp only
              by_cases hh : 0 ≤ hexV d ∧ 0 ≤ hexV e
              · rw [if_pos hh, if_pos hh]
                exact lift _ s (by simp at hk; omega) v
              · rw [if_neg hh, if_neg hh]; simp
      · rw [if_neg hc, if_neg hc]
        simp only [Bool.false_and, Bool.or_false]
        by_cases hsp : spc c = true
        · rw [hsp]; simp
        · have hsp' : spc c = false := by simpa using hsp
          rw [hsp']
          simp only [Bool.false_or]
          rw [if_neg (show ¬ (false = true) by simp)]
          by_cases h32 : c = 32
          · rw [decide_eq_true h32, Bool.and_true]
            by_cases hs : s = []
            · subst hs
              simp [unS]
            · rw [decide_eq_false hs, if_neg (by simp), (ih s (by simp at hk; omega)).2 hs]
              exact lift c s (by simp at hk; omega) v
          · rw [decide_eq_false h32, Bool.and_false, if_neg (by simp)]
            exact lift c s (by simp at hk; omega) v
theorem pl_first (s : List UInt8) : plS true s = if s.head? = some 35 ∨ s.head? = some 32 then none else plS false s := by
  cases s with
  | nil => simp [plS]
  | cons c s =>
    rw [plS_cons, plS_cons]
    by_cases hc : c = 92
    · subst hc
      rw [if_pos rfl, if_pos rfl, if_neg (by simp)]
    · rw [if_neg hc, if_neg hc]
      by_cases h1 : c = 35
      · subst h1; simp
      · by_cases h2 : c = 32
        · subst h2; simp
        · simp [h1, h2]
theorem hasPrefix1 (N : Nat) (s : List UInt8) (c : UInt8) : strings_HasPrefix N s [c] = some (decide (s.head? = some c)) := by
  unfold strings_HasPrefix internal_stringslite_HasPrefix
  cases s with
  | nil => rfl
  | cons d s =>
    rw [decide_eq_true (by simp; omega), cond_true, show ((([c] : List UInt8).length : Nat) : Int) = ((1 : Nat) : Int) from rfl, takeL_nat (by simp)]
    simp
    rw [Bool.eq_iff_iff]; simp
theorem unescape_eq {N : Nat} {s : List UInt8} (hs : s.length ≤ 1000000) (hN : s.length < N) (h2 : 2 < N) : ∃ w, dn_unescape N s = some (match plS true s with | some v => (v, true) | none => (w, false)) := by
  unfold dn_unescape
  rw [hasPrefix1, hasPrefix1, pl_first]
  by_cases h35 : s.head? = some 35
  · rw [decide_eq_true h35, if_pos (.inl h35)]
    exact ⟨[], rfl⟩
  · rw [decide_eq_false h35]
    by_cases h32 : s.head? = some 32
    · rw [decide_eq_true h32, if_pos (.inr h32)]
      exact ⟨[], rfl⟩
    · rw [decide_eq_false h32, if_neg (by rintro (h | h); exact h35 h; exact h32 h)]
      simp only [Option.bind_some, cond_false]
      have := un_loop N h2 s.length s [] [] false N (Nat.le_refl _) hs hN (Nat.le_refl _)
      simp only [List.nil_append, List.length_nil] at this
      rw [show ((0 : Int)) = ((0 : Nat) : Int) from rfl, this]
      have hup := (un_pl s.length s (Nat.le_refl _)).1
      cases hu : unS s false with
      | none =>
        cases hp : plS false s with
        | none => exact ⟨[], rfl⟩
        | some v => rw [(hup v).1 hp] at hu; cases hu
      | some x =>
        obtain ⟨v, b⟩ := x
        cases b with
        | false =>
          rw [(hup v).2 hu]
          exact ⟨[], rfl⟩
        | true =>
          cases hp : plS false s with
          | none => exact ⟨v, rfl⟩
          | some v' => rw [(hup v').1 hp] at hu; cases hu
end Go.Gp
end
section
set_option linter.unusedVariables false
set_option linter.unusedSimpArgs false
namespace Go.Gp
open Go.Vd
def avaP (p : List UInt8) : Option api_AVA := (cutE p).bind fun x => (plS true x.2).map fun v => ⟨low x.1, v⟩
def rdnP (s : List UInt8) : Option (List api_AVA) := ((cutS 43 s).mapM avaP).bind fun r => if isRDNS r then some r else none
theorem preH_len (p : List UInt8) (l : List (List UInt8)) (k : Nat) (h : ∀ x ∈ l, x.length ≤ k) : ∀ x ∈ preH p l, x.length ≤ p.length + k := by
  intro x hx
  cases l with
  | nil => simp [preH] at hx; subst hx; omega
  | cons y l =>
    simp only [preH, List.mem_cons] at hx
    rcases hx with rfl | hx
    · have := h y List.mem_cons_self; simp; omega
    · have := h x (List.mem_cons_of_mem _ hx); omega
theorem preH_length (p : List UInt8) {l : List (List UInt8)} (h : l ≠ []) : (preH p l).length = l.length := by cases l <;> simp_all [preH]
theorem cutS_len (sep : UInt8) : ∀ (k : Nat) (s : List UInt8), s.length ≤ k → (cutS sep s).length ≤ s.length + 1 ∧ ∀ x ∈ cutS sep s, x.length ≤ s.length := by
  intro k
  induction k with
  | zero =>
    intro s hs
    obtain rfl : s = [] := List.length_eq_zero_iff.1 (by omega)
    simp [cutS]
  | succ k ih =>
    intro s hs
    cases s with
    | nil => simp [cutS]
    | cons c s =>
      cases s with
      | nil =>
        unfold cutS
        split
        · simp
        · split <;> simp
      | cons d s =>
        unfold cutS
        split
        · obtain ⟨h1, h2⟩ := ih s (by simp at hs; omega)
          refine ⟨by rw [preH_length _ (cutS_ne _ _)]; simp; omega, fun x hx => ?_⟩
          have := preH_len _ _ _ h2 x hx
          simp at this ⊢; omega
        · obtain ⟨h1, h2⟩ := ih (d :: s) (by simp at hs ⊢; omega)
          split
          · refine ⟨by simp at h1 ⊢; omega, fun x hx => ?_⟩
            rcases List.mem_cons.1 hx with rfl | hx
            · simp
            · have := h2 x hx; simp at this ⊢; omega
          · refine ⟨by rw [preH_length _ (cutS_ne _ _)]; simp at h1 ⊢; omega, fun x hx => ?_⟩
            have := preH_len _ _ _ h2 x hx
            simp at this ⊢; omega
theorem plS_len : ∀ (k : Nat) (f : Bool) (s v : List UInt8), s.length ≤ k → plS f s = some v → v.length ≤ s.length := by
  intro k
  induction k with
  | zero =>
    intro f s v hs h
    obtain rfl : s = [] := List.length_eq_zero_iff.1 (by omega)
    simp [plS] at h; subst h; simp
  | succ k ih =>
    intro f s v hs h
    cases s with
    | nil => simp [plS] at h; subst h; simp
    | cons c s =>
      rw [plS_cons] at h
      have lift : ∀ (c : UInt8) (t w : List UInt8), t.length ≤ k → (plS false t).map (c :: ·) = some w → w.length ≤ t.length + 1 := by
        intro c t w ht hw
        rw [Option.map_eq_some_iff] at hw
        obtain ⟨u, h1, rfl⟩ := hw
        have := ih false t u ht h1
        simp; omega
      split at h
      · cases s with
        | nil => cases h
        | cons d s =>
          simp only at h
          split at h
          · have := lift _ _ _ (by simp at hs; omega) h; simp; omega
          · cases s with
            | nil => cases h
            | cons e s =>
              simp only at h
              split at h
              · have := lift _ _ _ (by simp at hs; omega) h; simp; omega
              · cases h
      · split at h
        · cases h
        · have := lift _ _ _ (by simp at hs; omega) h; simp; omega
theorem low_len (s : List UInt8) : (low s).length = s.length := by simp [low]
theorem avaP_len {p : List UInt8} {a : api_AVA} (h : avaP p = some a) : a.Attr.length ≤ p.length ∧ a.Value.length ≤ p.length := by
  unfold avaP at h
  rw [Option.bind_eq_some_iff] at h
  obtain ⟨⟨x, v⟩, h1, h2⟩ := h
  rw [Option.map_eq_some_iff] at h2
  obtain ⟨w, h2, rfl⟩ := h2
  obtain ⟨e, _⟩ := cutE_some h1
  have := plS_len v.length true v w (Nat.le_refl _) h2
  rw [e]
  simp [low_len]
  omega
theorem mapM_len {α β : Type} {f : α → Option β} : ∀ {l : List α} {r : List β}, l.mapM f = some r → r.length = l.length ∧ ∀ b ∈ r, ∃ a ∈ l, f a = some b
  | [], r, h => by simp at h; subst h; simp
  | a :: l, r, h => by
    rw [List.mapM_cons] at h
    simp only [Option.bind_eq_bind, Option.bind_eq_some_iff] at h
    obtain ⟨b, h1, s, h2, h3⟩ := h
    cases h3
    obtain ⟨e1, e2⟩ := mapM_len h2
    refine ⟨by simp [e1], fun c hc => ?_⟩
    rcases List.mem_cons.1 hc with rfl | hc
    · exact ⟨a, List.mem_cons_self, h1⟩
    · obtain ⟨a', h4, h5⟩ := e2 c hc
      exact ⟨a', List.mem_cons_of_mem _ h4, h5⟩
theorem rdn_loop (N : Nat) (hN : 1000000 < N) : ∀ (b a : List (List UInt8)) (out : List api_AVA) (n : Nat), (a ++ b).length ≤ 1000001 → b.length < n → out.length = a.length → (∀ p ∈ b, p.length ≤ 1000000) →
    dn_ParseRDN_l8 N (a ++ b) n ((a.length : Int), out) = some (match b.mapM avaP with
      | some r => if 5 < (out ++ r).length ∧ b ≠ [] then .inr ([], 15) else .inl (out ++ r)
      | none => .inr ([], 15)) := by
  intro b
  induction b with
  | nil =>
    intro a out n hs hn ho _
    obtain ⟨n, rfl, _⟩ := fuel hn
    simp only [dn_ParseRDN_l8, dn_ParseRDN_l8_b]
    rw [len_end, cond_false]; simp
  | cons p b ih =>
    intro a out n hs hn ho hp
    obtain ⟨n, rfl, hn'⟩ := fuel hn
    have hal : (a ++ p :: b).length = a.length + b.length + 1 := by simp; omega
    have hpl := hp p List.mem_cons_self
    simp only [dn_ParseRDN_l8, dn_ParseRDN_l8_b]
    rw [len_mid, cond_true, idx_mid, Option.bind_some, scut_eq hpl, Option.bind_some, suc_mid (a := a) (b := b) (x := p) (by omega), List.mapM_cons]
    simp only [Option.bind_eq_bind]
    cases hc : cutE p with
    | none =>
      have hav : avaP p = none := by unfold avaP; rw [hc]; rfl
      rw [hav]
      obtain ⟨w, hw⟩ := unescape_eq (N := N) (s := []) (by simp) (by simp; omega) (by omega)
      rw [hw]
      rfl
    | some x =>
      obtain ⟨at', v⟩ := x
      obtain ⟨e, _⟩ := cutE_some hc
      have hvl : v.length ≤ p.length ∧ at'.length ≤ p.length := by rw [e]; simp; omega
      obtain ⟨w, hw⟩ := unescape_eq (N := N) (s := v) (by omega) (by omega) (by omega)
      simp only
      rw [hw, Option.bind_some]
      cases hpv : plS true v with
      | none =>
        have hav : avaP p = none := by unfold avaP; rw [hc, Option.bind_some]; simp only [hpv]; rfl
        rw [hav]; rfl
      | some val =>
        have hav : avaP p = some ⟨low at', val⟩ := by unfold avaP; rw [hc, Option.bind_some]; simp only [hpv]; rfl
        rw [hav]
        simp only [Bool.not_true, cond_false, Option.bind_some, Option.map_some]
        by_cases h5 : out.length > 4
        · rw [decide_eq_true (by omega), cond_true]
          cases hm : b.mapM avaP with
          | none => rfl
          | some r =>
            simp only [Option.bind_some, Option.pure_def]
            rw [if_pos ⟨by simp; omega, by simp⟩]
        · rw [decide_eq_false (by omega), cond_false, lower_eq (by omega) (by omega), Option.bind_some, appL_ok (by simp; omega), Option.bind_some]
          have := ih (a ++ [p]) (out ++ [⟨low at', val⟩]) n (by simpa using hs) hn' (by simp [ho]) (fun q hq => hp q (List.mem_cons_of_mem _ hq))
          rw [← app_mid] at this
          rw [this]
          cases hm : b.mapM avaP with
          | none => rfl
          | some r =>
            simp only [Option.bind_some, Option.pure_def, List.append_assoc, List.cons_append, List.nil_append]
            by_cases hb : b = []
            · subst hb
              simp at hm
              subst hm
              rw [if_neg (by simp), if_neg (by simp; omega)]
            · by_cases h6 : 5 < (out ++ ⟨low at', val⟩ :: r).length
              · rw [if_pos ⟨h6, hb⟩, if_pos ⟨h6, by simp⟩]
              · rw [if_neg (fun h => h6 h.1), if_neg (fun h => h6 h.1)]
theorem parseRDN_eq {N : Nat} {s : List UInt8} (hs : s.length ≤ 1000000) (hN : 2000000 < N) (hN2 : N ≤ 9223372036854775808) : dn_ParseRDN N s = some (match rdnP s with | some r => (r, 0) | none => ([], 15)) := by
  unfold dn_ParseRDN rdnP
  rw [cut_eq hs (by omega), Option.bind_some]
  obtain ⟨h1, h2⟩ := cutS_len 43 s.length s (Nat.le_refl _)
  have := rdn_loop N (by omega) (cutS 43 s) [] [] N (by simpa using (by omega : (cutS 43 s).length ≤ 1000001)) (by omega) rfl (fun p hp => by have := h2 p hp; omega)
  simp only [List.nil_append, List.length_nil] at this
  rw [show ((0 : Int)) = ((0 : Nat) : Int) from rfl, this]
  cases hm : (cutS 43 s).mapM avaP with
  | none => rfl
  | some r =>
    obtain ⟨hl, hb⟩ := mapM_len hm
    simp only [Option.bind_some]
    by_cases h5 : 5 < r.length
    · rw [if_pos ⟨h5, cutS_ne _ _⟩]
      have : isRDNS r = false := by unfold isRDNS; rw [decide_eq_false (show ¬ r.length ≤ 4 by omega)]; simp
      rw [this]; rfl
    · rw [if_neg (fun h => h5 h.1)]
      simp only [Sum.elim_inl]
      rw [isRDN_eq hN2 (by omega) (by omega) (fun x hx => by
        obtain ⟨p, hp, hpa⟩ := hb x hx
        have h3 := avaP_len hpa
        have h4 := h2 p hp
        exact ⟨by omega, by omega⟩), Option.bind_some]
      cases isRDNS r <;> rfl
theorem parse_loop (N : Nat) (hN : 2000000 < N) (hN2 : N ≤ 9223372036854775808) : ∀ (b a : List (List UInt8)) (out : List (List api_AVA)) (n : Nat), (a ++ b).length ≤ 1000001 → b.length < n → out.length = a.length → (∀ p ∈ b, p.length ≤ 1000000) → out.length ≤ 8 →
    dn_Parse_l16 N (a ++ b) n ((a.length : Int), out) = some (match b.mapM rdnP with
      | some r => if 8 < (out ++ r).length then .inr ([], 15) else .inl (out ++ r)
      | none => .inr ([], 15)) := by
  intro b
  induction b with
  | nil =>
    intro a out n hs hn ho _ h8
    obtain ⟨n, rfl, _⟩ := fuel hn
    simp only [dn_Parse_l16, dn_Parse_l16_b]
    rw [len_end, cond_false]; simp; omega
  | cons p b ih =>
    intro a out n hs hn ho hp h8
    obtain ⟨n, rfl, hn'⟩ := fuel hn
    have hal : (a ++ p :: b).length = a.length + b.length + 1 := by simp; omega
    have hpl := hp p List.mem_cons_self
    simp only [dn_Parse_l16, dn_Parse_l16_b]
    rw [len_mid, cond_true, idx_mid, Option.bind_some, parseRDN_eq hpl hN hN2, Option.bind_some, suc_mid (a := a) (b := b) (x := p) (by omega), List.mapM_cons]
    simp only [Option.bind_eq_bind]
    cases hr : rdnP p with
    | none => rfl
    | some r =>
      simp only [Option.bind_some]
      by_cases he : out.length = 8
      · rw [show ((out.length : Int) == 8) = true by rw [he]; rfl]
        cases hm : b.mapM rdnP with
        | none => rfl
        | some rs =>
          simp only [Option.bind_some, Option.pure_def]
          rw [if_pos (by simp; omega)]
          rfl
      · rw [show ((out.length : Int) == 8) = false by rw [Bool.eq_false_iff]; simp; omega]
        have := ih (a ++ [p]) (out ++ [r]) n (by simpa using hs) hn' (by simp [ho]) (fun q hq => hp q (List.mem_cons_of_mem _ hq)) (by simp; omega)
        rw [← app_mid] at this
        simp only [bne, BEq.rfl, Bool.not_true, cond_false, Option.bind_some]
        rw [appL_ok (by simp; omega), Option.bind_some, this]
        cases hm : b.mapM rdnP with
        | none => rfl
        | some rs => simp
def nameP (s : List UInt8) : Option (List (List api_AVA)) := if s = [] then some [] else ((cutS 44 s).mapM rdnP).bind fun r => if r.length ≤ 8 then some r else none
theorem parse_eq {N : Nat} {s : List UInt8} (hs : s.length ≤ 1000000) (hN : 2000000 < N) (hN2 : N ≤ 9223372036854775808) : dn_Parse N s = some (match nameP s with | some r => (r, 0) | none => ([], 15)) := by
  unfold dn_Parse nameP
  by_cases h0 : s = []
  · subst h0; rfl
  · have : (s == ([] : List UInt8)) = false := by simpa using h0
    rw [this, cond_false, if_neg h0, cut_eq hs (by omega), Option.bind_some]
    obtain ⟨h1, h2⟩ := cutS_len 44 s.length s (Nat.le_refl _)
    have := parse_loop N hN hN2 (cutS 44 s) [] [] N (by simpa using (by omega : (cutS 44 s).length ≤ 1000001)) (by omega) rfl (fun p hp => by have := h2 p hp; omega) (Nat.zero_le _)
    simp only [List.nil_append, List.length_nil] at this
    rw [show ((0 : Int)) = ((0 : Nat) : Int) from rfl, this]
    cases hm : (cutS 44 s).mapM rdnP with
    | none => rfl
    | some r =>
      simp only [Option.bind_some]
      by_cases h8 : r.length ≤ 8
      · rw [if_pos h8, if_neg (by omega)]; rfl
      · rw [if_neg h8, if_pos (by omega)]; rfl
end Go.Gp
end
section
set_option linter.unusedVariables false
set_option linter.unusedSimpArgs false
namespace Go.Gp
open Go.Vd
theorem rdnP_is {s : List UInt8} {r : List api_AVA} (h : rdnP s = some r) : isRDNS r = true := by
  unfold rdnP at h
  rw [Option.bind_eq_some_iff] at h
  obtain ⟨l, _, h2⟩ := h
  split at h2
  · rename_i hr; cases h2; exact hr
  · cases h2
end Go.Gp
end
section
set_option linter.unusedVariables false
set_option linter.unusedSimpArgs false
namespace Go.Gp
open Go.Vd
def allT : List api_Type := (schema_All 0).getD []
theorem all_eq (N : Nat) : schema_All N = some allT := rfl
def noT : api_Type := ⟨[], 0, false⟩
def findS (name : List UInt8) : Option api_Type := allT.find? (fun t => t.Name == low name)
theorem find_loop (N : Nat) (x : List UInt8) : ∀ (b a : List api_Type) (n : Nat), (a ++ b).length ≤ 9223372036854775807 → b.length < n →
    schema_Find_l8 N x (a ++ b) n (a.length : Int) = some (match b.find? (fun t => t.Name == x) with | some t => .inr (t, true) | none => .inl ()) := by
  intro b
  induction b with
  | nil =>
    intro a n hs hn
    obtain ⟨n, rfl, _⟩ := fuel hn
    simp only [schema_Find_l8, schema_Find_l8_b]
    rw [len_end, cond_false]; rfl
  | cons t b ih =>
    intro a n hs hn
    obtain ⟨n, rfl, hn'⟩ := fuel hn
    simp only [schema_Find_l8, schema_Find_l8_b]
    rw [len_mid, cond_true, idx_mid, Option.bind_some, suc_mid hs]
    have := ih (a ++ [t]) n (by simpa using hs) hn'
    rw [← app_mid] at this
    rw [this, List.find?_cons]
    cases t.Name == x <;> rfl
theorem allT_len : allT.length = 15 := rfl
theorem find_eq {N : Nat} {s : List UInt8} (hs : s.length ≤ 9223372036854775807) (hN : s.length < N) (h15 : 15 < N) : schema_Find N s = some (match findS s with | some t => (t, true) | none => (noT, false)) := by
  unfold schema_Find
  have := find_loop N (low s) allT [] N (by rw [List.nil_append, allT_len]; omega) (by rw [allT_len]; exact h15)
  simp only [List.nil_append, List.length_nil] at this
  rw [lower_eq hs hN, Option.bind_some, all_eq, Option.bind_some, show ((0 : Int)) = ((0 : Nat) : Int) from rfl, this]
  unfold findS
  cases allT.find? (fun t => t.Name == low s) <;> rfl
end Go.Gp
end
section
set_option linter.unusedVariables false
set_option linter.unusedSimpArgs false
namespace Go.Gp
open Go.Vd
def ctl (c : UInt8) : Bool := decide (c.toNat < 32) || decide (c.toNat > 126)
def hxA (c : UInt8) : UInt8 := hexT.getD (shrB c 4).toNat 0
def hxB (c : UInt8) : UInt8 := hexT.getD (c &&& 15).toNat 0
def unitS (f l : Bool) (c : UInt8) : List UInt8 := if ctl c then [92, hxA c, hxB c] else if spc c || (f && (decide (c = 35) || decide (c = 32))) || (l && decide (c = 32)) then [92, c] else [c]
def escS : Bool → List UInt8 → List UInt8
  | _, [] => []
  | f, c :: s => unitS f (decide (s = [])) c ++ escS false s
theorem hx_A (c : UInt8) : idxL ([48, 49, 50, 51, 52, 53, 54, 55, 56, 57, 97, 98, 99, 100, 101, 102] : List UInt8) (((shrB c 4)).toNat : Int) = some (hxA c) := by
  have := u8_all (p := fun c => idxL ([48, 49, 50, 51, 52, 53, 54, 55, 56, 57, 97, 98, 99, 100, 101, 102] : List UInt8) (((shrB c 4)).toNat : Int) == some (hxA c)) (by decide +kernel) c
  simpa using this
theorem hx_B (c : UInt8) : idxL ([48, 49, 50, 51, 52, 53, 54, 55, 56, 57, 97, 98, 99, 100, 101, 102] : List UInt8) (((c &&& (15 : UInt8))).toNat : Int) = some (hxB c) := by
  have := u8_all (p := fun c => idxL ([48, 49, 50, 51, 52, 53, 54, 55, 56, 57, 97, 98, 99, 100, 101, 102] : List UInt8) (((c &&& (15 : UInt8))).toNat : Int) == some (hxB c)) (by decide +kernel) c
  simpa using this
theorem ctl_c (c : UInt8) : (bif decide (((c).toNat : Int) < (32 : Int)) then some true else some (decide (((c).toNat : Int) > (126 : Int)))) = some (ctl c) := by
  have := u8_all (p := fun c => (bif decide (((c).toNat : Int) < (32 : Int)) then some true else some (decide (((c).toNat : Int) > (126 : Int)))) == some (ctl c)) (by decide +kernel) c
  simpa using this
theorem unitS_b (f l : Bool) (c : UInt8) : unitS f l c = bif ctl c then [92, hxA c, hxB c] else bif (spc c || (f && (decide (c = 35) || decide (c = 32))) || (l && decide (c = 32))) then [92, c] else [c] := by
  unfold unitS
  cases ctl c <;> cases (spc c || (f && (decide (c = 35) || decide (c = 32))) || (l && decide (c = 32))) <;> rfl
theorem unit_len (f l : Bool) (c : UInt8) : (unitS f l c).length ≤ 3 := by
  unfold unitS; split; simp; split <;> simp
theorem escS_len : ∀ (s : List UInt8) (f : Bool), (escS f s).length ≤ 3 * s.length
  | [], _ => by simp [escS]
  | c :: s, f => by
    have h1 := unit_len f (decide (s = [])) c
    have h2 := escS_len s false
    rw [escS, List.length_append, List.length_cons]; omega
theorem esc_loop (N : Nat) : ∀ (b a out : List UInt8) (n : Nat), a ≠ [] → (a ++ b).length ≤ 1000000 → b.length < n → out.length ≤ 3 * a.length →
    dn_Escape_l8 N (a ++ b) n ((a.length : Int), out) = some (out ++ escS false b) := by
  intro b
  induction b with
  | nil =>
    intro a out n ha hs hn ho
    obtain ⟨n, rfl, _⟩ := fuel hn
    simp only [dn_Escape_l8, dn_Escape_l8_b]
    rw [len_end, cond_false]; simp [escS]
  | cons c b ih =>
    intro a out n ha hs hn ho
    obtain ⟨n, rfl, hn'⟩ := fuel hn
    have hal : (a ++ c :: b).length = a.length + b.length + 1 := by simp; omega
    have hnx : ∀ o : List UInt8, o.length ≤ 3 * a.length + 3 → dn_Escape_l8 N (a ++ c :: b) n (((a ++ [c]).length : Int), o) = some (o ++ escS false b) := by
      intro o ho'
      have := ih (a ++ [c]) o n (by simp) (by simpa using hs) hn' (by simp; omega)
      rwa [← app_mid] at this
    simp only [dn_Escape_l8, dn_Escape_l8_b, dn_Escape_j15p, dn_Escape_j33, dn_Escape_j20]
    rw [len_mid, cond_true, chk_mid, Option.bind_some, get_mid, Option.bind_some, ctl_c, Option.bind_some, suc_mid (a := a) (b := b) (x := c) (by omega), atEnd a b c hs, at0, decide_eq_false ha, is32, escS]
    cases hct : ctl c with
    | true =>
      rw [cond_true, appL_ok (by simp; omega), Option.bind_some, hx_A, Option.bind_some, appL_ok (by simp; omega), Option.bind_some, hx_B, Option.bind_some, appL_ok (by simp; omega), Option.bind_some, hnx _ (by simp; omega)]
      simp [unitS, hct]
    | false =>
      rw [cond_false]
      unfold strings_IndexByte
      rw [Option.bind_some, show decide (Lib.indexByte ([44, 43, 34, 92, 60, 62, 59] : List UInt8) c ≥ 0) = spc c from rfl]
      have hesc : Option.bind (appL 1 out [(92 : UInt8)]) (fun (x53 : List UInt8) => Option.bind (appL 1 x53 [c]) fun (x55 : List UInt8) => dn_Escape_l8 N (a ++ c :: b) n (((a ++ [c]).length : Int), x55)) = some (out ++ [92, c] ++ escS false b) := by
        rw [appL_ok (by simp; omega), Option.bind_some, appL_ok (by simp; omega), Option.bind_some, hnx _ (by simp; omega)]
        simp
      have hpl : Option.bind (appL 1 out [c]) (fun (x55 : List UInt8) => dn_Escape_l8 N (a ++ c :: b) n (((a ++ [c]).length : Int), x55)) = some (out ++ [c] ++ escS false b) := by
        rw [appL_ok (by simp; omega), Option.bind_some, hnx _ (by simp; omega)]
      cases hsp : spc c with
      | true =>
        rw [cond_true, cond_true, hesc]
        simp [unitS, hct, hsp]
      | false =>
        rw [cond_false]
        simp only [cond_false, Option.bind_some]
        by_cases hb : b = []
        · rw [decide_eq_true hb, cond_true]
          by_cases h32 : c = 32
          · rw [decide_eq_true h32, cond_true, hesc]
            unfold unitS
            rw [hct, hsp, decide_eq_true h32]
            simp
          · rw [decide_eq_false h32, cond_false, hpl]
            simp [unitS, hct, hsp, h32]
        · rw [decide_eq_false hb, cond_false, hpl]
          simp [unitS, hct, hsp]
theorem escape_eq {N : Nat} {s : List UInt8} (hs : s.length ≤ 1000000) (hN : s.length < N) : dn_Escape N s = some (escS true s) := by
  unfold dn_Escape
  cases s with
  | nil => rfl
  | cons c b =>
    have hu0 : ∀ l c, unitS true l c ≠ [] := by
      intro l c; unfold unitS; split; simp; split <;> simp
    have hfin : ∀ o : List UInt8, o ≠ [] → o.length ≤ 3 → dn_Escape_j15 (c :: b) N o = some (o ++ escS false b) := by
      intro o h0 ho
      unfold dn_Escape_j15
      have := esc_loop N b [c] o N (by simp) (by simpa using hs) (by simp at hN; omega) (by simp; omega)
      simp only [List.cons_append, List.nil_append, List.length_cons, List.length_nil, Nat.zero_add] at this
      have he := escS_len b false
      rw [show ((1 : Int)) = ((1 : Nat) : Int) from rfl, this, Option.bind_some, bldS_ok (by simp [h0]) (by simp at hs ⊢; omega), Option.bind_some]
    have hend := atEnd [] b c hs
    simp only [List.nil_append, List.length_nil] at hend
    have hch := chk_mid [] b c
    simp only [List.nil_append, List.length_nil] at hch
    rw [decide_eq_true (by simp), cond_true, show ((0 : Int)) = ((0 : Nat) : Int) from rfl, hch, Option.bind_some, hend]
    simp only [List.getElem?_cons_zero, Option.bind_some]
    rw [ctl_c, Option.bind_some, is35, is32, escS]
    unfold strings_IndexByte dn_Escape_j33p
    rw [Option.bind_some, show decide (Lib.indexByte ([44, 43, 34, 92, 60, 62, 59] : List UInt8) c ≥ ((0 : Nat) : Int)) = spc c from rfl]
    rw [hx_A, hx_B]
    simp only [Option.bind_some]
    have a1 : ∀ x : List UInt8, x.length ≤ 2 → ∀ y, appL 1 x [y] = some (x ++ [y]) := fun x hx y => appL_ok (by simp; omega)
    rw [a1 [] (by simp), a1 [] (by simp)]
    simp only [Option.bind_some, List.nil_append]
    rw [a1 [92] (by simp), a1 [92] (by simp)]
    simp only [Option.bind_some, List.cons_append, List.nil_append]
    rw [a1 [92, hxA c] (by simp)]
    simp only [Option.bind_some, List.cons_append, List.nil_append]
    rw [hfin [92, hxA c, hxB c] (by simp) (by simp), hfin [92, c] (by simp) (by simp), hfin [c] (by simp) (by simp)]
    rw [unitS_b]
    generalize decide (c = 35) = p
    generalize decide (c = 32) = q
    generalize decide (b = []) = r
    cases ctl c <;> cases spc c <;> cases p <;> cases q <;> cases r <;> rfl
end Go.Gp
end
section
set_option linter.unusedVariables false
set_option linter.unusedSimpArgs false
namespace Go.Gp
open Go.Vd
theorem isF_loop (N : Nat) (hN : N ≤ 9223372036854775808) (h5 : 5 < N) : ∀ (b a : List (List api_AVA)) (n : Nat), (a ++ b).length < N → b.length < n → (∀ r ∈ b, r.length < N ∧ ∀ x ∈ r, okA N x) →
    ∃ i : Nat, slices_IndexFunc_api_DN_api_RDN_c_dn_Is_1_l6 N (a ++ b) n (a.length : Int) = some (bif b.all isRDNS then .inl () else .inr (i : Int)) := by
  intro b
  induction b with
  | nil =>
    intro a n hs hn _
    obtain ⟨n, rfl, _⟩ := fuel hn
    simp only [slices_IndexFunc_api_DN_api_RDN_c_dn_Is_1_l6, slices_IndexFunc_api_DN_api_RDN_c_dn_Is_1_l6_b]
    rw [len_end, cond_false]; exact ⟨0, rfl⟩
  | cons x b ih =>
    intro a n hs hn hok
    obtain ⟨n, rfl, hn'⟩ := fuel hn
    obtain ⟨i, hi⟩ := ih (a ++ [x]) n (by simpa using hs) hn' (fun y hy => hok y (List.mem_cons_of_mem _ hy))
    rw [← app_mid] at hi
    have hx := hok x List.mem_cons_self
    simp only [slices_IndexFunc_api_DN_api_RDN_c_dn_Is_1_l6, slices_IndexFunc_api_DN_api_RDN_c_dn_Is_1_l6_b, dn_Is_1]
    rw [len_mid, cond_true, idx_mid, Option.bind_some, isRDN_eq hN h5 hx.1 hx.2, suc_mid (a := a) (b := b) (x := x) (by omega), hi, List.all_cons]
    cases isRDNS x
    · exact ⟨a.length, rfl⟩
    · exact ⟨i, rfl⟩
theorem is_eq {N : Nat} {d : List (List api_AVA)} (hN : N ≤ 9223372036854775808) (h5 : 5 < N) (hd : d.length < N) (hok : ∀ r ∈ d, r.length < N ∧ ∀ x ∈ r, okA N x) : dn_Is N d = some (isS d) := by
  unfold dn_Is slices_ContainsFunc_api_DN_api_RDN_c_dn_Is_1 slices_IndexFunc_api_DN_api_RDN_c_dn_Is_1 isS
  obtain ⟨i, h⟩ := isF_loop N hN h5 d [] N (by simpa using hd) hd hok
  simp only [List.nil_append, List.length_nil] at h
  rw [show ((0 : Int)) = ((0 : Nat) : Int) from rfl, h]
  have h1 : decide ((d.length : Int) ≤ 8) = decide (d.length ≤ 8) := by rw [Bool.eq_iff_iff]; simp; omega
  rw [h1]
  cases decide (d.length ≤ 8)
  · rfl
  · cases d.all isRDNS
    · simp [Option.bind]
    · rfl
end Go.Gp
end
section
set_option linter.unusedVariables false
set_option linter.unusedSimpArgs false
namespace Go.Gp
open Go.Vd
def cat1 (sep : UInt8) : List (List UInt8) → List UInt8
  | [] => []
  | x :: xs => x ++ xs.flatMap (sep :: ·)
theorem join_cat1 (sep : UInt8) : ∀ l : List (List UInt8), Lib.join l [sep] = cat1 sep l
  | [] => rfl
  | [x] => by simp [Lib.join, cat1, List.intercalate]
  | x :: y :: xs => by
    have ih := join_cat1 sep (y :: xs)
    simp only [Lib.join, List.intercalate, List.intersperse_cons_cons, List.flatten_cons] at ih ⊢
    rw [ih]
    simp [cat1]
def avaT (a : api_AVA) : List UInt8 := a.Attr ++ 61 :: escS true a.Value
def rdnT (r : List api_AVA) : List UInt8 := cat1 43 (r.map avaT)
def dnT (d : List (List api_AVA)) : List UInt8 := cat1 44 (d.map rdnT)
def smA (a : api_AVA) : Prop := a.Attr.length ≤ 1000 ∧ a.Value.length ≤ 1000
def smR (r : List api_AVA) : Prop := r.length ≤ 1000 ∧ ∀ a ∈ r, smA a
theorem flat_len {α : Type} (f : α → List UInt8) (k : Nat) : ∀ l : List α, (∀ x ∈ l, (f x).length ≤ k) → (l.flatMap f).length ≤ l.length * k
  | [], _ => by simp
  | x :: l, h => by
    have := flat_len f k l fun y hy => h y (List.mem_cons_of_mem _ hy)
    have h1 := h x List.mem_cons_self
    rw [List.flatMap_cons, List.length_append, List.length_cons, Nat.add_mul]; omega
theorem cat1_len (sep : UInt8) (k : Nat) (l : List (List UInt8)) (h : ∀ x ∈ l, x.length ≤ k) : (cat1 sep l).length ≤ l.length * (k + 1) := by
  cases l with
  | nil => simp [cat1]
  | cons x l =>
    have h1 := h x List.mem_cons_self
    have h2 := flat_len (sep :: ·) (k + 1) l (fun y hy => by have := h y (List.mem_cons_of_mem _ hy); simp; omega)
    rw [cat1, List.length_append, List.length_cons, Nat.add_mul]; omega
theorem avaT_len {a : api_AVA} (h : smA a) : (avaT a).length ≤ 4001 := by
  have := escS_len a.Value true
  have h1 := h.1
  have h2 := h.2
  unfold avaT
  rw [List.length_append, List.length_cons]; omega
theorem rdnT_len {r : List api_AVA} (h : smR r) : (rdnT r).length ≤ 4002000 := by
  have := cat1_len 43 4001 (r.map avaT) (fun x hx => by obtain ⟨a, ha, rfl⟩ := List.mem_map.1 hx; exact avaT_len (h.2 a ha))
  have h1 := h.1
  unfold rdnT
  rw [List.length_map] at this
  omega
theorem sjoin_eq (N : Nat) (l : List (List UInt8)) (sep : UInt8) (h1 : l.length ≤ 1000000) (h2 : (cat1 sep l).length ≤ 140737488355328) : strings_Join N l [sep] = some (cat1 sep l) := by
  unfold strings_Join
  rw [join_cat1, if_pos ⟨by omega, h2⟩]
theorem join_loop (N : Nat) (hN : 1000 < N) : ∀ (b a : List api_AVA) (out : List (List UInt8)) (n : Nat), (a ++ b).length ≤ 1000 → b.length < n → out.length = a.length → (∀ x ∈ b, smA x) →
    dn_Join_l8 N (a ++ b) n ((a.length : Int), out) = some (out ++ b.map avaT) := by
  intro b
  induction b with
  | nil =>
    intro a out n hs hn ho _
    obtain ⟨n, rfl, _⟩ := fuel hn
    simp only [dn_Join_l8, dn_Join_l8_b]
    rw [len_end, cond_false]; simp
  | cons x b ih =>
    intro a out n hs hn ho hp
    obtain ⟨n, rfl, hn'⟩ := fuel hn
    have hal : (a ++ x :: b).length = a.length + b.length + 1 := by simp; omega
    have hx := hp x List.mem_cons_self
    have hx1 := hx.1
    have hx2 := hx.2
    have hel := escS_len x.Value true
    simp only [dn_Join_l8, dn_Join_l8_b]
    rw [len_mid, cond_true, idx_mid, Option.bind_some, catS_ok (by simp; omega), Option.bind_some, escape_eq (by omega) (by omega), Option.bind_some, catS_ok (by simp; omega), Option.bind_some, appL_ok (by simp; omega), Option.bind_some, suc_mid (a := a) (b := b) (x := x) (by omega)]
    have := ih (a ++ [x]) (out ++ [x.Attr ++ [61] ++ escS true x.Value]) n (by simpa using hs) hn' (by simp [ho]) (fun q hq => hp q (List.mem_cons_of_mem _ hq))
    rw [← app_mid] at this
    rw [this]
    simp [avaT]
theorem pjoin_eq {N : Nat} {r : List api_AVA} (hN : 1000 < N) (h : smR r) : dn_Join N r = some (rdnT r) := by
  unfold dn_Join
  have := join_loop N hN r [] [] N (by simpa using h.1) (by have := h.1; omega) rfl h.2
  simp only [List.nil_append, List.length_nil] at this
  have hl := rdnT_len h
  have h1 := h.1
  rw [show ((0 : Int)) = ((0 : Nat) : Int) from rfl, this, Option.bind_some, sjoin_eq N _ 43 (by simp; omega) (by unfold rdnT at hl; omega)]
  rfl
theorem print_loop (N : Nat) (hN : 1000 < N) : ∀ (b a : List (List api_AVA)) (out : List (List UInt8)) (n : Nat), (a ++ b).length ≤ 1000 → b.length < n → out.length = a.length → (∀ x ∈ b, smR x) →
    dn_Print_l16 N (a ++ b) n ((a.length : Int), out) = some (out ++ b.map rdnT) := by
  intro b
  induction b with
  | nil =>
    intro a out n hs hn ho _
    obtain ⟨n, rfl, _⟩ := fuel hn
    simp only [dn_Print_l16, dn_Print_l16_b]
    rw [len_end, cond_false]; simp
  | cons x b ih =>
    intro a out n hs hn ho hp
    obtain ⟨n, rfl, hn'⟩ := fuel hn
    have hal : (a ++ x :: b).length = a.length + b.length + 1 := by simp; omega
    have hx := hp x List.mem_cons_self
    simp only [dn_Print_l16, dn_Print_l16_b]
    rw [len_mid, cond_true, idx_mid, Option.bind_some, pjoin_eq hN hx, Option.bind_some, appL_ok (by simp; omega), Option.bind_some, suc_mid (a := a) (b := b) (x := x) (by omega)]
    have := ih (a ++ [x]) (out ++ [rdnT x]) n (by simpa using hs) hn' (by simp [ho]) (fun q hq => hp q (List.mem_cons_of_mem _ hq))
    rw [← app_mid] at this
    rw [this]
    simp
theorem smR_ok {N : Nat} {r : List api_AVA} (hN : 2000000 < N) (h : smR r) : r.length < N ∧ ∀ x ∈ r, okA N x :=
  ⟨by have := h.1; omega, fun x hx => ⟨by have := (h.2 x hx).1; omega, by have := (h.2 x hx).2; omega⟩⟩
theorem dnT_len {d : List (List api_AVA)} (hl : d.length ≤ 1000) (h : ∀ r ∈ d, smR r) : (dnT d).length ≤ 4002001000 := by
  have := cat1_len 44 4002000 (d.map rdnT) (fun x hx => by obtain ⟨a, ha, rfl⟩ := List.mem_map.1 hx; exact rdnT_len (h a ha))
  unfold dnT
  rw [List.length_map] at this
  omega
theorem print_eq {N : Nat} {d : List (List api_AVA)} (hN : 2000000 < N) (hN2 : N ≤ 9223372036854775808) (hl : d.length ≤ 1000) (h : ∀ r ∈ d, smR r) : dn_Print N d = some (if isS d then dnT d else []) := by
  unfold dn_Print
  rw [is_eq hN2 (by omega) (by omega) (fun r hr => smR_ok hN (h r hr)), Option.bind_some]
  have := print_loop N (by omega) d [] [] N (by simpa using hl) (by omega) rfl h
  simp only [List.nil_append, List.length_nil] at this
  have hdl := dnT_len hl h
  rw [show ((0 : Int)) = ((0 : Nat) : Int) from rfl, this, Option.bind_some, sjoin_eq N _ 44 (by simp; omega) (by unfold dnT at hdl; omega), Option.bind_some]
  cases isS d <;> rfl
theorem at0' {α : Type} (a : List α) : decide ((a.length : Int) > (0 : Int)) = !decide (a = []) := by
  rw [Bool.eq_iff_iff]; cases a <;> simp
end Go.Gp
end
section
set_option linter.unusedVariables false
set_option linter.unusedSimpArgs false
namespace Go.Gp
open Go.Vd
end Go.Gp
end
section
set_option linter.unusedVariables false
set_option linter.unusedSimpArgs false
namespace Go.Gp
open Go.Vd
def rgT : List UInt8 := [114, 115, 99, 119, 97, 100]
def rgV (c : UInt8) : Int := Lib.indexByte rgT c
def rgGo : Int → List UInt8 → Bool
  | _, [] => true
  | l, c :: s => decide (l < rgV c) && rgGo (rgV c) s
def isRightsS (s : List UInt8) : Bool := decide (s ≠ []) && rgGo (-1) s
theorem rgV_range (c : UInt8) : -1 ≤ rgV c ∧ rgV c < 6 := by
  have := u8_all (p := fun c => decide (-1 ≤ rgV c ∧ rgV c < 6)) (by decide +kernel) c
  simpa using this
theorem rights_loop (N : Nat) : ∀ (b a : List UInt8) (l : Int) (n : Nat), (a ++ b).length ≤ 9223372036854775807 → b.length < n → -1 ≤ l →
    ∃ m : Int, aci_isRights_l8 N (a ++ b) n (l, (a.length : Int)) = some (bif rgGo l b then .inl m else .inr false) ∧ (rgGo l b = true → (m ≥ 0 ↔ (b ≠ [] ∨ l ≥ 0))) := by
  intro b
  induction b with
  | nil =>
    intro a l n hs hn hl
    obtain ⟨n, rfl, _⟩ := fuel hn
    simp only [aci_isRights_l8, aci_isRights_l8_b]
    rw [len_end, cond_false]
    exact ⟨l, rfl, fun _ => by simp⟩
  | cons c b ih =>
    intro a l n hs hn hl
    obtain ⟨n, rfl, hn'⟩ := fuel hn
    simp only [aci_isRights_l8, aci_isRights_l8_b]
    rw [len_mid, cond_true, idx_mid, Option.bind_some, suc_mid (a := a) (b := b) (x := c) hs]
    unfold strings_IndexByte
    rw [Option.bind_some, show Lib.indexByte ([114, 115, 99, 119, 97, 100] : List UInt8) c = rgV c from rfl]
    have hr := rgV_range c
    by_cases h : l < rgV c
    · rw [decide_eq_false (show ¬ (rgV c ≤ l) by omega), cond_false, rgGo, decide_eq_true h, Bool.true_and]
      obtain ⟨m, h1, h2⟩ := ih (a ++ [c]) (rgV c) n (by simpa using hs) hn' hr.1
      rw [← app_mid] at h1
      refine ⟨m, h1, fun hg => ?_⟩
      rw [h2 hg]
      constructor
      · intro _; exact .inl (by simp)
      · intro _; exact .inr (by omega)
    · rw [decide_eq_true (show rgV c ≤ l by omega), cond_true, rgGo, decide_eq_false h]
      exact ⟨0, rfl, fun hg => by simp at hg⟩
theorem isRights_eq {N : Nat} {s : List UInt8} (hs : s.length ≤ 9223372036854775807) (hN : s.length < N) : aci_isRights N s = some (isRightsS s) := by
  unfold aci_isRights isRightsS
  obtain ⟨m, h1, h2⟩ := rights_loop N s [] (-1) N hs hN (by omega)
  simp only [List.nil_append, List.length_nil] at h1
  rw [show ((0 : Int)) = ((0 : Nat) : Int) from rfl, h1]
  cases hg : rgGo (-1) s with
  | false => simp
  | true =>
    have := h2 hg
    simp only [cond_true, Option.bind_some, Sum.elim_inl, Bool.and_true]
    congr 1
    rw [Bool.eq_iff_iff, decide_eq_true_eq, decide_eq_true_eq]
    constructor
    · intro h; rcases this.1 h with h | h; exact h; omega
    · intro h; exact this.2 (.inl h)
end Go.Gp
end
section
set_option linter.unusedVariables false
set_option linter.unusedSimpArgs false
namespace Go.Gp
open Go.Vd
def atGo : List (List UInt8) → List (List UInt8) → Bool
  | _, [] => true
  | d, a :: r => (match findS a with | some t => t.Name == a | none => false) && ((match d.getLast? with | some p => !(Op.bytesLess a p || a == p) | none => true) && atGo (d ++ [a]) r)
theorem at_prev (a b : List (List UInt8)) (x : List UInt8) (h : (a ++ x :: b).length ≤ 9223372036854775807) (ha : a ≠ []) : ∃ p, a.getLast? = some p ∧ idxL (a ++ x :: b) (w64 ((a.length : Int) - 1)) = some p := by
  have hl : 0 < a.length := List.length_pos_iff.2 ha
  have hal : (a ++ x :: b).length = a.length + b.length + 1 := by simp; omega
  obtain ⟨p, hp⟩ : ∃ p, a.getLast? = some p := by
    cases hg : a.getLast? with
    | none => rw [List.getLast?_eq_none_iff] at hg; exact absurd hg ha
    | some p => exact ⟨p, rfl⟩
  refine ⟨p, hp, ?_⟩
  rw [w64_id (by omega) (by omega), show (a.length : Int) - 1 = ((a.length - 1 : Nat) : Int) by omega, idxL_nat, List.getElem?_append_left (by omega)]
  rw [List.getLast?_eq_getElem?] at hp
  exact hp
theorem attrs_loop (N : Nat) (r : api_Rule) (h15 : 15 < N) : ∀ (b a : List (List UInt8)) (n : Nat), r.Attrs = a ++ b → (a ++ b).length ≤ 9223372036854775807 → b.length < n → (∀ s ∈ b, s.length ≤ 9223372036854775807 ∧ s.length < N) →
    aci_Is_l6 N r n (a.length : Int) = some (bif atGo a b then .inl () else .inr false) := by
  intro b
  induction b with
  | nil =>
    intro a n hr hs hn _
    obtain ⟨n, rfl, _⟩ := fuel hn
    simp only [aci_Is_l6, aci_Is_l6_b]
    rw [hr, len_end, cond_false]; rfl
  | cons x b ih =>
    intro a n hr hs hn hok
    obtain ⟨n, rfl, hn'⟩ := fuel hn
    have hx := hok x List.mem_cons_self
    have hi := ih (a ++ [x]) n (by rw [hr]; simp) (by simpa using hs) hn' (fun y hy => hok y (List.mem_cons_of_mem _ hy))
    simp only [aci_Is_l6, aci_Is_l6_b]
    rw [hr, len_mid, cond_true, idx_mid, Option.bind_some, find_eq hx.1 hx.2 h15, Option.bind_some, suc_mid (a := a) (b := b) (x := x) hs, hi, atGo, at0']
    cases hf : findS x with
    | none => rfl
    | some t =>
      simp only [Bool.not_true, cond_false]
      cases hn : t.Name == x with
      | false => rfl
      | true =>
        simp only [Bool.not_true, cond_false, Bool.true_and]
        by_cases ha : a = []
        · subst ha
          rw [decide_eq_true rfl]
          simp only [Bool.not_true, cond_false, Option.bind_some, List.getLast?_nil, Bool.true_and]
        · obtain ⟨p, hp, hq⟩ := at_prev a b x hs ha
          rw [decide_eq_false ha, hp, hq]
          simp only [Bool.not_false, cond_true, Option.bind_some]
          cases (Op.bytesLess x p || x == p) <;> rfl
theorem nameP_sm {s : List UInt8} {d : List (List api_AVA)} (h : nameP s = some d) (hs : s.length ≤ 900) : d.length ≤ 8 ∧ (∀ r ∈ d, smR r ∧ isRDNS r = true) ∧ isS d = true := by
  unfold nameP at h
  split at h
  · cases h; exact ⟨by simp, by simp, rfl⟩
  · rw [Option.bind_eq_some_iff] at h
    obtain ⟨l, h1, h2⟩ := h
    split at h2
    · rename_i h8
      have e : l = d := by simpa using h2
      subst e
      obtain ⟨h3, h4⟩ := mapM_len h1
      obtain ⟨h5, h6⟩ := cutS_len 44 s.length s (Nat.le_refl _)
      have hall : ∀ r ∈ l, smR r ∧ isRDNS r = true := by
        intro r hr
        obtain ⟨p, hp, hpr⟩ := h4 r hr
        have hpl := h6 p hp
        refine ⟨?_, rdnP_is hpr⟩
        have hi := rdnP_is hpr
        unfold rdnP at hpr
        rw [Option.bind_eq_some_iff] at hpr
        obtain ⟨q, h7, h8'⟩ := hpr
        split at h8'
        · cases h8'
          obtain ⟨h9, h10⟩ := mapM_len h7
          obtain ⟨h11, h12⟩ := cutS_len 43 p.length p (Nat.le_refl _)
          refine ⟨by omega, fun a ha => ?_⟩
          obtain ⟨u, hu, hua⟩ := h10 a ha
          have h13 := avaP_len hua
          have h14 := h12 u hu
          exact ⟨by omega, by omega⟩
        · cases h8'
      refine ⟨h8, hall, ?_⟩
      unfold isS
      rw [decide_eq_true h8, Bool.true_and]
      exact List.all_eq_true.2 fun r hr => (hall r hr).2
    · cases h2
def whoS (s : List UInt8) : Bool := s == [97, 110, 121] || (s == [115, 101, 108, 102] || (match s with
  | 100 :: 110 :: 58 :: n => decide (n ≠ []) && (match nameP n with | some d => dnT d == n | none => false)
  | _ => false))
def whoP (s : List UInt8) : Option (List UInt8) := match s with
  | 100 :: 110 :: 58 :: n => some n
  | _ => none
theorem whoP_take (s : List UInt8) : whoP s = if s.take 3 = [100, 110, 58] then some (s.drop 3) else none := by
  unfold whoP
  split
  · simp
  · rename_i h
    rw [if_neg]
    intro e
    match s, e with
    | [], e => simp at e
    | [_], e => simp at e
    | [_, _], e => simp at e
    | a :: b :: c :: n, e =>
      simp at e
      obtain ⟨rfl, rfl, rfl⟩ := e
      exact h n rfl
theorem whoS_P (s : List UInt8) : whoS s = (s == [97, 110, 121] || (s == [115, 101, 108, 102] || (match whoP s with | some n => decide (n ≠ []) && (match nameP n with | some d => dnT d == n | none => false) | none => false))) := by
  unfold whoS whoP
  split <;> rfl
theorem cutPre_eq (N : Nat) (s : List UInt8) (hs : s.length ≤ 9223372036854775807) : strings_CutPrefix N s [100, 110, 58] = some (match whoP s with | some n => (n, true) | none => (s, false)) := by
  unfold strings_CutPrefix internal_stringslite_CutPrefix internal_stringslite_HasPrefix
  rw [whoP_take, show ((([100, 110, 58] : List UInt8).length : Int)) = ((3 : Nat) : Int) from rfl]
  by_cases h3 : 3 ≤ s.length
  · rw [decide_eq_true (by omega), cond_true, takeL_nat h3, Option.bind_some, Option.bind_some]
    by_cases ht : s.take 3 = [100, 110, 58]
    · rw [ht, if_pos rfl, show (([100, 110, 58] : List UInt8) == [100, 110, 58]) = true from rfl]
      simp only [Option.bind_some, Bool.not_true, cond_false]
      rw [dropL_nat h3]
      rfl
    · rw [if_neg ht, show (s.take 3 == ([100, 110, 58] : List UInt8)) = false by simpa using ht]
      rfl
  · rw [decide_eq_false (by omega), if_neg (by
      intro e
      have := congrArg List.length e
      simp at this
      omega)]
    rfl
theorem isWho_eq {N : Nat} {s : List UInt8} (hs : s.length ≤ 900) (hN : 2000000 < N) (hN2 : N ≤ 9223372036854775808) : aci_isWho N s = some (whoS s) := by
  unfold aci_isWho aci_isWho_j4
  rw [whoS_P]
  by_cases h1 : s = [97, 110, 121]
  · subst h1; rfl
  · rw [show (s == ([97, 110, 121] : List UInt8)) = false by simpa using h1, cond_false, Bool.false_or]
    by_cases h2 : s = [115, 101, 108, 102]
    · subst h2; rfl
    · rw [show (s == ([115, 101, 108, 102] : List UInt8)) = false by simpa using h2, cond_false, Bool.false_or, cutPre_eq N s (by omega), Option.bind_some]
      have hwl : ∀ n, whoP s = some n → n.length ≤ 900 := by
        intro n hn
        rw [whoP_take] at hn
        split at hn
        · cases hn; simp; omega
        · cases hn
      cases hw : whoP s with
      | none =>
        simp only
        rw [parse_eq (by omega) hN hN2, Option.bind_some]
        rfl
      | some n =>
        have hnl := hwl n hw
        simp only
        rw [parse_eq (by omega) hN hN2, Option.bind_some]
        by_cases h0 : n = []
        · subst h0; rfl
        · rw [show (n == ([] : List UInt8)) = false by simpa using h0, decide_eq_true h0]
          cases hp : nameP n with
          | none => rfl
          | some d =>
            obtain ⟨k1, k2, k3⟩ := nameP_sm hp hnl
            simp only [cond_true, Bool.not_false, BEq.rfl, Bool.true_and]
            rw [print_eq hN hN2 (by omega) (fun r hr => (k2 r hr).1), k3, if_pos rfl]
            rfl
def ruleS (r : api_Rule) : Bool := atGo [] r.Attrs && (isRightsS r.Rights && whoS r.Who)
def okR (r : api_Rule) : Prop := r.Attrs.length ≤ 1000 ∧ (∀ s ∈ r.Attrs, s.length ≤ 1000) ∧ r.Rights.length ≤ 1000 ∧ r.Who.length ≤ 900
theorem aciIs_eq {N : Nat} {r : api_Rule} (h : okR r) (hN : 2000000 < N) (hN2 : N ≤ 9223372036854775808) : aci_Is N r = some (ruleS r) := by
  unfold aci_Is ruleS
  have := attrs_loop N r (by omega) r.Attrs [] N rfl (by have := h.1; simp; omega) (by have := h.1; omega) (fun s hs => by have := h.2.1 s hs; exact ⟨by omega, by omega⟩)
  simp only [List.length_nil] at this
  rw [show ((0 : Int)) = ((0 : Nat) : Int) from rfl, this, isRights_eq (by have := h.2.2.1; omega) (by have := h.2.2.1; omega), isWho_eq h.2.2.2 hN hN2]
  cases atGo [] r.Attrs <;> cases isRightsS r.Rights <;> cases whoS r.Who <;> rfl
end Go.Gp
end
section
set_option linter.unusedVariables false
set_option linter.unusedSimpArgs false
namespace Go.Gp
open Go.Vd
def cutC (k : UInt8) : List UInt8 → Option (List UInt8 × List UInt8)
  | [] => none
  | c :: s => if c = k then some ([], s) else (cutC k s).map fun x => (c :: x.1, x.2)
theorem cutC_some {k : UInt8} {s a v : List UInt8} (h : cutC k s = some (a, v)) : s = a ++ k :: v := by
  induction s generalizing a v with
  | nil => cases h
  | cons c s ih =>
    unfold cutC at h
    split at h
    · rename_i hc; subst hc; cases h; rfl
    · rw [Option.map_eq_some_iff] at h
      obtain ⟨⟨a', v'⟩, h1, h2⟩ := h
      cases h2
      rw [ih h1]; rfl
theorem indexByte_C (k : UInt8) : ∀ s : List UInt8, Lib.indexByte s k = match cutC k s with | some x => (x.1.length : Int) | none => -1
  | [] => rfl
  | c :: s => by
    rw [Lib.indexByte, cutC, indexByte_C k s]
    by_cases h : c = k
    · subst h; simp
    · have : (c == k) = false := by simpa using h
      rw [if_neg h]
      simp only [this]
      cases cutC k s with
      | none => simp
      | some x => simp <;> omega
def splitN (k : UInt8) : Nat → List UInt8 → List (List UInt8)
  | 0, s => [s]
  | n + 1, s => match cutC k s with
    | none => [s]
    | some x => x.1 :: splitN k n x.2
theorem splitN_len (k : UInt8) : ∀ (n : Nat) (s : List UInt8), (splitN k n s).length ≤ n + 1 ∧ (∀ x ∈ splitN k n s, x.length ≤ s.length)
  | 0, s => by simp [splitN]
  | n + 1, s => by
    rw [splitN]
    cases h : cutC k s with
    | none => simp
    | some x =>
      obtain ⟨a, v⟩ := x
      have e := cutC_some h
      obtain ⟨h1, h2⟩ := splitN_len k n v
      refine ⟨by simp; omega, fun y hy => ?_⟩
      rcases List.mem_cons.1 hy with rfl | hy
      · rw [e]; simp
      · have := h2 y hy; rw [e]; simp; omega
theorem splitN_big (k : UInt8) : ∀ (n m : Nat) (s : List UInt8), s.length ≤ n → s.length ≤ m → splitN k n s = splitN k m s
  | 0, 0, s, _, _ => rfl
  | 0, m + 1, s, h, _ => by
    have : s = [] := List.length_eq_zero_iff.1 (by omega)
    subst this; rfl
  | n + 1, 0, s, _, h => by
    have : s = [] := List.length_eq_zero_iff.1 (by omega)
    subst this; rfl
  | n + 1, m + 1, s, h1, h2 => by
    rw [splitN, splitN]
    cases h : cutC k s with
    | none => rfl
    | some x =>
      obtain ⟨a, v⟩ := x
      have e := congrArg List.length (cutC_some h)
      simp at e
      simp only
      rw [splitN_big k n m v (by omega) (by omega)]
theorem gen_loop (N : Nat) (a0 : List UInt8) (k : UInt8) (v3 : Int) (mx : Nat) (hmx : w64 (mn v3 (w64 ((a0.length : Int) + 1)) - 1) = (mx : Int)) (hm : mx ≤ 1000000) : ∀ (c : Nat) (d : List (List UInt8)) (s : List UInt8) (n : Nat), d.length + c = mx → c < n → s.length ≤ 1000000 →
    ∃ (s' : List UInt8) (d' : List (List UInt8)) (c' : Nat), strings_genSplit_l34 N a0 [k] 0 v3 n (s, (d.length : Int), d ++ List.replicate (c + 1) []) = some (s', (d'.length : Int), d' ++ List.replicate (c' + 1) []) ∧ d' ++ [s'] = d ++ splitN k c s := by
  intro c
  induction c with
  | zero =>
    intro d s n hd hn hs
    obtain ⟨n, rfl, _⟩ := fuel hn
    simp only [strings_genSplit_l34, strings_genSplit_l34_b]
    rw [hmx, decide_eq_false (by omega), cond_false]
    exact ⟨s, d, 0, rfl, rfl⟩
  | succ c ih =>
    intro d s n hd hn hs
    obtain ⟨n, rfl, hn'⟩ := fuel hn
    simp only [strings_genSplit_l34, strings_genSplit_l34_b]
    rw [hmx, decide_eq_true (by omega), cond_true]
    unfold strings_Index stringslite_Index
    simp only [Option.bind_some]
    rw [indexByte_C, splitN]
    cases h : cutC k s with
    | none =>
      refine ⟨s, d, c + 1, ?_, rfl⟩
      simp
    | some x =>
      obtain ⟨a, v⟩ := x
      have e := cutC_some h
      have el := congrArg List.length e
      simp at el
      simp only
      have hchk : chkI (d.length : Int) (d ++ List.replicate (c + 1 + 1) ([] : List UInt8)).length = some d.length := chkI_nat (by simp)
      have hget : (d ++ List.replicate (c + 1 + 1) ([] : List UInt8))[d.length]? = some [] := by
        rw [List.replicate_succ]; exact get_mid d _ _
      have hset : ∀ y, (d ++ List.replicate (c + 1 + 1) ([] : List UInt8)).set d.length y = (d ++ [y]) ++ List.replicate (c + 1) [] := by
        intro y
        rw [List.replicate_succ, set_mid]; simp
      rw [decide_eq_false (by omega), cond_false, show (a.length : Int) + 0 = (a.length : Int) by omega, w64_nat (by omega), takeL_nat (by omega), Option.bind_some, hchk, Option.bind_some, hget, Option.bind_some,
        show ((([k] : List UInt8).length : Int)) = 1 from rfl, w64_succ (by omega), dropL_nat (by omega), Option.bind_some, w64_succ (by omega), hset]
      have ht : s.take a.length = a := by rw [e, List.take_left' rfl]
      have hdr : s.drop (a.length + 1) = v := by rw [e, app_mid, List.drop_left' (by simp)]
      rw [ht, hdr]
      obtain ⟨s', d', c', h1, h2⟩ := ih (d ++ [a]) v n (by simp; omega) (by omega) (by omega)
      refine ⟨s', d', c', ?_, ?_⟩
      · rw [← h1]; simp
      · rw [h2]; simp
theorem gen_j (N : Nat) (s : List UInt8) (k : UInt8) (n : Nat) (hn : 1 ≤ n) (hn2 : n ≤ 1000000) (hs : s.length ≤ 1000000) (hN : 2000000 < N) : strings_genSplit_j18 s [k] 0 N (n : Int) = some (splitN k (n - 1) s) := by
  unfold strings_genSplit_j18
  have hmn : mn (n : Int) (w64 ((s.length : Int) + 1)) = ((min n (s.length + 1) : Nat) : Int) := by
    rw [w64_succ (by omega)]
    unfold mn
    split <;> omega
  have hmx : w64 (mn (n : Int) (w64 ((s.length : Int) + 1)) - 1) = ((min n (s.length + 1) - 1 : Nat) : Int) := by
    rw [hmn, w64_id (by omega) (by omega)]; omega
  obtain ⟨s', d', c', h1, h2⟩ := gen_loop N s k (n : Int) (min n (s.length + 1) - 1) hmx (by omega) (min n (s.length + 1) - 1) [] s N (by simp) (by omega) hs
  simp only [List.nil_append, List.length_nil] at h1 h2
  have hmk : mkN 16 (mn (n : Int) (w64 ((s.length : Int) + 1))) = some (min n (s.length + 1) - 1 + 1) := by
    rw [hmn]
    unfold mkN
    rw [if_pos (by constructor <;> omega)]
    simp; omega
  rw [show (((0 : Nat)) : Int) = (0 : Int) from rfl] at h1
  rw [hmk, Option.bind_some, h1, Option.bind_some]
  simp only
  have hchk : chkI (d'.length : Int) (d' ++ List.replicate (c' + 1) ([] : List UInt8)).length = some d'.length := chkI_nat (by simp)
  have hget : (d' ++ List.replicate (c' + 1) ([] : List UInt8))[d'.length]? = some [] := by
    rw [List.replicate_succ]; exact get_mid d' _ _
  have hset : ∀ y, (d' ++ List.replicate (c' + 1) ([] : List UInt8)).set d'.length y = (d' ++ [y]) ++ List.replicate c' [] := by
    intro y
    rw [List.replicate_succ, set_mid]; simp
  have hdl : d'.length ≤ 1000000 := by
    have e := congrArg List.length h2
    have := (splitN_len k (min n (s.length + 1) - 1) s).1
    simp at e
    omega
  rw [hchk, Option.bind_some, hget, Option.bind_some, hset, w64_succ (by omega), takeL_nat (by simp), Option.bind_some]
  have ht : ((d' ++ [s']) ++ List.replicate c' ([] : List UInt8)).take (d'.length + 1) = d' ++ [s'] := List.take_left' (by simp)
  rw [ht, h2]
  by_cases hc : n ≤ s.length + 1
  · rw [Nat.min_eq_left hc]
  · rw [Nat.min_eq_right (by omega)]
    congr 1
    exact splitN_big k _ _ s (by omega) (by omega)
end Go.Gp
end
section
set_option linter.unusedVariables false
set_option linter.unusedSimpArgs false
namespace Go.Gp
open Go.Vd
theorem splitN_eq (N : Nat) (s : List UInt8) (k : UInt8) (n : Nat) (hn : 1 ≤ n) (hn2 : n ≤ 1000000) (hs : s.length ≤ 1000000) (hN : 2000000 < N) : strings_SplitN N s [k] (n : Int) = some (splitN k (n - 1) s) := by
  unfold strings_SplitN strings_genSplit
  rw [show ((n : Int) == (0 : Int)) = false by (rw [Bool.eq_false_iff]; simp; omega), cond_false, show (([k] : List UInt8) == ([] : List UInt8)) = false from rfl, cond_false, decide_eq_false (by omega), cond_false, gen_j N s k n hn hn2 hs hN]
  rfl
theorem count_le (s : List UInt8) (k : UInt8) : Lib.countByte s k ≤ s.length := List.count_le_length
theorem split_eq (N : Nat) (s : List UInt8) (k : UInt8) (hs : s.length ≤ 999999) (hN : 2000000 < N) : strings_Split N s [k] = some (splitN k (Lib.countByte s k) s) := by
  unfold strings_Split strings_genSplit strings_Count
  have hc := count_le s k
  simp only [Option.bind_some]
  rw [w64_succ (by omega)]
  have := gen_j N s k (Lib.countByte s k + 1) (by omega) (by omega) (by omega) hN
  rw [show (((-1) : Int) == (0 : Int)) = false from rfl, cond_false, show (([k] : List UInt8) == ([] : List UInt8)) = false from rfl, cond_false, show decide (((-1) : Int) < (0 : Int)) = true from rfl, cond_true, this]
  rfl
end Go.Gp
end
section
set_option linter.unusedVariables false
set_option linter.unusedSimpArgs false
namespace Go.Gp
open Go.Vd
def ruleT (r : api_Rule) : List UInt8 := cat1 32 [if r.Deny then [100, 101, 110, 121] else [103, 114, 97, 110, 116], r.Rights, if r.Sub then [115, 117, 98] else [98, 97, 115, 101], if r.Attrs = [] then [42] else cat1 44 r.Attrs, r.Who]
theorem ruleT_len {r : api_Rule} (h : okR r) : (cat1 44 r.Attrs).length ≤ 1001000 ∧ (ruleT r).length ≤ 1010000 := by
  have h1 := cat1_len 44 1000 r.Attrs h.2.1
  have h2 := h.1
  have h3 := h.2.2.1
  have h4 := h.2.2.2
  refine ⟨by omega, ?_⟩
  unfold ruleT
  generalize cat1 44 r.Attrs = q at *
  simp only [cat1, List.flatMap_cons, List.flatMap_nil, List.length_append, List.length_cons, List.length_nil]
  split <;> split <;> split <;> simp <;> omega
theorem aciPrint_eq {N : Nat} {r : api_Rule} (h : okR r) (hN : 2000000 < N) (hN2 : N ≤ 9223372036854775808) : aci_Print N r = some (if ruleS r then ruleT r else []) := by
  obtain ⟨h1, h2⟩ := ruleT_len h
  unfold aci_Print aci_Print_j12 aci_Print_j18 aci_Print_j24
  rw [aciIs_eq h hN hN2, Option.bind_some, at0']
  have hj : strings_Join N r.Attrs [44] = some (cat1 44 r.Attrs) := sjoin_eq N _ 44 (by have := h.1; omega) (by omega)
  rw [hj]
  cases hr : ruleS r with
  | false => rfl
  | true =>
    simp only [Bool.not_true, cond_false, if_true, Option.bind_some]
    have key : ∀ l : List (List UInt8), l.length = 5 → cat1 32 l = ruleT r → strings_Join N l [32] = some (ruleT r) := by
      intro l hl e
      rw [sjoin_eq N l 32 (by omega) (by rw [e]; omega), e]
    cases hd : r.Deny <;> cases hs : r.Sub <;> by_cases ha : r.Attrs = [] <;>
      simp only [ha, decide_true, decide_false, Bool.not_true, Bool.not_false, cond_true, cond_false] <;>
      rw [key _ rfl (by unfold ruleT; simp [hd, hs, ha])] <;> rfl
end Go.Gp
end
section
set_option linter.unusedVariables false
set_option linter.unusedSimpArgs false
namespace Go.Gp
open Go.Vd
theorem cutC_none {k : UInt8} : ∀ {s : List UInt8}, k ∉ s → cutC k s = none
  | [], _ => rfl
  | c :: s, h => by
    simp only [List.mem_cons, not_or] at h
    rw [cutC, if_neg (fun e => h.1 e.symm), cutC_none h.2]; rfl
theorem cutC_at {k : UInt8} {v : List UInt8} : ∀ {a : List UInt8}, k ∉ a → cutC k (a ++ k :: v) = some (a, v)
  | [], _ => by simp [cutC]
  | c :: a, h => by
    simp only [List.mem_cons, not_or] at h
    rw [List.cons_append, cutC, if_neg (fun e => h.1 e.symm), cutC_at h.2]; rfl
theorem cutC_notin {k : UInt8} : ∀ {s a v : List UInt8}, cutC k s = some (a, v) → k ∉ a
  | [], a, v, h => by cases h
  | c :: s, a, v, h => by
    unfold cutC at h
    split at h
    · cases h; simp
    · rename_i hc
      rw [Option.map_eq_some_iff] at h
      obtain ⟨⟨a', v'⟩, h1, h2⟩ := h
      cases h2
      simp only [List.mem_cons, not_or]
      exact ⟨fun e => hc e.symm, cutC_notin h1⟩
theorem cutC_cnt {k : UInt8} {s a v : List UInt8} (h : cutC k s = some (a, v)) : Lib.countByte v k + 1 ≤ Lib.countByte s k := by
  rw [cutC_some h]
  unfold Lib.countByte
  rw [List.count_append, List.count_cons_self]; omega
theorem splitN_cnt (k : UInt8) : ∀ (n m : Nat) (s : List UInt8), Lib.countByte s k ≤ n → Lib.countByte s k ≤ m → splitN k n s = splitN k m s
  | 0, 0, s, _, _ => rfl
  | 0, m + 1, s, h, _ => by
    rw [splitN, splitN]
    cases hc : cutC k s with
    | none => rfl
    | some x => have := cutC_cnt (a := x.1) (v := x.2) hc; omega
  | n + 1, 0, s, _, h => by
    rw [splitN, splitN]
    cases hc : cutC k s with
    | none => rfl
    | some x => have := cutC_cnt (a := x.1) (v := x.2) hc; omega
  | n + 1, m + 1, s, h1, h2 => by
    rw [splitN, splitN]
    cases hc : cutC k s with
    | none => rfl
    | some x =>
      have := cutC_cnt (a := x.1) (v := x.2) hc
      simp only
      rw [splitN_cnt k n m x.2 (by omega) (by omega)]
def splitA (k : UInt8) (s : List UInt8) : List (List UInt8) := splitN k (Lib.countByte s k) s
theorem splitA_cut {k : UInt8} {s a v : List UInt8} (h : cutC k s = some (a, v)) : splitA k s = a :: splitA k v := by
  have := cutC_cnt h
  unfold splitA
  rw [splitN_cnt k (Lib.countByte s k) (Lib.countByte v k + 1) s (Nat.le_refl _) (by
    rw [cutC_some h]
    have e := cutC_some h
    unfold Lib.countByte
    rw [List.count_append, List.count_cons_self]
    have : List.count k a = 0 := by
      rw [List.count_eq_zero]
      intro hm
      exact cutC_notin h hm
    omega), splitN, h]
theorem splitA_none {k : UInt8} {s : List UInt8} (h : cutC k s = none) : splitA k s = [s] := by
  unfold splitA
  cases Lib.countByte s k with
  | zero => rfl
  | succ n => rw [splitN, h]
theorem splitA_len (k : UInt8) (s : List UInt8) : (splitA k s).length ≤ s.length + 1 ∧ ∀ x ∈ splitA k s, x.length ≤ s.length := by
  have h1 := splitN_len k (Lib.countByte s k) s
  have h2 := count_le s k
  unfold splitA
  exact ⟨by omega, h1.2⟩
theorem psplit_eq {N : Nat} {s : List UInt8} (hs : s.length ≤ 100000) (hN : 2000000 < N) : strings_Split N s [44] = some (splitA 44 s) := split_eq N s 44 (by omega) hN
end Go.Gp
end
section
set_option linter.unusedVariables false
set_option linter.unusedSimpArgs false
namespace Go.Gp
open Go.Vd
def noR : api_Rule := ⟨false, [], false, [], []⟩
def mkR (a b c d e : List UInt8) : api_Rule := ⟨a == [100, 101, 110, 121], b, c == [115, 117, 98], e, if d = [42] then [] else splitA 44 d⟩
def rdR (s : List UInt8) : Option api_Rule :=
  (cutC 32 s).bind fun w0 => (cutC 32 w0.2).bind fun w1 => (cutC 32 w1.2).bind fun w2 => (cutC 32 w2.2).bind fun w3 =>
    if (ruleS (mkR w0.1 w1.1 w2.1 w3.1 w3.2) && ruleT (mkR w0.1 w1.1 w2.1 w3.1 w3.2) == s) = true then some (mkR w0.1 w1.1 w2.1 w3.1 w3.2) else none
theorem cutC_len {k : UInt8} {s a v : List UInt8} (h : cutC k s = some (a, v)) : a.length + v.length + 1 = s.length := by
  have := congrArg List.length (cutC_some h)
  simp at this
  omega
theorem mkR_ok {a b c d e : List UInt8} (hb : b.length ≤ 900) (hd : d.length ≤ 900) (he : e.length ≤ 900) : okR (mkR a b c d e) := by
  have := splitA_len 44 d
  unfold mkR okR
  refine ⟨?_, ?_, by simp; omega, he⟩
  · simp only
    split
    · simp
    · omega
  · intro x hx
    simp only at hx
    split at hx
    · cases hx
    · have := this.2 x hx; omega
theorem pparse_end {N : Nat} {s : List UInt8} {r : api_Rule} (h : okR r) (hs : s ≠ []) (hN : 2000000 < N) (hN2 : N ≤ 9223372036854775808) :
    aci_Parse_j14 s N r = some (match (if (ruleS r && ruleT r == s) = true then some r else none) with | some r => (r, 0) | none => (noR, 20)) := by
  unfold aci_Parse_j14
  rw [aciPrint_eq h hN hN2, Option.bind_some]
  cases hr : ruleS r with
  | false =>
    have : (([] : List UInt8) == s) = false := by rw [Bool.eq_false_iff]; simpa using fun e => hs e
    simp only [Bool.false_and, Bool.false_eq_true, if_false, this, Bool.not_false, cond_true]
    rfl
  | true =>
    simp only [if_true, Bool.true_and]
    cases ruleT r == s <;> rfl
theorem pparse_eq {N : Nat} {s : List UInt8} (hs : s.length ≤ 900) (hN : 2000000 < N) (hN2 : N ≤ 9223372036854775808) : aci_Parse N s = some (match rdR s with | some r => (r, 0) | none => (noR, 20)) := by
  unfold aci_Parse rdR
  have := splitN_eq N s 32 5 (by omega) (by omega) (by omega) hN
  rw [show ((5 : Nat) : Int) = (5 : Int) from rfl] at this
  rw [this, Option.bind_some, splitN]
  cases h0 : cutC 32 s with
  | none => rfl
  | some w0 =>
    obtain ⟨a, v⟩ := w0
    simp only [Option.bind_some]
    rw [splitN]
    have l0 := cutC_len h0
    cases h1 : cutC 32 v with
    | none => rfl
    | some w1 =>
      obtain ⟨b, v⟩ := w1
      simp only [Option.bind_some]
      rw [splitN]
      have l1 := cutC_len h1
      cases h2 : cutC 32 v with
      | none => rfl
      | some w2 =>
        obtain ⟨c, v⟩ := w2
        simp only [Option.bind_some]
        rw [splitN]
        have l2 := cutC_len h2
        cases h3 : cutC 32 v with
        | none => rfl
        | some w3 =>
          obtain ⟨d, e⟩ := w3
          have l3 := cutC_len h3
          have hne : s ≠ [] := by intro e; rw [e] at h0; cases h0
          have hok : okR (mkR a b c d e) := mkR_ok (by omega) (by omega) (by omega)
          have hfin := pparse_end hok hne hN hN2
          simp only [Option.bind_some, splitN]
          rw [show idxL [a, b, c, d, e] (0 : Int) = some a from rfl, show idxL [a, b, c, d, e] (1 : Int) = some b from rfl, show idxL [a, b, c, d, e] (2 : Int) = some c from rfl, show idxL [a, b, c, d, e] (4 : Int) = some e from rfl, show idxL [a, b, c, d, e] (3 : Int) = some d from rfl]
          simp only [Option.bind_some]
          rw [psplit_eq (by omega) hN, Option.bind_some, show ((([a, b, c, d, e] : List (List UInt8)).length : Int) != (5 : Int)) = false from rfl, cond_false]
          by_cases hd : d = [42]
          · subst hd
            rw [show ((([42] : List UInt8)) == ([42] : List UInt8)) = true from rfl, Bool.not_true, cond_false]
            exact hfin
          · rw [show (d == ([42] : List UInt8)) = false by simpa using hd, Bool.not_false, cond_true]
            have e1 : mkR a b c d e = ⟨a == [100, 101, 110, 121], b, c == [115, 117, 98], e, splitA 44 d⟩ := by unfold mkR; rw [if_neg hd]
            rw [← e1]
            exact hfin
theorem reql_loop (N : Nat) (p q : api_Rule) : ∀ (b d a c : List (List UInt8)) (n : Nat), p.Attrs = a ++ b → q.Attrs = c ++ d → a.length = c.length → b.length = d.length → (a ++ b).length ≤ 1000000 → b.length < n →
    prefectref17_SameRule_l14 N p q n (a.length : Int) = some (if b = d then .inl () else .inr false) := by
  intro b
  induction b with
  | nil =>
    intro d a c n hp hq h1 h2 hs hn
    obtain ⟨n, rfl, _⟩ := fuel hn
    obtain rfl : d = [] := List.length_eq_zero_iff.1 h2.symm
    simp only [prefectref17_SameRule_l14, prefectref17_SameRule_l14_b]
    rw [hp, len_end, cond_false]; rfl
  | cons x b ih =>
    intro d a c n hp hq h1 h2 hs hn
    obtain ⟨n, rfl, hn'⟩ := fuel hn
    cases d with
    | nil => simp at h2
    | cons y d =>
      have hal : (a ++ x :: b).length = a.length + b.length + 1 := by simp; omega
      have hi : idxL q.Attrs ((a.length : Nat) : Int) = some y := by rw [hq, show ((a.length : Nat) : Int) = ((c.length : Nat) : Int) by rw [h1], idx_mid]
      simp only [prefectref17_SameRule_l14, prefectref17_SameRule_l14_b]
      rw [hi, hp, len_mid, cond_true, idx_mid, Option.bind_some, Option.bind_some]
      by_cases hxy : x = y
      · subst hxy
        rw [BEq.rfl, Bool.not_true, cond_false, suc_mid (a := a) (b := b) (x := x) (by omega)]
        have := ih d (a ++ [x]) (c ++ [x]) n (by rw [hp]; simp) (by rw [hq]; simp) (by simp [h1]) (by simpa using h2) (by simpa using hs) hn'
        rw [this]
        simp
      · rw [show (x == y) = false by simpa using hxy, Bool.not_false, cond_true, if_neg (by intro e; cases e; exact hxy rfl)]
def sameR (a b : api_Rule) : Bool := decide (a = b)
theorem sameR_bits (a b : api_Rule) : sameR a b = (a.Deny == b.Deny && (a.Rights == b.Rights && (a.Sub == b.Sub && (a.Who == b.Who && a.Attrs == b.Attrs)))) := by
  unfold sameR
  obtain ⟨a1, a2, a3, a4, a5⟩ := a
  obtain ⟨b1, b2, b3, b4, b5⟩ := b
  rw [Bool.eq_iff_iff]
  simp
theorem rsame_eq {N : Nat} {a b : api_Rule} (h : a.Attrs.length ≤ 1000000) (hN : a.Attrs.length < N) : prefectref17_SameRule N a b = some (sameR a b) := by
  unfold prefectref17_SameRule
  rw [sameR_bits]
  by_cases hl : a.Attrs.length = b.Attrs.length
  · have := reql_loop N a b a.Attrs b.Attrs [] [] N rfl rfl rfl hl (by simpa using h) hN
    simp only [List.length_nil] at this
    rw [show ((a.Attrs.length : Int) != (b.Attrs.length : Int)) = false by simp [hl], show ((0 : Int)) = ((0 : Nat) : Int) from rfl, this]
    by_cases e : a.Attrs = b.Attrs
    · rw [if_pos e, show (a.Attrs == b.Attrs) = true by rw [e, BEq.rfl]]
      cases a.Deny == b.Deny <;> cases a.Rights == b.Rights <;> cases a.Sub == b.Sub <;> cases a.Who == b.Who <;> rfl
    · rw [if_neg e, show (a.Attrs == b.Attrs) = false by simpa using e]
      cases a.Deny == b.Deny <;> cases a.Rights == b.Rights <;> cases a.Sub == b.Sub <;> cases a.Who == b.Who <;> rfl
  · rw [show ((a.Attrs.length : Int) != (b.Attrs.length : Int)) = true by simp; omega, show (a.Attrs == b.Attrs) = false by rw [Bool.eq_false_iff]; simp; intro e; exact hl (by rw [e])]
    cases a.Deny == b.Deny <;> cases a.Rights == b.Rights <;> cases a.Sub == b.Sub <;> cases a.Who == b.Who <;> rfl
def fewS (r : api_Rule) : Bool := r.Attrs.all (fun s => decide (s.length ≤ 30)) && (decide (r.Attrs.length ≤ 20) && (decide (r.Rights.length ≤ 20) && decide (r.Who.length ≤ 200)))
theorem few_loop (N : Nat) (r : api_Rule) : ∀ (b a : List (List UInt8)) (n : Nat), r.Attrs = a ++ b → (a ++ b).length ≤ 9223372036854775807 → b.length < n →
    prefectlaw18_fewRule_l6 N r n (a.length : Int) = some (bif b.all (fun s => decide (s.length ≤ 30)) then .inl () else .inr false) := by
  intro b
  induction b with
  | nil =>
    intro a n hr hs hn
    obtain ⟨n, rfl, _⟩ := fuel hn
    simp only [prefectlaw18_fewRule_l6, prefectlaw18_fewRule_l6_b]
    rw [hr, len_end, cond_false]; rfl
  | cons x b ih =>
    intro a n hr hs hn
    obtain ⟨n, rfl, hn'⟩ := fuel hn
    simp only [prefectlaw18_fewRule_l6, prefectlaw18_fewRule_l6_b]
    rw [hr, len_mid, cond_true, idx_mid, Option.bind_some, suc_mid (a := a) (b := b) (x := x) hs, ih (a ++ [x]) n (by rw [hr]; simp) (by simpa using hs) hn', List.all_cons]
    by_cases h : x.length ≤ 30
    · rw [decide_eq_false (by omega), decide_eq_true h]; rfl
    · rw [decide_eq_true (by omega), decide_eq_false h]; rfl
theorem few_eq {N : Nat} {r : api_Rule} (h : r.Attrs.length ≤ 9223372036854775807) (hN : r.Attrs.length < N) : prefectlaw18_fewRule N r = some (fewS r) := by
  unfold prefectlaw18_fewRule fewS
  have := few_loop N r r.Attrs [] N rfl (by simpa using h) hN
  simp only [List.length_nil] at this
  rw [show ((0 : Int)) = ((0 : Nat) : Int) from rfl, this]
  have e1 : decide ((r.Attrs.length : Int) ≤ (20 : Int)) = decide (r.Attrs.length ≤ 20) := by rw [Bool.eq_iff_iff]; simp; omega
  have e2 : decide ((r.Rights.length : Int) ≤ (20 : Int)) = decide (r.Rights.length ≤ 20) := by rw [Bool.eq_iff_iff]; simp; omega
  have e3 : decide ((r.Who.length : Int) ≤ (200 : Int)) = decide (r.Who.length ≤ 200) := by rw [Bool.eq_iff_iff]; simp; omega
  rw [e1, e2, e3]
  cases r.Attrs.all (fun s => decide (s.length ≤ 30)) <;> cases decide (r.Attrs.length ≤ 20) <;> cases decide (r.Rights.length ≤ 20) <;> rfl
theorem few_ok {r : api_Rule} (h : fewS r = true) : okR r := by
  unfold fewS at h
  simp only [Bool.and_eq_true, List.all_eq_true, decide_eq_true_eq] at h
  obtain ⟨h1, h2, h3, h4⟩ := h
  exact ⟨by omega, fun s hs => by have := h1 s hs; omega, by omega, by omega⟩
end Go.Gp
end
