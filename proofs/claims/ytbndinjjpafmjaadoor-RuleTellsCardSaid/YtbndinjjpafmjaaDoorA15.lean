/- A part of the proof: functions of the program and what they compute. -/
import Derived.Test.YtbndinjjpafmjaaDoorA5
import Derived.Test.YtbndinjjpafmjaaDoorA14
section
set_option linter.unusedVariables false
set_option linter.unusedSimpArgs false
namespace Go.Gp
open Go.Vd
def lowB (c : UInt8) : UInt8 := if 65 ≤ c.toNat ∧ c.toNat ≤ 90 then c + 32 else c
def low (s : List UInt8) : List UInt8 := s.map lowB
def isUp (c : UInt8) : Bool := decide (65 ≤ c.toNat) && decide (c.toNat ≤ 90)
theorem up_cond (c : UInt8) : (bif decide (((c).toNat : Int) ≥ (65 : Int)) then some (decide (((c).toNat : Int) ≤ (90 : Int))) else some false) = some (isUp c) := by
  have := u8_all (p := fun c => (bif decide (((c).toNat : Int) ≥ (65 : Int)) then some (decide (((c).toNat : Int) ≤ (90 : Int))) else some false) == some (isUp c)) (by decide +kernel) c
  simpa using this
theorem low_up (c : UInt8) : lowB c = bif isUp c then c + 32 else c := by
  have := u8_all (p := fun c => lowB c == bif isUp c then c + 32 else c) (by decide +kernel) c
  simpa using this
theorem lower_loop (N : Nat) : ∀ (b a d : List UInt8) (n : Nat), (a ++ b).length ≤ 9223372036854775807 → b.length < n → d.length = a.length →
    dn_Lower_l8 N (a ++ b) n ((a.length : Int), d ++ b) = some (d ++ low b) := by
  intro b
  induction b with
  | nil =>
    intro a d n hs hn hd
    obtain ⟨n, rfl, _⟩ := fuel hn
    simp only [dn_Lower_l8, dn_Lower_l8_b]
    rw [len_end, cond_false]; rfl
  | cons c b ih =>
    intro a d n hs hn hd
    obtain ⟨n, rfl, hn'⟩ := fuel hn
    simp only [dn_Lower_l8, dn_Lower_l8_b, dn_Lower_j15]
    rw [len_mid, cond_true]
    have hnx : ∀ x, dn_Lower_l8 N (a ++ c :: b) n (w64 ((a.length : Int) + 1), d ++ x :: b) = some (d ++ x :: low b) := by
      intro x
      rw [suc_mid hs, app_mid a b c, app_mid d b x, ih (a ++ [c]) (d ++ [x]) n (by simpa using hs) hn' (by simp [hd])]
      simp
    rw [← hd, chk_mid, Option.bind_some, get_mid, Option.bind_some, up_cond]
    simp only [Option.bind_some, get_mid, set_mid]
    rw [hd, hnx, hnx]
    show _ = some (d ++ lowB c :: low b)
    rw [low_up]
    cases isUp c <;> rfl
theorem lower_eq {N : Nat} {s : List UInt8} (hs : s.length ≤ 9223372036854775807) (hN : s.length < N) : dn_Lower N s = some (low s) := by
  unfold dn_Lower
  have := lower_loop N s [] [] N hs hN rfl
  simp only [List.nil_append, List.length_nil] at this
  rw [show ((0 : Int)) = ((0 : Nat) : Int) from rfl, this]
  rfl
theorem rlower_loop (N : Nat) : ∀ (b d : List UInt8) (n : Nat), (d ++ b).length ≤ 9223372036854775807 → b.length < n →
    prefectref4_Lower_l8 N n ((d.length : Int), d ++ b) = some (d ++ low b) := by
  intro b
  induction b with
  | nil =>
    intro d n hs hn
    obtain ⟨n, rfl, _⟩ := fuel hn
    simp only [prefectref4_Lower_l8, prefectref4_Lower_l8_b]
    rw [len_end, cond_false]; rfl
  | cons c b ih =>
    intro d n hs hn
    obtain ⟨n, rfl, hn'⟩ := fuel hn
    simp only [prefectref4_Lower_l8, prefectref4_Lower_l8_b, prefectref4_Lower_j15]
    rw [len_mid, cond_true]
    have hnx : ∀ x, prefectref4_Lower_l8 N n (w64 ((d.length : Int) + 1), d ++ x :: b) = some (d ++ x :: low b) := by
      intro x
      have hs' : (d ++ x :: b).length ≤ 9223372036854775807 := by simpa using hs
      rw [suc_mid hs', app_mid d b x, ih (d ++ [x]) n (by simpa using hs') hn']
      simp
    rw [chk_mid]
    simp only [Option.bind_some, get_mid, set_mid, hnx, up_cond]
    show _ = some (d ++ lowB c :: low b)
    rw [low_up]
    cases isUp c <;> rfl
theorem rlower_eq {N : Nat} {s : List UInt8} (hs : s.length ≤ 9223372036854775807) (hN : s.length < N) : prefectref4_Lower N s = some (low s) := by
  unfold prefectref4_Lower
  have := rlower_loop N s [] N hs hN
  simp only [List.nil_append, List.length_nil] at this
  rw [show ((0 : Int)) = ((0 : Nat) : Int) from rfl, this]
  rfl
def tyA (c : UInt8) : Bool := decide (97 ≤ c.toNat) && decide (c.toNat ≤ 122)
def tyB (c : UInt8) : Bool := tyA c || (decide (48 ≤ c.toNat) && decide (c.toNat ≤ 57)) || decide (c.toNat = 45)
def isTypeS (s : List UInt8) : Bool := match s with
  | [] => false
  | c :: t => decide (t.length < 16) && (tyA c && (c :: t).all tyB)
theorem ty_cond (c : UInt8) (x y : Option (Unit ⊕ Bool)) : (Option.bind (bif decide (((c).toNat : Int) ≥ (97 : Int)) then some (decide (((c).toNat : Int) ≤ (122 : Int))) else some false) fun (g7 : Bool) =>
      bif g7 then x else Option.bind (bif decide (((c).toNat : Int) ≥ (48 : Int)) then some (decide (((c).toNat : Int) ≤ (57 : Int))) else some false) fun (g11 : Bool) =>
        bif g11 then (bif g11 then x else y) else (bif (((c).toNat : Int) == (45 : Int)) then x else y)) = bif tyB c then x else y := by
  have := u8_all (p := fun c => (Option.bind (bif decide (((c).toNat : Int) ≥ (97 : Int)) then some (decide (((c).toNat : Int) ≤ (122 : Int))) else some false) fun (g7 : Bool) =>
      bif g7 then some true else Option.bind (bif decide (((c).toNat : Int) ≥ (48 : Int)) then some (decide (((c).toNat : Int) ≤ (57 : Int))) else some false) fun (g11 : Bool) =>
        bif g11 then (bif g11 then some true else some false) else (bif (((c).toNat : Int) == (45 : Int)) then some true else some false)) == some (tyB c)) (by decide +kernel) c
  revert this
  cases decide (((c).toNat : Int) ≥ (97 : Int)) <;> cases decide (((c).toNat : Int) ≤ (122 : Int)) <;> cases decide (((c).toNat : Int) ≥ (48 : Int)) <;> cases decide (((c).toNat : Int) ≤ (57 : Int)) <;> cases (((c).toNat : Int) == (45 : Int)) <;> cases tyB c <;> simp
theorem ty_head (c : UInt8) : (bif decide (((c).toNat : Int) < (97 : Int)) then some true else some (decide (((c).toNat : Int) > (122 : Int)))) = some (!tyA c) := by
  have := u8_all (p := fun c => (bif decide (((c).toNat : Int) < (97 : Int)) then some true else some (decide (((c).toNat : Int) > (122 : Int)))) == some (!tyA c)) (by decide +kernel) c
  simpa using this
theorem type_loop (N : Nat) : ∀ (b a : List UInt8) (n : Nat), (a ++ b).length ≤ 9223372036854775807 → b.length < n →
    dn_IsType_l14 N (a ++ b) n (a.length : Int) = some (bif b.all tyB then .inl () else .inr false) := by
  intro b
  induction b with
  | nil =>
    intro a n hs hn
    obtain ⟨n, rfl, _⟩ := fuel hn
    simp only [dn_IsType_l14, dn_IsType_l14_b]
    rw [len_end, cond_false]; rfl
  | cons c b ih =>
    intro a n hs hn
    obtain ⟨n, rfl, hn'⟩ := fuel hn
    simp only [dn_IsType_l14, dn_IsType_l14_b, dn_IsType_j28, dn_IsType_j38]
    rw [len_mid, cond_true, chk_mid, Option.bind_some, get_mid, Option.bind_some, suc_mid hs]
    have := ih (a ++ [c]) n (by simpa using hs) hn'
    rw [← app_mid] at this
    rw [this, ty_cond, List.all_cons]
    cases tyB c <;> rfl
theorem isType_eq {N : Nat} {s : List UInt8} (hs : s.length ≤ 9223372036854775807) (hN : s.length < N) : dn_IsType N s = some (isTypeS s) := by
  unfold dn_IsType isTypeS
  cases s with
  | nil => rfl
  | cons c s =>
    have h0 : (c :: s == ([] : List UInt8)) = false := rfl
    have hi := idx_mid [] s c
    have hl := type_loop N (c :: s) [] N hs hN
    simp only [List.nil_append, List.length_nil] at hi hl
    rw [h0, cond_false, show ((0 : Int)) = ((0 : Nat) : Int) from rfl, hi]
    simp only [Option.bind_some, ty_head, hl]
    by_cases hl : s.length < 16
    · rw [decide_eq_false (show ¬ (((c :: s).length : Int) > 16) by rw [List.length_cons]; omega), cond_false, Option.bind_some, decide_eq_true hl, Bool.true_and]
      cases tyA c <;> cases (c :: s).all tyB <;> rfl
    · rw [decide_eq_true (show (((c :: s).length : Int) > 16) by rw [List.length_cons]; omega), decide_eq_false hl]
      rfl
theorem rty_cond (c : UInt8) : (bif decide (((c).toNat : Int) < (97 : Int)) then
            bif decide (((c).toNat : Int) < (48 : Int)) then
              some (((c).toNat : Int) != (45 : Int))
            else
              bif decide (((c).toNat : Int) > (57 : Int)) then
                some (((c).toNat : Int) != (45 : Int))
              else
                some false
          else
            bif decide (((c).toNat : Int) > (122 : Int)) then
              bif decide (((c).toNat : Int) < (48 : Int)) then
                some (((c).toNat : Int) != (45 : Int))
              else
                bif decide (((c).toNat : Int) > (57 : Int)) then
                  some (((c).toNat : Int) != (45 : Int))
                else
                  some false
            else
              some false) = some (!tyB c) := by
  have := u8_all (p := fun c => (bif decide (((c).toNat : Int) < (97 : Int)) then
            bif decide (((c).toNat : Int) < (48 : Int)) then
              some (((c).toNat : Int) != (45 : Int))
            else
              bif decide (((c).toNat : Int) > (57 : Int)) then
                some (((c).toNat : Int) != (45 : Int))
              else
                some false
          else
            bif decide (((c).toNat : Int) > (122 : Int)) then
              bif decide (((c).toNat : Int) < (48 : Int)) then
                some (((c).toNat : Int) != (45 : Int))
              else
                bif decide (((c).toNat : Int) > (57 : Int)) then
                  some (((c).toNat : Int) != (45 : Int))
                else
                  some false
            else
              some false) == some (!tyB c)) (by decide +kernel) c
  simpa using this
theorem rtype_loop (N : Nat) : ∀ (b a : List UInt8) (n : Nat), (a ++ b).length ≤ 9223372036854775807 → b.length < n →
    prefectref4_IsType_l14 N (a ++ b) n (a.length : Int) = some (bif b.all tyB then .inl () else .inr false) := by
  intro b
  induction b with
  | nil =>
    intro a n hs hn
    obtain ⟨n, rfl, _⟩ := fuel hn
    simp only [prefectref4_IsType_l14, prefectref4_IsType_l14_b]
    rw [len_end, cond_false]; rfl
  | cons c b ih =>
    intro a n hs hn
    obtain ⟨n, rfl, hn'⟩ := fuel hn
    simp only [prefectref4_IsType_l14, prefectref4_IsType_l14_b]
    rw [len_mid, cond_true, idx_mid, Option.bind_some, suc_mid hs]
    have := ih (a ++ [c]) n (by simpa using hs) hn'
    rw [← app_mid] at this
    rw [this, rty_cond, Option.bind_some, List.all_cons]
    cases tyB c <;> rfl
theorem risType_eq {N : Nat} {s : List UInt8} (hs : s.length ≤ 9223372036854775807) (hN : s.length < N) : prefectref4_IsType N s = some (isTypeS s) := by
  unfold prefectref4_IsType isTypeS
  cases s with
  | nil => rfl
  | cons c s =>
    have h0 : decide (((c :: s).length : Int) < 1) = false := decide_eq_false (by rw [List.length_cons]; omega)
    have hi := idx_mid [] s c
    have hl := rtype_loop N (c :: s) [] N hs hN
    simp only [List.nil_append, List.length_nil] at hi hl
    rw [h0, cond_false, show ((0 : Int)) = ((0 : Nat) : Int) from rfl, hi]
    simp only [Option.bind_some, ty_head, hl]
    by_cases hl : s.length < 16
    · rw [decide_eq_false (show ¬ (((c :: s).length : Int) > 16) by rw [List.length_cons]; omega), cond_false, Option.bind_some, decide_eq_true hl, Bool.true_and]
      cases tyA c <;> cases (c :: s).all tyB <;> rfl
    · rw [decide_eq_true (show (((c :: s).length : Int) > 16) by rw [List.length_cons]; omega), decide_eq_false hl]
      rfl
end Go.Gp
end
section
set_option linter.unusedVariables false
set_option linter.unusedSimpArgs false
namespace Go.Gp
open Go.Vd
def okA (N : Nat) (a : api_AVA) : Prop := a.Attr.length < N ∧ a.Value.length < N
def avaS (a : api_AVA) : Bool := isTypeS a.Attr && (decide (1 ≤ a.Value.length) && decide (a.Value.length ≤ 60))
def rdnGo : List api_AVA → List api_AVA → Bool
  | _, [] => true
  | d, a :: r => avaS a && (!d.any (fun x => x.Attr == a.Attr) && rdnGo (d ++ [a]) r)
def isRDNS (r : List api_AVA) : Bool := decide (1 ≤ r.length) && (decide (r.length ≤ 4) && rdnGo [] r)
def isS (d : List (List api_AVA)) : Bool := decide (d.length ≤ 8) && d.all isRDNS
theorem contains_loop (N : Nat) (c : api_AVA) : ∀ (b a : List api_AVA) (n : Nat), (a ++ b).length ≤ 9223372036854775807 → b.length < n →
    ∃ i : Nat, slices_IndexFunc_api_RDN_api_AVA_c_dn_IsRDN_1_l6 N (a ++ b) c n (a.length : Int) = some (bif b.any (fun x => x.Attr == c.Attr) then .inr (i : Int) else .inl ()) := by
  intro b
  induction b with
  | nil =>
    intro a n hs hn
    obtain ⟨n, rfl, _⟩ := fuel hn
    simp only [slices_IndexFunc_api_RDN_api_AVA_c_dn_IsRDN_1_l6, slices_IndexFunc_api_RDN_api_AVA_c_dn_IsRDN_1_l6_b]
    rw [len_end, cond_false]; exact ⟨0, rfl⟩
  | cons x b ih =>
    intro a n hs hn
    obtain ⟨n, rfl, hn'⟩ := fuel hn
    obtain ⟨i, hi⟩ := ih (a ++ [x]) n (by simpa using hs) hn'
    rw [← app_mid] at hi
    simp only [slices_IndexFunc_api_RDN_api_AVA_c_dn_IsRDN_1_l6, slices_IndexFunc_api_RDN_api_AVA_c_dn_IsRDN_1_l6_b, dn_IsRDN_1]
    rw [len_mid, cond_true, idx_mid, Option.bind_some, Option.bind_some, suc_mid hs, hi, List.any_cons]
    cases x.Attr == c.Attr
    · exact ⟨i, rfl⟩
    · exact ⟨a.length, rfl⟩
theorem contains_eq {N : Nat} {l : List api_AVA} {c : api_AVA} (hs : l.length < N) (hN : N ≤ 9223372036854775808) : slices_ContainsFunc_api_RDN_api_AVA_c_dn_IsRDN_1 N l c = some (l.any (fun x => x.Attr == c.Attr)) := by
  unfold slices_ContainsFunc_api_RDN_api_AVA_c_dn_IsRDN_1 slices_IndexFunc_api_RDN_api_AVA_c_dn_IsRDN_1
  obtain ⟨i, hi⟩ := contains_loop N c l [] N (by simp; omega) hs
  simp only [List.nil_append, List.length_nil] at hi
  rw [show ((0 : Int)) = ((0 : Nat) : Int) from rfl, hi]
  cases l.any (fun x => x.Attr == c.Attr)
  · rfl
  · simp [Option.bind]
theorem isRDN_loop (N : Nat) (hN : N ≤ 9223372036854775808) (h5 : 5 < N) : ∀ (b a : List api_AVA) (n : Nat), (a ++ b).length < N → b.length < n → (∀ x ∈ b, okA N x) →
    dn_IsRDN_l6 N (a ++ b) n (a.length : Int) = some (bif decide ((a ++ b).length ≤ 4) && rdnGo a b || decide (b = []) then .inl () else .inr false) := by
  intro b
  induction b with
  | nil =>
    intro a n hs hn _
    obtain ⟨n, rfl, _⟩ := fuel hn
    simp only [dn_IsRDN_l6, dn_IsRDN_l6_b]
    rw [len_end, cond_false]; simp
  | cons x b ih =>
    intro a n hs hn hok
    obtain ⟨n, rfl, hn'⟩ := fuel hn
    have hi := ih (a ++ [x]) n (by simpa using hs) hn' (fun y hy => hok y (List.mem_cons_of_mem _ hy))
    rw [← app_mid] at hi
    have hx := hok x List.mem_cons_self
    simp only [dn_IsRDN_l6, dn_IsRDN_l6_b]
    rw [len_mid, cond_true, idx_mid, Option.bind_some, suc_mid (a := a) (b := b) (x := x) (by omega), hi, isType_eq (by have := hx.1; omega) hx.1, takeL_nat (by simp)]
    rw [List.take_left' rfl]
    have hal : (a ++ x :: b).length = a.length + b.length + 1 := by simp; omega
    simp only [Option.bind_some]
    rw [contains_eq (by omega) hN, Option.bind_some]
    by_cases h4 : a.length < 4
    · rw [decide_eq_false (show ¬ ((a.length : Int) ≥ 4) by omega), cond_false]
      have hv0 : (x.Value == ([] : List UInt8)) = !decide (1 ≤ x.Value.length) := by cases x.Value <;> simp
      have hv1 : decide ((x.Value.length : Int) > 60) = !decide (x.Value.length ≤ 60) := by rw [Bool.eq_iff_iff]; simp; omega
      rw [hv0, hv1]
      have hnil : decide (x :: b = []) = false := by simp
      rw [hnil, Bool.or_false, rdnGo, avaS]
      have hb : decide ((a ++ x :: b).length ≤ 4) = true ∨ (decide ((a ++ x :: b).length ≤ 4) = false ∧ decide (b = []) = false) := by
        by_cases hh : (a ++ x :: b).length ≤ 4
        · exact .inl (decide_eq_true hh)
        · refine .inr ⟨decide_eq_false hh, decide_eq_false fun e => hh ?_⟩
          subst e; rw [hal]; simp; omega
      have hgo : b = [] → rdnGo (a ++ [x]) b = true := by intro e; subst e; rfl
      have hgo' : (decide ((a ++ x :: b).length ≤ 4) && rdnGo (a ++ [x]) b || decide (b = [])) = (decide ((a ++ x :: b).length ≤ 4) && rdnGo (a ++ [x]) b) := by
        rcases hb with hb | ⟨hb, hb'⟩
        · by_cases e : b = []
          · rw [hb, hgo e]; simp
          · rw [decide_eq_false e, Bool.or_false]
        · rw [hb, hb']; rfl
      rw [hgo']
      cases isTypeS x.Attr <;> cases decide (1 ≤ x.Value.length) <;> cases decide (x.Value.length ≤ 60) <;> cases a.any (fun y => y.Attr == x.Attr) <;> cases decide ((a ++ x :: b).length ≤ 4) <;> cases rdnGo (a ++ [x]) b <;> rfl
    · rw [decide_eq_true (show ((a.length : Int) ≥ 4) by omega), decide_eq_false (show ¬ ((a ++ x :: b).length ≤ 4) by omega)]
      simp
theorem isRDN_eq {N : Nat} {r : List api_AVA} (hN : N ≤ 9223372036854775808) (h5 : 5 < N) (hr : r.length < N) (hok : ∀ x ∈ r, okA N x) : dn_IsRDN N r = some (isRDNS r) := by
  unfold dn_IsRDN
  have h := isRDN_loop N hN h5 r [] N (by simpa using hr) hr hok
  simp only [List.nil_append, List.length_nil] at h
  rw [show ((0 : Int)) = ((0 : Nat) : Int) from rfl, h]
  unfold isRDNS
  cases r with
  | nil => rfl
  | cons x r =>
    rw [decide_eq_true (show 1 ≤ (x :: r).length by simp)]
    have : decide (x :: r = []) = false := by simp
    rw [this, Bool.or_false, Bool.true_and]
    have : decide (((x :: r).length : Int) > ((0 : Nat) : Int)) = true := by simp
    cases decide ((x :: r).length ≤ 4) && rdnGo [] (x :: r)
    · rfl
    · simp [Option.bind]
theorem rsame_loop (N : Nat) (c : api_AVA) (r : List api_AVA) (k : Nat) (hk : r[k]? = some c) : ∀ (b a : List api_AVA) (n : Nat), (∃ t, r = a ++ b ++ t) → (a ++ b).length = k → r.length ≤ 9223372036854775807 → b.length < n →
    prefectref4_IsRDN_l34 N r (k : Int) n (a.length : Int) = some (bif b.any (fun x => x.Attr == c.Attr) then .inr false else .inl ()) := by
  intro b
  induction b with
  | nil =>
    intro a n ht hl hs hn
    obtain ⟨n, rfl, _⟩ := fuel hn
    simp only [prefectref4_IsRDN_l34, prefectref4_IsRDN_l34_b]
    rw [← hl, len_end, cond_false]; rfl
  | cons x b ih =>
    intro a n ht hl hs hn
    obtain ⟨n, rfl, hn'⟩ := fuel hn
    obtain ⟨t, ht⟩ := ht
    have hi := ih (a ++ [x]) n ⟨t, by rw [ht]; simp⟩ (by rw [← hl]; simp) hs hn'
    simp only [prefectref4_IsRDN_l34, prefectref4_IsRDN_l34_b]
    have hg : idxL r (a.length : Int) = some x := by rw [ht, List.append_assoc, List.cons_append, idx_mid]
    have hle : a.length < k := by rw [← hl]; simp
    have hkl : k < r.length := (List.getElem?_eq_some_iff.1 hk).1
    rw [dec_lt_nat, decide_eq_true hle, cond_true, hg, Option.bind_some, idxL_lt hk, Option.bind_some, w64_succ (by omega)]
    simp only [List.length_append, List.length_cons, List.length_nil, Nat.zero_add] at hi
    rw [hi, List.any_cons]
    cases x.Attr == c.Attr <;> rfl
theorem rIsRDN_loop (N : Nat) (hN : N ≤ 9223372036854775808) : ∀ (b a : List api_AVA) (n : Nat), (a ++ b).length < N → b.length < n → (∀ x ∈ b, okA N x) →
    prefectref4_IsRDN_l14 N (a ++ b) n (a.length : Int) = some (bif rdnGo a b then .inl () else .inr false) := by
  intro b
  induction b with
  | nil =>
    intro a n hs hn _
    obtain ⟨n, rfl, _⟩ := fuel hn
    simp only [prefectref4_IsRDN_l14, prefectref4_IsRDN_l14_b]
    rw [len_end, cond_false]; rfl
  | cons x b ih =>
    intro a n hs hn hok
    obtain ⟨n, rfl, hn'⟩ := fuel hn
    have hi := ih (a ++ [x]) n (by simpa using hs) hn' (fun y hy => hok y (List.mem_cons_of_mem _ hy))
    rw [← app_mid] at hi
    have hx := hok x List.mem_cons_self
    have hsm := rsame_loop N x (a ++ x :: b) a.length (get_mid a b x) a [] N ⟨x :: b, by simp⟩ (by simp) (by omega) (by simp at hs; omega)
    simp only [List.length_nil] at hsm
    simp only [prefectref4_IsRDN_l14, prefectref4_IsRDN_l14_b]
    rw [len_mid, cond_true, idx_mid, suc_mid (a := a) (b := b) (x := x) (by omega), hi, show ((0 : Int)) = ((0 : Nat) : Int) from rfl, hsm]
    simp only [Option.bind_some]
    rw [risType_eq (by have := hx.1; omega) hx.1, rdnGo, avaS]
    have hv0 : decide ((x.Value.length : Int) < 1) = !decide (1 ≤ x.Value.length) := by rw [Bool.eq_iff_iff]; simp only [decide_eq_true_eq, Bool.not_eq_true', decide_eq_false_iff_not]; omega
    have hv1 : decide ((x.Value.length : Int) > 60) = !decide (x.Value.length ≤ 60) := by rw [Bool.eq_iff_iff]; simp; omega
    rw [hv0, hv1]
    cases isTypeS x.Attr <;> cases decide (1 ≤ x.Value.length) <;> cases decide (x.Value.length ≤ 60) <;> cases a.any (fun y => y.Attr == x.Attr) <;> cases rdnGo (a ++ [x]) b <;> rfl
theorem rIsRDN_eq {N : Nat} {r : List api_AVA} (hN : N ≤ 9223372036854775808) (hr : r.length < N) (hok : ∀ x ∈ r, okA N x) : prefectref4_IsRDN N r = some (isRDNS r) := by
  unfold prefectref4_IsRDN
  have h := rIsRDN_loop N hN r [] N (by simpa using hr) hr hok
  simp only [List.nil_append, List.length_nil] at h
  rw [show ((0 : Int)) = ((0 : Nat) : Int) from rfl, h]
  unfold isRDNS
  have h0 : decide ((r.length : Int) < 1) = !decide (1 ≤ r.length) := by rw [Bool.eq_iff_iff]; simp only [decide_eq_true_eq, Bool.not_eq_true', decide_eq_false_iff_not]; omega
  have h1 : decide ((r.length : Int) > 4) = !decide (r.length ≤ 4) := by rw [Bool.eq_iff_iff]; simp; omega
  rw [h0, h1]
  cases decide (1 ≤ r.length) <;> cases decide (r.length ≤ 4) <;> cases rdnGo [] r <;> rfl
theorem rIs_loop (N : Nat) (hN : N ≤ 9223372036854775808) : ∀ (b a : List (List api_AVA)) (n : Nat), (a ++ b).length < N → b.length < n → (∀ r ∈ b, r.length < N ∧ ∀ x ∈ r, okA N x) →
    prefectref4_Is_l14 N (a ++ b) n (a.length : Int) = some (bif b.all isRDNS then .inl () else .inr false) := by
  intro b
  induction b with
  | nil =>
    intro a n hs hn _
    obtain ⟨n, rfl, _⟩ := fuel hn
    simp only [prefectref4_Is_l14, prefectref4_Is_l14_b]
    rw [len_end, cond_false]; rfl
  | cons x b ih =>
    intro a n hs hn hok
    obtain ⟨n, rfl, hn'⟩ := fuel hn
    have hi := ih (a ++ [x]) n (by simpa using hs) hn' (fun y hy => hok y (List.mem_cons_of_mem _ hy))
    rw [← app_mid] at hi
    have hx := hok x List.mem_cons_self
    simp only [prefectref4_Is_l14, prefectref4_Is_l14_b]
    rw [len_mid, cond_true, idx_mid, Option.bind_some, rIsRDN_eq hN hx.1 hx.2, suc_mid (a := a) (b := b) (x := x) (by omega), hi, List.all_cons]
    cases isRDNS x <;> rfl
theorem rIs_eq {N : Nat} {d : List (List api_AVA)} (hN : N ≤ 9223372036854775808) (hd : d.length < N) (hok : ∀ r ∈ d, r.length < N ∧ ∀ x ∈ r, okA N x) : prefectref4_Is N d = some (isS d) := by
  unfold prefectref4_Is isS
  have h := rIs_loop N hN d [] N (by simpa using hd) hd hok
  simp only [List.nil_append, List.length_nil] at h
  rw [show ((0 : Int)) = ((0 : Nat) : Int) from rfl, h]
  have h1 : decide ((d.length : Int) > 8) = !decide (d.length ≤ 8) := by rw [Bool.eq_iff_iff]; simp; omega
  rw [h1]
  cases decide (d.length ≤ 8) <;> cases d.all isRDNS <;> rfl
end Go.Gp
end
section
set_option linter.unusedVariables false
set_option linter.unusedSimpArgs false
namespace Go.Gp
open Go.Vd
def preH (p : List UInt8) : List (List UInt8) → List (List UInt8)
  | [] => [p]
  | x :: xs => (p ++ x) :: xs
def cutS (sep : UInt8) : List UInt8 → List (List UInt8)
  | [] => [[]]
  | [c] => if c = 92 then [[c]] else if c = sep then [[], []] else [[c]]
  | c :: d :: s => if c = 92 then preH [c, d] (cutS sep s) else if c = sep then [] :: cutS sep (d :: s) else preH [c] (cutS sep (d :: s))
theorem preH_pre (p q : List UInt8) (l : List (List UInt8)) : preH p (preH q l) = preH (p ++ q) l := by cases l <;> simp [preH]
theorem preH_ne (p : List UInt8) (l : List (List UInt8)) : preH p l ≠ [] := by cases l <;> simp [preH]
theorem preH_nil {l : List (List UInt8)} (h : l ≠ []) : preH [] l = l := by cases l <;> simp_all [preH]
theorem cutS_ne (sep : UInt8) : ∀ s, cutS sep s ≠ []
  | [] => by simp [cutS]
  | [c] => by unfold cutS; split; simp; split <;> simp
  | c :: d :: s => by
    unfold cutS
    split
    · exact preH_ne _ _
    · split
      · simp
      · exact preH_ne _ _
theorem cutS_bs (sep d : UInt8) (s : List UInt8) : cutS sep (92 :: d :: s) = preH [92, d] (cutS sep s) := by rw [cutS]; simp
theorem cutS_sep {sep : UInt8} (h : sep ≠ 92) (s : List UInt8) : cutS sep (sep :: s) = [] :: cutS sep s := by
  cases s with
  | nil => simp [cutS, h]
  | cons d s => rw [cutS, if_neg h, if_pos rfl]
theorem cutS_other {sep c : UInt8} (h : c ≠ 92) (h' : c ≠ sep) (s : List UInt8) : cutS sep (c :: s) = preH [c] (cutS sep s) := by
  cases s with
  | nil => simp [cutS, h, h', preH]
  | cons d s => rw [cutS, if_neg h, if_neg h']
theorem u8c_eq (c d : UInt8) : (((c.toNat : Nat) : Int) == ((d.toNat : Nat) : Int)) = decide (c = d) := by
  rw [u8_eq, Bool.eq_iff_iff]; simp
theorem is92 (c : UInt8) : (((c).toNat : Int) == (92 : Int)) = decide (c = 92) := by
  have := u8_all (p := fun c => (((c).toNat : Int) == (92 : Int)) == decide (c = 92)) (by decide +kernel) c
  simpa using this
theorem cut_loop (N : Nat) (sep : UInt8) : ∀ (k : Nat) (b a : List UInt8) (f : Nat) (out : List (List UInt8)) (n : Nat), b.length ≤ k → (a ++ b).length ≤ 1000000 → b.length < n → f ≤ a.length → out.length ≤ a.length →
    ∃ (f' : Nat) (out' : List (List UInt8)), dn_cut_l10 N (a ++ b) sep n ((f : Int), (a.length : Int), out) = some ((f' : Int), out') ∧ f' ≤ (a ++ b).length ∧ out'.length ≤ (a ++ b).length ∧ out' ++ [(a ++ b).drop f'] = out ++ preH (a.drop f) (cutS sep b) := by
  intro k
  induction k with
  | zero =>
    intro b a f out n hk hs hn hf ho
    obtain rfl : b = [] := List.length_eq_zero_iff.1 (by omega)
    obtain ⟨n, rfl, _⟩ := fuel hn
    simp only [dn_cut_l10, dn_cut_l10_b]
    rw [len_end, cond_false]
    exact ⟨f, out, rfl, by simpa using hf, by simpa using ho, by simp [cutS, preH]⟩
  | succ k ih =>
    intro b a f out n hk hs hn hf ho
    cases b with
    | nil =>
      obtain ⟨n, rfl, _⟩ := fuel hn
      simp only [dn_cut_l10, dn_cut_l10_b]
      rw [len_end, cond_false]
      exact ⟨f, out, rfl, by simpa using hf, by simpa using ho, by simp [cutS, preH]⟩
    | cons c b =>
      obtain ⟨n, rfl, hn'⟩ := fuel hn
      have hal : (a ++ c :: b).length = a.length + b.length + 1 := by simp; omega
      simp only [dn_cut_l10, dn_cut_l10_b, dn_cut_j17]
      rw [len_mid, cond_true, idx_mid, Option.bind_some, is92, u8c_eq, suc_mid (a := a) (b := b) (x := c) (by omega)]
      by_cases hc : c = 92
      · rw [decide_eq_true hc, cond_true, w64_succ (by simp; omega)]
        cases b with
        | nil =>
          obtain ⟨n, rfl, _⟩ := fuel (k := 0) (n := n) (by simp at hn; omega)
          simp only [dn_cut_l10, dn_cut_l10_b]
          rw [dec_lt_nat, decide_eq_false (by simp), cond_false]
          refine ⟨f, out, rfl, by simp; omega, by simp; omega, ?_⟩
          rw [cutS, if_pos hc, List.drop_append_of_le_length hf]
          rfl
        | cons d s =>
          obtain ⟨f', out', h1, h2, h3, h4⟩ := ih s (a ++ [c, d]) f out n (by simp at hk; omega) (by simpa using hs) (by simp at hn; omega) (by simp; omega) (by simp; omega)
          have e : a ++ c :: d :: s = a ++ [c, d] ++ s := by simp
          have el : ((((a ++ [c]).length + 1 : Nat)) : Int) = ((a ++ [c, d]).length : Int) := by simp; omega
          rw [e, el]
          refine ⟨f', out', h1, h2, h3, ?_⟩
          · rw [h4, cutS, if_pos hc, preH_pre, List.drop_append_of_le_length hf]
      · rw [decide_eq_false hc, cond_false]
        have e : a ++ c :: b = a ++ [c] ++ b := by simp
        by_cases hp : c = sep
        · rw [decide_eq_true hp, cond_true, cutL_nat hf (by omega), Option.bind_some, appL_ok (by simp; omega), Option.bind_some, List.take_left' rfl]
          obtain ⟨f', out', h1, h2, h3, h4⟩ := ih b (a ++ [c]) (a ++ [c]).length (out ++ [a.drop f]) n (by simp at hk; omega) (by simpa using hs) (by simp at hn; omega) (by omega) (by simp; omega)
          rw [e]
          refine ⟨f', out', h1, h2, h3, ?_⟩
          · rw [h4, List.drop_length, preH_nil (cutS_ne _ _)]
            subst hp
            rw [cutS_sep hc]
            simp [preH]
        · rw [decide_eq_false hp, cond_false]
          obtain ⟨f', out', h1, h2, h3, h4⟩ := ih b (a ++ [c]) f out n (by simp at hk; omega) (by simpa using hs) (by simp at hn; omega) (by simp; omega) (by simp; omega)
          rw [e]
          refine ⟨f', out', h1, h2, h3, ?_⟩
          rw [h4, cutS_other hc hp, preH_pre, List.drop_append_of_le_length hf]
theorem cut_eq {N : Nat} {s : List UInt8} {sep : UInt8} (hs : s.length ≤ 1000000) (hN : s.length < N) : dn_cut N s sep = some (cutS sep s) := by
  unfold dn_cut
  obtain ⟨f', out', h1, h2, h3, h4⟩ := cut_loop N sep s.length s [] 0 [] N (Nat.le_refl _) hs hN (Nat.le_refl _) (Nat.le_refl _)
  simp only [List.nil_append, List.length_nil, List.drop_nil] at h1 h2 h3 h4
  rw [show ((0 : Int)) = ((0 : Nat) : Int) from rfl, h1, Option.bind_some]
  simp only
  rw [dropL_nat h2, Option.bind_some, appL_ok (by simp; omega), Option.bind_some, h4, preH_nil (cutS_ne _ _)]
theorem rcut_loop (N : Nat) (sep : UInt8) : ∀ (n : Nat) (s : List UInt8) (x : Int × Int × List (List UInt8)), prefectref4_cut_l10 N s sep n x = dn_cut_l10 N s sep n x := by
  intro n
  induction n with
  | zero => intro s x; rfl
  | succ n ih =>
    intro s x
    have hr : prefectref4_cut_l10 N s sep n = dn_cut_l10 N s sep n := funext (ih s)
    obtain ⟨f, i, o⟩ := x
    simp only [prefectref4_cut_l10, dn_cut_l10, prefectref4_cut_l10_b, dn_cut_l10_b, hr, prefectref4_cut_j17, dn_cut_j17]
    cases hx : idxL s i with
    | none => simp
    | some c => simp
theorem rcut_eq {N : Nat} {s : List UInt8} {sep : UInt8} (hs : s.length ≤ 1000000) (hN : s.length < N) : prefectref4_cut N s sep = some (cutS sep s) := by
  rw [← cut_eq hs hN]
  unfold prefectref4_cut dn_cut
  rw [rcut_loop]
def cutE : List UInt8 → Option (List UInt8 × List UInt8)
  | [] => none
  | c :: s => if c = 61 then some ([], s) else (cutE s).map fun x => (c :: x.1, x.2)
theorem cutE_some {s a v : List UInt8} (h : cutE s = some (a, v)) : s = a ++ 61 :: v ∧ ∀ c ∈ a, c ≠ 61 := by
  induction s generalizing a v with
  | nil => cases h
  | cons c s ih =>
    unfold cutE at h
    split at h
    · rename_i hc; subst hc; cases h; exact ⟨rfl, by simp⟩
    · rename_i hc
      rw [Option.map_eq_some_iff] at h
      obtain ⟨⟨a', v'⟩, h1, h2⟩ := h
      cases h2
      obtain ⟨e, h3⟩ := ih h1
      exact ⟨by rw [e]; rfl, by intro d hd; rcases List.mem_cons.1 hd with rfl | hd; exact hc; exact h3 d hd⟩
theorem indexByte_cut : ∀ s : List UInt8, Lib.indexByte s 61 = match cutE s with | some x => (x.1.length : Int) | none => -1
  | [] => rfl
  | c :: s => by
    rw [Lib.indexByte, cutE, indexByte_cut s]
    by_cases h : c = 61
    · subst h; rfl
    · have : (c == 61) = false := by simpa using h
      rw [if_neg h]
      simp only [this]
      cases cutE s with
      | none => simp
      | some x => simp
theorem scut_eq {N : Nat} {s : List UInt8} (hs : s.length ≤ 1000000) : strings_Cut N s [61] = some (match cutE s with | some x => (x.1, x.2, true) | none => (s, [], false)) := by
  unfold strings_Cut internal_stringslite_Cut stringslite_Index
  simp only [Option.bind_some]
  rw [indexByte_cut]
  cases h : cutE s with
  | none => rfl
  | some x =>
    obtain ⟨a, v⟩ := x
    obtain ⟨e, _⟩ := cutE_some h
    simp only
    have hl : s.length = a.length + v.length + 1 := by rw [e]; simp; omega
    rw [decide_eq_true (by omega), cond_true, takeL_nat (by omega), Option.bind_some, show (([61] : List UInt8).length : Int) = 1 from rfl, w64_succ (by omega), dropL_nat (by omega), Option.bind_some, Option.bind_some]
    rw [e, List.take_left' rfl, app_mid, List.drop_left' (by simp)]
end Go.Gp
end
section
set_option linter.unusedVariables false
set_option linter.unusedSimpArgs false
namespace Go.Gp
open Go.Vd
def hexT : List UInt8 := [48, 49, 50, 51, 52, 53, 54, 55, 56, 57, 97, 98, 99, 100, 101, 102]
def hexV (c : UInt8) : Int := Lib.indexByte hexT (lowB c)
def spc (c : UInt8) : Bool := decide (Lib.indexByte ([44, 43, 34, 92, 60, 62, 59] : List UInt8) c ≥ 0)
def mayC (c : UInt8) : Bool := decide (Lib.indexByte ([44, 43, 34, 92, 60, 62, 59, 35, 61, 32] : List UInt8) c ≥ 0)
def hx2 (d e : UInt8) : UInt8 := shlB (byte (mx (hexV d) 0)) 4 ||| byte (mx (hexV e) 0)
theorem digit_some {N : Nat} {s : List UInt8} {i : Nat} {c : UInt8} (h : s[i]? = some c) (hs : s.length ≤ 1000000) (h2 : 2 < N) : dn_digit N s (i : Int) = some (byte (mx (hexV c) 0), decide (hexV c ≥ 0)) := by
  have hi := (List.getElem?_eq_some_iff.1 h).1
  unfold dn_digit
  rw [decide_eq_false (by omega), cond_false, w64_succ (by omega), cutL_nat (by omega) (by omega), Option.bind_some, take_succ h]
  have : (s.take i ++ [c]).drop i = [c] := by
    rw [List.drop_left' (by simp; omega)]
  rw [this, lower_eq (by simp) (by simp; omega), Option.bind_some, show ((0 : Int)) = ((0 : Nat) : Int) from rfl, idxL_nat]
  rfl
theorem digit_none {N : Nat} {s : List UInt8} {i : Nat} (h : s.length ≤ i) : dn_digit N s (i : Int) = some (0, false) := by
  unfold dn_digit
  rw [decide_eq_true (by omega)]; rfl
theorem rdigit_eq (N : Nat) (c : UInt8) : prefectref4_digit N c = some (hexV c) := by
  have := u8_all (p := fun c => prefectref4_digit 0 c == some (hexV c)) (by decide +kernel) c
  have h : prefectref4_digit 0 c = some (hexV c) := by simpa using this
  exact h
theorem special_eq (N : Nat) (c : UInt8) : prefectref4_special N c = some (spc c) := by
  have := u8_all (p := fun c => prefectref4_special 0 c == some (spc c)) (by decide +kernel) c
  have h : prefectref4_special 0 c = some (spc c) := by simpa using this
  exact h
theorem may_spc (c : UInt8) : mayC c = (spc c || (decide (c = 35) || (decide (c = 61) || decide (c = 32)))) := by
  have := u8_all (p := fun c => mayC c == (spc c || (decide (c = 35) || (decide (c = 61) || decide (c = 32))))) (by decide +kernel) c
  simpa using this
theorem is35 (c : UInt8) : (((c).toNat : Int) == (35 : Int)) = decide (c = 35) := by
  have := u8_all (p := fun c => (((c).toNat : Int) == (35 : Int)) == decide (c = 35)) (by decide +kernel) c
  simpa using this
theorem is32 (c : UInt8) : (((c).toNat : Int) == (32 : Int)) = decide (c = 32) := by
  have := u8_all (p := fun c => (((c).toNat : Int) == (32 : Int)) == decide (c = 32)) (by decide +kernel) c
  simpa using this
theorem is61 (c : UInt8) : (((c).toNat : Int) == (61 : Int)) = decide (c = 61) := by
  have := u8_all (p := fun c => (((c).toNat : Int) == (61 : Int)) == decide (c = 61)) (by decide +kernel) c
  simpa using this
theorem hexV_range (c : UInt8) : -1 ≤ hexV c ∧ hexV c < 16 := by
  have := u8_all (p := fun c => decide (-1 ≤ hexV c ∧ hexV c < 16)) (by decide +kernel) c
  simpa using this
theorem hx2_eq {d e : UInt8} (hd : 0 ≤ hexV d) (he : 0 ≤ hexV e) : byte (w64 (w64 ((16 : Int) * hexV d) + hexV e)) = hx2 d e := by
  unfold hx2
  have h1 := (hexV_range d).2
  have h2 := (hexV_range e).2
  generalize hexV d = x at *
  generalize hexV e = y at *
  have hall : ∀ i : Fin 16, ∀ j : Fin 16, byte (w64 (w64 ((16 : Int) * ((i : Nat) : Int)) + ((j : Nat) : Int))) = shlB (byte (mx ((i : Nat) : Int) 0)) 4 ||| byte (mx ((j : Nat) : Int) 0) := by decide +kernel
  have := hall ⟨x.toNat, by omega⟩ ⟨y.toNat, by omega⟩
  simp only [Int.toNat_of_nonneg hd, Int.toNat_of_nonneg he] at this
  exact this
def unS : List UInt8 → Bool → Option (List UInt8 × Bool)
  | [], bl => some ([], bl)
  | c :: s, _ =>
    if c = 92 then
      match s with
      | [] => none
      | d :: s => if mayC d then (unS s false).map fun x => (d :: x.1, x.2) else
        match s with
        | [] => none
        | e :: s => if 0 ≤ hexV d ∧ 0 ≤ hexV e then (unS s false).map fun x => (hx2 d e :: x.1, x.2) else none
    else if spc c then none else (unS s (decide (c = 32))).map fun x => (c :: x.1, x.2)
def plS : Bool → List UInt8 → Option (List UInt8)
  | _, [] => some []
  | f, c :: s =>
    if c = 92 then
      match s with
      | [] => none
      | d :: s => if mayC d then (plS false s).map (d :: ·) else
        match s with
        | [] => none
        | e :: s => if 0 ≤ hexV d ∧ 0 ≤ hexV e then (plS false s).map (hx2 d e :: ·) else none
    else if spc c || (f && (decide (c = 35) || decide (c = 32))) || (decide (s = []) && decide (c = 32)) then none else (plS false s).map (c :: ·)
theorem unS_cons (c : UInt8) (s : List UInt8) (bl : Bool) : unS (c :: s) bl = if c = 92 then
      match s with
      | [] => none
      | d :: s => if mayC d then (unS s false).map fun x => (d :: x.1, x.2) else
        match s with
        | [] => none
        | e :: s => if 0 ≤ hexV d ∧ 0 ≤ hexV e then (unS s false).map fun x => (hx2 d e :: x.1, x.2) else none
    else if spc c then none else (unS s (decide (c = 32))).map fun x => (c :: x.1, x.2) := by
  rw [unS.eq_def]
theorem plS_cons (f : Bool) (c : UInt8) (s : List UInt8) : plS f (c :: s) = if c = 92 then
      match s with
      | [] => none
      | d :: s => if mayC d then (plS false s).map (d :: ·) else
        match s with
        | [] => none
        | e :: s => if 0 ≤ hexV d ∧ 0 ≤ hexV e then (plS false s).map (hx2 d e :: ·) else none
    else if spc c || (f && (decide (c = 35) || decide (c = 32))) || (decide (s = []) && decide (c = 32)) then none else (plS false s).map (c :: ·) := by
  rw [plS.eq_def]
theorem un_loop (N : Nat) (hN : 2 < N) : ∀ (k : Nat) (b a out : List UInt8) (bl : Bool) (n : Nat), b.length ≤ k → (a ++ b).length ≤ 1000000 → b.length < n → out.length ≤ a.length →
    dn_unescape_l18 N (a ++ b) n (bl, (a.length : Int), out) = some (match unS b bl with | some x => .inl (x.2, out ++ x.1) | none => .inr ([], false)) := by
  intro k
  induction k with
  | zero =>
    intro b a out bl n hk hs hn ho
    obtain rfl : b = [] := List.length_eq_zero_iff.1 (by omega)
    obtain ⟨n, rfl, _⟩ := fuel hn
    simp only [dn_unescape_l18, dn_unescape_l18_b]
    rw [len_end, cond_false]
    simp [unS]
  | succ k ih =>
    intro b a out bl n hk hs hn ho
    cases b with
    | nil =>
      obtain ⟨n, rfl, _⟩ := fuel hn
      simp only [dn_unescape_l18, dn_unescape_l18_b]
      rw [len_end, cond_false]
      simp [unS]
    | cons c b =>
      obtain ⟨n, rfl, hn'⟩ := fuel hn
      have hal : (a ++ c :: b).length = a.length + b.length + 1 := by simp; omega
      have e1 : a ++ c :: b = a ++ [c] ++ b := by simp
      have ha : a.length < 1000000 := by omega
      simp only [dn_unescape_l18, dn_unescape_l18_b, dn_unescape_j25]
      rw [len_mid, cond_true, idx_mid, Option.bind_some, is92, is32, w64_succ (i := a.length) (by omega), unS_cons]
      by_cases hc : c = 92
      · rw [decide_eq_true hc, cond_true, if_pos hc]
        have h32 : decide (c = 32) = false := by subst hc; decide
        rw [h32]
        cases b with
        | nil =>
          rw [dec_lt_nat, decide_eq_false (by simp), cond_false, Option.bind_some, cond_false, digit_none (by simp), Option.bind_some, w64_succ (by omega), digit_none (by simp), Option.bind_some]
          rfl
        | cons d s =>
          have hd : (a ++ c :: d :: s)[a.length + 1]? = some d := by
            have := get_mid (a ++ [c]) s d
            simp only [List.append_assoc, List.length_append, List.length_cons, List.length_nil] at this
            exact this
          rw [dec_lt_nat, decide_eq_true (by simp), cond_true, idxL_lt hd, Option.bind_some]
          unfold strings_IndexByte
          simp only [Option.bind_some]
          rw [show decide (Lib.indexByte ([44, 43, 34, 92, 60, 62, 59, 35, 61, 32] : List UInt8) d ≥ 0) = mayC d from rfl]
          by_cases hm : mayC d = true
          · rw [hm, cond_true, if_pos rfl, appL_ok (by simp; omega), Option.bind_some, w64_succ (by omega)]
            have := ih s (a ++ [c, d]) (out ++ [d]) false n (by simp at hk; omega) (by simpa using hs) (by simp at hn; omega) (by simp; omega)
            have e : a ++ c :: d :: s = a ++ [c, d] ++ s := by simp
            have el : ((((a.length + 1 + 1 : Nat)) : Int)) = ((a ++ [c, d]).length : Int) := by simp; omega
            rw [e, el, this]
            cases unS s false <;> simp
          · have hm' : mayC d = false := by simpa using hm
            rw [hm', cond_false, digit_some hd (by omega) hN, Option.bind_some, w64_succ (by omega), if_neg (by simp)]
            cases s with
            | nil =>
              rw [digit_none (by simp), Option.bind_some]
              simp only
              cases decide (hexV d ≥ 0) <;> rfl
            | cons e s =>
              have he : (a ++ c :: d :: e :: s)[a.length + 1 + 1]? = some e := by
                have := get_mid (a ++ [c, d]) s e
                simp only [List.append_assoc, List.length_append, List.length_cons, List.length_nil] at this
                exact this
              rw [digit_some he (by omega) hN, Option.bind_some]
              simp only
              by_cases h1 : 0 ≤ hexV d
              · by_cases h2 : 0 ≤ hexV e
                · rw [decide_eq_true h1, decide_eq_true h2, if_pos ⟨h1, h2⟩]
                  simp only [Bool.not_true, cond_false, Option.bind_some]
                  rw [appL_ok (by simp; omega), Option.bind_some, w64_succ (by omega)]
                  have := ih s (a ++ [c, d, e]) (out ++ [hx2 d e]) false n (by simp at hk; omega) (by simpa using hs) (by simp at hn; omega) (by simp; omega)
                  have e' : a ++ c :: d :: e :: s = a ++ [c, d, e] ++ s := by simp
                  have el : ((((a.length + 1 + 1 + 1 : Nat)) : Int)) = ((a ++ [c, d, e]).length : Int) := by simp; omega
                  rw [e', el]
                  refine Eq.trans this ?_
                  cases unS s false <;> simp
                · rw [decide_eq_true h1, decide_eq_false h2, if_neg (by simp [h2])]
                  rfl
              · rw [decide_eq_false h1, if_neg (by simp [h1])]
                rfl
      · rw [decide_eq_false hc, cond_false, if_neg hc]
        unfold strings_IndexByte
        simp only [Option.bind_some]
        rw [show decide (Lib.indexByte ([44, 43, 34, 92, 60, 62, 59] : List UInt8) c ≥ 0) = spc c from rfl]
        by_cases hsp : spc c = true
        · rw [hsp, cond_true, if_pos rfl]
        · have hsp' : spc c = false := by simpa using hsp
          rw [hsp', cond_false, if_neg (by simp), appL_ok (by simp; omega), Option.bind_some]
          have := ih b (a ++ [c]) (out ++ [c]) (decide (c = 32)) n (by simp at hk; omega) (by simpa using hs) (by simp at hn; omega) (by simp; omega)
          have el : ((((a.length + 1 : Nat)) : Int)) = ((a ++ [c]).length : Int) := by simp
          rw [e1, el, this]
          cases unS b (decide (c = 32)) <;> simp
end Go.Gp
end
section
set_option linter.unusedVariables false
set_option linter.unusedSimpArgs false
namespace Go.Gp
open Go.Vd
theorem at0 (a : List UInt8) : ((a.length : Int) == (0 : Int)) = decide (a = []) := by
  rw [Bool.eq_iff_iff]; cases a <;> simp; omega
theorem atEnd (a b : List UInt8) (c : UInt8) (h : (a ++ c :: b).length ≤ 1000000) : ((a.length : Int) == w64 (((a ++ c :: b).length : Int) - 1)) = decide (b = []) := by
  have hal : (a ++ c :: b).length = a.length + b.length + 1 := by simp; omega
  rw [w64_id (by omega) (by omega), hal, Bool.eq_iff_iff]
  cases b <;> simp
  omega
theorem plain_loop (N : Nat) : ∀ (k : Nat) (b a out : List UInt8) (n : Nat), b.length ≤ k → (a ++ b).length ≤ 1000000 → b.length < n → out.length ≤ a.length →
    prefectref4_plain_l8 N (a ++ b) n ((a.length : Int), out) = some (match plS (decide (a = [])) b with | some x => .inl (out ++ x) | none => .inr ([], false)) := by
  intro k
  induction k with
  | zero =>
    intro b a out n hk hs hn ho
    obtain rfl : b = [] := List.length_eq_zero_iff.1 (by omega)
    obtain ⟨n, rfl, _⟩ := fuel hn
    simp only [prefectref4_plain_l8, prefectref4_plain_l8_b]
    rw [len_end, cond_false]
    simp [plS]
  | succ k ih =>
    intro b a out n hk hs hn ho
    cases b with
    | nil =>
      obtain ⟨n, rfl, _⟩ := fuel hn
      simp only [prefectref4_plain_l8, prefectref4_plain_l8_b]
      rw [len_end, cond_false]
      simp [plS]
    | cons c b =>
      obtain ⟨n, rfl, hn'⟩ := fuel hn
      have hal : (a ++ c :: b).length = a.length + b.length + 1 := by simp; omega
      have e1 : a ++ c :: b = a ++ [c] ++ b := by simp
      have ha : a.length < 1000000 := by omega
      simp only [prefectref4_plain_l8, prefectref4_plain_l8_b, prefectref4_plain_j15]
      rw [len_mid, cond_true, idx_mid, Option.bind_some, bne, is92, special_eq, plS_cons, at0, is35, is32, w64_succ (i := a.length) (by omega), w64_succ2 (i := a.length) (by omega)]
      by_cases hc : c = 92
      · rw [decide_eq_true hc, Bool.not_true, cond_false, if_pos hc]
        cases b with
        | nil =>
          rw [dec_lt_nat, decide_eq_false (by simp), dec_lt_nat, decide_eq_false (by simp)]
          rfl
        | cons d s =>
          have hd : (a ++ c :: d :: s)[a.length + 1]? = some d := by
            have := get_mid (a ++ [c]) s d
            simp only [List.append_assoc, List.length_append, List.length_cons, List.length_nil] at this
            exact this
          rw [dec_lt_nat, decide_eq_true (by simp), cond_true, idxL_lt hd]
          simp only [Option.bind_some, special_eq, is35, is61, is32, rdigit_eq]
          have hg : (bif spc d then some true else bif decide (d = 35) then some true else bif decide (d = 61) then some true else some (decide (d = 32))) = some (mayC d) := by
            rw [may_spc]
            cases spc d <;> cases decide (d = 35) <;> cases decide (d = 61) <;> cases decide (d = 32) <;> rfl
          rw [hg, Option.bind_some]
          by_cases hm : mayC d = true
          · rw [hm, cond_true, if_pos rfl, appL_ok (by simp; omega), Option.bind_some, w64_succ (i := a.length + 1) (by omega)]
            have := ih s (a ++ [c, d]) (out ++ [d]) n (by simp at hk; omega) (by simpa using hs) (by simp at hn; omega) (by simp; omega)
            have e : a ++ c :: d :: s = a ++ [c, d] ++ s := by simp
            have el : ((((a.length + 1 + 1 : Nat)) : Int)) = ((a ++ [c, d]).length : Int) := by simp; omega
            have hf : decide (a ++ [c, d] = []) = false := by simp
            rw [hf] at this
            rw [e, el, this]
            cases plS false s <;> simp
          · have hm' : mayC d = false := by simpa using hm
            rw [hm', cond_false, if_neg (by simp)]
            cases s with
            | nil =>
              rw [dec_lt_nat, decide_eq_false (by simp)]
              rfl
            | cons e s =>
              have he : (a ++ c :: d :: e :: s)[a.length + 2]? = some e := by
                have := get_mid (a ++ [c, d]) s e
                simp only [List.append_assoc, List.length_append, List.length_cons, List.length_nil] at this
                exact this
              rw [dec_lt_nat, decide_eq_true (by simp), cond_true, idxL_lt he]
              simp only [Option.bind_some]
              by_cases h1 : 0 ≤ hexV d
              · by_cases h2 : 0 ≤ hexV e
                · rw [decide_eq_true h1, decide_eq_true h2, if_pos ⟨h1, h2⟩]
                  simp only [cond_true, Option.bind_some]
                  rw [appL_ok (by simp; omega), Option.bind_some, w64_succ (i := a.length + 2) (by omega), hx2_eq h1 h2]
                  have := ih s (a ++ [c, d, e]) (out ++ [hx2 d e]) n (by simp at hk; omega) (by simpa using hs) (by simp at hn; omega) (by simp; omega)
                  have e' : a ++ c :: d :: e :: s = a ++ [c, d, e] ++ s := by simp
                  have el : ((((a.length + 2 + 1 : Nat)) : Int)) = ((a ++ [c, d, e]).length : Int) := by simp; omega
                  have hf : decide (a ++ [c, d, e] = []) = false := by simp
                  rw [hf] at this
                  rw [e', el, this]
                  cases plS false s <;> simp
                · rw [decide_eq_true h1, decide_eq_false h2, if_neg (by simp [h2])]
                  rfl
              · rw [decide_eq_false h1, if_neg (by simp [h1])]
                rfl
      · rw [decide_eq_false hc, Bool.not_false, cond_true, if_neg hc, atEnd a b c hs]
        simp only [Option.bind_some]
        have hg : (bif spc c then some true else bif decide (a = []) then bif decide (c = 35) then some true else bif decide (c = 32) then some true else bif decide (b = []) then some (decide (c = 32)) else some false
            else bif decide (b = []) then some (decide (c = 32)) else some false) = some (spc c || (decide (a = []) && (decide (c = 35) || decide (c = 32))) || (decide (b = []) && decide (c = 32))) := by
          cases spc c <;> cases decide (a = []) <;> cases decide (c = 35) <;> cases decide (c = 32) <;> cases decide (b = []) <;> rfl
        rw [hg, Option.bind_some]
        cases hq : (spc c || (decide (a = []) && (decide (c = 35) || decide (c = 32))) || (decide (b = []) && decide (c = 32))) with
        | true => rw [cond_true, if_pos rfl]
        | false =>
          rw [cond_false, if_neg (by simp), appL_ok (by simp; omega), Option.bind_some]
          have := ih b (a ++ [c]) (out ++ [c]) n (by simp at hk; omega) (by simpa using hs) (by simp at hn; omega) (by simp; omega)
          have el : ((((a.length + 1 : Nat)) : Int)) = ((a ++ [c]).length : Int) := by simp
          have hf : decide (a ++ [c] = []) = false := by simp
          rw [hf] at this
          rw [e1, el, this]
          cases plS false b <;> simp
theorem plain_eq {N : Nat} {s : List UInt8} (hs : s.length ≤ 1000000) (hN : s.length < N) : prefectref4_plain N s = some (match plS true s with | some v => (v, true) | none => ([], false)) := by
  unfold prefectref4_plain
  have := plain_loop N s.length s [] [] N (Nat.le_refl _) hs hN (Nat.le_refl _)
  simp only [List.nil_append, List.length_nil, decide_true] at this
  rw [show ((0 : Int)) = ((0 : Nat) : Int) from rfl, this]
  cases plS true s <;> rfl
theorem un_pl : ∀ (k : Nat) (s : List UInt8), s.length ≤ k → (∀ v, plS false s = some v ↔ unS s false = some (v, false)) ∧ (s ≠ [] → unS s true = unS s false) := by
  intro k
  induction k with
  | zero =>
    intro s hk
    obtain rfl : s = [] := List.length_eq_zero_iff.1 (by omega)
    exact ⟨by intro v; simp [plS, unS], fun h => absurd rfl h⟩
  | succ k ih =>
    intro s hk
    cases s with
    | nil => exact ⟨by intro v; simp [plS, unS], fun h => absurd rfl h⟩
    | cons c s =>
      refine ⟨?_, fun _ => by rw [unS_cons, unS_cons]⟩
      intro v
      have lift : ∀ (c : UInt8) (s : List UInt8), s.length ≤ k → ∀ v, ((plS false s).map (c :: ·) = some v ↔ ((unS s false).map fun x => (c :: x.1, x.2)) = some (v, false)) := by
        intro c s hs v
        rw [Option.map_eq_some_iff, Option.map_eq_some_iff]
        constructor
        · rintro ⟨w, h1, rfl⟩
          exact ⟨(w, false), ((ih s hs).1 w).1 h1, rfl⟩
        · rintro ⟨⟨w, b⟩, h1, h2⟩
          simp only [Prod.mk.injEq] at h2
          obtain ⟨rfl, rfl⟩ := h2
          exact ⟨w, ((ih s hs).1 w).2 h1, rfl⟩
      rw [plS_cons, unS_cons]
      by_cases hc : c = 92
      · rw [if_pos hc, if_pos hc]
        cases s with
        | nil => simp
        | cons d s =>
          simp only
          by_cases hm : mayC d = true
          · rw [if_pos hm, if_pos hm]
            exact lift d s (by simp at hk; omega) v
          · rw [if_neg hm, if_neg hm]
            cases s with
            | nil => simp
            | cons e s =>
              simp only
              by_cases hh : 0 ≤ hexV d ∧ 0 ≤ hexV e
              · rw [if_pos hh, if_pos hh]
                exact lift _ s (by simp at hk; omega) v
              · rw [if_neg hh, if_neg hh]; simp
      · rw [if_neg hc, if_neg hc]
        simp only [Bool.false_and, Bool.or_false]
        by_cases hsp : spc c = true
        · rw [hsp]; simp
        · have hsp' : spc c = false := by simpa using hsp
          rw [hsp']
          simp only [Bool.false_or]
          rw [if_neg (show ¬ (false = true) by simp)]
          by_cases h32 : c = 32
          · rw [decide_eq_true h32, Bool.and_true]
            by_cases hs : s = []
            · subst hs
              simp [unS]
            · rw [decide_eq_false hs, if_neg (by simp), (ih s (by simp at hk; omega)).2 hs]
              exact lift c s (by simp at hk; omega) v
          · rw [decide_eq_false h32, Bool.and_false, if_neg (by simp)]
            exact lift c s (by simp at hk; omega) v
theorem pl_first (s : List UInt8) : plS true s = if s.head? = some 35 ∨ s.head? = some 32 then none else plS false s := by
  cases s with
  | nil => simp [plS]
  | cons c s =>
    rw [plS_cons, plS_cons]
    by_cases hc : c = 92
    · subst hc
      rw [if_pos rfl, if_pos rfl, if_neg (by simp)]
    · rw [if_neg hc, if_neg hc]
      by_cases h1 : c = 35
      · subst h1; simp
      · by_cases h2 : c = 32
        · subst h2; simp
        · simp [h1, h2]
theorem hasPrefix1 (N : Nat) (s : List UInt8) (c : UInt8) : strings_HasPrefix N s [c] = some (decide (s.head? = some c)) := by
  unfold strings_HasPrefix internal_stringslite_HasPrefix
  cases s with
  | nil => rfl
  | cons d s =>
    rw [decide_eq_true (by simp; omega), cond_true, show ((([c] : List UInt8).length : Nat) : Int) = ((1 : Nat) : Int) from rfl, takeL_nat (by simp)]
    simp
    rw [Bool.eq_iff_iff]; simp
theorem unescape_eq {N : Nat} {s : List UInt8} (hs : s.length ≤ 1000000) (hN : s.length < N) (h2 : 2 < N) : ∃ w, dn_unescape N s = some (match plS true s with | some v => (v, true) | none => (w, false)) := by
  unfold dn_unescape
  rw [hasPrefix1, hasPrefix1, pl_first]
  by_cases h35 : s.head? = some 35
  · rw [decide_eq_true h35, if_pos (.inl h35)]
    exact ⟨[], rfl⟩
  · rw [decide_eq_false h35]
    by_cases h32 : s.head? = some 32
    · rw [decide_eq_true h32, if_pos (.inr h32)]
      exact ⟨[], rfl⟩
    · rw [decide_eq_false h32, if_neg (by rintro (h | h); exact h35 h; exact h32 h)]
      simp only [Option.bind_some, cond_false]
      have := un_loop N h2 s.length s [] [] false N (Nat.le_refl _) hs hN (Nat.le_refl _)
      simp only [List.nil_append, List.length_nil] at this
      rw [show ((0 : Int)) = ((0 : Nat) : Int) from rfl, this]
      have hup := (un_pl s.length s (Nat.le_refl _)).1
      cases hu : unS s false with
      | none =>
        cases hp : plS false s with
        | none => exact ⟨[], rfl⟩
        | some v => rw [(hup v).1 hp] at hu; cases hu
      | some x =>
        obtain ⟨v, b⟩ := x
        cases b with
        | false =>
          rw [(hup v).2 hu]
          exact ⟨[], rfl⟩
        | true =>
          cases hp : plS false s with
          | none => exact ⟨v, rfl⟩
          | some v' => rw [(hup v').1 hp] at hu; cases hu
end Go.Gp
end
section
set_option linter.unusedVariables false
set_option linter.unusedSimpArgs false
namespace Go.Gp
open Go.Vd
def avaP (p : List UInt8) : Option api_AVA := (cutE p).bind fun x => (plS true x.2).map fun v => ⟨low x.1, v⟩
def avaR (p : List UInt8) : Option api_AVA := (cutE p).bind fun x => if (cutS 44 p).length > 1 then none else (plS true x.2).map fun v => ⟨low x.1, v⟩
def rdnP (s : List UInt8) : Option (List api_AVA) := ((cutS 43 s).mapM avaP).bind fun r => if isRDNS r then some r else none
def rdnR (s : List UInt8) : Option (List api_AVA) := ((cutS 43 s).mapM avaR).bind fun r => if isRDNS r then some r else none
theorem preH_len (p : List UInt8) (l : List (List UInt8)) (k : Nat) (h : ∀ x ∈ l, x.length ≤ k) : ∀ x ∈ preH p l, x.length ≤ p.length + k := by
  intro x hx
  cases l with
  | nil => simp [preH] at hx; subst hx; omega
  | cons y l =>
    simp only [preH, List.mem_cons] at hx
    rcases hx with rfl | hx
    · have := h y List.mem_cons_self; simp; omega
    · have := h x (List.mem_cons_of_mem _ hx); omega
theorem preH_length (p : List UInt8) {l : List (List UInt8)} (h : l ≠ []) : (preH p l).length = l.length := by cases l <;> simp_all [preH]
theorem cutS_len (sep : UInt8) : ∀ (k : Nat) (s : List UInt8), s.length ≤ k → (cutS sep s).length ≤ s.length + 1 ∧ ∀ x ∈ cutS sep s, x.length ≤ s.length := by
  intro k
  induction k with
  | zero =>
    intro s hs
    obtain rfl : s = [] := List.length_eq_zero_iff.1 (by omega)
    simp [cutS]
  | succ k ih =>
    intro s hs
    cases s with
    | nil => simp [cutS]
    | cons c s =>
      cases s with
      | nil =>
        unfold cutS
        split
        · simp
        · split <;> simp
      | cons d s =>
        unfold cutS
        split
        · obtain ⟨h1, h2⟩ := ih s (by simp at hs; omega)
          refine ⟨by rw [preH_length _ (cutS_ne _ _)]; simp; omega, fun x hx => ?_⟩
          have := preH_len _ _ _ h2 x hx
          simp at this ⊢; omega
        · obtain ⟨h1, h2⟩ := ih (d :: s) (by simp at hs ⊢; omega)
          split
          · refine ⟨by simp at h1 ⊢; omega, fun x hx => ?_⟩
            rcases List.mem_cons.1 hx with rfl | hx
            · simp
            · have := h2 x hx; simp at this ⊢; omega
          · refine ⟨by rw [preH_length _ (cutS_ne _ _)]; simp at h1 ⊢; omega, fun x hx => ?_⟩
            have := preH_len _ _ _ h2 x hx
            simp at this ⊢; omega
theorem plS_len : ∀ (k : Nat) (f : Bool) (s v : List UInt8), s.length ≤ k → plS f s = some v → v.length ≤ s.length := by
  intro k
  induction k with
  | zero =>
    intro f s v hs h
    obtain rfl : s = [] := List.length_eq_zero_iff.1 (by omega)
    simp [plS] at h; subst h; simp
  | succ k ih =>
    intro f s v hs h
    cases s with
    | nil => simp [plS] at h; subst h; simp
    | cons c s =>
      rw [plS_cons] at h
      have lift : ∀ (c : UInt8) (t w : List UInt8), t.length ≤ k → (plS false t).map (c :: ·) = some w → w.length ≤ t.length + 1 := by
        intro c t w ht hw
        rw [Option.map_eq_some_iff] at hw
        obtain ⟨u, h1, rfl⟩ := hw
        have := ih false t u ht h1
        simp; omega
      split at h
      · cases s with
        | nil => cases h
        | cons d s =>
          simp only at h
          split at h
          · have := lift _ _ _ (by simp at hs; omega) h; simp; omega
          · cases s with
            | nil => cases h
            | cons e s =>
              simp only at h
              split at h
              · have := lift _ _ _ (by simp at hs; omega) h; simp; omega
              · cases h
      · split at h
        · cases h
        · have := lift _ _ _ (by simp at hs; omega) h; simp; omega
theorem low_len (s : List UInt8) : (low s).length = s.length := by simp [low]
theorem avaP_len {p : List UInt8} {a : api_AVA} (h : avaP p = some a) : a.Attr.length ≤ p.length ∧ a.Value.length ≤ p.length := by
  unfold avaP at h
  rw [Option.bind_eq_some_iff] at h
  obtain ⟨⟨x, v⟩, h1, h2⟩ := h
  rw [Option.map_eq_some_iff] at h2
  obtain ⟨w, h2, rfl⟩ := h2
  obtain ⟨e, _⟩ := cutE_some h1
  have := plS_len v.length true v w (Nat.le_refl _) h2
  rw [e]
  simp [low_len]
  omega
theorem mapM_len {α β : Type} {f : α → Option β} : ∀ {l : List α} {r : List β}, l.mapM f = some r → r.length = l.length ∧ ∀ b ∈ r, ∃ a ∈ l, f a = some b
  | [], r, h => by simp at h; subst h; simp
  | a :: l, r, h => by
    rw [List.mapM_cons] at h
    simp only [Option.bind_eq_bind, Option.bind_eq_some_iff] at h
    obtain ⟨b, h1, s, h2, h3⟩ := h
    cases h3
    obtain ⟨e1, e2⟩ := mapM_len h2
    refine ⟨by simp [e1], fun c hc => ?_⟩
    rcases List.mem_cons.1 hc with rfl | hc
    · exact ⟨a, List.mem_cons_self, h1⟩
    · obtain ⟨a', h4, h5⟩ := e2 c hc
      exact ⟨a', List.mem_cons_of_mem _ h4, h5⟩
theorem rdn_loop (N : Nat) (hN : 1000000 < N) : ∀ (b a : List (List UInt8)) (out : List api_AVA) (n : Nat), (a ++ b).length ≤ 1000001 → b.length < n → out.length = a.length → (∀ p ∈ b, p.length ≤ 1000000) →
    dn_ParseRDN_l8 N (a ++ b) n ((a.length : Int), out) = some (match b.mapM avaP with
      | some r => if 5 < (out ++ r).length ∧ b ≠ [] then .inr ([], 15) else .inl (out ++ r)
      | none => .inr ([], 15)) := by
  intro b
  induction b with
  | nil =>
    intro a out n hs hn ho _
    obtain ⟨n, rfl, _⟩ := fuel hn
    simp only [dn_ParseRDN_l8, dn_ParseRDN_l8_b]
    rw [len_end, cond_false]; simp
  | cons p b ih =>
    intro a out n hs hn ho hp
    obtain ⟨n, rfl, hn'⟩ := fuel hn
    have hal : (a ++ p :: b).length = a.length + b.length + 1 := by simp; omega
    have hpl := hp p List.mem_cons_self
    simp only [dn_ParseRDN_l8, dn_ParseRDN_l8_b]
    rw [len_mid, cond_true, idx_mid, Option.bind_some, scut_eq hpl, Option.bind_some, suc_mid (a := a) (b := b) (x := p) (by omega), List.mapM_cons]
    simp only [Option.bind_eq_bind]
    cases hc : cutE p with
    | none =>
      have hav : avaP p = none := by unfold avaP; rw [hc]; rfl
      rw [hav]
      obtain ⟨w, hw⟩ := unescape_eq (N := N) (s := []) (by simp) (by simp; omega) (by omega)
      rw [hw]
      rfl
    | some x =>
      obtain ⟨at', v⟩ := x
      obtain ⟨e, _⟩ := cutE_some hc
      have hvl : v.length ≤ p.length ∧ at'.length ≤ p.length := by rw [e]; simp; omega
      obtain ⟨w, hw⟩ := unescape_eq (N := N) (s := v) (by omega) (by omega) (by omega)
      simp only
      rw [hw, Option.bind_some]
      cases hpv : plS true v with
      | none =>
        have hav : avaP p = none := by unfold avaP; rw [hc, Option.bind_some]; simp only [hpv]; rfl
        rw [hav]; rfl
      | some val =>
        have hav : avaP p = some ⟨low at', val⟩ := by unfold avaP; rw [hc, Option.bind_some]; simp only [hpv]; rfl
        rw [hav]
        simp only [Bool.not_true, cond_false, Option.bind_some, Option.map_some]
        by_cases h5 : out.length > 4
        · rw [decide_eq_true (by omega), cond_true]
          cases hm : b.mapM avaP with
          | none => rfl
          | some r =>
            simp only [Option.bind_some, Option.pure_def]
            rw [if_pos ⟨by simp; omega, by simp⟩]
        · rw [decide_eq_false (by omega), cond_false, lower_eq (by omega) (by omega), Option.bind_some, appL_ok (by simp; omega), Option.bind_some]
          have := ih (a ++ [p]) (out ++ [⟨low at', val⟩]) n (by simpa using hs) hn' (by simp [ho]) (fun q hq => hp q (List.mem_cons_of_mem _ hq))
          rw [← app_mid] at this
          rw [this]
          cases hm : b.mapM avaP with
          | none => rfl
          | some r =>
            simp only [Option.bind_some, Option.pure_def, List.append_assoc, List.cons_append, List.nil_append]
            by_cases hb : b = []
            · subst hb
              simp at hm
              subst hm
              rw [if_neg (by simp), if_neg (by simp; omega)]
            · by_cases h6 : 5 < (out ++ ⟨low at', val⟩ :: r).length
              · rw [if_pos ⟨h6, hb⟩, if_pos ⟨h6, by simp⟩]
              · rw [if_neg (fun h => h6 h.1), if_neg (fun h => h6 h.1)]
theorem rdnGo_avas : ∀ (r d : List api_AVA), rdnGo d r = true → ∀ a ∈ r, avaS a = true
  | [], _, _, a, ha => by simp at ha
  | x :: r, d, h, a, ha => by
    rw [rdnGo, Bool.and_eq_true, Bool.and_eq_true] at h
    rcases List.mem_cons.1 ha with rfl | ha
    · exact h.1
    · exact rdnGo_avas r _ h.2.2 a ha
theorem parseRDN_eq {N : Nat} {s : List UInt8} (hs : s.length ≤ 1000000) (hN : 2000000 < N) (hN2 : N ≤ 9223372036854775808) : dn_ParseRDN N s = some (match rdnP s with | some r => (r, 0) | none => ([], 15)) := by
  unfold dn_ParseRDN rdnP
  rw [cut_eq hs (by omega), Option.bind_some]
  obtain ⟨h1, h2⟩ := cutS_len 43 s.length s (Nat.le_refl _)
  have := rdn_loop N (by omega) (cutS 43 s) [] [] N (by simpa using (by omega : (cutS 43 s).length ≤ 1000001)) (by omega) rfl (fun p hp => by have := h2 p hp; omega)
  simp only [List.nil_append, List.length_nil] at this
  rw [show ((0 : Int)) = ((0 : Nat) : Int) from rfl, this]
  cases hm : (cutS 43 s).mapM avaP with
  | none => rfl
  | some r =>
    obtain ⟨hl, hb⟩ := mapM_len hm
    simp only [Option.bind_some]
    by_cases h5 : 5 < r.length
    · rw [if_pos ⟨h5, cutS_ne _ _⟩]
      have : isRDNS r = false := by unfold isRDNS; rw [decide_eq_false (show ¬ r.length ≤ 4 by omega)]; simp
      rw [this]; rfl
    · rw [if_neg (fun h => h5 h.1)]
      simp only [Sum.elim_inl]
      rw [isRDN_eq hN2 (by omega) (by omega) (fun x hx => by
        obtain ⟨p, hp, hpa⟩ := hb x hx
        have h3 := avaP_len hpa
        have h4 := h2 p hp
        exact ⟨by omega, by omega⟩), Option.bind_some]
      cases isRDNS r <;> rfl
theorem parse_loop (N : Nat) (hN : 2000000 < N) (hN2 : N ≤ 9223372036854775808) : ∀ (b a : List (List UInt8)) (out : List (List api_AVA)) (n : Nat), (a ++ b).length ≤ 1000001 → b.length < n → out.length = a.length → (∀ p ∈ b, p.length ≤ 1000000) → out.length ≤ 8 →
    dn_Parse_l16 N (a ++ b) n ((a.length : Int), out) = some (match b.mapM rdnP with
      | some r => if 8 < (out ++ r).length then .inr ([], 15) else .inl (out ++ r)
      | none => .inr ([], 15)) := by
  intro b
  induction b with
  | nil =>
    intro a out n hs hn ho _ h8
    obtain ⟨n, rfl, _⟩ := fuel hn
    simp only [dn_Parse_l16, dn_Parse_l16_b]
    rw [len_end, cond_false]; simp; omega
  | cons p b ih =>
    intro a out n hs hn ho hp h8
    obtain ⟨n, rfl, hn'⟩ := fuel hn
    have hal : (a ++ p :: b).length = a.length + b.length + 1 := by simp; omega
    have hpl := hp p List.mem_cons_self
    simp only [dn_Parse_l16, dn_Parse_l16_b]
    rw [len_mid, cond_true, idx_mid, Option.bind_some, parseRDN_eq hpl hN hN2, Option.bind_some, suc_mid (a := a) (b := b) (x := p) (by omega), List.mapM_cons]
    simp only [Option.bind_eq_bind]
    cases hr : rdnP p with
    | none => rfl
    | some r =>
      simp only [Option.bind_some]
      by_cases he : out.length = 8
      · rw [show ((out.length : Int) == 8) = true by rw [he]; rfl]
        cases hm : b.mapM rdnP with
        | none => rfl
        | some rs =>
          simp only [Option.bind_some, Option.pure_def]
          rw [if_pos (by simp; omega)]
          rfl
      · rw [show ((out.length : Int) == 8) = false by rw [Bool.eq_false_iff]; simp; omega]
        have := ih (a ++ [p]) (out ++ [r]) n (by simpa using hs) hn' (by simp [ho]) (fun q hq => hp q (List.mem_cons_of_mem _ hq)) (by simp; omega)
        rw [← app_mid] at this
        simp only [bne, BEq.rfl, Bool.not_true, cond_false, Option.bind_some]
        rw [appL_ok (by simp; omega), Option.bind_some, this]
        cases hm : b.mapM rdnP with
        | none => rfl
        | some rs => simp
def nameP (s : List UInt8) : Option (List (List api_AVA)) := if s = [] then some [] else ((cutS 44 s).mapM rdnP).bind fun r => if r.length ≤ 8 then some r else none
theorem parse_eq {N : Nat} {s : List UInt8} (hs : s.length ≤ 1000000) (hN : 2000000 < N) (hN2 : N ≤ 9223372036854775808) : dn_Parse N s = some (match nameP s with | some r => (r, 0) | none => ([], 15)) := by
  unfold dn_Parse nameP
  by_cases h0 : s = []
  · subst h0; rfl
  · have : (s == ([] : List UInt8)) = false := by simpa using h0
    rw [this, cond_false, if_neg h0, cut_eq hs (by omega), Option.bind_some]
    obtain ⟨h1, h2⟩ := cutS_len 44 s.length s (Nat.le_refl _)
    have := parse_loop N hN hN2 (cutS 44 s) [] [] N (by simpa using (by omega : (cutS 44 s).length ≤ 1000001)) (by omega) rfl (fun p hp => by have := h2 p hp; omega) (Nat.zero_le _)
    simp only [List.nil_append, List.length_nil] at this
    rw [show ((0 : Int)) = ((0 : Nat) : Int) from rfl, this]
    cases hm : (cutS 44 s).mapM rdnP with
    | none => rfl
    | some r =>
      simp only [Option.bind_some]
      by_cases h8 : r.length ≤ 8
      · rw [if_pos h8, if_neg (by omega)]; rfl
      · rw [if_neg h8, if_pos (by omega)]; rfl
end Go.Gp
end
section
set_option linter.unusedVariables false
set_option linter.unusedSimpArgs false
namespace Go.Gp
open Go.Vd
theorem eq_loop (N : Nat) (l : List (List UInt8)) (i : Nat) (o : List api_AVA) : ∀ (b a : List UInt8) (n : Nat), l[i]? = some (a ++ b) → (a ++ b).length ≤ 1000000 → b.length < n →
    prefectref4_ParseRDN_l23 N l (i : Int) o n (a.length : Int) = some ((match cutE b with | some y => a.length + y.1.length | none => (a ++ b).length : Nat) : Int) := by
  intro b
  induction b with
  | nil =>
    intro a n hl hs hn
    obtain ⟨n, rfl, _⟩ := fuel hn
    simp only [prefectref4_ParseRDN_l23, prefectref4_ParseRDN_l23_b]
    rw [idxL_lt hl, Option.bind_some, len_end]
    simp [cutE]
  | cons c b ih =>
    intro a n hl hs hn
    obtain ⟨n, rfl, hn'⟩ := fuel hn
    simp only [prefectref4_ParseRDN_l23, prefectref4_ParseRDN_l23_b]
    rw [idxL_lt hl, Option.bind_some, len_mid, cond_true, suc_mid (a := a) (b := b) (x := c) (by omega)]
    simp only [Option.bind_some, idx_mid]
    rw [bne, is61, cutE]
    by_cases hc : c = 61
    · rw [decide_eq_true hc, if_pos hc]; simp
    · rw [decide_eq_false hc, if_neg hc, Bool.not_false, cond_true, ih (a ++ [c]) n (by rw [hl]; simp) (by simpa using hs) hn']
      cases cutE b with
      | none => simp
      | some y => simp; omega
theorem rrdn_loop (N : Nat) (hN : 1000000 < N) : ∀ (b a : List (List UInt8)) (out : List api_AVA) (n : Nat), (a ++ b).length ≤ 1000001 → b.length < n → out.length = a.length → (∀ p ∈ b, p.length ≤ 1000000) →
    prefectref4_ParseRDN_l10 N (a ++ b) n ((a.length : Int), out) = some (match b.mapM avaR with
      | some r => .inl (out ++ r)
      | none => .inr ([], false)) := by
  intro b
  induction b with
  | nil =>
    intro a out n hs hn ho _
    obtain ⟨n, rfl, _⟩ := fuel hn
    simp only [prefectref4_ParseRDN_l10, prefectref4_ParseRDN_l10_b]
    rw [len_end, cond_false]; simp
  | cons p b ih =>
    intro a out n hs hn ho hp
    obtain ⟨n, rfl, hn'⟩ := fuel hn
    have hal : (a ++ p :: b).length = a.length + b.length + 1 := by simp; omega
    have hpl := hp p List.mem_cons_self
    have hq := eq_loop N (a ++ p :: b) a.length out p [] N (by simp) (by simpa using hpl) (by omega)
    simp only [List.nil_append, List.length_nil, Nat.zero_add] at hq
    simp only [prefectref4_ParseRDN_l10, prefectref4_ParseRDN_l10_b]
    rw [len_mid, cond_true, show ((0 : Int)) = ((0 : Nat) : Int) from rfl, hq, Option.bind_some, suc_mid (a := a) (b := b) (x := p) (by omega), List.mapM_cons]
    simp only [idx_mid, Option.bind_some, Option.bind_eq_bind]
    cases hc : cutE p with
    | none =>
      have hav : avaR p = none := by unfold avaR; rw [hc]; rfl
      rw [hav]
      simp
    | some x =>
      obtain ⟨at', v⟩ := x
      obtain ⟨e, _⟩ := cutE_some hc
      have hvl : p.length = at'.length + v.length + 1 := by rw [e]; simp; omega
      simp only
      rw [show ((at'.length : Int) == (p.length : Int)) = false by rw [Bool.eq_false_iff]; simp; omega, cond_false, rcut_eq hpl (by omega), Option.bind_some, Option.bind_some]
      by_cases h1 : (cutS 44 p).length > 1
      · have hav : avaR p = none := by unfold avaR; rw [hc, Option.bind_some, if_pos h1]
        rw [hav, decide_eq_true (by omega)]
        rfl
      · rw [decide_eq_false (by omega), cond_false, w64_succ (by omega), dropL_nat (by omega), Option.bind_some]
        have hdv : p.drop (at'.length + 1) = v := by rw [e, app_mid, List.drop_left' (by simp)]
        rw [hdv, plain_eq (by omega) (by omega), Option.bind_some]
        cases hpv : plS true v with
        | none =>
          have hav : avaR p = none := by unfold avaR; rw [hc, Option.bind_some, if_neg h1]; simp only [hpv]; rfl
          rw [hav]; rfl
        | some val =>
          have hav : avaR p = some ⟨low at', val⟩ := by unfold avaR; rw [hc, Option.bind_some, if_neg h1]; simp only [hpv]; rfl
          rw [hav]
          simp only [Bool.not_true, cond_false]
          have htv : p.take at'.length = at' := by rw [e, List.take_left' rfl]
          rw [takeL_nat (by omega), Option.bind_some, htv, rlower_eq (by omega) (by omega), Option.bind_some, appL_ok (by simp; omega), Option.bind_some]
          have := ih (a ++ [p]) (out ++ [⟨low at', val⟩]) n (by simpa using hs) hn' (by simp [ho]) (fun q hq => hp q (List.mem_cons_of_mem _ hq))
          rw [← app_mid] at this
          rw [this]
          cases hm : b.mapM avaR with
          | none => rfl
          | some r => simp
theorem avaR_P {p : List UInt8} {a : api_AVA} (h : avaR p = some a) : avaP p = some a := by
  unfold avaR at h
  unfold avaP
  rw [Option.bind_eq_some_iff] at h ⊢
  obtain ⟨x, h1, h2⟩ := h
  split at h2
  · cases h2
  · exact ⟨x, h1, h2⟩
theorem rparseRDN_eq {N : Nat} {s : List UInt8} (hs : s.length ≤ 1000000) (hN : 2000000 < N) (hN2 : N ≤ 9223372036854775808) : prefectref4_ParseRDN N s = some (match rdnR s with | some r => (r, true) | none => ([], false)) := by
  unfold prefectref4_ParseRDN rdnR
  rw [rcut_eq hs (by omega), Option.bind_some]
  obtain ⟨h1, h2⟩ := cutS_len 43 s.length s (Nat.le_refl _)
  have := rrdn_loop N (by omega) (cutS 43 s) [] [] N (by simpa using (by omega : (cutS 43 s).length ≤ 1000001)) (by omega) rfl (fun p hp => by have := h2 p hp; omega)
  simp only [List.nil_append, List.length_nil] at this
  rw [show ((0 : Int)) = ((0 : Nat) : Int) from rfl, this]
  cases hm : (cutS 43 s).mapM avaR with
  | none => rfl
  | some r =>
    obtain ⟨hl, hb⟩ := mapM_len hm
    simp only [Option.bind_some, Sum.elim_inl]
    rw [rIsRDN_eq hN2 (by omega) (fun x hx => by
        obtain ⟨p, hp, hpa⟩ := hb x hx
        have h3 := avaP_len (avaR_P hpa)
        have h4 := h2 p hp
        exact ⟨by omega, by omega⟩), Option.bind_some]
    cases isRDNS r <;> rfl
theorem mapM_imp {α β : Type} {f g : α → Option β} : ∀ {l : List α} {r : List β}, l.mapM f = some r → (∀ a b, a ∈ l → b ∈ r → f a = some b → g a = some b) → l.mapM g = some r
  | [], r, h, _ => by simpa using h
  | a :: l, r, h, k => by
    rw [List.mapM_cons] at h ⊢
    simp only [Option.bind_eq_bind, Option.bind_eq_some_iff] at h ⊢
    obtain ⟨b, h1, s, h2, h3⟩ := h
    cases h3
    exact ⟨b, k a b List.mem_cons_self List.mem_cons_self h1, s, mapM_imp h2 fun a' b' ha hb => k a' b' (List.mem_cons_of_mem _ ha) (List.mem_cons_of_mem _ hb), rfl⟩
theorem ty_low (c : UInt8) (h : tyB (lowB c) = true) : c ≠ 92 ∧ c ≠ 44 ∧ c ≠ 43 ∧ c ≠ 61 := by
  have := u8_all (p := fun c => !tyB (lowB c) || (decide (c ≠ 92) && decide (c ≠ 44) && decide (c ≠ 43) && decide (c ≠ 61))) (by decide +kernel) c
  simp only [h, Bool.not_true, Bool.false_or, Bool.and_eq_true, decide_eq_true_eq] at this
  exact ⟨this.1.1.1, this.1.1.2, this.1.2, this.2⟩
theorem type_low {s : List UInt8} (h : isTypeS (low s) = true) : ∀ c ∈ s, c ≠ 92 ∧ c ≠ 44 ∧ c ≠ 43 ∧ c ≠ 61 := by
  intro c hc
  have : (low s).all tyB = true := by
    unfold isTypeS at h
    split at h
    · cases h
    · rename_i e
      rw [e]
      simp only [Bool.and_eq_true] at h
      exact h.2.2
  have h2 := List.all_eq_true.1 this (lowB c) (List.mem_map.2 ⟨c, hc, rfl⟩)
  exact ty_low c h2
theorem cutS_skip (sep : UInt8) : ∀ (a v : List UInt8), (∀ c ∈ a, c ≠ 92 ∧ c ≠ sep) → cutS sep (a ++ v) = preH a (cutS sep v)
  | [], v, _ => by rw [List.nil_append, preH_nil (cutS_ne _ _)]
  | c :: a, v, h => by
    rw [List.cons_append, cutS_other (h c List.mem_cons_self).1 (h c List.mem_cons_self).2, cutS_skip sep a v fun d hd => h d (List.mem_cons_of_mem _ hd), preH_pre]
    rfl
theorem hexV_ne (c : UInt8) (h : 0 ≤ hexV c) : c ≠ 92 ∧ c ≠ 44 := by
  have := u8_all (p := fun c => !decide (0 ≤ hexV c) || (decide (c ≠ 92) && decide (c ≠ 44))) (by decide +kernel) c
  simp only [decide_eq_true h, Bool.not_true, Bool.false_or, Bool.and_eq_true, decide_eq_true_eq] at this
  exact this
theorem spc_ne (c : UInt8) (h : spc c = false) : c ≠ 92 ∧ c ≠ 44 := by
  have := u8_all (p := fun c => spc c || (decide (c ≠ 92) && decide (c ≠ 44))) (by decide +kernel) c
  simp only [h, Bool.false_or, Bool.and_eq_true, decide_eq_true_eq] at this
  exact this
theorem pl_cut : ∀ (k : Nat) (f : Bool) (s v : List UInt8), s.length ≤ k → plS f s = some v → (cutS 44 s).length = 1 := by
  intro k
  induction k with
  | zero =>
    intro f s v hs h
    obtain rfl : s = [] := List.length_eq_zero_iff.1 (by omega)
    rfl
  | succ k ih =>
    intro f s v hs h
    cases s with
    | nil => rfl
    | cons c s =>
      rw [plS_cons] at h
      split at h
      · rename_i hc
        subst hc
        cases s with
        | nil => cases h
        | cons d s =>
          simp only at h
          rw [cutS_bs, preH_length _ (cutS_ne _ _)]
          split at h
          · rw [Option.map_eq_some_iff] at h
            obtain ⟨w, h1, _⟩ := h
            exact ih false s w (by simp at hs; omega) h1
          · cases s with
            | nil => cases h
            | cons e s =>
              simp only at h
              split at h
              · rename_i hh
                rw [Option.map_eq_some_iff] at h
                obtain ⟨w, h1, _⟩ := h
                rw [cutS_other (hexV_ne e hh.2).1 (hexV_ne e hh.2).2, preH_length _ (cutS_ne _ _)]
                exact ih false s w (by simp at hs; omega) h1
              · cases h
      · split at h
        · cases h
        · rename_i hc hq
          rw [Option.map_eq_some_iff] at h
          obtain ⟨w, h1, _⟩ := h
          have hs' : spc c = false := by
            cases hh : spc c with
            | false => rfl
            | true => rw [hh] at hq; simp at hq
          rw [cutS_other (spc_ne c hs').1 (spc_ne c hs').2, preH_length _ (cutS_ne _ _)]
          exact ih false s w (by simp at hs; omega) h1
theorem avaP_R {p : List UInt8} {a : api_AVA} (h : avaP p = some a) (ht : isTypeS a.Attr = true) : avaR p = some a := by
  unfold avaP at h
  unfold avaR
  rw [Option.bind_eq_some_iff] at h ⊢
  obtain ⟨⟨x, v⟩, h1, h2⟩ := h
  refine ⟨(x, v), h1, ?_⟩
  rw [Option.map_eq_some_iff] at h2
  obtain ⟨w, h3, h4⟩ := h2
  have hx : ∀ c ∈ x, c ≠ 92 ∧ c ≠ 44 ∧ c ≠ 43 ∧ c ≠ 61 := by
    rw [← h4] at ht
    exact type_low ht
  have hl : (cutS 44 p).length = 1 := by
    obtain ⟨e, _⟩ := cutE_some h1
    rw [e, cutS_skip 44 x _ (fun c hc => ⟨(hx c hc).1, (hx c hc).2.1⟩), preH_length _ (cutS_ne _ _), cutS_other (by decide) (by decide), preH_length _ (cutS_ne _ _)]
    exact pl_cut v.length true v w (Nat.le_refl _) h3
  rw [if_neg (by omega), Option.map_eq_some_iff]
  exact ⟨w, h3, h4⟩
theorem isRDNS_types {r : List api_AVA} (h : isRDNS r = true) : ∀ a ∈ r, isTypeS a.Attr = true := by
  unfold isRDNS at h
  simp only [Bool.and_eq_true] at h
  intro a ha
  have := rdnGo_avas r [] h.2.2 a ha
  unfold avaS at this
  simp only [Bool.and_eq_true] at this
  exact this.1
theorem rdn_same (s : List UInt8) : rdnR s = rdnP s := by
  have h1 : ∀ r, rdnR s = some r → rdnP s = some r := by
    intro r h
    unfold rdnR at h
    unfold rdnP
    rw [Option.bind_eq_some_iff] at h ⊢
    obtain ⟨l, h1, h2⟩ := h
    exact ⟨l, mapM_imp h1 fun _ _ _ _ => avaR_P, h2⟩
  have h2 : ∀ r, rdnP s = some r → rdnR s = some r := by
    intro r h
    unfold rdnP at h
    unfold rdnR
    rw [Option.bind_eq_some_iff] at h ⊢
    obtain ⟨l, h1, h2⟩ := h
    split at h2
    · rename_i hr
      have e : l = r := by simpa using h2
      subst e
      exact ⟨l, mapM_imp h1 fun p a _ ha h => avaP_R h (isRDNS_types hr a ha), by rw [if_pos hr]⟩
    · cases h2
  cases h : rdnP s with
  | some r => exact h2 r h
  | none =>
    cases h' : rdnR s with
    | none => rfl
    | some r => rw [h1 r h'] at h; cases h
theorem rparse_loop (N : Nat) (hN : 2000000 < N) (hN2 : N ≤ 9223372036854775808) : ∀ (b a : List (List UInt8)) (out : List (List api_AVA)) (n : Nat), (a ++ b).length ≤ 1000001 → b.length < n → out.length = a.length → (∀ p ∈ b, p.length ≤ 1000000) →
    prefectref4_Parse_l18 N (a ++ b) n ((a.length : Int), out) = some (match b.mapM rdnP with
      | some r => .inl (out ++ r)
      | none => .inr ([], false)) := by
  intro b
  induction b with
  | nil =>
    intro a out n hs hn ho _
    obtain ⟨n, rfl, _⟩ := fuel hn
    simp only [prefectref4_Parse_l18, prefectref4_Parse_l18_b]
    rw [len_end, cond_false]; simp
  | cons p b ih =>
    intro a out n hs hn ho hp
    obtain ⟨n, rfl, hn'⟩ := fuel hn
    have hal : (a ++ p :: b).length = a.length + b.length + 1 := by simp; omega
    have hpl := hp p List.mem_cons_self
    simp only [prefectref4_Parse_l18, prefectref4_Parse_l18_b]
    rw [len_mid, cond_true, idx_mid, Option.bind_some, rparseRDN_eq hpl hN hN2, Option.bind_some, suc_mid (a := a) (b := b) (x := p) (by omega), List.mapM_cons, rdn_same]
    simp only [Option.bind_eq_bind]
    cases hr : rdnP p with
    | none => rfl
    | some r =>
      have := ih (a ++ [p]) (out ++ [r]) n (by simpa using hs) hn' (by simp [ho]) (fun q hq => hp q (List.mem_cons_of_mem _ hq))
      rw [← app_mid] at this
      simp only [Bool.not_true, cond_false, Option.bind_some]
      rw [appL_ok (by simp; omega), Option.bind_some, this]
      cases hm : b.mapM rdnP with
      | none => rfl
      | some rs => simp
theorem rdnP_is {s : List UInt8} {r : List api_AVA} (h : rdnP s = some r) : isRDNS r = true := by
  unfold rdnP at h
  rw [Option.bind_eq_some_iff] at h
  obtain ⟨l, _, h2⟩ := h
  split at h2
  · rename_i hr; cases h2; exact hr
  · cases h2
theorem rdnP_ok {s : List UInt8} {r : List api_AVA} {N : Nat} (h : rdnP s = some r) (hs : s.length ≤ 1000000) (hN : 2000000 < N) : r.length < N ∧ ∀ x ∈ r, okA N x := by
  unfold rdnP at h
  rw [Option.bind_eq_some_iff] at h
  obtain ⟨l, h1, h2⟩ := h
  split at h2
  · cases h2
    obtain ⟨h3, h4⟩ := mapM_len h1
    obtain ⟨h5, h6⟩ := cutS_len 43 s.length s (Nat.le_refl _)
    refine ⟨by omega, fun x hx => ?_⟩
    obtain ⟨p, hp, hpa⟩ := h4 x hx
    have h7 := avaP_len hpa
    have h8 := h6 p hp
    exact ⟨by omega, by omega⟩
  · cases h2
theorem rparse_eq {N : Nat} {s : List UInt8} (hs : s.length ≤ 1000000) (hN : 2000000 < N) (hN2 : N ≤ 9223372036854775808) : prefectref4_Parse N s = some (match nameP s with | some r => (r, true) | none => ([], false)) := by
  unfold prefectref4_Parse nameP
  by_cases h0 : s = []
  · subst h0; rfl
  · have : (s == ([] : List UInt8)) = false := by simpa using h0
    rw [this, cond_false, if_neg h0, rcut_eq hs (by omega), Option.bind_some]
    obtain ⟨h1, h2⟩ := cutS_len 44 s.length s (Nat.le_refl _)
    have := rparse_loop N hN hN2 (cutS 44 s) [] [] N (by simpa using (by omega : (cutS 44 s).length ≤ 1000001)) (by omega) rfl (fun p hp => by have := h2 p hp; omega)
    simp only [List.nil_append, List.length_nil] at this
    rw [show ((0 : Int)) = ((0 : Nat) : Int) from rfl, this]
    cases hm : (cutS 44 s).mapM rdnP with
    | none => rfl
    | some r =>
      obtain ⟨h3, h4⟩ := mapM_len hm
      simp only [Option.bind_some, Sum.elim_inl]
      rw [rIs_eq hN2 (by omega) (fun x hx => by
        obtain ⟨p, hp, hpa⟩ := h4 x hx
        exact rdnP_ok hpa (by have := h2 p hp; omega) hN), Option.bind_some]
      have hall : r.all isRDNS = true := List.all_eq_true.2 fun x hx => by
        obtain ⟨p, hp, hpa⟩ := h4 x hx
        exact rdnP_is hpa
      unfold isS
      rw [hall, Bool.and_true]
      by_cases h8 : r.length ≤ 8
      · rw [if_pos h8, decide_eq_true h8]; rfl
      · rw [if_neg h8, decide_eq_false h8]; rfl
end Go.Gp
end
section
set_option linter.unusedVariables false
set_option linter.unusedSimpArgs false
namespace Go.Gp
open Go.Vd
def allT : List api_Type := (schema_All 0).getD []
theorem all_eq (N : Nat) : schema_All N = some allT := rfl
theorem rall_eq (N : Nat) : prefectref4_All N = some allT := rfl
def noT : api_Type := ⟨[], 0, false⟩
def findS (name : List UInt8) : Option api_Type := allT.find? (fun t => t.Name == low name)
theorem find_loop (N : Nat) (x : List UInt8) : ∀ (b a : List api_Type) (n : Nat), (a ++ b).length ≤ 9223372036854775807 → b.length < n →
    schema_Find_l8 N x (a ++ b) n (a.length : Int) = some (match b.find? (fun t => t.Name == x) with | some t => .inr (t, true) | none => .inl ()) := by
  intro b
  induction b with
  | nil =>
    intro a n hs hn
    obtain ⟨n, rfl, _⟩ := fuel hn
    simp only [schema_Find_l8, schema_Find_l8_b]
    rw [len_end, cond_false]; rfl
  | cons t b ih =>
    intro a n hs hn
    obtain ⟨n, rfl, hn'⟩ := fuel hn
    simp only [schema_Find_l8, schema_Find_l8_b]
    rw [len_mid, cond_true, idx_mid, Option.bind_some, suc_mid hs]
    have := ih (a ++ [t]) n (by simpa using hs) hn'
    rw [← app_mid] at this
    rw [this, List.find?_cons]
    cases t.Name == x <;> rfl
theorem allT_len : allT.length = 15 := rfl
theorem find_eq {N : Nat} {s : List UInt8} (hs : s.length ≤ 9223372036854775807) (hN : s.length < N) (h15 : 15 < N) : schema_Find N s = some (match findS s with | some t => (t, true) | none => (noT, false)) := by
  unfold schema_Find
  have := find_loop N (low s) allT [] N (by rw [List.nil_append, allT_len]; omega) (by rw [allT_len]; exact h15)
  simp only [List.nil_append, List.length_nil] at this
  rw [lower_eq hs hN, Option.bind_some, all_eq, Option.bind_some, show ((0 : Int)) = ((0 : Nat) : Int) from rfl, this]
  unfold findS
  cases allT.find? (fun t => t.Name == low s) <;> rfl
theorem rfind_loop (N : Nat) (s : List UInt8) (hs : s.length ≤ 9223372036854775807) (hN : s.length < N) : ∀ (b a : List api_Type) (n : Nat), (a ++ b).length ≤ 9223372036854775807 → b.length < n →
    prefectref4_Find_l8 N s (a ++ b) n (a.length : Int) = some (match b.find? (fun t => t.Name == low s) with | some t => .inr (t, true) | none => .inl ()) := by
  intro b
  induction b with
  | nil =>
    intro a n hs hn
    obtain ⟨n, rfl, _⟩ := fuel hn
    simp only [prefectref4_Find_l8, prefectref4_Find_l8_b]
    rw [len_end, cond_false]; rfl
  | cons t b ih =>
    intro a n hs' hn
    obtain ⟨n, rfl, hn'⟩ := fuel hn
    simp only [prefectref4_Find_l8, prefectref4_Find_l8_b]
    rw [len_mid, cond_true, idx_mid, Option.bind_some, rlower_eq hs hN, Option.bind_some, Option.bind_some, suc_mid hs']
    have := ih (a ++ [t]) n (by simpa using hs') hn'
    rw [← app_mid] at this
    rw [this, List.find?_cons]
    cases t.Name == low s <;> rfl
theorem rfind_eq {N : Nat} {s : List UInt8} (hs : s.length ≤ 9223372036854775807) (hN : s.length < N) (h15 : 15 < N) : prefectref4_Find N s = some (match findS s with | some t => (t, true) | none => (noT, false)) := by
  unfold prefectref4_Find
  have := rfind_loop N s hs hN allT [] N (by rw [List.nil_append, allT_len]; omega) (by rw [allT_len]; exact h15)
  simp only [List.nil_append, List.length_nil] at this
  rw [rall_eq, Option.bind_some, show ((0 : Int)) = ((0 : Nat) : Int) from rfl, this]
  unfold findS
  cases allT.find? (fun t => t.Name == low s) <;> rfl
end Go.Gp
end
section
set_option linter.unusedVariables false
set_option linter.unusedSimpArgs false
namespace Go.Gp
open Go.Vd
def ctl (c : UInt8) : Bool := decide (c.toNat < 32) || decide (c.toNat > 126)
def hxA (c : UInt8) : UInt8 := hexT.getD (shrB c 4).toNat 0
def hxB (c : UInt8) : UInt8 := hexT.getD (c &&& 15).toNat 0
def unitS (f l : Bool) (c : UInt8) : List UInt8 := if ctl c then [92, hxA c, hxB c] else if spc c || (f && (decide (c = 35) || decide (c = 32))) || (l && decide (c = 32)) then [92, c] else [c]
def escS : Bool → List UInt8 → List UInt8
  | _, [] => []
  | f, c :: s => unitS f (decide (s = [])) c ++ escS false s
theorem hx_A (c : UInt8) : idxL ([48, 49, 50, 51, 52, 53, 54, 55, 56, 57, 97, 98, 99, 100, 101, 102] : List UInt8) (((shrB c 4)).toNat : Int) = some (hxA c) := by
  have := u8_all (p := fun c => idxL ([48, 49, 50, 51, 52, 53, 54, 55, 56, 57, 97, 98, 99, 100, 101, 102] : List UInt8) (((shrB c 4)).toNat : Int) == some (hxA c)) (by decide +kernel) c
  simpa using this
theorem hx_B (c : UInt8) : idxL ([48, 49, 50, 51, 52, 53, 54, 55, 56, 57, 97, 98, 99, 100, 101, 102] : List UInt8) (((c &&& (15 : UInt8))).toNat : Int) = some (hxB c) := by
  have := u8_all (p := fun c => idxL ([48, 49, 50, 51, 52, 53, 54, 55, 56, 57, 97, 98, 99, 100, 101, 102] : List UInt8) (((c &&& (15 : UInt8))).toNat : Int) == some (hxB c)) (by decide +kernel) c
  simpa using this
theorem ctl_c (c : UInt8) : (bif decide (((c).toNat : Int) < (32 : Int)) then some true else some (decide (((c).toNat : Int) > (126 : Int)))) = some (ctl c) := by
  have := u8_all (p := fun c => (bif decide (((c).toNat : Int) < (32 : Int)) then some true else some (decide (((c).toNat : Int) > (126 : Int)))) == some (ctl c)) (by decide +kernel) c
  simpa using this
theorem ctl_spc (c : UInt8) (h : ctl c = true) : spc c = false ∧ c ≠ 35 ∧ c ≠ 32 := by
  have := u8_all (p := fun c => !ctl c || (!spc c && decide (c ≠ 35) && decide (c ≠ 32))) (by decide +kernel) c
  simp only [h, Bool.not_true, Bool.false_or, Bool.and_eq_true, decide_eq_true_eq, Bool.not_eq_true'] at this
  exact ⟨this.1.1, this.1.2, this.2⟩
theorem unitS_b (f l : Bool) (c : UInt8) : unitS f l c = bif ctl c then [92, hxA c, hxB c] else bif (spc c || (f && (decide (c = 35) || decide (c = 32))) || (l && decide (c = 32))) then [92, c] else [c] := by
  unfold unitS
  cases ctl c <;> cases (spc c || (f && (decide (c = 35) || decide (c = 32))) || (l && decide (c = 32))) <;> rfl
theorem unit_len (f l : Bool) (c : UInt8) : (unitS f l c).length ≤ 3 := by
  unfold unitS; split; simp; split <;> simp
theorem escS_len : ∀ (s : List UInt8) (f : Bool), (escS f s).length ≤ 3 * s.length
  | [], _ => by simp [escS]
  | c :: s, f => by
    have h1 := unit_len f (decide (s = [])) c
    have h2 := escS_len s false
    rw [escS, List.length_append, List.length_cons]; omega
theorem esc_loop (N : Nat) : ∀ (b a out : List UInt8) (n : Nat), a ≠ [] → (a ++ b).length ≤ 1000000 → b.length < n → out.length ≤ 3 * a.length →
    dn_Escape_l8 N (a ++ b) n ((a.length : Int), out) = some (out ++ escS false b) := by
  intro b
  induction b with
  | nil =>
    intro a out n ha hs hn ho
    obtain ⟨n, rfl, _⟩ := fuel hn
    simp only [dn_Escape_l8, dn_Escape_l8_b]
    rw [len_end, cond_false]; simp [escS]
  | cons c b ih =>
    intro a out n ha hs hn ho
    obtain ⟨n, rfl, hn'⟩ := fuel hn
    have hal : (a ++ c :: b).length = a.length + b.length + 1 := by simp; omega
    have hnx : ∀ o : List UInt8, o.length ≤ 3 * a.length + 3 → dn_Escape_l8 N (a ++ c :: b) n (((a ++ [c]).length : Int), o) = some (o ++ escS false b) := by
      intro o ho'
      have := ih (a ++ [c]) o n (by simp) (by simpa using hs) hn' (by simp; omega)
      rwa [← app_mid] at this
    simp only [dn_Escape_l8, dn_Escape_l8_b, dn_Escape_j15p, dn_Escape_j33, dn_Escape_j20]
    rw [len_mid, cond_true, chk_mid, Option.bind_some, get_mid, Option.bind_some, ctl_c, Option.bind_some, suc_mid (a := a) (b := b) (x := c) (by omega), atEnd a b c hs, at0, decide_eq_false ha, is32, escS]
    cases hct : ctl c with
    | true =>
      rw [cond_true, appL_ok (by simp; omega), Option.bind_some, hx_A, Option.bind_some, appL_ok (by simp; omega), Option.bind_some, hx_B, Option.bind_some, appL_ok (by simp; omega), Option.bind_some, hnx _ (by simp; omega)]
      simp [unitS, hct]
    | false =>
      rw [cond_false]
      unfold strings_IndexByte
      rw [Option.bind_some, show decide (Lib.indexByte ([44, 43, 34, 92, 60, 62, 59] : List UInt8) c ≥ 0) = spc c from rfl]
      have hesc : Option.bind (appL 1 out [(92 : UInt8)]) (fun (x53 : List UInt8) => Option.bind (appL 1 x53 [c]) fun (x55 : List UInt8) => dn_Escape_l8 N (a ++ c :: b) n (((a ++ [c]).length : Int), x55)) = some (out ++ [92, c] ++ escS false b) := by
        rw [appL_ok (by simp; omega), Option.bind_some, appL_ok (by simp; omega), Option.bind_some, hnx _ (by simp; omega)]
        simp
      have hpl : Option.bind (appL 1 out [c]) (fun (x55 : List UInt8) => dn_Escape_l8 N (a ++ c :: b) n (((a ++ [c]).length : Int), x55)) = some (out ++ [c] ++ escS false b) := by
        rw [appL_ok (by simp; omega), Option.bind_some, hnx _ (by simp; omega)]
      cases hsp : spc c with
      | true =>
        rw [cond_true, cond_true, hesc]
        simp [unitS, hct, hsp]
      | false =>
        rw [cond_false]
        simp only [cond_false, Option.bind_some]
        by_cases hb : b = []
        · rw [decide_eq_true hb, cond_true]
          by_cases h32 : c = 32
          · rw [decide_eq_true h32, cond_true, hesc]
            unfold unitS
            rw [hct, hsp, decide_eq_true h32]
            simp
          · rw [decide_eq_false h32, cond_false, hpl]
            simp [unitS, hct, hsp, h32]
        · rw [decide_eq_false hb, cond_false, hpl]
          simp [unitS, hct, hsp]
theorem escape_eq {N : Nat} {s : List UInt8} (hs : s.length ≤ 1000000) (hN : s.length < N) : dn_Escape N s = some (escS true s) := by
  unfold dn_Escape
  cases s with
  | nil => rfl
  | cons c b =>
    have hu0 : ∀ l c, unitS true l c ≠ [] := by
      intro l c; unfold unitS; split; simp; split <;> simp
    have hfin : ∀ o : List UInt8, o ≠ [] → o.length ≤ 3 → dn_Escape_j15 (c :: b) N o = some (o ++ escS false b) := by
      intro o h0 ho
      unfold dn_Escape_j15
      have := esc_loop N b [c] o N (by simp) (by simpa using hs) (by simp at hN; omega) (by simp; omega)
      simp only [List.cons_append, List.nil_append, List.length_cons, List.length_nil, Nat.zero_add] at this
      have he := escS_len b false
      rw [show ((1 : Int)) = ((1 : Nat) : Int) from rfl, this, Option.bind_some, bldS_ok (by simp [h0]) (by simp at hs ⊢; omega), Option.bind_some]
    have hend := atEnd [] b c hs
    simp only [List.nil_append, List.length_nil] at hend
    have hch := chk_mid [] b c
    simp only [List.nil_append, List.length_nil] at hch
    rw [decide_eq_true (by simp), cond_true, show ((0 : Int)) = ((0 : Nat) : Int) from rfl, hch, Option.bind_some, hend]
    simp only [List.getElem?_cons_zero, Option.bind_some]
    rw [ctl_c, Option.bind_some, is35, is32, escS]
    unfold strings_IndexByte dn_Escape_j33p
    rw [Option.bind_some, show decide (Lib.indexByte ([44, 43, 34, 92, 60, 62, 59] : List UInt8) c ≥ ((0 : Nat) : Int)) = spc c from rfl]
    rw [hx_A, hx_B]
    simp only [Option.bind_some]
    have a1 : ∀ x : List UInt8, x.length ≤ 2 → ∀ y, appL 1 x [y] = some (x ++ [y]) := fun x hx y => appL_ok (by simp; omega)
    rw [a1 [] (by simp), a1 [] (by simp)]
    simp only [Option.bind_some, List.nil_append]
    rw [a1 [92] (by simp), a1 [92] (by simp)]
    simp only [Option.bind_some, List.cons_append, List.nil_append]
    rw [a1 [92, hxA c] (by simp)]
    simp only [Option.bind_some, List.cons_append, List.nil_append]
    rw [hfin [92, hxA c, hxB c] (by simp) (by simp), hfin [92, c] (by simp) (by simp), hfin [c] (by simp) (by simp)]
    rw [unitS_b]
    generalize decide (c = 35) = p
    generalize decide (c = 32) = q
    generalize decide (b = []) = r
    cases ctl c <;> cases spc c <;> cases p <;> cases q <;> cases r <;> rfl
theorem hex_eq (N : Nat) (c : UInt8) : prefectref4_hex N c = some [hxA c, hxB c] := by
  have := u8_all (p := fun c => prefectref4_hex 0 c == some [hxA c, hxB c]) (by decide +kernel) c
  have h : prefectref4_hex 0 c = some [hxA c, hxB c] := by simpa using this
  exact h
theorem value_loop (N : Nat) : ∀ (b a out : List UInt8) (n : Nat), (a ++ b).length ≤ 1000000 → b.length < n → out.length ≤ 3 * a.length →
    prefectref4_value_l8 N (a ++ b) n (out, (a.length : Int)) = some (out ++ escS (decide (a = [])) b) := by
  intro b
  induction b with
  | nil =>
    intro a out n hs hn ho
    obtain ⟨n, rfl, _⟩ := fuel hn
    simp only [prefectref4_value_l8, prefectref4_value_l8_b]
    rw [len_end, cond_false]; simp [escS]
  | cons c b ih =>
    intro a out n hs hn ho
    obtain ⟨n, rfl, hn'⟩ := fuel hn
    have hal : (a ++ c :: b).length = a.length + b.length + 1 := by simp; omega
    have hnx : ∀ o : List UInt8, o.length ≤ 3 * a.length + 3 → prefectref4_value_l8 N (a ++ c :: b) n (o, ((a ++ [c]).length : Int)) = some (o ++ escS false b) := by
      intro o ho'
      have := ih (a ++ [c]) o n (by simpa using hs) hn' (by simp; omega)
      rw [← app_mid, decide_eq_false (show ¬ (a ++ [c] = []) by simp)] at this
      exact this
    have hc1 : cutL (a ++ c :: b) (a.length : Int) (((a ++ [c]).length : Nat) : Int) = some [c] := by
      rw [cutL_nat (by simp) (by simp)]
      have : (a ++ c :: b).take (a ++ [c]).length = a ++ [c] := by rw [app_mid a b c, List.take_left' rfl]
      rw [this, List.drop_left' rfl]
    simp only [prefectref4_value_l8, prefectref4_value_l8_b, prefectref4_value_j15]
    rw [len_mid, cond_true, idx_mid, Option.bind_some, special_eq, Option.bind_some, ctl_c, suc_mid (a := a) (b := b) (x := c) (by omega), atEnd a b c hs, at0, is32, is35, escS, hc1, hex_eq]
    simp only [Option.bind_some]
    rw [catS_ok (by simp; omega), catS_ok (by simp; omega)]
    simp only [Option.bind_some]
    rw [catS_ok (by simp; omega), catS_ok (by simp; omega)]
    simp only [Option.bind_some]
    rw [hnx _ (by simp; omega), hnx _ (by simp; omega), hnx _ (by simp; omega)]
    rw [unitS_b]
    cases hct : ctl c with
    | true =>
      obtain ⟨h1, h2, h3⟩ := ctl_spc c hct
      rw [h1, decide_eq_false h2, decide_eq_false h3]
      cases decide (a = []) <;> cases decide (b = []) <;> simp
    | false =>
      generalize decide (c = 35) = p
      generalize decide (c = 32) = q
      generalize decide (b = []) = r
      generalize decide (a = []) = t
      cases spc c <;> cases p <;> cases q <;> cases r <;> cases t <;> simp
theorem value_eq {N : Nat} {s : List UInt8} (hs : s.length ≤ 1000000) (hN : s.length < N) : prefectref4_value N s = some (escS true s) := by
  unfold prefectref4_value
  have := value_loop N s [] [] N (by simpa using hs) hN (by simp)
  simp only [List.nil_append, List.length_nil, decide_true] at this
  rw [show ((0 : Int)) = ((0 : Nat) : Int) from rfl, this]
  rfl
end Go.Gp
end
section
set_option linter.unusedVariables false
set_option linter.unusedSimpArgs false
namespace Go.Gp
open Go.Vd
theorem isF_loop (N : Nat) (hN : N ≤ 9223372036854775808) (h5 : 5 < N) : ∀ (b a : List (List api_AVA)) (n : Nat), (a ++ b).length < N → b.length < n → (∀ r ∈ b, r.length < N ∧ ∀ x ∈ r, okA N x) →
    ∃ i : Nat, slices_IndexFunc_api_DN_api_RDN_c_dn_Is_1_l6 N (a ++ b) n (a.length : Int) = some (bif b.all isRDNS then .inl () else .inr (i : Int)) := by
  intro b
  induction b with
  | nil =>
    intro a n hs hn _
    obtain ⟨n, rfl, _⟩ := fuel hn
    simp only [slices_IndexFunc_api_DN_api_RDN_c_dn_Is_1_l6, slices_IndexFunc_api_DN_api_RDN_c_dn_Is_1_l6_b]
    rw [len_end, cond_false]; exact ⟨0, rfl⟩
  | cons x b ih =>
    intro a n hs hn hok
    obtain ⟨n, rfl, hn'⟩ := fuel hn
    obtain ⟨i, hi⟩ := ih (a ++ [x]) n (by simpa using hs) hn' (fun y hy => hok y (List.mem_cons_of_mem _ hy))
    rw [← app_mid] at hi
    have hx := hok x List.mem_cons_self
    simp only [slices_IndexFunc_api_DN_api_RDN_c_dn_Is_1_l6, slices_IndexFunc_api_DN_api_RDN_c_dn_Is_1_l6_b, dn_Is_1]
    rw [len_mid, cond_true, idx_mid, Option.bind_some, isRDN_eq hN h5 hx.1 hx.2, suc_mid (a := a) (b := b) (x := x) (by omega), hi, List.all_cons]
    cases isRDNS x
    · exact ⟨a.length, rfl⟩
    · exact ⟨i, rfl⟩
theorem is_eq {N : Nat} {d : List (List api_AVA)} (hN : N ≤ 9223372036854775808) (h5 : 5 < N) (hd : d.length < N) (hok : ∀ r ∈ d, r.length < N ∧ ∀ x ∈ r, okA N x) : dn_Is N d = some (isS d) := by
  unfold dn_Is slices_ContainsFunc_api_DN_api_RDN_c_dn_Is_1 slices_IndexFunc_api_DN_api_RDN_c_dn_Is_1 isS
  obtain ⟨i, h⟩ := isF_loop N hN h5 d [] N (by simpa using hd) hd hok
  simp only [List.nil_append, List.length_nil] at h
  rw [show ((0 : Int)) = ((0 : Nat) : Int) from rfl, h]
  have h1 : decide ((d.length : Int) ≤ 8) = decide (d.length ≤ 8) := by rw [Bool.eq_iff_iff]; simp; omega
  rw [h1]
  cases decide (d.length ≤ 8)
  · rfl
  · cases d.all isRDNS
    · simp [Option.bind]
    · rfl
end Go.Gp
end
