/- A part of the proof: functions of the program and what they compute. -/
import Derived.Test.YtbndinjjpafmjaaA16
section
set_option linter.unusedVariables false
set_option linter.unusedSimpArgs false
namespace Go.Gp
open Go.Vd
def cat1 (sep : UInt8) : List (List UInt8) → List UInt8
  | [] => []
  | x :: xs => x ++ xs.flatMap (sep :: ·)
theorem join_cat1 (sep : UInt8) : ∀ l : List (List UInt8), Lib.join l [sep] = cat1 sep l
  | [] => rfl
  | [x] => by simp [Lib.join, cat1, List.intercalate]
  | x :: y :: xs => by
    have ih := join_cat1 sep (y :: xs)
    simp only [Lib.join, List.intercalate, List.intersperse_cons_cons, List.flatten_cons] at ih ⊢
    rw [ih]
    simp [cat1]
def avaT (a : api_AVA) : List UInt8 := a.Attr ++ 61 :: escS true a.Value
def rdnT (r : List api_AVA) : List UInt8 := cat1 43 (r.map avaT)
def dnT (d : List (List api_AVA)) : List UInt8 := cat1 44 (d.map rdnT)
def smA (a : api_AVA) : Prop := a.Attr.length ≤ 1000 ∧ a.Value.length ≤ 1000
def smR (r : List api_AVA) : Prop := r.length ≤ 1000 ∧ ∀ a ∈ r, smA a
theorem flat_len {α : Type} (f : α → List UInt8) (k : Nat) : ∀ l : List α, (∀ x ∈ l, (f x).length ≤ k) → (l.flatMap f).length ≤ l.length * k
  | [], _ => by simp
  | x :: l, h => by
    have := flat_len f k l fun y hy => h y (List.mem_cons_of_mem _ hy)
    have h1 := h x List.mem_cons_self
    rw [List.flatMap_cons, List.length_append, List.length_cons, Nat.add_mul]; omega
theorem cat1_len (sep : UInt8) (k : Nat) (l : List (List UInt8)) (h : ∀ x ∈ l, x.length ≤ k) : (cat1 sep l).length ≤ l.length * (k + 1) := by
  cases l with
  | nil => simp [cat1]
  | cons x l =>
    have h1 := h x List.mem_cons_self
    have h2 := flat_len (sep :: ·) (k + 1) l (fun y hy => by have := h y (List.mem_cons_of_mem _ hy); simp; omega)
    rw [cat1, List.length_append, List.length_cons, Nat.add_mul]; omega
theorem avaT_len {a : api_AVA} (h : smA a) : (avaT a).length ≤ 4001 := by
  have := escS_len a.Value true
  have h1 := h.1
  have h2 := h.2
  unfold avaT
  rw [List.length_append, List.length_cons]; omega
theorem rdnT_len {r : List api_AVA} (h : smR r) : (rdnT r).length ≤ 4002000 := by
  have := cat1_len 43 4001 (r.map avaT) (fun x hx => by obtain ⟨a, ha, rfl⟩ := List.mem_map.1 hx; exact avaT_len (h.2 a ha))
  have h1 := h.1
  unfold rdnT
  rw [List.length_map] at this
  omega
theorem sjoin_eq (N : Nat) (l : List (List UInt8)) (sep : UInt8) (h1 : l.length ≤ 1000000) (h2 : (cat1 sep l).length ≤ 140737488355328) : strings_Join N l [sep] = some (cat1 sep l) := by
  unfold strings_Join
  rw [join_cat1, if_pos ⟨by omega, h2⟩]
theorem join_loop (N : Nat) (hN : 1000 < N) : ∀ (b a : List api_AVA) (out : List (List UInt8)) (n : Nat), (a ++ b).length ≤ 1000 → b.length < n → out.length = a.length → (∀ x ∈ b, smA x) →
    dn_Join_l8 N (a ++ b) n ((a.length : Int), out) = some (out ++ b.map avaT) := by
  intro b
  induction b with
  | nil =>
    intro a out n hs hn ho _
    obtain ⟨n, rfl, _⟩ := fuel hn
    simp only [dn_Join_l8, dn_Join_l8_b]
    rw [len_end, cond_false]; simp
  | cons x b ih =>
    intro a out n hs hn ho hp
    obtain ⟨n, rfl, hn'⟩ := fuel hn
    have hal : (a ++ x :: b).length = a.length + b.length + 1 := by simp; omega
    have hx := hp x List.mem_cons_self
    have hx1 := hx.1
    have hx2 := hx.2
    have hel := escS_len x.Value true
    simp only [dn_Join_l8, dn_Join_l8_b]
    rw [len_mid, cond_true, idx_mid, Option.bind_some, catS_ok (by simp; omega), Option.bind_some, escape_eq (by omega) (by omega), Option.bind_some, catS_ok (by simp; omega), Option.bind_some, appL_ok (by simp; omega), Option.bind_some, suc_mid (a := a) (b := b) (x := x) (by omega)]
    have := ih (a ++ [x]) (out ++ [x.Attr ++ [61] ++ escS true x.Value]) n (by simpa using hs) hn' (by simp [ho]) (fun q hq => hp q (List.mem_cons_of_mem _ hq))
    rw [← app_mid] at this
    rw [this]
    simp [avaT]
theorem pjoin_eq {N : Nat} {r : List api_AVA} (hN : 1000 < N) (h : smR r) : dn_Join N r = some (rdnT r) := by
  unfold dn_Join
  have := join_loop N hN r [] [] N (by simpa using h.1) (by have := h.1; omega) rfl h.2
  simp only [List.nil_append, List.length_nil] at this
  have hl := rdnT_len h
  have h1 := h.1
  rw [show ((0 : Int)) = ((0 : Nat) : Int) from rfl, this, Option.bind_some, sjoin_eq N _ 43 (by simp; omega) (by unfold rdnT at hl; omega)]
  rfl
theorem print_loop (N : Nat) (hN : 1000 < N) : ∀ (b a : List (List api_AVA)) (out : List (List UInt8)) (n : Nat), (a ++ b).length ≤ 1000 → b.length < n → out.length = a.length → (∀ x ∈ b, smR x) →
    dn_Print_l16 N (a ++ b) n ((a.length : Int), out) = some (out ++ b.map rdnT) := by
  intro b
  induction b with
  | nil =>
    intro a out n hs hn ho _
    obtain ⟨n, rfl, _⟩ := fuel hn
    simp only [dn_Print_l16, dn_Print_l16_b]
    rw [len_end, cond_false]; simp
  | cons x b ih =>
    intro a out n hs hn ho hp
    obtain ⟨n, rfl, hn'⟩ := fuel hn
    have hal : (a ++ x :: b).length = a.length + b.length + 1 := by simp; omega
    have hx := hp x List.mem_cons_self
    simp only [dn_Print_l16, dn_Print_l16_b]
    rw [len_mid, cond_true, idx_mid, Option.bind_some, pjoin_eq hN hx, Option.bind_some, appL_ok (by simp; omega), Option.bind_some, suc_mid (a := a) (b := b) (x := x) (by omega)]
    have := ih (a ++ [x]) (out ++ [rdnT x]) n (by simpa using hs) hn' (by simp [ho]) (fun q hq => hp q (List.mem_cons_of_mem _ hq))
    rw [← app_mid] at this
    rw [this]
    simp
theorem smR_ok {N : Nat} {r : List api_AVA} (hN : 2000000 < N) (h : smR r) : r.length < N ∧ ∀ x ∈ r, okA N x :=
  ⟨by have := h.1; omega, fun x hx => ⟨by have := (h.2 x hx).1; omega, by have := (h.2 x hx).2; omega⟩⟩
theorem dnT_len {d : List (List api_AVA)} (hl : d.length ≤ 1000) (h : ∀ r ∈ d, smR r) : (dnT d).length ≤ 4002001000 := by
  have := cat1_len 44 4002000 (d.map rdnT) (fun x hx => by obtain ⟨a, ha, rfl⟩ := List.mem_map.1 hx; exact rdnT_len (h a ha))
  unfold dnT
  rw [List.length_map] at this
  omega
theorem print_eq {N : Nat} {d : List (List api_AVA)} (hN : 2000000 < N) (hN2 : N ≤ 9223372036854775808) (hl : d.length ≤ 1000) (h : ∀ r ∈ d, smR r) : dn_Print N d = some (if isS d then dnT d else []) := by
  unfold dn_Print
  rw [is_eq hN2 (by omega) (by omega) (fun r hr => smR_ok hN (h r hr)), Option.bind_some]
  have := print_loop N (by omega) d [] [] N (by simpa using hl) (by omega) rfl h
  simp only [List.nil_append, List.length_nil] at this
  have hdl := dnT_len hl h
  rw [show ((0 : Int)) = ((0 : Nat) : Int) from rfl, this, Option.bind_some, sjoin_eq N _ 44 (by simp; omega) (by unfold dnT at hdl; omega), Option.bind_some]
  cases isS d <;> rfl
theorem printRDN_eq {N : Nat} {r : List api_AVA} (hN : 2000000 < N) (hN2 : N ≤ 9223372036854775808) (h : smR r) : dn_PrintRDN N r = some (if isRDNS r then rdnT r else []) := by
  unfold dn_PrintRDN
  rw [isRDN_eq hN2 (by omega) (smR_ok hN h).1 (smR_ok hN h).2, Option.bind_some, pjoin_eq (by omega) h]
  cases isRDNS r <;> rfl
theorem at0' {α : Type} (a : List α) : decide ((a.length : Int) > (0 : Int)) = !decide (a = []) := by
  rw [Bool.eq_iff_iff]; cases a <;> simp
theorem rjoin_loop (N : Nat) (hN : 1000 < N) : ∀ (b a : List api_AVA) (out : List UInt8) (n : Nat), (a ++ b).length ≤ 1000 → b.length < n → out.length ≤ a.length * 5000 → (∀ x ∈ b, smA x) →
    prefectref4_PrintRDN_l8 N (a ++ b) n (out, (a.length : Int)) = some (out ++ if a = [] then cat1 43 (b.map avaT) else (b.map avaT).flatMap (43 :: ·)) := by
  intro b
  induction b with
  | nil =>
    intro a out n hs hn ho _
    obtain ⟨n, rfl, _⟩ := fuel hn
    simp only [prefectref4_PrintRDN_l8, prefectref4_PrintRDN_l8_b]
    rw [len_end, cond_false]; simp [cat1]
  | cons x b ih =>
    intro a out n hs hn ho hp
    obtain ⟨n, rfl, hn'⟩ := fuel hn
    have hal : (a ++ x :: b).length = a.length + b.length + 1 := by simp; omega
    have hx := hp x List.mem_cons_self
    have hx1 := hx.1
    have hx2 := hx.2
    have hel := escS_len x.Value true
    have hol : out.length ≤ 5000000 := by have := Nat.mul_le_mul_right 5000 (show a.length ≤ 1000 by omega); omega
    have hrest : ∀ o : List UInt8, o.length ≤ a.length * 5000 + 1 → prefectref4_PrintRDN_j17 (a ++ x :: b) N (a.length : Int) (prefectref4_PrintRDN_l8 N (a ++ x :: b) n) o = some (o ++ avaT x ++ (b.map avaT).flatMap (43 :: ·)) := by
      intro o ho'
      unfold prefectref4_PrintRDN_j17
      rw [idx_mid, Option.bind_some, catS_ok (by omega), Option.bind_some, catS_ok (by simp; omega), Option.bind_some, Option.bind_some, value_eq (by omega) (by omega), Option.bind_some, catS_ok (by simp; omega), Option.bind_some, suc_mid (a := a) (b := b) (x := x) (by omega)]
      have := ih (a ++ [x]) (o ++ x.Attr ++ [61] ++ escS true x.Value) n (by simpa using hs) hn' (by simp; omega) (fun q hq => hp q (List.mem_cons_of_mem _ hq))
      rw [← app_mid, if_neg (by simp)] at this
      rw [this]
      simp [avaT]
    simp only [prefectref4_PrintRDN_l8, prefectref4_PrintRDN_l8_b]
    rw [len_mid, cond_true, at0']
    by_cases ha : a = []
    · subst ha
      rw [decide_eq_true rfl, Bool.not_true, cond_false, hrest _ (by omega), if_pos rfl]
      simp [cat1]
    · rw [decide_eq_false ha, Bool.not_false, cond_true, catS_ok (by simp; omega), Option.bind_some, hrest _ (by simp; omega), if_neg ha]
      simp
theorem rprintRDN_eq {N : Nat} {r : List api_AVA} (hN : 1000 < N) (h : smR r) : prefectref4_PrintRDN N r = some (rdnT r) := by
  unfold prefectref4_PrintRDN
  have := rjoin_loop N hN r [] [] N (by simpa using h.1) (by have := h.1; omega) (by simp) h.2
  simp only [List.nil_append, List.length_nil, if_true] at this
  rw [show ((0 : Int)) = ((0 : Nat) : Int) from rfl, this]
  rfl
theorem rprint_loop (N : Nat) (hN : 1000 < N) : ∀ (b a : List (List api_AVA)) (out : List UInt8) (n : Nat), (a ++ b).length ≤ 1000 → b.length < n → out.length ≤ a.length * 5000000 → (∀ x ∈ b, smR x) →
    prefectref4_Print_l8 N (a ++ b) n (out, (a.length : Int)) = some (out ++ if a = [] then cat1 44 (b.map rdnT) else (b.map rdnT).flatMap (44 :: ·)) := by
  intro b
  induction b with
  | nil =>
    intro a out n hs hn ho _
    obtain ⟨n, rfl, _⟩ := fuel hn
    simp only [prefectref4_Print_l8, prefectref4_Print_l8_b]
    rw [len_end, cond_false]; simp [cat1]
  | cons x b ih =>
    intro a out n hs hn ho hp
    obtain ⟨n, rfl, hn'⟩ := fuel hn
    have hal : (a ++ x :: b).length = a.length + b.length + 1 := by simp; omega
    have hx := hp x List.mem_cons_self
    have hrl := rdnT_len hx
    have hol : out.length ≤ 5000000000 := by have := Nat.mul_le_mul_right 5000000 (show a.length ≤ 1000 by omega); omega
    have hrest : ∀ o : List UInt8, o.length ≤ a.length * 5000000 + 1 → prefectref4_Print_j17 (a ++ x :: b) N (a.length : Int) (prefectref4_Print_l8 N (a ++ x :: b) n) o = some (o ++ rdnT x ++ (b.map rdnT).flatMap (44 :: ·)) := by
      intro o ho'
      unfold prefectref4_Print_j17
      rw [idx_mid, Option.bind_some, rprintRDN_eq hN hx, Option.bind_some, catS_ok (by omega), Option.bind_some, suc_mid (a := a) (b := b) (x := x) (by omega)]
      have := ih (a ++ [x]) (o ++ rdnT x) n (by simpa using hs) hn' (by simp; omega) (fun q hq => hp q (List.mem_cons_of_mem _ hq))
      rw [← app_mid, if_neg (by simp)] at this
      rw [this]
    simp only [prefectref4_Print_l8, prefectref4_Print_l8_b]
    rw [len_mid, cond_true, at0']
    by_cases ha : a = []
    · subst ha
      rw [decide_eq_true rfl, Bool.not_true, cond_false, hrest _ (by omega), if_pos rfl]
      simp [cat1]
    · rw [decide_eq_false ha, Bool.not_false, cond_true, catS_ok (by simp; omega), Option.bind_some, hrest _ (by simp; omega), if_neg ha]
      simp
theorem rprint_eq {N : Nat} {d : List (List api_AVA)} (hN : 1000 < N) (hl : d.length ≤ 1000) (h : ∀ r ∈ d, smR r) : prefectref4_Print N d = some (dnT d) := by
  unfold prefectref4_Print
  have := rprint_loop N hN d [] [] N (by simpa using hl) (by omega) (by simp) h
  simp only [List.nil_append, List.length_nil, if_true] at this
  rw [show ((0 : Int)) = ((0 : Nat) : Int) from rfl, this]
  rfl
theorem sameR_loop (N : Nat) : ∀ (b a : List api_AVA) (n : Nat), (a ++ b).length ≤ 1000002 → b.length < n → prefectref4_SameRDN_l14 N (a ++ b) (a ++ b) n (a.length : Int) = some (.inl ()) := by
  intro b
  induction b with
  | nil =>
    intro a n hs hn
    obtain ⟨n, rfl, _⟩ := fuel hn
    simp only [prefectref4_SameRDN_l14, prefectref4_SameRDN_l14_b]
    rw [len_end, cond_false]
  | cons x b ih =>
    intro a n hs hn
    obtain ⟨n, rfl, hn'⟩ := fuel hn
    simp only [prefectref4_SameRDN_l14, prefectref4_SameRDN_l14_b]
    rw [len_mid, cond_true, idx_mid, Option.bind_some, Option.bind_some, suc_mid (a := a) (b := b) (x := x) (by omega)]
    have := ih (a ++ [x]) n (by simpa using hs) hn'
    rw [← app_mid] at this
    rw [this]
    simp
theorem sameR_eq {N : Nat} {r : List api_AVA} (hr : r.length ≤ 1000002) (hN : 2000000 < N) : prefectref4_SameRDN N r r = some true := by
  unfold prefectref4_SameRDN
  have := sameR_loop N r [] N (by simpa using hr) (by omega)
  simp only [List.nil_append, List.length_nil] at this
  rw [show ((0 : Int)) = ((0 : Nat) : Int) from rfl, this]
  simp [bne, Option.bind]
theorem same_loop (N : Nat) (hN : 2000000 < N) : ∀ (b a : List (List api_AVA)) (n : Nat), (a ++ b).length ≤ 1000002 → b.length < n → (∀ r ∈ b, r.length ≤ 1000002) → prefectlaw4_same_l14 N (a ++ b) (a ++ b) n (a.length : Int) = some (.inl ()) := by
  intro b
  induction b with
  | nil =>
    intro a n hs hn _
    obtain ⟨n, rfl, _⟩ := fuel hn
    simp only [prefectlaw4_same_l14, prefectlaw4_same_l14_b]
    rw [len_end, cond_false]
  | cons x b ih =>
    intro a n hs hn hr
    obtain ⟨n, rfl, hn'⟩ := fuel hn
    simp only [prefectlaw4_same_l14, prefectlaw4_same_l14_b]
    rw [len_mid, cond_true, idx_mid, Option.bind_some, Option.bind_some, sameR_eq (hr x List.mem_cons_self) hN, Option.bind_some, suc_mid (a := a) (b := b) (x := x) (by omega)]
    have := ih (a ++ [x]) n (by simpa using hs) hn' (fun q hq => hr q (List.mem_cons_of_mem _ hq))
    rw [← app_mid] at this
    rw [this]
    rfl
theorem same_eq {N : Nat} {d : List (List api_AVA)} (hd : d.length ≤ 1000002) (hr : ∀ r ∈ d, r.length ≤ 1000002) (hN : 2000000 < N) : prefectlaw4_same N d d = some true := by
  unfold prefectlaw4_same
  have := same_loop N hN d [] N (by simpa using hd) (by omega) hr
  simp only [List.nil_append, List.length_nil] at this
  rw [show ((0 : Int)) = ((0 : Nat) : Int) from rfl, this]
  simp [bne, Option.bind]
def fewA (a : api_AVA) : Bool := decide (a.Attr.length ≤ 30) && decide (a.Value.length ≤ 80)
def fewRS (r : List api_AVA) : Bool := r.all fewA && decide (r.length ≤ 6)
def fewS (d : List (List api_AVA)) : Bool := d.all fewRS && decide (d.length ≤ 12)
theorem fewR_loop (N : Nat) : ∀ (b a : List api_AVA) (n : Nat), (a ++ b).length ≤ 9223372036854775807 → b.length < n → prefectlaw4_fewRDN_l6 N (a ++ b) n (a.length : Int) = some (bif b.all fewA then .inl () else .inr false) := by
  intro b
  induction b with
  | nil =>
    intro a n hs hn
    obtain ⟨n, rfl, _⟩ := fuel hn
    simp only [prefectlaw4_fewRDN_l6, prefectlaw4_fewRDN_l6_b]
    rw [len_end, cond_false]; rfl
  | cons x b ih =>
    intro a n hs hn
    obtain ⟨n, rfl, hn'⟩ := fuel hn
    simp only [prefectlaw4_fewRDN_l6, prefectlaw4_fewRDN_l6_b]
    rw [len_mid, cond_true, idx_mid, Option.bind_some, Option.bind_some, suc_mid hs]
    have := ih (a ++ [x]) n (by simpa using hs) hn'
    rw [← app_mid] at this
    rw [this, List.all_cons, fewA, show decide ((x.Attr.length : Int) > 30) = !decide (x.Attr.length ≤ 30) by rw [Bool.eq_iff_iff]; simp; omega, show decide ((x.Value.length : Int) > 80) = !decide (x.Value.length ≤ 80) by rw [Bool.eq_iff_iff]; simp; omega]
    cases decide (x.Attr.length ≤ 30) <;> cases decide (x.Value.length ≤ 80) <;> rfl
theorem fewR_eq {N : Nat} {r : List api_AVA} (hr : r.length < N) (hN2 : N ≤ 9223372036854775808) : prefectlaw4_fewRDN N r = some (fewRS r) := by
  unfold prefectlaw4_fewRDN fewRS
  have := fewR_loop N r [] N (by simp; omega) hr
  simp only [List.nil_append, List.length_nil] at this
  rw [show ((0 : Int)) = ((0 : Nat) : Int) from rfl, this, show decide ((r.length : Int) ≤ 6) = decide (r.length ≤ 6) by rw [Bool.eq_iff_iff]; simp; omega]
  cases r.all fewA <;> rfl
theorem few_loop (N : Nat) (hN2 : N ≤ 9223372036854775808) : ∀ (b a : List (List api_AVA)) (n : Nat), (a ++ b).length ≤ 9223372036854775807 → b.length < n → (∀ r ∈ b, r.length < N) → prefectlaw4_few_l6 N (a ++ b) n (a.length : Int) = some (bif b.all fewRS then .inl () else .inr false) := by
  intro b
  induction b with
  | nil =>
    intro a n hs hn _
    obtain ⟨n, rfl, _⟩ := fuel hn
    simp only [prefectlaw4_few_l6, prefectlaw4_few_l6_b]
    rw [len_end, cond_false]; rfl
  | cons x b ih =>
    intro a n hs hn hr
    obtain ⟨n, rfl, hn'⟩ := fuel hn
    simp only [prefectlaw4_few_l6, prefectlaw4_few_l6_b]
    rw [len_mid, cond_true, idx_mid, Option.bind_some, fewR_eq (hr x List.mem_cons_self) hN2, Option.bind_some, suc_mid hs]
    have := ih (a ++ [x]) n (by simpa using hs) hn' (fun q hq => hr q (List.mem_cons_of_mem _ hq))
    rw [← app_mid] at this
    rw [this, List.all_cons]
    cases fewRS x <;> rfl
theorem few_eq {N : Nat} {d : List (List api_AVA)} (hd : d.length < N) (hr : ∀ r ∈ d, r.length < N) (hN2 : N ≤ 9223372036854775808) : prefectlaw4_few N d = some (fewS d) := by
  unfold prefectlaw4_few fewS
  have := few_loop N hN2 d [] N (by simp; omega) hd hr
  simp only [List.nil_append, List.length_nil] at this
  rw [show ((0 : Int)) = ((0 : Nat) : Int) from rfl, this, show decide ((d.length : Int) ≤ 12) = decide (d.length ≤ 12) by rw [Bool.eq_iff_iff]; simp; omega]
  cases d.all fewRS <;> rfl
theorem few_smR {r : List api_AVA} (h : fewRS r = true) : smR r := by
  unfold fewRS at h
  simp only [Bool.and_eq_true, decide_eq_true_eq, List.all_eq_true] at h
  refine ⟨by omega, fun a ha => ?_⟩
  have := h.1 a ha
  unfold fewA at this
  simp only [Bool.and_eq_true, decide_eq_true_eq] at this
  exact ⟨by omega, by omega⟩
theorem few_sm {d : List (List api_AVA)} (h : fewS d = true) : d.length ≤ 12 ∧ ∀ r ∈ d, smR r := by
  unfold fewS at h
  simp only [Bool.and_eq_true, decide_eq_true_eq, List.all_eq_true] at h
  exact ⟨h.2, fun r hr => few_smR (h.1 r hr)⟩
theorem known_big : prefectlaw4_known 9223372036854775808 = some true := by decide +kernel
end Go.Gp
end
section
set_option linter.unusedVariables false
set_option linter.unusedSimpArgs false
namespace Go.Gp
open Go.Vd
theorem law_prefectlaw4_NameTells (a0 : List (List api_AVA)) (a1 : List api_AVA) (a2 : List UInt8) (h0 : a0.length ≤ maxLen ∧ ∀ y0 ∈ a0, (y0.length ≤ maxLen ∧ ∀ y1 ∈ y0, b_api_AVA y1)) (h1 : a1.length ≤ maxLen ∧ ∀ y0 ∈ a1, b_api_AVA y0) (h2 : a2.length ≤ maxLen) :
    ∃ N, prefectlaw4_NameTells N a0 a1 a2 = some true := by
  refine ⟨9223372036854775808, ?_⟩
  have hmx : maxLen = 9223372036854775807 := rfl
  rw [hmx] at h0 h1 h2
  unfold prefectlaw4_NameTells
  rw [known_big, Option.bind_some]
  simp only [Bool.not_true, cond_false]
  rw [few_eq (by omega) (fun r hr => by have := (h0.2 r hr).1; omega) (Nat.le_refl _), Option.bind_some, fewR_eq (by omega) (Nat.le_refl _), Option.bind_some]
  cases hf : fewS a0 with
  | false => rfl
  | true =>
    cases hg : fewRS a1 with
    | false => rfl
    | true =>
      simp only [Bool.not_true, cond_false, Option.bind_some]
      by_cases hs : a2.length ≤ 400
      case neg => rw [decide_eq_true (by omega)]; rfl
      rw [decide_eq_false (by omega), cond_false]
      obtain ⟨hd, hsm⟩ := few_sm hf
      have hrm := few_smR hg
      rw [rIs_eq (Nat.le_refl _) (by omega) (fun r hr => smR_ok (by omega) (hsm r hr)), Option.bind_some]
      have e1 : (bif isS a0 then Option.bind (prefectref4_Print 9223372036854775808 a0) (fun (x35 : List UInt8) => prefectlaw4_NameTells_j20 a0 a1 a2 9223372036854775808 x35) else prefectlaw4_NameTells_j20 a0 a1 a2 9223372036854775808 ([] : List UInt8)) = prefectlaw4_NameTells_j20 a0 a1 a2 9223372036854775808 (if isS a0 then dnT a0 else []) := by
        rw [rprint_eq (by omega) (by omega) hsm]
        cases isS a0 <;> rfl
      rw [e1]
      unfold prefectlaw4_NameTells_j20
      rw [rIsRDN_eq (Nat.le_refl _) (smR_ok (by omega) hrm).1 (smR_ok (by omega) hrm).2, Option.bind_some]
      have e2 : ∀ w, (bif isRDNS a1 then Option.bind (prefectref4_PrintRDN 9223372036854775808 a1) (fun (x39 : List UInt8) => prefectlaw4_NameTells_j26 a0 a1 a2 9223372036854775808 w x39) else prefectlaw4_NameTells_j26 a0 a1 a2 9223372036854775808 w ([] : List UInt8)) = prefectlaw4_NameTells_j26 a0 a1 a2 9223372036854775808 w (if isRDNS a1 then rdnT a1 else []) := by
        intro w
        rw [rprintRDN_eq (by omega) hrm]
        cases isRDNS a1 <;> rfl
      rw [e2]
      unfold prefectlaw4_NameTells_j26
      rw [parse_eq (by omega) (by omega) (Nat.le_refl _), rparse_eq (by omega) (by omega) (Nat.le_refl _), parseRDN_eq (by omega) (by omega) (Nat.le_refl _), rparseRDN_eq (by omega) (by omega) (Nat.le_refl _), rdn_same]
      rw [is_eq (Nat.le_refl _) (by omega) (by omega) (fun r hr => smR_ok (by omega) (hsm r hr)), rIs_eq (Nat.le_refl _) (by omega) (fun r hr => smR_ok (by omega) (hsm r hr)), isRDN_eq (Nat.le_refl _) (by omega) (smR_ok (by omega) hrm).1 (smR_ok (by omega) hrm).2, rIsRDN_eq (Nat.le_refl _) (smR_ok (by omega) hrm).1 (smR_ok (by omega) hrm).2,
        print_eq (by omega) (Nat.le_refl _) (by omega) hsm, printRDN_eq (by omega) (Nat.le_refl _) hrm, isType_eq (by omega) (by omega), risType_eq (by omega) (by omega), lower_eq (by omega) (by omega), rlower_eq (by omega) (by omega)]
      simp only [Option.bind_some, BEq.rfl, cond_true]
      have hN : nameP a2 = none ∨ ∃ d, nameP a2 = some d ∧ prefectlaw4_same 9223372036854775808 d d = some true := by
        cases hn : nameP a2 with
        | none => exact .inl rfl
        | some d =>
          refine .inr ⟨d, rfl, ?_⟩
          unfold nameP at hn
          split at hn
          · cases hn; rfl
          · rw [Option.bind_eq_some_iff] at hn
            obtain ⟨l, h3, h4⟩ := hn
            split at h4
            · cases h4
              obtain ⟨h5, h6⟩ := mapM_len h3
              obtain ⟨h7, h8⟩ := cutS_len 44 a2.length a2 (Nat.le_refl _)
              refine same_eq (by omega) (fun r hr => ?_) (by omega)
              obtain ⟨p, hp, hpr⟩ := h6 r hr
              have := (rdnP_ok (N := 2000001) hpr (by have := h8 p hp; omega) (by omega)).1
              have h9 := h8 p hp
              unfold rdnP at hpr
              rw [Option.bind_eq_some_iff] at hpr
              obtain ⟨q, h10, h11⟩ := hpr
              split at h11
              · cases h11
                have := (mapM_len h10).1
                have := (cutS_len 43 p.length p (Nat.le_refl _)).1
                omega
              · cases h11
            · cases h4
      have hR : rdnP a2 = none ∨ ∃ r, rdnP a2 = some r ∧ prefectref4_SameRDN 9223372036854775808 r r = some true := by
        cases hn : rdnP a2 with
        | none => exact .inl rfl
        | some r =>
          refine .inr ⟨r, rfl, ?_⟩
          unfold rdnP at hn
          rw [Option.bind_eq_some_iff] at hn
          obtain ⟨q, h10, h11⟩ := hn
          split at h11
          · cases h11
            have := (mapM_len h10).1
            have := (cutS_len 43 a2.length a2 (Nat.le_refl _)).1
            exact sameR_eq (by omega) (by omega)
          · cases h11
      have s0 : prefectlaw4_same 9223372036854775808 [] [] = some true := by decide +kernel
      have s1 : prefectref4_SameRDN 9223372036854775808 [] [] = some true := by decide +kernel
      rcases hN with hn | ⟨d, hn, hnd⟩
      · rcases hR with hr | ⟨r, hr, hrr⟩
        · rw [hn, hr]; simp only [s0, s1, Option.bind_some]; rfl
        · rw [hn, hr]; simp only [s0, hrr, Option.bind_some]; rfl
      · rcases hR with hr | ⟨r, hr, hrr⟩
        · rw [hn, hr]; simp only [hnd, s1, Option.bind_some]; rfl
        · rw [hn, hr]; simp only [hnd, hrr, Option.bind_some]; rfl
end Go.Gp
end
