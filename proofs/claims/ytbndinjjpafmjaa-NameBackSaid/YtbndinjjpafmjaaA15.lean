/- A part of the proof: functions of the program and what they compute. -/
import Derived.Test.YtbndinjjpafmjaaA14
section
set_option linter.unusedVariables false
set_option linter.unusedSimpArgs false
namespace Go.Gp
open Go.Vd
def cat1 (sep : UInt8) : List (List UInt8) → List UInt8
  | [] => []
  | x :: xs => x ++ xs.flatMap (sep :: ·)
theorem join_cat1 (sep : UInt8) : ∀ l : List (List UInt8), Lib.join l [sep] = cat1 sep l
  | [] => rfl
  | [x] => by simp [Lib.join, cat1, List.intercalate]
  | x :: y :: xs => by
    have ih := join_cat1 sep (y :: xs)
    simp only [Lib.join, List.intercalate, List.intersperse_cons_cons, List.flatten_cons] at ih ⊢
    rw [ih]
    simp [cat1]
def avaT (a : api_AVA) : List UInt8 := a.Attr ++ 61 :: escS true a.Value
def rdnT (r : List api_AVA) : List UInt8 := cat1 43 (r.map avaT)
def dnT (d : List (List api_AVA)) : List UInt8 := cat1 44 (d.map rdnT)
def smA (a : api_AVA) : Prop := a.Attr.length ≤ 1000 ∧ a.Value.length ≤ 1000
def smR (r : List api_AVA) : Prop := r.length ≤ 1000 ∧ ∀ a ∈ r, smA a
theorem flat_len {α : Type} (f : α → List UInt8) (k : Nat) : ∀ l : List α, (∀ x ∈ l, (f x).length ≤ k) → (l.flatMap f).length ≤ l.length * k
  | [], _ => by simp
  | x :: l, h => by
    have := flat_len f k l fun y hy => h y (List.mem_cons_of_mem _ hy)
    have h1 := h x List.mem_cons_self
    rw [List.flatMap_cons, List.length_append, List.length_cons, Nat.add_mul]; omega
theorem cat1_len (sep : UInt8) (k : Nat) (l : List (List UInt8)) (h : ∀ x ∈ l, x.length ≤ k) : (cat1 sep l).length ≤ l.length * (k + 1) := by
  cases l with
  | nil => simp [cat1]
  | cons x l =>
    have h1 := h x List.mem_cons_self
    have h2 := flat_len (sep :: ·) (k + 1) l (fun y hy => by have := h y (List.mem_cons_of_mem _ hy); simp; omega)
    rw [cat1, List.length_append, List.length_cons, Nat.add_mul]; omega
theorem avaT_len {a : api_AVA} (h : smA a) : (avaT a).length ≤ 4001 := by
  have := escS_len a.Value true
  have h1 := h.1
  have h2 := h.2
  unfold avaT
  rw [List.length_append, List.length_cons]; omega
theorem rdnT_len {r : List api_AVA} (h : smR r) : (rdnT r).length ≤ 4002000 := by
  have := cat1_len 43 4001 (r.map avaT) (fun x hx => by obtain ⟨a, ha, rfl⟩ := List.mem_map.1 hx; exact avaT_len (h.2 a ha))
  have h1 := h.1
  unfold rdnT
  rw [List.length_map] at this
  omega
theorem sjoin_eq (N : Nat) (l : List (List UInt8)) (sep : UInt8) (h1 : l.length ≤ 1000000) (h2 : (cat1 sep l).length ≤ 140737488355328) : strings_Join N l [sep] = some (cat1 sep l) := by
  unfold strings_Join
  rw [join_cat1, if_pos ⟨by omega, h2⟩]
theorem join_loop (N : Nat) (hN : 1000 < N) : ∀ (b a : List api_AVA) (out : List (List UInt8)) (n : Nat), (a ++ b).length ≤ 1000 → b.length < n → out.length = a.length → (∀ x ∈ b, smA x) →
    dn_Join_l8 N (a ++ b) n ((a.length : Int), out) = some (out ++ b.map avaT) := by
  intro b
  induction b with
  | nil =>
    intro a out n hs hn ho _
    obtain ⟨n, rfl, _⟩ := fuel hn
    simp only [dn_Join_l8, dn_Join_l8_b]
    rw [len_end, cond_false]; simp
  | cons x b ih =>
    intro a out n hs hn ho hp
    obtain ⟨n, rfl, hn'⟩ := fuel hn
    have hal : (a ++ x :: b).length = a.length + b.length + 1 := by simp; omega
    have hx := hp x List.mem_cons_self
    have hx1 := hx.1
    have hx2 := hx.2
    have hel := escS_len x.Value true
    simp only [dn_Join_l8, dn_Join_l8_b]
    rw [len_mid, cond_true, idx_mid, Option.bind_some, catS_ok (by simp; omega), Option.bind_some, escape_eq (by omega) (by omega), Option.bind_some, catS_ok (by simp; omega), Option.bind_some, appL_ok (by simp; omega), Option.bind_some, suc_mid (a := a) (b := b) (x := x) (by omega)]
    have := ih (a ++ [x]) (out ++ [x.Attr ++ [61] ++ escS true x.Value]) n (by simpa using hs) hn' (by simp [ho]) (fun q hq => hp q (List.mem_cons_of_mem _ hq))
    rw [← app_mid] at this
    rw [this]
    simp [avaT]
theorem pjoin_eq {N : Nat} {r : List api_AVA} (hN : 1000 < N) (h : smR r) : dn_Join N r = some (rdnT r) := by
  unfold dn_Join
  have := join_loop N hN r [] [] N (by simpa using h.1) (by have := h.1; omega) rfl h.2
  simp only [List.nil_append, List.length_nil] at this
  have hl := rdnT_len h
  have h1 := h.1
  rw [show ((0 : Int)) = ((0 : Nat) : Int) from rfl, this, Option.bind_some, sjoin_eq N _ 43 (by simp; omega) (by unfold rdnT at hl; omega)]
  rfl
theorem print_loop (N : Nat) (hN : 1000 < N) : ∀ (b a : List (List api_AVA)) (out : List (List UInt8)) (n : Nat), (a ++ b).length ≤ 1000 → b.length < n → out.length = a.length → (∀ x ∈ b, smR x) →
    dn_Print_l16 N (a ++ b) n ((a.length : Int), out) = some (out ++ b.map rdnT) := by
  intro b
  induction b with
  | nil =>
    intro a out n hs hn ho _
    obtain ⟨n, rfl, _⟩ := fuel hn
    simp only [dn_Print_l16, dn_Print_l16_b]
    rw [len_end, cond_false]; simp
  | cons x b ih =>
    intro a out n hs hn ho hp
    obtain ⟨n, rfl, hn'⟩ := fuel hn
    have hal : (a ++ x :: b).length = a.length + b.length + 1 := by simp; omega
    have hx := hp x List.mem_cons_self
    simp only [dn_Print_l16, dn_Print_l16_b]
    rw [len_mid, cond_true, idx_mid, Option.bind_some, pjoin_eq hN hx, Option.bind_some, appL_ok (by simp; omega), Option.bind_some, suc_mid (a := a) (b := b) (x := x) (by omega)]
    have := ih (a ++ [x]) (out ++ [rdnT x]) n (by simpa using hs) hn' (by simp [ho]) (fun q hq => hp q (List.mem_cons_of_mem _ hq))
    rw [← app_mid] at this
    rw [this]
    simp
theorem smR_ok {N : Nat} {r : List api_AVA} (hN : 2000000 < N) (h : smR r) : r.length < N ∧ ∀ x ∈ r, okA N x :=
  ⟨by have := h.1; omega, fun x hx => ⟨by have := (h.2 x hx).1; omega, by have := (h.2 x hx).2; omega⟩⟩
theorem dnT_len {d : List (List api_AVA)} (hl : d.length ≤ 1000) (h : ∀ r ∈ d, smR r) : (dnT d).length ≤ 4002001000 := by
  have := cat1_len 44 4002000 (d.map rdnT) (fun x hx => by obtain ⟨a, ha, rfl⟩ := List.mem_map.1 hx; exact rdnT_len (h a ha))
  unfold dnT
  rw [List.length_map] at this
  omega
theorem print_eq {N : Nat} {d : List (List api_AVA)} (hN : 2000000 < N) (hN2 : N ≤ 9223372036854775808) (hl : d.length ≤ 1000) (h : ∀ r ∈ d, smR r) : dn_Print N d = some (if isS d then dnT d else []) := by
  unfold dn_Print
  rw [is_eq hN2 (by omega) (by omega) (fun r hr => smR_ok hN (h r hr)), Option.bind_some]
  have := print_loop N (by omega) d [] [] N (by simpa using hl) (by omega) rfl h
  simp only [List.nil_append, List.length_nil] at this
  have hdl := dnT_len hl h
  rw [show ((0 : Int)) = ((0 : Nat) : Int) from rfl, this, Option.bind_some, sjoin_eq N _ 44 (by simp; omega) (by unfold dnT at hdl; omega), Option.bind_some]
  cases isS d <;> rfl
theorem printRDN_eq {N : Nat} {r : List api_AVA} (hN : 2000000 < N) (hN2 : N ≤ 9223372036854775808) (h : smR r) : dn_PrintRDN N r = some (if isRDNS r then rdnT r else []) := by
  unfold dn_PrintRDN
  rw [isRDN_eq hN2 (by omega) (smR_ok hN h).1 (smR_ok hN h).2, Option.bind_some, pjoin_eq (by omega) h]
  cases isRDNS r <;> rfl
theorem at0' {α : Type} (a : List α) : decide ((a.length : Int) > (0 : Int)) = !decide (a = []) := by
  rw [Bool.eq_iff_iff]; cases a <;> simp
theorem rjoin_loop (N : Nat) (hN : 1000 < N) : ∀ (b a : List api_AVA) (out : List UInt8) (n : Nat), (a ++ b).length ≤ 1000 → b.length < n → out.length ≤ a.length * 5000 → (∀ x ∈ b, smA x) →
    prefectref4_PrintRDN_l8 N (a ++ b) n (out, (a.length : Int)) = some (out ++ if a = [] then cat1 43 (b.map avaT) else (b.map avaT).flatMap (43 :: ·)) := by
  intro b
  induction b with
  | nil =>
    intro a out n hs hn ho _
    obtain ⟨n, rfl, _⟩ := fuel hn
    simp only [prefectref4_PrintRDN_l8, prefectref4_PrintRDN_l8_b]
    rw [len_end, cond_false]; simp [cat1]
  | cons x b ih =>
    intro a out n hs hn ho hp
    obtain ⟨n, rfl, hn'⟩ := fuel hn
    have hal : (a ++ x :: b).length = a.length + b.length + 1 := by simp; omega
    have hx := hp x List.mem_cons_self
    have hx1 := hx.1
    have hx2 := hx.2
    have hel := escS_len x.Value true
    have hol : out.length ≤ 5000000 := by have := Nat.mul_le_mul_right 5000 (show a.length ≤ 1000 by omega); omega
    have hrest : ∀ o : List UInt8, o.length ≤ a.length * 5000 + 1 → prefectref4_PrintRDN_j17 (a ++ x :: b) N (a.length : Int) (prefectref4_PrintRDN_l8 N (a ++ x :: b) n) o = some (o ++ avaT x ++ (b.map avaT).flatMap (43 :: ·)) := by
      intro o ho'
      unfold prefectref4_PrintRDN_j17
      rw [idx_mid, Option.bind_some, catS_ok (by omega), Option.bind_some, catS_ok (by simp; omega), Option.bind_some, Option.bind_some, value_eq (by omega) (by omega), Option.bind_some, catS_ok (by simp; omega), Option.bind_some, suc_mid (a := a) (b := b) (x := x) (by omega)]
      have := ih (a ++ [x]) (o ++ x.Attr ++ [61] ++ escS true x.Value) n (by simpa using hs) hn' (by simp; omega) (fun q hq => hp q (List.mem_cons_of_mem _ hq))
      rw [← app_mid, if_neg (by simp)] at this
      rw [this]
      simp [avaT]
    simp only [prefectref4_PrintRDN_l8, prefectref4_PrintRDN_l8_b]
    rw [len_mid, cond_true, at0']
    by_cases ha : a = []
    · subst ha
      rw [decide_eq_true rfl, Bool.not_true, cond_false, hrest _ (by omega), if_pos rfl]
      simp [cat1]
    · rw [decide_eq_false ha, Bool.not_false, cond_true, catS_ok (by simp; omega), Option.bind_some, hrest _ (by simp; omega), if_neg ha]
      simp
theorem rprintRDN_eq {N : Nat} {r : List api_AVA} (hN : 1000 < N) (h : smR r) : prefectref4_PrintRDN N r = some (rdnT r) := by
  unfold prefectref4_PrintRDN
  have := rjoin_loop N hN r [] [] N (by simpa using h.1) (by have := h.1; omega) (by simp) h.2
  simp only [List.nil_append, List.length_nil, if_true] at this
  rw [show ((0 : Int)) = ((0 : Nat) : Int) from rfl, this]
  rfl
theorem rprint_loop (N : Nat) (hN : 1000 < N) : ∀ (b a : List (List api_AVA)) (out : List UInt8) (n : Nat), (a ++ b).length ≤ 1000 → b.length < n → out.length ≤ a.length * 5000000 → (∀ x ∈ b, smR x) →
    prefectref4_Print_l8 N (a ++ b) n (out, (a.length : Int)) = some (out ++ if a = [] then cat1 44 (b.map rdnT) else (b.map rdnT).flatMap (44 :: ·)) := by
  intro b
  induction b with
  | nil =>
    intro a out n hs hn ho _
    obtain ⟨n, rfl, _⟩ := fuel hn
    simp only [prefectref4_Print_l8, prefectref4_Print_l8_b]
    rw [len_end, cond_false]; simp [cat1]
  | cons x b ih =>
    intro a out n hs hn ho hp
    obtain ⟨n, rfl, hn'⟩ := fuel hn
    have hal : (a ++ x :: b).length = a.length + b.length + 1 := by simp; omega
    have hx := hp x List.mem_cons_self
    have hrl := rdnT_len hx
    have hol : out.length ≤ 5000000000 := by have := Nat.mul_le_mul_right 5000000 (show a.length ≤ 1000 by omega); omega
    have hrest : ∀ o : List UInt8, o.length ≤ a.length * 5000000 + 1 → prefectref4_Print_j17 (a ++ x :: b) N (a.length : Int) (prefectref4_Print_l8 N (a ++ x :: b) n) o = some (o ++ rdnT x ++ (b.map rdnT).flatMap (44 :: ·)) := by
      intro o ho'
      unfold prefectref4_Print_j17
      rw [idx_mid, Option.bind_some, rprintRDN_eq hN hx, Option.bind_some, catS_ok (by omega), Option.bind_some, suc_mid (a := a) (b := b) (x := x) (by omega)]
      have := ih (a ++ [x]) (o ++ rdnT x) n (by simpa using hs) hn' (by simp; omega) (fun q hq => hp q (List.mem_cons_of_mem _ hq))
      rw [← app_mid, if_neg (by simp)] at this
      rw [this]
    simp only [prefectref4_Print_l8, prefectref4_Print_l8_b]
    rw [len_mid, cond_true, at0']
    by_cases ha : a = []
    · subst ha
      rw [decide_eq_true rfl, Bool.not_true, cond_false, hrest _ (by omega), if_pos rfl]
      simp [cat1]
    · rw [decide_eq_false ha, Bool.not_false, cond_true, catS_ok (by simp; omega), Option.bind_some, hrest _ (by simp; omega), if_neg ha]
      simp
theorem rprint_eq {N : Nat} {d : List (List api_AVA)} (hN : 1000 < N) (hl : d.length ≤ 1000) (h : ∀ r ∈ d, smR r) : prefectref4_Print N d = some (dnT d) := by
  unfold prefectref4_Print
  have := rprint_loop N hN d [] [] N (by simpa using hl) (by omega) (by simp) h
  simp only [List.nil_append, List.length_nil, if_true] at this
  rw [show ((0 : Int)) = ((0 : Nat) : Int) from rfl, this]
  rfl
theorem sameR_loop (N : Nat) : ∀ (b a : List api_AVA) (n : Nat), (a ++ b).length ≤ 1000002 → b.length < n → prefectref4_SameRDN_l14 N (a ++ b) (a ++ b) n (a.length : Int) = some (.inl ()) := by
  intro b
  induction b with
  | nil =>
    intro a n hs hn
    obtain ⟨n, rfl, _⟩ := fuel hn
    simp only [prefectref4_SameRDN_l14, prefectref4_SameRDN_l14_b]
    rw [len_end, cond_false]
  | cons x b ih =>
    intro a n hs hn
    obtain ⟨n, rfl, hn'⟩ := fuel hn
    simp only [prefectref4_SameRDN_l14, prefectref4_SameRDN_l14_b]
    rw [len_mid, cond_true, idx_mid, Option.bind_some, Option.bind_some, suc_mid (a := a) (b := b) (x := x) (by omega)]
    have := ih (a ++ [x]) n (by simpa using hs) hn'
    rw [← app_mid] at this
    rw [this]
    simp
theorem sameR_eq {N : Nat} {r : List api_AVA} (hr : r.length ≤ 1000002) (hN : 2000000 < N) : prefectref4_SameRDN N r r = some true := by
  unfold prefectref4_SameRDN
  have := sameR_loop N r [] N (by simpa using hr) (by omega)
  simp only [List.nil_append, List.length_nil] at this
  rw [show ((0 : Int)) = ((0 : Nat) : Int) from rfl, this]
  simp [bne, Option.bind]
theorem same_loop (N : Nat) (hN : 2000000 < N) : ∀ (b a : List (List api_AVA)) (n : Nat), (a ++ b).length ≤ 1000002 → b.length < n → (∀ r ∈ b, r.length ≤ 1000002) → prefectlaw4_same_l14 N (a ++ b) (a ++ b) n (a.length : Int) = some (.inl ()) := by
  intro b
  induction b with
  | nil =>
    intro a n hs hn _
    obtain ⟨n, rfl, _⟩ := fuel hn
    simp only [prefectlaw4_same_l14, prefectlaw4_same_l14_b]
    rw [len_end, cond_false]
  | cons x b ih =>
    intro a n hs hn hr
    obtain ⟨n, rfl, hn'⟩ := fuel hn
    simp only [prefectlaw4_same_l14, prefectlaw4_same_l14_b]
    rw [len_mid, cond_true, idx_mid, Option.bind_some, Option.bind_some, sameR_eq (hr x List.mem_cons_self) hN, Option.bind_some, suc_mid (a := a) (b := b) (x := x) (by omega)]
    have := ih (a ++ [x]) n (by simpa using hs) hn' (fun q hq => hr q (List.mem_cons_of_mem _ hq))
    rw [← app_mid] at this
    rw [this]
    rfl
theorem same_eq {N : Nat} {d : List (List api_AVA)} (hd : d.length ≤ 1000002) (hr : ∀ r ∈ d, r.length ≤ 1000002) (hN : 2000000 < N) : prefectlaw4_same N d d = some true := by
  unfold prefectlaw4_same
  have := same_loop N hN d [] N (by simpa using hd) (by omega) hr
  simp only [List.nil_append, List.length_nil] at this
  rw [show ((0 : Int)) = ((0 : Nat) : Int) from rfl, this]
  simp [bne, Option.bind]
def fewA (a : api_AVA) : Bool := decide (a.Attr.length ≤ 30) && decide (a.Value.length ≤ 80)
def fewRS (r : List api_AVA) : Bool := r.all fewA && decide (r.length ≤ 6)
def fewS (d : List (List api_AVA)) : Bool := d.all fewRS && decide (d.length ≤ 12)
theorem fewR_loop (N : Nat) : ∀ (b a : List api_AVA) (n : Nat), (a ++ b).length ≤ 9223372036854775807 → b.length < n → prefectlaw4_fewRDN_l6 N (a ++ b) n (a.length : Int) = some (bif b.all fewA then .inl () else .inr false) := by
  intro b
  induction b with
  | nil =>
    intro a n hs hn
    obtain ⟨n, rfl, _⟩ := fuel hn
    simp only [prefectlaw4_fewRDN_l6, prefectlaw4_fewRDN_l6_b]
    rw [len_end, cond_false]; rfl
  | cons x b ih =>
    intro a n hs hn
    obtain ⟨n, rfl, hn'⟩ := fuel hn
    simp only [prefectlaw4_fewRDN_l6, prefectlaw4_fewRDN_l6_b]
    rw [len_mid, cond_true, idx_mid, Option.bind_some, Option.bind_some, suc_mid hs]
    have := ih (a ++ [x]) n (by simpa using hs) hn'
    rw [← app_mid] at this
    rw [this, List.all_cons, fewA, show decide ((x.Attr.length : Int) > 30) = !decide (x.Attr.length ≤ 30) by rw [Bool.eq_iff_iff]; simp; omega, show decide ((x.Value.length : Int) > 80) = !decide (x.Value.length ≤ 80) by rw [Bool.eq_iff_iff]; simp; omega]
    cases decide (x.Attr.length ≤ 30) <;> cases decide (x.Value.length ≤ 80) <;> rfl
theorem fewR_eq {N : Nat} {r : List api_AVA} (hr : r.length < N) (hN2 : N ≤ 9223372036854775808) : prefectlaw4_fewRDN N r = some (fewRS r) := by
  unfold prefectlaw4_fewRDN fewRS
  have := fewR_loop N r [] N (by simp; omega) hr
  simp only [List.nil_append, List.length_nil] at this
  rw [show ((0 : Int)) = ((0 : Nat) : Int) from rfl, this, show decide ((r.length : Int) ≤ 6) = decide (r.length ≤ 6) by rw [Bool.eq_iff_iff]; simp; omega]
  cases r.all fewA <;> rfl
theorem few_loop (N : Nat) (hN2 : N ≤ 9223372036854775808) : ∀ (b a : List (List api_AVA)) (n : Nat), (a ++ b).length ≤ 9223372036854775807 → b.length < n → (∀ r ∈ b, r.length < N) → prefectlaw4_few_l6 N (a ++ b) n (a.length : Int) = some (bif b.all fewRS then .inl () else .inr false) := by
  intro b
  induction b with
  | nil =>
    intro a n hs hn _
    obtain ⟨n, rfl, _⟩ := fuel hn
    simp only [prefectlaw4_few_l6, prefectlaw4_few_l6_b]
    rw [len_end, cond_false]; rfl
  | cons x b ih =>
    intro a n hs hn hr
    obtain ⟨n, rfl, hn'⟩ := fuel hn
    simp only [prefectlaw4_few_l6, prefectlaw4_few_l6_b]
    rw [len_mid, cond_true, idx_mid, Option.bind_some, fewR_eq (hr x List.mem_cons_self) hN2, Option.bind_some, suc_mid hs]
    have := ih (a ++ [x]) n (by simpa using hs) hn' (fun q hq => hr q (List.mem_cons_of_mem _ hq))
    rw [← app_mid] at this
    rw [this, List.all_cons]
    cases fewRS x <;> rfl
theorem few_eq {N : Nat} {d : List (List api_AVA)} (hd : d.length < N) (hr : ∀ r ∈ d, r.length < N) (hN2 : N ≤ 9223372036854775808) : prefectlaw4_few N d = some (fewS d) := by
  unfold prefectlaw4_few fewS
  have := few_loop N hN2 d [] N (by simp; omega) hd hr
  simp only [List.nil_append, List.length_nil] at this
  rw [show ((0 : Int)) = ((0 : Nat) : Int) from rfl, this, show decide ((d.length : Int) ≤ 12) = decide (d.length ≤ 12) by rw [Bool.eq_iff_iff]; simp; omega]
  cases d.all fewRS <;> rfl
theorem few_smR {r : List api_AVA} (h : fewRS r = true) : smR r := by
  unfold fewRS at h
  simp only [Bool.and_eq_true, decide_eq_true_eq, List.all_eq_true] at h
  refine ⟨by omega, fun a ha => ?_⟩
  have := h.1 a ha
  unfold fewA at this
  simp only [Bool.and_eq_true, decide_eq_true_eq] at this
  exact ⟨by omega, by omega⟩
theorem few_sm {d : List (List api_AVA)} (h : fewS d = true) : d.length ≤ 12 ∧ ∀ r ∈ d, smR r := by
  unfold fewS at h
  simp only [Bool.and_eq_true, decide_eq_true_eq, List.all_eq_true] at h
  exact ⟨h.2, fun r hr => few_smR (h.1 r hr)⟩
theorem known_big : prefectlaw4_known 9223372036854775808 = some true := by decide +kernel
end Go.Gp
end
section
set_option linter.unusedVariables false
set_option linter.unusedSimpArgs false
namespace Go.Gp
open Go.Vd
def Clean (sep : UInt8) (x : List UInt8) : Prop := ∀ y, cutS sep (x ++ y) = preH x (cutS sep y)
theorem clean_nil (sep : UInt8) : Clean sep [] := fun y => by rw [List.nil_append, preH_nil (cutS_ne _ _)]
theorem clean_app {sep : UInt8} {x y : List UInt8} (hx : Clean sep x) (hy : Clean sep y) : Clean sep (x ++ y) := fun z => by
  rw [List.append_assoc, hx, hy, preH_pre]
theorem clean_one {sep c : UInt8} (h : c ≠ 92) (h' : c ≠ sep) : Clean sep [c] := fun y => cutS_other h h' y
theorem clean_bs (sep d : UInt8) : Clean sep [92, d] := fun y => cutS_bs sep d y
theorem clean_cons {sep c : UInt8} {x : List UInt8} (h : c ≠ 92) (h' : c ≠ sep) (hx : Clean sep x) : Clean sep (c :: x) := clean_app (x := [c]) (clean_one h h') hx
theorem clean_plain {sep : UInt8} : ∀ x : List UInt8, (∀ c ∈ x, c ≠ 92 ∧ c ≠ sep) → Clean sep x
  | [], _ => clean_nil sep
  | c :: x, h => clean_cons (h c List.mem_cons_self).1 (h c List.mem_cons_self).2 (clean_plain x fun d hd => h d (List.mem_cons_of_mem _ hd))
theorem cut_cat {sep : UInt8} (hsep : sep ≠ 92) : ∀ (l : List (List UInt8)), l ≠ [] → (∀ x ∈ l, Clean sep x) → cutS sep (cat1 sep l) = l
  | [], h, _ => absurd rfl h
  | [x], _, h => by
    have := h x (by simp) []
    rw [List.append_nil] at this
    simp [cat1, this, cutS, preH]
  | x :: y :: xs, _, h => by
    have ih := cut_cat hsep (y :: xs) (by simp) fun z hz => h z (List.mem_cons_of_mem _ hz)
    have e : cat1 sep (x :: y :: xs) = x ++ sep :: cat1 sep (y :: xs) := by simp [cat1]
    rw [e, h x List.mem_cons_self, cutS_sep hsep, ih]
    simp [preH]
theorem hx_facts (c : UInt8) : mayC (hxA c) = false ∧ 0 ≤ hexV (hxA c) ∧ 0 ≤ hexV (hxB c) ∧ hx2 (hxA c) (hxB c) = c ∧ hxB c ≠ 92 ∧ hxB c ≠ 43 ∧ hxB c ≠ 44 := by
  have := u8_all (p := fun c => decide (mayC (hxA c) = false ∧ 0 ≤ hexV (hxA c) ∧ 0 ≤ hexV (hxB c) ∧ hx2 (hxA c) (hxB c) = c ∧ hxB c ≠ 92 ∧ hxB c ≠ 43 ∧ hxB c ≠ 44)) (by decide +kernel) c
  simpa using this
theorem spc_facts (c : UInt8) (h : spc c = false) : c ≠ 92 ∧ c ≠ 43 ∧ c ≠ 44 := by
  have := u8_all (p := fun c => spc c || decide (c ≠ 92 ∧ c ≠ 43 ∧ c ≠ 44)) (by decide +kernel) c
  simpa [h] using this
theorem ty_facts (c : UInt8) (h : tyB c = true) : lowB c = c ∧ c ≠ 92 ∧ c ≠ 43 ∧ c ≠ 44 ∧ c ≠ 61 := by
  have := u8_all (p := fun c => !tyB c || decide (lowB c = c ∧ c ≠ 92 ∧ c ≠ 43 ∧ c ≠ 44 ∧ c ≠ 61)) (by decide +kernel) c
  simpa [h] using this
theorem clean_unit {sep : UInt8} (hs : sep = 43 ∨ sep = 44) (f l : Bool) (c : UInt8) : Clean sep (unitS f l c) := by
  obtain ⟨_, _, _, _, h1, h2, h3⟩ := hx_facts c
  have hb : hxB c ≠ sep := by rcases hs with rfl | rfl <;> assumption
  rw [unitS_b]
  cases hct : ctl c with
  | true => exact clean_app (x := [92, hxA c]) (clean_bs sep _) (clean_one h1 hb)
  | false =>
    cases hq : (spc c || (f && (decide (c = 35) || decide (c = 32))) || (l && decide (c = 32))) with
    | true => exact clean_bs sep c
    | false =>
      have hsp : spc c = false := by cases hh : spc c with | false => rfl | true => rw [hh] at hq; simp at hq
      obtain ⟨k1, k2, k3⟩ := spc_facts c hsp
      exact clean_one k1 (by rcases hs with rfl | rfl <;> assumption)
theorem clean_esc {sep : UInt8} (hs : sep = 43 ∨ sep = 44) : ∀ (s : List UInt8) (f : Bool), Clean sep (escS f s)
  | [], _ => clean_nil sep
  | c :: s, f => clean_app (clean_unit hs f _ c) (clean_esc hs s false)
theorem unit_ne (f l : Bool) (c : UInt8) : unitS f l c ≠ [] := by
  unfold unitS; split; simp; split <;> simp
theorem esc_nil (s : List UInt8) (f : Bool) : escS f s = [] ↔ s = [] := by
  cases s with
  | nil => simp [escS]
  | cons c s => simp [escS, unit_ne]
theorem pl_esc : ∀ (s : List UInt8) (f : Bool), plS f (escS f s) = some s
  | [], f => rfl
  | c :: s, f => by
    have ih := pl_esc s false
    obtain ⟨h1, h2, h3, h4, _⟩ := hx_facts c
    rw [escS, unitS_b]
    cases hct : ctl c with
    | true =>
      rw [cond_true, List.cons_append, plS_cons, if_pos rfl]
      simp only [List.cons_append, List.nil_append]
      rw [if_neg (by simp [h1]), if_pos ⟨h2, h3⟩, ih, h4]
      rfl
    | false =>
      rw [cond_false]
      cases hq : (spc c || (f && (decide (c = 35) || decide (c = 32))) || (decide (s = []) && decide (c = 32))) with
      | true =>
        have hm : mayC c = true := by
          rw [may_spc]
          revert hq
          cases spc c <;> cases decide (c = 35) <;> cases decide (c = 32) <;> cases f <;> cases decide (s = []) <;> simp
        rw [cond_true, List.cons_append, plS_cons, if_pos rfl]
        simp only [List.cons_append, List.nil_append]
        rw [if_pos hm, ih]
        rfl
      | false =>
        have hsp : spc c = false := by cases hh : spc c with | false => rfl | true => rw [hh] at hq; simp at hq
        rw [cond_false, List.cons_append, List.nil_append, plS_cons, if_neg (spc_facts c hsp).1]
        have he : decide (escS false s = []) = decide (s = []) := by rw [Bool.eq_iff_iff]; simp [esc_nil]
        rw [he, hq, if_neg (by simp), ih]
        rfl
theorem type_facts {s : List UInt8} (h : isTypeS s = true) : s ≠ [] ∧ low s = s ∧ ∀ c ∈ s, c ≠ 92 ∧ c ≠ 43 ∧ c ≠ 44 ∧ c ≠ 61 := by
  unfold isTypeS at h
  cases s with
  | nil => cases h
  | cons c s =>
    simp only [Bool.and_eq_true] at h
    have hall := List.all_eq_true.1 h.2.2
    refine ⟨by simp, ?_, fun d hd => (ty_facts d (hall d hd)).2⟩
    unfold low
    exact (List.map_congr_left fun d hd => (ty_facts d (hall d hd)).1).trans (List.map_id _)
theorem clean_type {sep : UInt8} (hs : sep = 43 ∨ sep = 44) {s : List UInt8} (h : ∀ c ∈ s, c ≠ 92 ∧ c ≠ 43 ∧ c ≠ 44 ∧ c ≠ 61) : Clean sep s :=
  clean_plain s fun c hc => ⟨(h c hc).1, by rcases hs with rfl | rfl; exact (h c hc).2.1; exact (h c hc).2.2.1⟩
theorem clean_pair {sep : UInt8} (hs : sep = 43 ∨ sep = 44) {t v : List UInt8} (h : ∀ c ∈ t, c ≠ 92 ∧ c ≠ 43 ∧ c ≠ 44 ∧ c ≠ 61) (hv : Clean sep v) : Clean sep (t ++ 61 :: v) :=
  clean_app (clean_type hs h) (clean_cons (by decide) (by rcases hs with rfl | rfl <;> decide) hv)
theorem avaP_mk {t v w : List UInt8} (h : ∀ c ∈ t, c ≠ 92 ∧ c ≠ 43 ∧ c ≠ 44 ∧ c ≠ 61) (hv : plS true v = some w) : avaP (t ++ 61 :: v) = some ⟨low t, w⟩ := by
  unfold avaP
  rw [cutE_mk t v fun c hc => (h c hc).2.2.2, Option.bind_some]
  simp only [hv]
  rfl
theorem avaP_T {a : api_AVA} (h : isTypeS a.Attr = true) : avaP (avaT a) = some a := by
  obtain ⟨_, h2, h3⟩ := type_facts h
  unfold avaT
  rw [avaP_mk h3 (pl_esc a.Value true), h2]
theorem clean_avaT {sep : UInt8} (hs : sep = 43 ∨ sep = 44) {a : api_AVA} (h : isTypeS a.Attr = true) : Clean sep (avaT a) :=
  clean_pair hs (type_facts h).2.2 (clean_esc hs _ _)
theorem clean_cat {sep : UInt8} (hs : sep ≠ 43) : ∀ (l : List (List UInt8)), (∀ x ∈ l, Clean sep x) → Clean sep (cat1 43 l)
  | [], _ => clean_nil sep
  | [x], h => by
    have := h x (by simp)
    simpa [cat1] using this
  | x :: y :: xs, h => by
    have ih := clean_cat hs (y :: xs) fun z hz => h z (List.mem_cons_of_mem _ hz)
    have e : cat1 43 (x :: y :: xs) = x ++ 43 :: cat1 43 (y :: xs) := by simp [cat1]
    rw [e]
    exact clean_app (h x List.mem_cons_self) (clean_cons (by decide) (fun e => hs e.symm) ih)
theorem rdnP_list {l : List (List UInt8)} (h0 : l ≠ []) (hc : ∀ x ∈ l, Clean 43 x) : rdnP (cat1 43 l) = (l.mapM avaP).bind fun r => if isRDNS r then some r else none := by
  unfold rdnP
  rw [cut_cat (by decide) l h0 hc]
theorem nameP_list {l : List (List UInt8)} (h0 : l ≠ []) (h1 : cat1 44 l ≠ []) (hc : ∀ x ∈ l, Clean 44 x) : nameP (cat1 44 l) = (l.mapM rdnP).bind fun r => if r.length ≤ 8 then some r else none := by
  unfold nameP
  rw [if_neg h1, cut_cat (by decide) l h0 hc]
theorem mapM_map {α β : Type} {f : β → Option α} {g : α → β} : ∀ {l : List α}, (∀ a ∈ l, f (g a) = some a) → (l.map g).mapM f = some l
  | [], _ => rfl
  | a :: l, h => by
    rw [List.map_cons, List.mapM_cons, h a List.mem_cons_self, mapM_map fun b hb => h b (List.mem_cons_of_mem _ hb)]
    rfl
theorem rdn_back {r : List api_AVA} (h : isRDNS r = true) : rdnP (rdnT r) = some r ∧ Clean 44 (rdnT r) ∧ rdnT r ≠ [] := by
  have ht := isRDNS_types h
  have h0 : r ≠ [] := by intro e; subst e; cases h
  have h0' : r.map avaT ≠ [] := by simpa using h0
  refine ⟨?_, ?_, ?_⟩
  · unfold rdnT
    rw [rdnP_list h0' (fun x hx => by obtain ⟨a, ha, rfl⟩ := List.mem_map.1 hx; exact clean_avaT (.inl rfl) (ht a ha)), mapM_map fun a ha => avaP_T (ht a ha), Option.bind_some, if_pos h]
  · exact clean_cat (by decide) _ fun x hx => by obtain ⟨a, ha, rfl⟩ := List.mem_map.1 hx; exact clean_avaT (.inr rfl) (ht a ha)
  · cases r with
    | nil => exact absurd rfl h0
    | cons a r => simp [rdnT, cat1, avaT]
theorem dnT_nil {d : List (List api_AVA)} (h : ∀ r ∈ d, isRDNS r = true) : dnT d = [] ↔ d = [] := by
  cases d with
  | nil => simp [dnT, cat1]
  | cons r d => simp [dnT, cat1, (rdn_back (h r List.mem_cons_self)).2.2]
theorem dn_back {d : List (List api_AVA)} (h : ∀ r ∈ d, isRDNS r = true) : nameP (dnT d) = if d.length ≤ 8 then some d else none := by
  by_cases h0 : d = []
  · subst h0; rfl
  · have h1 : cat1 44 (d.map rdnT) ≠ [] := fun e => h0 ((dnT_nil h).1 e)
    unfold dnT
    rw [nameP_list (by simpa using h0) h1 (fun x hx => by obtain ⟨r, hr, rfl⟩ := List.mem_map.1 hx; exact (rdn_back (h r hr)).2.1), mapM_map fun r hr => (rdn_back (h r hr)).1, Option.bind_some]
theorem dnT_app {d e : List (List api_AVA)} (hd : d ≠ []) (he : e ≠ []) : dnT d ++ 44 :: dnT e = dnT (d ++ e) := by
  cases d with
  | nil => exact absurd rfl hd
  | cons r d =>
    cases e with
    | nil => exact absurd rfl he
    | cons q e => simp [dnT, cat1]
theorem few_len {d : List (List api_AVA)} (h : fewS d = true) : (dnT d).length ≤ 20000 := by
  unfold fewS at h
  simp only [Bool.and_eq_true, decide_eq_true_eq, List.all_eq_true] at h
  have hr : ∀ r ∈ d, (rdnT r).length ≤ 1632 := by
    intro r hr
    have := h.1 r hr
    unfold fewRS at this
    simp only [Bool.and_eq_true, decide_eq_true_eq, List.all_eq_true] at this
    have hl := cat1_len 43 271 (r.map avaT) (fun x hx => by
      obtain ⟨a, ha, rfl⟩ := List.mem_map.1 hx
      have h1 := this.1 a ha
      unfold fewA at h1
      simp only [Bool.and_eq_true, decide_eq_true_eq] at h1
      have h2 := escS_len a.Value true
      unfold avaT
      rw [List.length_append, List.length_cons]; omega)
    rw [List.length_map] at hl
    unfold rdnT
    omega
  have := cat1_len 44 1632 (d.map rdnT) (fun x hx => by obtain ⟨r, hr', rfl⟩ := List.mem_map.1 hx; exact hr r hr')
  rw [List.length_map] at this
  unfold dnT
  omega
theorem isS_all {d : List (List api_AVA)} (h : isS d = true) : d.length ≤ 8 ∧ ∀ r ∈ d, isRDNS r = true := by
  unfold isS at h
  simp only [Bool.and_eq_true, decide_eq_true_eq, List.all_eq_true] at h
  exact h
end Go.Gp
end
section
set_option linter.unusedVariables false
set_option linter.unusedSimpArgs false
namespace Go.Gp
open Go.Vd
theorem len0 {α : Type} (a : List α) : ((a.length : Int) == (0 : Int)) = decide (a = []) := by
  rw [Bool.eq_iff_iff]; cases a <;> simp; omega
theorem law_prefectlaw4_NameBack (a0 a1 : List (List api_AVA)) (h0 : a0.length ≤ maxLen ∧ ∀ y0 ∈ a0, (y0.length ≤ maxLen ∧ ∀ y1 ∈ y0, b_api_AVA y1)) (h1 : a1.length ≤ maxLen ∧ ∀ y0 ∈ a1, (y0.length ≤ maxLen ∧ ∀ y1 ∈ y0, b_api_AVA y1)) :
    ∃ N, prefectlaw4_NameBack N a0 a1 = some true := by
  refine ⟨9223372036854775808, ?_⟩
  have hmx : maxLen = 9223372036854775807 := rfl
  rw [hmx] at h0 h1
  unfold prefectlaw4_NameBack
  rw [known_big, Option.bind_some]
  simp only [Bool.not_true, cond_false]
  rw [few_eq (by omega) (fun r hr => by have := (h0.2 r hr).1; omega) (Nat.le_refl _), Option.bind_some, few_eq (by omega) (fun r hr => by have := (h1.2 r hr).1; omega) (Nat.le_refl _), Option.bind_some]
  cases hf : fewS a0 with
  | false => rfl
  | true =>
    cases hg : fewS a1 with
    | false => rfl
    | true =>
      obtain ⟨hd, hsm⟩ := few_sm hf
      obtain ⟨he, hse⟩ := few_sm hg
      have hl0 := few_len hf
      have hl1 := few_len hg
      simp only [Bool.not_true, cond_false]
      rw [is_eq (Nat.le_refl _) (by omega) (by omega) (fun r hr => smR_ok (by omega) (hsm r hr)), Option.bind_some, is_eq (Nat.le_refl _) (by omega) (by omega) (fun r hr => smR_ok (by omega) (hse r hr)), Option.bind_some]
      cases hi : isS a0 with
      | false => rfl
      | true =>
        cases hj : isS a1 with
        | false => rfl
        | true =>
          obtain ⟨hd8, hda⟩ := isS_all hi
          obtain ⟨he8, hea⟩ := isS_all hj
          simp only [Bool.not_true, cond_false, Option.bind_some]
          rw [print_eq (by omega) (Nat.le_refl _) (by omega) hsm, hi, if_pos rfl, Option.bind_some, parse_eq (by omega) (by omega) (Nat.le_refl _), dn_back hda, if_pos hd8, Option.bind_some]
          simp only
          rw [same_eq (by omega) (fun r hr => by have := (hsm r hr).1; omega) (by omega), len0, len0]
          have hz : (dnT a0 == ([] : List UInt8)) = decide (a0 = []) := by
            rw [Bool.eq_iff_iff]; simp [dnT_nil hda]
          rw [hz]
          simp only [Option.bind_some, bne, BEq.rfl, Bool.not_true, cond_false]
          by_cases hA : a0 = []
          · rw [decide_eq_true hA]; rfl
          · rw [decide_eq_false hA]
            by_cases hB : a1 = []
            · rw [decide_eq_true hB]; rfl
            · rw [decide_eq_false hB]
              simp only [cond_false, Option.bind_some]
              rw [print_eq (by omega) (Nat.le_refl _) (by omega) hse, hj, if_pos rfl, catS_ok (by simp; omega), Option.bind_some, Option.bind_some, catS_ok (by simp; omega), Option.bind_some]
              have e : dnT a0 ++ [44] ++ dnT a1 = dnT (a0 ++ a1) := by rw [← dnT_app hA hB]; simp
              have hall : ∀ r ∈ a0 ++ a1, isRDNS r = true := fun r hr => by
                rcases List.mem_append.1 hr with hr | hr
                · exact hda r hr
                · exact hea r hr
              have hle : (dnT (a0 ++ a1)).length ≤ 1000000 := by rw [← e]; simp; omega
              rw [e, parse_eq hle (by omega) (Nat.le_refl _), dn_back hall, Option.bind_some, w64_id (by omega) (by omega), List.length_append]
              by_cases h8 : a0.length + a1.length ≤ 8
              · rw [if_pos h8, decide_eq_false (by omega)]
                simp only [BEq.rfl, cond_true, cond_false]
                rw [takeL_nat (by simp), Option.bind_some, List.take_left' rfl, same_eq (by omega) (fun r hr => by have := (hsm r hr).1; omega) (by omega), Option.bind_some, cond_true, dropL_nat (by simp), Option.bind_some, List.drop_left' rfl, same_eq (by omega) (fun r hr => by have := (hse r hr).1; omega) (by omega)]
                rfl
              · rw [if_neg h8, decide_eq_true (by omega)]; rfl
end Go.Gp
end
