/- A part of the proof: functions of the program and what they compute. -/
import Derived.Test.YtbndinjjpafmjaaA14
section
set_option linter.unusedVariables false
set_option linter.unusedSimpArgs false
namespace Go.Gp
open Go.Vd
def cat1 (sep : UInt8) : List (List UInt8) → List UInt8
  | [] => []
  | x :: xs => x ++ xs.flatMap (sep :: ·)
theorem join_cat1 (sep : UInt8) : ∀ l : List (List UInt8), Lib.join l [sep] = cat1 sep l
  | [] => rfl
  | [x] => by simp [Lib.join, cat1, List.intercalate]
  | x :: y :: xs => by
    have ih := join_cat1 sep (y :: xs)
    simp only [Lib.join, List.intercalate, List.intersperse_cons_cons, List.flatten_cons] at ih ⊢
    rw [ih]
    simp [cat1]
def avaT (a : api_AVA) : List UInt8 := a.Attr ++ 61 :: escS true a.Value
def rdnT (r : List api_AVA) : List UInt8 := cat1 43 (r.map avaT)
def dnT (d : List (List api_AVA)) : List UInt8 := cat1 44 (d.map rdnT)
def smA (a : api_AVA) : Prop := a.Attr.length ≤ 1000 ∧ a.Value.length ≤ 1000
def smR (r : List api_AVA) : Prop := r.length ≤ 1000 ∧ ∀ a ∈ r, smA a
theorem flat_len {α : Type} (f : α → List UInt8) (k : Nat) : ∀ l : List α, (∀ x ∈ l, (f x).length ≤ k) → (l.flatMap f).length ≤ l.length * k
  | [], _ => by simp
  | x :: l, h => by
    have := flat_len f k l fun y hy => h y (List.mem_cons_of_mem _ hy)
    have h1 := h x List.mem_cons_self
    rw [List.flatMap_cons, List.length_append, List.length_cons, Nat.add_mul]; omega
theorem cat1_len (sep : UInt8) (k : Nat) (l : List (List UInt8)) (h : ∀ x ∈ l, x.length ≤ k) : (cat1 sep l).length ≤ l.length * (k + 1) := by
  cases l with
  | nil => simp [cat1]
  | cons x l =>
    have h1 := h x List.mem_cons_self
    have h2 := flat_len (sep :: ·) (k + 1) l (fun y hy => by have := h y (List.mem_cons_of_mem _ hy); simp; omega)
    rw [cat1, List.length_append, List.length_cons, Nat.add_mul]; omega
theorem avaT_len {a : api_AVA} (h : smA a) : (avaT a).length ≤ 4001 := by
  have := escS_len a.Value true
  have h1 := h.1
  have h2 := h.2
  unfold avaT
  rw [List.length_append, List.length_cons]; omega
theorem rdnT_len {r : List api_AVA} (h : smR r) : (rdnT r).length ≤ 4002000 := by
  have := cat1_len 43 4001 (r.map avaT) (fun x hx => by obtain ⟨a, ha, rfl⟩ := List.mem_map.1 hx; exact avaT_len (h.2 a ha))
  have h1 := h.1
  unfold rdnT
  rw [List.length_map] at this
  omega
theorem sjoin_eq (N : Nat) (l : List (List UInt8)) (sep : UInt8) (h1 : l.length ≤ 1000000) (h2 : (cat1 sep l).length ≤ 140737488355328) : strings_Join N l [sep] = some (cat1 sep l) := by
  unfold strings_Join
  rw [join_cat1, if_pos ⟨by omega, h2⟩]
theorem join_loop (N : Nat) (hN : 1000 < N) : ∀ (b a : List api_AVA) (out : List (List UInt8)) (n : Nat), (a ++ b).length ≤ 1000 → b.length < n → out.length = a.length → (∀ x ∈ b, smA x) →
    dn_Join_l8 N (a ++ b) n ((a.length : Int), out) = some (out ++ b.map avaT) := by
  intro b
  induction b with
  | nil =>
    intro a out n hs hn ho _
    obtain ⟨n, rfl, _⟩ := fuel hn
    simp only [dn_Join_l8, dn_Join_l8_b]
    rw [len_end, cond_false]; simp
  | cons x b ih =>
    intro a out n hs hn ho hp
    obtain ⟨n, rfl, hn'⟩ := fuel hn
    have hal : (a ++ x :: b).length = a.length + b.length + 1 := by simp; omega
    have hx := hp x List.mem_cons_self
    have hx1 := hx.1
    have hx2 := hx.2
    have hel := escS_len x.Value true
    simp only [dn_Join_l8, dn_Join_l8_b]
    rw [len_mid, cond_true, idx_mid, Option.bind_some, catS_ok (by simp; omega), Option.bind_some, escape_eq (by omega) (by omega), Option.bind_some, catS_ok (by simp; omega), Option.bind_some, appL_ok (by simp; omega), Option.bind_some, suc_mid (a := a) (b := b) (x := x) (by omega)]
    have := ih (a ++ [x]) (out ++ [x.Attr ++ [61] ++ escS true x.Value]) n (by simpa using hs) hn' (by simp [ho]) (fun q hq => hp q (List.mem_cons_of_mem _ hq))
    rw [← app_mid] at this
    rw [this]
    simp [avaT]
theorem pjoin_eq {N : Nat} {r : List api_AVA} (hN : 1000 < N) (h : smR r) : dn_Join N r = some (rdnT r) := by
  unfold dn_Join
  have := join_loop N hN r [] [] N (by simpa using h.1) (by have := h.1; omega) rfl h.2
  simp only [List.nil_append, List.length_nil] at this
  have hl := rdnT_len h
  have h1 := h.1
  rw [show ((0 : Int)) = ((0 : Nat) : Int) from rfl, this, Option.bind_some, sjoin_eq N _ 43 (by simp; omega) (by unfold rdnT at hl; omega)]
  rfl
theorem print_loop (N : Nat) (hN : 1000 < N) : ∀ (b a : List (List api_AVA)) (out : List (List UInt8)) (n : Nat), (a ++ b).length ≤ 1000 → b.length < n → out.length = a.length → (∀ x ∈ b, smR x) →
    dn_Print_l16 N (a ++ b) n ((a.length : Int), out) = some (out ++ b.map rdnT) := by
  intro b
  induction b with
  | nil =>
    intro a out n hs hn ho _
    obtain ⟨n, rfl, _⟩ := fuel hn
    simp only [dn_Print_l16, dn_Print_l16_b]
    rw [len_end, cond_false]; simp
  | cons x b ih =>
    intro a out n hs hn ho hp
    obtain ⟨n, rfl, hn'⟩ := fuel hn
    have hal : (a ++ x :: b).length = a.length + b.length + 1 := by simp; omega
    have hx := hp x List.mem_cons_self
    simp only [dn_Print_l16, dn_Print_l16_b]
    rw [len_mid, cond_true, idx_mid, Option.bind_some, pjoin_eq hN hx, Option.bind_some, appL_ok (by simp; omega), Option.bind_some, suc_mid (a := a) (b := b) (x := x) (by omega)]
    have := ih (a ++ [x]) (out ++ [rdnT x]) n (by simpa using hs) hn' (by simp [ho]) (fun q hq => hp q (List.mem_cons_of_mem _ hq))
    rw [← app_mid] at this
    rw [this]
    simp
theorem smR_ok {N : Nat} {r : List api_AVA} (hN : 2000000 < N) (h : smR r) : r.length < N ∧ ∀ x ∈ r, okA N x :=
  ⟨by have := h.1; omega, fun x hx => ⟨by have := (h.2 x hx).1; omega, by have := (h.2 x hx).2; omega⟩⟩
theorem dnT_len {d : List (List api_AVA)} (hl : d.length ≤ 1000) (h : ∀ r ∈ d, smR r) : (dnT d).length ≤ 4002001000 := by
  have := cat1_len 44 4002000 (d.map rdnT) (fun x hx => by obtain ⟨a, ha, rfl⟩ := List.mem_map.1 hx; exact rdnT_len (h a ha))
  unfold dnT
  rw [List.length_map] at this
  omega
theorem print_eq {N : Nat} {d : List (List api_AVA)} (hN : 2000000 < N) (hN2 : N ≤ 9223372036854775808) (hl : d.length ≤ 1000) (h : ∀ r ∈ d, smR r) : dn_Print N d = some (if isS d then dnT d else []) := by
  unfold dn_Print
  rw [is_eq hN2 (by omega) (by omega) (fun r hr => smR_ok hN (h r hr)), Option.bind_some]
  have := print_loop N (by omega) d [] [] N (by simpa using hl) (by omega) rfl h
  simp only [List.nil_append, List.length_nil] at this
  have hdl := dnT_len hl h
  rw [show ((0 : Int)) = ((0 : Nat) : Int) from rfl, this, Option.bind_some, sjoin_eq N _ 44 (by simp; omega) (by unfold dnT at hdl; omega), Option.bind_some]
  cases isS d <;> rfl
theorem printRDN_eq {N : Nat} {r : List api_AVA} (hN : 2000000 < N) (hN2 : N ≤ 9223372036854775808) (h : smR r) : dn_PrintRDN N r = some (if isRDNS r then rdnT r else []) := by
  unfold dn_PrintRDN
  rw [isRDN_eq hN2 (by omega) (smR_ok hN h).1 (smR_ok hN h).2, Option.bind_some, pjoin_eq (by omega) h]
  cases isRDNS r <;> rfl
theorem at0' {α : Type} (a : List α) : decide ((a.length : Int) > (0 : Int)) = !decide (a = []) := by
  rw [Bool.eq_iff_iff]; cases a <;> simp
theorem rjoin_loop (N : Nat) (hN : 1000 < N) : ∀ (b a : List api_AVA) (out : List UInt8) (n : Nat), (a ++ b).length ≤ 1000 → b.length < n → out.length ≤ a.length * 5000 → (∀ x ∈ b, smA x) →
    prefectref4_PrintRDN_l8 N (a ++ b) n (out, (a.length : Int)) = some (out ++ if a = [] then cat1 43 (b.map avaT) else (b.map avaT).flatMap (43 :: ·)) := by
  intro b
  induction b with
  | nil =>
    intro a out n hs hn ho _
    obtain ⟨n, rfl, _⟩ := fuel hn
    simp only [prefectref4_PrintRDN_l8, prefectref4_PrintRDN_l8_b]
    rw [len_end, cond_false]; simp [cat1]
  | cons x b ih =>
    intro a out n hs hn ho hp
    obtain ⟨n, rfl, hn'⟩ := fuel hn
    have hal : (a ++ x :: b).length = a.length + b.length + 1 := by simp; omega
    have hx := hp x List.mem_cons_self
    have hx1 := hx.1
    have hx2 := hx.2
    have hel := escS_len x.Value true
    have hol : out.length ≤ 5000000 := by have := Nat.mul_le_mul_right 5000 (show a.length ≤ 1000 by omega); omega
    have hrest : ∀ o : List UInt8, o.length ≤ a.length * 5000 + 1 → prefectref4_PrintRDN_j17 (a ++ x :: b) N (a.length : Int) (prefectref4_PrintRDN_l8 N (a ++ x :: b) n) o = some (o ++ avaT x ++ (b.map avaT).flatMap (43 :: ·)) := by
      intro o ho'
      unfold prefectref4_PrintRDN_j17
      rw [idx_mid, Option.bind_some, catS_ok (by omega), Option.bind_some, catS_ok (by simp; omega), Option.bind_some, Option.bind_some, value_eq (by omega) (by omega), Option.bind_some, catS_ok (by simp; omega), Option.bind_some, suc_mid (a := a) (b := b) (x := x) (by omega)]
      have := ih (a ++ [x]) (o ++ x.Attr ++ [61] ++ escS true x.Value) n (by simpa using hs) hn' (by simp; omega) (fun q hq => hp q (List.mem_cons_of_mem _ hq))
      rw [← app_mid, if_neg (by simp)] at this
      rw [this]
      simp [avaT]
    simp only [prefectref4_PrintRDN_l8, prefectref4_PrintRDN_l8_b]
    rw [len_mid, cond_true, at0']
    by_cases ha : a = []
    · subst ha
      rw [decide_eq_true rfl, Bool.not_true, cond_false, hrest _ (by omega), if_pos rfl]
      simp [cat1]
    · rw [decide_eq_false ha, Bool.not_false, cond_true, catS_ok (by simp; omega), Option.bind_some, hrest _ (by simp; omega), if_neg ha]
      simp
theorem rprintRDN_eq {N : Nat} {r : List api_AVA} (hN : 1000 < N) (h : smR r) : prefectref4_PrintRDN N r = some (rdnT r) := by
  unfold prefectref4_PrintRDN
  have := rjoin_loop N hN r [] [] N (by simpa using h.1) (by have := h.1; omega) (by simp) h.2
  simp only [List.nil_append, List.length_nil, if_true] at this
  rw [show ((0 : Int)) = ((0 : Nat) : Int) from rfl, this]
  rfl
theorem rprint_loop (N : Nat) (hN : 1000 < N) : ∀ (b a : List (List api_AVA)) (out : List UInt8) (n : Nat), (a ++ b).length ≤ 1000 → b.length < n → out.length ≤ a.length * 5000000 → (∀ x ∈ b, smR x) →
    prefectref4_Print_l8 N (a ++ b) n (out, (a.length : Int)) = some (out ++ if a = [] then cat1 44 (b.map rdnT) else (b.map rdnT).flatMap (44 :: ·)) := by
  intro b
  induction b with
  | nil =>
    intro a out n hs hn ho _
    obtain ⟨n, rfl, _⟩ := fuel hn
    simp only [prefectref4_Print_l8, prefectref4_Print_l8_b]
    rw [len_end, cond_false]; simp [cat1]
  | cons x b ih =>
    intro a out n hs hn ho hp
    obtain ⟨n, rfl, hn'⟩ := fuel hn
    have hal : (a ++ x :: b).length = a.length + b.length + 1 := by simp; omega
    have hx := hp x List.mem_cons_self
    have hrl := rdnT_len hx
    have hol : out.length ≤ 5000000000 := by have := Nat.mul_le_mul_right 5000000 (show a.length ≤ 1000 by omega); omega
    have hrest : ∀ o : List UInt8, o.length ≤ a.length * 5000000 + 1 → prefectref4_Print_j17 (a ++ x :: b) N (a.length : Int) (prefectref4_Print_l8 N (a ++ x :: b) n) o = some (o ++ rdnT x ++ (b.map rdnT).flatMap (44 :: ·)) := by
      intro o ho'
      unfold prefectref4_Print_j17
      rw [idx_mid, Option.bind_some, rprintRDN_eq hN hx, Option.bind_some, catS_ok (by omega), Option.bind_some, suc_mid (a := a) (b := b) (x := x) (by omega)]
      have := ih (a ++ [x]) (o ++ rdnT x) n (by simpa using hs) hn' (by simp; omega) (fun q hq => hp q (List.mem_cons_of_mem _ hq))
      rw [← app_mid, if_neg (by simp)] at this
      rw [this]
    simp only [prefectref4_Print_l8, prefectref4_Print_l8_b]
    rw [len_mid, cond_true, at0']
    by_cases ha : a = []
    · subst ha
      rw [decide_eq_true rfl, Bool.not_true, cond_false, hrest _ (by omega), if_pos rfl]
      simp [cat1]
    · rw [decide_eq_false ha, Bool.not_false, cond_true, catS_ok (by simp; omega), Option.bind_some, hrest _ (by simp; omega), if_neg ha]
      simp
theorem rprint_eq {N : Nat} {d : List (List api_AVA)} (hN : 1000 < N) (hl : d.length ≤ 1000) (h : ∀ r ∈ d, smR r) : prefectref4_Print N d = some (dnT d) := by
  unfold prefectref4_Print
  have := rprint_loop N hN d [] [] N (by simpa using hl) (by omega) (by simp) h
  simp only [List.nil_append, List.length_nil, if_true] at this
  rw [show ((0 : Int)) = ((0 : Nat) : Int) from rfl, this]
  rfl
theorem sameR_loop (N : Nat) : ∀ (b a : List api_AVA) (n : Nat), (a ++ b).length ≤ 1000002 → b.length < n → prefectref4_SameRDN_l14 N (a ++ b) (a ++ b) n (a.length : Int) = some (.inl ()) := by
  intro b
  induction b with
  | nil =>
    intro a n hs hn
    obtain ⟨n, rfl, _⟩ := fuel hn
    simp only [prefectref4_SameRDN_l14, prefectref4_SameRDN_l14_b]
    rw [len_end, cond_false]
  | cons x b ih =>
    intro a n hs hn
    obtain ⟨n, rfl, hn'⟩ := fuel hn
    simp only [prefectref4_SameRDN_l14, prefectref4_SameRDN_l14_b]
    rw [len_mid, cond_true, idx_mid, Option.bind_some, Option.bind_some, suc_mid (a := a) (b := b) (x := x) (by omega)]
    have := ih (a ++ [x]) n (by simpa using hs) hn'
    rw [← app_mid] at this
    rw [this]
    simp
theorem sameR_eq {N : Nat} {r : List api_AVA} (hr : r.length ≤ 1000002) (hN : 2000000 < N) : prefectref4_SameRDN N r r = some true := by
  unfold prefectref4_SameRDN
  have := sameR_loop N r [] N (by simpa using hr) (by omega)
  simp only [List.nil_append, List.length_nil] at this
  rw [show ((0 : Int)) = ((0 : Nat) : Int) from rfl, this]
  simp [bne, Option.bind]
theorem same_loop (N : Nat) (hN : 2000000 < N) : ∀ (b a : List (List api_AVA)) (n : Nat), (a ++ b).length ≤ 1000002 → b.length < n → (∀ r ∈ b, r.length ≤ 1000002) → prefectlaw4_same_l14 N (a ++ b) (a ++ b) n (a.length : Int) = some (.inl ()) := by
  intro b
  induction b with
  | nil =>
    intro a n hs hn _
    obtain ⟨n, rfl, _⟩ := fuel hn
    simp only [prefectlaw4_same_l14, prefectlaw4_same_l14_b]
    rw [len_end, cond_false]
  | cons x b ih =>
    intro a n hs hn hr
    obtain ⟨n, rfl, hn'⟩ := fuel hn
    simp only [prefectlaw4_same_l14, prefectlaw4_same_l14_b]
    rw [len_mid, cond_true, idx_mid, Option.bind_some, Option.bind_some, sameR_eq (hr x List.mem_cons_self) hN, Option.bind_some, suc_mid (a := a) (b := b) (x := x) (by omega)]
    have := ih (a ++ [x]) n (by simpa using hs) hn' (fun q hq => hr q (List.mem_cons_of_mem _ hq))
    rw [← app_mid] at this
    rw [this]
    rfl
theorem same_eq {N : Nat} {d : List (List api_AVA)} (hd : d.length ≤ 1000002) (hr : ∀ r ∈ d, r.length ≤ 1000002) (hN : 2000000 < N) : prefectlaw4_same N d d = some true := by
  unfold prefectlaw4_same
  have := same_loop N hN d [] N (by simpa using hd) (by omega) hr
  simp only [List.nil_append, List.length_nil] at this
  rw [show ((0 : Int)) = ((0 : Nat) : Int) from rfl, this]
  simp [bne, Option.bind]
def fewA (a : api_AVA) : Bool := decide (a.Attr.length ≤ 30) && decide (a.Value.length ≤ 80)
def fewRS (r : List api_AVA) : Bool := r.all fewA && decide (r.length ≤ 6)
def fewS (d : List (List api_AVA)) : Bool := d.all fewRS && decide (d.length ≤ 12)
theorem fewR_loop (N : Nat) : ∀ (b a : List api_AVA) (n : Nat), (a ++ b).length ≤ 9223372036854775807 → b.length < n → prefectlaw4_fewRDN_l6 N (a ++ b) n (a.length : Int) = some (bif b.all fewA then .inl () else .inr false) := by
  intro b
  induction b with
  | nil =>
    intro a n hs hn
    obtain ⟨n, rfl, _⟩ := fuel hn
    simp only [prefectlaw4_fewRDN_l6, prefectlaw4_fewRDN_l6_b]
    rw [len_end, cond_false]; rfl
  | cons x b ih =>
    intro a n hs hn
    obtain ⟨n, rfl, hn'⟩ := fuel hn
    simp only [prefectlaw4_fewRDN_l6, prefectlaw4_fewRDN_l6_b]
    rw [len_mid, cond_true, idx_mid, Option.bind_some, Option.bind_some, suc_mid hs]
    have := ih (a ++ [x]) n (by simpa using hs) hn'
    rw [← app_mid] at this
    rw [this, List.all_cons, fewA, show decide ((x.Attr.length : Int) > 30) = !decide (x.Attr.length ≤ 30) by rw [Bool.eq_iff_iff]; simp; omega, show decide ((x.Value.length : Int) > 80) = !decide (x.Value.length ≤ 80) by rw [Bool.eq_iff_iff]; simp; omega]
    cases decide (x.Attr.length ≤ 30) <;> cases decide (x.Value.length ≤ 80) <;> rfl
theorem fewR_eq {N : Nat} {r : List api_AVA} (hr : r.length < N) (hN2 : N ≤ 9223372036854775808) : prefectlaw4_fewRDN N r = some (fewRS r) := by
  unfold prefectlaw4_fewRDN fewRS
  have := fewR_loop N r [] N (by simp; omega) hr
  simp only [List.nil_append, List.length_nil] at this
  rw [show ((0 : Int)) = ((0 : Nat) : Int) from rfl, this, show decide ((r.length : Int) ≤ 6) = decide (r.length ≤ 6) by rw [Bool.eq_iff_iff]; simp; omega]
  cases r.all fewA <;> rfl
theorem few_loop (N : Nat) (hN2 : N ≤ 9223372036854775808) : ∀ (b a : List (List api_AVA)) (n : Nat), (a ++ b).length ≤ 9223372036854775807 → b.length < n → (∀ r ∈ b, r.length < N) → prefectlaw4_few_l6 N (a ++ b) n (a.length : Int) = some (bif b.all fewRS then .inl () else .inr false) := by
  intro b
  induction b with
  | nil =>
    intro a n hs hn _
    obtain ⟨n, rfl, _⟩ := fuel hn
    simp only [prefectlaw4_few_l6, prefectlaw4_few_l6_b]
    rw [len_end, cond_false]; rfl
  | cons x b ih =>
    intro a n hs hn hr
    obtain ⟨n, rfl, hn'⟩ := fuel hn
    simp only [prefectlaw4_few_l6, prefectlaw4_few_l6_b]
    rw [len_mid, cond_true, idx_mid, Option.bind_some, fewR_eq (hr x List.mem_cons_self) hN2, Option.bind_some, suc_mid hs]
    have := ih (a ++ [x]) n (by simpa using hs) hn' (fun q hq => hr q (List.mem_cons_of_mem _ hq))
    rw [← app_mid] at this
    rw [this, List.all_cons]
    cases fewRS x <;> rfl
theorem few_eq {N : Nat} {d : List (List api_AVA)} (hd : d.length < N) (hr : ∀ r ∈ d, r.length < N) (hN2 : N ≤ 9223372036854775808) : prefectlaw4_few N d = some (fewS d) := by
  unfold prefectlaw4_few fewS
  have := few_loop N hN2 d [] N (by simp; omega) hd hr
  simp only [List.nil_append, List.length_nil] at this
  rw [show ((0 : Int)) = ((0 : Nat) : Int) from rfl, this, show decide ((d.length : Int) ≤ 12) = decide (d.length ≤ 12) by rw [Bool.eq_iff_iff]; simp; omega]
  cases d.all fewRS <;> rfl
theorem few_smR {r : List api_AVA} (h : fewRS r = true) : smR r := by
  unfold fewRS at h
  simp only [Bool.and_eq_true, decide_eq_true_eq, List.all_eq_true] at h
  refine ⟨by omega, fun a ha => ?_⟩
  have := h.1 a ha
  unfold fewA at this
  simp only [Bool.and_eq_true, decide_eq_true_eq] at this
  exact ⟨by omega, by omega⟩
theorem few_sm {d : List (List api_AVA)} (h : fewS d = true) : d.length ≤ 12 ∧ ∀ r ∈ d, smR r := by
  unfold fewS at h
  simp only [Bool.and_eq_true, decide_eq_true_eq, List.all_eq_true] at h
  exact ⟨h.2, fun r hr => few_smR (h.1 r hr)⟩
theorem known_big : prefectlaw4_known 9223372036854775808 = some true := by decide +kernel
end Go.Gp
end
section
set_option linter.unusedVariables false
set_option linter.unusedSimpArgs false
namespace Go.Gp
open Go.Vd
def Clean (sep : UInt8) (x : List UInt8) : Prop := ∀ y, cutS sep (x ++ y) = preH x (cutS sep y)
theorem clean_nil (sep : UInt8) : Clean sep [] := fun y => by rw [List.nil_append, preH_nil (cutS_ne _ _)]
theorem clean_app {sep : UInt8} {x y : List UInt8} (hx : Clean sep x) (hy : Clean sep y) : Clean sep (x ++ y) := fun z => by
  rw [List.append_assoc, hx, hy, preH_pre]
theorem clean_one {sep c : UInt8} (h : c ≠ 92) (h' : c ≠ sep) : Clean sep [c] := fun y => cutS_other h h' y
theorem clean_bs (sep d : UInt8) : Clean sep [92, d] := fun y => cutS_bs sep d y
theorem clean_cons {sep c : UInt8} {x : List UInt8} (h : c ≠ 92) (h' : c ≠ sep) (hx : Clean sep x) : Clean sep (c :: x) := clean_app (x := [c]) (clean_one h h') hx
theorem clean_plain {sep : UInt8} : ∀ x : List UInt8, (∀ c ∈ x, c ≠ 92 ∧ c ≠ sep) → Clean sep x
  | [], _ => clean_nil sep
  | c :: x, h => clean_cons (h c List.mem_cons_self).1 (h c List.mem_cons_self).2 (clean_plain x fun d hd => h d (List.mem_cons_of_mem _ hd))
theorem cut_cat {sep : UInt8} (hsep : sep ≠ 92) : ∀ (l : List (List UInt8)), l ≠ [] → (∀ x ∈ l, Clean sep x) → cutS sep (cat1 sep l) = l
  | [], h, _ => absurd rfl h
  | [x], _, h => by
    have := h x (by simp) []
    rw [List.append_nil] at this
    simp [cat1, this, cutS, preH]
  | x :: y :: xs, _, h => by
    have ih := cut_cat hsep (y :: xs) (by simp) fun z hz => h z (List.mem_cons_of_mem _ hz)
    have e : cat1 sep (x :: y :: xs) = x ++ sep :: cat1 sep (y :: xs) := by simp [cat1]
    rw [e, h x List.mem_cons_self, cutS_sep hsep, ih]
    simp [preH]
theorem hx_facts (c : UInt8) : mayC (hxA c) = false ∧ 0 ≤ hexV (hxA c) ∧ 0 ≤ hexV (hxB c) ∧ hx2 (hxA c) (hxB c) = c ∧ hxB c ≠ 92 ∧ hxB c ≠ 43 ∧ hxB c ≠ 44 := by
  have := u8_all (p := fun c => decide (mayC (hxA c) = false ∧ 0 ≤ hexV (hxA c) ∧ 0 ≤ hexV (hxB c) ∧ hx2 (hxA c) (hxB c) = c ∧ hxB c ≠ 92 ∧ hxB c ≠ 43 ∧ hxB c ≠ 44)) (by decide +kernel) c
  simpa using this
theorem spc_facts (c : UInt8) (h : spc c = false) : c ≠ 92 ∧ c ≠ 43 ∧ c ≠ 44 := by
  have := u8_all (p := fun c => spc c || decide (c ≠ 92 ∧ c ≠ 43 ∧ c ≠ 44)) (by decide +kernel) c
  simpa [h] using this
theorem ty_facts (c : UInt8) (h : tyB c = true) : lowB c = c ∧ c ≠ 92 ∧ c ≠ 43 ∧ c ≠ 44 ∧ c ≠ 61 := by
  have := u8_all (p := fun c => !tyB c || decide (lowB c = c ∧ c ≠ 92 ∧ c ≠ 43 ∧ c ≠ 44 ∧ c ≠ 61)) (by decide +kernel) c
  simpa [h] using this
theorem clean_unit {sep : UInt8} (hs : sep = 43 ∨ sep = 44) (f l : Bool) (c : UInt8) : Clean sep (unitS f l c) := by
  obtain ⟨_, _, _, _, h1, h2, h3⟩ := hx_facts c
  have hb : hxB c ≠ sep := by rcases hs with rfl | rfl <;> assumption
  rw [unitS_b]
  cases hct : ctl c with
  | true => exact clean_app (x := [92, hxA c]) (clean_bs sep _) (clean_one h1 hb)
  | false =>
    cases hq : (spc c || (f && (decide (c = 35) || decide (c = 32))) || (l && decide (c = 32))) with
    | true => exact clean_bs sep c
    | false =>
      have hsp : spc c = false := by cases hh : spc c with | false => rfl | true => rw [hh] at hq; simp at hq
      obtain ⟨k1, k2, k3⟩ := spc_facts c hsp
      exact clean_one k1 (by rcases hs with rfl | rfl <;> assumption)
theorem clean_esc {sep : UInt8} (hs : sep = 43 ∨ sep = 44) : ∀ (s : List UInt8) (f : Bool), Clean sep (escS f s)
  | [], _ => clean_nil sep
  | c :: s, f => clean_app (clean_unit hs f _ c) (clean_esc hs s false)
theorem unit_ne (f l : Bool) (c : UInt8) : unitS f l c ≠ [] := by
  unfold unitS; split; simp; split <;> simp
theorem esc_nil (s : List UInt8) (f : Bool) : escS f s = [] ↔ s = [] := by
  cases s with
  | nil => simp [escS]
  | cons c s => simp [escS, unit_ne]
theorem pl_esc : ∀ (s : List UInt8) (f : Bool), plS f (escS f s) = some s
  | [], f => rfl
  | c :: s, f => by
    have ih := pl_esc s false
    obtain ⟨h1, h2, h3, h4, _⟩ := hx_facts c
    rw [escS, unitS_b]
    cases hct : ctl c with
    | true =>
      rw [cond_true, List.cons_append, plS_cons, if_pos rfl]
      simp only [List.cons_append, List.nil_append]
      rw [if_neg (by simp [h1]), if_pos ⟨h2, h3⟩, ih, h4]
      rfl
    | false =>
      rw [cond_false]
      cases hq : (spc c || (f && (decide (c = 35) || decide (c = 32))) || (decide (s = []) && decide (c = 32))) with
      | true =>
        have hm : mayC c = true := by
          rw [may_spc]
          revert hq
          cases spc c <;> cases decide (c = 35) <;> cases decide (c = 32) <;> cases f <;> cases decide (s = []) <;> simp
        rw [cond_true, List.cons_append, plS_cons, if_pos rfl]
        simp only [List.cons_append, List.nil_append]
        rw [if_pos hm, ih]
        rfl
      | false =>
        have hsp : spc c = false := by cases hh : spc c with | false => rfl | true => rw [hh] at hq; simp at hq
        rw [cond_false, List.cons_append, List.nil_append, plS_cons, if_neg (spc_facts c hsp).1]
        have he : decide (escS false s = []) = decide (s = []) := by rw [Bool.eq_iff_iff]; simp [esc_nil]
        rw [he, hq, if_neg (by simp), ih]
        rfl
theorem type_facts {s : List UInt8} (h : isTypeS s = true) : s ≠ [] ∧ low s = s ∧ ∀ c ∈ s, c ≠ 92 ∧ c ≠ 43 ∧ c ≠ 44 ∧ c ≠ 61 := by
  unfold isTypeS at h
  cases s with
  | nil => cases h
  | cons c s =>
    simp only [Bool.and_eq_true] at h
    have hall := List.all_eq_true.1 h.2.2
    refine ⟨by simp, ?_, fun d hd => (ty_facts d (hall d hd)).2⟩
    unfold low
    exact (List.map_congr_left fun d hd => (ty_facts d (hall d hd)).1).trans (List.map_id _)
theorem clean_type {sep : UInt8} (hs : sep = 43 ∨ sep = 44) {s : List UInt8} (h : ∀ c ∈ s, c ≠ 92 ∧ c ≠ 43 ∧ c ≠ 44 ∧ c ≠ 61) : Clean sep s :=
  clean_plain s fun c hc => ⟨(h c hc).1, by rcases hs with rfl | rfl; exact (h c hc).2.1; exact (h c hc).2.2.1⟩
theorem clean_pair {sep : UInt8} (hs : sep = 43 ∨ sep = 44) {t v : List UInt8} (h : ∀ c ∈ t, c ≠ 92 ∧ c ≠ 43 ∧ c ≠ 44 ∧ c ≠ 61) (hv : Clean sep v) : Clean sep (t ++ 61 :: v) :=
  clean_app (clean_type hs h) (clean_cons (by decide) (by rcases hs with rfl | rfl <;> decide) hv)
theorem avaP_mk {t v w : List UInt8} (h : ∀ c ∈ t, c ≠ 92 ∧ c ≠ 43 ∧ c ≠ 44 ∧ c ≠ 61) (hv : plS true v = some w) : avaP (t ++ 61 :: v) = some ⟨low t, w⟩ := by
  unfold avaP
  rw [cutE_mk t v fun c hc => (h c hc).2.2.2, Option.bind_some]
  simp only [hv]
  rfl
theorem avaP_T {a : api_AVA} (h : isTypeS a.Attr = true) : avaP (avaT a) = some a := by
  obtain ⟨_, h2, h3⟩ := type_facts h
  unfold avaT
  rw [avaP_mk h3 (pl_esc a.Value true), h2]
theorem clean_avaT {sep : UInt8} (hs : sep = 43 ∨ sep = 44) {a : api_AVA} (h : isTypeS a.Attr = true) : Clean sep (avaT a) :=
  clean_pair hs (type_facts h).2.2 (clean_esc hs _ _)
theorem clean_cat {sep : UInt8} (hs : sep ≠ 43) : ∀ (l : List (List UInt8)), (∀ x ∈ l, Clean sep x) → Clean sep (cat1 43 l)
  | [], _ => clean_nil sep
  | [x], h => by
    have := h x (by simp)
    simpa [cat1] using this
  | x :: y :: xs, h => by
    have ih := clean_cat hs (y :: xs) fun z hz => h z (List.mem_cons_of_mem _ hz)
    have e : cat1 43 (x :: y :: xs) = x ++ 43 :: cat1 43 (y :: xs) := by simp [cat1]
    rw [e]
    exact clean_app (h x List.mem_cons_self) (clean_cons (by decide) (fun e => hs e.symm) ih)
theorem rdnP_list {l : List (List UInt8)} (h0 : l ≠ []) (hc : ∀ x ∈ l, Clean 43 x) : rdnP (cat1 43 l) = (l.mapM avaP).bind fun r => if isRDNS r then some r else none := by
  unfold rdnP
  rw [cut_cat (by decide) l h0 hc]
theorem nameP_list {l : List (List UInt8)} (h0 : l ≠ []) (h1 : cat1 44 l ≠ []) (hc : ∀ x ∈ l, Clean 44 x) : nameP (cat1 44 l) = (l.mapM rdnP).bind fun r => if r.length ≤ 8 then some r else none := by
  unfold nameP
  rw [if_neg h1, cut_cat (by decide) l h0 hc]
theorem mapM_map {α β : Type} {f : β → Option α} {g : α → β} : ∀ {l : List α}, (∀ a ∈ l, f (g a) = some a) → (l.map g).mapM f = some l
  | [], _ => rfl
  | a :: l, h => by
    rw [List.map_cons, List.mapM_cons, h a List.mem_cons_self, mapM_map fun b hb => h b (List.mem_cons_of_mem _ hb)]
    rfl
theorem rdn_back {r : List api_AVA} (h : isRDNS r = true) : rdnP (rdnT r) = some r ∧ Clean 44 (rdnT r) ∧ rdnT r ≠ [] := by
  have ht := isRDNS_types h
  have h0 : r ≠ [] := by intro e; subst e; cases h
  have h0' : r.map avaT ≠ [] := by simpa using h0
  refine ⟨?_, ?_, ?_⟩
  · unfold rdnT
    rw [rdnP_list h0' (fun x hx => by obtain ⟨a, ha, rfl⟩ := List.mem_map.1 hx; exact clean_avaT (.inl rfl) (ht a ha)), mapM_map fun a ha => avaP_T (ht a ha), Option.bind_some, if_pos h]
  · exact clean_cat (by decide) _ fun x hx => by obtain ⟨a, ha, rfl⟩ := List.mem_map.1 hx; exact clean_avaT (.inr rfl) (ht a ha)
  · cases r with
    | nil => exact absurd rfl h0
    | cons a r => simp [rdnT, cat1, avaT]
theorem dnT_nil {d : List (List api_AVA)} (h : ∀ r ∈ d, isRDNS r = true) : dnT d = [] ↔ d = [] := by
  cases d with
  | nil => simp [dnT, cat1]
  | cons r d => simp [dnT, cat1, (rdn_back (h r List.mem_cons_self)).2.2]
theorem dn_back {d : List (List api_AVA)} (h : ∀ r ∈ d, isRDNS r = true) : nameP (dnT d) = if d.length ≤ 8 then some d else none := by
  by_cases h0 : d = []
  · subst h0; rfl
  · have h1 : cat1 44 (d.map rdnT) ≠ [] := fun e => h0 ((dnT_nil h).1 e)
    unfold dnT
    rw [nameP_list (by simpa using h0) h1 (fun x hx => by obtain ⟨r, hr, rfl⟩ := List.mem_map.1 hx; exact (rdn_back (h r hr)).2.1), mapM_map fun r hr => (rdn_back (h r hr)).1, Option.bind_some]
theorem dnT_app {d e : List (List api_AVA)} (hd : d ≠ []) (he : e ≠ []) : dnT d ++ 44 :: dnT e = dnT (d ++ e) := by
  cases d with
  | nil => exact absurd rfl hd
  | cons r d =>
    cases e with
    | nil => exact absurd rfl he
    | cons q e => simp [dnT, cat1]
theorem few_len {d : List (List api_AVA)} (h : fewS d = true) : (dnT d).length ≤ 20000 := by
  unfold fewS at h
  simp only [Bool.and_eq_true, decide_eq_true_eq, List.all_eq_true] at h
  have hr : ∀ r ∈ d, (rdnT r).length ≤ 1632 := by
    intro r hr
    have := h.1 r hr
    unfold fewRS at this
    simp only [Bool.and_eq_true, decide_eq_true_eq, List.all_eq_true] at this
    have hl := cat1_len 43 271 (r.map avaT) (fun x hx => by
      obtain ⟨a, ha, rfl⟩ := List.mem_map.1 hx
      have h1 := this.1 a ha
      unfold fewA at h1
      simp only [Bool.and_eq_true, decide_eq_true_eq] at h1
      have h2 := escS_len a.Value true
      unfold avaT
      rw [List.length_append, List.length_cons]; omega)
    rw [List.length_map] at hl
    unfold rdnT
    omega
  have := cat1_len 44 1632 (d.map rdnT) (fun x hx => by obtain ⟨r, hr', rfl⟩ := List.mem_map.1 hx; exact hr r hr')
  rw [List.length_map] at this
  unfold dnT
  omega
theorem isS_all {d : List (List api_AVA)} (h : isS d = true) : d.length ≤ 8 ∧ ∀ r ∈ d, isRDNS r = true := by
  unfold isS at h
  simp only [Bool.and_eq_true, decide_eq_true_eq, List.all_eq_true] at h
  exact h
end Go.Gp
end
section
set_option linter.unusedVariables false
set_option linter.unusedSimpArgs false
namespace Go.Gp
open Go.Vd
def upx (a : UInt8) : UInt8 := (65 : UInt8) + (a % (26 : UInt8))
def lox (a : UInt8) : UInt8 := (97 : UInt8) + (a % (26 : UInt8))
def dgx (a : UInt8) : UInt8 := (48 : UInt8) + (a % (10 : UInt8))
theorem up_facts (a : UInt8) : lowB (upx a) = lox a ∧ tyA (lox a) = true ∧ tyB (lox a) = true ∧ tyA (upx a) = false ∧ (upx a ≠ 92 ∧ upx a ≠ 43 ∧ upx a ≠ 44 ∧ upx a ≠ 61) ∧ (lox a ≠ 92 ∧ lox a ≠ 43 ∧ lox a ≠ 44 ∧ lox a ≠ 61) := by
  have := u8_all (p := fun a => decide (lowB (upx a) = lox a ∧ tyA (lox a) = true ∧ tyB (lox a) = true ∧ tyA (upx a) = false ∧ (upx a ≠ 92 ∧ upx a ≠ 43 ∧ upx a ≠ 44 ∧ upx a ≠ 61) ∧ (lox a ≠ 92 ∧ lox a ≠ 43 ∧ lox a ≠ 44 ∧ lox a ≠ 61))) (by decide +kernel) a
  simpa using this
theorem val_facts (a : UInt8) : (ctl (upx a) = false ∧ spc (upx a) = false ∧ upx a ≠ 35 ∧ upx a ≠ 32) ∧ (ctl (lox a) = false ∧ spc (lox a) = false ∧ lox a ≠ 35 ∧ lox a ≠ 32) := by
  have := u8_all (p := fun a => decide ((ctl (upx a) = false ∧ spc (upx a) = false ∧ upx a ≠ 35 ∧ upx a ≠ 32) ∧ (ctl (lox a) = false ∧ spc (lox a) = false ∧ lox a ≠ 35 ∧ lox a ≠ 32))) (by decide +kernel) a
  simpa using this
theorem dg_facts (a : UInt8) : lowB (dgx a) = dgx a ∧ tyB (dgx a) = true ∧ dgx a ≠ 92 ∧ dgx a ≠ 43 ∧ dgx a ≠ 44 ∧ dgx a ≠ 61 := by
  have := u8_all (p := fun a => decide (lowB (dgx a) = dgx a ∧ tyB (dgx a) = true ∧ dgx a ≠ 92 ∧ dgx a ≠ 43 ∧ dgx a ≠ 44 ∧ dgx a ≠ 61)) (by decide +kernel) a
  simpa using this
theorem law_prefectlaw4_NameCases (a0 a1 a2 : UInt8) (_ : True) (_ : True) (_ : True) : ∃ N, prefectlaw4_NameCases N a0 a1 a2 = some true := by
  refine ⟨9223372036854775808, ?_⟩
  unfold prefectlaw4_NameCases
  rw [known_big, Option.bind_some]
  simp only [Bool.not_true, cond_false]
  rw [show (65 : UInt8) + (a0 % (26 : UInt8)) = upx a0 from rfl, show (97 : UInt8) + (a0 % (26 : UInt8)) = lox a0 from rfl, show (48 : UInt8) + (a1 % (10 : UInt8)) = dgx a1 from rfl, show (65 : UInt8) + (a2 % (26 : UInt8)) = upx a2 from rfl, show (97 : UInt8) + (a2 % (26 : UInt8)) = lox a2 from rfl]
  obtain ⟨f1, f2, f3, f4, f5, f6⟩ := up_facts a0
  obtain ⟨g1, g2, g3⟩ := dg_facts a1
  obtain ⟨⟨u1, u2, u3, u4⟩, v1, v2, v3, v4⟩ := val_facts a2
  obtain ⟨_, _, _, _, w5, w6⟩ := up_facts a2
  generalize upx a0 = U at *
  generalize lox a0 = L at *
  generalize dgx a1 = D at *
  generalize upx a2 = V at *
  generalize lox a2 = W at *
  have hT : ∀ c ∈ [U, D, 45], c ≠ 92 ∧ c ≠ 43 ∧ c ≠ 44 ∧ c ≠ 61 := by intro c hc; simp at hc; rcases hc with rfl | rfl | rfl; exact f5; exact g3; decide
  have ht : ∀ c ∈ [L, D, 45], c ≠ 92 ∧ c ≠ 43 ∧ c ≠ 44 ∧ c ≠ 61 := by intro c hc; simp at hc; rcases hc with rfl | rfl | rfl; exact f6; exact g3; decide
  have hlT : low [U, D, 45] = [L, D, 45] := by simp [low, f1, g1]; decide
  have t45 : tyB 45 = true := by decide
  have hty : isTypeS [L, D, 45] = true := by simp [isTypeS, f2, f3, g2, t45]
  have htyU : isTypeS [U, D, 45] = false := by simp [isTypeS, f4]
  have hlt : low [L, D, 45] = [L, D, 45] := (type_facts hty).2.1
  have hpv : plS true [V, W] = some [V, W] := by
    rw [plS_cons, if_neg w5.1, u2, decide_eq_false u3, decide_eq_false u4, if_neg (by simp), plS_cons, if_neg w6.1, v2, decide_eq_false v3, decide_eq_false v4, if_neg (by simp)]
    rfl
  have hcv : ∀ sep : UInt8, sep = 43 ∨ sep = 44 → Clean sep [V, W] := by
    intro sep hs
    refine clean_plain _ fun c hc => ?_
    simp at hc
    rcases hc with rfl | rfl
    · exact ⟨w5.1, by rcases hs with rfl | rfl; exact w5.2.1; exact w5.2.2.1⟩
    · exact ⟨w6.1, by rcases hs with rfl | rfl; exact w6.2.1; exact w6.2.2.1⟩
  have hev : escS true [V, W] = [V, W] := by
    rw [escS, escS, escS, unitS_b, unitS_b, u1, u2, v1, v2, decide_eq_false u3, decide_eq_false u4, decide_eq_false v4]
    rfl
  have avT : avaP ([U, D, 45] ++ 61 :: [V, W]) = some ⟨[L, D, 45], [V, W]⟩ := by rw [avaP_mk hT hpv, hlT]
  have avt : avaP ([L, D, 45] ++ 61 :: [V, W]) = some ⟨[L, D, 45], [V, W]⟩ := by rw [avaP_mk ht hpv, hlt]
  have hr1 : isRDNS [(⟨[L, D, 45], [V, W]⟩ : api_AVA)] = true := by simp [isRDNS, rdnGo, avaS, hty]
  have hr2 : isRDNS [(⟨[L, D, 45], [V, W]⟩ : api_AVA), ⟨[L, D, 45], [V, W]⟩] = false := by simp [isRDNS, rdnGo, avaS, hty]
  have cT : ∀ sep : UInt8, sep = 43 ∨ sep = 44 → Clean sep ([U, D, 45] ++ 61 :: [V, W]) := fun sep hs => clean_pair hs hT (hcv sep hs)
  have ct : ∀ sep : UInt8, sep = 43 ∨ sep = 44 → Clean sep ([L, D, 45] ++ 61 :: [V, W]) := fun sep hs => clean_pair hs ht (hcv sep hs)
  have rT : rdnP ([U, D, 45] ++ 61 :: [V, W]) = some [⟨[L, D, 45], [V, W]⟩] := by
    have := rdnP_list (l := [[U, D, 45] ++ 61 :: [V, W]]) (by simp) (by intro x hx; rw [List.mem_singleton] at hx; subst hx; exact cT 43 (.inl rfl))
    rw [List.mapM_cons, avT] at this
    simpa [cat1, hr1] using this
  have rt : rdnP ([L, D, 45] ++ 61 :: [V, W]) = some [⟨[L, D, 45], [V, W]⟩] := by
    have := rdnP_list (l := [[L, D, 45] ++ 61 :: [V, W]]) (by simp) (by intro x hx; rw [List.mem_singleton] at hx; subst hx; exact ct 43 (.inl rfl))
    rw [List.mapM_cons, avt] at this
    simpa [cat1, hr1] using this
  have p1 : nameP [U, D, 45, 61, V, W] = some [[⟨[L, D, 45], [V, W]⟩]] := by
    have := nameP_list (l := [[U, D, 45] ++ 61 :: [V, W]]) (by simp) (by simp [cat1]) (by intro x hx; rw [List.mem_singleton] at hx; subst hx; exact cT 44 (.inr rfl))
    rw [List.mapM_cons, rT] at this
    simpa [cat1] using this
  have p2 : nameP [L, D, 45, 61, V, W, 44, U, D, 45, 61, V, W] = some [[⟨[L, D, 45], [V, W]⟩], [⟨[L, D, 45], [V, W]⟩]] := by
    have := nameP_list (l := [[L, D, 45] ++ 61 :: [V, W], [U, D, 45] ++ 61 :: [V, W]]) (by simp) (by simp [cat1]) (by
      intro x hx
      rcases List.mem_cons.1 hx with rfl | hx
      · exact ct 44 (.inr rfl)
      · rw [List.mem_singleton] at hx; subst hx; exact cT 44 (.inr rfl))
    rw [List.mapM_cons, rt, List.mapM_cons, rT] at this
    simpa [cat1] using this
  have p3 : nameP [L, D, 45, 61, V, W, 43, U, D, 45, 61, V, W] = none := by
    have hr := rdnP_list (l := [[L, D, 45] ++ 61 :: [V, W], [U, D, 45] ++ 61 :: [V, W]]) (by simp) (by
      intro x hx
      rcases List.mem_cons.1 hx with rfl | hx
      · exact ct 43 (.inl rfl)
      · rw [List.mem_singleton] at hx; subst hx; exact cT 43 (.inl rfl))
    rw [List.mapM_cons, avt, List.mapM_cons, avT] at hr
    have hc : Clean 44 (cat1 43 [[L, D, 45] ++ 61 :: [V, W], [U, D, 45] ++ 61 :: [V, W]]) := clean_cat (by decide) _ (by
      intro x hx
      rcases List.mem_cons.1 hx with rfl | hx
      · exact ct 44 (.inr rfl)
      · rw [List.mem_singleton] at hx; subst hx; exact cT 44 (.inr rfl))
    have := nameP_list (l := [cat1 43 [[L, D, 45] ++ 61 :: [V, W], [U, D, 45] ++ 61 :: [V, W]]]) (by simp) (by simp [cat1]) (by intro x hx; rw [List.mem_singleton] at hx; subst hx; exact hc)
    rw [List.mapM_cons, hr] at this
    simpa [cat1, hr2] using this
  have k : ∀ p q : List UInt8, p.length + q.length ≤ 100 → catS p q = some (p ++ q) := fun p q h => catS_ok (by omega)
  have hsm : ∀ r ∈ [[(⟨[L, D, 45], [V, W]⟩ : api_AVA)]], smR r := by
    intro r hr; simp at hr; subst hr
    exact ⟨by simp, by intro x hx; simp at hx; subst hx; exact ⟨by simp, by simp⟩⟩
  have his : isS [[(⟨[L, D, 45], [V, W]⟩ : api_AVA)]] = true := by unfold isS; simp [hr1]
  have hpr : dn_Print 9223372036854775808 [[(⟨[L, D, 45], [V, W]⟩ : api_AVA)]] = some [L, D, 45, 61, V, W] := by
    rw [print_eq (by omega) (Nat.le_refl _) (by simp) hsm, his, if_pos rfl]
    simp [dnT, rdnT, cat1, avaT, hev]
  have c1 : catS [U, D, 45] [61] = some [U, D, 45, 61] := k _ _ (by simp)
  have c2 : catS [U, D, 45, 61] [V, W] = some [U, D, 45, 61, V, W] := k _ _ (by simp)
  have c3 : catS [L, D, 45] [61] = some [L, D, 45, 61] := k _ _ (by simp)
  have c4 : catS [L, D, 45, 61] [V, W] = some [L, D, 45, 61, V, W] := k _ _ (by simp)
  have c5 : ∀ s : UInt8, catS [L, D, 45, 61, V, W] [s] = some [L, D, 45, 61, V, W, s] := fun s => k _ _ (by simp)
  have c6 : ∀ s : UInt8, catS [L, D, 45, 61, V, W, s] [U, D, 45] = some [L, D, 45, 61, V, W, s, U, D, 45] := fun s => k _ _ (by simp)
  have c7 : ∀ s : UInt8, catS [L, D, 45, 61, V, W, s, U, D, 45] [61] = some [L, D, 45, 61, V, W, s, U, D, 45, 61] := fun s => k _ _ (by simp)
  have c8 : ∀ s : UInt8, catS [L, D, 45, 61, V, W, s, U, D, 45, 61] [V, W] = some [L, D, 45, 61, V, W, s, U, D, 45, 61, V, W] := fun s => k _ _ (by simp)
  have q1 : dn_Parse 9223372036854775808 [U, D, 45, 61, V, W] = some ([[⟨[L, D, 45], [V, W]⟩]], 0) := by rw [parse_eq (by simp) (by omega) (Nat.le_refl _), p1]
  have q2 : dn_Parse 9223372036854775808 [L, D, 45, 61, V, W, 44, U, D, 45, 61, V, W] = some ([[⟨[L, D, 45], [V, W]⟩], [⟨[L, D, 45], [V, W]⟩]], 0) := by rw [parse_eq (by simp) (by omega) (Nat.le_refl _), p2]
  have q3 : dn_Parse 9223372036854775808 [L, D, 45, 61, V, W, 43, U, D, 45, 61, V, W] = some ([], 15) := by rw [parse_eq (by simp) (by omega) (Nat.le_refl _), p3]
  have i1 : dn_IsType 9223372036854775808 [L, D, 45] = some true := by rw [isType_eq (by simp) (by simp), hty]
  have i2 : dn_IsType 9223372036854775808 [U, D, 45] = some false := by rw [isType_eq (by simp) (by simp), htyU]
  have l1 : dn_Lower 9223372036854775808 [U, D, 45] = some [L, D, 45] := by rw [lower_eq (by simp) (by simp), hlT]
  simp only [c1, c2, c3, c4, c5, c6, c7, c8, q1, q2, q3, Option.bind_some]
  have hx0 : idxL [[(⟨[L, D, 45], [V, W]⟩ : api_AVA)]] (0 : Int) = some [⟨[L, D, 45], [V, W]⟩] := rfl
  have hx1 : idxL [(⟨[L, D, 45], [V, W]⟩ : api_AVA)] (0 : Int) = some ⟨[L, D, 45], [V, W]⟩ := rfl
  simp [hx0, hx1, hpr, i1, i2, l1]
end Go.Gp
end
