/- A part of the proof: functions of the program and what they compute. -/
import Derived.Test.YtlopcglohpfonaaGreatDoorA5
import Derived.Test.YtlopcglohpfonaaGreatDoorA14
import Derived.Test.YtlopcglohpfonaaGreatDoorA4
import Derived.KernelRfl
section
set_option linter.unusedVariables false
set_option linter.unusedSimpArgs false
namespace Go.Gp
open Go.Vd
def wG (c : UInt8) : UInt8 := if 65 ≤ c.toNat ∧ c.toNat ≤ 90 then c + 32 else c
def low (s : List UInt8) : List UInt8 := s.map wG
def xG (c : UInt8) : Bool := decide (65 ≤ c.toNat) && decide (c.toNat ≤ 90)
theorem Au (c : UInt8) : (bif decide (((c).toNat : Int) ≥ (65 : Int)) then some (decide (((c).toNat : Int) ≤ (90 : Int))) else some false) = some (xG c) := by
 have := TN (p := fun c => (bif decide (((c).toNat : Int) ≥ (65 : Int)) then some (decide (((c).toNat : Int) ≤ (90 : Int))) else some false) == some (xG c)) (by decide +kernel) c
 simpa using this
theorem Gz (c : UInt8) : wG c = bif xG c then c + 32 else c := by
 have := TN (p := fun c => wG c == bif xG c then c + 32 else c) (by decide +kernel) c
 simpa using this
theorem nJ (N : Nat) : ∀ (b a d : List UInt8) (n : Nat), (a ++ b).length ≤ 9223372036854775807 → b.length < n → d.length = a.length →
  J9 N (a ++ b) n ((a.length : Int), d ++ b) = some (d ++ low b) := by
 intro b
 induction b with
 | nil =>
  intro a d n hs hn hd
  obtain ⟨n, rfl, _⟩ := fuel hn
  simp only [J9, OM]
  rw [EX, cond_false]; rfl
 | cons c b ih =>
  intro a d n hs hn hd
  obtain ⟨n, rfl, hn'⟩ := fuel hn
  simp only [J9, OM, Q3]
  rw [F3, cond_true]
  have hnx : ∀ x, J9 N (a ++ c :: b) n (CE ((a.length : Int) + 1), d ++ x :: b) = some (d ++ x :: low b) := by
   intro x
   rw [F5 hs, F8 a b c, F8 d b x, ih (a ++ [c]) (d ++ [x]) n (by simpa using hs) hn' (by simp [hd])]
   simp
  rw [← hd, YD, oS, NY, oS, Au]
  simp only [oS, NY, set_mid]
  rw [hd, hnx, hnx]
  show _ = some (d ++ wG c :: low b)
  rw [Gz]
  cases xG c <;> rfl
theorem lower_eq {N : Nat} {s : List UInt8} (hs : s.length ≤ 9223372036854775807) (hN : s.length < N) : TE N s = some (low s) := by
 unfold TE
 have := nJ N s [] [] N hs hN rfl
 simp only [List.nil_append, List.length_nil] at this
 rw [show ((0 : Int)) = ((0 : Nat) : Int) from rfl, this]
 rfl
def tyA (c : UInt8) : Bool := decide (97 ≤ c.toNat) && decide (c.toNat ≤ 122)
def Gq (c : UInt8) : Bool := tyA c || (decide (48 ≤ c.toNat) && decide (c.toNat ≤ 57)) || decide (c.toNat = 45)
def aU (s : List UInt8) : Bool := match s with
 | [] => false
 | c :: t => decide (t.length < 16) && (tyA c && (c :: t).all Gq)
theorem Az (c : UInt8) (x y : Option (Unit ⊕ Bool)) : (Option.bind (bif decide (((c).toNat : Int) ≥ (97 : Int)) then some (decide (((c).toNat : Int) ≤ (122 : Int))) else some false) fun (g7 : Bool) =>
   bif g7 then x else Option.bind (bif decide (((c).toNat : Int) ≥ (48 : Int)) then some (decide (((c).toNat : Int) ≤ (57 : Int))) else some false) fun (g11 : Bool) =>
    bif g11 then (bif g11 then x else y) else (bif (((c).toNat : Int) == (45 : Int)) then x else y)) = bif Gq c then x else y := by
 have := TN (p := fun c => (Option.bind (bif decide (((c).toNat : Int) ≥ (97 : Int)) then some (decide (((c).toNat : Int) ≤ (122 : Int))) else some false) fun (g7 : Bool) =>
   bif g7 then some true else Option.bind (bif decide (((c).toNat : Int) ≥ (48 : Int)) then some (decide (((c).toNat : Int) ≤ (57 : Int))) else some false) fun (g11 : Bool) =>
    bif g11 then (bif g11 then some true else some false) else (bif (((c).toNat : Int) == (45 : Int)) then some true else some false)) == some (Gq c)) (by decide +kernel) c
 revert this
 cases decide (((c).toNat : Int) ≥ (97 : Int)) <;> cases decide (((c).toNat : Int) ≤ (122 : Int)) <;> cases decide (((c).toNat : Int) ≥ (48 : Int)) <;> cases decide (((c).toNat : Int) ≤ (57 : Int)) <;> cases (((c).toNat : Int) == (45 : Int)) <;> cases Gq c <;> simp
theorem Ay (c : UInt8) : (bif decide (((c).toNat : Int) < (97 : Int)) then some true else some (decide (((c).toNat : Int) > (122 : Int)))) = some (!tyA c) := by
 have := TN (p := fun c => (bif decide (((c).toNat : Int) < (97 : Int)) then some true else some (decide (((c).toNat : Int) > (122 : Int)))) == some (!tyA c)) (by decide +kernel) c
 simpa using this
theorem rQ (N : Nat) : ∀ (b a : List UInt8) (n : Nat), (a ++ b).length ≤ 9223372036854775807 → b.length < n →
  IY N (a ++ b) n (a.length : Int) = some (bif b.all Gq then .inl () else .inr false) := by
 intro b
 induction b with
 | nil =>
  intro a n hs hn
  obtain ⟨n, rfl, _⟩ := fuel hn
  simp only [IY, LY]
  rw [EX, cond_false]; rfl
 | cons c b ih =>
  intro a n hs hn
  obtain ⟨n, rfl, hn'⟩ := fuel hn
  simp only [IY, LY, OP, OO]
  rw [F3, cond_true, YD, oS, NY, oS, F5 hs]
  have := ih (a ++ [c]) n (by simpa using hs) hn'
  rw [← F8] at this
  rw [this, Az, List.all_cons]
  cases Gq c <;> rfl
theorem sU {N : Nat} {s : List UInt8} (hs : s.length ≤ 9223372036854775807) (hN : s.length < N) : VT N s = some (aU s) := by
 unfold VT aU
 cases s with
 | nil => rfl
 | cons c s =>
  have h0 : (c :: s == ([] : List UInt8)) = false := rfl
  have hi := FH [] s c
  have hl := rQ N (c :: s) [] N hs hN
  simp only [List.nil_append, List.length_nil] at hi hl
  rw [h0, cond_false, show ((0 : Int)) = ((0 : Nat) : Int) from rfl, hi]
  simp only [oS, Ay, hl]
  by_cases hl : s.length < 16
  ·rw [decide_eq_false (show ¬ (((c :: s).length : Int) > 16) by rw [List.length_cons]; omega), cond_false, oS, decide_eq_true hl, Bool.true_and]
   cases tyA c <;> cases (c :: s).all Gq <;> rfl
  ·rw [decide_eq_true (show (((c :: s).length : Int) > 16) by rw [List.length_cons]; omega), decide_eq_false hl]
   rfl
def okA (N : Nat) (a : AU) : Prop := a.Attr.length < N ∧ a.Value.length < N
def avaS (a : AU) : Bool := aU a.Attr && (decide (1 ≤ a.Value.length) && decide (a.Value.length ≤ 60))
def Y0 : List AU → List AU → Bool
 | _, [] => true
 | d, a :: r => avaS a && (!d.any (fun x => x.Attr == a.Attr) && Y0 (d ++ [a]) r)
def V6 (r : List AU) : Bool := decide (1 ≤ r.length) && (decide (r.length ≤ 4) && Y0 [] r)
theorem fD (N : Nat) (c : AU) : ∀ (b a : List AU) (n : Nat), (a ++ b).length ≤ 9223372036854775807 → b.length < n →
  ∃ i : Nat, BN N (a ++ b) c n (a.length : Int) = some (bif b.any (fun x => x.Attr == c.Attr) then .inr (i : Int) else .inl ()) := by
 intro b
 induction b with
 | nil =>
  intro a n hs hn
  obtain ⟨n, rfl, _⟩ := fuel hn
  simp only [BN, CO]
  rw [EX, cond_false]; exact ⟨0, rfl⟩
 | cons x b ih =>
  intro a n hs hn
  obtain ⟨n, rfl, hn'⟩ := fuel hn
  obtain ⟨i, hi⟩ := ih (a ++ [x]) n (by simpa using hs) hn'
  rw [← F8] at hi
  simp only [BN, CO, X5]
  rw [F3, cond_true, FH, oS, oS, F5 hs, hi, List.any_cons]
  cases x.Attr == c.Attr
  ·exact ⟨i, rfl⟩
  ·exact ⟨a.length, rfl⟩
theorem lN {N : Nat} {l : List AU} {c : AU} (hs : l.length < N) (hN : N ≤ 9223372036854775808) : CQ N l c = some (l.any (fun x => x.Attr == c.Attr)) := by
 unfold CQ EH
 obtain ⟨i, hi⟩ := fD N c l [] N (by simp; omega) hs
 simp only [List.nil_append, List.length_nil] at hi
 rw [show ((0 : Int)) = ((0 : Nat) : Int) from rfl, hi]
 cases l.any (fun x => x.Attr == c.Attr)
 ·rfl
 ·simp [Option.bind]
theorem nR (N : Nat) (hN : N ≤ 9223372036854775808) (h5 : 5 < N) : ∀ (b a : List AU) (n : Nat), (a ++ b).length < N → b.length < n → (∀ x ∈ b, okA N x) →
  KT N (a ++ b) n (a.length : Int) = some (bif decide ((a ++ b).length ≤ 4) && Y0 a b || decide (b = []) then .inl () else .inr false) := by
 intro b
 induction b with
 | nil =>
  intro a n hs hn _
  obtain ⟨n, rfl, _⟩ := fuel hn
  simp only [KT, OQ]
  rw [EX, cond_false]; simp
 | cons x b ih =>
  intro a n hs hn hok
  obtain ⟨n, rfl, hn'⟩ := fuel hn
  have hi := ih (a ++ [x]) n (by simpa using hs) hn' (fun y hy => hok y (List.mem_cons_of_mem _ hy))
  rw [← F8] at hi
  have hx := hok x List.mem_cons_self
  simp only [KT, OQ]
  rw [F3, cond_true, FH, oS, F5 (a := a) (b := b) (x := x) (by omega), hi, sU (by have := hx.1; omega) hx.1, VM (by simp)]
  rw [List.take_left' rfl]
  have hal : (a ++ x :: b).length = a.length + b.length + 1 := by simp; omega
  simp only [oS]
  rw [lN (by omega) hN, oS]
  by_cases h4 : a.length < 4
  ·rw [decide_eq_false (show ¬ ((a.length : Int) ≥ 4) by omega), cond_false]
   have hv0 : (x.Value == ([] : List UInt8)) = !decide (1 ≤ x.Value.length) := by cases x.Value <;> simp
   have hv1 : decide ((x.Value.length : Int) > 60) = !decide (x.Value.length ≤ 60) := by rw [Bool.eq_iff_iff]; simp; omega
   rw [hv0, hv1]
   have hnil : decide (x :: b = []) = false := by simp
   rw [hnil, Bool.or_false, Y0, avaS]
   have hb : decide ((a ++ x :: b).length ≤ 4) = true ∨ (decide ((a ++ x :: b).length ≤ 4) = false ∧ decide (b = []) = false) := by
    by_cases hh : (a ++ x :: b).length ≤ 4
    ·exact .inl (decide_eq_true hh)
    ·refine .inr ⟨decide_eq_false hh, decide_eq_false fun e => hh ?_⟩
     subst e; rw [hal]; simp; omega
   have hgo : b = [] → Y0 (a ++ [x]) b = true := by intro e; subst e; rfl
   have hgo' : (decide ((a ++ x :: b).length ≤ 4) && Y0 (a ++ [x]) b || decide (b = [])) = (decide ((a ++ x :: b).length ≤ 4) && Y0 (a ++ [x]) b) := by
    rcases hb with hb | ⟨hb, hb'⟩
    ·by_cases e : b = []
     ·rw [hb, hgo e]; simp
     ·rw [decide_eq_false e, Bool.or_false]
    ·rw [hb, hb']; rfl
   rw [hgo']
   cases aU x.Attr <;> cases decide (1 ≤ x.Value.length) <;> cases decide (x.Value.length ≤ 60) <;> cases a.any (fun y => y.Attr == x.Attr) <;> cases decide ((a ++ x :: b).length ≤ 4) <;> cases Y0 (a ++ [x]) b <;> rfl
  ·rw [decide_eq_true (show ((a.length : Int) ≥ 4) by omega), decide_eq_false (show ¬ ((a ++ x :: b).length ≤ 4) by omega)]
   simp
theorem l5 {N : Nat} {r : List AU} (hN : N ≤ 9223372036854775808) (h5 : 5 < N) (hr : r.length < N) (hok : ∀ x ∈ r, okA N x) : VB N r = some (V6 r) := by
 unfold VB
 have h := nR N hN h5 r [] N (by simpa using hr) hr hok
 simp only [List.nil_append, List.length_nil] at h
 rw [show ((0 : Int)) = ((0 : Nat) : Int) from rfl, h]
 unfold V6
 cases r with
 | nil => rfl
 | cons x r =>
  rw [decide_eq_true (show 1 ≤ (x :: r).length by simp)]
  have : decide (x :: r = []) = false := by simp
  rw [this, Bool.or_false, Bool.true_and]
  have : decide (((x :: r).length : Int) > ((0 : Nat) : Int)) = true := by simp
  cases decide ((x :: r).length ≤ 4) && Y0 [] (x :: r)
  ·rfl
  ·simp [Option.bind]
def SC (p : List UInt8) : List (List UInt8) → List (List UInt8)
 | [] => [p]
 | x :: xs => (p ++ x) :: xs
def KU (sep : UInt8) : List UInt8 → List (List UInt8)
 | [] => [[]]
 | [c] => if c = 92 then [[c]] else if c = sep then [[], []] else [[c]]
 | c :: d :: s => if c = 92 then SC [c, d] (KU sep s) else if c = sep then [] :: KU sep (d :: s) else SC [c] (KU sep (d :: s))
theorem kG (p q : List UInt8) (l : List (List UInt8)) : SC p (SC q l) = SC (p ++ q) l := by cases l <;> simp [SC]
theorem pU (p : List UInt8) (l : List (List UInt8)) : SC p l ≠ [] := by cases l <;> simp [SC]
theorem kH {l : List (List UInt8)} (h : l ≠ []) : SC [] l = l := by cases l <;> simp_all [SC]
theorem YB (sep : UInt8) : ∀ s, KU sep s ≠ []
 | [] => by simp [KU]
 | [c] => by unfold KU; split; simp; split <;> simp
 | c :: d :: s => by
  unfold KU
  split
  ·exact pU _ _
  ·split
   ·simp
   ·exact pU _ _
theorem yT {sep : UInt8} (h : sep ≠ 92) (s : List UInt8) : KU sep (sep :: s) = [] :: KU sep s := by
 cases s with
 | nil => simp [KU, h]
 | cons d s => rw [KU, if_neg h, if_pos rfl]
theorem oD {sep c : UInt8} (h : c ≠ 92) (h' : c ≠ sep) (s : List UInt8) : KU sep (c :: s) = SC [c] (KU sep s) := by
 cases s with
 | nil => simp [KU, h, h', SC]
 | cons d s => rw [KU, if_neg h, if_neg h']
theorem Gm (c d : UInt8) : (((c.toNat : Nat) : Int) == ((d.toNat : Nat) : Int)) = decide (c = d) := by
 rw [u8_eq, Bool.eq_iff_iff]; simp
theorem is92 (c : UInt8) : (((c).toNat : Int) == (92 : Int)) = decide (c = 92) := by
 have := TN (p := fun c => (((c).toNat : Int) == (92 : Int)) == decide (c = 92)) (by decide +kernel) c
 simpa using this
theorem yR (N : Nat) (sep : UInt8) : ∀ (k : Nat) (b a : List UInt8) (f : Nat) (out : List (List UInt8)) (n : Nat), b.length ≤ k → (a ++ b).length ≤ 1000000 → b.length < n → f ≤ a.length → out.length ≤ a.length →
  ∃ (f' : Nat) (out' : List (List UInt8)), JI N (a ++ b) sep n ((f : Int), (a.length : Int), out) = some ((f' : Int), out') ∧ f' ≤ (a ++ b).length ∧ out'.length ≤ (a ++ b).length ∧ out' ++ [(a ++ b).drop f'] = out ++ SC (a.drop f) (KU sep b) := by
 intro k
 induction k with
 | zero =>
  intro b a f out n hk hs hn hf ho
  obtain rfl : b = [] := List.length_eq_zero_iff.1 (by omega)
  obtain ⟨n, rfl, _⟩ := fuel hn
  simp only [JI, LC]
  rw [EX, cond_false]
  exact ⟨f, out, rfl, by simpa using hf, by simpa using ho, by simp [KU, SC]⟩
 | succ k ih =>
  intro b a f out n hk hs hn hf ho
  cases b with
  | nil =>
   obtain ⟨n, rfl, _⟩ := fuel hn
   simp only [JI, LC]
   rw [EX, cond_false]
   exact ⟨f, out, rfl, by simpa using hf, by simpa using ho, by simp [KU, SC]⟩
  | cons c b =>
   obtain ⟨n, rfl, hn'⟩ := fuel hn
   have hal : (a ++ c :: b).length = a.length + b.length + 1 := by simp; omega
   simp only [JI, LC, QN]
   rw [F3, cond_true, FH, oS, is92, Gm, F5 (a := a) (b := b) (x := c) (by omega)]
   by_cases hc : c = 92
   ·rw [decide_eq_true hc, cond_true, LP (by simp; omega)]
    cases b with
    | nil =>
     obtain ⟨n, rfl, _⟩ := fuel (k := 0) (n := n) (by simp at hn; omega)
     simp only [JI, LC]
     rw [X8, decide_eq_false (by simp), cond_false]
     refine ⟨f, out, rfl, by simp; omega, by simp; omega, ?_⟩
     rw [KU, if_pos hc, List.drop_append_of_le_length hf]
     rfl
    | cons d s =>
     obtain ⟨f', out', h1, h2, h3, h4⟩ := ih s (a ++ [c, d]) f out n (by simp at hk; omega) (by simpa using hs) (by simp at hn; omega) (by simp; omega) (by simp; omega)
     have e : a ++ c :: d :: s = a ++ [c, d] ++ s := by simp
     have el : ((((a ++ [c]).length + 1 : Nat)) : Int) = ((a ++ [c, d]).length : Int) := by simp; omega
     rw [e, el]
     refine ⟨f', out', h1, h2, h3, ?_⟩
     ·rw [h4, KU, if_pos hc, kG, List.drop_append_of_le_length hf]
   ·rw [decide_eq_false hc, cond_false]
    have e : a ++ c :: b = a ++ [c] ++ b := by simp
    by_cases hp : c = sep
    ·rw [decide_eq_true hp, cond_true, lM hf (by omega), oS, KA (by simp; omega), oS, List.take_left' rfl]
     obtain ⟨f', out', h1, h2, h3, h4⟩ := ih b (a ++ [c]) (a ++ [c]).length (out ++ [a.drop f]) n (by simp at hk; omega) (by simpa using hs) (by simp at hn; omega) (by omega) (by simp; omega)
     rw [e]
     refine ⟨f', out', h1, h2, h3, ?_⟩
     ·rw [h4, List.drop_length, kH (YB _ _)]
      subst hp
      rw [yT hc]
      simp [SC]
    ·rw [decide_eq_false hp, cond_false]
     obtain ⟨f', out', h1, h2, h3, h4⟩ := ih b (a ++ [c]) f out n (by simp at hk; omega) (by simpa using hs) (by simp at hn; omega) (by simp; omega) (by simp; omega)
     rw [e]
     refine ⟨f', out', h1, h2, h3, ?_⟩
     rw [h4, oD hc hp, kG, List.drop_append_of_le_length hf]
theorem yS {N : Nat} {s : List UInt8} {sep : UInt8} (hs : s.length ≤ 1000000) (hN : s.length < N) : dK N s sep = some (KU sep s) := by
 unfold dK
 obtain ⟨f', out', h1, h2, h3, h4⟩ := yR N sep s.length s [] 0 [] N (Nat.le_refl _) hs hN (Nat.le_refl _) (Nat.le_refl _)
 simp only [List.nil_append, List.length_nil, List.drop_nil] at h1 h2 h3 h4
 rw [show ((0 : Int)) = ((0 : Nat) : Int) from rfl, h1, oS]
 simp only
 rw [VS h2, oS, KA (by simp; omega), oS, h4, kH (YB _ _)]
def fB : List UInt8 → Option (List UInt8 × List UInt8)
 | [] => none
 | c :: s => if c = 61 then some ([], s) else (fB s).map fun x => (c :: x.1, x.2)
theorem ZB {s a v : List UInt8} (h : fB s = some (a, v)) : s = a ++ 61 :: v ∧ ∀ c ∈ a, c ≠ 61 := by
 induction s generalizing a v with
 | nil => cases h
 | cons c s ih =>
  unfold fB at h
  split at h
  ·rename_i hc; subst hc; cases h; exact ⟨rfl, by simp⟩
  ·rename_i hc
   rw [Option.map_eq_some_iff] at h
   obtain ⟨⟨a', v'⟩, h1, h2⟩ := h
   cases h2
   obtain ⟨e, h3⟩ := ih h1
   exact ⟨by rw [e]; rfl, by intro d hd; rcases List.mem_cons.1 hd with rfl | hd; exact hc; exact h3 d hd⟩
theorem WJ : ∀ s : List UInt8, Lib.indexByte s 61 = match fB s with | some x => (x.1.length : Int) | none => -1
 | [] => rfl
 | c :: s => by
  rw [Lib.indexByte, fB, WJ s]
  by_cases h : c = 61
  ·subst h; rfl
  ·have : (c == 61) = false := by simpa using h
   rw [if_neg h]
   simp only [this]
   cases fB s with
   | none => simp
   | some x => simp
theorem Be {N : Nat} {s : List UInt8} (hs : s.length ≤ 1000000) : strings_Cut N s [61] = some (match fB s with | some x => (x.1, x.2, true) | none => (s, [], false)) := by
 unfold strings_Cut IX stringslite_Index
 simp only [oS]
 rw [WJ]
 cases h : fB s with
 | none => rfl
 | some x =>
  obtain ⟨a, v⟩ := x
  obtain ⟨e, _⟩ := ZB h
  simp only
  have hl : s.length = a.length + v.length + 1 := by rw [e]; simp; omega
  rw [decide_eq_true (by omega), cond_true, VM (by omega), oS, show (([61] : List UInt8).length : Int) = 1 from rfl, LP (by omega), VS (by omega), oS, oS]
  rw [e, List.take_left' rfl, F8, List.drop_left' (by simp)]
def hexT : List UInt8 := [48, 49, 50, 51, 52, 53, 54, 55, 56, 57, 97, 98, 99, 100, 101, 102]
def V7 (c : UInt8) : Int := Lib.indexByte hexT (wG c)
def Bd (c : UInt8) : Bool := decide (Lib.indexByte ([44, 43, 34, 92, 60, 62, 59] : List UInt8) c ≥ 0)
def kQ (c : UInt8) : Bool := decide (Lib.indexByte ([44, 43, 34, 92, 60, 62, 59, 35, 61, 32] : List UInt8) c ≥ 0)
def hx2 (d e : UInt8) : UInt8 := vI (byte (mx (V7 d) 0)) 4 ||| byte (mx (V7 e) 0)
theorem dL {N : Nat} {s : List UInt8} {i : Nat} {c : UInt8} (h : s[i]? = some c) (hs : s.length ≤ 1000000) (h2 : 2 < N) : QM N s (i : Int) = some (byte (mx (V7 c) 0), decide (V7 c ≥ 0)) := by
 have hi := (List.getElem?_eq_some_iff.1 h).1
 unfold QM
 rw [decide_eq_false (by omega), cond_false, LP (by omega), lM (by omega) (by omega), oS, rU h]
 have : (s.take i ++ [c]).drop i = [c] := by
  rw [List.drop_left' (by simp; omega)]
 rw [this, lower_eq (by simp) (by simp; omega), oS, show ((0 : Int)) = ((0 : Nat) : Int) from rfl, Y8]
 rfl
theorem X7 {N : Nat} {s : List UInt8} {i : Nat} (h : s.length ≤ i) : QM N s (i : Int) = some (0, false) := by
 unfold QM
 rw [decide_eq_true (by omega)]; rfl
theorem is32 (c : UInt8) : (((c).toNat : Int) == (32 : Int)) = decide (c = 32) := by
 have := TN (p := fun c => (((c).toNat : Int) == (32 : Int)) == decide (c = 32)) (by decide +kernel) c
 simpa using this
def eB : List UInt8 → Bool → Option (List UInt8 × Bool)
 | [], bl => some ([], bl)
 | c :: s, _ =>
  if c = 92 then
   match s with
   | [] => none
   | d :: s => if kQ d then (eB s false).map fun x => (d :: x.1, x.2) else
    match s with
    | [] => none
    | e :: s => if 0 ≤ V7 d ∧ 0 ≤ V7 e then (eB s false).map fun x => (hx2 d e :: x.1, x.2) else none
  else if Bd c then none else (eB s (decide (c = 32))).map fun x => (c :: x.1, x.2)
def aS : Bool → List UInt8 → Option (List UInt8)
 | _, [] => some []
 | f, c :: s =>
  if c = 92 then
   match s with
   | [] => none
   | d :: s => if kQ d then (aS false s).map (d :: ·) else
    match s with
    | [] => none
    | e :: s => if 0 ≤ V7 d ∧ 0 ≤ V7 e then (aS false s).map (hx2 d e :: ·) else none
  else if Bd c || (f && (decide (c = 35) || decide (c = 32))) || (decide (s = []) && decide (c = 32)) then none else (aS false s).map (c :: ·)
theorem XM (c : UInt8) (s : List UInt8) (bl : Bool) : eB (c :: s) bl = if c = 92 then
   match s with
   | [] => none
   | d :: s => if kQ d then (eB s false).map fun x => (d :: x.1, x.2) else
    match s with
    | [] => none
    | e :: s => if 0 ≤ V7 d ∧ 0 ≤ V7 e then (eB s false).map fun x => (hx2 d e :: x.1, x.2) else none
  else if Bd c then none else (eB s (decide (c = 32))).map fun x => (c :: x.1, x.2) := by
 rw [eB.eq_def]
theorem Y1 (f : Bool) (c : UInt8) (s : List UInt8) : aS f (c :: s) = if c = 92 then
   match s with
   | [] => none
   | d :: s => if kQ d then (aS false s).map (d :: ·) else
    match s with
    | [] => none
    | e :: s => if 0 ≤ V7 d ∧ 0 ≤ V7 e then (aS false s).map (hx2 d e :: ·) else none
  else if Bd c || (f && (decide (c = 35) || decide (c = 32))) || (decide (s = []) && decide (c = 32)) then none else (aS false s).map (c :: ·) := by
 rw [aS.eq_def]
theorem Aw (N : Nat) (hN : 2 < N) : ∀ (k : Nat) (b a out : List UInt8) (bl : Bool) (n : Nat), b.length ≤ k → (a ++ b).length ≤ 1000000 → b.length < n → out.length ≤ a.length →
  FR N (a ++ b) n (bl, (a.length : Int), out) = some (match eB b bl with | some x => .inl (x.2, out ++ x.1) | none => .inr ([], false)) := by
 intro k
 induction k with
 | zero =>
  intro b a out bl n hk hs hn ho
  obtain rfl : b = [] := List.length_eq_zero_iff.1 (by omega)
  obtain ⟨n, rfl, _⟩ := fuel hn
  simp only [FR, IP]
  rw [EX, cond_false]
  simp [eB]
 | succ k ih =>
  intro b a out bl n hk hs hn ho
  cases b with
  | nil =>
   obtain ⟨n, rfl, _⟩ := fuel hn
   simp only [FR, IP]
   rw [EX, cond_false]
   simp [eB]
  | cons c b =>
   obtain ⟨n, rfl, hn'⟩ := fuel hn
   have hal : (a ++ c :: b).length = a.length + b.length + 1 := by simp; omega
   have e1 : a ++ c :: b = a ++ [c] ++ b := by simp
   have ha : a.length < 1000000 := by omega
   simp only [FR, IP, JU]
   rw [F3, cond_true, FH, oS, is92, is32, LP (i := a.length) (by omega), XM]
   by_cases hc : c = 92
   ·rw [decide_eq_true hc, cond_true, if_pos hc]
    have h32 : decide (c = 32) = false := by subst hc; decide
    rw [h32]
    cases b with
    | nil =>
     rw [X8, decide_eq_false (by simp), cond_false, oS, cond_false, X7 (by simp), oS, LP (by omega), X7 (by simp), oS]
     rfl
    | cons d s =>
     have hd : (a ++ c :: d :: s)[a.length + 1]? = some d := by
      have := NY (a ++ [c]) s d
      simp only [List.append_assoc, List.length_append, List.length_cons, List.length_nil] at this
      exact this
     rw [X8, decide_eq_true (by simp), cond_true, iY hd, oS]
     unfold strings_IndexByte
     simp only [oS]
     rw [show decide (Lib.indexByte ([44, 43, 34, 92, 60, 62, 59, 35, 61, 32] : List UInt8) d ≥ 0) = kQ d from rfl]
     by_cases hm : kQ d = true
     ·rw [hm, cond_true, if_pos rfl, KA (by simp; omega), oS, LP (by omega)]
      have := ih s (a ++ [c, d]) (out ++ [d]) false n (by simp at hk; omega) (by simpa using hs) (by simp at hn; omega) (by simp; omega)
      have e : a ++ c :: d :: s = a ++ [c, d] ++ s := by simp
      have el : ((((a.length + 1 + 1 : Nat)) : Int)) = ((a ++ [c, d]).length : Int) := by simp; omega
      rw [e, el, this]
      cases eB s false <;> simp
     ·have hm' : kQ d = false := by simpa using hm
      rw [hm', cond_false, dL hd (by omega) hN, oS, LP (by omega), if_neg (by simp)]
      cases s with
      | nil =>
       rw [X7 (by simp), oS]
       simp only
       cases decide (V7 d ≥ 0) <;> rfl
      | cons e s =>
       have he : (a ++ c :: d :: e :: s)[a.length + 1 + 1]? = some e := by
        have := NY (a ++ [c, d]) s e
        simp only [List.append_assoc, List.length_append, List.length_cons, List.length_nil] at this
        exact this
       rw [dL he (by omega) hN, oS]
       simp only
       by_cases h1 : 0 ≤ V7 d
       ·by_cases h2 : 0 ≤ V7 e
        ·rw [decide_eq_true h1, decide_eq_true h2, if_pos ⟨h1, h2⟩]
         simp only [Bool.not_true, cond_false, oS]
         rw [KA (by simp; omega), oS, LP (by omega)]
         have := ih s (a ++ [c, d, e]) (out ++ [hx2 d e]) false n (by simp at hk; omega) (by simpa using hs) (by simp at hn; omega) (by simp; omega)
         have e' : a ++ c :: d :: e :: s = a ++ [c, d, e] ++ s := by simp
         have el : ((((a.length + 1 + 1 + 1 : Nat)) : Int)) = ((a ++ [c, d, e]).length : Int) := by simp; omega
         rw [e', el]
         refine Eq.trans this ?_
         cases eB s false <;> simp
        ·rw [decide_eq_true h1, decide_eq_false h2, if_neg (by simp [h2])]
         rfl
       ·rw [decide_eq_false h1, if_neg (by simp [h1])]
        rfl
   ·rw [decide_eq_false hc, cond_false, if_neg hc]
    unfold strings_IndexByte
    simp only [oS]
    rw [show decide (Lib.indexByte ([44, 43, 34, 92, 60, 62, 59] : List UInt8) c ≥ 0) = Bd c from rfl]
    by_cases hsp : Bd c = true
    ·rw [hsp, cond_true, if_pos rfl]
    ·have hsp' : Bd c = false := by simpa using hsp
     rw [hsp', cond_false, if_neg (by simp), KA (by simp; omega), oS]
     have := ih b (a ++ [c]) (out ++ [c]) (decide (c = 32)) n (by simp at hk; omega) (by simpa using hs) (by simp at hn; omega) (by simp; omega)
     have el : ((((a.length + 1 : Nat)) : Int)) = ((a ++ [c]).length : Int) := by simp
     rw [e1, el, this]
     cases eB b (decide (c = 32)) <;> simp
theorem un_pl : ∀ (k : Nat) (s : List UInt8), s.length ≤ k → (∀ v, aS false s = some v ↔ eB s false = some (v, false)) ∧ (s ≠ [] → eB s true = eB s false) := by
 intro k
 induction k with
 | zero =>
  intro s hk
  obtain rfl : s = [] := List.length_eq_zero_iff.1 (by omega)
  exact ⟨by intro v; simp [aS, eB], fun h => absurd rfl h⟩
 | succ k ih =>
  intro s hk
  cases s with
  | nil => exact ⟨by intro v; simp [aS, eB], fun h => absurd rfl h⟩
  | cons c s =>
   refine ⟨?_, fun _ => by rw [XM, XM]⟩
   intro v
   have lift : ∀ (c : UInt8) (s : List UInt8), s.length ≤ k → ∀ v, ((aS false s).map (c :: ·) = some v ↔ ((eB s false).map fun x => (c :: x.1, x.2)) = some (v, false)) := by
    intro c s hs v
    rw [Option.map_eq_some_iff, Option.map_eq_some_iff]
    constructor
    ·rintro ⟨w, h1, rfl⟩
     exact ⟨(w, false), ((ih s hs).1 w).1 h1, rfl⟩
    ·rintro ⟨⟨w, b⟩, h1, h2⟩
     simp only [Prod.mk.injEq] at h2
     obtain ⟨rfl, rfl⟩ := h2
     exact ⟨w, ((ih s hs).1 w).2 h1, rfl⟩
   rw [Y1, XM]
   by_cases hc : c = 92
   ·rw [if_pos hc, if_pos hc]
    cases s with
    | nil => simp
    | cons d s =>
     simp only
     by_cases hm : kQ d = true
     ·rw [if_pos hm, if_pos hm]
      exact lift d s (by simp at hk; omega) v
     ·rw [if_neg hm, if_neg hm]
      cases s with
      | nil => simp
      | cons e s =>
       simp only
       by_cases hh : 0 ≤ V7 d ∧ 0 ≤ V7 e
       ·rw [if_pos hh, if_pos hh]
        exact lift _ s (by simp at hk; omega) v
       ·rw [if_neg hh, if_neg hh]; simp
   ·rw [if_neg hc, if_neg hc]
    simp only [Bool.false_and, Bool.or_false]
    by_cases hsp : Bd c = true
    ·rw [hsp]; simp
    ·have hsp' : Bd c = false := by simpa using hsp
     rw [hsp']
     simp only [Bool.false_or]
     rw [if_neg (show ¬ (false = true) by simp)]
     by_cases h32 : c = 32
     ·rw [decide_eq_true h32, Bool.and_true]
      by_cases hs : s = []
      ·subst hs
       simp [eB]
      ·rw [decide_eq_false hs, if_neg (by simp), (ih s (by simp at hk; omega)).2 hs]
       exact lift c s (by simp at hk; omega) v
     ·rw [decide_eq_false h32, Bool.and_false, if_neg (by simp)]
      exact lift c s (by simp at hk; omega) v
theorem vU (s : List UInt8) : aS true s = if s.head? = some 35 ∨ s.head? = some 32 then none else aS false s := by
 cases s with
 | nil => simp [aS]
 | cons c s =>
  rw [Y1, Y1]
  by_cases hc : c = 92
  ·subst hc
   rw [if_pos rfl, if_pos rfl, if_neg (by simp)]
  ·rw [if_neg hc, if_neg hc]
   by_cases h1 : c = 35
   ·subst h1; simp
   ·by_cases h2 : c = 32
    ·subst h2; simp
    ·simp [h1, h2]
theorem X0 (N : Nat) (s : List UInt8) (c : UInt8) : strings_HasPrefix N s [c] = some (decide (s.head? = some c)) := by
 unfold strings_HasPrefix EL
 cases s with
 | nil => rfl
 | cons d s =>
  rw [decide_eq_true (by simp; omega), cond_true, show ((([c] : List UInt8).length : Nat) : Int) = ((1 : Nat) : Int) from rfl, VM (by simp)]
  simp
  rw [Bool.eq_iff_iff]; simp
theorem ZO {N : Nat} {s : List UInt8} (hs : s.length ≤ 1000000) (hN : s.length < N) (h2 : 2 < N) : ∃ w, RG N s = some (match aS true s with | some v => (v, true) | none => (w, false)) := by
 unfold RG
 rw [X0, X0, vU]
 by_cases h35 : s.head? = some 35
 ·rw [decide_eq_true h35, if_pos (.inl h35)]
  exact ⟨[], rfl⟩
 ·rw [decide_eq_false h35]
  by_cases h32 : s.head? = some 32
  ·rw [decide_eq_true h32, if_pos (.inr h32)]
   exact ⟨[], rfl⟩
  ·rw [decide_eq_false h32, if_neg (by rintro (h | h); exact h35 h; exact h32 h)]
   simp only [oS, cond_false]
   have := Aw N h2 s.length s [] [] false N (Nat.le_refl _) hs hN (Nat.le_refl _)
   simp only [List.nil_append, List.length_nil] at this
   rw [show ((0 : Int)) = ((0 : Nat) : Int) from rfl, this]
   have hup := (un_pl s.length s (Nat.le_refl _)).1
   cases hu : eB s false with
   | none =>
    cases hp : aS false s with
    | none => exact ⟨[], rfl⟩
    | some v => rw [(hup v).1 hp] at hu; cases hu
   | some x =>
    obtain ⟨v, b⟩ := x
    cases b with
    | false =>
     rw [(hup v).2 hu]
     exact ⟨[], rfl⟩
    | true =>
     cases hp : aS false s with
     | none => exact ⟨v, rfl⟩
     | some v' => rw [(hup v').1 hp] at hu; cases hu
def ZI (p : List UInt8) : Option AU := (fB p).bind fun x => (aS true x.2).map fun v => ⟨low x.1, v⟩
def kF (s : List UInt8) : Option (List AU) := ((KU 43 s).mapM ZI).bind fun r => if V6 r then some r else none
theorem kI (p : List UInt8) (l : List (List UInt8)) (k : Nat) (h : ∀ x ∈ l, x.length ≤ k) : ∀ x ∈ SC p l, x.length ≤ p.length + k := by
 intro x hx
 cases l with
 | nil => simp [SC] at hx; subst hx; omega
 | cons y l =>
  simp only [SC, List.mem_cons] at hx
  rcases hx with rfl | hx
  ·have := h y List.mem_cons_self; simp; omega
  ·have := h x (List.mem_cons_of_mem _ hx); omega
theorem ZT (p : List UInt8) {l : List (List UInt8)} (h : l ≠ []) : (SC p l).length = l.length := by cases l <;> simp_all [SC]
theorem lL (sep : UInt8) : ∀ (k : Nat) (s : List UInt8), s.length ≤ k → (KU sep s).length ≤ s.length + 1 ∧ ∀ x ∈ KU sep s, x.length ≤ s.length := by
 intro k
 induction k with
 | zero =>
  intro s hs
  obtain rfl : s = [] := List.length_eq_zero_iff.1 (by omega)
  simp [KU]
 | succ k ih =>
  intro s hs
  cases s with
  | nil => simp [KU]
  | cons c s =>
   cases s with
   | nil =>
    unfold KU
    split
    ·simp
    ·split <;> simp
   | cons d s =>
    unfold KU
    split
    ·obtain ⟨h1, h2⟩ := ih s (by simp at hs; omega)
     refine ⟨by rw [ZT _ (YB _ _)]; simp; omega, fun x hx => ?_⟩
     have := kI _ _ _ h2 x hx
     simp at this ⊢; omega
    ·obtain ⟨h1, h2⟩ := ih (d :: s) (by simp at hs ⊢; omega)
     split
     ·refine ⟨by simp at h1 ⊢; omega, fun x hx => ?_⟩
      rcases List.mem_cons.1 hx with rfl | hx
      ·simp
      ·have := h2 x hx; simp at this ⊢; omega
     ·refine ⟨by rw [ZT _ (YB _ _)]; simp at h1 ⊢; omega, fun x hx => ?_⟩
      have := kI _ _ _ h2 x hx
      simp at this ⊢; omega
theorem Bl : ∀ (k : Nat) (f : Bool) (s v : List UInt8), s.length ≤ k → aS f s = some v → v.length ≤ s.length := by
 intro k
 induction k with
 | zero =>
  intro f s v hs h
  obtain rfl : s = [] := List.length_eq_zero_iff.1 (by omega)
  simp [aS] at h; subst h; simp
 | succ k ih =>
  intro f s v hs h
  cases s with
  | nil => simp [aS] at h; subst h; simp
  | cons c s =>
   rw [Y1] at h
   have lift : ∀ (c : UInt8) (t w : List UInt8), t.length ≤ k → (aS false t).map (c :: ·) = some w → w.length ≤ t.length + 1 := by
    intro c t w ht hw
    rw [Option.map_eq_some_iff] at hw
    obtain ⟨u, h1, rfl⟩ := hw
    have := ih false t u ht h1
    simp; omega
   split at h
   ·cases s with
    | nil => cases h
    | cons d s =>
     simp only at h
     split at h
     ·have := lift _ _ _ (by simp at hs; omega) h; simp; omega
     ·cases s with
      | nil => cases h
      | cons e s =>
       simp only at h
       split at h
       ·have := lift _ _ _ (by simp at hs; omega) h; simp; omega
       ·cases h
   ·split at h
    ·cases h
    ·have := lift _ _ _ (by simp at hs; omega) h; simp; omega
theorem Ce (s : List UInt8) : (low s).length = s.length := by simp [low]
theorem zJ {p : List UInt8} {a : AU} (h : ZI p = some a) : a.Attr.length ≤ p.length ∧ a.Value.length ≤ p.length := by
 unfold ZI at h
 rw [Option.bind_eq_some_iff] at h
 obtain ⟨⟨x, v⟩, h1, h2⟩ := h
 rw [Option.map_eq_some_iff] at h2
 obtain ⟨w, h2, rfl⟩ := h2
 obtain ⟨e, _⟩ := ZB h1
 have := Bl v.length true v w (Nat.le_refl _) h2
 rw [e]
 simp [Ce]
 omega
theorem mapM_len {α β : Type} {f : α → Option β} : ∀ {l : List α} {r : List β}, l.mapM f = some r → r.length = l.length ∧ ∀ b ∈ r, ∃ a ∈ l, f a = some b
 | [], r, h => by simp at h; subst h; simp
 | a :: l, r, h => by
  rw [List.mapM_cons] at h
  simp only [Option.bind_eq_bind, Option.bind_eq_some_iff] at h
  obtain ⟨b, h1, s, h2, h3⟩ := h
  cases h3
  obtain ⟨e1, e2⟩ := mapM_len h2
  refine ⟨by simp [e1], fun c hc => ?_⟩
  rcases List.mem_cons.1 hc with rfl | hc
  ·exact ⟨a, List.mem_cons_self, h1⟩
  ·obtain ⟨a', h4, h5⟩ := e2 c hc
   exact ⟨a', List.mem_cons_of_mem _ h4, h5⟩
theorem vR (N : Nat) (hN : 1000000 < N) : ∀ (b a : List (List UInt8)) (out : List AU) (n : Nat), (a ++ b).length ≤ 1000001 → b.length < n → out.length = a.length → (∀ p ∈ b, p.length ≤ 1000000) →
  I5 N (a ++ b) n ((a.length : Int), out) = some (match b.mapM ZI with
   | some r => if 5 < (out ++ r).length ∧ b ≠ [] then .inr ([], 15) else .inl (out ++ r)
   | none => .inr ([], 15)) := by
 intro b
 induction b with
 | nil =>
  intro a out n hs hn ho _
  obtain ⟨n, rfl, _⟩ := fuel hn
  simp only [I5, LD]
  rw [EX, cond_false]; simp
 | cons p b ih =>
  intro a out n hs hn ho hp
  obtain ⟨n, rfl, hn'⟩ := fuel hn
  have hal : (a ++ p :: b).length = a.length + b.length + 1 := by simp; omega
  have hpl := hp p List.mem_cons_self
  simp only [I5, LD]
  rw [F3, cond_true, FH, oS, Be hpl, oS, F5 (a := a) (b := b) (x := p) (by omega), List.mapM_cons]
  simp only [Option.bind_eq_bind]
  cases hc : fB p with
  | none =>
   have hav : ZI p = none := by unfold ZI; rw [hc]; rfl
   rw [hav]
   obtain ⟨w, hw⟩ := ZO (N := N) (s := []) (by simp) (by simp; omega) (by omega)
   rw [hw]
   rfl
  | some x =>
   obtain ⟨at', v⟩ := x
   obtain ⟨e, _⟩ := ZB hc
   have hvl : v.length ≤ p.length ∧ at'.length ≤ p.length := by rw [e]; simp; omega
   obtain ⟨w, hw⟩ := ZO (N := N) (s := v) (by omega) (by omega) (by omega)
   simp only
   rw [hw, oS]
   cases hpv : aS true v with
   | none =>
    have hav : ZI p = none := by unfold ZI; rw [hc, oS]; simp only [hpv]; rfl
    rw [hav]; rfl
   | some val =>
    have hav : ZI p = some ⟨low at', val⟩ := by unfold ZI; rw [hc, oS]; simp only [hpv]; rfl
    rw [hav]
    simp only [Bool.not_true, cond_false, oS, Option.map_some]
    by_cases h5 : out.length > 4
    ·rw [decide_eq_true (by omega), cond_true]
     cases hm : b.mapM ZI with
     | none => rfl
     | some r =>
      simp only [oS, Option.pure_def]
      rw [if_pos ⟨by simp; omega, by simp⟩]
    ·rw [decide_eq_false (by omega), cond_false, lower_eq (by omega) (by omega), oS, KA (by simp; omega), oS]
     have := ih (a ++ [p]) (out ++ [⟨low at', val⟩]) n (by simpa using hs) hn' (by simp [ho]) (fun q hq => hp q (List.mem_cons_of_mem _ hq))
     rw [← F8] at this
     rw [this]
     cases hm : b.mapM ZI with
     | none => rfl
     | some r =>
      simp only [oS, Option.pure_def, List.append_assoc, List.cons_append, List.nil_append]
      by_cases hb : b = []
      ·subst hb
       simp at hm
       subst hm
       rw [if_neg (by simp), if_neg (by simp; omega)]
      ·by_cases h6 : 5 < (out ++ ⟨low at', val⟩ :: r).length
       ·rw [if_pos ⟨h6, hb⟩, if_pos ⟨h6, by simp⟩]
       ·rw [if_neg (fun h => h6 h.1), if_neg (fun h => h6 h.1)]
theorem kJ {N : Nat} {s : List UInt8} (hs : s.length ≤ 1000000) (hN : 2000000 < N) (hN2 : N ≤ 9223372036854775808) : RH N s = some (match kF s with | some r => (r, 0) | none => ([], 15)) := by
 unfold RH kF
 rw [yS hs (by omega), oS]
 obtain ⟨h1, h2⟩ := lL 43 s.length s (Nat.le_refl _)
 have := vR N (by omega) (KU 43 s) [] [] N (by simpa using (by omega : (KU 43 s).length ≤ 1000001)) (by omega) rfl (fun p hp => by have := h2 p hp; omega)
 simp only [List.nil_append, List.length_nil] at this
 rw [show ((0 : Int)) = ((0 : Nat) : Int) from rfl, this]
 cases hm : (KU 43 s).mapM ZI with
 | none => rfl
 | some r =>
  obtain ⟨hl, hb⟩ := mapM_len hm
  simp only [oS]
  by_cases h5 : 5 < r.length
  ·rw [if_pos ⟨h5, YB _ _⟩]
   have : V6 r = false := by unfold V6; rw [decide_eq_false (show ¬ r.length ≤ 4 by omega)]; simp
   rw [this]; rfl
  ·rw [if_neg (fun h => h5 h.1)]
   simp only [Sum.elim_inl]
   rw [l5 hN2 (by omega) (by omega) (fun x hx => by
    obtain ⟨p, hp, hpa⟩ := hb x hx
    have h3 := zJ hpa
    have h4 := h2 p hp
    exact ⟨by omega, by omega⟩), oS]
   cases V6 r <;> rfl
theorem nE (N : Nat) (hN : 2000000 < N) (hN2 : N ≤ 9223372036854775808) : ∀ (b a : List (List UInt8)) (out : List (List AU)) (n : Nat), (a ++ b).length ≤ 1000001 → b.length < n → out.length = a.length → (∀ p ∈ b, p.length ≤ 1000000) → out.length ≤ 8 →
  JJ N (a ++ b) n ((a.length : Int), out) = some (match b.mapM kF with
   | some r => if 8 < (out ++ r).length then .inr ([], 15) else .inl (out ++ r)
   | none => .inr ([], 15)) := by
 intro b
 induction b with
 | nil =>
  intro a out n hs hn ho _ h8
  obtain ⟨n, rfl, _⟩ := fuel hn
  simp only [JJ, NZ]
  rw [EX, cond_false]; simp; omega
 | cons p b ih =>
  intro a out n hs hn ho hp h8
  obtain ⟨n, rfl, hn'⟩ := fuel hn
  have hal : (a ++ p :: b).length = a.length + b.length + 1 := by simp; omega
  have hpl := hp p List.mem_cons_self
  simp only [JJ, NZ]
  rw [F3, cond_true, FH, oS, kJ hpl hN hN2, oS, F5 (a := a) (b := b) (x := p) (by omega), List.mapM_cons]
  simp only [Option.bind_eq_bind]
  cases hr : kF p with
  | none => rfl
  | some r =>
   simp only [oS]
   by_cases he : out.length = 8
   ·rw [show ((out.length : Int) == 8) = true by rw [he]; rfl]
    cases hm : b.mapM kF with
    | none => rfl
    | some rs =>
     simp only [oS, Option.pure_def]
     rw [if_pos (by simp; omega)]
     rfl
   ·rw [show ((out.length : Int) == 8) = false by rw [Bool.eq_false_iff]; simp; omega]
    have := ih (a ++ [p]) (out ++ [r]) n (by simpa using hs) hn' (by simp [ho]) (fun q hq => hp q (List.mem_cons_of_mem _ hq)) (by simp; omega)
    rw [← F8] at this
    simp only [bne, BEq.rfl, Bool.not_true, cond_false, oS]
    rw [KA (by simp; omega), oS, this]
    cases hm : b.mapM kF with
    | none => rfl
    | some rs => simp
def q8 (s : List UInt8) : Option (List (List AU)) := if s = [] then some [] else ((KU 44 s).mapM kF).bind fun r => if r.length ≤ 8 then some r else none
theorem vX {N : Nat} {s : List UInt8} (hs : s.length ≤ 1000000) (hN : 2000000 < N) (hN2 : N ≤ 9223372036854775808) : YA N s = some (match q8 s with | some r => (r, 0) | none => ([], 15)) := by
 unfold YA q8
 by_cases h0 : s = []
 ·subst h0; rfl
 ·have : (s == ([] : List UInt8)) = false := by simpa using h0
  rw [this, cond_false, if_neg h0, yS hs (by omega), oS]
  obtain ⟨h1, h2⟩ := lL 44 s.length s (Nat.le_refl _)
  have := nE N hN hN2 (KU 44 s) [] [] N (by simpa using (by omega : (KU 44 s).length ≤ 1000001)) (by omega) rfl (fun p hp => by have := h2 p hp; omega) (Nat.zero_le _)
  simp only [List.nil_append, List.length_nil] at this
  rw [show ((0 : Int)) = ((0 : Nat) : Int) from rfl, this]
  cases hm : (KU 44 s).mapM kF with
  | none => rfl
  | some r =>
   simp only [oS]
   by_cases h8 : r.length ≤ 8
   ·rw [if_pos h8, if_neg (by omega)]; rfl
   ·rw [if_neg h8, if_pos (by omega)]; rfl

def Ei (c : UInt8) : Bool := decide (32 ≤ c.toNat) && decide (c.toNat ≤ 126)
def dgB (c : UInt8) : Bool := decide (48 ≤ c.toNat) && decide (c.toNat ≤ 57)
def nbB (c : UInt8) : Bool := decide (c ≠ 32)
theorem pr_c (c : UInt8) : (bif decide (((c).toNat : Int) < (32 : Int)) then some true else some (decide (((c).toNat : Int) > (126 : Int)))) = some (!Ei c) := by
 have := TN (p := fun c => (bif decide (((c).toNat : Int) < (32 : Int)) then some true else some (decide (((c).toNat : Int) > (126 : Int)))) == some (!Ei c)) (by decide +kernel) c
 simpa using this
theorem dg_c (c : UInt8) : (bif decide (((c).toNat : Int) < (48 : Int)) then some true else some (decide (((c).toNat : Int) > (57 : Int)))) = some (!dgB c) := by
 have := TN (p := fun c => (bif decide (((c).toNat : Int) < (48 : Int)) then some true else some (decide (((c).toNat : Int) > (57 : Int)))) == some (!dgB c)) (by decide +kernel) c
 simpa using this
theorem is48 (c : UInt8) : (((c).toNat : Int) == (48 : Int)) = decide (c = 48) := by
 have := TN (p := fun c => (((c).toNat : Int) == (48 : Int)) == decide (c = 48)) (by decide +kernel) c
 simpa using this
theorem jW (N : Nat) : ∀ (b a : List UInt8) (n : Nat), (a ++ b).length ≤ 9223372036854775807 → b.length < n →
  GR N (a ++ b) n (a.length : Int) = some (bif b.all Ei then .inl () else .inr false) := by
 intro b
 induction b with
 | nil =>
  intro a n hs hn
  obtain ⟨n, rfl, _⟩ := fuel hn
  simp only [GR, K7]
  rw [EX, cond_false]; rfl
 | cons c b ih =>
  intro a n hs hn
  obtain ⟨n, rfl, hn'⟩ := fuel hn
  simp only [GR, K7]
  rw [F3, cond_true, YD, oS, NY, oS, pr_c, oS, F5 hs]
  have := ih (a ++ [c]) n (by simpa using hs) hn'
  rw [← F8] at this
  rw [this, List.all_cons]
  cases Ei c <;> rfl
theorem rV {N : Nat} {s : List UInt8} (hs : s.length ≤ 9223372036854775807) (hN : s.length < N) : PU N s = some (s.all Ei) := by
 unfold PU
 have := jW N s [] N hs hN
 simp only [List.nil_append, List.length_nil] at this
 rw [show ((0 : Int)) = ((0 : Nat) : Int) from rfl, this]
 cases s.all Ei <;> rfl
theorem mU (N : Nat) : ∀ (l : List UInt8) (n : Nat), l.length ≤ 9223372036854775807 → l.length < n → ES N 32 n l.reverse = some (l.dropWhile (fun c => decide (c = 32))).reverse := by
 intro l
 induction l with
 | nil =>
  intro n _ hn
  obtain ⟨n, rfl, _⟩ := fuel hn
  rfl
 | cons c l ih =>
  intro n hs hn
  obtain ⟨n, rfl, hn'⟩ := fuel hn
  have hlen : ((c :: l).reverse.length : Int) = (l.length : Int) + 1 := by simp
  simp only [ES, HV]
  rw [hlen, decide_eq_true (by omega), cond_true, bC (by simp at hs; omega) (by simp at hs; omega), show (l.length : Int) + 1 - 1 = (l.length : Int) by omega, Y8, List.reverse_cons]
  have hg : (l.reverse ++ [c])[l.length]? = some c := by
   simp
  rw [hg, oS, oS, show (((32 : UInt8)).toNat : Int) = (32 : Int) from rfl, is32]
  by_cases hc : c = 32
  ·rw [decide_eq_true hc, cond_true, VM (by simp), oS]
   have ht : (l.reverse ++ [c]).take l.length = l.reverse := List.take_left' (by simp)
   rw [ht, ih n (by simp at hs; omega) hn']
   simp [hc]
  ·rw [decide_eq_false hc, cond_false]
   simp [hc]
theorem mV (N : Nat) : ∀ (l : List UInt8) (n : Nat), l.length < n → EY N 32 n l = some (l.dropWhile (fun c => decide (c = 32))) := by
 intro l
 induction l with
 | nil =>
  intro n hn
  obtain ⟨n, rfl, _⟩ := fuel hn
  rfl
 | cons c l ih =>
  intro n hn
  obtain ⟨n, rfl, hn'⟩ := fuel hn
  simp only [EY, IE]
  rw [decide_eq_true (by simp), cond_true, show EP (c :: l) (0 : Int) = some c from rfl, oS, oS, show (((32 : UInt8)).toNat : Int) = (32 : Int) from rfl, is32]
  by_cases hc : c = 32
  ·rw [decide_eq_true hc, cond_true, show ((1 : Int)) = ((1 : Nat) : Int) from rfl, VS (by simp), oS]
   simp only [List.drop_succ_cons, List.drop_zero]
   rw [ih n hn']
   simp [hc]
  ·rw [decide_eq_false hc, cond_false]
   simp [hc]
theorem yN (p : UInt8 → Bool) : ∀ l : List UInt8, l.dropWhile p = [] ↔ ∀ x ∈ l, p x = true
 | [] => by simp
 | c :: l => by
  cases h : p c with
  | true => rw [List.dropWhile_cons, h]; simp [yN p l, h]
  | false => rw [List.dropWhile_cons, h]; simp [h]
theorem yO (p : UInt8 → Bool) : ∀ l : List UInt8, (∀ x ∈ l.dropWhile p, p x = true) ↔ ∀ x ∈ l, p x = true
 | [] => by simp
 | c :: l => by
  cases h : p c with
  | true => rw [List.dropWhile_cons, h]; simp only [if_true]; rw [yO p l]; simp [h]
  | false => rw [List.dropWhile_cons, h]; simp [h]
theorem Ba {N : Nat} {s : List UInt8} (hs : s.length ≤ 9223372036854775807) (hN : s.length < N) : ∃ t, PT N s [32] = some t ∧ (t == ([] : List UInt8)) = !s.any nbB := by
 unfold PT
 by_cases h0 : s = []
 ·subst h0; exact ⟨[], rfl, rfl⟩
 ·rw [show (s == ([] : List UInt8)) = false by simpa using h0]
  refine ⟨(((s.reverse.dropWhile (fun c => decide (c = 32))).reverse).dropWhile (fun c => decide (c = 32))), ?_, ?_⟩
  ·simp only [cond_false, oS, show ([32] == ([] : List UInt8)) = false from rfl, show ((([32] : List UInt8).length : Int) == (1 : Int)) = true from rfl, cond_true, show EP [(32 : UInt8)] (0 : Int) = some 32 from rfl, show decide ((((32 : UInt8)).toNat : Int) < (128 : Int)) = true from by decide]
   unfold strings_trimRightByte strings_trimLeftByte
   have := mU N s.reverse N (by simpa using hs) (by simpa using hN)
   rw [List.reverse_reverse] at this
   rw [this, oS, oS, mV N _ N (by
    have := (List.dropWhile_sublist (fun c => decide (c = 32)) (l := s.reverse)).length_le
    simp at this ⊢; omega)]
   rfl
  ·rw [Bool.eq_iff_iff, beq_iff_eq, yN]
   have h1 : (∀ x ∈ (s.reverse.dropWhile (fun c => decide (c = 32))).reverse, decide (x = 32) = true) ↔ ∀ x ∈ s, decide (x = 32) = true := by
    have := yO (fun c => decide (c = 32)) s.reverse
    simp only [List.mem_reverse] at this ⊢
    exact this
   rw [h1]
   simp [nbB]
def nS (s d : List UInt8) : Bool := match d with
 | [] => false
 | c :: t => decide (t.length < 15) && (!(decide (c = 48) && !(s == ([48] : List UInt8))) && (c :: t).all dgB)
def jT : List UInt8 → List UInt8
 | 45 :: d => d
 | s => s
theorem uY {c : UInt8} {s : List UInt8} (h : c ≠ 45) : jT (c :: s) = c :: s := by
 unfold jT
 split
 ·rename_i e; injection e with e1 _; exact absurd e1 h
 ·rfl
theorem Bb (N : Nat) (s : List UInt8) (hs : s.length ≤ 9223372036854775807) : strings_TrimPrefix N s [45] = some (jT s) := by
 unfold strings_TrimPrefix FV
 have hp := X0 N s 45
 unfold strings_HasPrefix at hp
 have hp' : EL N s [45] = some (decide (s.head? = some 45)) := by
  rw [Option.bind_eq_some_iff] at hp
  obtain ⟨a, h1, h2⟩ := hp
  rw [h1]; exact h2
 rw [hp']
 simp only [oS]
 cases s with
 | nil => rfl
 | cons c s =>
  by_cases hc : c = 45
  ·subst hc
   rw [decide_eq_true (by simp), cond_true, show ((([45] : List UInt8).length : Int)) = ((1 : Nat) : Int) from rfl, VS (by simp)]
   rfl
  ·rw [decide_eq_false (by simpa using hc), cond_false, uY hc]
   rfl
def xI (s : List UInt8) : Bool := nS s (jT s)
theorem xK (N : Nat) : ∀ (b a : List UInt8) (n : Nat), (a ++ b).length ≤ 9223372036854775807 → b.length < n →
  FJ N (a ++ b) n (a.length : Int) = some (bif b.all dgB then .inl () else .inr false) := by
 intro b
 induction b with
 | nil =>
  intro a n hs hn
  obtain ⟨n, rfl, _⟩ := fuel hn
  simp only [FJ, JD]
  rw [EX, cond_false]; rfl
 | cons c b ih =>
  intro a n hs hn
  obtain ⟨n, rfl, hn'⟩ := fuel hn
  simp only [FJ, JD]
  rw [F3, cond_true, YD, oS, NY, oS, dg_c, oS, F5 hs]
  have := ih (a ++ [c]) n (by simpa using hs) hn'
  rw [← F8] at this
  rw [this, List.all_cons]
  cases dgB c <;> rfl
theorem xH {N : Nat} {s : List UInt8} (hs : s.length ≤ 9223372036854775807) (hN : s.length < N) : PW N s = some (xI s) := by
 have key : ∀ d : List UInt8, d.length ≤ s.length → (Option.bind (
   bif (d == ([] : List UInt8)) then
    some true
   else
    bif decide ((d.length : Int) > (15 : Int)) then
     some true
    else
     Option.bind (EP d (0 : Int)) fun (EA : UInt8) =>
     bif (((EA).toNat : Int) == (48 : Int)) then
      some (!(s == ([48] : List UInt8)))
     else
      some false
  ) fun (g1 : Bool) =>
 bif g1 then
  some false
 else
  Option.bind (FJ N d N 0) fun (PH : Unit ⊕ Bool) =>
  Sum.elim (fun (PH : Unit) =>
    some true
   ) (fun (PH : Bool) =>
    some PH
   ) PH) = some (nS s d) := by
  intro d hd
  cases d with
  | nil => rfl
  | cons c t =>
   have hl := xK N (c :: t) [] N (by simp at hd ⊢; omega) (by simp at hd ⊢; omega)
   simp only [List.nil_append, List.length_nil] at hl
   rw [show (c :: t == ([] : List UInt8)) = false from rfl, cond_false, show EP (c :: t) (0 : Int) = some c from rfl, oS, is48, show ((0 : Int)) = ((0 : Nat) : Int) from rfl, hl]
   unfold nS
   simp only
   by_cases h15 : t.length < 15
   ·rw [decide_eq_false (by simp; omega), decide_eq_true h15]
    cases decide (c = 48) <;> cases (s == ([48] : List UInt8)) <;> cases (c :: t).all dgB <;> rfl
   ·rw [decide_eq_true (by simp; omega), decide_eq_false h15]
    rfl
 unfold PW
 rw [Bb N s hs, oS, key _ (by unfold jT; split <;> simp)]
 rfl
def allT : List BJ := (TQ 0).getD []
theorem Lx (N : Nat) : TQ N = some allT := rfl
def noT : BJ := ⟨[], 0, false⟩
def ZX (name : List UInt8) : Option BJ := allT.find? (fun t => t.Name == low name)
theorem tF (N : Nat) (x : List UInt8) : ∀ (b a : List BJ) (n : Nat), (a ++ b).length ≤ 9223372036854775807 → b.length < n →
  HY N x (a ++ b) n (a.length : Int) = some (match b.find? (fun t => t.Name == x) with | some t => .inr (t, true) | none => .inl ()) := by
 intro b
 induction b with
 | nil =>
  intro a n hs hn
  obtain ⟨n, rfl, _⟩ := fuel hn
  simp only [HY, L8]
  rw [EX, cond_false]; rfl
 | cons t b ih =>
  intro a n hs hn
  obtain ⟨n, rfl, hn'⟩ := fuel hn
  simp only [HY, L8]
  rw [F3, cond_true, FH, oS, F5 hs]
  have := ih (a ++ [t]) n (by simpa using hs) hn'
  rw [← F8] at this
  rw [this, List.find?_cons]
  cases t.Name == x <;> rfl
theorem mH : allT.length = 15 := rfl
theorem rE {N : Nat} {s : List UInt8} (hs : s.length ≤ 9223372036854775807) (hN : s.length < N) (h15 : 15 < N) : OZ N s = some (match ZX s with | some t => (t, true) | none => (noT, false)) := by
 unfold OZ
 have := tF N (low s) allT [] N (by rw [List.nil_append, mH]; omega) (by rw [mH]; exact h15)
 simp only [List.nil_append, List.length_nil] at this
 rw [lower_eq hs hN, oS, Lx, oS, show ((0 : Int)) = ((0 : Nat) : Int) from rfl, this]
 unfold ZX
 cases allT.find? (fun t => t.Name == low s) <;> rfl
def Cc (k : Int) (v : List UInt8) : Bool := if k = 1 then v.any nbB && v.all Ei else if k = 2 then v.all Ei else if k = 3 then xI v else if k = 5 then (q8 v).isSome else true
theorem Gx {N : Nat} {v : List UInt8} (k : Int) (hv : v.length ≤ 1000000) (hN : 2000000 < N) (hN2 : N ≤ 9223372036854775808) : TP N k v = some (Cc k v) := by
 unfold TP Cc NN
 obtain ⟨t, h1, h2⟩ := Ba (N := N) (s := v) (by omega) (by omega)
 rw [h1, rV (by omega) (by omega), xH (by omega) (by omega), vX hv hN hN2]
 simp only [oS, h2]
 by_cases k1 : k = 1
 ·subst k1
  cases v.any nbB <;> rfl
 ·rw [show (k == 1) = false by simpa using k1, if_neg k1, cond_false]
  by_cases k2 : k = 2
  ·subst k2; rfl
  ·rw [show (k == 2) = false by simpa using k2, if_neg k2, cond_false]
   by_cases k3 : k = 3
   ·subst k3; rfl
   ·rw [show (k == 3) = false by simpa using k3, if_neg k3, cond_false]
    by_cases k5 : k = 5
    ·subst k5
     cases q8 v <;> rfl
    ·rw [show (k == 5) = false by simpa using k5, if_neg k5, cond_false]
def QT (name v : List UInt8) : Int := match ZX name with
 | none => 16
 | some t => if v ≠ [] ∧ v.length ≤ 60 ∧ Cc t.Syntax v = true then 0 else 17
theorem lT {N : Nat} {name v : List UInt8} (hn : name.length ≤ 1000000) (hv : v.length ≤ 1000000) (hN : 2000000 < N) (hN2 : N ≤ 9223372036854775808) : NP N name v = some (QT name v) := by
 unfold NP QT
 rw [rE (by omega) (by omega) (by omega), oS]
 cases ZX name with
 | none => rfl
 | some t =>
  simp only [Bool.not_true, cond_false]
  rw [Gx t.Syntax hv hN hN2]
  by_cases h0 : v = []
  ·subst h0; rfl
  ·rw [show (v == ([] : List UInt8)) = false by simpa using h0, cond_false]
   by_cases h60 : v.length ≤ 60
   ·rw [decide_eq_false (by omega), cond_false]
    cases hm : Cc t.Syntax v with
    | true => rw [if_pos ⟨h0, h60, rfl⟩]; rfl
    | false => rw [if_neg (fun h => by cases h.2.2)]; rfl
   ·rw [decide_eq_true (by omega), if_neg (fun h => h60 h.2.1)]; rfl
def mI (c : AO) : Prop := 0 ≤ c.Time ∧ c.Time ≤ 1099511627776 ∧ 0 ≤ c.Seq ∧ c.Seq ≤ 65535 ∧ 0 ≤ c.Rep ∧ c.Rep < 6
instance (c : AO) : Decidable (mI c) := by unfold mI; infer_instance
theorem andB (p q : Prop) [Decidable p] [Decidable q] : (bif decide p then some (decide q) else some false) = some (decide (p ∧ q)) := by
 by_cases h : p <;> simp [h]
theorem yV (N : Nat) (c : AO) : X9 N c = some (decide (mI c)) := by
 unfold X9
 simp only [andB, oS, ge_iff_le]
 congr 1
def lQ (a b : Int) : Int := if a < b then -1 else if a > b then 1 else 0
theorem YC (N : Nat) (a b : Int) : K8 N a b = some (lQ a b) := by
 unfold K8 LZ lQ
 simp only [bne_self_eq_false, oS, cond_false]
 by_cases h : a < b
 ·simp [h]
 ·by_cases h2 : a > b
  ·simp [h, h2]
  ·simp [h, h2]
theorem dR (N : Nat) (a b : Int) : cmp_Compare_int N a b = some (lQ a b) := YC N a b
theorem beqI (a b : Int) : (a == b) = decide (a = b) := by rw [Bool.eq_iff_iff]; simp
theorem Dy (a b : Int) : (a != b) = decide (¬ a = b) := by rw [Bool.eq_iff_iff]; simp
theorem or_eq (N : Nat) (x y z : Int) : U5 (N + 4) [x, y, z] = some (if x ≠ 0 then x else if y ≠ 0 then y else z) := by
 have w0 : CE 1 = 1 := by rfl
 have w1 : CE 2 = 2 := by rfl
 have w2 : CE 3 = 3 := by rfl
 unfold U5
 simp only [LV, PM]
 by_cases hx : x = 0
 ·by_cases hy : y = 0
  ·by_cases hz : z = 0
   ·simp [Dy, EP, w0, w1, w2, hx, hy, hz]
   ·simp [Dy, EP, w0, w1, w2, hx, hy, hz]
  ·simp [Dy, EP, w0, w1, w2, hx, hy]
 ·simp [Dy, EP, w0, w1, w2, hx]
def cmpS (a b : AO) : Int := if lQ a.Time b.Time ≠ 0 then lQ a.Time b.Time else if lQ a.Seq b.Seq ≠ 0 then lQ a.Seq b.Seq else lQ a.Rep b.Rep
theorem tV (N : Nat) (hN : 4 ≤ N) (a b : AO) : aW N a b = some (cmpS a b) := by
 unfold aW
 obtain ⟨n, rfl⟩ : ∃ n, N = n + 4 := ⟨N - 4, by omega⟩
 rw [YC, oS, dR, oS, dR, oS, or_eq]
 rfl
theorem Dt {a b : AO} : a = b ↔ a.Time = b.Time ∧ a.Seq = b.Seq ∧ a.Rep = b.Rep := by
 cases a; cases b; simp
theorem eqB (a b : AO) : (a.Time == b.Time && (a.Seq == b.Seq && (a.Rep == b.Rep && true))) = decide (a = b) := by
 rw [Bool.eq_iff_iff]
 simp [Dt]
def tN : List UInt8 := [101, 110, 116, 114, 121, 105, 100]
def kL (a : AU) : Bool := !(a.Attr == tN) && decide (QT a.Attr a.Value = 0)
def gU (r : List AU) : Bool := V6 r && (decide (r.length < 4) && r.all kL)
def WH (last : Int) (m : BA) : Bool := match ZX m.Attr with
 | none => false
 | some t => (t.Name == m.Attr) && (!(m.Attr == tN) && (decide (1 ≤ m.Kind) && (decide (m.Kind ≤ last) && (decide (m.Values.length ≤ 12) && (!(decide (m.Kind = 1) && decide (m.Values.length = 0)) && m.Values.all (fun v => decide (QT m.Attr v = 0)))))))
def VF (last : Int) (l : List BA) : Bool := l.all (WH last) && decide (l.length ≤ 8)
def bnA (a : AU) : Prop := a.Attr.length ≤ 1000000 ∧ a.Value.length ≤ 1000000
def Ez (m : BA) : Prop := m.Attr.length ≤ 1000000 ∧ m.Values.length ≤ 1000000 ∧ ∀ v ∈ m.Values, v.length ≤ 1000000
def Fa (c : AR) : Prop := (c.RDN.length ≤ 1000000 ∧ ∀ a ∈ c.RDN, bnA a) ∧ (c.Mods.length ≤ 1000000 ∧ ∀ m ∈ c.Mods, Ez m)
theorem neI (a b : Int) : (a != b) = !decide (a = b) := by rw [Bool.eq_iff_iff]; simp
theorem xE (N : Nat) (hN : 2000000 < N) (hN2 : N ≤ 9223372036854775808) : ∀ (b a : List AU) (n : Nat), (a ++ b).length ≤ 9223372036854775807 → b.length < n → (∀ x ∈ b, bnA x) →
  ∃ i : Nat, BL N (a ++ b) n (a.length : Int) = some (bif b.all kL then .inl () else .inr (i : Int)) := by
 intro b
 induction b with
 | nil =>
  intro a n hs hn _
  obtain ⟨n, rfl, _⟩ := fuel hn
  simp only [BL, CB]
  rw [EX, cond_false]; exact ⟨0, rfl⟩
 | cons x b ih =>
  intro a n hs hn hok
  obtain ⟨n, rfl, hn'⟩ := fuel hn
  obtain ⟨i, hi⟩ := ih (a ++ [x]) n (by simpa using hs) hn' (fun y hy => hok y (List.mem_cons_of_mem _ hy))
  rw [← F8] at hi
  have hx := hok x List.mem_cons_self
  simp only [BL, CB, QU]
  rw [F3, cond_true, FH, oS, lT hx.1 hx.2 hN hN2, F5 (a := a) (b := b) (x := x) (by omega), hi, List.all_cons, oS, neI]
  show ∃ j : Nat, _ = some (bif (!(x.Attr == tN) && decide (QT x.Attr x.Value = 0)) && b.all kL then _ else _)
  unfold tN
  cases (x.Attr == ([101, 110, 116, 114, 121, 105, 100] : List UInt8))
  ·cases decide (QT x.Attr x.Value = 0)
   ·exact ⟨a.length, rfl⟩
   ·exact ⟨i, rfl⟩
  ·exact ⟨a.length, rfl⟩
theorem zB {N : Nat} {r : List AU} (hN : 2000000 < N) (hN2 : N ≤ 9223372036854775808) (hl : r.length ≤ 1000000) (hr : ∀ x ∈ r, bnA x) : O0 N r = some (gU r) := by
 unfold O0 DC E8 gU
 rw [l5 hN2 (by omega) (by omega) (fun x hx => ⟨by have := (hr x hx).1; omega, by have := (hr x hx).2; omega⟩), oS]
 obtain ⟨i, h⟩ := xE N hN hN2 r [] N (by simp; omega) (by omega) hr
 simp only [List.nil_append, List.length_nil] at h
 rw [show ((0 : Int)) = ((0 : Nat) : Int) from rfl, h, show decide ((r.length : Int) ≥ 4) = !decide (r.length < 4) by rw [Bool.eq_iff_iff]; simp; omega]
 cases V6 r
 ·rfl
 ·cases decide (r.length < 4)
  ·rfl
  ·cases r.all kL
   ·simp [Option.bind]
   ·rfl
theorem xD (N : Nat) (hN : 2000000 < N) (hN2 : N ≤ 9223372036854775808) (m : BA) (hm : m.Attr.length ≤ 1000000) : ∀ (b a : List (List UInt8)) (n : Nat), (a ++ b).length ≤ 9223372036854775807 → b.length < n → (∀ x ∈ b, x.length ≤ 1000000) →
  ∃ i : Nat, BM N (a ++ b) m n (a.length : Int) = some (bif b.all (fun v => decide (QT m.Attr v = 0)) then .inl () else .inr (i : Int)) := by
 intro b
 induction b with
 | nil =>
  intro a n hs hn _
  obtain ⟨n, rfl, _⟩ := fuel hn
  simp only [BM, CG]
  rw [EX, cond_false]; exact ⟨0, rfl⟩
 | cons x b ih =>
  intro a n hs hn hok
  obtain ⟨n, rfl, hn'⟩ := fuel hn
  obtain ⟨i, hi⟩ := ih (a ++ [x]) n (by simpa using hs) hn' (fun y hy => hok y (List.mem_cons_of_mem _ hy))
  rw [← F8] at hi
  have hx := hok x List.mem_cons_self
  simp only [BM, CG, PN]
  rw [F3, cond_true, FH, oS, lT hm hx hN hN2, F5 (a := a) (b := b) (x := x) (by omega), hi, List.all_cons, oS, neI]
  cases decide (QT m.Attr x = 0)
  ·exact ⟨a.length, rfl⟩
  ·exact ⟨i, rfl⟩
theorem Kh {N : Nat} {m : BA} (hN : 2000000 < N) (hN2 : N ≤ 9223372036854775808) (hm : Ez m) : CL N m.Values m = some (!m.Values.all (fun v => decide (QT m.Attr v = 0))) := by
 unfold CL EB
 obtain ⟨i, h⟩ := xD N hN hN2 m hm.1 m.Values [] N (by have := hm.2.1; simp; omega) (by have := hm.2.1; omega) hm.2.2
 simp only [List.nil_append, List.length_nil] at h
 rw [show ((0 : Int)) = ((0 : Nat) : Int) from rfl, h]
 cases m.Values.all (fun v => decide (QT m.Attr v = 0))
 ·simp [Option.bind]
 ·rfl
theorem l6 (N : Nat) (hN : 2000000 < N) (hN2 : N ≤ 9223372036854775808) (last : Int) : ∀ (b a : List BA) (n : Nat), (a ++ b).length ≤ 9223372036854775807 → b.length < n → (∀ x ∈ b, Ez x) →
  G7 N (a ++ b) last n (a.length : Int) = some (bif b.all (WH last) then .inl () else .inr false) := by
 intro b
 induction b with
 | nil =>
  intro a n hs hn _
  obtain ⟨n, rfl, _⟩ := fuel hn
  simp only [G7, JK]
  rw [EX, cond_false]; rfl
 | cons x b ih =>
  intro a n hs hn hok
  obtain ⟨n, rfl, hn'⟩ := fuel hn
  have hi := ih (a ++ [x]) n (by simpa using hs) hn' (fun y hy => hok y (List.mem_cons_of_mem _ hy))
  rw [← F8] at hi
  have hx := hok x List.mem_cons_self
  simp only [G7, JK]
  rw [F3, cond_true, FH, oS, rE (by have := hx.1; omega) (by have := hx.1; omega) (by omega), oS, F5 (a := a) (b := b) (x := x) (by omega), hi, List.all_cons]
  have hv := Kh hN hN2 hx
  rw [show (⟨x.Kind, x.Attr, x.Values⟩ : BA) = x from rfl, hv, oS]
  unfold WH tN
  rw [show decide (x.Kind < 1) = !decide (1 ≤ x.Kind) by rw [Bool.eq_iff_iff]; simp, show decide (x.Kind > last) = !decide (x.Kind ≤ last) by rw [Bool.eq_iff_iff]; simp, show decide ((x.Values.length : Int) > 12) = !decide (x.Values.length ≤ 12) by rw [Bool.eq_iff_iff]; simp; omega,
   show (x.Kind == (1 : Int)) = decide (x.Kind = 1) by rw [Bool.eq_iff_iff]; simp, show ((x.Values.length : Int) == (0 : Int)) = decide (x.Values.length = 0) by rw [Bool.eq_iff_iff]; simp]
  cases ZX x.Attr with
  | none => rfl
  | some t =>
   simp only
   cases (t.Name == x.Attr) <;> cases (x.Attr == ([101, 110, 116, 114, 121, 105, 100] : List UInt8)) <;> cases decide (1 ≤ x.Kind) <;> cases decide (x.Kind ≤ last) <;> cases decide (x.Values.length ≤ 12) <;> cases decide (x.Kind = 1) <;> cases decide (x.Values.length = 0) <;> cases x.Values.all (fun v => decide (QT x.Attr v = 0)) <;> rfl
theorem gV {N : Nat} {l : List BA} (last : Int) (hN : 2000000 < N) (hN2 : N ≤ 9223372036854775808) (hl : l.length ≤ 1000000) (hm : ∀ m ∈ l, Ez m) : LW N l last = some (VF last l) := by
 unfold LW VF
 have h := l6 N hN hN2 last l [] N (by simp; omega) (by omega) hm
 simp only [List.nil_append, List.length_nil] at h
 rw [show ((0 : Int)) = ((0 : Nat) : Int) from rfl, h, show decide ((l.length : Int) ≤ 8) = decide (l.length ≤ 8) by rw [Bool.eq_iff_iff]; simp; omega]
 cases l.all (WH last) <;> rfl

theorem jE : ∀ (f u : Nat) (a : List UInt8), (Es f u a).length ≤ f + a.length
 | 0, u, a => by rw [Es]; omega
 | f + 1, u, a => by
  rw [Es]
  split
  ·simp; omega
  ·have := jE f (u / 10) (UInt8.ofNat (48 + u % 10) :: a)
   rw [List.length_cons] at this; omega
theorem Q7 (n : Int) : (Y6 n).length ≤ 21 := by
 unfold Y6
 split
 ·have := jE 20 n.natAbs []
  simp at this ⊢; omega
 ·have := jE 20 n.toNat []
  simp at this; omega
def noC : AO := ⟨0, 0, 0⟩
def vB (c : AO) : List UInt8 := Y6 c.Time ++ 46 :: (Y6 c.Seq ++ 46 :: Y6 c.Rep)
def intC (c : AO) : Prop := (-9223372036854775808 ≤ c.Time ∧ c.Time ≤ 9223372036854775807) ∧ (-9223372036854775808 ≤ c.Seq ∧ c.Seq ≤ 9223372036854775807) ∧ (-9223372036854775808 ≤ c.Rep ∧ c.Rep ≤ 9223372036854775807)
theorem uZ (a b c : List UInt8) (ha : a.length ≤ 21) (hb : b.length ≤ 21) (hc : c.length ≤ 21) :
  (Option.bind (XC a ([46] : List UInt8)) fun (x6 : List UInt8) =>
   Option.bind (some b) fun (x9 : List UInt8) =>
   Option.bind (XC x6 x9) fun (PI : List UInt8) =>
   Option.bind (XC PI ([46] : List UInt8)) fun (PG : List UInt8) =>
   Option.bind (some c) fun (M7 : List UInt8) =>
   Option.bind (XC PG M7) fun (W9 : List UInt8) =>
   some W9) = some (a ++ 46 :: (b ++ 46 :: c)) := by
 rw [VV (by simp; omega)]
 simp only [oS]
 rw [VV (by simp; omega), oS, VV (by simp; omega), oS, VV (by simp; omega), oS]
 simp
theorem Bc {N : Nat} {c : AO} (h : intC c) : VC N c = some (vB c) := by
 obtain ⟨h1, h2, h3⟩ := h
 unfold VC IM strconv_Itoa
 rw [if_pos ⟨rfl, h1⟩, if_pos h2, if_pos h3, oS, uZ _ _ _ (Q7 _) (Q7 _) (Q7 _)]
 rfl
theorem rT (c : AO) : (vB c).length ≤ 65 := by
 unfold vB
 have h1 := Q7 c.Time
 have h2 := Q7 c.Seq
 have h3 := Q7 c.Rep
 simp; omega
def fE (c : AO) : Bool := decide (c = noC)
def ZG (x c : AO) : Bool := decide (cmpS x c < 0)
def rH (c : AR) : Bool := fE c.Parent && (decide (c.RDN.length = 0) && !c.DelOld)
def ZV (c : AR) : Bool :=
 bif c.Kind == 1 then decide (c.ID = c.CSN) && (ZG c.Parent c.CSN && (gU c.RDN && (VF 1 c.Mods && !c.DelOld)))
 else bif c.Kind == 2 then !fE c.ID && (ZG c.ID c.CSN && (rH c && decide (c.Mods.length = 0)))
 else bif c.Kind == 3 then ZG c.ID c.CSN && (rH c && (decide (0 < c.Mods.length) && VF 3 c.Mods))
 else bif c.Kind == 4 then !fE c.ID && (ZG c.ID c.CSN && (ZG c.Parent c.CSN && (gU c.RDN && decide (c.Mods.length = 0))))
 else false
def aO (c : AR) : Bool := decide (mI c.CSN) && (!fE c.CSN && (decide (mI c.ID) && (decide (mI c.Parent) && ZV c)))
theorem Ao (c : AO) : (c.Time == (0 : Int) && (c.Seq == (0 : Int) && (c.Rep == (0 : Int) && true))) = fE c := eqB c noC
theorem oF (N : Nat) (c : AO) : QQ N c = some (fE c) := by unfold QQ; rw [Ao]
theorem Fb (a b : Bool) : (bif a then some b else some false) = some (a && b) := by cases a <;> rfl
theorem borS (a b : Bool) : (bif a then some true else some b) = some (a || b) := by cases a <;> rfl
theorem len0 {α : Type} (l : List α) : ((l.length : Int) == (0 : Int)) = decide (l.length = 0) := by rw [Bool.eq_iff_iff]; simp
theorem lenP {α : Type} (l : List α) : decide ((l.length : Int) > (0 : Int)) = decide (0 < l.length) := by rw [Bool.eq_iff_iff]; simp
theorem jG {N : Nat} {c : AR} (hN : 2000000 < N) (hN2 : N ≤ 9223372036854775808) (h : Fa c) : NF N c = some (aO c) := by
 unfold NF KV aO
 have e1 : (⟨c.CSN.Time, c.CSN.Seq, c.CSN.Rep⟩ : AO) = c.CSN := rfl
 have e2 : (⟨c.ID.Time, c.ID.Seq, c.ID.Rep⟩ : AO) = c.ID := rfl
 have e3 : (⟨c.Parent.Time, c.Parent.Seq, c.Parent.Rep⟩ : AO) = c.Parent := rfl
 simp only [e1, e2, e3, yV, oF, tV N (by omega), zB hN hN2 h.1.1 h.1.2, gV 1 hN hN2 h.2.1 h.2.2, gV 3 hN hN2 h.2.1 h.2.2, oS, Fb, borS, len0, lenP, eqB]
 have g : ∀ (a b x d : Bool) (y : Option Bool) (k : Bool), y = some k → (bif (!a || (b || (!x || !d))) then some false else y) = some (a && (!b && (x && (d && k)))) := by
  intro a b x d y k hy
  subst hy
  cases a <;> cases b <;> cases x <;> cases d <;> rfl
 refine g _ _ _ _ _ _ ?_
 unfold ZV rH ZG
 cases c.Kind == 1
 ·cases c.Kind == 2
  ·cases c.Kind == 3
   ·cases c.Kind == 4
    ·rfl
    ·rfl
   ·rfl
  ·rfl
 ·rfl
theorem Y7 {α : Type} {a : List α} {a' b' : List α} {y : α} (h : a.length = a'.length) : EP (a' ++ y :: b') (a.length : Int) = some y := by rw [h]; exact FH a' b' y
theorem jM {α : Type} [DecidableEq α] (x y : α) (b b' : List α) : decide (x :: b = y :: b') = (decide (x = y) && decide (b = b')) := by
 rw [Bool.eq_iff_iff]; simp
theorem yJ (N : Nat) : ∀ (b b' a a' : List (List UInt8)) (n : Nat), a.length = a'.length → b.length = b'.length → (a ++ b).length ≤ 9223372036854775807 → b.length < n →
  CU N (a ++ b) (a' ++ b') n (a.length : Int) = some (bif decide (b = b') then .inl () else .inr false) := by
 intro b
 induction b with
 | nil =>
  intro b' a a' n ha hb hs hn
  obtain ⟨n, rfl, _⟩ := fuel hn
  cases b' with
  | cons y b' => cases hb
  | nil =>
   simp only [CU, EU]
   rw [EX, cond_false]; rfl
 | cons x b ih =>
  intro b' a a' n ha hb hs hn
  obtain ⟨n, rfl, hn'⟩ := fuel hn
  cases b' with
  | nil => cases hb
  | cons y b' =>
   have hi := ih b' (a ++ [x]) (a' ++ [y]) n (by simp [ha]) (by simpa using hb) (by simpa using hs) hn'
   rw [← F8, ← F8] at hi
   simp only [CU, EU]
   rw [F3, cond_true, FH, oS, Y7 ha, oS, F5 (a := a) (b := b) (x := x) hs, hi, jM, show (x == y) = decide (x = y) by rw [Bool.eq_iff_iff]; simp]
   cases decide (x = y) <;> rfl
theorem neL (a b : Nat) : ((a : Int) != (b : Int)) = !decide (a = b) := by rw [Bool.eq_iff_iff]; simp; omega
theorem Lg {N : Nat} {l m : List (List UInt8)} (hl : l.length ≤ 1000000) (hN : 2000000 < N) : FN N l m = some (decide (l = m)) := by
 unfold FN
 rw [neL]
 by_cases h : l.length = m.length
 ·have := yJ N l m [] [] N rfl h (by simp; omega) (by omega)
  simp only [List.nil_append, List.length_nil] at this
  rw [decide_eq_true h, show ((0 : Int)) = ((0 : Nat) : Int) from rfl, this]
  cases decide (l = m) <;> rfl
 ·rw [decide_eq_false h, decide_eq_false (fun e => h (by rw [e]))]; rfl
theorem yK (N : Nat) : ∀ (b b' a a' : List AU) (n : Nat), a.length = a'.length → b.length = b'.length → (a ++ b).length ≤ 9223372036854775807 → b.length < n →
  CP N (a ++ b) (a' ++ b') n (a.length : Int) = some (bif decide (b = b') then .inl () else .inr false) ∧ EJ N (a ++ b) (a' ++ b') n (a.length : Int) = some (bif decide (b = b') then .inl () else .inr false) := by
 intro b
 induction b with
 | nil =>
  intro b' a a' n ha hb hs hn
  obtain ⟨n, rfl, _⟩ := fuel hn
  cases b' with
  | cons y b' => cases hb
  | nil =>
   simp only [CP, EQ, EJ, FX]
   rw [EX, cond_false]; exact ⟨rfl, rfl⟩
 | cons x b ih =>
  intro b' a a' n ha hb hs hn
  obtain ⟨n, rfl, hn'⟩ := fuel hn
  cases b' with
  | nil => cases hb
  | cons y b' =>
   have hi := ih b' (a ++ [x]) (a' ++ [y]) n (by simp [ha]) (by simpa using hb) (by simpa using hs) hn'
   rw [← F8, ← F8] at hi
   have he : (x.Attr == y.Attr && (x.Value == y.Value && true)) = decide (x = y) := by
    rw [Bool.eq_iff_iff]; cases x; cases y; simp
   simp only [CP, EQ, EJ, FX]
   refine ⟨?_, ?_⟩
   ·rw [F3, cond_true, FH, oS, Y7 ha, oS, F5 (a := a) (b := b) (x := x) hs, hi.1, jM, he]
    cases decide (x = y) <;> rfl
   ·rw [F3, cond_true, FH, oS, Y7 ha, oS, F5 (a := a) (b := b) (x := x) hs, hi.2, jM, he]
    cases decide (x = y) <;> rfl
theorem Lh {N : Nat} {l m : List AU} (hl : l.length ≤ 1000000) (hN : 2000000 < N) : FD N l m = some (decide (l = m)) ∧ IZ N l m = some (decide (l = m)) := by
 unfold FD IZ
 rw [neL]
 by_cases h : l.length = m.length
 ·have := yK N l m [] [] N rfl h (by simp; omega) (by omega)
  simp only [List.nil_append, List.length_nil] at this
  rw [decide_eq_true h, show ((0 : Int)) = ((0 : Nat) : Int) from rfl, this.1, this.2]
  cases decide (l = m) <;> exact ⟨rfl, rfl⟩
 ·rw [decide_eq_false h, decide_eq_false (fun e => h (by rw [e]))]; exact ⟨rfl, rfl⟩
theorem Cb (x y : BA) : decide (x = y) = (decide (x.Kind = y.Kind) && (decide (x.Attr = y.Attr) && decide (x.Values = y.Values))) := by
 rw [Bool.eq_iff_iff]; cases x; cases y; simp
theorem vM {N : Nat} {x y : BA} (hx : Ez x) (hN : 2000000 < N) : OU N x y = some (decide (x = y)) := by
 unfold OU
 rw [Lg hx.2.1 hN, Cb, show (x.Kind == y.Kind) = decide (x.Kind = y.Kind) by rw [Bool.eq_iff_iff]; simp, show (x.Attr == y.Attr) = decide (x.Attr = y.Attr) by rw [Bool.eq_iff_iff]; simp]
 cases decide (x.Kind = y.Kind) <;> cases decide (x.Attr = y.Attr) <;> rfl
theorem yL (N : Nat) (hN : 2000000 < N) : ∀ (b b' a a' : List BA) (n : Nat), a.length = a'.length → b.length = b'.length → (a ++ b).length ≤ 9223372036854775807 → b.length < n → (∀ m ∈ b, Ez m) →
  BB N (a ++ b) (a' ++ b') n (a.length : Int) = some (bif decide (b = b') then .inl () else .inr false) := by
 intro b
 induction b with
 | nil =>
  intro b' a a' n ha hb hs hn _
  obtain ⟨n, rfl, _⟩ := fuel hn
  cases b' with
  | cons y b' => cases hb
  | nil =>
   simp only [BB, BO]
   rw [EX, cond_false]; rfl
 | cons x b ih =>
  intro b' a a' n ha hb hs hn hm
  obtain ⟨n, rfl, hn'⟩ := fuel hn
  cases b' with
  | nil => cases hb
  | cons y b' =>
   have hi := ih b' (a ++ [x]) (a' ++ [y]) n (by simp [ha]) (by simpa using hb) (by simpa using hs) hn' (fun m h => hm m (List.mem_cons_of_mem _ h))
   rw [← F8, ← F8] at hi
   simp only [BB, BO]
   rw [F3, cond_true, FH, oS, Y7 ha, oS, vM (hm x List.mem_cons_self) hN, oS, F5 (a := a) (b := b) (x := x) hs, hi, jM]
   cases decide (x = y) <;> rfl
theorem Li {N : Nat} {l m : List BA} (hl : l.length ≤ 1000000) (hm : ∀ x ∈ l, Ez x) (hN : 2000000 < N) : BR N l m = some (decide (l = m)) := by
 unfold BR
 rw [neL]
 by_cases h : l.length = m.length
 ·have := yL N hN l m [] [] N rfl h (by simp; omega) (by omega) hm
  simp only [List.nil_append, List.length_nil] at this
  rw [decide_eq_true h, show ((0 : Int)) = ((0 : Nat) : Int) from rfl, this]
  cases decide (l = m) <;> rfl
 ·rw [decide_eq_false h, decide_eq_false (fun e => h (by rw [e]))]; rfl
theorem Lm (x y : AR) : decide (x = y) = (decide (x.CSN = y.CSN) && (decide (x.Kind = y.Kind) && (decide (x.ID = y.ID) && (decide (x.Parent = y.Parent) && (decide (x.RDN = y.RDN) && (decide (x.DelOld = y.DelOld) && decide (x.Mods = y.Mods))))))) := by
 rw [Bool.eq_iff_iff]; cases x; cases y; simp
theorem boolB (a b : Bool) : (a == b) = decide (a = b) := by cases a <;> cases b <;> rfl
theorem tY {N : Nat} {x y : AR} (hx : Fa x) (hN : 2000000 < N) : P9 N x y = some (decide (x = y)) := by
 unfold P9
 rw [Li hx.2.1 hx.2.2 hN, (Lh hx.1.1 hN).1, Lm]
 simp only [eqB]
 simp only [oS, Fb, beqI, boolB]
def dG (m : BA) : Bool := decide (m.Attr.length ≤ 30) && (decide (m.Values.length ≤ 20) && m.Values.all (fun v => decide (v.length ≤ 80)))
def dH (a : AU) : Bool := decide (a.Attr.length ≤ 30) && decide (a.Value.length ≤ 80)
def gL (c : AR) : Bool := c.Mods.all dG && (decide (c.Mods.length ≤ 14) && (c.RDN.all dH && decide (c.RDN.length ≤ 6)))
theorem gtL (a k : Nat) : decide ((a : Int) > (k : Int)) = !decide (a ≤ k) := by rw [Bool.eq_iff_iff]; simp
theorem leL (a k : Nat) : decide ((a : Int) ≤ (k : Int)) = decide (a ≤ k) := by rw [Bool.eq_iff_iff]; simp
theorem tH (N : Nat) (l : List BA) (k : Nat) (m : BA) (hk : l[k]? = some m) : ∀ (b a : List (List UInt8)) (n : Nat), m.Values = a ++ b → (a ++ b).length ≤ 9223372036854775807 → b.length < n →
  EE N l (k : Int) n (a.length : Int) = some (bif b.all (fun v => decide (v.length ≤ 80)) then .inl () else .inr false) := by
 intro b
 induction b with
 | nil =>
  intro a n he hs hn
  obtain ⟨n, rfl, _⟩ := fuel hn
  simp only [EE, FP]
  rw [iY hk, oS, he, EX, cond_false]; rfl
 | cons x b ih =>
  intro a n he hs hn
  obtain ⟨n, rfl, hn'⟩ := fuel hn
  have hi := ih (a ++ [x]) n (by rw [he]; simp) (by simpa using hs) hn'
  simp only [EE, FP]
  rw [iY hk, oS, he, F3, cond_true, oS, he, FH, oS, F5 (a := a) (b := b) (x := x) hs, hi, List.all_cons, show (80 : Int) = ((80 : Nat) : Int) from rfl, gtL]
  cases decide (x.length ≤ 80) <;> rfl
theorem tJ (N : Nat) (hN2 : N ≤ 9223372036854775808) : ∀ (b a : List BA) (n : Nat), (a ++ b).length ≤ 9223372036854775807 → b.length < n → (∀ m ∈ b, m.Values.length < N) →
  EK N (a ++ b) n (a.length : Int) = some (bif b.all dG then .inl () else .inr false) := by
 intro b
 induction b with
 | nil =>
  intro a n hs hn _
  obtain ⟨n, rfl, _⟩ := fuel hn
  simp only [EK, FY]
  rw [EX, cond_false]; rfl
 | cons x b ih =>
  intro a n hs hn hm
  obtain ⟨n, rfl, hn'⟩ := fuel hn
  have hi := ih (a ++ [x]) n (by simpa using hs) hn' (fun y hy => hm y (List.mem_cons_of_mem _ hy))
  rw [← F8] at hi
  have hx := hm x List.mem_cons_self
  have hv := tH N (a ++ x :: b) a.length x (NY a b x) x.Values [] N rfl (by simp; omega) hx
  simp only [List.length_nil] at hv
  simp only [EK, FY]
  rw [F3, cond_true, FH, oS, oS, show (30 : Int) = ((30 : Nat) : Int) from rfl, gtL, show (20 : Int) = ((20 : Nat) : Int) from rfl, gtL, F5 (a := a) (b := b) (x := x) hs, hi, List.all_cons, show ((0 : Int)) = ((0 : Nat) : Int) from rfl, hv]
  unfold dG
  cases decide (x.Attr.length ≤ 30) <;> cases decide (x.Values.length ≤ 20) <;> cases x.Values.all (fun v => decide (v.length ≤ 80)) <;> rfl
theorem tK (N : Nat) : ∀ (b a : List AU) (n : Nat), (a ++ b).length ≤ 9223372036854775807 → b.length < n →
  ER N (a ++ b) n (a.length : Int) = some (bif b.all dH then .inl () else .inr false) := by
 intro b
 induction b with
 | nil =>
  intro a n hs hn
  obtain ⟨n, rfl, _⟩ := fuel hn
  simp only [ER, GD]
  rw [EX, cond_false]; rfl
 | cons x b ih =>
  intro a n hs hn
  obtain ⟨n, rfl, hn'⟩ := fuel hn
  have hi := ih (a ++ [x]) n (by simpa using hs) hn'
  rw [← F8] at hi
  simp only [ER, GD]
  rw [F3, cond_true, FH, oS, oS, show (30 : Int) = ((30 : Nat) : Int) from rfl, gtL, show (80 : Int) = ((80 : Nat) : Int) from rfl, gtL, F5 (a := a) (b := b) (x := x) hs, hi, List.all_cons]
  unfold dH
  cases decide (x.Attr.length ≤ 30) <;> cases decide (x.Value.length ≤ 80) <;> rfl
theorem yG {N : Nat} {c : AR} (hN2 : N ≤ 9223372036854775808) (h1 : c.RDN.length < N) (h2 : c.Mods.length < N) (h3 : ∀ m ∈ c.Mods, m.Values.length < N) : J4 N c = some (gL c) := by
 unfold J4 KR LK gL
 have e1 := tJ N hN2 c.Mods [] N (by simp; omega) h2 h3
 have e2 := tK N c.RDN [] N (by simp; omega) h1
 simp only [List.nil_append, List.length_nil] at e1 e2
 rw [show ((0 : Int)) = ((0 : Nat) : Int) from rfl, e1, e2, show (14 : Int) = ((14 : Nat) : Int) from rfl, leL, show (6 : Int) = ((6 : Nat) : Int) from rfl, leL]
 cases c.Mods.all dG <;> cases decide (c.Mods.length ≤ 14) <;> cases c.RDN.all dH <;> cases decide (c.RDN.length ≤ 6) <;> rfl
theorem yH {c : AR} (h : gL c = true) : Fa c ∧ c.Mods.length ≤ 14 ∧ c.RDN.length ≤ 6 := by
 unfold gL at h
 simp only [Bool.and_eq_true, List.all_eq_true, decide_eq_true_eq] at h
 obtain ⟨h1, h2, h3, h4⟩ := h
 refine ⟨⟨⟨by omega, fun a ha => ?_⟩, ⟨by omega, fun m hm => ?_⟩⟩, h2, h4⟩
 ·have := h3 a ha
  unfold dH at this
  simp only [Bool.and_eq_true, decide_eq_true_eq] at this
  exact ⟨by omega, by omega⟩
 ·have := h1 m hm
  unfold dG at this
  simp only [Bool.and_eq_true, decide_eq_true_eq, List.all_eq_true] at this
  exact ⟨by omega, by omega, fun v hv => by have := this.2.2 v hv; omega⟩
def Fit (N d : Nat) (e : A7) : Prop := ∀ n, d ≤ n → IR N n e = some true ∧ (∃ k : Nat, k ≤ d ∧ MN N n e = some (k : Int)) ∧ ∃ s b, KZ N n e = some (s, b) ∧ s.length ≤ 4010
theorem Fit.mono {N d d' : Nat} {e : A7} (h : Fit N d e) (hd : d ≤ d') : Fit N d' e := fun n hn => by
 obtain ⟨h1, ⟨k, hk, h2⟩, h3⟩ := h n (by omega)
 exact ⟨h1, ⟨k, by omega, h2⟩, h3⟩
theorem lF (N : Nat) (f : A7 → Option Bool) : ∀ (b a : List A7) (n : Nat), (a ++ b).length ≤ 9223372036854775807 → b.length < n → (∀ e ∈ b, f e = some true) →
  BI N f (a ++ b) n (a.length : Int) = some (.inl ()) := by
 intro b
 induction b with
 | nil =>
  intro a n hs hn _
  obtain ⟨n, rfl, _⟩ := fuel hn
  simp only [BI, BV]
  rw [EX, cond_false]
 | cons x b ih =>
  intro a n hs hn hf
  obtain ⟨n, rfl, hn'⟩ := fuel hn
  have hi := ih (a ++ [x]) n (by simpa using hs) hn' (fun y hy => hf y (List.mem_cons_of_mem _ hy))
  rw [← F8] at hi
  simp only [BI, BV, U7]
  rw [F3, cond_true, FH, oS, hf x List.mem_cons_self, oS, F5 (a := a) (b := b) (x := x) hs, hi]
  rfl
theorem tQ (N d : Nat) (f : A7 → Option Int) : ∀ (b a : List A7) (v : Nat) (n : Nat), (a ++ b).length ≤ 9223372036854775807 → b.length < n → v ≤ d → (∀ e ∈ b, ∃ k : Nat, k ≤ d ∧ f e = some (k : Int)) →
  ∃ k : Nat, k ≤ d ∧ KY N f (a ++ b) n ((v : Int), (a.length : Int)) = some (k : Int) := by
 intro b
 induction b with
 | nil =>
  intro a v n hs hn hv _
  obtain ⟨n, rfl, _⟩ := fuel hn
  simp only [KY, OW]
  rw [EX, cond_false]; exact ⟨v, hv, rfl⟩
 | cons x b ih =>
  intro a v n hs hn hv hf
  obtain ⟨n, rfl, hn'⟩ := fuel hn
  obtain ⟨k, hk, hx⟩ := hf x List.mem_cons_self
  simp only [KY, OW]
  rw [F3, cond_true, FH, oS, hx, oS, F5 (a := a) (b := b) (x := x) hs, show mx (v : Int) (k : Int) = ((if k > v then k else v : Nat) : Int) by unfold mx; split <;> split <;> omega]
  obtain ⟨j, hj, hi⟩ := ih (a ++ [x]) (if k > v then k else v) n (by simpa using hs) hn' (by split <;> omega) (fun y hy => hf y (List.mem_cons_of_mem _ hy))
  rw [← F8] at hi
  exact ⟨j, hj, hi⟩
theorem oJ (N : Nat) (f : A7 → Option (List UInt8 × Bool)) (e0 : A7) : ∀ (b a : List A7) (o : List UInt8) (n : Nat), (a ++ b).length ≤ 9223372036854775807 → b.length < n → o.length ≤ 1000000 → (∀ e ∈ b, ∃ s t, f e = some (s, t) ∧ s.length ≤ 4010) →
  ∃ y, JR N f e0 (a ++ b) n ((a.length : Int), o) = some y ∧ (y = .inr ([], false) ∨ ∃ l, y = .inl l ∧ l.length ≤ 1000000) := by
 intro b
 induction b with
 | nil =>
  intro a o n hs hn ho _
  obtain ⟨n, rfl, _⟩ := fuel hn
  simp only [JR, O3]
  rw [EX, cond_false]; exact ⟨_, rfl, .inr ⟨o, rfl, ho⟩⟩
 | cons x b ih =>
  intro a o n hs hn ho hf
  obtain ⟨n, rfl, hn'⟩ := fuel hn
  obtain ⟨s, t, hx, hl⟩ := hf x List.mem_cons_self
  simp only [JR, O3]
  rw [F3, cond_true, FH, oS, hx, oS, bC (by omega) (by simp only; omega)]
  cases t
  ·exact ⟨_, rfl, .inl rfl⟩
  ·simp only [Bool.not_true, cond_false, oS]
   by_cases hc : (o.length : Int) + (s.length : Int) > 4000
   ·rw [decide_eq_true hc]; exact ⟨_, rfl, .inl rfl⟩
   ·rw [decide_eq_false hc, cond_false, KA (by omega), oS, F5 (a := a) (b := b) (x := x) hs]
    obtain ⟨y, hy, hr⟩ := ih (a ++ [x]) (o ++ s) n (by simpa using hs) hn' (by simp; omega) (fun y hy => hf y (List.mem_cons_of_mem _ hy))
    rw [← F8] at hy
    exact ⟨y, hy, hr⟩
theorem sD (N : Nat) (n : Int) : ∃ l, U6 N n = some l ∧ l.length ≤ 3 := by
 unfold U6
 by_cases h : n < 128
 ·rw [decide_eq_true h]; exact ⟨_, rfl, by simp⟩
 ·by_cases h2 : n < 256
  ·rw [decide_eq_false h, decide_eq_true h2]; exact ⟨_, rfl, by simp⟩
  ·rw [decide_eq_false h, decide_eq_false h2]; exact ⟨_, rfl, by simp⟩
theorem kP {N d : Nat} {e : A7} {l : List A7} (hk : e.Kids = List.map A9 l) (hl : l.length ≤ 2000000) (hd : d ≤ 1000000) (hb : e.Body.length ≤ 1000000) (hN : 2000000 < N) (hf : ∀ x ∈ l, Fit N d x)
  (ht : ∀ n, (∀ x ∈ l, IR N n x = some true) → O1 N (IR N n) e = some true) : Fit N (d + 1) e := by
 intro m hm
 obtain ⟨m, rfl⟩ : ∃ k, m = k + 1 := ⟨m - 1, by omega⟩
 have hF := fun x hx => hf x hx m (by omega)
 have hdec : QO CJ e.Kids = some l := by rw [hk]; exact dM UJ l
 refine ⟨ht m (fun x hx => (hF x hx).1), ?_, ?_⟩
 ·show ∃ k : Nat, k ≤ d + 1 ∧ U8 N (MN N m) e = some (k : Int)
  unfold U8
  rw [hdec, oS]
  obtain ⟨k, hk, h⟩ := tQ N d (MN N m) l [] 0 N (by simp; omega) (by omega) (Nat.zero_le _) (fun x hx => (hF x hx).2.1)
  simp only [List.nil_append, List.length_nil] at h
  rw [show ((0 : Int)) = ((0 : Nat) : Int) from rfl, h, oS, LP (by omega)]
  exact ⟨k + 1, by omega, rfl⟩
 ·show ∃ s b, RP N (KZ N m) e = some (s, b) ∧ s.length ≤ 4010
  unfold RP
  rw [hdec, oS]
  obtain ⟨y, h, hy⟩ := oJ N (KZ N m) e l [] e.Body N (by simp; omega) (by omega) hb (fun x hx => (hF x hx).2.2)
  simp only [List.nil_append, List.length_nil] at h
  rw [show ((0 : Int)) = ((0 : Nat) : Int) from rfl, h, oS]
  rcases hy with rfl | ⟨o, rfl, ho⟩
  ·exact ⟨_, _, rfl, by simp⟩
  ·simp only [Sum.elim_inl]
   by_cases hc : (o.length : Int) > 4000
   ·rw [decide_eq_true hc]; exact ⟨_, _, rfl, by simp⟩
   ·obtain ⟨q, hq, hql⟩ := sD N (o.length : Int)
    rw [decide_eq_false hc, cond_false, hq, oS, VV (by simp; omega), oS, VV (by simp; omega), oS]
    exact ⟨_, _, rfl, by simp; omega⟩
theorem kU {N : Nat} {t : UInt8} {s : List UInt8} (h1 : ((((t &&& (31 : UInt8))).toNat : Int) == (31 : Int)) = false) (h2 : ((((t &&& (32 : UInt8))).toNat : Int) == (0 : Int)) = true) (hs : s.length ≤ 1000000) (hN : 2000000 < N) : Fit N 1 ⟨t, s, []⟩ := by
 refine kP (d := 0) (l := []) rfl (by simp) (by omega) hs hN (fun x hx => by cases hx) fun n _ => ?_
 unfold O1
 rw [h1, h2]
 rfl
theorem Y4 {N d : Nat} {l : List A7} (hl : l.length ≤ 2000000) (hd : d ≤ 1000000) (hN : 2000000 < N) (hf : ∀ x ∈ l, Fit N d x) : Fit N (d + 1) ⟨48, [], List.map A9 l⟩ := by
 refine kP (l := l) rfl hl hd (by simp) hN hf fun n hfo => ?_
 unfold O1 CV CY
 have h := lF N (IR N n) l [] N (by simp; omega) (by omega) hfo
 simp only [List.nil_append, List.length_nil] at h
 simp only [dM UJ l, oS]
 rw [show ((((48 : UInt8) &&& (31 : UInt8)).toNat : Int) == (31 : Int)) = false from by decide, show ((((48 : UInt8) &&& (32 : UInt8)).toNat : Int) == (0 : Int)) = false from by decide, show ((0 : Int)) = ((0 : Nat) : Int) from rfl, h]
 rfl
theorem uP {N d : Nat} {e : A7} (hd : d ≤ 20) (hN : 2000000 < N) (h : Fit N d e) : ∃ s k, VX N e = some (s, k) ∧ (k = 0 ∨ k = 13) := by
 obtain ⟨h1, ⟨k, hk, h2⟩, s, b, h3, h4⟩ := h N (by omega)
 unfold VX XE dV ZF
 rw [h1, oS, h2, oS, h3, oS, decide_eq_false (by omega)]
 cases b
 ·exact ⟨_, _, rfl, .inr rfl⟩
 ·exact ⟨_, _, rfl, .inl rfl⟩
theorem mP {N : Nat} (hN : 2000000 < N) {k : Int} (h0 : -4 ≤ k) (h1 : k ≤ 4) : SL N k = some [byte k] := by
 obtain ⟨n, rfl⟩ : ∃ n, N = n + 1 := ⟨N - 1, by omega⟩
 unfold SL
 rw [NK]
 have hk : k = -4 ∨ k = -3 ∨ k = -2 ∨ k = -1 ∨ k = 0 ∨ k = 1 ∨ k = 2 ∨ k = 3 ∨ k = 4 := by omega
 rcases hk with rfl | rfl | rfl | rfl | rfl | rfl | rfl | rfl | rfl <;> rfl
theorem pY {N : Nat} (hN : 2000000 < N) {k : Int} (h0 : -4 ≤ k) (h1 : k ≤ 4) : ∃ e, NJ N 2 k = some e ∧ Fit N 1 e := by
 unfold NJ GQ
 rw [mP hN h0 h1]
 exact ⟨_, rfl, kU (by decide) (by decide) (by simp) hN⟩
theorem XP {N : Nat} (hN : 2000000 < N) {s : List UInt8} (hs : s.length ≤ 1000000) : Fit N 1 ⟨4, s, []⟩ := kU (by decide) (by decide) hs hN
theorem Bv {c : AO} (h : mI c) : intC c := by
 obtain ⟨h1, h2, h3, h4, h5, h6⟩ := h
 exact ⟨⟨by omega, by omega⟩, ⟨by omega, by omega⟩, ⟨by omega, by omega⟩⟩
theorem jF {N : Nat} (hN : 2000000 < N) {c : AO} (h : mI c) : ∃ e, JW N c = some e ∧ Fit N 1 e := by
 unfold JW GQ
 rw [Bc (Bv h)]
 exact ⟨_, rfl, XP hN (by have := rT c; omega)⟩
theorem uC (N : Nat) (hN : 2000000 < N) (c : AR) : ∀ (b a : List AU) (o : List A7) (n : Nat), c.RDN = a ++ b → (a ++ b).length ≤ 1000000 → b.length < n → (∀ x ∈ b, bnA x) → o.length = 2 * a.length → (∀ e ∈ o, Fit N 1 e) →
  ∃ l, GA N c n ((a.length : Int), o) = some l ∧ l.length = 2 * (a ++ b).length ∧ ∀ e ∈ l, Fit N 1 e := by
 intro b
 induction b with
 | nil =>
  intro a o n he hs hn hb ho hf
  obtain ⟨n, rfl, _⟩ := fuel hn
  simp only [GA, JN]
  rw [he, EX, cond_false]; exact ⟨o, rfl, by simpa using ho, hf⟩
 | cons x b ih =>
  intro a o n he hs hn hb ho hf
  obtain ⟨n, rfl, hn'⟩ := fuel hn
  have hx := hb x List.mem_cons_self
  have hs' := hs
  simp only [List.length_append, List.length_cons] at hs'
  simp only [GA, JN, GQ]
  rw [he, F3, cond_true, FH, oS, oS, oS, KA (by simp; omega), oS, F5 (a := a) (b := b) (x := x) (by omega)]
  obtain ⟨l, hl, h1, h2⟩ := ih (a ++ [x]) (o ++ [⟨4, x.Attr, []⟩, ⟨4, x.Value, []⟩]) n (by rw [he]; simp) (by simpa using hs) hn' (fun y hy => hb y (List.mem_cons_of_mem _ hy)) (by simp; omega) (fun e h => by
   rcases List.mem_append.1 h with h | h
   ·exact hf e h
   ·rcases List.mem_cons.1 h with rfl | h
    ·exact XP hN hx.1
    ·rcases List.mem_cons.1 h with rfl | h
     ·exact XP hN hx.2
     ·cases h)
  exact ⟨l, hl, by simpa using h1, h2⟩
theorem u7 (N : Nat) (hN : 2000000 < N) (c : AR) (y3 r : List A7) (v : Int) (m : BA) : ∀ (b a : List (List UInt8)) (o : List A7) (n : Nat), m.Values = a ++ b → (a ++ b).length ≤ 1000000 → b.length < n → (∀ x ∈ b, x.length ≤ 1000000) → o.length = a.length + 2 → (∀ e ∈ o, Fit N 1 e) →
  ∃ l, G8 N c y3 v r m n ((a.length : Int), o) = some l ∧ l.length = (a ++ b).length + 2 ∧ ∀ e ∈ l, Fit N 1 e := by
 intro b
 induction b with
 | nil =>
  intro a o n he hs hn hb ho hf
  obtain ⟨n, rfl, _⟩ := fuel hn
  simp only [G8, JL]
  rw [he, EX, cond_false]; exact ⟨o, rfl, by simpa using ho, hf⟩
 | cons x b ih =>
  intro a o n he hs hn hb ho hf
  obtain ⟨n, rfl, hn'⟩ := fuel hn
  have hx := hb x List.mem_cons_self
  have hs' := hs
  simp only [List.length_append, List.length_cons] at hs'
  simp only [G8, JL, GQ]
  rw [he, F3, cond_true, FH, oS, oS, KA (by simp; omega), oS, F5 (a := a) (b := b) (x := x) (by omega)]
  obtain ⟨l, hl, h1, h2⟩ := ih (a ++ [x]) (o ++ [⟨4, x, []⟩]) n (by rw [he]; simp) (by simpa using hs) hn' (fun y hy => hb y (List.mem_cons_of_mem _ hy)) (by simp; omega) (fun e h => by
   rcases List.mem_append.1 h with h | h
   ·exact hf e h
   ·rcases List.mem_cons.1 h with rfl | h
    ·exact XP hN hx
    ·cases h)
  exact ⟨l, hl, by simpa using h1, h2⟩
theorem uD (N : Nat) (hN : 2000000 < N) (c : AR) (y3 : List A7) : ∀ (b a : List BA) (o : List A7) (n : Nat), c.Mods = a ++ b → (a ++ b).length ≤ 1000000 → b.length < n → (∀ m ∈ b, Ez m ∧ 1 ≤ m.Kind ∧ m.Kind ≤ 3) → o.length = a.length → (∀ e ∈ o, Fit N 2 e) →
  ∃ l, G9 N c y3 n ((a.length : Int), o) = some l ∧ l.length = (a ++ b).length ∧ ∀ e ∈ l, Fit N 2 e := by
 intro b
 induction b with
 | nil =>
  intro a o n he hs hn hb ho hf
  obtain ⟨n, rfl, _⟩ := fuel hn
  simp only [G9, JM]
  rw [he, EX, cond_false]; exact ⟨o, rfl, by simpa using ho, hf⟩
 | cons x b ih =>
  intro a o n he hs hn hb ho hf
  obtain ⟨n, rfl, hn'⟩ := fuel hn
  obtain ⟨hx, hx1, hx2⟩ := hb x List.mem_cons_self
  have hs' := hs
  simp only [List.length_append, List.length_cons] at hs'
  obtain ⟨e, hke, hkf⟩ := pY hN (k := x.Kind) (by omega) (by omega)
  simp only [G9, JM, GQ, M9]
  rw [he, F3, cond_true, FH, oS, hke, oS, oS]
  obtain ⟨l, hl, h1, h2⟩ := u7 N hN c y3 o (a.length : Int) x x.Values [] [e, ⟨4, x.Attr, []⟩] N rfl (by simpa using hx.2.1) (by have := hx.2.1; omega) hx.2.2 rfl (fun q hq => by
   rcases List.mem_cons.1 hq with rfl | hq
   ·exact hkf
   ·rcases List.mem_cons.1 hq with rfl | hq
    ·exact XP hN hx.1
    ·cases hq)
  simp only [List.length_nil, List.nil_append] at hl h1
  rw [show ((0 : Int)) = ((0 : Nat) : Int) from rfl, hl, oS, oS, KA (by simp; omega), oS, F5 (a := a) (b := b) (x := x) (by omega)]
  have hv := hx.2.1
  have hlen : l.length ≤ 1000002 := by omega
  obtain ⟨r, hr, h3, h4⟩ := ih (a ++ [x]) (o ++ [⟨48, [], List.map A9 l⟩]) n (by rw [he]; simp) (by simpa using hs) hn' (fun y hy => hb y (List.mem_cons_of_mem _ hy)) (by simp; omega) (fun q h => by
   rcases List.mem_append.1 h with h | h
   ·exact hf q h
   ·rcases List.mem_cons.1 h with rfl | h
    ·exact Y4 (d := 1) (by omega) (by omega) hN h2
    ·cases h)
  exact ⟨r, hr, by simpa using h3, h4⟩
theorem sV {c : AR} (h : aO c = true) : mI c.CSN ∧ mI c.ID ∧ mI c.Parent ∧ (1 ≤ c.Kind ∧ c.Kind ≤ 4) ∧ ∀ m ∈ c.Mods, 1 ≤ m.Kind ∧ m.Kind ≤ 3 := by
 unfold aO at h
 simp only [Bool.and_eq_true, decide_eq_true_eq] at h
 obtain ⟨h1, _, h2, h3, h4⟩ := h
 refine ⟨h1, h2, h3, ?_⟩
 have hmods : ∀ last, last ≤ 3 → VF last c.Mods = true → ∀ m ∈ c.Mods, 1 ≤ m.Kind ∧ m.Kind ≤ 3 := by
  intro last hl hm m hmm
  unfold VF at hm
  simp only [Bool.and_eq_true, List.all_eq_true] at hm
  have := hm.1 m hmm
  unfold WH at this
  split at this
  ·cases this
  ·simp only [Bool.and_eq_true, decide_eq_true_eq] at this
   exact ⟨this.2.2.1, by omega⟩
 have hnil : c.Mods.length = 0 → ∀ m ∈ c.Mods, 1 ≤ m.Kind ∧ m.Kind ≤ 3 := by
  intro h m hm
  rw [List.length_eq_zero_iff.1 h] at hm
  cases hm
 unfold ZV at h4
 by_cases k1 : c.Kind = 1
 ·rw [show (c.Kind == 1) = true by simpa using k1, cond_true] at h4
  simp only [Bool.and_eq_true] at h4
  exact ⟨by omega, hmods 1 (by omega) h4.2.2.2.1⟩
 ·rw [show (c.Kind == 1) = false by simpa using k1, cond_false] at h4
  by_cases k2 : c.Kind = 2
  ·rw [show (c.Kind == 2) = true by simpa using k2, cond_true] at h4
   simp only [Bool.and_eq_true, decide_eq_true_eq] at h4
   exact ⟨by omega, hnil h4.2.2.2⟩
  ·rw [show (c.Kind == 2) = false by simpa using k2, cond_false] at h4
   by_cases k3 : c.Kind = 3
   ·rw [show (c.Kind == 3) = true by simpa using k3, cond_true] at h4
    simp only [Bool.and_eq_true] at h4
    exact ⟨by omega, hmods 3 (by omega) h4.2.2.2⟩
   ·rw [show (c.Kind == 3) = false by simpa using k3, cond_false] at h4
    by_cases k4 : c.Kind = 4
    ·rw [show (c.Kind == 4) = true by simpa using k4, cond_true] at h4
     simp only [Bool.and_eq_true, decide_eq_true_eq] at h4
     exact ⟨by omega, hnil h4.2.2.2.2⟩
    ·rw [show (c.Kind == 4) = false by simpa using k4, cond_false] at h4
     cases h4
theorem lY {N : Nat} (hN : 2000000 < N) {c : AR} (h1 : mI c.CSN) (h2 : mI c.ID) (h3 : mI c.Parent) {k : Int} (h0 : -4 ≤ k) (h4 : k ≤ 4) {l m : List A7} (hl : l.length ≤ 1000000 * 2) (hm : m.length ≤ 1000000) (fl : ∀ e ∈ l, Fit N 1 e) (fm : ∀ e ∈ m, Fit N 2 e) :
  ∃ s j, J6 c N l m k = some (s, j) ∧ ((j = 0 ∧ s.length ≤ 4000) ∨ j = 13) := by
 obtain ⟨e1, g1, f1⟩ := pY hN h0 h4
 obtain ⟨e2, g2, f2⟩ := jF hN h1
 obtain ⟨e3, g3, f3⟩ := jF hN h2
 obtain ⟨e4, g4, f4⟩ := jF hN h3
 unfold J6
 rw [g1, oS, show (⟨c.CSN.Time, c.CSN.Seq, c.CSN.Rep⟩ : AO) = c.CSN from rfl, g2, oS, show (⟨c.ID.Time, c.ID.Seq, c.ID.Rep⟩ : AO) = c.ID from rfl, g3, oS, show (⟨c.Parent.Time, c.Parent.Seq, c.Parent.Rep⟩ : AO) = c.Parent from rfl, g4, oS]
 unfold M9
 simp only [oS]
 have hf : Fit N 4 ⟨48, [], List.map A9 [e1, e2, e3, e4, ⟨48, [], List.map A9 l⟩, ⟨48, [], List.map A9 m⟩]⟩ := by
  refine Y4 (d := 3) (by simp) (by omega) hN fun x hx => ?_
  simp only [List.mem_cons, List.not_mem_nil, or_false] at hx
  rcases hx with rfl | rfl | rfl | rfl | rfl | rfl
  ·exact f1.mono (by omega)
  ·exact f2.mono (by omega)
  ·exact f3.mono (by omega)
  ·exact f4.mono (by omega)
  ·exact (Y4 (d := 1) (by omega) (by omega) hN fl).mono (by omega)
  ·exact Y4 (d := 2) (by omega) (by omega) hN fm
 obtain ⟨s, j, hw, hj⟩ := uP (by omega) hN hf
 rw [hw, oS]
 rcases hj with rfl | rfl
 ·by_cases hc : (s.length : Int) > 4000
  ·simp only [decide_eq_true hc]; exact ⟨_, _, rfl, .inr rfl⟩
  ·simp only [decide_eq_false hc]; exact ⟨_, _, rfl, .inl ⟨rfl, by omega⟩⟩
 ·exact ⟨_, _, rfl, .inr rfl⟩
theorem zH {N : Nat} {c : AR} (hN : 2000000 < N) (hN2 : N ≤ 9223372036854775808) (h : Fa c) :
  ∃ s j, JO N c = some (s, j) ∧ (aO c = true → (j = 0 ∧ s.length ≤ 4000) ∨ j = 13) ∧ (aO c = false → s = [] ∧ j = 14) := by
 unfold JO
 rw [jG hN hN2 h, oS]
 cases hc : aO c with
 | false => exact ⟨_, _, rfl, (fun h => by cases h), fun _ => ⟨rfl, rfl⟩⟩
 | true =>
  obtain ⟨k1, k2, k3, k4, k5⟩ := sV hc
  obtain ⟨l, hl, l1, l2⟩ := uC N hN c c.RDN [] [] N rfl (by simpa using h.1.1) (by have := h.1.1; omega) h.1.2 rfl (fun e he => by cases he)
  obtain ⟨m, hm, m1, m2⟩ := uD N hN c l c.Mods [] [] N rfl (by simpa using h.2.1) (by have := h.2.1; omega) (fun q hq => ⟨h.2.2 q hq, k5 q hq⟩) rfl (fun e he => by cases he)
  simp only [List.length_nil, List.nil_append] at hl l1 hm m1
  rw [show ((0 : Int)) = ((0 : Nat) : Int) from rfl, hl]
  simp only [Bool.not_true, cond_false, oS]
  rw [hm, oS]
  have b1 := h.1.1
  have b2 := h.2.1
  cases c.DelOld
  ·obtain ⟨s, j, hs, hj⟩ := lY hN k1 k2 k3 (k := c.Kind) (by omega) (by omega) (l := l) (m := m) (by omega) (by omega) l2 m2
   exact ⟨s, j, hs, fun _ => hj, (fun h => by cases h)⟩
  ·obtain ⟨s, j, hs, hj⟩ := lY hN k1 k2 k3 (k := CE (((0 : Nat) : Int) - c.Kind)) (by rw [bC (by omega) (by omega)]; omega) (by rw [bC (by omega) (by omega)]; omega) (l := l) (m := m) (by omega) (by omega) l2 m2
   exact ⟨s, j, hs, fun _ => hj, (fun h => by cases h)⟩
theorem ZC {α : Type} {k : Nat} {l : List α} (h : l.length ≤ 1000000) (hk : k ≤ 1000) : SG k l = some l := by
 unfold SG
 have : l.length * k ≤ 1000000 * 1000 := Nat.mul_le_mul h hk
 rw [if_pos ⟨by unfold maxLen; omega, by omega⟩]
theorem tX (N : Nat) (l : List BA) (t0 t1 t2 t3 t4 t5 t6 t7 t8 t9 : Int) (t11 : Bool) (r : List AU) : ∀ (b a : List BA) (n : Nat), l = a ++ b → (a ++ b).length ≤ 1000000 → b.length < n → (∀ m ∈ b, m.Values.length ≤ 1000000) →
  GU N l n ((a.length : Int), t0, t1, t2, t3, t4, t5, t6, t7, t8, t9, t11, r, a ++ b) = some (t0, t1, t2, t3, t4, t5, t6, t7, t8, t9, t11, r, a ++ b) := by
 intro b
 induction b with
 | nil =>
  intro a n he hs hn hm
  obtain ⟨n, rfl, _⟩ := fuel hn
  simp only [GU, K9]
  rw [he, EX, cond_false]
 | cons x b ih =>
  intro a n he hs hn hm
  obtain ⟨n, rfl, hn'⟩ := fuel hn
  have hi := ih (a ++ [x]) n (by rw [he]; simp) (by simpa using hs) hn' (fun m h => hm m (List.mem_cons_of_mem _ h))
  rw [← F8] at hi
  simp only [GU, K9]
  rw [he, F3, cond_true, YD, oS, NY, oS, ZC (hm x List.mem_cons_self) (by omega), oS, oS, NY, oS, F5 (a := a) (b := b) (x := x) (by omega)]
  rw [show (⟨x.Kind, x.Attr, x.Values⟩ : BA) = x from rfl, set_mid, ← he, he]
  rw [he] at hi
  exact hi
theorem Dv {N : Nat} {c : AR} (hN : 2000000 < N) (h : Fa c) : NG N c = some c := by
 unfold NG
 rw [ZC h.1.1 (by omega), oS, ZC h.2.1 (by omega), oS]
 have := tX N c.Mods c.CSN.Time c.CSN.Seq c.CSN.Rep c.Kind c.ID.Time c.ID.Seq c.ID.Rep c.Parent.Time c.Parent.Seq c.Parent.Rep c.DelOld c.RDN c.Mods [] N rfl (by simpa using h.2.1) (by have := h.2.1; omega) (fun m hm => (h.2.2 m hm).2.1)
 simp only [List.nil_append, List.length_nil] at this
 rw [show ((0 : Int)) = ((0 : Nat) : Int) from rfl, this]
 rfl
end Go.Gp
end
section
set_option linter.unusedVariables false
namespace Go.Gp
open Go.Vd
theorem nY : MM 9223372036854775808 = some true := by decide +kernel
end Go.Gp
end
section
set_option linter.unusedVariables false
set_option linter.unusedSimpArgs false
namespace Go.Gp
open Go.Vd
theorem b_few {N : Nat} {c : AR} (hN : N = 9223372036854775808) (h : UA c) : J4 N c = some (gL c) := by
 obtain ⟨_, _, _, _, h1, _, h2⟩ := h
 unfold maxLen at h1 h2
 refine yG (by omega) (by have := h1.1; omega) (by have := h2.1; omega) fun m hm => ?_
 have := (h2.2 m hm).2.2.1
 unfold maxLen at this
 omega
theorem U2 (d : AR) (h : decide (mI d.CSN) = false ∨ decide (mI d.Parent) = false ∨ ZV d = false) : aO d = false := by
 unfold aO
 rcases h with h | h | h <;> rw [h] <;> simp
theorem QE {c d : AR} (hc : Fa c) (hd : Fa d) (h1 : aO c = true) (h2 : aO d = false) :
  BS c 9223372036854775808 d.CSN.Time d.CSN.Seq d.CSN.Rep d.Kind d.ID.Time d.ID.Seq d.ID.Rep d.Parent.Time d.Parent.Seq d.Parent.Rep d.DelOld d.RDN d.Mods = some true := by
 unfold BS
 obtain ⟨s, j, hb, _, t2⟩ := zH (N := 9223372036854775808) (by omega) (Nat.le_refl _) hd
 rw [show (⟨⟨d.CSN.Time, d.CSN.Seq, d.CSN.Rep⟩, d.Kind, ⟨d.ID.Time, d.ID.Seq, d.ID.Rep⟩, ⟨d.Parent.Time, d.Parent.Seq, d.Parent.Rep⟩, d.RDN, d.DelOld, d.Mods⟩ : AR) = d from rfl, hb, jG (by omega) (Nat.le_refl _) hd, tY hc (by omega), h2]
 rw [(t2 h2).2, decide_eq_false (show ¬ c = d from fun e => by rw [e, h2] at h1; cases h1)]
 rfl
theorem q9 (c : AR) (m : BA) (hm : ∀ last, WH last m = false) : ZV { c with Mods := c.Mods ++ [m] } = false := by
 unfold ZV
 have h1 : ∀ last, VF last (c.Mods ++ [m]) = false := fun last => by unfold VF; rw [List.all_append]; simp [hm last]
 have h2 : decide ((c.Mods ++ [m]).length = 0) = false := decide_eq_false (by simp)
 simp only [h1, h2]
 cases c.Kind == 1 <;> cases c.Kind == 2 <;> cases c.Kind == 3 <;> cases c.Kind == 4 <;> simp
theorem Gt (c : AR) : ZV { c with RDN := c.RDN ++ [⟨tN, [120]⟩] } = false := by
 unfold ZV rH
 have h1 : gU (c.RDN ++ [⟨tN, [120]⟩]) = false := by unfold gU; rw [List.all_append]; simp [kL]
 have h2 : decide ((c.RDN ++ [(⟨tN, [120]⟩ : AU)]).length = 0) = false := decide_eq_false (by simp)
 simp only [h1, h2]
 cases c.Kind == 1 <;> cases c.Kind == 2 <;> cases c.Kind == 3 <;> cases c.Kind == 4 <;> simp
theorem Bw : ZX [110, 111, 115, 117, 99, 104] = none := by decide +kernel
theorem P7 (a0 : AR) (a1 : UInt8) (h0 : UA a0) (h1 : True) : ∃ N, IG N a0 a1 = some true := by
 refine ⟨9223372036854775808, ?_⟩
 unfold IG
 rw [nY, oS, b_few rfl h0, oS]
 simp only [Bool.not_true, cond_false]
 cases f0 : gL a0
 case false => rfl
 obtain ⟨g0, gm, gr⟩ := yH f0
 simp only [Bool.not_true, cond_false, oS]
 rw [jG (by omega) (Nat.le_refl _) g0, oS]
 cases hc : aO a0
 case false => rfl
 simp only [Bool.not_true, cond_false, oS]
 rw [Dv (by omega) g0, oS]
 have hno : ∀ (f : BA), WH 1 f = WH 1 f := fun _ => rfl
 cases ((((a1 % (7 : UInt8))).toNat : Int) == (0 : Int))
 case true => exact QE (d := { a0 with Kind := 0 }) g0 g0 hc (U2 _ (.inr (.inr rfl)))
 cases ((((a1 % (7 : UInt8))).toNat : Int) == (1 : Int))
 case true => exact QE (d := { a0 with CSN := { a0.CSN with Rep := 6 } }) g0 g0 hc (U2 _ (.inl (decide_eq_false fun h => by have := h.2.2.2.2.2; simp at this)))
 cases ((((a1 % (7 : UInt8))).toNat : Int) == (2 : Int))
 case true => exact QE (d := { a0 with CSN := { a0.CSN with Time := -1 } }) g0 g0 hc (U2 _ (.inl (decide_eq_false fun h => by have := h.1; simp at this)))
 simp only [cond_false]
 rw [KA (by simp; omega), KA (by simp; omega), KA (by simp; omega)]
 simp only [oS]
 have hbm : ∀ s : List UInt8, s.length ≤ 100 → Fa { a0 with Mods := a0.Mods ++ [(⟨1, s, [[120]]⟩ : BA)] } := fun s hs => ⟨g0.1, by simp; omega, fun m hm => by
  rcases List.mem_append.1 hm with hm | hm
  ·exact g0.2.2 m hm
  ·rcases List.mem_cons.1 hm with rfl | hm
   ·exact ⟨by simp only; omega, by simp, fun v hv => by simp at hv; subst hv; simp⟩
   ·cases hm⟩
 cases ((((a1 % (7 : UInt8))).toNat : Int) == (3 : Int))
 case true => exact QE (d := { a0 with Mods := a0.Mods ++ [(⟨1, [110, 111, 115, 117, 99, 104], [[120]]⟩ : BA)] }) g0 (hbm _ (by simp)) hc (U2 _ (.inr (.inr (q9 _ _ fun last => by unfold WH; rw [Bw]))))
 cases ((((a1 % (7 : UInt8))).toNat : Int) == (4 : Int))
 case true => exact QE (d := { a0 with Mods := a0.Mods ++ [(⟨1, tN, [[120]]⟩ : BA)] }) g0 (hbm _ (by unfold tN; simp)) hc (U2 _ (.inr (.inr (q9 _ _ fun last => by
  unfold WH
  cases ZX (⟨1, tN, [[120]]⟩ : BA).Attr with
  | none => rfl
  | some t => simp))))
 cases ((((a1 % (7 : UInt8))).toNat : Int) == (5 : Int))
 case true => exact QE (d := { a0 with RDN := a0.RDN ++ [(⟨tN, [120]⟩ : AU)] }) g0 ⟨⟨by simp; omega, fun a ha => by
  rcases List.mem_append.1 ha with ha | ha
  ·exact g0.1.2 a ha
  ·rcases List.mem_cons.1 ha with rfl | ha
   ·exact ⟨by unfold tN; simp, by simp⟩
   ·cases ha⟩, g0.2⟩ hc (U2 _ (.inr (.inr (Gt _))))
 exact QE (d := { a0 with Parent := { a0.Parent with Seq := -1 } }) g0 g0 hc (U2 _ (.inr (.inl (decide_eq_false fun h => by have := h.2.2.1; simp at this))))
end Go.Gp
end
