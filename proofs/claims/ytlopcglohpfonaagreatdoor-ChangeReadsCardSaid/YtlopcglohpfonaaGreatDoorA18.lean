/- A part of the proof: functions of the program and what they compute. -/
import Derived.Test.YtlopcglohpfonaaGreatDoorA5
import Derived.Test.YtlopcglohpfonaaGreatDoorA17
import Derived.KernelRfl
section
set_option linter.unusedVariables false
set_option linter.unusedSimpArgs false
namespace Go.Gp
open Go.Vd
def pY (c : UInt8) : UInt8 := if 65 ≤ c.toNat ∧ c.toNat ≤ 90 then c + 32 else c
def low (s : List UInt8) : List UInt8 := s.map pY
def Cc (c : UInt8) : Bool := decide (65 ≤ c.toNat) && decide (c.toNat ≤ 90)
theorem xP (c : UInt8) : (bif decide (((c).toNat : Int) ≥ (65 : Int)) then some (decide (((c).toNat : Int) ≤ (90 : Int))) else some false) = some (Cc c) := by
 have := KN (p := fun c => (bif decide (((c).toNat : Int) ≥ (65 : Int)) then some (decide (((c).toNat : Int) ≤ (90 : Int))) else some false) == some (Cc c)) (by decide +kernel) c
 simpa using this
theorem Gc (c : UInt8) : pY c = bif Cc c then c + 32 else c := by
 have := KN (p := fun c => pY c == bif Cc c then c + 32 else c) (by decide +kernel) c
 simpa using this
theorem vT (N : Nat) : ∀ (b a d : List UInt8) (n : Nat), (a ++ b).length ≤ 9223372036854775807 → b.length < n → d.length = a.length →
  MB N (a ++ b) n ((a.length : Int), d ++ b) = some (d ++ low b) := by
 intro b
 induction b with
 | nil =>
  intro a d n hs hn hd
  obtain ⟨n, rfl, _⟩ := fuel hn
  simp only [MB, SC]
  rw [CS, cond_false]; rfl
 | cons c b ih =>
  intro a d n hs hn hd
  obtain ⟨n, rfl, hn'⟩ := fuel hn
  simp only [MB, SC, TR]
  rw [CY, cond_true]
  have hnx : ∀ x, MB N (a ++ c :: b) n (BM ((a.length : Int) + 1), d ++ x :: b) = some (d ++ x :: low b) := by
   intro x
   rw [D7 hs, EN a b c, EN d b x, ih (a ++ [c]) (d ++ [x]) n (by simpa using hs) hn' (by simp [hd])]
   simp
  rw [← hd, XQ, oS, L9, oS, xP]
  simp only [oS, L9, set_mid]
  rw [hd, hnx, hnx]
  show _ = some (d ++ pY c :: low b)
  rw [Gc]
  cases Cc c <;> rfl
theorem lower_eq {N : Nat} {s : List UInt8} (hs : s.length ≤ 9223372036854775807) (hN : s.length < N) : WS N s = some (low s) := by
 unfold WS
 have := vT N s [] [] N hs hN rfl
 simp only [List.nil_append, List.length_nil] at this
 rw [show ((0 : Int)) = ((0 : Nat) : Int) from rfl, this]
 rfl
theorem rV (N : Nat) : ∀ (b d : List UInt8) (n : Nat), (d ++ b).length ≤ 9223372036854775807 → b.length < n →
  FB N n ((d.length : Int), d ++ b) = some (d ++ low b) := by
 intro b
 induction b with
 | nil =>
  intro d n hs hn
  obtain ⟨n, rfl, _⟩ := fuel hn
  simp only [FB, JR]
  rw [CS, cond_false]; rfl
 | cons c b ih =>
  intro d n hs hn
  obtain ⟨n, rfl, hn'⟩ := fuel hn
  simp only [FB, JR, KE]
  rw [CY, cond_true]
  have hnx : ∀ x, FB N n (BM ((d.length : Int) + 1), d ++ x :: b) = some (d ++ x :: low b) := by
   intro x
   have hs' : (d ++ x :: b).length ≤ 9223372036854775807 := by simpa using hs
   rw [D7 hs', EN d b x, ih (d ++ [x]) n (by simpa using hs') hn']
   simp
  rw [XQ]
  simp only [oS, L9, set_mid, hnx, xP]
  show _ = some (d ++ pY c :: low b)
  rw [Gc]
  cases Cc c <;> rfl
theorem nN {N : Nat} {s : List UInt8} (hs : s.length ≤ 9223372036854775807) (hN : s.length < N) : KY N s = some (low s) := by
 unfold KY
 have := rV N s [] N hs hN
 simp only [List.nil_append, List.length_nil] at this
 rw [show ((0 : Int)) = ((0 : Nat) : Int) from rfl, this]
 rfl
def tyA (c : UInt8) : Bool := decide (97 ≤ c.toNat) && decide (c.toNat ≤ 122)
def uX (c : UInt8) : Bool := tyA c || (decide (48 ≤ c.toNat) && decide (c.toNat ≤ 57)) || decide (c.toNat = 45)
def QZ (s : List UInt8) : Bool := match s with
 | [] => false
 | c :: t => decide (t.length < 16) && (tyA c && (c :: t).all uX)
theorem Me (c : UInt8) (x y : Option (Unit ⊕ Bool)) : (Option.bind (bif decide (((c).toNat : Int) ≥ (97 : Int)) then some (decide (((c).toNat : Int) ≤ (122 : Int))) else some false) fun (g7 : Bool) =>
   bif g7 then x else Option.bind (bif decide (((c).toNat : Int) ≥ (48 : Int)) then some (decide (((c).toNat : Int) ≤ (57 : Int))) else some false) fun (g11 : Bool) =>
    bif g11 then (bif g11 then x else y) else (bif (((c).toNat : Int) == (45 : Int)) then x else y)) = bif uX c then x else y := by
 have := KN (p := fun c => (Option.bind (bif decide (((c).toNat : Int) ≥ (97 : Int)) then some (decide (((c).toNat : Int) ≤ (122 : Int))) else some false) fun (g7 : Bool) =>
   bif g7 then some true else Option.bind (bif decide (((c).toNat : Int) ≥ (48 : Int)) then some (decide (((c).toNat : Int) ≤ (57 : Int))) else some false) fun (g11 : Bool) =>
    bif g11 then (bif g11 then some true else some false) else (bif (((c).toNat : Int) == (45 : Int)) then some true else some false)) == some (uX c)) (by decide +kernel) c
 revert this
 cases decide (((c).toNat : Int) ≥ (97 : Int)) <;> cases decide (((c).toNat : Int) ≤ (122 : Int)) <;> cases decide (((c).toNat : Int) ≥ (48 : Int)) <;> cases decide (((c).toNat : Int) ≤ (57 : Int)) <;> cases (((c).toNat : Int) == (45 : Int)) <;> cases uX c <;> simp
theorem xQ (c : UInt8) : (bif decide (((c).toNat : Int) < (97 : Int)) then some true else some (decide (((c).toNat : Int) > (122 : Int)))) = some (!tyA c) := by
 have := KN (p := fun c => (bif decide (((c).toNat : Int) < (97 : Int)) then some true else some (decide (((c).toNat : Int) > (122 : Int)))) == some (!tyA c)) (by decide +kernel) c
 simpa using this
theorem Al (N : Nat) : ∀ (b a : List UInt8) (n : Nat), (a ++ b).length ≤ 9223372036854775807 → b.length < n →
  LJ N (a ++ b) n (a.length : Int) = some (bif b.all uX then .inl () else .inr false) := by
 intro b
 induction b with
 | nil =>
  intro a n hs hn
  obtain ⟨n, rfl, _⟩ := fuel hn
  simp only [LJ, PK]
  rw [CS, cond_false]; rfl
 | cons c b ih =>
  intro a n hs hn
  obtain ⟨n, rfl, hn'⟩ := fuel hn
  simp only [LJ, PK, SF, SE]
  rw [CY, cond_true, XQ, oS, L9, oS, D7 hs]
  have := ih (a ++ [c]) n (by simpa using hs) hn'
  rw [← EN] at this
  rw [this, Me, List.all_cons]
  cases uX c <;> rfl
theorem Ce {N : Nat} {s : List UInt8} (hs : s.length ≤ 9223372036854775807) (hN : s.length < N) : ZN N s = some (QZ s) := by
 unfold ZN QZ
 cases s with
 | nil => rfl
 | cons c s =>
  have h0 : (c :: s == ([] : List UInt8)) = false := rfl
  have hi := D9 [] s c
  have hl := Al N (c :: s) [] N hs hN
  simp only [List.nil_append, List.length_nil] at hi hl
  rw [h0, cond_false, show ((0 : Int)) = ((0 : Nat) : Int) from rfl, hi]
  simp only [oS, xQ, hl]
  by_cases hl : s.length < 16
  ·rw [decide_eq_false (show ¬ (((c :: s).length : Int) > 16) by rw [List.length_cons]; omega), cond_false, oS, decide_eq_true hl, Bool.true_and]
   cases tyA c <;> cases (c :: s).all uX <;> rfl
  ·rw [decide_eq_true (show (((c :: s).length : Int) > 16) by rw [List.length_cons]; omega), decide_eq_false hl]
   rfl
theorem Ep (c : UInt8) : (bif decide (((c).toNat : Int) < (97 : Int)) then
      bif decide (((c).toNat : Int) < (48 : Int)) then
       some (((c).toNat : Int) != (45 : Int))
      else
       bif decide (((c).toNat : Int) > (57 : Int)) then
        some (((c).toNat : Int) != (45 : Int))
       else
        some false
     else
      bif decide (((c).toNat : Int) > (122 : Int)) then
       bif decide (((c).toNat : Int) < (48 : Int)) then
        some (((c).toNat : Int) != (45 : Int))
       else
        bif decide (((c).toNat : Int) > (57 : Int)) then
         some (((c).toNat : Int) != (45 : Int))
        else
         some false
      else
       some false) = some (!uX c) := by
 have := KN (p := fun c => (bif decide (((c).toNat : Int) < (97 : Int)) then
      bif decide (((c).toNat : Int) < (48 : Int)) then
       some (((c).toNat : Int) != (45 : Int))
      else
       bif decide (((c).toNat : Int) > (57 : Int)) then
        some (((c).toNat : Int) != (45 : Int))
       else
        some false
     else
      bif decide (((c).toNat : Int) > (122 : Int)) then
       bif decide (((c).toNat : Int) < (48 : Int)) then
        some (((c).toNat : Int) != (45 : Int))
       else
        bif decide (((c).toNat : Int) > (57 : Int)) then
         some (((c).toNat : Int) != (45 : Int))
        else
         some false
      else
       some false) == some (!uX c)) (by decide +kernel) c
 simpa using this
theorem vF (N : Nat) : ∀ (b a : List UInt8) (n : Nat), (a ++ b).length ≤ 9223372036854775807 → b.length < n →
  FD N (a ++ b) n (a.length : Int) = some (bif b.all uX then .inl () else .inr false) := by
 intro b
 induction b with
 | nil =>
  intro a n hs hn
  obtain ⟨n, rfl, _⟩ := fuel hn
  simp only [FD, IQ]
  rw [CS, cond_false]; rfl
 | cons c b ih =>
  intro a n hs hn
  obtain ⟨n, rfl, hn'⟩ := fuel hn
  simp only [FD, IQ]
  rw [CY, cond_true, D9, oS, D7 hs]
  have := ih (a ++ [c]) n (by simpa using hs) hn'
  rw [← EN] at this
  rw [this, Ep, oS, List.all_cons]
  cases uX c <;> rfl
theorem vJ {N : Nat} {s : List UInt8} (hs : s.length ≤ 9223372036854775807) (hN : s.length < N) : ML N s = some (QZ s) := by
 unfold ML QZ
 cases s with
 | nil => rfl
 | cons c s =>
  have h0 : decide (((c :: s).length : Int) < 1) = false := decide_eq_false (by rw [List.length_cons]; omega)
  have hi := D9 [] s c
  have hl := vF N (c :: s) [] N hs hN
  simp only [List.nil_append, List.length_nil] at hi hl
  rw [h0, cond_false, show ((0 : Int)) = ((0 : Nat) : Int) from rfl, hi]
  simp only [oS, xQ, hl]
  by_cases hl : s.length < 16
  ·rw [decide_eq_false (show ¬ (((c :: s).length : Int) > 16) by rw [List.length_cons]; omega), cond_false, oS, decide_eq_true hl, Bool.true_and]
   cases tyA c <;> cases (c :: s).all uX <;> rfl
  ·rw [decide_eq_true (show (((c :: s).length : Int) > 16) by rw [List.length_cons]; omega), decide_eq_false hl]
   rfl
def Sm (N : Nat) (a : AL) : Prop := a.Attr.length < N ∧ a.Value.length < N
def Jz (a : AL) : Bool := QZ a.Attr && (decide (1 ≤ a.Value.length) && decide (a.Value.length ≤ 60))
def U7 : List AL → List AL → Bool
 | _, [] => true
 | d, a :: r => Jz a && (!d.any (fun x => x.Attr == a.Attr) && U7 (d ++ [a]) r)
def LG (r : List AL) : Bool := decide (1 ≤ r.length) && (decide (r.length ≤ 4) && U7 [] r)
def isS (d : List (List AL)) : Bool := decide (d.length ≤ 8) && d.all LG
theorem nE (N : Nat) (c : AL) : ∀ (b a : List AL) (n : Nat), (a ++ b).length ≤ 9223372036854775807 → b.length < n →
  ∃ i : Nat, BP N (a ++ b) c n (a.length : Int) = some (bif b.any (fun x => x.Attr == c.Attr) then .inr (i : Int) else .inl ()) := by
 intro b
 induction b with
 | nil =>
  intro a n hs hn
  obtain ⟨n, rfl, _⟩ := fuel hn
  simp only [BP, CV]
  rw [CS, cond_false]; exact ⟨0, rfl⟩
 | cons x b ih =>
  intro a n hs hn
  obtain ⟨n, rfl, hn'⟩ := fuel hn
  obtain ⟨i, hi⟩ := ih (a ++ [x]) n (by simpa using hs) hn'
  rw [← EN] at hi
  simp only [BP, CV, bM]
  rw [CY, cond_true, D9, oS, oS, D7 hs, hi, List.any_cons]
  cases x.Attr == c.Attr
  ·exact ⟨i, rfl⟩
  ·exact ⟨a.length, rfl⟩
theorem uB {N : Nat} {l : List AL} {c : AL} (hs : l.length < N) (hN : N ≤ 9223372036854775808) : CX N l c = some (l.any (fun x => x.Attr == c.Attr)) := by
 unfold CX EX
 obtain ⟨i, hi⟩ := nE N c l [] N (by simp; omega) hs
 simp only [List.nil_append, List.length_nil] at hi
 rw [show ((0 : Int)) = ((0 : Nat) : Int) from rfl, hi]
 cases l.any (fun x => x.Attr == c.Attr)
 ·rfl
 ·simp [Option.bind]
theorem wB (N : Nat) (hN : N ≤ 9223372036854775808) (h5 : 5 < N) : ∀ (b a : List AL) (n : Nat), (a ++ b).length < N → b.length < n → (∀ x ∈ b, Sm N x) →
  OB N (a ++ b) n (a.length : Int) = some (bif decide ((a ++ b).length ≤ 4) && U7 a b || decide (b = []) then .inl () else .inr false) := by
 intro b
 induction b with
 | nil =>
  intro a n hs hn _
  obtain ⟨n, rfl, _⟩ := fuel hn
  simp only [OB, SG]
  rw [CS, cond_false]; simp
 | cons x b ih =>
  intro a n hs hn hok
  obtain ⟨n, rfl, hn'⟩ := fuel hn
  have hi := ih (a ++ [x]) n (by simpa using hs) hn' (fun y hy => hok y (List.mem_cons_of_mem _ hy))
  rw [← EN] at hi
  have hx := hok x List.mem_cons_self
  simp only [OB, SG]
  rw [CY, cond_true, D9, oS, D7 (a := a) (b := b) (x := x) (by omega), hi, Ce (by have := hx.1; omega) hx.1, RQ (by simp)]
  rw [List.take_left' rfl]
  have hal : (a ++ x :: b).length = a.length + b.length + 1 := by simp; omega
  simp only [oS]
  rw [uB (by omega) hN, oS]
  by_cases h4 : a.length < 4
  ·rw [decide_eq_false (show ¬ ((a.length : Int) ≥ 4) by omega), cond_false]
   have hv0 : (x.Value == ([] : List UInt8)) = !decide (1 ≤ x.Value.length) := by cases x.Value <;> simp
   have hv1 : decide ((x.Value.length : Int) > 60) = !decide (x.Value.length ≤ 60) := by rw [Bool.eq_iff_iff]; simp; omega
   rw [hv0, hv1]
   have hnil : decide (x :: b = []) = false := by simp
   rw [hnil, Bool.or_false, U7, Jz]
   have hb : decide ((a ++ x :: b).length ≤ 4) = true ∨ (decide ((a ++ x :: b).length ≤ 4) = false ∧ decide (b = []) = false) := by
    by_cases hh : (a ++ x :: b).length ≤ 4
    ·exact .inl (decide_eq_true hh)
    ·refine .inr ⟨decide_eq_false hh, decide_eq_false fun e => hh ?_⟩
     subst e; rw [hal]; simp; omega
   have hgo : b = [] → U7 (a ++ [x]) b = true := by intro e; subst e; rfl
   have hgo' : (decide ((a ++ x :: b).length ≤ 4) && U7 (a ++ [x]) b || decide (b = [])) = (decide ((a ++ x :: b).length ≤ 4) && U7 (a ++ [x]) b) := by
    rcases hb with hb | ⟨hb, hb'⟩
    ·by_cases e : b = []
     ·rw [hb, hgo e]; simp
     ·rw [decide_eq_false e, Bool.or_false]
    ·rw [hb, hb']; rfl
   rw [hgo']
   cases QZ x.Attr <;> cases decide (1 ≤ x.Value.length) <;> cases decide (x.Value.length ≤ 60) <;> cases a.any (fun y => y.Attr == x.Attr) <;> cases decide ((a ++ x :: b).length ≤ 4) <;> cases U7 (a ++ [x]) b <;> rfl
  ·rw [decide_eq_true (show ((a.length : Int) ≥ 4) by omega), decide_eq_false (show ¬ ((a ++ x :: b).length ≤ 4) by omega)]
   simp
theorem tC {N : Nat} {r : List AL} (hN : N ≤ 9223372036854775808) (h5 : 5 < N) (hr : r.length < N) (hok : ∀ x ∈ r, Sm N x) : Z0 N r = some (LG r) := by
 unfold Z0
 have h := wB N hN h5 r [] N (by simpa using hr) hr hok
 simp only [List.nil_append, List.length_nil] at h
 rw [show ((0 : Int)) = ((0 : Nat) : Int) from rfl, h]
 unfold LG
 cases r with
 | nil => rfl
 | cons x r =>
  rw [decide_eq_true (show 1 ≤ (x :: r).length by simp)]
  have : decide (x :: r = []) = false := by simp
  rw [this, Bool.or_false, Bool.true_and]
  have : decide (((x :: r).length : Int) > ((0 : Nat) : Int)) = true := by simp
  cases decide ((x :: r).length ≤ 4) && U7 [] (x :: r)
  ·rfl
  ·simp [Option.bind]
theorem vH (N : Nat) (c : AL) (r : List AL) (k : Nat) (hk : r[k]? = some c) : ∀ (b a : List AL) (n : Nat), (∃ t, r = a ++ b ++ t) → (a ++ b).length = k → r.length ≤ 9223372036854775807 → b.length < n →
  FO N r (k : Int) n (a.length : Int) = some (bif b.any (fun x => x.Attr == c.Attr) then .inr false else .inl ()) := by
 intro b
 induction b with
 | nil =>
  intro a n ht hl hs hn
  obtain ⟨n, rfl, _⟩ := fuel hn
  simp only [FO, J7]
  rw [← hl, CS, cond_false]; rfl
 | cons x b ih =>
  intro a n ht hl hs hn
  obtain ⟨n, rfl, hn'⟩ := fuel hn
  obtain ⟨t, ht⟩ := ht
  have hi := ih (a ++ [x]) n ⟨t, by rw [ht]; simp⟩ (by rw [← hl]; simp) hs hn'
  simp only [FO, J7]
  have hg : CE r (a.length : Int) = some x := by rw [ht, List.append_assoc, List.cons_append, D9]
  have hle : a.length < k := by rw [← hl]; simp
  have hkl : k < r.length := (List.getElem?_eq_some_iff.1 hk).1
  rw [MO, decide_eq_true hle, cond_true, hg, oS, R3 hk, oS, GA (by omega)]
  simp only [List.length_append, List.length_cons, List.length_nil, Nat.zero_add] at hi
  rw [hi, List.any_cons]
  cases x.Attr == c.Attr <;> rfl
theorem sH (N : Nat) (hN : N ≤ 9223372036854775808) : ∀ (b a : List AL) (n : Nat), (a ++ b).length < N → b.length < n → (∀ x ∈ b, Sm N x) →
  FP N (a ++ b) n (a.length : Int) = some (bif U7 a b then .inl () else .inr false) := by
 intro b
 induction b with
 | nil =>
  intro a n hs hn _
  obtain ⟨n, rfl, _⟩ := fuel hn
  simp only [FP, J8]
  rw [CS, cond_false]; rfl
 | cons x b ih =>
  intro a n hs hn hok
  obtain ⟨n, rfl, hn'⟩ := fuel hn
  have hi := ih (a ++ [x]) n (by simpa using hs) hn' (fun y hy => hok y (List.mem_cons_of_mem _ hy))
  rw [← EN] at hi
  have hx := hok x List.mem_cons_self
  have hsm := vH N x (a ++ x :: b) a.length (L9 a b x) a [] N ⟨x :: b, by simp⟩ (by simp) (by omega) (by simp at hs; omega)
  simp only [List.length_nil] at hsm
  simp only [FP, J8]
  rw [CY, cond_true, D9, D7 (a := a) (b := b) (x := x) (by omega), hi, show ((0 : Int)) = ((0 : Nat) : Int) from rfl, hsm]
  simp only [oS]
  rw [vJ (by have := hx.1; omega) hx.1, U7, Jz]
  have hv0 : decide ((x.Value.length : Int) < 1) = !decide (1 ≤ x.Value.length) := by rw [Bool.eq_iff_iff]; simp only [decide_eq_true_eq, Bool.not_eq_true', decide_eq_false_iff_not]; omega
  have hv1 : decide ((x.Value.length : Int) > 60) = !decide (x.Value.length ≤ 60) := by rw [Bool.eq_iff_iff]; simp; omega
  rw [hv0, hv1]
  cases QZ x.Attr <;> cases decide (1 ≤ x.Value.length) <;> cases decide (x.Value.length ≤ 60) <;> cases a.any (fun y => y.Attr == x.Attr) <;> cases U7 (a ++ [x]) b <;> rfl
theorem fO {N : Nat} {r : List AL} (hN : N ≤ 9223372036854775808) (hr : r.length < N) (hok : ∀ x ∈ r, Sm N x) : J9 N r = some (LG r) := by
 unfold J9
 have h := sH N hN r [] N (by simpa using hr) hr hok
 simp only [List.nil_append, List.length_nil] at h
 rw [show ((0 : Int)) = ((0 : Nat) : Int) from rfl, h]
 unfold LG
 have h0 : decide ((r.length : Int) < 1) = !decide (1 ≤ r.length) := by rw [Bool.eq_iff_iff]; simp only [decide_eq_true_eq, Bool.not_eq_true', decide_eq_false_iff_not]; omega
 have h1 : decide ((r.length : Int) > 4) = !decide (r.length ≤ 4) := by rw [Bool.eq_iff_iff]; simp; omega
 rw [h0, h1]
 cases decide (1 ≤ r.length) <;> cases decide (r.length ≤ 4) <;> cases U7 [] r <;> rfl
theorem Fa (N : Nat) (hN : N ≤ 9223372036854775808) : ∀ (b a : List (List AL)) (n : Nat), (a ++ b).length < N → b.length < n → (∀ r ∈ b, r.length < N ∧ ∀ x ∈ r, Sm N x) →
  GU N (a ++ b) n (a.length : Int) = some (bif b.all LG then .inl () else .inr false) := by
 intro b
 induction b with
 | nil =>
  intro a n hs hn _
  obtain ⟨n, rfl, _⟩ := fuel hn
  simp only [GU, KZ]
  rw [CS, cond_false]; rfl
 | cons x b ih =>
  intro a n hs hn hok
  obtain ⟨n, rfl, hn'⟩ := fuel hn
  have hi := ih (a ++ [x]) n (by simpa using hs) hn' (fun y hy => hok y (List.mem_cons_of_mem _ hy))
  rw [← EN] at hi
  have hx := hok x List.mem_cons_self
  simp only [GU, KZ]
  rw [CY, cond_true, D9, oS, fO hN hx.1 hx.2, D7 (a := a) (b := b) (x := x) (by omega), hi, List.all_cons]
  cases LG x <;> rfl
theorem Si {N : Nat} {d : List (List AL)} (hN : N ≤ 9223372036854775808) (hd : d.length < N) (hok : ∀ r ∈ d, r.length < N ∧ ∀ x ∈ r, Sm N x) : QV N d = some (isS d) := by
 unfold QV isS
 have h := Fa N hN d [] N (by simpa using hd) hd hok
 simp only [List.nil_append, List.length_nil] at h
 rw [show ((0 : Int)) = ((0 : Nat) : Int) from rfl, h]
 have h1 : decide ((d.length : Int) > 8) = !decide (d.length ≤ 8) := by rw [Bool.eq_iff_iff]; simp; omega
 rw [h1]
 cases decide (d.length ≤ 8) <;> cases d.all LG <;> rfl
def UD (p : List UInt8) : List (List UInt8) → List (List UInt8)
 | [] => [p]
 | x :: xs => (p ++ x) :: xs
def J4 (sep : UInt8) : List UInt8 → List (List UInt8)
 | [] => [[]]
 | [c] => if c = 92 then [[c]] else if c = sep then [[], []] else [[c]]
 | c :: d :: s => if c = 92 then UD [c, d] (J4 sep s) else if c = sep then [] :: J4 sep (d :: s) else UD [c] (J4 sep (d :: s))
theorem kL (p q : List UInt8) (l : List (List UInt8)) : UD p (UD q l) = UD (p ++ q) l := by cases l <;> simp [UD]
theorem yA (p : List UInt8) (l : List (List UInt8)) : UD p l ≠ [] := by cases l <;> simp [UD]
theorem kM {l : List (List UInt8)} (h : l ≠ []) : UD [] l = l := by cases l <;> simp_all [UD]
theorem R5 (sep : UInt8) : ∀ s, J4 sep s ≠ []
 | [] => by simp [J4]
 | [c] => by unfold J4; split; simp; split <;> simp
 | c :: d :: s => by
  unfold J4
  split
  ·exact yA _ _
  ·split
   ·simp
   ·exact yA _ _
theorem Po (sep d : UInt8) (s : List UInt8) : J4 sep (92 :: d :: s) = UD [92, d] (J4 sep s) := by rw [J4]; simp
theorem Jl {sep : UInt8} (h : sep ≠ 92) (s : List UInt8) : J4 sep (sep :: s) = [] :: J4 sep s := by
 cases s with
 | nil => simp [J4, h]
 | cons d s => rw [J4, if_neg h, if_pos rfl]
theorem UK {sep c : UInt8} (h : c ≠ 92) (h' : c ≠ sep) (s : List UInt8) : J4 sep (c :: s) = UD [c] (J4 sep s) := by
 cases s with
 | nil => simp [J4, h, h', UD]
 | cons d s => rw [J4, if_neg h, if_neg h']
theorem Sa (c d : UInt8) : (((c.toNat : Nat) : Int) == ((d.toNat : Nat) : Int)) = decide (c = d) := by
 rw [u8_eq, Bool.eq_iff_iff]; simp
theorem Wu (c : UInt8) : (((c).toNat : Int) == (92 : Int)) = decide (c = 92) := by
 have := KN (p := fun c => (((c).toNat : Int) == (92 : Int)) == decide (c = 92)) (by decide +kernel) c
 simpa using this
theorem Jk (N : Nat) (sep : UInt8) : ∀ (k : Nat) (b a : List UInt8) (f : Nat) (out : List (List UInt8)) (n : Nat), b.length ≤ k → (a ++ b).length ≤ 1000000 → b.length < n → f ≤ a.length → out.length ≤ a.length →
  ∃ (f' : Nat) (out' : List (List UInt8)), JG N (a ++ b) sep n ((f : Int), (a.length : Int), out) = some ((f' : Int), out') ∧ f' ≤ (a ++ b).length ∧ out'.length ≤ (a ++ b).length ∧ out' ++ [(a ++ b).drop f'] = out ++ UD (a.drop f) (J4 sep b) := by
 intro k
 induction k with
 | zero =>
  intro b a f out n hk hs hn hf ho
  obtain rfl : b = [] := List.length_eq_zero_iff.1 (by omega)
  obtain ⟨n, rfl, _⟩ := fuel hn
  simp only [JG, MM]
  rw [CS, cond_false]
  exact ⟨f, out, rfl, by simpa using hf, by simpa using ho, by simp [J4, UD]⟩
 | succ k ih =>
  intro b a f out n hk hs hn hf ho
  cases b with
  | nil =>
   obtain ⟨n, rfl, _⟩ := fuel hn
   simp only [JG, MM]
   rw [CS, cond_false]
   exact ⟨f, out, rfl, by simpa using hf, by simpa using ho, by simp [J4, UD]⟩
  | cons c b =>
   obtain ⟨n, rfl, hn'⟩ := fuel hn
   have hal : (a ++ c :: b).length = a.length + b.length + 1 := by simp; omega
   simp only [JG, MM, RZ]
   rw [CY, cond_true, D9, oS, Wu, Sa, D7 (a := a) (b := b) (x := c) (by omega)]
   by_cases hc : c = 92
   ·rw [decide_eq_true hc, cond_true, GA (by simp; omega)]
    cases b with
    | nil =>
     obtain ⟨n, rfl, _⟩ := fuel (k := 0) (n := n) (by simp at hn; omega)
     simp only [JG, MM]
     rw [MO, decide_eq_false (by simp), cond_false]
     refine ⟨f, out, rfl, by simp; omega, by simp; omega, ?_⟩
     rw [J4, if_pos hc, List.drop_append_of_le_length hf]
     rfl
    | cons d s =>
     obtain ⟨f', out', h1, h2, h3, h4⟩ := ih s (a ++ [c, d]) f out n (by simp at hk; omega) (by simpa using hs) (by simp at hn; omega) (by simp; omega) (by simp; omega)
     have e : a ++ c :: d :: s = a ++ [c, d] ++ s := by simp
     have el : ((((a ++ [c]).length + 1 : Nat)) : Int) = ((a ++ [c, d]).length : Int) := by simp; omega
     rw [e, el]
     refine ⟨f', out', h1, h2, h3, ?_⟩
     ·rw [h4, J4, if_pos hc, kL, List.drop_append_of_le_length hf]
   ·rw [decide_eq_false hc, cond_false]
    have e : a ++ c :: b = a ++ [c] ++ b := by simp
    by_cases hp : c = sep
    ·rw [decide_eq_true hp, cond_true, Z5 hf (by omega), oS, IV (by simp; omega), oS, List.take_left' rfl]
     obtain ⟨f', out', h1, h2, h3, h4⟩ := ih b (a ++ [c]) (a ++ [c]).length (out ++ [a.drop f]) n (by simp at hk; omega) (by simpa using hs) (by simp at hn; omega) (by omega) (by simp; omega)
     rw [e]
     refine ⟨f', out', h1, h2, h3, ?_⟩
     ·rw [h4, List.drop_length, kM (R5 _ _)]
      subst hp
      rw [Jl hc]
      simp [UD]
    ·rw [decide_eq_false hp, cond_false]
     obtain ⟨f', out', h1, h2, h3, h4⟩ := ih b (a ++ [c]) f out n (by simp at hk; omega) (by simpa using hs) (by simp at hn; omega) (by simp; omega) (by simp; omega)
     rw [e]
     refine ⟨f', out', h1, h2, h3, ?_⟩
     rw [h4, UK hc hp, kL, List.drop_append_of_le_length hf]
theorem wO {N : Nat} {s : List UInt8} {sep : UInt8} (hs : s.length ≤ 1000000) (hN : s.length < N) : gF N s sep = some (J4 sep s) := by
 unfold gF
 obtain ⟨f', out', h1, h2, h3, h4⟩ := Jk N sep s.length s [] 0 [] N (Nat.le_refl _) hs hN (Nat.le_refl _) (Nat.le_refl _)
 simp only [List.nil_append, List.length_nil, List.drop_nil] at h1 h2 h3 h4
 rw [show ((0 : Int)) = ((0 : Nat) : Int) from rfl, h1, oS]
 simp only
 rw [QF h2, oS, IV (by simp; omega), oS, h4, kM (R5 _ _)]
theorem Bg (N : Nat) (sep : UInt8) : ∀ (n : Nat) (s : List UInt8) (x : Int × Int × List (List UInt8)), GI N s sep n x = JG N s sep n x := by
 intro n
 induction n with
 | zero => intro s x; rfl
 | succ n ih =>
  intro s x
  have hr : GI N s sep n = JG N s sep n := funext (ih s)
  obtain ⟨f, i, o⟩ := x
  simp only [GI, JG, NI, MM, hr, JL, RZ]
  cases hx : CE s i with
  | none => simp
  | some c => simp
theorem pO {N : Nat} {s : List UInt8} {sep : UInt8} (hs : s.length ≤ 1000000) (hN : s.length < N) : KS N s sep = some (J4 sep s) := by
 rw [← wO hs hN]
 unfold KS gF
 rw [Bg]
def aA : List UInt8 → Option (List UInt8 × List UInt8)
 | [] => none
 | c :: s => if c = 61 then some ([], s) else (aA s).map fun x => (c :: x.1, x.2)
theorem WT {s a v : List UInt8} (h : aA s = some (a, v)) : s = a ++ 61 :: v ∧ ∀ c ∈ a, c ≠ 61 := by
 induction s generalizing a v with
 | nil => cases h
 | cons c s ih =>
  unfold aA at h
  split at h
  ·rename_i hc; subst hc; cases h; exact ⟨rfl, by simp⟩
  ·rename_i hc
   rw [Option.map_eq_some_iff] at h
   obtain ⟨⟨a', v'⟩, h1, h2⟩ := h
   cases h2
   obtain ⟨e, h3⟩ := ih h1
   exact ⟨by rw [e]; rfl, by intro d hd; rcases List.mem_cons.1 hd with rfl | hd; exact hc; exact h3 d hd⟩
theorem aK : ∀ s : List UInt8, Lib.indexByte s 61 = match aA s with | some x => (x.1.length : Int) | none => -1
 | [] => rfl
 | c :: s => by
  rw [Lib.indexByte, aA, aK s]
  by_cases h : c = 61
  ·subst h; rfl
  ·have : (c == 61) = false := by simpa using h
   rw [if_neg h]
   simp only [this]
   cases aA s with
   | none => simp
   | some x => simp
theorem Mh {N : Nat} {s : List UInt8} (hs : s.length ≤ 1000000) : strings_Cut N s [61] = some (match aA s with | some x => (x.1, x.2, true) | none => (s, [], false)) := by
 unfold strings_Cut LH stringslite_Index
 simp only [oS]
 rw [aK]
 cases h : aA s with
 | none => rfl
 | some x =>
  obtain ⟨a, v⟩ := x
  obtain ⟨e, _⟩ := WT h
  simp only
  have hl : s.length = a.length + v.length + 1 := by rw [e]; simp; omega
  rw [decide_eq_true (by omega), cond_true, RQ (by omega), oS, show (([61] : List UInt8).length : Int) = 1 from rfl, GA (by omega), QF (by omega), oS, oS]
  rw [e, List.take_left' rfl, EN, List.drop_left' (by simp)]
def hexT : List UInt8 := [48, 49, 50, 51, 52, 53, 54, 55, 56, 57, 97, 98, 99, 100, 101, 102]
def OQ (c : UInt8) : Int := Lib.indexByte hexT (pY c)
def iX (c : UInt8) : Bool := decide (Lib.indexByte ([44, 43, 34, 92, 60, 62, 59] : List UInt8) c ≥ 0)
def fT (c : UInt8) : Bool := decide (Lib.indexByte ([44, 43, 34, 92, 60, 62, 59, 35, 61, 32] : List UInt8) c ≥ 0)
def hx2 (d e : UInt8) : UInt8 := Au (byte (mx (OQ d) 0)) 4 ||| byte (mx (OQ e) 0)
theorem lN {N : Nat} {s : List UInt8} {i : Nat} {c : UInt8} (h : s[i]? = some c) (hs : s.length ≤ 1000000) (h2 : 2 < N) : UI N s (i : Int) = some (byte (mx (OQ c) 0), decide (OQ c ≥ 0)) := by
 have hi := (List.getElem?_eq_some_iff.1 h).1
 unfold UI
 rw [decide_eq_false (by omega), cond_false, GA (by omega), Z5 (by omega) (by omega), oS, Ap h]
 have : (s.take i ++ [c]).drop i = [c] := by
  rw [List.drop_left' (by simp; omega)]
 rw [this, lower_eq (by simp) (by simp; omega), oS, show ((0 : Int)) = ((0 : Nat) : Int) from rfl, YS]
 rfl
theorem bO {N : Nat} {s : List UInt8} {i : Nat} (h : s.length ≤ i) : UI N s (i : Int) = some (0, false) := by
 unfold UI
 rw [decide_eq_true (by omega)]; rfl
theorem Bf (N : Nat) (c : UInt8) : GK N c = some (OQ c) := by
 have := KN (p := fun c => GK 0 c == some (OQ c)) (by decide +kernel) c
 have h : GK 0 c = some (OQ c) := by simpa using this
 exact h
theorem jN (N : Nat) (c : UInt8) : I1 N c = some (iX c) := by
 have := KN (p := fun c => I1 0 c == some (iX c)) (by decide +kernel) c
 have h : I1 0 c = some (iX c) := by simpa using this
 exact h
theorem Nl (c : UInt8) : fT c = (iX c || (decide (c = 35) || (decide (c = 61) || decide (c = 32)))) := by
 have := KN (p := fun c => fT c == (iX c || (decide (c = 35) || (decide (c = 61) || decide (c = 32))))) (by decide +kernel) c
 simpa using this
theorem is35 (c : UInt8) : (((c).toNat : Int) == (35 : Int)) = decide (c = 35) := by
 have := KN (p := fun c => (((c).toNat : Int) == (35 : Int)) == decide (c = 35)) (by decide +kernel) c
 simpa using this
theorem is32 (c : UInt8) : (((c).toNat : Int) == (32 : Int)) = decide (c = 32) := by
 have := KN (p := fun c => (((c).toNat : Int) == (32 : Int)) == decide (c = 32)) (by decide +kernel) c
 simpa using this
theorem is61 (c : UInt8) : (((c).toNat : Int) == (61 : Int)) = decide (c = 61) := by
 have := KN (p := fun c => (((c).toNat : Int) == (61 : Int)) == decide (c = 61)) (by decide +kernel) c
 simpa using this
theorem lG (c : UInt8) : -1 ≤ OQ c ∧ OQ c < 16 := by
 have := KN (p := fun c => decide (-1 ≤ OQ c ∧ OQ c < 16)) (by decide +kernel) c
 simpa using this
theorem Xr {d e : UInt8} (hd : 0 ≤ OQ d) (he : 0 ≤ OQ e) : byte (BM (BM ((16 : Int) * OQ d) + OQ e)) = hx2 d e := by
 unfold hx2
 have h1 := (lG d).2
 have h2 := (lG e).2
 generalize OQ d = x at *
 generalize OQ e = y at *
 have hall : ∀ i : Fin 16, ∀ j : Fin 16, byte (BM (BM ((16 : Int) * ((i : Nat) : Int)) + ((j : Nat) : Int))) = Au (byte (mx ((i : Nat) : Int) 0)) 4 ||| byte (mx ((j : Nat) : Int) 0) := by decide +kernel
 have := hall ⟨x.toNat, by omega⟩ ⟨y.toNat, by omega⟩
 simp only [Int.toNat_of_nonneg hd, Int.toNat_of_nonneg he] at this
 exact this
def mJ : List UInt8 → Bool → Option (List UInt8 × Bool)
 | [], bl => some ([], bl)
 | c :: s, _ =>
  if c = 92 then
   match s with
   | [] => none
   | d :: s => if fT d then (mJ s false).map fun x => (d :: x.1, x.2) else
    match s with
    | [] => none
    | e :: s => if 0 ≤ OQ d ∧ 0 ≤ OQ e then (mJ s false).map fun x => (hx2 d e :: x.1, x.2) else none
  else if iX c then none else (mJ s (decide (c = 32))).map fun x => (c :: x.1, x.2)
def YO : Bool → List UInt8 → Option (List UInt8)
 | _, [] => some []
 | f, c :: s =>
  if c = 92 then
   match s with
   | [] => none
   | d :: s => if fT d then (YO false s).map (d :: ·) else
    match s with
    | [] => none
    | e :: s => if 0 ≤ OQ d ∧ 0 ≤ OQ e then (YO false s).map (hx2 d e :: ·) else none
  else if iX c || (f && (decide (c = 35) || decide (c = 32))) || (decide (s = []) && decide (c = 32)) then none else (YO false s).map (c :: ·)
theorem dE (c : UInt8) (s : List UInt8) (bl : Bool) : mJ (c :: s) bl = if c = 92 then
   match s with
   | [] => none
   | d :: s => if fT d then (mJ s false).map fun x => (d :: x.1, x.2) else
    match s with
    | [] => none
    | e :: s => if 0 ≤ OQ d ∧ 0 ≤ OQ e then (mJ s false).map fun x => (hx2 d e :: x.1, x.2) else none
  else if iX c then none else (mJ s (decide (c = 32))).map fun x => (c :: x.1, x.2) := by
 rw [mJ.eq_def]
theorem WQ (f : Bool) (c : UInt8) (s : List UInt8) : YO f (c :: s) = if c = 92 then
   match s with
   | [] => none
   | d :: s => if fT d then (YO false s).map (d :: ·) else
    match s with
    | [] => none
    | e :: s => if 0 ≤ OQ d ∧ 0 ≤ OQ e then (YO false s).map (hx2 d e :: ·) else none
  else if iX c || (f && (decide (c = 35) || decide (c = 32))) || (decide (s = []) && decide (c = 32)) then none else (YO false s).map (c :: ·) := by
 rw [YO.eq_def]
theorem Md (N : Nat) (hN : 2 < N) : ∀ (k : Nat) (b a out : List UInt8) (bl : Bool) (n : Nat), b.length ≤ k → (a ++ b).length ≤ 1000000 → b.length < n → out.length ≤ a.length →
  I4 N (a ++ b) n (bl, (a.length : Int), out) = some (match mJ b bl with | some x => .inl (x.2, out ++ x.1) | none => .inr ([], false)) := by
 intro k
 induction k with
 | zero =>
  intro b a out bl n hk hs hn ho
  obtain rfl : b = [] := List.length_eq_zero_iff.1 (by omega)
  obtain ⟨n, rfl, _⟩ := fuel hn
  simp only [I4, LA]
  rw [CS, cond_false]
  simp [mJ]
 | succ k ih =>
  intro b a out bl n hk hs hn ho
  cases b with
  | nil =>
   obtain ⟨n, rfl, _⟩ := fuel hn
   simp only [I4, LA]
   rw [CS, cond_false]
   simp [mJ]
  | cons c b =>
   obtain ⟨n, rfl, hn'⟩ := fuel hn
   have hal : (a ++ c :: b).length = a.length + b.length + 1 := by simp; omega
   have e1 : a ++ c :: b = a ++ [c] ++ b := by simp
   have ha : a.length < 1000000 := by omega
   simp only [I4, LA, N8]
   rw [CY, cond_true, D9, oS, Wu, is32, GA (i := a.length) (by omega), dE]
   by_cases hc : c = 92
   ·rw [decide_eq_true hc, cond_true, if_pos hc]
    have h32 : decide (c = 32) = false := by subst hc; decide
    rw [h32]
    cases b with
    | nil =>
     rw [MO, decide_eq_false (by simp), cond_false, oS, cond_false, bO (by simp), oS, GA (by omega), bO (by simp), oS]
     rfl
    | cons d s =>
     have hd : (a ++ c :: d :: s)[a.length + 1]? = some d := by
      have := L9 (a ++ [c]) s d
      simp only [List.append_assoc, List.length_append, List.length_cons, List.length_nil] at this
      exact this
     rw [MO, decide_eq_true (by simp), cond_true, R3 hd, oS]
     unfold strings_IndexByte
     simp only [oS]
     rw [show decide (Lib.indexByte ([44, 43, 34, 92, 60, 62, 59, 35, 61, 32] : List UInt8) d ≥ 0) = fT d from rfl]
     by_cases hm : fT d = true
     ·rw [hm, cond_true, if_pos rfl, IV (by simp; omega), oS, GA (by omega)]
      have := ih s (a ++ [c, d]) (out ++ [d]) false n (by simp at hk; omega) (by simpa using hs) (by simp at hn; omega) (by simp; omega)
      have e : a ++ c :: d :: s = a ++ [c, d] ++ s := by simp
      have el : ((((a.length + 1 + 1 : Nat)) : Int)) = ((a ++ [c, d]).length : Int) := by simp; omega
      rw [e, el, this]
      cases mJ s false <;> simp
     ·have hm' : fT d = false := by simpa using hm
      rw [hm', cond_false, lN hd (by omega) hN, oS, GA (by omega), if_neg (by simp)]
      cases s with
      | nil =>
       rw [bO (by simp), oS]
       simp only
       cases decide (OQ d ≥ 0) <;> rfl
      | cons e s =>
       have he : (a ++ c :: d :: e :: s)[a.length + 1 + 1]? = some e := by
        have := L9 (a ++ [c, d]) s e
        simp only [List.append_assoc, List.length_append, List.length_cons, List.length_nil] at this
        exact this
       rw [lN he (by omega) hN, oS]
       simp only
       by_cases h1 : 0 ≤ OQ d
       ·by_cases h2 : 0 ≤ OQ e
        ·rw [decide_eq_true h1, decide_eq_true h2, if_pos ⟨h1, h2⟩]
         simp only [Bool.not_true, cond_false, oS]
         rw [IV (by simp; omega), oS, GA (by omega)]
         have := ih s (a ++ [c, d, e]) (out ++ [hx2 d e]) false n (by simp at hk; omega) (by simpa using hs) (by simp at hn; omega) (by simp; omega)
         have e' : a ++ c :: d :: e :: s = a ++ [c, d, e] ++ s := by simp
         have el : ((((a.length + 1 + 1 + 1 : Nat)) : Int)) = ((a ++ [c, d, e]).length : Int) := by simp; omega
         rw [e', el]
         refine Eq.trans this ?_
         cases mJ s false <;> simp
        ·rw [decide_eq_true h1, decide_eq_false h2, if_neg (by simp [h2])]
         rfl
       ·rw [decide_eq_false h1, if_neg (by simp [h1])]
        rfl
   ·rw [decide_eq_false hc, cond_false, if_neg hc]
    unfold strings_IndexByte
    simp only [oS]
    rw [show decide (Lib.indexByte ([44, 43, 34, 92, 60, 62, 59] : List UInt8) c ≥ 0) = iX c from rfl]
    by_cases hsp : iX c = true
    ·rw [hsp, cond_true, if_pos rfl]
    ·have hsp' : iX c = false := by simpa using hsp
     rw [hsp', cond_false, if_neg (by simp), IV (by simp; omega), oS]
     have := ih b (a ++ [c]) (out ++ [c]) (decide (c = 32)) n (by simp at hk; omega) (by simpa using hs) (by simp at hn; omega) (by simp; omega)
     have el : ((((a.length + 1 : Nat)) : Int)) = ((a ++ [c]).length : Int) := by simp
     rw [e1, el, this]
     cases mJ b (decide (c = 32)) <;> simp
theorem at0 (a : List UInt8) : ((a.length : Int) == (0 : Int)) = decide (a = []) := by
 rw [Bool.eq_iff_iff]; cases a <;> simp; omega
theorem atEnd (a b : List UInt8) (c : UInt8) (h : (a ++ c :: b).length ≤ 1000000) : ((a.length : Int) == BM (((a ++ c :: b).length : Int) - 1)) = decide (b = []) := by
 have hal : (a ++ c :: b).length = a.length + b.length + 1 := by simp; omega
 rw [NF (by omega) (by omega), hal, Bool.eq_iff_iff]
 cases b <;> simp
 omega
theorem vO (N : Nat) : ∀ (k : Nat) (b a out : List UInt8) (n : Nat), b.length ≤ k → (a ++ b).length ≤ 1000000 → b.length < n → out.length ≤ a.length →
  F9 N (a ++ b) n ((a.length : Int), out) = some (match YO (decide (a = [])) b with | some x => .inl (out ++ x) | none => .inr ([], false)) := by
 intro k
 induction k with
 | zero =>
  intro b a out n hk hs hn ho
  obtain rfl : b = [] := List.length_eq_zero_iff.1 (by omega)
  obtain ⟨n, rfl, _⟩ := fuel hn
  simp only [F9, H7]
  rw [CS, cond_false]
  simp [YO]
 | succ k ih =>
  intro b a out n hk hs hn ho
  cases b with
  | nil =>
   obtain ⟨n, rfl, _⟩ := fuel hn
   simp only [F9, H7]
   rw [CS, cond_false]
   simp [YO]
  | cons c b =>
   obtain ⟨n, rfl, hn'⟩ := fuel hn
   have hal : (a ++ c :: b).length = a.length + b.length + 1 := by simp; omega
   have e1 : a ++ c :: b = a ++ [c] ++ b := by simp
   have ha : a.length < 1000000 := by omega
   simp only [F9, H7, IE]
   rw [CY, cond_true, D9, oS, bne, Wu, jN, WQ, at0, is35, is32, GA (i := a.length) (by omega), nH (i := a.length) (by omega)]
   by_cases hc : c = 92
   ·rw [decide_eq_true hc, Bool.not_true, cond_false, if_pos hc]
    cases b with
    | nil =>
     rw [MO, decide_eq_false (by simp), MO, decide_eq_false (by simp)]
     rfl
    | cons d s =>
     have hd : (a ++ c :: d :: s)[a.length + 1]? = some d := by
      have := L9 (a ++ [c]) s d
      simp only [List.append_assoc, List.length_append, List.length_cons, List.length_nil] at this
      exact this
     rw [MO, decide_eq_true (by simp), cond_true, R3 hd]
     simp only [oS, jN, is35, is61, is32, Bf]
     have hg : (bif iX d then some true else bif decide (d = 35) then some true else bif decide (d = 61) then some true else some (decide (d = 32))) = some (fT d) := by
      rw [Nl]
      cases iX d <;> cases decide (d = 35) <;> cases decide (d = 61) <;> cases decide (d = 32) <;> rfl
     rw [hg, oS]
     by_cases hm : fT d = true
     ·rw [hm, cond_true, if_pos rfl, IV (by simp; omega), oS, GA (i := a.length + 1) (by omega)]
      have := ih s (a ++ [c, d]) (out ++ [d]) n (by simp at hk; omega) (by simpa using hs) (by simp at hn; omega) (by simp; omega)
      have e : a ++ c :: d :: s = a ++ [c, d] ++ s := by simp
      have el : ((((a.length + 1 + 1 : Nat)) : Int)) = ((a ++ [c, d]).length : Int) := by simp; omega
      have hf : decide (a ++ [c, d] = []) = false := by simp
      rw [hf] at this
      rw [e, el, this]
      cases YO false s <;> simp
     ·have hm' : fT d = false := by simpa using hm
      rw [hm', cond_false, if_neg (by simp)]
      cases s with
      | nil =>
       rw [MO, decide_eq_false (by simp)]
       rfl
      | cons e s =>
       have he : (a ++ c :: d :: e :: s)[a.length + 2]? = some e := by
        have := L9 (a ++ [c, d]) s e
        simp only [List.append_assoc, List.length_append, List.length_cons, List.length_nil] at this
        exact this
       rw [MO, decide_eq_true (by simp), cond_true, R3 he]
       simp only [oS]
       by_cases h1 : 0 ≤ OQ d
       ·by_cases h2 : 0 ≤ OQ e
        ·rw [decide_eq_true h1, decide_eq_true h2, if_pos ⟨h1, h2⟩]
         simp only [cond_true, oS]
         rw [IV (by simp; omega), oS, GA (i := a.length + 2) (by omega), Xr h1 h2]
         have := ih s (a ++ [c, d, e]) (out ++ [hx2 d e]) n (by simp at hk; omega) (by simpa using hs) (by simp at hn; omega) (by simp; omega)
         have e' : a ++ c :: d :: e :: s = a ++ [c, d, e] ++ s := by simp
         have el : ((((a.length + 2 + 1 : Nat)) : Int)) = ((a ++ [c, d, e]).length : Int) := by simp; omega
         have hf : decide (a ++ [c, d, e] = []) = false := by simp
         rw [hf] at this
         rw [e', el, this]
         cases YO false s <;> simp
        ·rw [decide_eq_true h1, decide_eq_false h2, if_neg (by simp [h2])]
         rfl
       ·rw [decide_eq_false h1, if_neg (by simp [h1])]
        rfl
   ·rw [decide_eq_false hc, Bool.not_false, cond_true, if_neg hc, atEnd a b c hs]
    simp only [oS]
    have hg : (bif iX c then some true else bif decide (a = []) then bif decide (c = 35) then some true else bif decide (c = 32) then some true else bif decide (b = []) then some (decide (c = 32)) else some false
      else bif decide (b = []) then some (decide (c = 32)) else some false) = some (iX c || (decide (a = []) && (decide (c = 35) || decide (c = 32))) || (decide (b = []) && decide (c = 32))) := by
     cases iX c <;> cases decide (a = []) <;> cases decide (c = 35) <;> cases decide (c = 32) <;> cases decide (b = []) <;> rfl
    rw [hg, oS]
    cases hq : (iX c || (decide (a = []) && (decide (c = 35) || decide (c = 32))) || (decide (b = []) && decide (c = 32))) with
    | true => rw [cond_true, if_pos rfl]
    | false =>
     rw [cond_false, if_neg (by simp), IV (by simp; omega), oS]
     have := ih b (a ++ [c]) (out ++ [c]) n (by simp at hk; omega) (by simpa using hs) (by simp at hn; omega) (by simp; omega)
     have el : ((((a.length + 1 : Nat)) : Int)) = ((a ++ [c]).length : Int) := by simp
     have hf : decide (a ++ [c] = []) = false := by simp
     rw [hf] at this
     rw [e1, el, this]
     cases YO false b <;> simp
theorem Ff {N : Nat} {s : List UInt8} (hs : s.length ≤ 1000000) (hN : s.length < N) : NN N s = some (match YO true s with | some v => (v, true) | none => ([], false)) := by
 unfold NN
 have := vO N s.length s [] [] N (Nat.le_refl _) hs hN (Nat.le_refl _)
 simp only [List.nil_append, List.length_nil, decide_true] at this
 rw [show ((0 : Int)) = ((0 : Nat) : Int) from rfl, this]
 cases YO true s <;> rfl
theorem un_pl : ∀ (k : Nat) (s : List UInt8), s.length ≤ k → (∀ v, YO false s = some v ↔ mJ s false = some (v, false)) ∧ (s ≠ [] → mJ s true = mJ s false) := by
 intro k
 induction k with
 | zero =>
  intro s hk
  obtain rfl : s = [] := List.length_eq_zero_iff.1 (by omega)
  exact ⟨by intro v; simp [YO, mJ], fun h => absurd rfl h⟩
 | succ k ih =>
  intro s hk
  cases s with
  | nil => exact ⟨by intro v; simp [YO, mJ], fun h => absurd rfl h⟩
  | cons c s =>
   refine ⟨?_, fun _ => by rw [dE, dE]⟩
   intro v
   have lift : ∀ (c : UInt8) (s : List UInt8), s.length ≤ k → ∀ v, ((YO false s).map (c :: ·) = some v ↔ ((mJ s false).map fun x => (c :: x.1, x.2)) = some (v, false)) := by
    intro c s hs v
    rw [Option.map_eq_some_iff, Option.map_eq_some_iff]
    constructor
    ·rintro ⟨w, h1, rfl⟩
     exact ⟨(w, false), ((ih s hs).1 w).1 h1, rfl⟩
    ·rintro ⟨⟨w, b⟩, h1, h2⟩
     simp only [Prod.mk.injEq] at h2
     obtain ⟨rfl, rfl⟩ := h2
     exact ⟨w, ((ih s hs).1 w).2 h1, rfl⟩
   rw [WQ, dE]
   by_cases hc : c = 92
   ·rw [if_pos hc, if_pos hc]
    cases s with
    | nil => simp
    | cons d s =>
     simp only
     by_cases hm : fT d = true
     ·rw [if_pos hm, if_pos hm]
      exact lift d s (by simp at hk; omega) v
     ·rw [if_neg hm, if_neg hm]
      cases s with
      | nil => simp
      | cons e s =>
       simp only
       by_cases hh : 0 ≤ OQ d ∧ 0 ≤ OQ e
       ·rw [if_pos hh, if_pos hh]
        exact lift _ s (by simp at hk; omega) v
       ·rw [if_neg hh, if_neg hh]; simp
   ·rw [if_neg hc, if_neg hc]
    simp only [Bool.false_and, Bool.or_false]
    by_cases hsp : iX c = true
    ·rw [hsp]; simp
    ·have hsp' : iX c = false := by simpa using hsp
     rw [hsp']
     simp only [Bool.false_or]
     rw [if_neg (show ¬ (false = true) by simp)]
     by_cases h32 : c = 32
     ·rw [decide_eq_true h32, Bool.and_true]
      by_cases hs : s = []
      ·subst hs
       simp [mJ]
      ·rw [decide_eq_false hs, if_neg (by simp), (ih s (by simp at hk; omega)).2 hs]
       exact lift c s (by simp at hk; omega) v
     ·rw [decide_eq_false h32, Bool.and_false, if_neg (by simp)]
      exact lift c s (by simp at hk; omega) v
theorem Fg (s : List UInt8) : YO true s = if s.head? = some 35 ∨ s.head? = some 32 then none else YO false s := by
 cases s with
 | nil => simp [YO]
 | cons c s =>
  rw [WQ, WQ]
  by_cases hc : c = 92
  ·subst hc
   rw [if_pos rfl, if_pos rfl, if_neg (by simp)]
  ·rw [if_neg hc, if_neg hc]
   by_cases h1 : c = 35
   ·subst h1; simp
   ·by_cases h2 : c = 32
    ·subst h2; simp
    ·simp [h1, h2]
theorem bJ (N : Nat) (s : List UInt8) (c : UInt8) : strings_HasPrefix N s [c] = some (decide (s.head? = some c)) := by
 unfold strings_HasPrefix F6
 cases s with
 | nil => rfl
 | cons d s =>
  rw [decide_eq_true (by simp; omega), cond_true, show ((([c] : List UInt8).length : Nat) : Int) = ((1 : Nat) : Int) from rfl, RQ (by simp)]
  simp
  rw [Bool.eq_iff_iff]; simp
theorem gQ {N : Nat} {s : List UInt8} (hs : s.length ≤ 1000000) (hN : s.length < N) (h2 : 2 < N) : ∃ w, V9 N s = some (match YO true s with | some v => (v, true) | none => (w, false)) := by
 unfold V9
 rw [bJ, bJ, Fg]
 by_cases h35 : s.head? = some 35
 ·rw [decide_eq_true h35, if_pos (.inl h35)]
  exact ⟨[], rfl⟩
 ·rw [decide_eq_false h35]
  by_cases h32 : s.head? = some 32
  ·rw [decide_eq_true h32, if_pos (.inr h32)]
   exact ⟨[], rfl⟩
  ·rw [decide_eq_false h32, if_neg (by rintro (h | h); exact h35 h; exact h32 h)]
   simp only [oS, cond_false]
   have := Md N h2 s.length s [] [] false N (Nat.le_refl _) hs hN (Nat.le_refl _)
   simp only [List.nil_append, List.length_nil] at this
   rw [show ((0 : Int)) = ((0 : Nat) : Int) from rfl, this]
   have hup := (un_pl s.length s (Nat.le_refl _)).1
   cases hu : mJ s false with
   | none =>
    cases hp : YO false s with
    | none => exact ⟨[], rfl⟩
    | some v => rw [(hup v).1 hp] at hu; cases hu
   | some x =>
    obtain ⟨v, b⟩ := x
    cases b with
    | false =>
     rw [(hup v).2 hu]
     exact ⟨[], rfl⟩
    | true =>
     cases hp : YO false s with
     | none => exact ⟨v, rfl⟩
     | some v' => rw [(hup v').1 hp] at hu; cases hu
def ZA (p : List UInt8) : Option AL := (aA p).bind fun x => (YO true x.2).map fun v => ⟨low x.1, v⟩
def aB (p : List UInt8) : Option AL := (aA p).bind fun x => if (J4 44 p).length > 1 then none else (YO true x.2).map fun v => ⟨low x.1, v⟩
def V3 (s : List UInt8) : Option (List AL) := ((J4 43 s).mapM ZA).bind fun r => if LG r then some r else none
def sF (s : List UInt8) : Option (List AL) := ((J4 43 s).mapM aB).bind fun r => if LG r then some r else none
theorem sI (p : List UInt8) (l : List (List UInt8)) (k : Nat) (h : ∀ x ∈ l, x.length ≤ k) : ∀ x ∈ UD p l, x.length ≤ p.length + k := by
 intro x hx
 cases l with
 | nil => simp [UD] at hx; subst hx; omega
 | cons y l =>
  simp only [UD, List.mem_cons] at hx
  rcases hx with rfl | hx
  ·have := h y List.mem_cons_self; simp; omega
  ·have := h x (List.mem_cons_of_mem _ hx); omega
theorem OA (p : List UInt8) {l : List (List UInt8)} (h : l ≠ []) : (UD p l).length = l.length := by cases l <;> simp_all [UD]
theorem Z4 (sep : UInt8) : ∀ (k : Nat) (s : List UInt8), s.length ≤ k → (J4 sep s).length ≤ s.length + 1 ∧ ∀ x ∈ J4 sep s, x.length ≤ s.length := by
 intro k
 induction k with
 | zero =>
  intro s hs
  obtain rfl : s = [] := List.length_eq_zero_iff.1 (by omega)
  simp [J4]
 | succ k ih =>
  intro s hs
  cases s with
  | nil => simp [J4]
  | cons c s =>
   cases s with
   | nil =>
    unfold J4
    split
    ·simp
    ·split <;> simp
   | cons d s =>
    unfold J4
    split
    ·obtain ⟨h1, h2⟩ := ih s (by simp at hs; omega)
     refine ⟨by rw [OA _ (R5 _ _)]; simp; omega, fun x hx => ?_⟩
     have := sI _ _ _ h2 x hx
     simp at this ⊢; omega
    ·obtain ⟨h1, h2⟩ := ih (d :: s) (by simp at hs ⊢; omega)
     split
     ·refine ⟨by simp at h1 ⊢; omega, fun x hx => ?_⟩
      rcases List.mem_cons.1 hx with rfl | hx
      ·simp
      ·have := h2 x hx; simp at this ⊢; omega
     ·refine ⟨by rw [OA _ (R5 _ _)]; simp at h1 ⊢; omega, fun x hx => ?_⟩
      have := sI _ _ _ h2 x hx
      simp at this ⊢; omega
theorem Mt : ∀ (k : Nat) (f : Bool) (s v : List UInt8), s.length ≤ k → YO f s = some v → v.length ≤ s.length := by
 intro k
 induction k with
 | zero =>
  intro f s v hs h
  obtain rfl : s = [] := List.length_eq_zero_iff.1 (by omega)
  simp [YO] at h; subst h; simp
 | succ k ih =>
  intro f s v hs h
  cases s with
  | nil => simp [YO] at h; subst h; simp
  | cons c s =>
   rw [WQ] at h
   have lift : ∀ (c : UInt8) (t w : List UInt8), t.length ≤ k → (YO false t).map (c :: ·) = some w → w.length ≤ t.length + 1 := by
    intro c t w ht hw
    rw [Option.map_eq_some_iff] at hw
    obtain ⟨u, h1, rfl⟩ := hw
    have := ih false t u ht h1
    simp; omega
   split at h
   ·cases s with
    | nil => cases h
    | cons d s =>
     simp only at h
     split at h
     ·have := lift _ _ _ (by simp at hs; omega) h; simp; omega
     ·cases s with
      | nil => cases h
      | cons e s =>
       simp only at h
       split at h
       ·have := lift _ _ _ (by simp at hs; omega) h; simp; omega
       ·cases h
   ·split at h
    ·cases h
    ·have := lift _ _ _ (by simp at hs; omega) h; simp; omega
theorem Nn (s : List UInt8) : (low s).length = s.length := by simp [low]
theorem mF {p : List UInt8} {a : AL} (h : ZA p = some a) : a.Attr.length ≤ p.length ∧ a.Value.length ≤ p.length := by
 unfold ZA at h
 rw [Option.bind_eq_some_iff] at h
 obtain ⟨⟨x, v⟩, h1, h2⟩ := h
 rw [Option.map_eq_some_iff] at h2
 obtain ⟨w, h2, rfl⟩ := h2
 obtain ⟨e, _⟩ := WT h1
 have := Mt v.length true v w (Nat.le_refl _) h2
 rw [e]
 simp [Nn]
 omega
theorem mapM_len {α β : Type} {f : α → Option β} : ∀ {l : List α} {r : List β}, l.mapM f = some r → r.length = l.length ∧ ∀ b ∈ r, ∃ a ∈ l, f a = some b
 | [], r, h => by simp at h; subst h; simp
 | a :: l, r, h => by
  rw [List.mapM_cons] at h
  simp only [Option.bind_eq_bind, Option.bind_eq_some_iff] at h
  obtain ⟨b, h1, s, h2, h3⟩ := h
  cases h3
  obtain ⟨e1, e2⟩ := mapM_len h2
  refine ⟨by simp [e1], fun c hc => ?_⟩
  rcases List.mem_cons.1 hc with rfl | hc
  ·exact ⟨a, List.mem_cons_self, h1⟩
  ·obtain ⟨a', h4, h5⟩ := e2 c hc
   exact ⟨a', List.mem_cons_of_mem _ h4, h5⟩
theorem Ey (N : Nat) (hN : 1000000 < N) : ∀ (b a : List (List UInt8)) (out : List AL) (n : Nat), (a ++ b).length ≤ 1000001 → b.length < n → out.length = a.length → (∀ p ∈ b, p.length ≤ 1000000) →
  K9 N (a ++ b) n ((a.length : Int), out) = some (match b.mapM ZA with
   | some r => if 5 < (out ++ r).length ∧ b ≠ [] then .inr ([], 15) else .inl (out ++ r)
   | none => .inr ([], 15)) := by
 intro b
 induction b with
 | nil =>
  intro a out n hs hn ho _
  obtain ⟨n, rfl, _⟩ := fuel hn
  simp only [K9, OU]
  rw [CS, cond_false]; simp
 | cons p b ih =>
  intro a out n hs hn ho hp
  obtain ⟨n, rfl, hn'⟩ := fuel hn
  have hal : (a ++ p :: b).length = a.length + b.length + 1 := by simp; omega
  have hpl := hp p List.mem_cons_self
  simp only [K9, OU]
  rw [CY, cond_true, D9, oS, Mh hpl, oS, D7 (a := a) (b := b) (x := p) (by omega), List.mapM_cons]
  simp only [Option.bind_eq_bind]
  cases hc : aA p with
  | none =>
   have hav : ZA p = none := by unfold ZA; rw [hc]; rfl
   rw [hav]
   obtain ⟨w, hw⟩ := gQ (N := N) (s := []) (by simp) (by simp; omega) (by omega)
   rw [hw]
   rfl
  | some x =>
   obtain ⟨at', v⟩ := x
   obtain ⟨e, _⟩ := WT hc
   have hvl : v.length ≤ p.length ∧ at'.length ≤ p.length := by rw [e]; simp; omega
   obtain ⟨w, hw⟩ := gQ (N := N) (s := v) (by omega) (by omega) (by omega)
   simp only
   rw [hw, oS]
   cases hpv : YO true v with
   | none =>
    have hav : ZA p = none := by unfold ZA; rw [hc, oS]; simp only [hpv]; rfl
    rw [hav]; rfl
   | some val =>
    have hav : ZA p = some ⟨low at', val⟩ := by unfold ZA; rw [hc, oS]; simp only [hpv]; rfl
    rw [hav]
    simp only [Bool.not_true, cond_false, oS, Option.map_some]
    by_cases h5 : out.length > 4
    ·rw [decide_eq_true (by omega), cond_true]
     cases hm : b.mapM ZA with
     | none => rfl
     | some r =>
      simp only [oS, Option.pure_def]
      rw [if_pos ⟨by simp; omega, by simp⟩]
    ·rw [decide_eq_false (by omega), cond_false, lower_eq (by omega) (by omega), oS, IV (by simp; omega), oS]
     have := ih (a ++ [p]) (out ++ [⟨low at', val⟩]) n (by simpa using hs) hn' (by simp [ho]) (fun q hq => hp q (List.mem_cons_of_mem _ hq))
     rw [← EN] at this
     rw [this]
     cases hm : b.mapM ZA with
     | none => rfl
     | some r =>
      simp only [oS, Option.pure_def, List.append_assoc, List.cons_append, List.nil_append]
      by_cases hb : b = []
      ·subst hb
       simp at hm
       subst hm
       rw [if_neg (by simp), if_neg (by simp; omega)]
      ·by_cases h6 : 5 < (out ++ ⟨low at', val⟩ :: r).length
       ·rw [if_pos ⟨h6, hb⟩, if_pos ⟨h6, by simp⟩]
       ·rw [if_neg (fun h => h6 h.1), if_neg (fun h => h6 h.1)]
theorem kI : ∀ (r d : List AL), U7 d r = true → ∀ a ∈ r, Jz a = true
 | [], _, _, a, ha => by simp at ha
 | x :: r, d, h, a, ha => by
  rw [U7, Bool.and_eq_true, Bool.and_eq_true] at h
  rcases List.mem_cons.1 ha with rfl | ha
  ·exact h.1
  ·exact kI r _ h.2.2 a ha
theorem sJ {N : Nat} {s : List UInt8} (hs : s.length ≤ 1000000) (hN : 2000000 < N) (hN2 : N ≤ 9223372036854775808) : VA N s = some (match V3 s with | some r => (r, 0) | none => ([], 15)) := by
 unfold VA V3
 rw [wO hs (by omega), oS]
 obtain ⟨h1, h2⟩ := Z4 43 s.length s (Nat.le_refl _)
 have := Ey N (by omega) (J4 43 s) [] [] N (by simpa using (by omega : (J4 43 s).length ≤ 1000001)) (by omega) rfl (fun p hp => by have := h2 p hp; omega)
 simp only [List.nil_append, List.length_nil] at this
 rw [show ((0 : Int)) = ((0 : Nat) : Int) from rfl, this]
 cases hm : (J4 43 s).mapM ZA with
 | none => rfl
 | some r =>
  obtain ⟨hl, hb⟩ := mapM_len hm
  simp only [oS]
  by_cases h5 : 5 < r.length
  ·rw [if_pos ⟨h5, R5 _ _⟩]
   have : LG r = false := by unfold LG; rw [decide_eq_false (show ¬ r.length ≤ 4 by omega)]; simp
   rw [this]; rfl
  ·rw [if_neg (fun h => h5 h.1)]
   simp only [Sum.elim_inl]
   rw [tC hN2 (by omega) (by omega) (fun x hx => by
    obtain ⟨p, hp, hpa⟩ := hb x hx
    have h3 := mF hpa
    have h4 := h2 p hp
    exact ⟨by omega, by omega⟩), oS]
   cases LG r <;> rfl
theorem vQ (N : Nat) (hN : 2000000 < N) (hN2 : N ≤ 9223372036854775808) : ∀ (b a : List (List UInt8)) (out : List (List AL)) (n : Nat), (a ++ b).length ≤ 1000001 → b.length < n → out.length = a.length → (∀ p ∈ b, p.length ≤ 1000000) → out.length ≤ 8 →
  MN N (a ++ b) n ((a.length : Int), out) = some (match b.mapM V3 with
   | some r => if 8 < (out ++ r).length then .inr ([], 15) else .inl (out ++ r)
   | none => .inr ([], 15)) := by
 intro b
 induction b with
 | nil =>
  intro a out n hs hn ho _ h8
  obtain ⟨n, rfl, _⟩ := fuel hn
  simp only [MN, R4]
  rw [CS, cond_false]; simp; omega
 | cons p b ih =>
  intro a out n hs hn ho hp h8
  obtain ⟨n, rfl, hn'⟩ := fuel hn
  have hal : (a ++ p :: b).length = a.length + b.length + 1 := by simp; omega
  have hpl := hp p List.mem_cons_self
  simp only [MN, R4]
  rw [CY, cond_true, D9, oS, sJ hpl hN hN2, oS, D7 (a := a) (b := b) (x := p) (by omega), List.mapM_cons]
  simp only [Option.bind_eq_bind]
  cases hr : V3 p with
  | none => rfl
  | some r =>
   simp only [oS]
   by_cases he : out.length = 8
   ·rw [show ((out.length : Int) == 8) = true by rw [he]; rfl]
    cases hm : b.mapM V3 with
    | none => rfl
    | some rs =>
     simp only [oS, Option.pure_def]
     rw [if_pos (by simp; omega)]
     rfl
   ·rw [show ((out.length : Int) == 8) = false by rw [Bool.eq_false_iff]; simp; omega]
    have := ih (a ++ [p]) (out ++ [r]) n (by simpa using hs) hn' (by simp [ho]) (fun q hq => hp q (List.mem_cons_of_mem _ hq)) (by simp; omega)
    rw [← EN] at this
    simp only [bne, BEq.rfl, Bool.not_true, cond_false, oS]
    rw [IV (by simp; omega), oS, this]
    cases hm : b.mapM V3 with
    | none => rfl
    | some rs => simp
def kS (s : List UInt8) : Option (List (List AL)) := if s = [] then some [] else ((J4 44 s).mapM V3).bind fun r => if r.length ≤ 8 then some r else none
theorem Fp {N : Nat} {s : List UInt8} (hs : s.length ≤ 1000000) (hN : 2000000 < N) (hN2 : N ≤ 9223372036854775808) : dY N s = some (match kS s with | some r => (r, 0) | none => ([], 15)) := by
 unfold dY kS
 by_cases h0 : s = []
 ·subst h0; rfl
 ·have : (s == ([] : List UInt8)) = false := by simpa using h0
  rw [this, cond_false, if_neg h0, wO hs (by omega), oS]
  obtain ⟨h1, h2⟩ := Z4 44 s.length s (Nat.le_refl _)
  have := vQ N hN hN2 (J4 44 s) [] [] N (by simpa using (by omega : (J4 44 s).length ≤ 1000001)) (by omega) rfl (fun p hp => by have := h2 p hp; omega) (Nat.zero_le _)
  simp only [List.nil_append, List.length_nil] at this
  rw [show ((0 : Int)) = ((0 : Nat) : Int) from rfl, this]
  cases hm : (J4 44 s).mapM V3 with
  | none => rfl
  | some r =>
   simp only [oS]
   by_cases h8 : r.length ≤ 8
   ·rw [if_pos h8, if_neg (by omega)]; rfl
   ·rw [if_neg h8, if_pos (by omega)]; rfl
theorem Pk (N : Nat) (l : List (List UInt8)) (i : Nat) (o : List AL) : ∀ (b a : List UInt8) (n : Nat), l[i]? = some (a ++ b) → (a ++ b).length ≤ 1000000 → b.length < n →
  EQ N l (i : Int) o n (a.length : Int) = some ((match aA b with | some y => a.length + y.1.length | none => (a ++ b).length : Nat) : Int) := by
 intro b
 induction b with
 | nil =>
  intro a n hl hs hn
  obtain ⟨n, rfl, _⟩ := fuel hn
  simp only [EQ, H8]
  rw [R3 hl, oS, CS]
  simp [aA]
 | cons c b ih =>
  intro a n hl hs hn
  obtain ⟨n, rfl, hn'⟩ := fuel hn
  simp only [EQ, H8]
  rw [R3 hl, oS, CY, cond_true, D7 (a := a) (b := b) (x := c) (by omega)]
  simp only [oS, D9]
  rw [bne, is61, aA]
  by_cases hc : c = 61
  ·rw [decide_eq_true hc, if_pos hc]; simp
  ·rw [decide_eq_false hc, if_neg hc, Bool.not_false, cond_true, ih (a ++ [c]) n (by rw [hl]; simp) (by simpa using hs) hn']
   cases aA b with
   | none => simp
   | some y => simp; omega
theorem Az (N : Nat) (hN : 1000000 < N) : ∀ (b a : List (List UInt8)) (out : List AL) (n : Nat), (a ++ b).length ≤ 1000001 → b.length < n → out.length = a.length → (∀ p ∈ b, p.length ≤ 1000000) →
  ER N (a ++ b) n ((a.length : Int), out) = some (match b.mapM aB with
   | some r => .inl (out ++ r)
   | none => .inr ([], false)) := by
 intro b
 induction b with
 | nil =>
  intro a out n hs hn ho _
  obtain ⟨n, rfl, _⟩ := fuel hn
  simp only [ER, H9]
  rw [CS, cond_false]; simp
 | cons p b ih =>
  intro a out n hs hn ho hp
  obtain ⟨n, rfl, hn'⟩ := fuel hn
  have hal : (a ++ p :: b).length = a.length + b.length + 1 := by simp; omega
  have hpl := hp p List.mem_cons_self
  have hq := Pk N (a ++ p :: b) a.length out p [] N (by simp) (by simpa using hpl) (by omega)
  simp only [List.nil_append, List.length_nil, Nat.zero_add] at hq
  simp only [ER, H9]
  rw [CY, cond_true, show ((0 : Int)) = ((0 : Nat) : Int) from rfl, hq, oS, D7 (a := a) (b := b) (x := p) (by omega), List.mapM_cons]
  simp only [D9, oS, Option.bind_eq_bind]
  cases hc : aA p with
  | none =>
   have hav : aB p = none := by unfold aB; rw [hc]; rfl
   rw [hav]
   simp
  | some x =>
   obtain ⟨at', v⟩ := x
   obtain ⟨e, _⟩ := WT hc
   have hvl : p.length = at'.length + v.length + 1 := by rw [e]; simp; omega
   simp only
   rw [show ((at'.length : Int) == (p.length : Int)) = false by rw [Bool.eq_false_iff]; simp; omega, cond_false, pO hpl (by omega), oS, oS]
   by_cases h1 : (J4 44 p).length > 1
   ·have hav : aB p = none := by unfold aB; rw [hc, oS, if_pos h1]
    rw [hav, decide_eq_true (by omega)]
    rfl
   ·rw [decide_eq_false (by omega), cond_false, GA (by omega), QF (by omega), oS]
    have hdv : p.drop (at'.length + 1) = v := by rw [e, EN, List.drop_left' (by simp)]
    rw [hdv, Ff (by omega) (by omega), oS]
    cases hpv : YO true v with
    | none =>
     have hav : aB p = none := by unfold aB; rw [hc, oS, if_neg h1]; simp only [hpv]; rfl
     rw [hav]; rfl
    | some val =>
     have hav : aB p = some ⟨low at', val⟩ := by unfold aB; rw [hc, oS, if_neg h1]; simp only [hpv]; rfl
     rw [hav]
     simp only [Bool.not_true, cond_false]
     have htv : p.take at'.length = at' := by rw [e, List.take_left' rfl]
     rw [RQ (by omega), oS, htv, nN (by omega) (by omega), oS, IV (by simp; omega), oS]
     have := ih (a ++ [p]) (out ++ [⟨low at', val⟩]) n (by simpa using hs) hn' (by simp [ho]) (fun q hq => hp q (List.mem_cons_of_mem _ hq))
     rw [← EN] at this
     rw [this]
     cases hm : b.mapM aB with
     | none => rfl
     | some r => simp
theorem Ka {p : List UInt8} {a : AL} (h : aB p = some a) : ZA p = some a := by
 unfold aB at h
 unfold ZA
 rw [Option.bind_eq_some_iff] at h ⊢
 obtain ⟨x, h1, h2⟩ := h
 split at h2
 ·cases h2
 ·exact ⟨x, h1, h2⟩
theorem pJ {N : Nat} {s : List UInt8} (hs : s.length ≤ 1000000) (hN : 2000000 < N) (hN2 : N ≤ 9223372036854775808) : KX N s = some (match sF s with | some r => (r, true) | none => ([], false)) := by
 unfold KX sF
 rw [pO hs (by omega), oS]
 obtain ⟨h1, h2⟩ := Z4 43 s.length s (Nat.le_refl _)
 have := Az N (by omega) (J4 43 s) [] [] N (by simpa using (by omega : (J4 43 s).length ≤ 1000001)) (by omega) rfl (fun p hp => by have := h2 p hp; omega)
 simp only [List.nil_append, List.length_nil] at this
 rw [show ((0 : Int)) = ((0 : Nat) : Int) from rfl, this]
 cases hm : (J4 43 s).mapM aB with
 | none => rfl
 | some r =>
  obtain ⟨hl, hb⟩ := mapM_len hm
  simp only [oS, Sum.elim_inl]
  rw [fO hN2 (by omega) (fun x hx => by
    obtain ⟨p, hp, hpa⟩ := hb x hx
    have h3 := mF (Ka hpa)
    have h4 := h2 p hp
    exact ⟨by omega, by omega⟩), oS]
  cases LG r <;> rfl
theorem kT {α β : Type} {f g : α → Option β} : ∀ {l : List α} {r : List β}, l.mapM f = some r → (∀ a b, a ∈ l → b ∈ r → f a = some b → g a = some b) → l.mapM g = some r
 | [], r, h, _ => by simpa using h
 | a :: l, r, h, k => by
  rw [List.mapM_cons] at h ⊢
  simp only [Option.bind_eq_bind, Option.bind_eq_some_iff] at h ⊢
  obtain ⟨b, h1, s, h2, h3⟩ := h
  cases h3
  exact ⟨b, k a b List.mem_cons_self List.mem_cons_self h1, s, kT h2 fun a' b' ha hb => k a' b' (List.mem_cons_of_mem _ ha) (List.mem_cons_of_mem _ hb), rfl⟩
theorem Sc (c : UInt8) (h : uX (pY c) = true) : c ≠ 92 ∧ c ≠ 44 ∧ c ≠ 43 ∧ c ≠ 61 := by
 have := KN (p := fun c => !uX (pY c) || (decide (c ≠ 92) && decide (c ≠ 44) && decide (c ≠ 43) && decide (c ≠ 61))) (by decide +kernel) c
 simp only [h, Bool.not_true, Bool.false_or, Bool.and_eq_true, decide_eq_true_eq] at this
 exact ⟨this.1.1.1, this.1.1.2, this.1.2, this.2⟩
theorem Dz {s : List UInt8} (h : QZ (low s) = true) : ∀ c ∈ s, c ≠ 92 ∧ c ≠ 44 ∧ c ≠ 43 ∧ c ≠ 61 := by
 intro c hc
 have : (low s).all uX = true := by
  unfold QZ at h
  split at h
  ·cases h
  ·rename_i e
   rw [e]
   simp only [Bool.and_eq_true] at h
   exact h.2.2
 have h2 := List.all_eq_true.1 this (pY c) (List.mem_map.2 ⟨c, hc, rfl⟩)
 exact Sc c h2
theorem oJ (sep : UInt8) : ∀ (a v : List UInt8), (∀ c ∈ a, c ≠ 92 ∧ c ≠ sep) → J4 sep (a ++ v) = UD a (J4 sep v)
 | [], v, _ => by rw [List.nil_append, kM (R5 _ _)]
 | c :: a, v, h => by
  rw [List.cons_append, UK (h c List.mem_cons_self).1 (h c List.mem_cons_self).2, oJ sep a v fun d hd => h d (List.mem_cons_of_mem _ hd), kL]
  rfl
theorem zU (c : UInt8) (h : 0 ≤ OQ c) : c ≠ 92 ∧ c ≠ 44 := by
 have := KN (p := fun c => !decide (0 ≤ OQ c) || (decide (c ≠ 92) && decide (c ≠ 44))) (by decide +kernel) c
 simp only [decide_eq_true h, Bool.not_true, Bool.false_or, Bool.and_eq_true, decide_eq_true_eq] at this
 exact this
theorem Ef (c : UInt8) (h : iX c = false) : c ≠ 92 ∧ c ≠ 44 := by
 have := KN (p := fun c => iX c || (decide (c ≠ 92) && decide (c ≠ 44))) (by decide +kernel) c
 simp only [h, Bool.false_or, Bool.and_eq_true, decide_eq_true_eq] at this
 exact this
theorem Sj : ∀ (k : Nat) (f : Bool) (s v : List UInt8), s.length ≤ k → YO f s = some v → (J4 44 s).length = 1 := by
 intro k
 induction k with
 | zero =>
  intro f s v hs h
  obtain rfl : s = [] := List.length_eq_zero_iff.1 (by omega)
  rfl
 | succ k ih =>
  intro f s v hs h
  cases s with
  | nil => rfl
  | cons c s =>
   rw [WQ] at h
   split at h
   ·rename_i hc
    subst hc
    cases s with
    | nil => cases h
    | cons d s =>
     simp only at h
     rw [Po, OA _ (R5 _ _)]
     split at h
     ·rw [Option.map_eq_some_iff] at h
      obtain ⟨w, h1, _⟩ := h
      exact ih false s w (by simp at hs; omega) h1
     ·cases s with
      | nil => cases h
      | cons e s =>
       simp only at h
       split at h
       ·rename_i hh
        rw [Option.map_eq_some_iff] at h
        obtain ⟨w, h1, _⟩ := h
        rw [UK (zU e hh.2).1 (zU e hh.2).2, OA _ (R5 _ _)]
        exact ih false s w (by simp at hs; omega) h1
       ·cases h
   ·split at h
    ·cases h
    ·rename_i hc hq
     rw [Option.map_eq_some_iff] at h
     obtain ⟨w, h1, _⟩ := h
     have hs' : iX c = false := by
      cases hh : iX c with
      | false => rfl
      | true => rw [hh] at hq; simp at hq
     rw [UK (Ef c hs').1 (Ef c hs').2, OA _ (R5 _ _)]
     exact ih false s w (by simp at hs; omega) h1
theorem Yf {p : List UInt8} {a : AL} (h : ZA p = some a) (ht : QZ a.Attr = true) : aB p = some a := by
 unfold ZA at h
 unfold aB
 rw [Option.bind_eq_some_iff] at h ⊢
 obtain ⟨⟨x, v⟩, h1, h2⟩ := h
 refine ⟨(x, v), h1, ?_⟩
 rw [Option.map_eq_some_iff] at h2
 obtain ⟨w, h3, h4⟩ := h2
 have hx : ∀ c ∈ x, c ≠ 92 ∧ c ≠ 44 ∧ c ≠ 43 ∧ c ≠ 61 := by
  rw [← h4] at ht
  exact Dz ht
 have hl : (J4 44 p).length = 1 := by
  obtain ⟨e, _⟩ := WT h1
  rw [e, oJ 44 x _ (fun c hc => ⟨(hx c hc).1, (hx c hc).2.1⟩), OA _ (R5 _ _), UK (by decide) (by decide), OA _ (R5 _ _)]
  exact Sj v.length true v w (Nat.le_refl _) h3
 rw [if_neg (by omega), Option.map_eq_some_iff]
 exact ⟨w, h3, h4⟩
theorem qC {r : List AL} (h : LG r = true) : ∀ a ∈ r, QZ a.Attr = true := by
 unfold LG at h
 simp only [Bool.and_eq_true] at h
 intro a ha
 have := kI r [] h.2.2 a ha
 unfold Jz at this
 simp only [Bool.and_eq_true] at this
 exact this.1
theorem Ew (s : List UInt8) : sF s = V3 s := by
 have h1 : ∀ r, sF s = some r → V3 s = some r := by
  intro r h
  unfold sF at h
  unfold V3
  rw [Option.bind_eq_some_iff] at h ⊢
  obtain ⟨l, h1, h2⟩ := h
  exact ⟨l, kT h1 fun _ _ _ _ => Ka, h2⟩
 have h2 : ∀ r, V3 s = some r → sF s = some r := by
  intro r h
  unfold V3 at h
  unfold sF
  rw [Option.bind_eq_some_iff] at h ⊢
  obtain ⟨l, h1, h2⟩ := h
  split at h2
  ·rename_i hr
   have e : l = r := by simpa using h2
   subst e
   exact ⟨l, kT h1 fun p a _ ha h => Yf h (qC hr a ha), by rw [if_pos hr]⟩
  ·cases h2
 cases h : V3 s with
 | some r => exact h2 r h
 | none =>
  cases h' : sF s with
  | none => rfl
  | some r => rw [h1 r h'] at h; cases h
theorem rU (N : Nat) (hN : 2000000 < N) (hN2 : N ≤ 9223372036854775808) : ∀ (b a : List (List UInt8)) (out : List (List AL)) (n : Nat), (a ++ b).length ≤ 1000001 → b.length < n → out.length = a.length → (∀ p ∈ b, p.length ≤ 1000000) →
  FN N (a ++ b) n ((a.length : Int), out) = some (match b.mapM V3 with
   | some r => .inl (out ++ r)
   | none => .inr ([], false)) := by
 intro b
 induction b with
 | nil =>
  intro a out n hs hn ho _
  obtain ⟨n, rfl, _⟩ := fuel hn
  simp only [FN, J6]
  rw [CS, cond_false]; simp
 | cons p b ih =>
  intro a out n hs hn ho hp
  obtain ⟨n, rfl, hn'⟩ := fuel hn
  have hal : (a ++ p :: b).length = a.length + b.length + 1 := by simp; omega
  have hpl := hp p List.mem_cons_self
  simp only [FN, J6]
  rw [CY, cond_true, D9, oS, pJ hpl hN hN2, oS, D7 (a := a) (b := b) (x := p) (by omega), List.mapM_cons, Ew]
  simp only [Option.bind_eq_bind]
  cases hr : V3 p with
  | none => rfl
  | some r =>
   have := ih (a ++ [p]) (out ++ [r]) n (by simpa using hs) hn' (by simp [ho]) (fun q hq => hp q (List.mem_cons_of_mem _ hq))
   rw [← EN] at this
   simp only [Bool.not_true, cond_false, oS]
   rw [IV (by simp; omega), oS, this]
   cases hm : b.mapM V3 with
   | none => rfl
   | some rs => simp
theorem Mo {s : List UInt8} {r : List AL} (h : V3 s = some r) : LG r = true := by
 unfold V3 at h
 rw [Option.bind_eq_some_iff] at h
 obtain ⟨l, _, h2⟩ := h
 split at h2
 ·rename_i hr; cases h2; exact hr
 ·cases h2
theorem Mm {s : List UInt8} {r : List AL} {N : Nat} (h : V3 s = some r) (hs : s.length ≤ 1000000) (hN : 2000000 < N) : r.length < N ∧ ∀ x ∈ r, Sm N x := by
 unfold V3 at h
 rw [Option.bind_eq_some_iff] at h
 obtain ⟨l, h1, h2⟩ := h
 split at h2
 ·cases h2
  obtain ⟨h3, h4⟩ := mapM_len h1
  obtain ⟨h5, h6⟩ := Z4 43 s.length s (Nat.le_refl _)
  refine ⟨by omega, fun x hx => ?_⟩
  obtain ⟨p, hp, hpa⟩ := h4 x hx
  have h7 := mF hpa
  have h8 := h6 p hp
  exact ⟨by omega, by omega⟩
 ·cases h2
theorem Ba {N : Nat} {s : List UInt8} (hs : s.length ≤ 1000000) (hN : 2000000 < N) (hN2 : N ≤ 9223372036854775808) : NP N s = some (match kS s with | some r => (r, true) | none => ([], false)) := by
 unfold NP kS
 by_cases h0 : s = []
 ·subst h0; rfl
 ·have : (s == ([] : List UInt8)) = false := by simpa using h0
  rw [this, cond_false, if_neg h0, pO hs (by omega), oS]
  obtain ⟨h1, h2⟩ := Z4 44 s.length s (Nat.le_refl _)
  have := rU N hN hN2 (J4 44 s) [] [] N (by simpa using (by omega : (J4 44 s).length ≤ 1000001)) (by omega) rfl (fun p hp => by have := h2 p hp; omega)
  simp only [List.nil_append, List.length_nil] at this
  rw [show ((0 : Int)) = ((0 : Nat) : Int) from rfl, this]
  cases hm : (J4 44 s).mapM V3 with
  | none => rfl
  | some r =>
   obtain ⟨h3, h4⟩ := mapM_len hm
   simp only [oS, Sum.elim_inl]
   rw [Si hN2 (by omega) (fun x hx => by
    obtain ⟨p, hp, hpa⟩ := h4 x hx
    exact Mm hpa (by have := h2 p hp; omega) hN), oS]
   have hall : r.all LG = true := List.all_eq_true.2 fun x hx => by
    obtain ⟨p, hp, hpa⟩ := h4 x hx
    exact Mo hpa
   unfold isS
   rw [hall, Bool.and_true]
   by_cases h8 : r.length ≤ 8
   ·rw [if_pos h8, decide_eq_true h8]; rfl
   ·rw [if_neg h8, decide_eq_false h8]; rfl
def Bi (c : UInt8) : Bool := decide (32 ≤ c.toNat) && decide (c.toNat ≤ 126)
def Lp (c : UInt8) : Bool := decide (48 ≤ c.toNat) && decide (c.toNat ≤ 57)
def Qn (c : UInt8) : Bool := decide (c ≠ 32)
theorem pr_c (c : UInt8) : (bif decide (((c).toNat : Int) < (32 : Int)) then some true else some (decide (((c).toNat : Int) > (126 : Int)))) = some (!Bi c) := by
 have := KN (p := fun c => (bif decide (((c).toNat : Int) < (32 : Int)) then some true else some (decide (((c).toNat : Int) > (126 : Int)))) == some (!Bi c)) (by decide +kernel) c
 simpa using this
theorem pr_c2 (c : UInt8) : (bif decide (((c).toNat : Int) ≥ (32 : Int)) then some (decide (((c).toNat : Int) ≤ (126 : Int))) else some false) = some (Bi c) := by
 have := KN (p := fun c => (bif decide (((c).toNat : Int) ≥ (32 : Int)) then some (decide (((c).toNat : Int) ≤ (126 : Int))) else some false) == some (Bi c)) (by decide +kernel) c
 simpa using this
theorem dg_c (c : UInt8) : (bif decide (((c).toNat : Int) < (48 : Int)) then some true else some (decide (((c).toNat : Int) > (57 : Int)))) = some (!Lp c) := by
 have := KN (p := fun c => (bif decide (((c).toNat : Int) < (48 : Int)) then some true else some (decide (((c).toNat : Int) > (57 : Int)))) == some (!Lp c)) (by decide +kernel) c
 simpa using this
theorem is48 (c : UInt8) : (((c).toNat : Int) == (48 : Int)) = decide (c = 48) := by
 have := KN (p := fun c => (((c).toNat : Int) == (48 : Int)) == decide (c = 48)) (by decide +kernel) c
 simpa using this
theorem is45 (c : UInt8) : (((c).toNat : Int) == (45 : Int)) = decide (c = 45) := by
 have := KN (p := fun c => (((c).toNat : Int) == (45 : Int)) == decide (c = 45)) (by decide +kernel) c
 simpa using this
theorem nb_c (c : UInt8) : (((c).toNat : Int) != (32 : Int)) = Qn c := by
 have := KN (p := fun c => (((c).toNat : Int) != (32 : Int)) == Qn c) (by decide +kernel) c
 simpa using this
theorem rJ (N : Nat) : ∀ (b a : List UInt8) (n : Nat), (a ++ b).length ≤ 9223372036854775807 → b.length < n →
  JF N (a ++ b) n (a.length : Int) = some (bif b.all Bi then .inl () else .inr false) := by
 intro b
 induction b with
 | nil =>
  intro a n hs hn
  obtain ⟨n, rfl, _⟩ := fuel hn
  simp only [JF, NL]
  rw [CS, cond_false]; rfl
 | cons c b ih =>
  intro a n hs hn
  obtain ⟨n, rfl, hn'⟩ := fuel hn
  simp only [JF, NL]
  rw [CY, cond_true, XQ, oS, L9, oS, pr_c, oS, D7 hs]
  have := ih (a ++ [c]) n (by simpa using hs) hn'
  rw [← EN] at this
  rw [this, List.all_cons]
  cases Bi c <;> rfl
theorem Aq {N : Nat} {s : List UInt8} (hs : s.length ≤ 9223372036854775807) (hN : s.length < N) : TL N s = some (s.all Bi) := by
 unfold TL
 have := rJ N s [] N hs hN
 simp only [List.nil_append, List.length_nil] at this
 rw [show ((0 : Int)) = ((0 : Nat) : Int) from rfl, this]
 cases s.all Bi <;> rfl
theorem uY (N : Nat) : ∀ (l : List UInt8) (n : Nat), l.length ≤ 9223372036854775807 → l.length < n → FJ N 32 n l.reverse = some (l.dropWhile (fun c => decide (c = 32))).reverse := by
 intro l
 induction l with
 | nil =>
  intro n _ hn
  obtain ⟨n, rfl, _⟩ := fuel hn
  rfl
 | cons c l ih =>
  intro n hs hn
  obtain ⟨n, rfl, hn'⟩ := fuel hn
  have hlen : ((c :: l).reverse.length : Int) = (l.length : Int) + 1 := by simp
  simp only [FJ, K3]
  rw [hlen, decide_eq_true (by omega), cond_true, NF (by simp at hs; omega) (by simp at hs; omega), show (l.length : Int) + 1 - 1 = (l.length : Int) by omega, YS, List.reverse_cons]
  have hg : (l.reverse ++ [c])[l.length]? = some c := by
   simp
  rw [hg, oS, oS, show (((32 : UInt8)).toNat : Int) = (32 : Int) from rfl, is32]
  by_cases hc : c = 32
  ·rw [decide_eq_true hc, cond_true, RQ (by simp), oS]
   have ht : (l.reverse ++ [c]).take l.length = l.reverse := List.take_left' (by simp)
   rw [ht, ih n (by simp at hs; omega) hn']
   simp [hc]
  ·rw [decide_eq_false hc, cond_false]
   simp [hc]
theorem uZ (N : Nat) : ∀ (l : List UInt8) (n : Nat), l.length < n → FU N 32 n l = some (l.dropWhile (fun c => decide (c = 32))) := by
 intro l
 induction l with
 | nil =>
  intro n hn
  obtain ⟨n, rfl, _⟩ := fuel hn
  rfl
 | cons c l ih =>
  intro n hn
  obtain ⟨n, rfl, hn'⟩ := fuel hn
  simp only [FU, KO]
  rw [decide_eq_true (by simp), cond_true, show CE (c :: l) (0 : Int) = some c from rfl, oS, oS, show (((32 : UInt8)).toNat : Int) = (32 : Int) from rfl, is32]
  by_cases hc : c = 32
  ·rw [decide_eq_true hc, cond_true, show ((1 : Int)) = ((1 : Nat) : Int) from rfl, QF (by simp), oS]
   simp only [List.drop_succ_cons, List.drop_zero]
   rw [ih n hn']
   simp [hc]
  ·rw [decide_eq_false hc, cond_false]
   simp [hc]
theorem Jg (p : UInt8 → Bool) : ∀ l : List UInt8, l.dropWhile p = [] ↔ ∀ x ∈ l, p x = true
 | [] => by simp
 | c :: l => by
  cases h : p c with
  | true => rw [List.dropWhile_cons, h]; simp [Jg p l, h]
  | false => rw [List.dropWhile_cons, h]; simp [h]
theorem Jh (p : UInt8 → Bool) : ∀ l : List UInt8, (∀ x ∈ l.dropWhile p, p x = true) ↔ ∀ x ∈ l, p x = true
 | [] => by simp
 | c :: l => by
  cases h : p c with
  | true => rw [List.dropWhile_cons, h]; simp only [if_true]; rw [Jh p l]; simp [h]
  | false => rw [List.dropWhile_cons, h]; simp [h]
theorem Mf {N : Nat} {s : List UInt8} (hs : s.length ≤ 9223372036854775807) (hN : s.length < N) : ∃ t, TK N s [32] = some t ∧ (t == ([] : List UInt8)) = !s.any Qn := by
 unfold TK
 by_cases h0 : s = []
 ·subst h0; exact ⟨[], rfl, rfl⟩
 ·rw [show (s == ([] : List UInt8)) = false by simpa using h0]
  refine ⟨(((s.reverse.dropWhile (fun c => decide (c = 32))).reverse).dropWhile (fun c => decide (c = 32))), ?_, ?_⟩
  ·simp only [cond_false, oS, show ([32] == ([] : List UInt8)) = false from rfl, show ((([32] : List UInt8).length : Int) == (1 : Int)) = true from rfl, cond_true, show CE [(32 : UInt8)] (0 : Int) = some 32 from rfl, show decide ((((32 : UInt8)).toNat : Int) < (128 : Int)) = true from by decide]
   unfold strings_trimRightByte strings_trimLeftByte
   have := uY N s.reverse N (by simpa using hs) (by simpa using hN)
   rw [List.reverse_reverse] at this
   rw [this, oS, oS, uZ N _ N (by
    have := (List.dropWhile_sublist (fun c => decide (c = 32)) (l := s.reverse)).length_le
    simp at this ⊢; omega)]
   rfl
  ·rw [Bool.eq_iff_iff, beq_iff_eq, Jg]
   have h1 : (∀ x ∈ (s.reverse.dropWhile (fun c => decide (c = 32))).reverse, decide (x = 32) = true) ↔ ∀ x ∈ s, decide (x = 32) = true := by
    have := Jh (fun c => decide (c = 32)) s.reverse
    simp only [List.mem_reverse] at this ⊢
    exact this
   rw [h1]
   simp [Qn]
def fV (s d : List UInt8) : Bool := match d with
 | [] => false
 | c :: t => decide (t.length < 15) && (!(decide (c = 48) && !(s == ([48] : List UInt8))) && (c :: t).all Lp)
def rF : List UInt8 → List UInt8
 | 45 :: d => d
 | s => s
theorem rE {c : UInt8} {s : List UInt8} (h : c ≠ 45) : rF (c :: s) = c :: s := by
 unfold rF
 split
 ·rename_i e; injection e with e1 _; exact absurd e1 h
 ·rfl
theorem Mg (N : Nat) (s : List UInt8) (hs : s.length ≤ 9223372036854775807) : strings_TrimPrefix N s [45] = some (rF s) := by
 unfold strings_TrimPrefix I8
 have hp := bJ N s 45
 unfold strings_HasPrefix at hp
 have hp' : F6 N s [45] = some (decide (s.head? = some 45)) := by
  rw [Option.bind_eq_some_iff] at hp
  obtain ⟨a, h1, h2⟩ := hp
  rw [h1]; exact h2
 rw [hp']
 simp only [oS]
 cases s with
 | nil => rfl
 | cons c s =>
  by_cases hc : c = 45
  ·subst hc
   rw [decide_eq_true (by simp), cond_true, show ((([45] : List UInt8).length : Int)) = ((1 : Nat) : Int) from rfl, QF (by simp)]
   rfl
  ·rw [decide_eq_false (by simpa using hc), cond_false, rE hc]
   rfl
def l8 (s : List UInt8) : Bool := fV s (rF s)
theorem Hr (N : Nat) : ∀ (b a : List UInt8) (n : Nat), (a ++ b).length ≤ 9223372036854775807 → b.length < n →
  GV N (a ++ b) n (a.length : Int) = some (bif b.all Lp then .inl () else .inr false) := by
 intro b
 induction b with
 | nil =>
  intro a n hs hn
  obtain ⟨n, rfl, _⟩ := fuel hn
  simp only [GV, MF]
  rw [CS, cond_false]; rfl
 | cons c b ih =>
  intro a n hs hn
  obtain ⟨n, rfl, hn'⟩ := fuel hn
  simp only [GV, MF]
  rw [CY, cond_true, XQ, oS, L9, oS, dg_c, oS, D7 hs]
  have := ih (a ++ [c]) n (by simpa using hs) hn'
  rw [← EN] at this
  rw [this, List.all_cons]
  cases Lp c <;> rfl
theorem Ho {N : Nat} {s : List UInt8} (hs : s.length ≤ 9223372036854775807) (hN : s.length < N) : TM N s = some (l8 s) := by
 have key : ∀ d : List UInt8, d.length ≤ s.length → (Option.bind (
   bif (d == ([] : List UInt8)) then
    some true
   else
    bif decide ((d.length : Int) > (15 : Int)) then
     some true
    else
     Option.bind (CE d (0 : Int)) fun (E9 : UInt8) =>
     bif (((E9).toNat : Int) == (48 : Int)) then
      some (!(s == ([48] : List UInt8)))
     else
      some false
  ) fun (g1 : Bool) =>
 bif g1 then
  some false
 else
  Option.bind (GV N d N 0) fun (M7 : Unit ⊕ Bool) =>
  Sum.elim (fun (M7 : Unit) =>
    some true
   ) (fun (M7 : Bool) =>
    some M7
   ) M7) = some (fV s d) := by
  intro d hd
  cases d with
  | nil => rfl
  | cons c t =>
   have hl := Hr N (c :: t) [] N (by simp at hd ⊢; omega) (by simp at hd ⊢; omega)
   simp only [List.nil_append, List.length_nil] at hl
   rw [show (c :: t == ([] : List UInt8)) = false from rfl, cond_false, show CE (c :: t) (0 : Int) = some c from rfl, oS, is48, show ((0 : Int)) = ((0 : Nat) : Int) from rfl, hl]
   unfold fV
   simp only
   by_cases h15 : t.length < 15
   ·rw [decide_eq_false (by simp; omega), decide_eq_true h15]
    cases decide (c = 48) <;> cases (s == ([48] : List UInt8)) <;> cases (c :: t).all Lp <;> rfl
   ·rw [decide_eq_true (by simp; omega), decide_eq_false h15]
    rfl
 unfold TM
 rw [Mg N s hs, oS, key _ (by unfold rF; split <;> simp)]
 rfl
theorem Bd (N : Nat) : ∀ (b a : List UInt8) (n : Nat), (a ++ b).length ≤ 9223372036854775807 → b.length < n →
  FQ N (a ++ b) n (a.length : Int) = some (bif b.all Lp then .inl () else .inr false) := by
 intro b
 induction b with
 | nil =>
  intro a n hs hn
  obtain ⟨n, rfl, _⟩ := fuel hn
  simp only [FQ, JA]
  rw [CS, cond_false]; rfl
 | cons c b ih =>
  intro a n hs hn
  obtain ⟨n, rfl, hn'⟩ := fuel hn
  simp only [FQ, JA]
  rw [CY, cond_true]
  simp only [D9, oS]
  rw [dg_c, oS, D7 hs]
  have := ih (a ++ [c]) n (by simpa using hs) hn'
  rw [← EN] at this
  rw [this, List.all_cons]
  cases Lp c <;> rfl
def xX (d : List UInt8) : Bool := match d with
 | [] => false
 | c :: t => decide (t.length < 15) && (!(decide (0 < t.length) && decide (c = 48)) && (c :: t).all Lp)
theorem kF {N : Nat} {d : List UInt8} (hs : d.length ≤ 9223372036854775807) (hN : d.length < N) : IY N d = some (xX d) := by
 unfold IY
 cases d with
 | nil => rfl
 | cons c t =>
  have hl := Bd N (c :: t) [] N hs hN
  simp only [List.nil_append, List.length_nil] at hl
  rw [show CE (c :: t) (0 : Int) = some c from rfl, oS, is48, show ((0 : Int)) = ((0 : Nat) : Int) from rfl, hl]
  unfold xX
  simp only
  rw [decide_eq_false (show ¬ (((c :: t).length : Int) < 1) by simp; omega), show decide (((c :: t).length : Int) > 1) = decide (0 < t.length) by (rw [Bool.eq_iff_iff]; simp; omega)]
  by_cases h15 : t.length < 15
  ·rw [decide_eq_false (by simp; omega), decide_eq_true h15]
   cases decide (0 < t.length) <;> cases decide (c = 48) <;> cases (c :: t).all Lp <;> rfl
  ·rw [decide_eq_true (by simp; omega), decide_eq_false h15]
   rfl
theorem Bc {N : Nat} {s : List UInt8} (hs : s.length ≤ 9223372036854775807) (hN : s.length < N) : NQ N s = some (l8 s) := by
 unfold NQ
 cases s with
 | nil => exact kF hs hN
 | cons c t =>
  rw [decide_eq_true (by simp), cond_true, show CE (c :: t) (0 : Int) = some c from rfl, oS, oS, is45]
  by_cases hc : c = 45
  ·subst hc
   rw [decide_eq_true rfl, cond_true, show ((1 : Int)) = ((1 : Nat) : Int) from rfl, QF (by simp), oS]
   simp only [List.drop_succ_cons, List.drop_zero]
   rw [kF (by simp at hs; omega) (by simp at hN; omega)]
   have hne : (45 :: t == ([48] : List UInt8)) = false := by simp
   show _ = some (fV (45 :: t) t)
   unfold fV xX
   cases t with
   | nil => rfl
   | cons d t =>
    simp only [hne]
    by_cases hd : d = 48
    ·subst hd
     cases t with
     | nil => rfl
     | cons e t => simp
    ·have : (d :: t == ([48] : List UInt8)) = false := by simp [hd]
     rw [this, cond_false, decide_eq_false hd]
     simp
  ·rw [decide_eq_false hc, cond_false, kF hs hN]
   unfold l8
   rw [rE hc]
   unfold fV xX
   simp only
   cases t with
   | nil => by_cases h48 : c = 48 <;> simp [h48]
   | cons d t => simp
def allT : List BB := (XC 0).getD []
theorem Yh (N : Nat) : XC N = some allT := rfl
theorem Mq (N : Nat) : TB N = some allT := rfl
def noT : BB := ⟨[], 0, false⟩
def YX (name : List UInt8) : Option BB := allT.find? (fun t => t.Name == low name)
theorem Cm (N : Nat) (x : List UInt8) : ∀ (b a : List BB) (n : Nat), (a ++ b).length ≤ 9223372036854775807 → b.length < n →
  K4 N x (a ++ b) n (a.length : Int) = some (match b.find? (fun t => t.Name == x) with | some t => .inr (t, true) | none => .inl ()) := by
 intro b
 induction b with
 | nil =>
  intro a n hs hn
  obtain ⟨n, rfl, _⟩ := fuel hn
  simp only [K4, OL]
  rw [CS, cond_false]; rfl
 | cons t b ih =>
  intro a n hs hn
  obtain ⟨n, rfl, hn'⟩ := fuel hn
  simp only [K4, OL]
  rw [CY, cond_true, D9, oS, D7 hs]
  have := ih (a ++ [t]) n (by simpa using hs) hn'
  rw [← EN] at this
  rw [this, List.find?_cons]
  cases t.Name == x <;> rfl
theorem eO : allT.length = 15 := rfl
theorem zX {N : Nat} {s : List UInt8} (hs : s.length ≤ 9223372036854775807) (hN : s.length < N) (h15 : 15 < N) : SL N s = some (match YX s with | some t => (t, true) | none => (noT, false)) := by
 unfold SL
 have := Cm N (low s) allT [] N (by rw [List.nil_append, eO]; omega) (by rw [eO]; exact h15)
 simp only [List.nil_append, List.length_nil] at this
 rw [lower_eq hs hN, oS, Yh, oS, show ((0 : Int)) = ((0 : Nat) : Int) from rfl, this]
 unfold YX
 cases allT.find? (fun t => t.Name == low s) <;> rfl
theorem vK (N : Nat) (s : List UInt8) (hs : s.length ≤ 9223372036854775807) (hN : s.length < N) : ∀ (b a : List BB) (n : Nat), (a ++ b).length ≤ 9223372036854775807 → b.length < n →
  GJ N s (a ++ b) n (a.length : Int) = some (match b.find? (fun t => t.Name == low s) with | some t => .inr (t, true) | none => .inl ()) := by
 intro b
 induction b with
 | nil =>
  intro a n hs hn
  obtain ⟨n, rfl, _⟩ := fuel hn
  simp only [GJ, KF]
  rw [CS, cond_false]; rfl
 | cons t b ih =>
  intro a n hs' hn
  obtain ⟨n, rfl, hn'⟩ := fuel hn
  simp only [GJ, KF]
  rw [CY, cond_true, D9, oS, nN hs hN, oS, oS, D7 hs']
  have := ih (a ++ [t]) n (by simpa using hs') hn'
  rw [← EN] at this
  rw [this, List.find?_cons]
  cases t.Name == low s <;> rfl
theorem rX {N : Nat} {s : List UInt8} (hs : s.length ≤ 9223372036854775807) (hN : s.length < N) (h15 : 15 < N) : M0 N s = some (match YX s with | some t => (t, true) | none => (noT, false)) := by
 unfold M0
 have := vK N s hs hN allT [] N (by rw [List.nil_append, eO]; omega) (by rw [eO]; exact h15)
 simp only [List.nil_append, List.length_nil] at this
 rw [Mq, oS, show ((0 : Int)) = ((0 : Nat) : Int) from rfl, this]
 unfold YX
 cases allT.find? (fun t => t.Name == low s) <;> rfl
theorem Ja {s : List UInt8} {t : BB} (h : YX s = some t) : t.Syntax = 1 ∨ t.Syntax = 2 ∨ t.Syntax = 3 ∨ t.Syntax = 4 ∨ t.Syntax = 5 := by
 have hm := List.mem_of_find?_eq_some h
 have hall : (allT.all fun t => decide (t.Syntax = 1) || (decide (t.Syntax = 2) || (decide (t.Syntax = 3) || (decide (t.Syntax = 4) || decide (t.Syntax = 5))))) = true := by decide +kernel
 have := List.all_eq_true.1 hall t hm
 simpa using this
def Ga (k : Int) (v : List UInt8) : Bool := if k = 1 then v.any Qn && v.all Bi else if k = 2 then v.all Bi else if k = 3 then l8 v else if k = 5 then (kS v).isSome else true
theorem Sr {N : Nat} {v : List UInt8} (k : Int) (hv : v.length ≤ 1000000) (hN : 2000000 < N) (hN2 : N ≤ 9223372036854775808) : XB N k v = some (Ga k v) := by
 unfold XB Ga QO
 obtain ⟨t, h1, h2⟩ := Mf (N := N) (s := v) (by omega) (by omega)
 rw [h1, Aq (by omega) (by omega), Ho (by omega) (by omega), Fp hv hN hN2]
 simp only [oS, h2]
 by_cases k1 : k = 1
 ·subst k1
  cases v.any Qn <;> rfl
 ·rw [show (k == 1) = false by simpa using k1, if_neg k1, cond_false]
  by_cases k2 : k = 2
  ·subst k2; rfl
  ·rw [show (k == 2) = false by simpa using k2, if_neg k2, cond_false]
   by_cases k3 : k = 3
   ·subst k3; rfl
   ·rw [show (k == 3) = false by simpa using k3, if_neg k3, cond_false]
    by_cases k5 : k = 5
    ·subst k5
     cases kS v <;> rfl
    ·rw [show (k == 5) = false by simpa using k5, if_neg k5, cond_false]
def MP (name v : List UInt8) : Int := match YX name with
 | none => 16
 | some t => if v ≠ [] ∧ v.length ≤ 60 ∧ Ga t.Syntax v = true then 0 else 17
theorem uD {N : Nat} {name v : List UInt8} (hn : name.length ≤ 1000000) (hv : v.length ≤ 1000000) (hN : 2000000 < N) (hN2 : N ≤ 9223372036854775808) : QP N name v = some (MP name v) := by
 unfold QP MP
 rw [zX (by omega) (by omega) (by omega), oS]
 cases YX name with
 | none => rfl
 | some t =>
  simp only [Bool.not_true, cond_false]
  rw [Sr t.Syntax hv hN hN2]
  by_cases h0 : v = []
  ·subst h0; rfl
  ·rw [show (v == ([] : List UInt8)) = false by simpa using h0, cond_false]
   by_cases h60 : v.length ≤ 60
   ·rw [decide_eq_false (by omega), cond_false]
    cases hm : Ga t.Syntax v with
    | true => rw [if_pos ⟨h0, h60, rfl⟩]; rfl
    | false => rw [if_neg (fun h => by cases h.2.2)]; rfl
   ·rw [decide_eq_true (by omega), if_neg (fun h => h60 h.2.1)]; rfl
theorem sG (N : Nat) (x : BB × Bool) : ∀ (b a : List UInt8) (p q : Bool) (n : Nat), (a ++ b).length ≤ 9223372036854775807 → b.length < n →
  FR N (a ++ b) x n (p, q, (a.length : Int)) = some (p && b.all Bi, q || b.any Qn) := by
 intro b
 induction b with
 | nil =>
  intro a p q n hs hn
  obtain ⟨n, rfl, _⟩ := fuel hn
  simp only [FR, JB]
  rw [CS, cond_false]; simp
 | cons c b ih =>
  intro a p q n hs hn
  obtain ⟨n, rfl, hn'⟩ := fuel hn
  simp only [FR, JB]
  rw [CY, cond_true]
  simp only [D9, oS]
  rw [pr_c2, nb_c, D7 hs]
  have := fun p q => ih (a ++ [c]) p q n (by simpa using hs) hn'
  simp only [← EN] at this
  rw [List.all_cons, List.any_cons]
  cases p <;> cases q <;> simp only [cond_true, cond_false, oS, this] <;> simp
theorem nQ {N : Nat} {name v : List UInt8} (hn : name.length ≤ 1000000) (hv : v.length ≤ 1000000) (hN : 2000000 < N) (hN2 : N ≤ 9223372036854775808) : L6 N name v = some (MP name v) := by
 unfold L6 MP
 rw [rX (by omega) (by omega) (by omega), oS]
 cases hf : YX name with
 | none => rfl
 | some t =>
  simp only [Bool.not_true, cond_false]
  have hl := sG N (t, true) v [] true false N (by simp; omega) (by omega)
  simp only [List.nil_append, List.length_nil, Bool.true_and, Bool.false_or] at hl
  rw [show ((0 : Int)) = ((0 : Nat) : Int) from rfl, hl, Bc (by omega) (by omega), Ba hv hN hN2]
  by_cases h0 : v = []
  ·subst h0; rfl
  ·have hlen : 0 < v.length := List.length_pos_iff.2 h0
   rw [decide_eq_false (by omega), cond_false]
   by_cases h60 : v.length ≤ 60
   ·rw [decide_eq_false (by omega)]
    simp only [oS, cond_false, EY]
    unfold Ga
    rcases Ja hf with h | h | h | h | h <;> rw [h]
    ·cases v.all Bi <;> cases v.any Qn <;> simp [h0, h60]
    ·cases v.all Bi <;> simp [h0, h60]
    ·cases l8 v <;> simp [h0, h60]
    ·simp [h0, h60]
    ·cases kS v <;> simp [h0, h60]
   ·rw [decide_eq_true (by omega), if_neg (fun h => h60 h.2.1)]; rfl
def pR (c : AP) : Prop := 0 ≤ c.Time ∧ c.Time ≤ 1099511627776 ∧ 0 ≤ c.Seq ∧ c.Seq ≤ 65535 ∧ 0 ≤ c.Rep ∧ c.Rep < 6
instance (c : AP) : Decidable (pR c) := by unfold pR; infer_instance
theorem andB (p q : Prop) [Decidable p] [Decidable q] : (bif decide p then some (decide q) else some false) = some (decide (p ∧ q)) := by
 by_cases h : p <;> simp [h]
theorem lT (N : Nat) (c : AP) : bP N c = some (decide (pR c)) := by
 unfold bP
 simp only [andB, oS, ge_iff_le]
 congr 1
theorem Ev (N : Nat) (c : AP) : N7 N c = some (decide (pR c)) := lT N c
def gH (a b : Int) : Int := if a < b then -1 else if a > b then 1 else 0
theorem eB (N : Nat) (a b : Int) : NR N a b = some (gH a b) := by
 unfold NR PL gH
 simp only [bne_self_eq_false, oS, cond_false]
 by_cases h : a < b
 ·simp [h]
 ·by_cases h2 : a > b
  ·simp [h, h2]
  ·simp [h, h2]
theorem lX (N : Nat) (a b : Int) : cmp_Compare_int N a b = some (gH a b) := eB N a b
theorem uK (a b : Int) : (a == b) = decide (a = b) := by rw [Bool.eq_iff_iff]; simp
theorem Jy (a b : Int) : (a != b) = decide (¬ a = b) := by rw [Bool.eq_iff_iff]; simp
theorem or_eq (N : Nat) (x y z : Int) : XP (N + 4) [x, y, z] = some (if x ≠ 0 then x else if y ≠ 0 then y else z) := by
 have w0 : BM 1 = 1 := by rfl
 have w1 : BM 2 = 2 := by rfl
 have w2 : BM 3 = 3 := by rfl
 unfold XP
 simp only [PG, TF]
 by_cases hx : x = 0
 ·by_cases hy : y = 0
  ·by_cases hz : z = 0
   ·simp [Jy, CE, w0, w1, w2, hx, hy, hz]
   ·simp [Jy, CE, w0, w1, w2, hx, hy, hz]
  ·simp [Jy, CE, w0, w1, w2, hx, hy]
 ·simp [Jy, CE, w0, w1, w2, hx]
def bQ (a b : AP) : Int := if gH a.Time b.Time ≠ 0 then gH a.Time b.Time else if gH a.Seq b.Seq ≠ 0 then gH a.Seq b.Seq else gH a.Rep b.Rep
theorem Cw (N : Nat) (hN : 4 ≤ N) (a b : AP) : j5 N a b = some (bQ a b) := by
 unfold j5
 obtain ⟨n, rfl⟩ : ∃ n, N = n + 4 := ⟨N - 4, by omega⟩
 rw [eB, oS, lX, oS, lX, oS, or_eq]
 rfl
theorem ZO {a b : AP} : a = b ↔ a.Time = b.Time ∧ a.Seq = b.Seq ∧ a.Rep = b.Rep := by
 cases a; cases b; simp
theorem eqB (a b : AP) : (a.Time == b.Time && (a.Seq == b.Seq && (a.Rep == b.Rep && true))) = decide (a = b) := by
 rw [Bool.eq_iff_iff]
 simp [ZO]
theorem qM {a b : Int} (h : a < b) : gH a b = -1 := if_pos h
theorem qN {a b : Int} (h : b < a) : gH a b = 1 := by unfold gH; rw [if_neg (by omega), if_pos (by omega)]
theorem eD (a : Int) : gH a a = 0 := by unfold gH; rw [if_neg (by omega), if_neg (by omega)]
theorem Be (N : Nat) (a b : AP) : M3 N a b = some (bQ a b) := by
 unfold M3
 rw [eqB]
 rcases Int.lt_trichotomy a.Time b.Time with h | h | h
 ·have hne : ¬ a = b := by rw [ZO]; omega
  simp [uK, h, bQ, qM h]
 ·rcases Int.lt_trichotomy a.Seq b.Seq with h2 | h2 | h2
  ·simp [uK, h, h2, bQ, eD, qM h2]
  ·rcases Int.lt_trichotomy a.Rep b.Rep with h3 | h3 | h3
   ·simp [uK, h, h2, h3, bQ, eD, qM h3]
   ·have he : a = b := by rw [ZO]; exact ⟨h, h2, h3⟩
    subst he
    simp [uK, bQ, eD]
   ·have hne : ¬ a = b := by rw [ZO]; omega
    have hl : ¬ a.Rep < b.Rep := by omega
    simp [uK, h, h2, hl, hne, bQ, eD, qN h3]
  ·have hne : ¬ a = b := by rw [ZO]; omega
   have hl : ¬ a.Seq < b.Seq := by omega
   have hn : ¬ a.Seq = b.Seq := by omega
   simp [uK, h, hl, hn, hne, bQ, eD, qN h2]
 ·have hne : ¬ a = b := by rw [ZO]; omega
  have hl : ¬ a.Time < b.Time := by omega
  have hn : ¬ a.Time = b.Time := by omega
  simp [uK, hl, hn, hne, bQ, qN h]
def Qp : List UInt8 := [101, 110, 116, 114, 121, 105, 100]
def kR (a : AL) : Bool := !(a.Attr == Qp) && decide (MP a.Attr a.Value = 0)
def iC (r : List AL) : Bool := LG r && (decide (r.length < 4) && r.all kR)
def aH (last : Int) (m : BD) : Bool := match YX m.Attr with
 | none => false
 | some t => (t.Name == m.Attr) && (!(m.Attr == Qp) && (decide (1 ≤ m.Kind) && (decide (m.Kind ≤ last) && (decide (m.Values.length ≤ 12) && (!(decide (m.Kind = 1) && decide (m.Values.length = 0)) && m.Values.all (fun v => decide (MP m.Attr v = 0)))))))
def UQ (last : Int) (l : List BD) : Bool := l.all (aH last) && decide (l.length ≤ 8)
def Qw (a : AL) : Prop := a.Attr.length ≤ 1000000 ∧ a.Value.length ≤ 1000000
def Lr (m : BD) : Prop := m.Attr.length ≤ 1000000 ∧ m.Values.length ≤ 1000000 ∧ ∀ v ∈ m.Values, v.length ≤ 1000000
def Qv (c : AX) : Prop := (c.RDN.length ≤ 1000000 ∧ ∀ a ∈ c.RDN, Qw a) ∧ (c.Mods.length ≤ 1000000 ∧ ∀ m ∈ c.Mods, Lr m)
theorem neI (a b : Int) : (a != b) = !decide (a = b) := by rw [Bool.eq_iff_iff]; simp
theorem Hm (N : Nat) (hN : 2000000 < N) (hN2 : N ≤ 9223372036854775808) : ∀ (b a : List AL) (n : Nat), (a ++ b).length ≤ 9223372036854775807 → b.length < n → (∀ x ∈ b, Qw x) →
  ∃ i : Nat, BL N (a ++ b) n (a.length : Int) = some (bif b.all kR then .inl () else .inr (i : Int)) := by
 intro b
 induction b with
 | nil =>
  intro a n hs hn _
  obtain ⟨n, rfl, _⟩ := fuel hn
  simp only [BL, CP]
  rw [CS, cond_false]; exact ⟨0, rfl⟩
 | cons x b ih =>
  intro a n hs hn hok
  obtain ⟨n, rfl, hn'⟩ := fuel hn
  obtain ⟨i, hi⟩ := ih (a ++ [x]) n (by simpa using hs) hn' (fun y hy => hok y (List.mem_cons_of_mem _ hy))
  rw [← EN] at hi
  have hx := hok x List.mem_cons_self
  simp only [BL, CP, UO]
  rw [CY, cond_true, D9, oS, uD hx.1 hx.2 hN hN2, D7 (a := a) (b := b) (x := x) (by omega), hi, List.all_cons, oS, neI]
  show ∃ j : Nat, _ = some (bif (!(x.Attr == Qp) && decide (MP x.Attr x.Value = 0)) && b.all kR then _ else _)
  unfold Qp
  cases (x.Attr == ([101, 110, 116, 114, 121, 105, 100] : List UInt8))
  ·cases decide (MP x.Attr x.Value = 0)
   ·exact ⟨a.length, rfl⟩
   ·exact ⟨i, rfl⟩
  ·exact ⟨a.length, rfl⟩
theorem Jr {N : Nat} {r : List AL} (hN : 2000000 < N) (hN2 : N ≤ 9223372036854775808) (hl : r.length ≤ 1000000) (hr : ∀ x ∈ r, Qw x) : R7 N r = some (iC r) := by
 unfold R7 DT EK iC
 rw [tC hN2 (by omega) (by omega) (fun x hx => ⟨by have := (hr x hx).1; omega, by have := (hr x hx).2; omega⟩), oS]
 obtain ⟨i, h⟩ := Hm N hN hN2 r [] N (by simp; omega) (by omega) hr
 simp only [List.nil_append, List.length_nil] at h
 rw [show ((0 : Int)) = ((0 : Nat) : Int) from rfl, h, show decide ((r.length : Int) ≥ 4) = !decide (r.length < 4) by rw [Bool.eq_iff_iff]; simp; omega]
 cases LG r
 ·rfl
 ·cases decide (r.length < 4)
  ·rfl
  ·cases r.all kR
   ·simp [Option.bind]
   ·rfl
theorem Cx (N : Nat) (hN : 2000000 < N) (hN2 : N ≤ 9223372036854775808) : ∀ (b a : List AL) (n : Nat), (a ++ b).length ≤ 9223372036854775807 → b.length < n → (∀ x ∈ b, Qw x) →
  FY N (a ++ b) n (a.length : Int) = some (bif b.all kR then .inl () else .inr false) := by
 intro b
 induction b with
 | nil =>
  intro a n hs hn _
  obtain ⟨n, rfl, _⟩ := fuel hn
  simp only [FY, JS]
  rw [CS, cond_false]; rfl
 | cons x b ih =>
  intro a n hs hn hok
  obtain ⟨n, rfl, hn'⟩ := fuel hn
  have hi := ih (a ++ [x]) n (by simpa using hs) hn' (fun y hy => hok y (List.mem_cons_of_mem _ hy))
  rw [← EN] at hi
  have hx := hok x List.mem_cons_self
  simp only [FY, JS]
  rw [CY, cond_true, D9, oS, oS, oS, nQ hx.1 hx.2 hN hN2, D7 (a := a) (b := b) (x := x) (by omega), hi, List.all_cons, oS, neI]
  show _ = some (bif (!(x.Attr == Qp) && decide (MP x.Attr x.Value = 0)) && b.all kR then _ else _)
  unfold Qp
  cases (x.Attr == ([101, 110, 116, 114, 121, 105, 100] : List UInt8))
  ·cases decide (MP x.Attr x.Value = 0)
   ·rfl
   ·rfl
  ·rfl
theorem Bh {N : Nat} {r : List AL} (hN : 2000000 < N) (hN2 : N ≤ 9223372036854775808) (hl : r.length ≤ 1000000) (hr : ∀ x ∈ r, Qw x) : OO N r = some (iC r) := by
 unfold OO iC
 rw [fO hN2 (by omega) (fun x hx => ⟨by have := (hr x hx).1; omega, by have := (hr x hx).2; omega⟩), oS]
 have h := Cx N hN hN2 r [] N (by simp; omega) (by omega) hr
 simp only [List.nil_append, List.length_nil] at h
 rw [show ((0 : Int)) = ((0 : Nat) : Int) from rfl, h, show decide ((r.length : Int) ≥ 4) = !decide (r.length < 4) by rw [Bool.eq_iff_iff]; simp; omega]
 cases LG r
 ·rfl
 ·cases decide (r.length < 4)
  ·rfl
  ·cases r.all kR
   ·rfl
   ·rfl
theorem Hl (N : Nat) (hN : 2000000 < N) (hN2 : N ≤ 9223372036854775808) (m : BD) (hm : m.Attr.length ≤ 1000000) : ∀ (b a : List (List UInt8)) (n : Nat), (a ++ b).length ≤ 9223372036854775807 → b.length < n → (∀ x ∈ b, x.length ≤ 1000000) →
  ∃ i : Nat, BN N (a ++ b) m n (a.length : Int) = some (bif b.all (fun v => decide (MP m.Attr v = 0)) then .inl () else .inr (i : Int)) := by
 intro b
 induction b with
 | nil =>
  intro a n hs hn _
  obtain ⟨n, rfl, _⟩ := fuel hn
  simp only [BN, CQ]
  rw [CS, cond_false]; exact ⟨0, rfl⟩
 | cons x b ih =>
  intro a n hs hn hok
  obtain ⟨n, rfl, hn'⟩ := fuel hn
  obtain ⟨i, hi⟩ := ih (a ++ [x]) n (by simpa using hs) hn' (fun y hy => hok y (List.mem_cons_of_mem _ hy))
  rw [← EN] at hi
  have hx := hok x List.mem_cons_self
  simp only [BN, CQ, TG]
  rw [CY, cond_true, D9, oS, uD hm hx hN hN2, D7 (a := a) (b := b) (x := x) (by omega), hi, List.all_cons, oS, neI]
  cases decide (MP m.Attr x = 0)
  ·exact ⟨a.length, rfl⟩
  ·exact ⟨i, rfl⟩
theorem Wt {N : Nat} {m : BD} (hN : 2000000 < N) (hN2 : N ≤ 9223372036854775808) (hm : Lr m) : CR N m.Values m = some (!m.Values.all (fun v => decide (MP m.Attr v = 0))) := by
 unfold CR EO
 obtain ⟨i, h⟩ := Hl N hN hN2 m hm.1 m.Values [] N (by have := hm.2.1; simp; omega) (by have := hm.2.1; omega) hm.2.2
 simp only [List.nil_append, List.length_nil] at h
 rw [show ((0 : Int)) = ((0 : Nat) : Int) from rfl, h]
 cases m.Values.all (fun v => decide (MP m.Attr v = 0))
 ·simp [Option.bind]
 ·rfl
theorem tF (N : Nat) (hN : 2000000 < N) (hN2 : N ≤ 9223372036854775808) (last : Int) : ∀ (b a : List BD) (n : Nat), (a ++ b).length ≤ 9223372036854775807 → b.length < n → (∀ x ∈ b, Lr x) →
  IJ N (a ++ b) last n (a.length : Int) = some (bif b.all (aH last) then .inl () else .inr false) := by
 intro b
 induction b with
 | nil =>
  intro a n hs hn _
  obtain ⟨n, rfl, _⟩ := fuel hn
  simp only [IJ, MQ]
  rw [CS, cond_false]; rfl
 | cons x b ih =>
  intro a n hs hn hok
  obtain ⟨n, rfl, hn'⟩ := fuel hn
  have hi := ih (a ++ [x]) n (by simpa using hs) hn' (fun y hy => hok y (List.mem_cons_of_mem _ hy))
  rw [← EN] at hi
  have hx := hok x List.mem_cons_self
  simp only [IJ, MQ]
  rw [CY, cond_true, D9, oS, zX (by have := hx.1; omega) (by have := hx.1; omega) (by omega), oS, D7 (a := a) (b := b) (x := x) (by omega), hi, List.all_cons]
  have hv := Wt hN hN2 hx
  rw [show (⟨x.Kind, x.Attr, x.Values⟩ : BD) = x from rfl, hv, oS]
  unfold aH Qp
  rw [show decide (x.Kind < 1) = !decide (1 ≤ x.Kind) by rw [Bool.eq_iff_iff]; simp, show decide (x.Kind > last) = !decide (x.Kind ≤ last) by rw [Bool.eq_iff_iff]; simp, show decide ((x.Values.length : Int) > 12) = !decide (x.Values.length ≤ 12) by rw [Bool.eq_iff_iff]; simp; omega,
   show (x.Kind == (1 : Int)) = decide (x.Kind = 1) by rw [Bool.eq_iff_iff]; simp, show ((x.Values.length : Int) == (0 : Int)) = decide (x.Values.length = 0) by rw [Bool.eq_iff_iff]; simp]
  cases YX x.Attr with
  | none => rfl
  | some t =>
   simp only
   cases (t.Name == x.Attr) <;> cases (x.Attr == ([101, 110, 116, 114, 121, 105, 100] : List UInt8)) <;> cases decide (1 ≤ x.Kind) <;> cases decide (x.Kind ≤ last) <;> cases decide (x.Values.length ≤ 12) <;> cases decide (x.Kind = 1) <;> cases decide (x.Values.length = 0) <;> cases x.Values.all (fun v => decide (MP x.Attr v = 0)) <;> rfl
theorem oL {N : Nat} {l : List BD} (last : Int) (hN : 2000000 < N) (hN2 : N ≤ 9223372036854775808) (hl : l.length ≤ 1000000) (hm : ∀ m ∈ l, Lr m) : PH N l last = some (UQ last l) := by
 unfold PH UQ
 have h := tF N hN hN2 last l [] N (by simp; omega) (by omega) hm
 simp only [List.nil_append, List.length_nil] at h
 rw [show ((0 : Int)) = ((0 : Nat) : Int) from rfl, h, show decide ((l.length : Int) ≤ 8) = decide (l.length ≤ 8) by rw [Bool.eq_iff_iff]; simp; omega]
 cases l.all (aH last) <;> rfl
theorem Aw (N : Nat) (hN : 2000000 < N) (hN2 : N ≤ 9223372036854775808) (l0 : List BD) (o : Bool) (i0 : Int) (m : BD) (hm : m.Attr.length ≤ 1000000) : ∀ (b a : List (List UInt8)) (n : Nat), m.Values = a ++ b → (a ++ b).length ≤ 9223372036854775807 → b.length < n → (∀ x ∈ b, x.length ≤ 1000000) →
  FT N l0 o i0 m n (a.length : Int) = some (bif b.all (fun v => decide (MP m.Attr v = 0)) then .inl () else .inr false) := by
 intro b
 induction b with
 | nil =>
  intro a n he hs hn _
  obtain ⟨n, rfl, _⟩ := fuel hn
  simp only [FT, JC]
  rw [he, CS, cond_false]; rfl
 | cons x b ih =>
  intro a n he hs hn hok
  obtain ⟨n, rfl, hn'⟩ := fuel hn
  have hi := ih (a ++ [x]) n (by rw [he]; simp) (by simpa using hs) hn' (fun y hy => hok y (List.mem_cons_of_mem _ hy))
  have hx := hok x List.mem_cons_self
  simp only [FT, JC]
  rw [he, CY, cond_true, D9, oS, nQ hm hx hN hN2, D7 (a := a) (b := b) (x := x) (by omega), hi, List.all_cons, oS, neI]
  cases decide (MP m.Attr x = 0)
  ·rfl
  ·rfl
def gW (o : Bool) : Int := bif o then 1 else 3
theorem vI (N : Nat) (hN : 2000000 < N) (hN2 : N ≤ 9223372036854775808) (o : Bool) : ∀ (b a : List BD) (n : Nat), (a ++ b).length ≤ 9223372036854775807 → b.length < n → (∀ x ∈ b, Lr x) →
  FZ N (a ++ b) o n (a.length : Int) = some (bif b.all (aH (gW o)) then .inl () else .inr false) := by
 intro b
 induction b with
 | nil =>
  intro a n hs hn _
  obtain ⟨n, rfl, _⟩ := fuel hn
  simp only [FZ, JU]
  rw [CS, cond_false]; rfl
 | cons x b ih =>
  intro a n hs hn hok
  obtain ⟨n, rfl, hn'⟩ := fuel hn
  have hi := ih (a ++ [x]) n (by simpa using hs) hn' (fun y hy => hok y (List.mem_cons_of_mem _ hy))
  rw [← EN] at hi
  have hx := hok x List.mem_cons_self
  have hv := Aw N hN hN2 (a ++ x :: b) o (a.length : Int) x hx.1 x.Values [] N rfl (by have := hx.2.1; simp; omega) (by have := hx.2.1; omega) hx.2.2
  simp only [List.length_nil] at hv
  simp only [FZ, JU]
  rw [CY, cond_true, D9, oS, rX (by have := hx.1; omega) (by have := hx.1; omega) (by omega), oS, D7 (a := a) (b := b) (x := x) (by omega), hi, List.all_cons]
  rw [show ((0 : Int)) = ((0 : Nat) : Int) from rfl, hv, oS]
  have hk : ∀ k : Int, aH (gW o) x = aH (gW o) x := fun _ => rfl
  unfold aH Qp
  rw [show decide (x.Kind < 1) = !decide (1 ≤ x.Kind) by rw [Bool.eq_iff_iff]; simp, show decide (x.Kind > 3) = !decide (x.Kind ≤ 3) by rw [Bool.eq_iff_iff]; simp, show decide ((x.Values.length : Int) > 12) = !decide (x.Values.length ≤ 12) by rw [Bool.eq_iff_iff]; simp; omega,
   show (x.Kind == (1 : Int)) = decide (x.Kind = 1) by rw [Bool.eq_iff_iff]; simp, show (x.Kind != (1 : Int)) = !decide (x.Kind = 1) by rw [Bool.eq_iff_iff]; simp, show ((x.Values.length : Int) == ((0 : Nat) : Int)) = decide (x.Values.length = 0) by rw [Bool.eq_iff_iff]; simp]
  cases YX x.Attr with
  | none => rfl
  | some t =>
   simp only
   by_cases hn : t.Name = x.Attr
   ·rw [show (t.Name == x.Attr) = true by simpa using hn, hn]
    cases o
    ·show _ = some (bif ((true && (_ && (_ && (decide (x.Kind ≤ 3) && _)))) && _) then _ else _)
     cases (x.Attr == ([101, 110, 116, 114, 121, 105, 100] : List UInt8)) <;> cases decide (1 ≤ x.Kind) <;> cases decide (x.Kind ≤ 3) <;> cases decide (x.Values.length ≤ 12) <;> cases decide (x.Kind = 1) <;> cases decide (x.Values.length = 0) <;> cases x.Values.all (fun v => decide (MP x.Attr v = 0)) <;> rfl
    ·show _ = some (bif ((true && (_ && (_ && (decide (x.Kind ≤ 1) && _)))) && _) then _ else _)
     by_cases h1 : x.Kind = 1
     ·rw [decide_eq_true h1, decide_eq_true (show x.Kind ≤ 1 by omega), decide_eq_true (show 1 ≤ x.Kind by omega), decide_eq_true (show x.Kind ≤ 3 by omega)]
      cases (x.Attr == ([101, 110, 116, 114, 121, 105, 100] : List UInt8)) <;> cases decide (x.Values.length ≤ 12) <;> cases decide (x.Values.length = 0) <;> cases x.Values.all (fun v => decide (MP x.Attr v = 0)) <;> rfl
     ·rw [decide_eq_false h1]
      by_cases h2 : 1 ≤ x.Kind
      ·rw [decide_eq_false (show ¬ x.Kind ≤ 1 by omega)]
       cases (x.Attr == ([101, 110, 116, 114, 121, 105, 100] : List UInt8)) <;> cases decide (1 ≤ x.Kind) <;> cases decide (x.Kind ≤ 3) <;> cases decide (x.Values.length ≤ 12) <;> cases decide (x.Values.length = 0) <;> rfl
      ·rw [decide_eq_false h2]
       cases (x.Attr == ([101, 110, 116, 114, 121, 105, 100] : List UInt8)) <;> rfl
   ·rw [show (t.Name == x.Attr) = false by simpa using hn]
    rfl
theorem kJ {N : Nat} {l : List BD} (o : Bool) (hN : 2000000 < N) (hN2 : N ≤ 9223372036854775808) (hl : l.length ≤ 1000000) (hm : ∀ m ∈ l, Lr m) : L8 N l o = some (UQ (gW o) l) := by
 unfold L8 UQ
 have h := vI N hN hN2 o l [] N (by simp; omega) (by omega) hm
 simp only [List.nil_append, List.length_nil] at h
 rw [show ((0 : Int)) = ((0 : Nat) : Int) from rfl, h, show decide ((l.length : Int) ≤ 8) = decide (l.length ≤ 8) by rw [Bool.eq_iff_iff]; simp; omega]
 cases l.all (aH (gW o)) <;> rfl
end Go.Gp
end
