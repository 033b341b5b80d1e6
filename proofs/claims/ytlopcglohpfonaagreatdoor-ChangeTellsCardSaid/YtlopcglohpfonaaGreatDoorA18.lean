/- A part of the proof: functions of the program and what they compute. -/
import Derived.Test.YtlopcglohpfonaaGreatDoorA5
import Derived.Test.YtlopcglohpfonaaGreatDoorA17
import Derived.KernelRfl
section
set_option linter.unusedVariables false
set_option linter.unusedSimpArgs false
namespace Go.Gp
open Go.Vd
def oF (c : UInt8) : UInt8 := if 65 ≤ c.toNat ∧ c.toNat ≤ 90 then c + 32 else c
def low (s : List UInt8) : List UInt8 := s.map oF
def Ai (c : UInt8) : Bool := decide (65 ≤ c.toNat) && decide (c.toNat ≤ 90)
theorem wG (c : UInt8) : (bif decide (((c).toNat : Int) ≥ (65 : Int)) then some (decide (((c).toNat : Int) ≤ (90 : Int))) else some false) = some (Ai c) := by
 have := K7 (p := fun c => (bif decide (((c).toNat : Int) ≥ (65 : Int)) then some (decide (((c).toNat : Int) ≤ (90 : Int))) else some false) == some (Ai c)) (by decide +kernel) c
 simpa using this
theorem Ef (c : UInt8) : oF c = bif Ai c then c + 32 else c := by
 have := K7 (p := fun c => oF c == bif Ai c then c + 32 else c) (by decide +kernel) c
 simpa using this
theorem uN (N : Nat) : ∀ (b a d : List UInt8) (n : Nat), (a ++ b).length ≤ 9223372036854775807 → b.length < n → d.length = a.length →
  LH N (a ++ b) n ((a.length : Int), d ++ b) = some (d ++ low b) := by
 intro b
 induction b with
 | nil =>
  intro a d n hs hn hd
  obtain ⟨n, rfl, _⟩ := fuel hn
  simp only [LH, RB]
  rw [CZ, cond_false]; rfl
 | cons c b ih =>
  intro a d n hs hn hd
  obtain ⟨n, rfl, hn'⟩ := fuel hn
  simp only [LH, RB, TA]
  rw [D9, cond_true]
  have hnx : ∀ x, LH N (a ++ c :: b) n (BQ ((a.length : Int) + 1), d ++ x :: b) = some (d ++ x :: low b) := by
   intro x
   rw [DI hs, EA a b c, EA d b x, ih (a ++ [c]) (d ++ [x]) n (by simpa using hs) hn' (by simp [hd])]
   simp
  rw [← hd, dM, Option.bind_some, O4, Option.bind_some, wG]
  simp only [Option.bind_some, O4, set_mid]
  rw [hd, hnx, hnx]
  show _ = some (d ++ oF c :: low b)
  rw [Ef]
  cases Ai c <;> rfl
theorem lower_eq {N : Nat} {s : List UInt8} (hs : s.length ≤ 9223372036854775807) (hN : s.length < N) : WJ N s = some (low s) := by
 unfold WJ
 have := uN N s [] [] N hs hN rfl
 simp only [List.nil_append, List.length_nil] at this
 rw [show ((0 : Int)) = ((0 : Nat) : Int) from rfl, this]
 rfl
theorem qI (N : Nat) : ∀ (b d : List UInt8) (n : Nat), (d ++ b).length ≤ 9223372036854775807 → b.length < n →
  FC N n ((d.length : Int), d ++ b) = some (d ++ low b) := by
 intro b
 induction b with
 | nil =>
  intro d n hs hn
  obtain ⟨n, rfl, _⟩ := fuel hn
  simp only [FC, JE]
  rw [CZ, cond_false]; rfl
 | cons c b ih =>
  intro d n hs hn
  obtain ⟨n, rfl, hn'⟩ := fuel hn
  simp only [FC, JE, JX]
  rw [D9, cond_true]
  have hnx : ∀ x, FC N n (BQ ((d.length : Int) + 1), d ++ x :: b) = some (d ++ x :: low b) := by
   intro x
   have hs' : (d ++ x :: b).length ≤ 9223372036854775807 := by simpa using hs
   rw [DI hs', EA d b x, ih (d ++ [x]) n (by simpa using hs') hn']
   simp
  rw [dM]
  simp only [Option.bind_some, O4, set_mid, hnx, wG]
  show _ = some (d ++ oF c :: low b)
  rw [Ef]
  cases Ai c <;> rfl
theorem mF {N : Nat} {s : List UInt8} (hs : s.length ≤ 9223372036854775807) (hN : s.length < N) : KI N s = some (low s) := by
 unfold KI
 have := qI N s [] N hs hN
 simp only [List.nil_append, List.length_nil] at this
 rw [show ((0 : Int)) = ((0 : Nat) : Int) from rfl, this]
 rfl
def tyA (c : UInt8) : Bool := decide (97 ≤ c.toNat) && decide (c.toNat ≤ 122)
def tQ (c : UInt8) : Bool := tyA c || (decide (48 ≤ c.toNat) && decide (c.toNat ≤ 57)) || decide (c.toNat = 45)
def QD (s : List UInt8) : Bool := match s with
 | [] => false
 | c :: t => decide (t.length < 16) && (tyA c && (c :: t).all tQ)
theorem Ko (c : UInt8) (x y : Option (Unit ⊕ Bool)) : (Option.bind (bif decide (((c).toNat : Int) ≥ (97 : Int)) then some (decide (((c).toNat : Int) ≤ (122 : Int))) else some false) fun (g7 : Bool) =>
   bif g7 then x else Option.bind (bif decide (((c).toNat : Int) ≥ (48 : Int)) then some (decide (((c).toNat : Int) ≤ (57 : Int))) else some false) fun (g11 : Bool) =>
    bif g11 then (bif g11 then x else y) else (bif (((c).toNat : Int) == (45 : Int)) then x else y)) = bif tQ c then x else y := by
 have := K7 (p := fun c => (Option.bind (bif decide (((c).toNat : Int) ≥ (97 : Int)) then some (decide (((c).toNat : Int) ≤ (122 : Int))) else some false) fun (g7 : Bool) =>
   bif g7 then some true else Option.bind (bif decide (((c).toNat : Int) ≥ (48 : Int)) then some (decide (((c).toNat : Int) ≤ (57 : Int))) else some false) fun (g11 : Bool) =>
    bif g11 then (bif g11 then some true else some false) else (bif (((c).toNat : Int) == (45 : Int)) then some true else some false)) == some (tQ c)) (by decide +kernel) c
 revert this
 cases decide (((c).toNat : Int) ≥ (97 : Int)) <;> cases decide (((c).toNat : Int) ≤ (122 : Int)) <;> cases decide (((c).toNat : Int) ≥ (48 : Int)) <;> cases decide (((c).toNat : Int) ≤ (57 : Int)) <;> cases (((c).toNat : Int) == (45 : Int)) <;> cases tQ c <;> simp
theorem wH (c : UInt8) : (bif decide (((c).toNat : Int) < (97 : Int)) then some true else some (decide (((c).toNat : Int) > (122 : Int)))) = some (!tyA c) := by
 have := K7 (p := fun c => (bif decide (((c).toNat : Int) < (97 : Int)) then some true else some (decide (((c).toNat : Int) > (122 : Int)))) == some (!tyA c)) (by decide +kernel) c
 simpa using this
theorem z8 (N : Nat) : ∀ (b a : List UInt8) (n : Nat), (a ++ b).length ≤ 9223372036854775807 → b.length < n →
  KV N (a ++ b) n (a.length : Int) = some (bif b.all tQ then .inl () else .inr false) := by
 intro b
 induction b with
 | nil =>
  intro a n hs hn
  obtain ⟨n, rfl, _⟩ := fuel hn
  simp only [KV, OJ]
  rw [CZ, cond_false]; rfl
 | cons c b ih =>
  intro a n hs hn
  obtain ⟨n, rfl, hn'⟩ := fuel hn
  simp only [KV, OJ, RF, RD]
  rw [D9, cond_true, dM, Option.bind_some, O4, Option.bind_some, DI hs]
  have := ih (a ++ [c]) n (by simpa using hs) hn'
  rw [← EA] at this
  rw [this, Ko, List.all_cons]
  cases tQ c <;> rfl
theorem Aj {N : Nat} {s : List UInt8} (hs : s.length ≤ 9223372036854775807) (hN : s.length < N) : ZB N s = some (QD s) := by
 unfold ZB QD
 cases s with
 | nil => rfl
 | cons c s =>
  have h0 : (c :: s == ([] : List UInt8)) = false := rfl
  have hi := DD [] s c
  have hl := z8 N (c :: s) [] N hs hN
  simp only [List.nil_append, List.length_nil] at hi hl
  rw [h0, cond_false, show ((0 : Int)) = ((0 : Nat) : Int) from rfl, hi]
  simp only [Option.bind_some, wH, hl]
  by_cases hl : s.length < 16
  ·rw [decide_eq_false (show ¬ (((c :: s).length : Int) > 16) by rw [List.length_cons]; omega), cond_false, Option.bind_some, decide_eq_true hl, Bool.true_and]
   cases tyA c <;> cases (c :: s).all tQ <;> rfl
  ·rw [decide_eq_true (show (((c :: s).length : Int) > 16) by rw [List.length_cons]; omega), decide_eq_false hl]
   rfl
theorem De (c : UInt8) : (bif decide (((c).toNat : Int) < (97 : Int)) then
      bif decide (((c).toNat : Int) < (48 : Int)) then
       some (((c).toNat : Int) != (45 : Int))
      else
       bif decide (((c).toNat : Int) > (57 : Int)) then
        some (((c).toNat : Int) != (45 : Int))
       else
        some false
     else
      bif decide (((c).toNat : Int) > (122 : Int)) then
       bif decide (((c).toNat : Int) < (48 : Int)) then
        some (((c).toNat : Int) != (45 : Int))
       else
        bif decide (((c).toNat : Int) > (57 : Int)) then
         some (((c).toNat : Int) != (45 : Int))
        else
         some false
      else
       some false) = some (!tQ c) := by
 have := K7 (p := fun c => (bif decide (((c).toNat : Int) < (97 : Int)) then
      bif decide (((c).toNat : Int) < (48 : Int)) then
       some (((c).toNat : Int) != (45 : Int))
      else
       bif decide (((c).toNat : Int) > (57 : Int)) then
        some (((c).toNat : Int) != (45 : Int))
       else
        some false
     else
      bif decide (((c).toNat : Int) > (122 : Int)) then
       bif decide (((c).toNat : Int) < (48 : Int)) then
        some (((c).toNat : Int) != (45 : Int))
       else
        bif decide (((c).toNat : Int) > (57 : Int)) then
         some (((c).toNat : Int) != (45 : Int))
        else
         some false
      else
       some false) == some (!tQ c)) (by decide +kernel) c
 simpa using this
theorem uA (N : Nat) : ∀ (b a : List UInt8) (n : Nat), (a ++ b).length ≤ 9223372036854775807 → b.length < n →
  FE N (a ++ b) n (a.length : Int) = some (bif b.all tQ then .inl () else .inr false) := by
 intro b
 induction b with
 | nil =>
  intro a n hs hn
  obtain ⟨n, rfl, _⟩ := fuel hn
  simp only [FE, IG]
  rw [CZ, cond_false]; rfl
 | cons c b ih =>
  intro a n hs hn
  obtain ⟨n, rfl, hn'⟩ := fuel hn
  simp only [FE, IG]
  rw [D9, cond_true, DD, Option.bind_some, DI hs]
  have := ih (a ++ [c]) n (by simpa using hs) hn'
  rw [← EA] at this
  rw [this, De, Option.bind_some, List.all_cons]
  cases tQ c <;> rfl
theorem uE {N : Nat} {s : List UInt8} (hs : s.length ≤ 9223372036854775807) (hN : s.length < N) : LY N s = some (QD s) := by
 unfold LY QD
 cases s with
 | nil => rfl
 | cons c s =>
  have h0 : decide (((c :: s).length : Int) < 1) = false := decide_eq_false (by rw [List.length_cons]; omega)
  have hi := DD [] s c
  have hl := uA N (c :: s) [] N hs hN
  simp only [List.nil_append, List.length_nil] at hi hl
  rw [h0, cond_false, show ((0 : Int)) = ((0 : Nat) : Int) from rfl, hi]
  simp only [Option.bind_some, wH, hl]
  by_cases hl : s.length < 16
  ·rw [decide_eq_false (show ¬ (((c :: s).length : Int) > 16) by rw [List.length_cons]; omega), cond_false, Option.bind_some, decide_eq_true hl, Bool.true_and]
   cases tyA c <;> cases (c :: s).all tQ <;> rfl
  ·rw [decide_eq_true (show (((c :: s).length : Int) > 16) by rw [List.length_cons]; omega), decide_eq_false hl]
   rfl
def Qt (N : Nat) (a : AP) : Prop := a.Attr.length < N ∧ a.Value.length < N
def Iq (a : AP) : Bool := QD a.Attr && (decide (1 ≤ a.Value.length) && decide (a.Value.length ≤ 60))
def TS : List AP → List AP → Bool
 | _, [] => true
 | d, a :: r => Iq a && (!d.any (fun x => x.Attr == a.Attr) && TS (d ++ [a]) r)
def KT (r : List AP) : Bool := decide (1 ≤ r.length) && (decide (r.length ≤ 4) && TS [] r)
def isS (d : List (List AP)) : Bool := decide (d.length ≤ 8) && d.all KT
theorem lU (N : Nat) (c : AP) : ∀ (b a : List AP) (n : Nat), (a ++ b).length ≤ 9223372036854775807 → b.length < n →
  ∃ i : Nat, BP N (a ++ b) c n (a.length : Int) = some (bif b.any (fun x => x.Attr == c.Attr) then .inr (i : Int) else .inl ()) := by
 intro b
 induction b with
 | nil =>
  intro a n hs hn
  obtain ⟨n, rfl, _⟩ := fuel hn
  simp only [BP, CX]
  rw [CZ, cond_false]; exact ⟨0, rfl⟩
 | cons x b ih =>
  intro a n hs hn
  obtain ⟨n, rfl, hn'⟩ := fuel hn
  obtain ⟨i, hi⟩ := ih (a ++ [x]) n (by simpa using hs) hn'
  rw [← EA] at hi
  simp only [BP, CX, bA]
  rw [D9, cond_true, DD, Option.bind_some, Option.bind_some, DI hs, hi, List.any_cons]
  cases x.Attr == c.Attr
  ·exact ⟨i, rfl⟩
  ·exact ⟨a.length, rfl⟩
theorem sH {N : Nat} {l : List AP} {c : AP} (hs : l.length < N) (hN : N ≤ 9223372036854775808) : D5 N l c = some (l.any (fun x => x.Attr == c.Attr)) := by
 unfold D5 EX
 obtain ⟨i, hi⟩ := lU N c l [] N (by simp; omega) hs
 simp only [List.nil_append, List.length_nil] at hi
 rw [show ((0 : Int)) = ((0 : Nat) : Int) from rfl, hi]
 cases l.any (fun x => x.Attr == c.Attr)
 ·rfl
 ·simp [Option.bind]
theorem uV (N : Nat) (hN : N ≤ 9223372036854775808) (h5 : 5 < N) : ∀ (b a : List AP) (n : Nat), (a ++ b).length < N → b.length < n → (∀ x ∈ b, Qt N x) →
  NN N (a ++ b) n (a.length : Int) = some (bif decide ((a ++ b).length ≤ 4) && TS a b || decide (b = []) then .inl () else .inr false) := by
 intro b
 induction b with
 | nil =>
  intro a n hs hn _
  obtain ⟨n, rfl, _⟩ := fuel hn
  simp only [NN, RG]
  rw [CZ, cond_false]; simp
 | cons x b ih =>
  intro a n hs hn hok
  obtain ⟨n, rfl, hn'⟩ := fuel hn
  have hi := ih (a ++ [x]) n (by simpa using hs) hn' (fun y hy => hok y (List.mem_cons_of_mem _ hy))
  rw [← EA] at hi
  have hx := hok x List.mem_cons_self
  simp only [NN, RG]
  rw [D9, cond_true, DD, Option.bind_some, DI (a := a) (b := b) (x := x) (by omega), hi, Aj (by have := hx.1; omega) hx.1, VV (by simp)]
  rw [List.take_left' rfl]
  have hal : (a ++ x :: b).length = a.length + b.length + 1 := by simp; omega
  simp only [Option.bind_some]
  rw [sH (by omega) hN, Option.bind_some]
  by_cases h4 : a.length < 4
  ·rw [decide_eq_false (show ¬ ((a.length : Int) ≥ 4) by omega), cond_false]
   have hv0 : (x.Value == ([] : List UInt8)) = !decide (1 ≤ x.Value.length) := by cases x.Value <;> simp
   have hv1 : decide ((x.Value.length : Int) > 60) = !decide (x.Value.length ≤ 60) := by rw [Bool.eq_iff_iff]; simp; omega
   rw [hv0, hv1]
   have hnil : decide (x :: b = []) = false := by simp
   rw [hnil, Bool.or_false, TS, Iq]
   have hb : decide ((a ++ x :: b).length ≤ 4) = true ∨ (decide ((a ++ x :: b).length ≤ 4) = false ∧ decide (b = []) = false) := by
    by_cases hh : (a ++ x :: b).length ≤ 4
    ·exact .inl (decide_eq_true hh)
    ·refine .inr ⟨decide_eq_false hh, decide_eq_false fun e => hh ?_⟩
     subst e; rw [hal]; simp; omega
   have hgo : b = [] → TS (a ++ [x]) b = true := by intro e; subst e; rfl
   have hgo' : (decide ((a ++ x :: b).length ≤ 4) && TS (a ++ [x]) b || decide (b = [])) = (decide ((a ++ x :: b).length ≤ 4) && TS (a ++ [x]) b) := by
    rcases hb with hb | ⟨hb, hb'⟩
    ·by_cases e : b = []
     ·rw [hb, hgo e]; simp
     ·rw [decide_eq_false e, Bool.or_false]
    ·rw [hb, hb']; rfl
   rw [hgo']
   cases QD x.Attr <;> cases decide (1 ≤ x.Value.length) <;> cases decide (x.Value.length ≤ 60) <;> cases a.any (fun y => y.Attr == x.Attr) <;> cases decide ((a ++ x :: b).length ≤ 4) <;> cases TS (a ++ [x]) b <;> rfl
  ·rw [decide_eq_true (show ((a.length : Int) ≥ 4) by omega), decide_eq_false (show ¬ ((a ++ x :: b).length ≤ 4) by omega)]
   simp
theorem rF {N : Nat} {r : List AP} (hN : N ≤ 9223372036854775808) (h5 : 5 < N) (hr : r.length < N) (hok : ∀ x ∈ r, Qt N x) : YO N r = some (KT r) := by
 unfold YO
 have h := uV N hN h5 r [] N (by simpa using hr) hr hok
 simp only [List.nil_append, List.length_nil] at h
 rw [show ((0 : Int)) = ((0 : Nat) : Int) from rfl, h]
 unfold KT
 cases r with
 | nil => rfl
 | cons x r =>
  rw [decide_eq_true (show 1 ≤ (x :: r).length by simp)]
  have : decide (x :: r = []) = false := by simp
  rw [this, Bool.or_false, Bool.true_and]
  have : decide (((x :: r).length : Int) > ((0 : Nat) : Int)) = true := by simp
  cases decide ((x :: r).length ≤ 4) && TS [] (x :: r)
  ·rfl
  ·simp [Option.bind]
theorem uC (N : Nat) (c : AP) (r : List AP) (k : Nat) (hk : r[k]? = some c) : ∀ (b a : List AP) (n : Nat), (∃ t, r = a ++ b ++ t) → (a ++ b).length = k → r.length ≤ 9223372036854775807 → b.length < n →
  FM N r (k : Int) n (a.length : Int) = some (bif b.any (fun x => x.Attr == c.Attr) then .inr false else .inl ()) := by
 intro b
 induction b with
 | nil =>
  intro a n ht hl hs hn
  obtain ⟨n, rfl, _⟩ := fuel hn
  simp only [FM, IW]
  rw [← hl, CZ, cond_false]; rfl
 | cons x b ih =>
  intro a n ht hl hs hn
  obtain ⟨n, rfl, hn'⟩ := fuel hn
  obtain ⟨t, ht⟩ := ht
  have hi := ih (a ++ [x]) n ⟨t, by rw [ht]; simp⟩ (by rw [← hl]; simp) hs hn'
  simp only [FM, IW]
  have hg : CQ r (a.length : Int) = some x := by rw [ht, List.append_assoc, List.cons_append, DD]
  have hle : a.length < k := by rw [← hl]; simp
  have hkl : k < r.length := (List.getElem?_eq_some_iff.1 hk).1
  rw [M3, decide_eq_true hle, cond_true, hg, Option.bind_some, UN hk, Option.bind_some, JM (by omega)]
  simp only [List.length_append, List.length_cons, List.length_nil, Nat.zero_add] at hi
  rw [hi, List.any_cons]
  cases x.Attr == c.Attr <;> rfl
theorem qN (N : Nat) (hN : N ≤ 9223372036854775808) : ∀ (b a : List AP) (n : Nat), (a ++ b).length < N → b.length < n → (∀ x ∈ b, Qt N x) →
  FN N (a ++ b) n (a.length : Int) = some (bif TS a b then .inl () else .inr false) := by
 intro b
 induction b with
 | nil =>
  intro a n hs hn _
  obtain ⟨n, rfl, _⟩ := fuel hn
  simp only [FN, IX]
  rw [CZ, cond_false]; rfl
 | cons x b ih =>
  intro a n hs hn hok
  obtain ⟨n, rfl, hn'⟩ := fuel hn
  have hi := ih (a ++ [x]) n (by simpa using hs) hn' (fun y hy => hok y (List.mem_cons_of_mem _ hy))
  rw [← EA] at hi
  have hx := hok x List.mem_cons_self
  have hsm := uC N x (a ++ x :: b) a.length (O4 a b x) a [] N ⟨x :: b, by simp⟩ (by simp) (by omega) (by simp at hs; omega)
  simp only [List.length_nil] at hsm
  simp only [FN, IX]
  rw [D9, cond_true, DD, DI (a := a) (b := b) (x := x) (by omega), hi, show ((0 : Int)) = ((0 : Nat) : Int) from rfl, hsm]
  simp only [Option.bind_some]
  rw [uE (by have := hx.1; omega) hx.1, TS, Iq]
  have hv0 : decide ((x.Value.length : Int) < 1) = !decide (1 ≤ x.Value.length) := by rw [Bool.eq_iff_iff]; simp only [decide_eq_true_eq, Bool.not_eq_true', decide_eq_false_iff_not]; omega
  have hv1 : decide ((x.Value.length : Int) > 60) = !decide (x.Value.length ≤ 60) := by rw [Bool.eq_iff_iff]; simp; omega
  rw [hv0, hv1]
  cases QD x.Attr <;> cases decide (1 ≤ x.Value.length) <;> cases decide (x.Value.length ≤ 60) <;> cases a.any (fun y => y.Attr == x.Attr) <;> cases TS (a ++ [x]) b <;> rfl
theorem eZ {N : Nat} {r : List AP} (hN : N ≤ 9223372036854775808) (hr : r.length < N) (hok : ∀ x ∈ r, Qt N x) : IY N r = some (KT r) := by
 unfold IY
 have h := qN N hN r [] N (by simpa using hr) hr hok
 simp only [List.nil_append, List.length_nil] at h
 rw [show ((0 : Int)) = ((0 : Nat) : Int) from rfl, h]
 unfold KT
 have h0 : decide ((r.length : Int) < 1) = !decide (1 ≤ r.length) := by rw [Bool.eq_iff_iff]; simp only [decide_eq_true_eq, Bool.not_eq_true', decide_eq_false_iff_not]; omega
 have h1 : decide ((r.length : Int) > 4) = !decide (r.length ≤ 4) := by rw [Bool.eq_iff_iff]; simp; omega
 rw [h0, h1]
 cases decide (1 ≤ r.length) <;> cases decide (r.length ≤ 4) <;> cases TS [] r <;> rfl
theorem Dn (N : Nat) (hN : N ≤ 9223372036854775808) : ∀ (b a : List (List AP)) (n : Nat), (a ++ b).length < N → b.length < n → (∀ r ∈ b, r.length < N ∧ ∀ x ∈ r, Qt N x) →
  GK N (a ++ b) n (a.length : Int) = some (bif b.all KT then .inl () else .inr false) := by
 intro b
 induction b with
 | nil =>
  intro a n hs hn _
  obtain ⟨n, rfl, _⟩ := fuel hn
  simp only [GK, KJ]
  rw [CZ, cond_false]; rfl
 | cons x b ih =>
  intro a n hs hn hok
  obtain ⟨n, rfl, hn'⟩ := fuel hn
  have hi := ih (a ++ [x]) n (by simpa using hs) hn' (fun y hy => hok y (List.mem_cons_of_mem _ hy))
  rw [← EA] at hi
  have hx := hok x List.mem_cons_self
  simp only [GK, KJ]
  rw [D9, cond_true, DD, Option.bind_some, eZ hN hx.1 hx.2, DI (a := a) (b := b) (x := x) (by omega), hi, List.all_cons]
  cases KT x <;> rfl
theorem Qp {N : Nat} {d : List (List AP)} (hN : N ≤ 9223372036854775808) (hd : d.length < N) (hok : ∀ r ∈ d, r.length < N ∧ ∀ x ∈ r, Qt N x) : Q9 N d = some (isS d) := by
 unfold Q9 isS
 have h := Dn N hN d [] N (by simpa using hd) hd hok
 simp only [List.nil_append, List.length_nil] at h
 rw [show ((0 : Int)) = ((0 : Nat) : Int) from rfl, h]
 have h1 : decide ((d.length : Int) > 8) = !decide (d.length ≤ 8) := by rw [Bool.eq_iff_iff]; simp; omega
 rw [h1]
 cases decide (d.length ≤ 8) <;> cases d.all KT <;> rfl
def TZ (p : List UInt8) : List (List UInt8) → List (List UInt8)
 | [] => [p]
 | x :: xs => (p ++ x) :: xs
def IR (sep : UInt8) : List UInt8 → List (List UInt8)
 | [] => [[]]
 | [c] => if c = 92 then [[c]] else if c = sep then [[], []] else [[c]]
 | c :: d :: s => if c = 92 then TZ [c, d] (IR sep s) else if c = sep then [] :: IR sep (d :: s) else TZ [c] (IR sep (d :: s))
theorem jG (p q : List UInt8) (l : List (List UInt8)) : TZ p (TZ q l) = TZ (p ++ q) l := by cases l <;> simp [TZ]
theorem wP (p : List UInt8) (l : List (List UInt8)) : TZ p l ≠ [] := by cases l <;> simp [TZ]
theorem jH {l : List (List UInt8)} (h : l ≠ []) : TZ [] l = l := by cases l <;> simp_all [TZ]
theorem QG (sep : UInt8) : ∀ s, IR sep s ≠ []
 | [] => by simp [IR]
 | [c] => by unfold IR; split; simp; split <;> simp
 | c :: d :: s => by
  unfold IR
  split
  ·exact wP _ _
  ·split
   ·simp
   ·exact wP _ _
theorem Nt (sep d : UInt8) (s : List UInt8) : IR sep (92 :: d :: s) = TZ [92, d] (IR sep s) := by rw [IR]; simp
theorem Hu {sep : UInt8} (h : sep ≠ 92) (s : List UInt8) : IR sep (sep :: s) = [] :: IR sep s := by
 cases s with
 | nil => simp [IR, h]
 | cons d s => rw [IR, if_neg h, if_pos rfl]
theorem U4 {sep c : UInt8} (h : c ≠ 92) (h' : c ≠ sep) (s : List UInt8) : IR sep (c :: s) = TZ [c] (IR sep s) := by
 cases s with
 | nil => simp [IR, h, h', TZ]
 | cons d s => rw [IR, if_neg h, if_neg h']
theorem Qk (c d : UInt8) : (((c.toNat : Nat) : Int) == ((d.toNat : Nat) : Int)) = decide (c = d) := by
 rw [u8_eq, Bool.eq_iff_iff]; simp
theorem Uw (c : UInt8) : (((c).toNat : Int) == (92 : Int)) = decide (c = 92) := by
 have := K7 (p := fun c => (((c).toNat : Int) == (92 : Int)) == decide (c = 92)) (by decide +kernel) c
 simpa using this
theorem Ht (N : Nat) (sep : UInt8) : ∀ (k : Nat) (b a : List UInt8) (f : Nat) (out : List (List UInt8)) (n : Nat), b.length ≤ k → (a ++ b).length ≤ 1000000 → b.length < n → f ≤ a.length → out.length ≤ a.length →
  ∃ (f' : Nat) (out' : List (List UInt8)), J7 N (a ++ b) sep n ((f : Int), (a.length : Int), out) = some ((f' : Int), out') ∧ f' ≤ (a ++ b).length ∧ out'.length ≤ (a ++ b).length ∧ out' ++ [(a ++ b).drop f'] = out ++ TZ (a.drop f) (IR sep b) := by
 intro k
 induction k with
 | zero =>
  intro b a f out n hk hs hn hf ho
  obtain rfl : b = [] := List.length_eq_zero_iff.1 (by omega)
  obtain ⟨n, rfl, _⟩ := fuel hn
  simp only [J7, LZ]
  rw [CZ, cond_false]
  exact ⟨f, out, rfl, by simpa using hf, by simpa using ho, by simp [IR, TZ]⟩
 | succ k ih =>
  intro b a f out n hk hs hn hf ho
  cases b with
  | nil =>
   obtain ⟨n, rfl, _⟩ := fuel hn
   simp only [J7, LZ]
   rw [CZ, cond_false]
   exact ⟨f, out, rfl, by simpa using hf, by simpa using ho, by simp [IR, TZ]⟩
  | cons c b =>
   obtain ⟨n, rfl, hn'⟩ := fuel hn
   have hal : (a ++ c :: b).length = a.length + b.length + 1 := by simp; omega
   simp only [J7, LZ, R3]
   rw [D9, cond_true, DD, Option.bind_some, Uw, Qk, DI (a := a) (b := b) (x := c) (by omega)]
   by_cases hc : c = 92
   ·rw [decide_eq_true hc, cond_true, JM (by simp; omega)]
    cases b with
    | nil =>
     obtain ⟨n, rfl, _⟩ := fuel (k := 0) (n := n) (by simp at hn; omega)
     simp only [J7, LZ]
     rw [M3, decide_eq_false (by simp), cond_false]
     refine ⟨f, out, rfl, by simp; omega, by simp; omega, ?_⟩
     rw [IR, if_pos hc, List.drop_append_of_le_length hf]
     rfl
    | cons d s =>
     obtain ⟨f', out', h1, h2, h3, h4⟩ := ih s (a ++ [c, d]) f out n (by simp at hk; omega) (by simpa using hs) (by simp at hn; omega) (by simp; omega) (by simp; omega)
     have e : a ++ c :: d :: s = a ++ [c, d] ++ s := by simp
     have el : ((((a ++ [c]).length + 1 : Nat)) : Int) = ((a ++ [c, d]).length : Int) := by simp; omega
     rw [e, el]
     refine ⟨f', out', h1, h2, h3, ?_⟩
     ·rw [h4, IR, if_pos hc, jG, List.drop_append_of_le_length hf]
   ·rw [decide_eq_false hc, cond_false]
    have e : a ++ c :: b = a ++ [c] ++ b := by simp
    by_cases hp : c = sep
    ·rw [decide_eq_true hp, cond_true, sF hf (by omega), Option.bind_some, KY (by simp; omega), Option.bind_some, List.take_left' rfl]
     obtain ⟨f', out', h1, h2, h3, h4⟩ := ih b (a ++ [c]) (a ++ [c]).length (out ++ [a.drop f]) n (by simp at hk; omega) (by simpa using hs) (by simp at hn; omega) (by omega) (by simp; omega)
     rw [e]
     refine ⟨f', out', h1, h2, h3, ?_⟩
     ·rw [h4, List.drop_length, jH (QG _ _)]
      subst hp
      rw [Hu hc]
      simp [TZ]
    ·rw [decide_eq_false hp, cond_false]
     obtain ⟨f', out', h1, h2, h3, h4⟩ := ih b (a ++ [c]) f out n (by simp at hk; omega) (by simpa using hs) (by simp at hn; omega) (by simp; omega) (by simp; omega)
     rw [e]
     refine ⟨f', out', h1, h2, h3, ?_⟩
     rw [h4, U4 hc hp, jG, List.drop_append_of_le_length hf]
theorem vI {N : Nat} {s : List UInt8} {sep : UInt8} (hs : s.length ≤ 1000000) (hN : s.length < N) : fG N s sep = some (IR sep s) := by
 unfold fG
 obtain ⟨f', out', h1, h2, h3, h4⟩ := Ht N sep s.length s [] 0 [] N (Nat.le_refl _) hs hN (Nat.le_refl _) (Nat.le_refl _)
 simp only [List.nil_append, List.length_nil, List.drop_nil] at h1 h2 h3 h4
 rw [show ((0 : Int)) = ((0 : Nat) : Int) from rfl, h1, Option.bind_some]
 simp only
 rw [TH h2, Option.bind_some, KY (by simp; omega), Option.bind_some, h4, jH (QG _ _)]
theorem zR (N : Nat) (sep : UInt8) : ∀ (n : Nat) (s : List UInt8) (x : Int × Int × List (List UInt8)), G8 N s sep n x = J7 N s sep n x := by
 intro n
 induction n with
 | zero => intro s x; rfl
 | succ n ih =>
  intro s x
  have hr : G8 N s sep n = J7 N s sep n := funext (ih s)
  obtain ⟨f, i, o⟩ := x
  simp only [G8, J7, MO, LZ, hr, JA, R3]
  cases hx : CQ s i with
  | none => simp
  | some c => simp
theorem o7 {N : Nat} {s : List UInt8} {sep : UInt8} (hs : s.length ≤ 1000000) (hN : s.length < N) : KC N s sep = some (IR sep s) := by
 rw [← vI hs hN]
 unfold KC fG
 rw [zR]
def ZQ : List UInt8 → Option (List UInt8 × List UInt8)
 | [] => none
 | c :: s => if c = 61 then some ([], s) else (ZQ s).map fun x => (c :: x.1, x.2)
theorem WK {s a v : List UInt8} (h : ZQ s = some (a, v)) : s = a ++ 61 :: v ∧ ∀ c ∈ a, c ≠ 61 := by
 induction s generalizing a v with
 | nil => cases h
 | cons c s ih =>
  unfold ZQ at h
  split at h
  ·rename_i hc; subst hc; cases h; exact ⟨rfl, by simp⟩
  ·rename_i hc
   rw [Option.map_eq_some_iff] at h
   obtain ⟨⟨a', v'⟩, h1, h2⟩ := h
   cases h2
   obtain ⟨e, h3⟩ := ih h1
   exact ⟨by rw [e]; rfl, by intro d hd; rcases List.mem_cons.1 hd with rfl | hd; exact hc; exact h3 d hd⟩
theorem aA : ∀ s : List UInt8, Lib.indexByte s 61 = match ZQ s with | some x => (x.1.length : Int) | none => -1
 | [] => rfl
 | c :: s => by
  rw [Lib.indexByte, ZQ, aA s]
  by_cases h : c = 61
  ·subst h; rfl
  ·have : (c == 61) = false := by simpa using h
   rw [if_neg h]
   simp only [this]
   cases ZQ s with
   | none => simp
   | some x => simp
theorem Kv {N : Nat} {s : List UInt8} (hs : s.length ≤ 1000000) : strings_Cut N s [61] = some (match ZQ s with | some x => (x.1, x.2, true) | none => (s, [], false)) := by
 unfold strings_Cut KU stringslite_Index
 simp only [Option.bind_some]
 rw [aA]
 cases h : ZQ s with
 | none => rfl
 | some x =>
  obtain ⟨a, v⟩ := x
  obtain ⟨e, _⟩ := WK h
  simp only
  have hl : s.length = a.length + v.length + 1 := by rw [e]; simp; omega
  rw [decide_eq_true (by omega), cond_true, VV (by omega), Option.bind_some, show (([61] : List UInt8).length : Int) = 1 from rfl, JM (by omega), TH (by omega), Option.bind_some, Option.bind_some]
  rw [e, List.take_left' rfl, EA, List.drop_left' (by simp)]
def hexT : List UInt8 := [48, 49, 50, 51, 52, 53, 54, 55, 56, 57, 97, 98, 99, 100, 101, 102]
def O1 (c : UInt8) : Int := Lib.indexByte hexT (oF c)
def iA (c : UInt8) : Bool := decide (Lib.indexByte ([44, 43, 34, 92, 60, 62, 59] : List UInt8) c ≥ 0)
def fB (c : UInt8) : Bool := decide (Lib.indexByte ([44, 43, 34, 92, 60, 62, 59, 35, 61, 32] : List UInt8) c ≥ 0)
def hx2 (d e : UInt8) : UInt8 := zG (byte (mx (O1 d) 0)) 4 ||| byte (mx (O1 e) 0)
theorem kM {N : Nat} {s : List UInt8} {i : Nat} {c : UInt8} (h : s[i]? = some c) (hs : s.length ≤ 1000000) (h2 : 2 < N) : U1 N s (i : Int) = some (byte (mx (O1 c) 0), decide (O1 c ≥ 0)) := by
 have hi := (List.getElem?_eq_some_iff.1 h).1
 unfold U1
 rw [decide_eq_false (by omega), cond_false, JM (by omega), sF (by omega) (by omega), Option.bind_some, zC h]
 have : (s.take i ++ [c]).drop i = [c] := by
  rw [List.drop_left' (by simp; omega)]
 rw [this, lower_eq (by simp) (by simp; omega), Option.bind_some, show ((0 : Int)) = ((0 : Nat) : Int) from rfl, dH]
 rfl
theorem bC {N : Nat} {s : List UInt8} {i : Nat} (h : s.length ≤ i) : U1 N s (i : Int) = some (0, false) := by
 unfold U1
 rw [decide_eq_true (by omega)]; rfl
theorem zQ (N : Nat) (c : UInt8) : GA N c = some (O1 c) := by
 have := K7 (p := fun c => GA 0 c == some (O1 c)) (by decide +kernel) c
 have h : GA 0 c = some (O1 c) := by simpa using this
 exact h
theorem iN (N : Nat) (c : UInt8) : H7 N c = some (iA c) := by
 have := K7 (p := fun c => H7 0 c == some (iA c)) (by decide +kernel) c
 have h : H7 0 c = some (iA c) := by simpa using this
 exact h
theorem Ls (c : UInt8) : fB c = (iA c || (decide (c = 35) || (decide (c = 61) || decide (c = 32)))) := by
 have := K7 (p := fun c => fB c == (iA c || (decide (c = 35) || (decide (c = 61) || decide (c = 32))))) (by decide +kernel) c
 simpa using this
theorem is35 (c : UInt8) : (((c).toNat : Int) == (35 : Int)) = decide (c = 35) := by
 have := K7 (p := fun c => (((c).toNat : Int) == (35 : Int)) == decide (c = 35)) (by decide +kernel) c
 simpa using this
theorem is32 (c : UInt8) : (((c).toNat : Int) == (32 : Int)) = decide (c = 32) := by
 have := K7 (p := fun c => (((c).toNat : Int) == (32 : Int)) == decide (c = 32)) (by decide +kernel) c
 simpa using this
theorem is61 (c : UInt8) : (((c).toNat : Int) == (61 : Int)) = decide (c = 61) := by
 have := K7 (p := fun c => (((c).toNat : Int) == (61 : Int)) == decide (c = 61)) (by decide +kernel) c
 simpa using this
theorem kE (c : UInt8) : -1 ≤ O1 c ∧ O1 c < 16 := by
 have := K7 (p := fun c => decide (-1 ≤ O1 c ∧ O1 c < 16)) (by decide +kernel) c
 simpa using this
theorem Vu {d e : UInt8} (hd : 0 ≤ O1 d) (he : 0 ≤ O1 e) : byte (BQ (BQ ((16 : Int) * O1 d) + O1 e)) = hx2 d e := by
 unfold hx2
 have h1 := (kE d).2
 have h2 := (kE e).2
 generalize O1 d = x at *
 generalize O1 e = y at *
 have hall : ∀ i : Fin 16, ∀ j : Fin 16, byte (BQ (BQ ((16 : Int) * ((i : Nat) : Int)) + ((j : Nat) : Int))) = zG (byte (mx ((i : Nat) : Int) 0)) 4 ||| byte (mx ((j : Nat) : Int) 0) := by decide +kernel
 have := hall ⟨x.toNat, by omega⟩ ⟨y.toNat, by omega⟩
 simp only [Int.toNat_of_nonneg hd, Int.toNat_of_nonneg he] at this
 exact this
def l8 : List UInt8 → Bool → Option (List UInt8 × Bool)
 | [], bl => some ([], bl)
 | c :: s, _ =>
  if c = 92 then
   match s with
   | [] => none
   | d :: s => if fB d then (l8 s false).map fun x => (d :: x.1, x.2) else
    match s with
    | [] => none
    | e :: s => if 0 ≤ O1 d ∧ 0 ≤ O1 e then (l8 s false).map fun x => (hx2 d e :: x.1, x.2) else none
  else if iA c then none else (l8 s (decide (c = 32))).map fun x => (c :: x.1, x.2)
def YB : Bool → List UInt8 → Option (List UInt8)
 | _, [] => some []
 | f, c :: s =>
  if c = 92 then
   match s with
   | [] => none
   | d :: s => if fB d then (YB false s).map (d :: ·) else
    match s with
    | [] => none
    | e :: s => if 0 ≤ O1 d ∧ 0 ≤ O1 e then (YB false s).map (hx2 d e :: ·) else none
  else if iA c || (f && (decide (c = 35) || decide (c = 32))) || (decide (s = []) && decide (c = 32)) then none else (YB false s).map (c :: ·)
theorem bV (c : UInt8) (s : List UInt8) (bl : Bool) : l8 (c :: s) bl = if c = 92 then
   match s with
   | [] => none
   | d :: s => if fB d then (l8 s false).map fun x => (d :: x.1, x.2) else
    match s with
    | [] => none
    | e :: s => if 0 ≤ O1 d ∧ 0 ≤ O1 e then (l8 s false).map fun x => (hx2 d e :: x.1, x.2) else none
  else if iA c then none else (l8 s (decide (c = 32))).map fun x => (c :: x.1, x.2) := by
 rw [l8.eq_def]
theorem WG (f : Bool) (c : UInt8) (s : List UInt8) : YB f (c :: s) = if c = 92 then
   match s with
   | [] => none
   | d :: s => if fB d then (YB false s).map (d :: ·) else
    match s with
    | [] => none
    | e :: s => if 0 ≤ O1 d ∧ 0 ≤ O1 e then (YB false s).map (hx2 d e :: ·) else none
  else if iA c || (f && (decide (c = 35) || decide (c = 32))) || (decide (s = []) && decide (c = 32)) then none else (YB false s).map (c :: ·) := by
 rw [YB.eq_def]
theorem Kn (N : Nat) (hN : 2 < N) : ∀ (k : Nat) (b a out : List UInt8) (bl : Bool) (n : Nat), b.length ≤ k → (a ++ b).length ≤ 1000000 → b.length < n → out.length ≤ a.length →
  H8 N (a ++ b) n (bl, (a.length : Int), out) = some (match l8 b bl with | some x => .inl (x.2, out ++ x.1) | none => .inr ([], false)) := by
 intro k
 induction k with
 | zero =>
  intro b a out bl n hk hs hn ho
  obtain rfl : b = [] := List.length_eq_zero_iff.1 (by omega)
  obtain ⟨n, rfl, _⟩ := fuel hn
  simp only [H8, KO]
  rw [CZ, cond_false]
  simp [l8]
 | succ k ih =>
  intro b a out bl n hk hs hn ho
  cases b with
  | nil =>
   obtain ⟨n, rfl, _⟩ := fuel hn
   simp only [H8, KO]
   rw [CZ, cond_false]
   simp [l8]
  | cons c b =>
   obtain ⟨n, rfl, hn'⟩ := fuel hn
   have hal : (a ++ c :: b).length = a.length + b.length + 1 := by simp; omega
   have e1 : a ++ c :: b = a ++ [c] ++ b := by simp
   have ha : a.length < 1000000 := by omega
   simp only [H8, KO, MI]
   rw [D9, cond_true, DD, Option.bind_some, Uw, is32, JM (i := a.length) (by omega), bV]
   by_cases hc : c = 92
   ·rw [decide_eq_true hc, cond_true, if_pos hc]
    have h32 : decide (c = 32) = false := by subst hc; decide
    rw [h32]
    cases b with
    | nil =>
     rw [M3, decide_eq_false (by simp), cond_false, Option.bind_some, cond_false, bC (by simp), Option.bind_some, JM (by omega), bC (by simp), Option.bind_some]
     rfl
    | cons d s =>
     have hd : (a ++ c :: d :: s)[a.length + 1]? = some d := by
      have := O4 (a ++ [c]) s d
      simp only [List.append_assoc, List.length_append, List.length_cons, List.length_nil] at this
      exact this
     rw [M3, decide_eq_true (by simp), cond_true, UN hd, Option.bind_some]
     unfold strings_IndexByte
     simp only [Option.bind_some]
     rw [show decide (Lib.indexByte ([44, 43, 34, 92, 60, 62, 59, 35, 61, 32] : List UInt8) d ≥ 0) = fB d from rfl]
     by_cases hm : fB d = true
     ·rw [hm, cond_true, if_pos rfl, KY (by simp; omega), Option.bind_some, JM (by omega)]
      have := ih s (a ++ [c, d]) (out ++ [d]) false n (by simp at hk; omega) (by simpa using hs) (by simp at hn; omega) (by simp; omega)
      have e : a ++ c :: d :: s = a ++ [c, d] ++ s := by simp
      have el : ((((a.length + 1 + 1 : Nat)) : Int)) = ((a ++ [c, d]).length : Int) := by simp; omega
      rw [e, el, this]
      cases l8 s false <;> simp
     ·have hm' : fB d = false := by simpa using hm
      rw [hm', cond_false, kM hd (by omega) hN, Option.bind_some, JM (by omega), if_neg (by simp)]
      cases s with
      | nil =>
       rw [bC (by simp), Option.bind_some]
       simp only
       cases decide (O1 d ≥ 0) <;> rfl
      | cons e s =>
       have he : (a ++ c :: d :: e :: s)[a.length + 1 + 1]? = some e := by
        have := O4 (a ++ [c, d]) s e
        simp only [List.append_assoc, List.length_append, List.length_cons, List.length_nil] at this
        exact this
       rw [kM he (by omega) hN, Option.bind_some]
       simp only
       by_cases h1 : 0 ≤ O1 d
       ·by_cases h2 : 0 ≤ O1 e
        ·rw [decide_eq_true h1, decide_eq_true h2, if_pos ⟨h1, h2⟩]
         simp only [Bool.not_true, cond_false, Option.bind_some]
         rw [KY (by simp; omega), Option.bind_some, JM (by omega)]
         have := ih s (a ++ [c, d, e]) (out ++ [hx2 d e]) false n (by simp at hk; omega) (by simpa using hs) (by simp at hn; omega) (by simp; omega)
         have e' : a ++ c :: d :: e :: s = a ++ [c, d, e] ++ s := by simp
         have el : ((((a.length + 1 + 1 + 1 : Nat)) : Int)) = ((a ++ [c, d, e]).length : Int) := by simp; omega
         rw [e', el]
         refine Eq.trans this ?_
         cases l8 s false <;> simp
        ·rw [decide_eq_true h1, decide_eq_false h2, if_neg (by simp [h2])]
         rfl
       ·rw [decide_eq_false h1, if_neg (by simp [h1])]
        rfl
   ·rw [decide_eq_false hc, cond_false, if_neg hc]
    unfold strings_IndexByte
    simp only [Option.bind_some]
    rw [show decide (Lib.indexByte ([44, 43, 34, 92, 60, 62, 59] : List UInt8) c ≥ 0) = iA c from rfl]
    by_cases hsp : iA c = true
    ·rw [hsp, cond_true, if_pos rfl]
    ·have hsp' : iA c = false := by simpa using hsp
     rw [hsp', cond_false, if_neg (by simp), KY (by simp; omega), Option.bind_some]
     have := ih b (a ++ [c]) (out ++ [c]) (decide (c = 32)) n (by simp at hk; omega) (by simpa using hs) (by simp at hn; omega) (by simp; omega)
     have el : ((((a.length + 1 : Nat)) : Int)) = ((a ++ [c]).length : Int) := by simp
     rw [e1, el, this]
     cases l8 b (decide (c = 32)) <;> simp
theorem at0 (a : List UInt8) : ((a.length : Int) == (0 : Int)) = decide (a = []) := by
 rw [Bool.eq_iff_iff]; cases a <;> simp; omega
theorem atEnd (a b : List UInt8) (c : UInt8) (h : (a ++ c :: b).length ≤ 1000000) : ((a.length : Int) == BQ (((a ++ c :: b).length : Int) - 1)) = decide (b = []) := by
 have hal : (a ++ c :: b).length = a.length + b.length + 1 := by simp; omega
 rw [aI (by omega) (by omega), hal, Bool.eq_iff_iff]
 cases b <;> simp
 omega
theorem uI (N : Nat) : ∀ (k : Nat) (b a out : List UInt8) (n : Nat), b.length ≤ k → (a ++ b).length ≤ 1000000 → b.length < n → out.length ≤ a.length →
  FB N (a ++ b) n ((a.length : Int), out) = some (match YB (decide (a = [])) b with | some x => .inl (out ++ x) | none => .inr ([], false)) := by
 intro k
 induction k with
 | zero =>
  intro b a out n hk hs hn ho
  obtain rfl : b = [] := List.length_eq_zero_iff.1 (by omega)
  obtain ⟨n, rfl, _⟩ := fuel hn
  simp only [FB, GV]
  rw [CZ, cond_false]
  simp [YB]
 | succ k ih =>
  intro b a out n hk hs hn ho
  cases b with
  | nil =>
   obtain ⟨n, rfl, _⟩ := fuel hn
   simp only [FB, GV]
   rw [CZ, cond_false]
   simp [YB]
  | cons c b =>
   obtain ⟨n, rfl, hn'⟩ := fuel hn
   have hal : (a ++ c :: b).length = a.length + b.length + 1 := by simp; omega
   have e1 : a ++ c :: b = a ++ [c] ++ b := by simp
   have ha : a.length < 1000000 := by omega
   simp only [FB, GV, I5]
   rw [D9, cond_true, DD, Option.bind_some, bne, Uw, iN, WG, at0, is35, is32, JM (i := a.length) (by omega), yX (i := a.length) (by omega)]
   by_cases hc : c = 92
   ·rw [decide_eq_true hc, Bool.not_true, cond_false, if_pos hc]
    cases b with
    | nil =>
     rw [M3, decide_eq_false (by simp), M3, decide_eq_false (by simp)]
     rfl
    | cons d s =>
     have hd : (a ++ c :: d :: s)[a.length + 1]? = some d := by
      have := O4 (a ++ [c]) s d
      simp only [List.append_assoc, List.length_append, List.length_cons, List.length_nil] at this
      exact this
     rw [M3, decide_eq_true (by simp), cond_true, UN hd]
     simp only [Option.bind_some, iN, is35, is61, is32, zQ]
     have hg : (bif iA d then some true else bif decide (d = 35) then some true else bif decide (d = 61) then some true else some (decide (d = 32))) = some (fB d) := by
      rw [Ls]
      cases iA d <;> cases decide (d = 35) <;> cases decide (d = 61) <;> cases decide (d = 32) <;> rfl
     rw [hg, Option.bind_some]
     by_cases hm : fB d = true
     ·rw [hm, cond_true, if_pos rfl, KY (by simp; omega), Option.bind_some, JM (i := a.length + 1) (by omega)]
      have := ih s (a ++ [c, d]) (out ++ [d]) n (by simp at hk; omega) (by simpa using hs) (by simp at hn; omega) (by simp; omega)
      have e : a ++ c :: d :: s = a ++ [c, d] ++ s := by simp
      have el : ((((a.length + 1 + 1 : Nat)) : Int)) = ((a ++ [c, d]).length : Int) := by simp; omega
      have hf : decide (a ++ [c, d] = []) = false := by simp
      rw [hf] at this
      rw [e, el, this]
      cases YB false s <;> simp
     ·have hm' : fB d = false := by simpa using hm
      rw [hm', cond_false, if_neg (by simp)]
      cases s with
      | nil =>
       rw [M3, decide_eq_false (by simp)]
       rfl
      | cons e s =>
       have he : (a ++ c :: d :: e :: s)[a.length + 2]? = some e := by
        have := O4 (a ++ [c, d]) s e
        simp only [List.append_assoc, List.length_append, List.length_cons, List.length_nil] at this
        exact this
       rw [M3, decide_eq_true (by simp), cond_true, UN he]
       simp only [Option.bind_some]
       by_cases h1 : 0 ≤ O1 d
       ·by_cases h2 : 0 ≤ O1 e
        ·rw [decide_eq_true h1, decide_eq_true h2, if_pos ⟨h1, h2⟩]
         simp only [cond_true, Option.bind_some]
         rw [KY (by simp; omega), Option.bind_some, JM (i := a.length + 2) (by omega), Vu h1 h2]
         have := ih s (a ++ [c, d, e]) (out ++ [hx2 d e]) n (by simp at hk; omega) (by simpa using hs) (by simp at hn; omega) (by simp; omega)
         have e' : a ++ c :: d :: e :: s = a ++ [c, d, e] ++ s := by simp
         have el : ((((a.length + 2 + 1 : Nat)) : Int)) = ((a ++ [c, d, e]).length : Int) := by simp; omega
         have hf : decide (a ++ [c, d, e] = []) = false := by simp
         rw [hf] at this
         rw [e', el, this]
         cases YB false s <;> simp
        ·rw [decide_eq_true h1, decide_eq_false h2, if_neg (by simp [h2])]
         rfl
       ·rw [decide_eq_false h1, if_neg (by simp [h1])]
        rfl
   ·rw [decide_eq_false hc, Bool.not_false, cond_true, if_neg hc, atEnd a b c hs]
    simp only [Option.bind_some]
    have hg : (bif iA c then some true else bif decide (a = []) then bif decide (c = 35) then some true else bif decide (c = 32) then some true else bif decide (b = []) then some (decide (c = 32)) else some false
      else bif decide (b = []) then some (decide (c = 32)) else some false) = some (iA c || (decide (a = []) && (decide (c = 35) || decide (c = 32))) || (decide (b = []) && decide (c = 32))) := by
     cases iA c <;> cases decide (a = []) <;> cases decide (c = 35) <;> cases decide (c = 32) <;> cases decide (b = []) <;> rfl
    rw [hg, Option.bind_some]
    cases hq : (iA c || (decide (a = []) && (decide (c = 35) || decide (c = 32))) || (decide (b = []) && decide (c = 32))) with
    | true => rw [cond_true, if_pos rfl]
    | false =>
     rw [cond_false, if_neg (by simp), KY (by simp; omega), Option.bind_some]
     have := ih b (a ++ [c]) (out ++ [c]) n (by simp at hk; omega) (by simpa using hs) (by simp at hn; omega) (by simp; omega)
     have el : ((((a.length + 1 : Nat)) : Int)) = ((a ++ [c]).length : Int) := by simp
     have hf : decide (a ++ [c] = []) = false := by simp
     rw [hf] at this
     rw [e1, el, this]
     cases YB false b <;> simp
theorem Dr {N : Nat} {s : List UInt8} (hs : s.length ≤ 1000000) (hN : s.length < N) : MV N s = some (match YB true s with | some v => (v, true) | none => ([], false)) := by
 unfold MV
 have := uI N s.length s [] [] N (Nat.le_refl _) hs hN (Nat.le_refl _)
 simp only [List.nil_append, List.length_nil, decide_true] at this
 rw [show ((0 : Int)) = ((0 : Nat) : Int) from rfl, this]
 cases YB true s <;> rfl
theorem un_pl : ∀ (k : Nat) (s : List UInt8), s.length ≤ k → (∀ v, YB false s = some v ↔ l8 s false = some (v, false)) ∧ (s ≠ [] → l8 s true = l8 s false) := by
 intro k
 induction k with
 | zero =>
  intro s hk
  obtain rfl : s = [] := List.length_eq_zero_iff.1 (by omega)
  exact ⟨by intro v; simp [YB, l8], fun h => absurd rfl h⟩
 | succ k ih =>
  intro s hk
  cases s with
  | nil => exact ⟨by intro v; simp [YB, l8], fun h => absurd rfl h⟩
  | cons c s =>
   refine ⟨?_, fun _ => by rw [bV, bV]⟩
   intro v
   have lift : ∀ (c : UInt8) (s : List UInt8), s.length ≤ k → ∀ v, ((YB false s).map (c :: ·) = some v ↔ ((l8 s false).map fun x => (c :: x.1, x.2)) = some (v, false)) := by
    intro c s hs v
    rw [Option.map_eq_some_iff, Option.map_eq_some_iff]
    constructor
    ·rintro ⟨w, h1, rfl⟩
     exact ⟨(w, false), ((ih s hs).1 w).1 h1, rfl⟩
    ·rintro ⟨⟨w, b⟩, h1, h2⟩
     simp only [Prod.mk.injEq] at h2
     obtain ⟨rfl, rfl⟩ := h2
     exact ⟨w, ((ih s hs).1 w).2 h1, rfl⟩
   rw [WG, bV]
   by_cases hc : c = 92
   ·rw [if_pos hc, if_pos hc]
    cases s with
    | nil => simp
    | cons d s =>
     simp only
     by_cases hm : fB d = true
     ·rw [if_pos hm, if_pos hm]
      exact lift d s (by simp at hk; omega) v
     ·rw [if_neg hm, if_neg hm]
      cases s with
      | nil => simp
      | cons e s =>
       simp only
       by_cases hh : 0 ≤ O1 d ∧ 0 ≤ O1 e
       ·rw [if_pos hh, if_pos hh]
        exact lift _ s (by simp at hk; omega) v
       ·rw [if_neg hh, if_neg hh]; simp
   ·rw [if_neg hc, if_neg hc]
    simp only [Bool.false_and, Bool.or_false]
    by_cases hsp : iA c = true
    ·rw [hsp]; simp
    ·have hsp' : iA c = false := by simpa using hsp
     rw [hsp']
     simp only [Bool.false_or]
     rw [if_neg (show ¬ (false = true) by simp)]
     by_cases h32 : c = 32
     ·rw [decide_eq_true h32, Bool.and_true]
      by_cases hs : s = []
      ·subst hs
       simp [l8]
      ·rw [decide_eq_false hs, if_neg (by simp), (ih s (by simp at hk; omega)).2 hs]
       exact lift c s (by simp at hk; omega) v
     ·rw [decide_eq_false h32, Bool.and_false, if_neg (by simp)]
      exact lift c s (by simp at hk; omega) v
theorem Dt (s : List UInt8) : YB true s = if s.head? = some 35 ∨ s.head? = some 32 then none else YB false s := by
 cases s with
 | nil => simp [YB]
 | cons c s =>
  rw [WG, WG]
  by_cases hc : c = 92
  ·subst hc
   rw [if_pos rfl, if_pos rfl, if_neg (by simp)]
  ·rw [if_neg hc, if_neg hc]
   by_cases h1 : c = 35
   ·subst h1; simp
   ·by_cases h2 : c = 32
    ·subst h2; simp
    ·simp [h1, h2]
theorem aX (N : Nat) (s : List UInt8) (c : UInt8) : strings_HasPrefix N s [c] = some (decide (s.head? = some c)) := by
 unfold strings_HasPrefix F6
 cases s with
 | nil => rfl
 | cons d s =>
  rw [decide_eq_true (by simp; omega), cond_true, show ((([c] : List UInt8).length : Nat) : Int) = ((1 : Nat) : Int) from rfl, VV (by simp)]
  simp
  rw [Bool.eq_iff_iff]; simp
theorem fQ {N : Nat} {s : List UInt8} (hs : s.length ≤ 1000000) (hN : s.length < N) (h2 : 2 < N) : ∃ w, UQ N s = some (match YB true s with | some v => (v, true) | none => (w, false)) := by
 unfold UQ
 rw [aX, aX, Dt]
 by_cases h35 : s.head? = some 35
 ·rw [decide_eq_true h35, if_pos (.inl h35)]
  exact ⟨[], rfl⟩
 ·rw [decide_eq_false h35]
  by_cases h32 : s.head? = some 32
  ·rw [decide_eq_true h32, if_pos (.inr h32)]
   exact ⟨[], rfl⟩
  ·rw [decide_eq_false h32, if_neg (by rintro (h | h); exact h35 h; exact h32 h)]
   simp only [Option.bind_some, cond_false]
   have := Kn N h2 s.length s [] [] false N (Nat.le_refl _) hs hN (Nat.le_refl _)
   simp only [List.nil_append, List.length_nil] at this
   rw [show ((0 : Int)) = ((0 : Nat) : Int) from rfl, this]
   have hup := (un_pl s.length s (Nat.le_refl _)).1
   cases hu : l8 s false with
   | none =>
    cases hp : YB false s with
    | none => exact ⟨[], rfl⟩
    | some v => rw [(hup v).1 hp] at hu; cases hu
   | some x =>
    obtain ⟨v, b⟩ := x
    cases b with
    | false =>
     rw [(hup v).2 hu]
     exact ⟨[], rfl⟩
    | true =>
     cases hp : YB false s with
     | none => exact ⟨v, rfl⟩
     | some v' => rw [(hup v').1 hp] at hu; cases hu
def YV (p : List UInt8) : Option AP := (ZQ p).bind fun x => (YB true x.2).map fun v => ⟨low x.1, v⟩
def ZR (p : List UInt8) : Option AP := (ZQ p).bind fun x => if (IR 44 p).length > 1 then none else (YB true x.2).map fun v => ⟨low x.1, v⟩
def UH (s : List UInt8) : Option (List AP) := ((IR 43 s).mapM YV).bind fun r => if KT r then some r else none
def qL (s : List UInt8) : Option (List AP) := ((IR 43 s).mapM ZR).bind fun r => if KT r then some r else none
theorem qO (p : List UInt8) (l : List (List UInt8)) (k : Nat) (h : ∀ x ∈ l, x.length ≤ k) : ∀ x ∈ TZ p l, x.length ≤ p.length + k := by
 intro x hx
 cases l with
 | nil => simp [TZ] at hx; subst hx; omega
 | cons y l =>
  simp only [TZ, List.mem_cons] at hx
  rcases hx with rfl | hx
  ·have := h y List.mem_cons_self; simp; omega
  ·have := h x (List.mem_cons_of_mem _ hx); omega
theorem NM (p : List UInt8) {l : List (List UInt8)} (h : l ≠ []) : (TZ p l).length = l.length := by cases l <;> simp_all [TZ]
theorem YP (sep : UInt8) : ∀ (k : Nat) (s : List UInt8), s.length ≤ k → (IR sep s).length ≤ s.length + 1 ∧ ∀ x ∈ IR sep s, x.length ≤ s.length := by
 intro k
 induction k with
 | zero =>
  intro s hs
  obtain rfl : s = [] := List.length_eq_zero_iff.1 (by omega)
  simp [IR]
 | succ k ih =>
  intro s hs
  cases s with
  | nil => simp [IR]
  | cons c s =>
   cases s with
   | nil =>
    unfold IR
    split
    ·simp
    ·split <;> simp
   | cons d s =>
    unfold IR
    split
    ·obtain ⟨h1, h2⟩ := ih s (by simp at hs; omega)
     refine ⟨by rw [NM _ (QG _ _)]; simp; omega, fun x hx => ?_⟩
     have := qO _ _ _ h2 x hx
     simp at this ⊢; omega
    ·obtain ⟨h1, h2⟩ := ih (d :: s) (by simp at hs ⊢; omega)
     split
     ·refine ⟨by simp at h1 ⊢; omega, fun x hx => ?_⟩
      rcases List.mem_cons.1 hx with rfl | hx
      ·simp
      ·have := h2 x hx; simp at this ⊢; omega
     ·refine ⟨by rw [NM _ (QG _ _)]; simp at h1 ⊢; omega, fun x hx => ?_⟩
      have := qO _ _ _ h2 x hx
      simp at this ⊢; omega
theorem Lf : ∀ (k : Nat) (f : Bool) (s v : List UInt8), s.length ≤ k → YB f s = some v → v.length ≤ s.length := by
 intro k
 induction k with
 | zero =>
  intro f s v hs h
  obtain rfl : s = [] := List.length_eq_zero_iff.1 (by omega)
  simp [YB] at h; subst h; simp
 | succ k ih =>
  intro f s v hs h
  cases s with
  | nil => simp [YB] at h; subst h; simp
  | cons c s =>
   rw [WG] at h
   have lift : ∀ (c : UInt8) (t w : List UInt8), t.length ≤ k → (YB false t).map (c :: ·) = some w → w.length ≤ t.length + 1 := by
    intro c t w ht hw
    rw [Option.map_eq_some_iff] at hw
    obtain ⟨u, h1, rfl⟩ := hw
    have := ih false t u ht h1
    simp; omega
   split at h
   ·cases s with
    | nil => cases h
    | cons d s =>
     simp only at h
     split at h
     ·have := lift _ _ _ (by simp at hs; omega) h; simp; omega
     ·cases s with
      | nil => cases h
      | cons e s =>
       simp only at h
       split at h
       ·have := lift _ _ _ (by simp at hs; omega) h; simp; omega
       ·cases h
   ·split at h
    ·cases h
    ·have := lift _ _ _ (by simp at hs; omega) h; simp; omega
theorem Lt (s : List UInt8) : (low s).length = s.length := by simp [low]
theorem kZ {p : List UInt8} {a : AP} (h : YV p = some a) : a.Attr.length ≤ p.length ∧ a.Value.length ≤ p.length := by
 unfold YV at h
 rw [Option.bind_eq_some_iff] at h
 obtain ⟨⟨x, v⟩, h1, h2⟩ := h
 rw [Option.map_eq_some_iff] at h2
 obtain ⟨w, h2, rfl⟩ := h2
 obtain ⟨e, _⟩ := WK h1
 have := Lf v.length true v w (Nat.le_refl _) h2
 rw [e]
 simp [Lt]
 omega
theorem mapM_len {α β : Type} {f : α → Option β} : ∀ {l : List α} {r : List β}, l.mapM f = some r → r.length = l.length ∧ ∀ b ∈ r, ∃ a ∈ l, f a = some b
 | [], r, h => by simp at h; subst h; simp
 | a :: l, r, h => by
  rw [List.mapM_cons] at h
  simp only [Option.bind_eq_bind, Option.bind_eq_some_iff] at h
  obtain ⟨b, h1, s, h2, h3⟩ := h
  cases h3
  obtain ⟨e1, e2⟩ := mapM_len h2
  refine ⟨by simp [e1], fun c hc => ?_⟩
  rcases List.mem_cons.1 hc with rfl | hc
  ·exact ⟨a, List.mem_cons_self, h1⟩
  ·obtain ⟨a', h4, h5⟩ := e2 c hc
   exact ⟨a', List.mem_cons_of_mem _ h4, h5⟩
theorem Dl (N : Nat) (hN : 1000000 < N) : ∀ (b a : List (List UInt8)) (out : List AP) (n : Nat), (a ++ b).length ≤ 1000001 → b.length < n → out.length = a.length → (∀ p ∈ b, p.length ≤ 1000000) →
  JS N (a ++ b) n ((a.length : Int), out) = some (match b.mapM YV with
   | some r => if 5 < (out ++ r).length ∧ b ≠ [] then .inr ([], 15) else .inl (out ++ r)
   | none => .inr ([], 15)) := by
 intro b
 induction b with
 | nil =>
  intro a out n hs hn ho _
  obtain ⟨n, rfl, _⟩ := fuel hn
  simp only [JS, O5]
  rw [CZ, cond_false]; simp
 | cons p b ih =>
  intro a out n hs hn ho hp
  obtain ⟨n, rfl, hn'⟩ := fuel hn
  have hal : (a ++ p :: b).length = a.length + b.length + 1 := by simp; omega
  have hpl := hp p List.mem_cons_self
  simp only [JS, O5]
  rw [D9, cond_true, DD, Option.bind_some, Kv hpl, Option.bind_some, DI (a := a) (b := b) (x := p) (by omega), List.mapM_cons]
  simp only [Option.bind_eq_bind]
  cases hc : ZQ p with
  | none =>
   have hav : YV p = none := by unfold YV; rw [hc]; rfl
   rw [hav]
   obtain ⟨w, hw⟩ := fQ (N := N) (s := []) (by simp) (by simp; omega) (by omega)
   rw [hw]
   rfl
  | some x =>
   obtain ⟨at', v⟩ := x
   obtain ⟨e, _⟩ := WK hc
   have hvl : v.length ≤ p.length ∧ at'.length ≤ p.length := by rw [e]; simp; omega
   obtain ⟨w, hw⟩ := fQ (N := N) (s := v) (by omega) (by omega) (by omega)
   simp only
   rw [hw, Option.bind_some]
   cases hpv : YB true v with
   | none =>
    have hav : YV p = none := by unfold YV; rw [hc, Option.bind_some]; simp only [hpv]; rfl
    rw [hav]; rfl
   | some val =>
    have hav : YV p = some ⟨low at', val⟩ := by unfold YV; rw [hc, Option.bind_some]; simp only [hpv]; rfl
    rw [hav]
    simp only [Bool.not_true, cond_false, Option.bind_some, Option.map_some]
    by_cases h5 : out.length > 4
    ·rw [decide_eq_true (by omega), cond_true]
     cases hm : b.mapM YV with
     | none => rfl
     | some r =>
      simp only [Option.bind_some, Option.pure_def]
      rw [if_pos ⟨by simp; omega, by simp⟩]
    ·rw [decide_eq_false (by omega), cond_false, lower_eq (by omega) (by omega), Option.bind_some, KY (by simp; omega), Option.bind_some]
     have := ih (a ++ [p]) (out ++ [⟨low at', val⟩]) n (by simpa using hs) hn' (by simp [ho]) (fun q hq => hp q (List.mem_cons_of_mem _ hq))
     rw [← EA] at this
     rw [this]
     cases hm : b.mapM YV with
     | none => rfl
     | some r =>
      simp only [Option.bind_some, Option.pure_def, List.append_assoc, List.cons_append, List.nil_append]
      by_cases hb : b = []
      ·subst hb
       simp at hm
       subst hm
       rw [if_neg (by simp), if_neg (by simp; omega)]
      ·by_cases h6 : 5 < (out ++ ⟨low at', val⟩ :: r).length
       ·rw [if_pos ⟨h6, hb⟩, if_pos ⟨h6, by simp⟩]
       ·rw [if_neg (fun h => h6 h.1), if_neg (fun h => h6 h.1)]
theorem jD : ∀ (r d : List AP), TS d r = true → ∀ a ∈ r, Iq a = true
 | [], _, _, a, ha => by simp at ha
 | x :: r, d, h, a, ha => by
  rw [TS, Bool.and_eq_true, Bool.and_eq_true] at h
  rcases List.mem_cons.1 ha with rfl | ha
  ·exact h.1
  ·exact jD r _ h.2.2 a ha
theorem qP {N : Nat} {s : List UInt8} (hs : s.length ≤ 1000000) (hN : 2000000 < N) (hN2 : N ≤ 9223372036854775808) : UR N s = some (match UH s with | some r => (r, 0) | none => ([], 15)) := by
 unfold UR UH
 rw [vI hs (by omega), Option.bind_some]
 obtain ⟨h1, h2⟩ := YP 43 s.length s (Nat.le_refl _)
 have := Dl N (by omega) (IR 43 s) [] [] N (by simpa using (by omega : (IR 43 s).length ≤ 1000001)) (by omega) rfl (fun p hp => by have := h2 p hp; omega)
 simp only [List.nil_append, List.length_nil] at this
 rw [show ((0 : Int)) = ((0 : Nat) : Int) from rfl, this]
 cases hm : (IR 43 s).mapM YV with
 | none => rfl
 | some r =>
  obtain ⟨hl, hb⟩ := mapM_len hm
  simp only [Option.bind_some]
  by_cases h5 : 5 < r.length
  ·rw [if_pos ⟨h5, QG _ _⟩]
   have : KT r = false := by unfold KT; rw [decide_eq_false (show ¬ r.length ≤ 4 by omega)]; simp
   rw [this]; rfl
  ·rw [if_neg (fun h => h5 h.1)]
   simp only [Sum.elim_inl]
   rw [rF hN2 (by omega) (by omega) (fun x hx => by
    obtain ⟨p, hp, hpa⟩ := hb x hx
    have h3 := kZ hpa
    have h4 := h2 p hp
    exact ⟨by omega, by omega⟩), Option.bind_some]
   cases KT r <;> rfl
theorem uK (N : Nat) (hN : 2000000 < N) (hN2 : N ≤ 9223372036854775808) : ∀ (b a : List (List UInt8)) (out : List (List AP)) (n : Nat), (a ++ b).length ≤ 1000001 → b.length < n → out.length = a.length → (∀ p ∈ b, p.length ≤ 1000000) → out.length ≤ 8 →
  M0 N (a ++ b) n ((a.length : Int), out) = some (match b.mapM UH with
   | some r => if 8 < (out ++ r).length then .inr ([], 15) else .inl (out ++ r)
   | none => .inr ([], 15)) := by
 intro b
 induction b with
 | nil =>
  intro a out n hs hn ho _ h8
  obtain ⟨n, rfl, _⟩ := fuel hn
  simp only [M0, QF]
  rw [CZ, cond_false]; simp; omega
 | cons p b ih =>
  intro a out n hs hn ho hp h8
  obtain ⟨n, rfl, hn'⟩ := fuel hn
  have hal : (a ++ p :: b).length = a.length + b.length + 1 := by simp; omega
  have hpl := hp p List.mem_cons_self
  simp only [M0, QF]
  rw [D9, cond_true, DD, Option.bind_some, qP hpl hN hN2, Option.bind_some, DI (a := a) (b := b) (x := p) (by omega), List.mapM_cons]
  simp only [Option.bind_eq_bind]
  cases hr : UH p with
  | none => rfl
  | some r =>
   simp only [Option.bind_some]
   by_cases he : out.length = 8
   ·rw [show ((out.length : Int) == 8) = true by rw [he]; rfl]
    cases hm : b.mapM UH with
    | none => rfl
    | some rs =>
     simp only [Option.bind_some, Option.pure_def]
     rw [if_pos (by simp; omega)]
     rfl
   ·rw [show ((out.length : Int) == 8) = false by rw [Bool.eq_false_iff]; simp; omega]
    have := ih (a ++ [p]) (out ++ [r]) n (by simpa using hs) hn' (by simp [ho]) (fun q hq => hp q (List.mem_cons_of_mem _ hq)) (by simp; omega)
    rw [← EA] at this
    simp only [bne, BEq.rfl, Bool.not_true, cond_false, Option.bind_some]
    rw [KY (by simp; omega), Option.bind_some, this]
    cases hm : b.mapM UH with
    | none => rfl
    | some rs => simp
def jN (s : List UInt8) : Option (List (List AP)) := if s = [] then some [] else ((IR 44 s).mapM UH).bind fun r => if r.length ≤ 8 then some r else none
theorem Dw {N : Nat} {s : List UInt8} (hs : s.length ≤ 1000000) (hN : 2000000 < N) (hN2 : N ≤ 9223372036854775808) : dJ N s = some (match jN s with | some r => (r, 0) | none => ([], 15)) := by
 unfold dJ jN
 by_cases h0 : s = []
 ·subst h0; rfl
 ·have : (s == ([] : List UInt8)) = false := by simpa using h0
  rw [this, cond_false, if_neg h0, vI hs (by omega), Option.bind_some]
  obtain ⟨h1, h2⟩ := YP 44 s.length s (Nat.le_refl _)
  have := uK N hN hN2 (IR 44 s) [] [] N (by simpa using (by omega : (IR 44 s).length ≤ 1000001)) (by omega) rfl (fun p hp => by have := h2 p hp; omega) (Nat.zero_le _)
  simp only [List.nil_append, List.length_nil] at this
  rw [show ((0 : Int)) = ((0 : Nat) : Int) from rfl, this]
  cases hm : (IR 44 s).mapM UH with
  | none => rfl
  | some r =>
   simp only [Option.bind_some]
   by_cases h8 : r.length ≤ 8
   ·rw [if_pos h8, if_neg (by omega)]; rfl
   ·rw [if_neg h8, if_pos (by omega)]; rfl
theorem Nq (N : Nat) (l : List (List UInt8)) (i : Nat) (o : List AP) : ∀ (b a : List UInt8) (n : Nat), l[i]? = some (a ++ b) → (a ++ b).length ≤ 1000000 → b.length < n →
  ER N l (i : Int) o n (a.length : Int) = some ((match ZQ b with | some y => a.length + y.1.length | none => (a ++ b).length : Nat) : Int) := by
 intro b
 induction b with
 | nil =>
  intro a n hl hs hn
  obtain ⟨n, rfl, _⟩ := fuel hn
  simp only [ER, GX]
  rw [UN hl, Option.bind_some, CZ]
  simp [ZQ]
 | cons c b ih =>
  intro a n hl hs hn
  obtain ⟨n, rfl, hn'⟩ := fuel hn
  simp only [ER, GX]
  rw [UN hl, Option.bind_some, D9, cond_true, DI (a := a) (b := b) (x := c) (by omega)]
  simp only [Option.bind_some, DD]
  rw [bne, is61, ZQ]
  by_cases hc : c = 61
  ·rw [decide_eq_true hc, if_pos hc]; simp
  ·rw [decide_eq_false hc, if_neg hc, Bool.not_false, cond_true, ih (a ++ [c]) n (by rw [hl]; simp) (by simpa using hs) hn']
   cases ZQ b with
   | none => simp
   | some y => simp; omega
theorem zK (N : Nat) (hN : 1000000 < N) : ∀ (b a : List (List UInt8)) (out : List AP) (n : Nat), (a ++ b).length ≤ 1000001 → b.length < n → out.length = a.length → (∀ p ∈ b, p.length ≤ 1000000) →
  ES N (a ++ b) n ((a.length : Int), out) = some (match b.mapM ZR with
   | some r => .inl (out ++ r)
   | none => .inr ([], false)) := by
 intro b
 induction b with
 | nil =>
  intro a out n hs hn ho _
  obtain ⟨n, rfl, _⟩ := fuel hn
  simp only [ES, GY]
  rw [CZ, cond_false]; simp
 | cons p b ih =>
  intro a out n hs hn ho hp
  obtain ⟨n, rfl, hn'⟩ := fuel hn
  have hal : (a ++ p :: b).length = a.length + b.length + 1 := by simp; omega
  have hpl := hp p List.mem_cons_self
  have hq := Nq N (a ++ p :: b) a.length out p [] N (by simp) (by simpa using hpl) (by omega)
  simp only [List.nil_append, List.length_nil, Nat.zero_add] at hq
  simp only [ES, GY]
  rw [D9, cond_true, show ((0 : Int)) = ((0 : Nat) : Int) from rfl, hq, Option.bind_some, DI (a := a) (b := b) (x := p) (by omega), List.mapM_cons]
  simp only [DD, Option.bind_some, Option.bind_eq_bind]
  cases hc : ZQ p with
  | none =>
   have hav : ZR p = none := by unfold ZR; rw [hc]; rfl
   rw [hav]
   simp
  | some x =>
   obtain ⟨at', v⟩ := x
   obtain ⟨e, _⟩ := WK hc
   have hvl : p.length = at'.length + v.length + 1 := by rw [e]; simp; omega
   simp only
   rw [show ((at'.length : Int) == (p.length : Int)) = false by rw [Bool.eq_false_iff]; simp; omega, cond_false, o7 hpl (by omega), Option.bind_some, Option.bind_some]
   by_cases h1 : (IR 44 p).length > 1
   ·have hav : ZR p = none := by unfold ZR; rw [hc, Option.bind_some, if_pos h1]
    rw [hav, decide_eq_true (by omega)]
    rfl
   ·rw [decide_eq_false (by omega), cond_false, JM (by omega), TH (by omega), Option.bind_some]
    have hdv : p.drop (at'.length + 1) = v := by rw [e, EA, List.drop_left' (by simp)]
    rw [hdv, Dr (by omega) (by omega), Option.bind_some]
    cases hpv : YB true v with
    | none =>
     have hav : ZR p = none := by unfold ZR; rw [hc, Option.bind_some, if_neg h1]; simp only [hpv]; rfl
     rw [hav]; rfl
    | some val =>
     have hav : ZR p = some ⟨low at', val⟩ := by unfold ZR; rw [hc, Option.bind_some, if_neg h1]; simp only [hpv]; rfl
     rw [hav]
     simp only [Bool.not_true, cond_false]
     have htv : p.take at'.length = at' := by rw [e, List.take_left' rfl]
     rw [VV (by omega), Option.bind_some, htv, mF (by omega) (by omega), Option.bind_some, KY (by simp; omega), Option.bind_some]
     have := ih (a ++ [p]) (out ++ [⟨low at', val⟩]) n (by simpa using hs) hn' (by simp [ho]) (fun q hq => hp q (List.mem_cons_of_mem _ hq))
     rw [← EA] at this
     rw [this]
     cases hm : b.mapM ZR with
     | none => rfl
     | some r => simp
theorem Ir {p : List UInt8} {a : AP} (h : ZR p = some a) : YV p = some a := by
 unfold ZR at h
 unfold YV
 rw [Option.bind_eq_some_iff] at h ⊢
 obtain ⟨x, h1, h2⟩ := h
 split at h2
 ·cases h2
 ·exact ⟨x, h1, h2⟩
theorem nZ {N : Nat} {s : List UInt8} (hs : s.length ≤ 1000000) (hN : 2000000 < N) (hN2 : N ≤ 9223372036854775808) : KH N s = some (match qL s with | some r => (r, true) | none => ([], false)) := by
 unfold KH qL
 rw [o7 hs (by omega), Option.bind_some]
 obtain ⟨h1, h2⟩ := YP 43 s.length s (Nat.le_refl _)
 have := zK N (by omega) (IR 43 s) [] [] N (by simpa using (by omega : (IR 43 s).length ≤ 1000001)) (by omega) rfl (fun p hp => by have := h2 p hp; omega)
 simp only [List.nil_append, List.length_nil] at this
 rw [show ((0 : Int)) = ((0 : Nat) : Int) from rfl, this]
 cases hm : (IR 43 s).mapM ZR with
 | none => rfl
 | some r =>
  obtain ⟨hl, hb⟩ := mapM_len hm
  simp only [Option.bind_some, Sum.elim_inl]
  rw [eZ hN2 (by omega) (fun x hx => by
    obtain ⟨p, hp, hpa⟩ := hb x hx
    have h3 := kZ (Ir hpa)
    have h4 := h2 p hp
    exact ⟨by omega, by omega⟩), Option.bind_some]
  cases KT r <;> rfl
theorem jO {α β : Type} {f g : α → Option β} : ∀ {l : List α} {r : List β}, l.mapM f = some r → (∀ a b, a ∈ l → b ∈ r → f a = some b → g a = some b) → l.mapM g = some r
 | [], r, h, _ => by simpa using h
 | a :: l, r, h, k => by
  rw [List.mapM_cons] at h ⊢
  simp only [Option.bind_eq_bind, Option.bind_eq_some_iff] at h ⊢
  obtain ⟨b, h1, s, h2, h3⟩ := h
  cases h3
  exact ⟨b, k a b List.mem_cons_self List.mem_cons_self h1, s, jO h2 fun a' b' ha hb => k a' b' (List.mem_cons_of_mem _ ha) (List.mem_cons_of_mem _ hb), rfl⟩
theorem Qm (c : UInt8) (h : tQ (oF c) = true) : c ≠ 92 ∧ c ≠ 44 ∧ c ≠ 43 ∧ c ≠ 61 := by
 have := K7 (p := fun c => !tQ (oF c) || (decide (c ≠ 92) && decide (c ≠ 44) && decide (c ≠ 43) && decide (c ≠ 61))) (by decide +kernel) c
 simp only [h, Bool.not_true, Bool.false_or, Bool.and_eq_true, decide_eq_true_eq] at this
 exact ⟨this.1.1.1, this.1.1.2, this.1.2, this.2⟩
theorem Ck {s : List UInt8} (h : QD (low s) = true) : ∀ c ∈ s, c ≠ 92 ∧ c ≠ 44 ∧ c ≠ 43 ∧ c ≠ 61 := by
 intro c hc
 have : (low s).all tQ = true := by
  unfold QD at h
  split at h
  ·cases h
  ·rename_i e
   rw [e]
   simp only [Bool.and_eq_true] at h
   exact h.2.2
 have h2 := List.all_eq_true.1 this (oF c) (List.mem_map.2 ⟨c, hc, rfl⟩)
 exact Qm c h2
theorem nH (sep : UInt8) : ∀ (a v : List UInt8), (∀ c ∈ a, c ≠ 92 ∧ c ≠ sep) → IR sep (a ++ v) = TZ a (IR sep v)
 | [], v, _ => by rw [List.nil_append, jH (QG _ _)]
 | c :: a, v, h => by
  rw [List.cons_append, U4 (h c List.mem_cons_self).1 (h c List.mem_cons_self).2, nH sep a v fun d hd => h d (List.mem_cons_of_mem _ hd), jG]
  rfl
theorem yL (c : UInt8) (h : 0 ≤ O1 c) : c ≠ 92 ∧ c ≠ 44 := by
 have := K7 (p := fun c => !decide (0 ≤ O1 c) || (decide (c ≠ 92) && decide (c ≠ 44))) (by decide +kernel) c
 simp only [decide_eq_true h, Bool.not_true, Bool.false_or, Bool.and_eq_true, decide_eq_true_eq] at this
 exact this
theorem Ct (c : UInt8) (h : iA c = false) : c ≠ 92 ∧ c ≠ 44 := by
 have := K7 (p := fun c => iA c || (decide (c ≠ 92) && decide (c ≠ 44))) (by decide +kernel) c
 simp only [h, Bool.false_or, Bool.and_eq_true, decide_eq_true_eq] at this
 exact this
theorem Qq : ∀ (k : Nat) (f : Bool) (s v : List UInt8), s.length ≤ k → YB f s = some v → (IR 44 s).length = 1 := by
 intro k
 induction k with
 | zero =>
  intro f s v hs h
  obtain rfl : s = [] := List.length_eq_zero_iff.1 (by omega)
  rfl
 | succ k ih =>
  intro f s v hs h
  cases s with
  | nil => rfl
  | cons c s =>
   rw [WG] at h
   split at h
   ·rename_i hc
    subst hc
    cases s with
    | nil => cases h
    | cons d s =>
     simp only at h
     rw [Nt, NM _ (QG _ _)]
     split at h
     ·rw [Option.map_eq_some_iff] at h
      obtain ⟨w, h1, _⟩ := h
      exact ih false s w (by simp at hs; omega) h1
     ·cases s with
      | nil => cases h
      | cons e s =>
       simp only at h
       split at h
       ·rename_i hh
        rw [Option.map_eq_some_iff] at h
        obtain ⟨w, h1, _⟩ := h
        rw [U4 (yL e hh.2).1 (yL e hh.2).2, NM _ (QG _ _)]
        exact ih false s w (by simp at hs; omega) h1
       ·cases h
   ·split at h
    ·cases h
    ·rename_i hc hq
     rw [Option.map_eq_some_iff] at h
     obtain ⟨w, h1, _⟩ := h
     have hs' : iA c = false := by
      cases hh : iA c with
      | false => rfl
      | true => rw [hh] at hq; simp at hq
     rw [U4 (Ct c hs').1 (Ct c hs').2, NM _ (QG _ _)]
     exact ih false s w (by simp at hs; omega) h1
theorem Wm {p : List UInt8} {a : AP} (h : YV p = some a) (ht : QD a.Attr = true) : ZR p = some a := by
 unfold YV at h
 unfold ZR
 rw [Option.bind_eq_some_iff] at h ⊢
 obtain ⟨⟨x, v⟩, h1, h2⟩ := h
 refine ⟨(x, v), h1, ?_⟩
 rw [Option.map_eq_some_iff] at h2
 obtain ⟨w, h3, h4⟩ := h2
 have hx : ∀ c ∈ x, c ≠ 92 ∧ c ≠ 44 ∧ c ≠ 43 ∧ c ≠ 61 := by
  rw [← h4] at ht
  exact Ck ht
 have hl : (IR 44 p).length = 1 := by
  obtain ⟨e, _⟩ := WK h1
  rw [e, nH 44 x _ (fun c hc => ⟨(hx c hc).1, (hx c hc).2.1⟩), NM _ (QG _ _), U4 (by decide) (by decide), NM _ (QG _ _)]
  exact Qq v.length true v w (Nat.le_refl _) h3
 rw [if_neg (by omega), Option.map_eq_some_iff]
 exact ⟨w, h3, h4⟩
theorem oK {r : List AP} (h : KT r = true) : ∀ a ∈ r, QD a.Attr = true := by
 unfold KT at h
 simp only [Bool.and_eq_true] at h
 intro a ha
 have := jD r [] h.2.2 a ha
 unfold Iq at this
 simp only [Bool.and_eq_true] at this
 exact this.1
theorem Dk (s : List UInt8) : qL s = UH s := by
 have h1 : ∀ r, qL s = some r → UH s = some r := by
  intro r h
  unfold qL at h
  unfold UH
  rw [Option.bind_eq_some_iff] at h ⊢
  obtain ⟨l, h1, h2⟩ := h
  exact ⟨l, jO h1 fun _ _ _ _ => Ir, h2⟩
 have h2 : ∀ r, UH s = some r → qL s = some r := by
  intro r h
  unfold UH at h
  unfold qL
  rw [Option.bind_eq_some_iff] at h ⊢
  obtain ⟨l, h1, h2⟩ := h
  split at h2
  ·rename_i hr
   have e : l = r := by simpa using h2
   subst e
   exact ⟨l, jO h1 fun p a _ ha h => Wm h (oK hr a ha), by rw [if_pos hr]⟩
  ·cases h2
 cases h : UH s with
 | some r => exact h2 r h
 | none =>
  cases h' : qL s with
  | none => rfl
  | some r => rw [h1 r h'] at h; cases h
theorem qH (N : Nat) (hN : 2000000 < N) (hN2 : N ≤ 9223372036854775808) : ∀ (b a : List (List UInt8)) (out : List (List AP)) (n : Nat), (a ++ b).length ≤ 1000001 → b.length < n → out.length = a.length → (∀ p ∈ b, p.length ≤ 1000000) →
  FL N (a ++ b) n ((a.length : Int), out) = some (match b.mapM UH with
   | some r => .inl (out ++ r)
   | none => .inr ([], false)) := by
 intro b
 induction b with
 | nil =>
  intro a out n hs hn ho _
  obtain ⟨n, rfl, _⟩ := fuel hn
  simp only [FL, IV]
  rw [CZ, cond_false]; simp
 | cons p b ih =>
  intro a out n hs hn ho hp
  obtain ⟨n, rfl, hn'⟩ := fuel hn
  have hal : (a ++ p :: b).length = a.length + b.length + 1 := by simp; omega
  have hpl := hp p List.mem_cons_self
  simp only [FL, IV]
  rw [D9, cond_true, DD, Option.bind_some, nZ hpl hN hN2, Option.bind_some, DI (a := a) (b := b) (x := p) (by omega), List.mapM_cons, Dk]
  simp only [Option.bind_eq_bind]
  cases hr : UH p with
  | none => rfl
  | some r =>
   have := ih (a ++ [p]) (out ++ [r]) n (by simpa using hs) hn' (by simp [ho]) (fun q hq => hp q (List.mem_cons_of_mem _ hq))
   rw [← EA] at this
   simp only [Bool.not_true, cond_false, Option.bind_some]
   rw [KY (by simp; omega), Option.bind_some, this]
   cases hm : b.mapM UH with
   | none => rfl
   | some rs => simp
theorem Lb {s : List UInt8} {r : List AP} (h : UH s = some r) : KT r = true := by
 unfold UH at h
 rw [Option.bind_eq_some_iff] at h
 obtain ⟨l, _, h2⟩ := h
 split at h2
 ·rename_i hr; cases h2; exact hr
 ·cases h2
theorem La {s : List UInt8} {r : List AP} {N : Nat} (h : UH s = some r) (hs : s.length ≤ 1000000) (hN : 2000000 < N) : r.length < N ∧ ∀ x ∈ r, Qt N x := by
 unfold UH at h
 rw [Option.bind_eq_some_iff] at h
 obtain ⟨l, h1, h2⟩ := h
 split at h2
 ·cases h2
  obtain ⟨h3, h4⟩ := mapM_len h1
  obtain ⟨h5, h6⟩ := YP 43 s.length s (Nat.le_refl _)
  refine ⟨by omega, fun x hx => ?_⟩
  obtain ⟨p, hp, hpa⟩ := h4 x hx
  have h7 := kZ hpa
  have h8 := h6 p hp
  exact ⟨by omega, by omega⟩
 ·cases h2
theorem zL {N : Nat} {s : List UInt8} (hs : s.length ≤ 1000000) (hN : 2000000 < N) (hN2 : N ≤ 9223372036854775808) : MW N s = some (match jN s with | some r => (r, true) | none => ([], false)) := by
 unfold MW jN
 by_cases h0 : s = []
 ·subst h0; rfl
 ·have : (s == ([] : List UInt8)) = false := by simpa using h0
  rw [this, cond_false, if_neg h0, o7 hs (by omega), Option.bind_some]
  obtain ⟨h1, h2⟩ := YP 44 s.length s (Nat.le_refl _)
  have := qH N hN hN2 (IR 44 s) [] [] N (by simpa using (by omega : (IR 44 s).length ≤ 1000001)) (by omega) rfl (fun p hp => by have := h2 p hp; omega)
  simp only [List.nil_append, List.length_nil] at this
  rw [show ((0 : Int)) = ((0 : Nat) : Int) from rfl, this]
  cases hm : (IR 44 s).mapM UH with
  | none => rfl
  | some r =>
   obtain ⟨h3, h4⟩ := mapM_len hm
   simp only [Option.bind_some, Sum.elim_inl]
   rw [Qp hN2 (by omega) (fun x hx => by
    obtain ⟨p, hp, hpa⟩ := h4 x hx
    exact La hpa (by have := h2 p hp; omega) hN), Option.bind_some]
   have hall : r.all KT = true := List.all_eq_true.2 fun x hx => by
    obtain ⟨p, hp, hpa⟩ := h4 x hx
    exact Lb hpa
   unfold isS
   rw [hall, Bool.and_true]
   by_cases h8 : r.length ≤ 8
   ·rw [if_pos h8, decide_eq_true h8]; rfl
   ·rw [if_neg h8, decide_eq_false h8]; rfl
def zT (c : UInt8) : Bool := decide (32 ≤ c.toNat) && decide (c.toNat ≤ 126)
def Kc (c : UInt8) : Bool := decide (48 ≤ c.toNat) && decide (c.toNat ≤ 57)
def Ox (c : UInt8) : Bool := decide (c ≠ 32)
theorem pr_c (c : UInt8) : (bif decide (((c).toNat : Int) < (32 : Int)) then some true else some (decide (((c).toNat : Int) > (126 : Int)))) = some (!zT c) := by
 have := K7 (p := fun c => (bif decide (((c).toNat : Int) < (32 : Int)) then some true else some (decide (((c).toNat : Int) > (126 : Int)))) == some (!zT c)) (by decide +kernel) c
 simpa using this
theorem pr_c2 (c : UInt8) : (bif decide (((c).toNat : Int) ≥ (32 : Int)) then some (decide (((c).toNat : Int) ≤ (126 : Int))) else some false) = some (zT c) := by
 have := K7 (p := fun c => (bif decide (((c).toNat : Int) ≥ (32 : Int)) then some (decide (((c).toNat : Int) ≤ (126 : Int))) else some false) == some (zT c)) (by decide +kernel) c
 simpa using this
theorem dg_c (c : UInt8) : (bif decide (((c).toNat : Int) < (48 : Int)) then some true else some (decide (((c).toNat : Int) > (57 : Int)))) = some (!Kc c) := by
 have := K7 (p := fun c => (bif decide (((c).toNat : Int) < (48 : Int)) then some true else some (decide (((c).toNat : Int) > (57 : Int)))) == some (!Kc c)) (by decide +kernel) c
 simpa using this
theorem is48 (c : UInt8) : (((c).toNat : Int) == (48 : Int)) = decide (c = 48) := by
 have := K7 (p := fun c => (((c).toNat : Int) == (48 : Int)) == decide (c = 48)) (by decide +kernel) c
 simpa using this
theorem is45 (c : UInt8) : (((c).toNat : Int) == (45 : Int)) = decide (c = 45) := by
 have := K7 (p := fun c => (((c).toNat : Int) == (45 : Int)) == decide (c = 45)) (by decide +kernel) c
 simpa using this
theorem nb_c (c : UInt8) : (((c).toNat : Int) != (32 : Int)) = Ox c := by
 have := K7 (p := fun c => (((c).toNat : Int) != (32 : Int)) == Ox c) (by decide +kernel) c
 simpa using this
theorem qA (N : Nat) : ∀ (b a : List UInt8) (n : Nat), (a ++ b).length ≤ 9223372036854775807 → b.length < n →
  J6 N (a ++ b) n (a.length : Int) = some (bif b.all zT then .inl () else .inr false) := by
 intro b
 induction b with
 | nil =>
  intro a n hs hn
  obtain ⟨n, rfl, _⟩ := fuel hn
  simp only [J6, MS]
  rw [CZ, cond_false]; rfl
 | cons c b ih =>
  intro a n hs hn
  obtain ⟨n, rfl, hn'⟩ := fuel hn
  simp only [J6, MS]
  rw [D9, cond_true, dM, Option.bind_some, O4, Option.bind_some, pr_c, Option.bind_some, DI hs]
  have := ih (a ++ [c]) n (by simpa using hs) hn'
  rw [← EA] at this
  rw [this, List.all_cons]
  cases zT c <;> rfl
theorem zD {N : Nat} {s : List UInt8} (hs : s.length ≤ 9223372036854775807) (hN : s.length < N) : SS N s = some (s.all zT) := by
 unfold SS
 have := qA N s [] N hs hN
 simp only [List.nil_append, List.length_nil] at this
 rw [show ((0 : Int)) = ((0 : Nat) : Int) from rfl, this]
 cases s.all zT <;> rfl
theorem tT (N : Nat) : ∀ (l : List UInt8) (n : Nat), l.length ≤ 9223372036854775807 → l.length < n → FI N 32 n l.reverse = some (l.dropWhile (fun c => decide (c = 32))).reverse := by
 intro l
 induction l with
 | nil =>
  intro n _ hn
  obtain ⟨n, rfl, _⟩ := fuel hn
  rfl
 | cons c l ih =>
  intro n hs hn
  obtain ⟨n, rfl, hn'⟩ := fuel hn
  have hlen : ((c :: l).reverse.length : Int) = (l.length : Int) + 1 := by simp
  simp only [FI, JN]
  rw [hlen, decide_eq_true (by omega), cond_true, aI (by simp at hs; omega) (by simp at hs; omega), show (l.length : Int) + 1 - 1 = (l.length : Int) by omega, dH, List.reverse_cons]
  have hg : (l.reverse ++ [c])[l.length]? = some c := by
   simp
  rw [hg, Option.bind_some, Option.bind_some, show (((32 : UInt8)).toNat : Int) = (32 : Int) from rfl, is32]
  by_cases hc : c = 32
  ·rw [decide_eq_true hc, cond_true, VV (by simp), Option.bind_some]
   have ht : (l.reverse ++ [c]).take l.length = l.reverse := List.take_left' (by simp)
   rw [ht, ih n (by simp at hs; omega) hn']
   simp [hc]
  ·rw [decide_eq_false hc, cond_false]
   simp [hc]
theorem tV (N : Nat) : ∀ (l : List UInt8) (n : Nat), l.length < n → FT N 32 n l = some (l.dropWhile (fun c => decide (c = 32))) := by
 intro l
 induction l with
 | nil =>
  intro n hn
  obtain ⟨n, rfl, _⟩ := fuel hn
  rfl
 | cons c l ih =>
  intro n hn
  obtain ⟨n, rfl, hn'⟩ := fuel hn
  simp only [FT, K8]
  rw [decide_eq_true (by simp), cond_true, show CQ (c :: l) (0 : Int) = some c from rfl, Option.bind_some, Option.bind_some, show (((32 : UInt8)).toNat : Int) = (32 : Int) from rfl, is32]
  by_cases hc : c = 32
  ·rw [decide_eq_true hc, cond_true, show ((1 : Int)) = ((1 : Nat) : Int) from rfl, TH (by simp), Option.bind_some]
   simp only [List.drop_succ_cons, List.drop_zero]
   rw [ih n hn']
   simp [hc]
  ·rw [decide_eq_false hc, cond_false]
   simp [hc]
theorem Hm (p : UInt8 → Bool) : ∀ l : List UInt8, l.dropWhile p = [] ↔ ∀ x ∈ l, p x = true
 | [] => by simp
 | c :: l => by
  cases h : p c with
  | true => rw [List.dropWhile_cons, h]; simp [Hm p l, h]
  | false => rw [List.dropWhile_cons, h]; simp [h]
theorem Ho (p : UInt8 → Bool) : ∀ l : List UInt8, (∀ x ∈ l.dropWhile p, p x = true) ↔ ∀ x ∈ l, p x = true
 | [] => by simp
 | c :: l => by
  cases h : p c with
  | true => rw [List.dropWhile_cons, h]; simp only [if_true]; rw [Ho p l]; simp [h]
  | false => rw [List.dropWhile_cons, h]; simp [h]
theorem Kr {N : Nat} {s : List UInt8} (hs : s.length ≤ 9223372036854775807) (hN : s.length < N) : ∃ t, SQ N s [32] = some t ∧ (t == ([] : List UInt8)) = !s.any Ox := by
 unfold SQ
 by_cases h0 : s = []
 ·subst h0; exact ⟨[], rfl, rfl⟩
 ·rw [show (s == ([] : List UInt8)) = false by simpa using h0]
  refine ⟨(((s.reverse.dropWhile (fun c => decide (c = 32))).reverse).dropWhile (fun c => decide (c = 32))), ?_, ?_⟩
  ·simp only [cond_false, Option.bind_some, show ([32] == ([] : List UInt8)) = false from rfl, show ((([32] : List UInt8).length : Int) == (1 : Int)) = true from rfl, cond_true, show CQ [(32 : UInt8)] (0 : Int) = some 32 from rfl, show decide ((((32 : UInt8)).toNat : Int) < (128 : Int)) = true from by decide]
   unfold strings_trimRightByte strings_trimLeftByte
   have := tT N s.reverse N (by simpa using hs) (by simpa using hN)
   rw [List.reverse_reverse] at this
   rw [this, Option.bind_some, Option.bind_some, tV N _ N (by
    have := (List.dropWhile_sublist (fun c => decide (c = 32)) (l := s.reverse)).length_le
    simp at this ⊢; omega)]
   rfl
  ·rw [Bool.eq_iff_iff, beq_iff_eq, Hm]
   have h1 : (∀ x ∈ (s.reverse.dropWhile (fun c => decide (c = 32))).reverse, decide (x = 32) = true) ↔ ∀ x ∈ s, decide (x = 32) = true := by
    have := Ho (fun c => decide (c = 32)) s.reverse
    simp only [List.mem_reverse] at this ⊢
    exact this
   rw [h1]
   simp [Ox]
def fD (s d : List UInt8) : Bool := match d with
 | [] => false
 | c :: t => decide (t.length < 15) && (!(decide (c = 48) && !(s == ([48] : List UInt8))) && (c :: t).all Kc)
def pY : List UInt8 → List UInt8
 | 45 :: d => d
 | s => s
theorem pX {c : UInt8} {s : List UInt8} (h : c ≠ 45) : pY (c :: s) = c :: s := by
 unfold pY
 split
 ·rename_i e; injection e with e1 _; exact absurd e1 h
 ·rfl
theorem Kt (N : Nat) (s : List UInt8) (hs : s.length ≤ 9223372036854775807) : strings_TrimPrefix N s [45] = some (pY s) := by
 unfold strings_TrimPrefix HY
 have hp := aX N s 45
 unfold strings_HasPrefix at hp
 have hp' : F6 N s [45] = some (decide (s.head? = some 45)) := by
  rw [Option.bind_eq_some_iff] at hp
  obtain ⟨a, h1, h2⟩ := hp
  rw [h1]; exact h2
 rw [hp']
 simp only [Option.bind_some]
 cases s with
 | nil => rfl
 | cons c s =>
  by_cases hc : c = 45
  ·subst hc
   rw [decide_eq_true (by simp), cond_true, show ((([45] : List UInt8).length : Int)) = ((1 : Nat) : Int) from rfl, TH (by simp)]
   rfl
  ·rw [decide_eq_false (by simpa using hc), cond_false, pX hc]
   rfl
def jY (s : List UInt8) : Bool := fD s (pY s)
theorem Fv (N : Nat) : ∀ (b a : List UInt8) (n : Nat), (a ++ b).length ≤ 9223372036854775807 → b.length < n →
  GL N (a ++ b) n (a.length : Int) = some (bif b.all Kc then .inl () else .inr false) := by
 intro b
 induction b with
 | nil =>
  intro a n hs hn
  obtain ⟨n, rfl, _⟩ := fuel hn
  simp only [GL, LP]
  rw [CZ, cond_false]; rfl
 | cons c b ih =>
  intro a n hs hn
  obtain ⟨n, rfl, hn'⟩ := fuel hn
  simp only [GL, LP]
  rw [D9, cond_true, dM, Option.bind_some, O4, Option.bind_some, dg_c, Option.bind_some, DI hs]
  have := ih (a ++ [c]) n (by simpa using hs) hn'
  rw [← EA] at this
  rw [this, List.all_cons]
  cases Kc c <;> rfl
theorem Fs {N : Nat} {s : List UInt8} (hs : s.length ≤ 9223372036854775807) (hN : s.length < N) : SV N s = some (jY s) := by
 have key : ∀ d : List UInt8, d.length ≤ s.length → (Option.bind (
   bif (d == ([] : List UInt8)) then
    some true
   else
    bif decide ((d.length : Int) > (15 : Int)) then
     some true
    else
     Option.bind (CQ d (0 : Int)) fun (EC : UInt8) =>
     bif (((EC).toNat : Int) == (48 : Int)) then
      some (!(s == ([48] : List UInt8)))
     else
      some false
  ) fun (g1 : Bool) =>
 bif g1 then
  some false
 else
  Option.bind (GL N d N 0) fun (LC : Unit ⊕ Bool) =>
  Sum.elim (fun (LC : Unit) =>
    some true
   ) (fun (LC : Bool) =>
    some LC
   ) LC) = some (fD s d) := by
  intro d hd
  cases d with
  | nil => rfl
  | cons c t =>
   have hl := Fv N (c :: t) [] N (by simp at hd ⊢; omega) (by simp at hd ⊢; omega)
   simp only [List.nil_append, List.length_nil] at hl
   rw [show (c :: t == ([] : List UInt8)) = false from rfl, cond_false, show CQ (c :: t) (0 : Int) = some c from rfl, Option.bind_some, is48, show ((0 : Int)) = ((0 : Nat) : Int) from rfl, hl]
   unfold fD
   simp only
   by_cases h15 : t.length < 15
   ·rw [decide_eq_false (by simp; omega), decide_eq_true h15]
    cases decide (c = 48) <;> cases (s == ([48] : List UInt8)) <;> cases (c :: t).all Kc <;> rfl
   ·rw [decide_eq_true (by simp; omega), decide_eq_false h15]
    rfl
 unfold SV
 rw [Kt N s hs, Option.bind_some, key _ (by unfold pY; split <;> simp)]
 rfl
theorem zO (N : Nat) : ∀ (b a : List UInt8) (n : Nat), (a ++ b).length ≤ 9223372036854775807 → b.length < n →
  FO N (a ++ b) n (a.length : Int) = some (bif b.all Kc then .inl () else .inr false) := by
 intro b
 induction b with
 | nil =>
  intro a n hs hn
  obtain ⟨n, rfl, _⟩ := fuel hn
  simp only [FO, IZ]
  rw [CZ, cond_false]; rfl
 | cons c b ih =>
  intro a n hs hn
  obtain ⟨n, rfl, hn'⟩ := fuel hn
  simp only [FO, IZ]
  rw [D9, cond_true]
  simp only [DD, Option.bind_some]
  rw [dg_c, Option.bind_some, DI hs]
  have := ih (a ++ [c]) n (by simpa using hs) hn'
  rw [← EA] at this
  rw [this, List.all_cons]
  cases Kc c <;> rfl
def wL (d : List UInt8) : Bool := match d with
 | [] => false
 | c :: t => decide (t.length < 15) && (!(decide (0 < t.length) && decide (c = 48)) && (c :: t).all Kc)
theorem j4 {N : Nat} {d : List UInt8} (hs : d.length ≤ 9223372036854775807) (hN : d.length < N) : IK N d = some (wL d) := by
 unfold IK
 cases d with
 | nil => rfl
 | cons c t =>
  have hl := zO N (c :: t) [] N hs hN
  simp only [List.nil_append, List.length_nil] at hl
  rw [show CQ (c :: t) (0 : Int) = some c from rfl, Option.bind_some, is48, show ((0 : Int)) = ((0 : Nat) : Int) from rfl, hl]
  unfold wL
  simp only
  rw [decide_eq_false (show ¬ (((c :: t).length : Int) < 1) by simp; omega), show decide (((c :: t).length : Int) > 1) = decide (0 < t.length) by (rw [Bool.eq_iff_iff]; simp; omega)]
  by_cases h15 : t.length < 15
  ·rw [decide_eq_false (by simp; omega), decide_eq_true h15]
   cases decide (0 < t.length) <;> cases decide (c = 48) <;> cases (c :: t).all Kc <;> rfl
  ·rw [decide_eq_true (by simp; omega), decide_eq_false h15]
   rfl
theorem zN {N : Nat} {s : List UInt8} (hs : s.length ≤ 9223372036854775807) (hN : s.length < N) : MX N s = some (jY s) := by
 unfold MX
 cases s with
 | nil => exact j4 hs hN
 | cons c t =>
  rw [decide_eq_true (by simp), cond_true, show CQ (c :: t) (0 : Int) = some c from rfl, Option.bind_some, Option.bind_some, is45]
  by_cases hc : c = 45
  ·subst hc
   rw [decide_eq_true rfl, cond_true, show ((1 : Int)) = ((1 : Nat) : Int) from rfl, TH (by simp), Option.bind_some]
   simp only [List.drop_succ_cons, List.drop_zero]
   rw [j4 (by simp at hs; omega) (by simp at hN; omega)]
   have hne : (45 :: t == ([48] : List UInt8)) = false := by simp
   show _ = some (fD (45 :: t) t)
   unfold fD wL
   cases t with
   | nil => rfl
   | cons d t =>
    simp only [hne]
    by_cases hd : d = 48
    ·subst hd
     cases t with
     | nil => rfl
     | cons e t => simp
    ·have : (d :: t == ([48] : List UInt8)) = false := by simp [hd]
     rw [this, cond_false, decide_eq_false hd]
     simp
  ·rw [decide_eq_false hc, cond_false, j4 hs hN]
   unfold jY
   rw [pX hc]
   unfold fD wL
   simp only
   cases t with
   | nil => by_cases h48 : c = 48 <;> simp [h48]
   | cons d t => simp
def allT : List BB := (X0 0).getD []
theorem Wo (N : Nat) : X0 N = some allT := rfl
theorem Lc (N : Nat) : SA N = some allT := rfl
def noT : BB := ⟨[], 0, false⟩
def YL (name : List UInt8) : Option BB := allT.find? (fun t => t.Name == low name)
theorem Aq (N : Nat) (x : List UInt8) : ∀ (b a : List BB) (n : Nat), (a ++ b).length ≤ 9223372036854775807 → b.length < n →
  JO N x (a ++ b) n (a.length : Int) = some (match b.find? (fun t => t.Name == x) with | some t => .inr (t, true) | none => .inl ()) := by
 intro b
 induction b with
 | nil =>
  intro a n hs hn
  obtain ⟨n, rfl, _⟩ := fuel hn
  simp only [JO, NV]
  rw [CZ, cond_false]; rfl
 | cons t b ih =>
  intro a n hs hn
  obtain ⟨n, rfl, hn'⟩ := fuel hn
  simp only [JO, NV]
  rw [D9, cond_true, DD, Option.bind_some, DI hs]
  have := ih (a ++ [t]) n (by simpa using hs) hn'
  rw [← EA] at this
  rw [this, List.find?_cons]
  cases t.Name == x <;> rfl
theorem dQ : allT.length = 15 := rfl
theorem yO {N : Nat} {s : List UInt8} (hs : s.length ≤ 9223372036854775807) (hN : s.length < N) (h15 : 15 < N) : RO N s = some (match YL s with | some t => (t, true) | none => (noT, false)) := by
 unfold RO
 have := Aq N (low s) allT [] N (by rw [List.nil_append, dQ]; omega) (by rw [dQ]; exact h15)
 simp only [List.nil_append, List.length_nil] at this
 rw [lower_eq hs hN, Option.bind_some, Wo, Option.bind_some, show ((0 : Int)) = ((0 : Nat) : Int) from rfl, this]
 unfold YL
 cases allT.find? (fun t => t.Name == low s) <;> rfl
theorem uF (N : Nat) (s : List UInt8) (hs : s.length ≤ 9223372036854775807) (hN : s.length < N) : ∀ (b a : List BB) (n : Nat), (a ++ b).length ≤ 9223372036854775807 → b.length < n →
  G9 N s (a ++ b) n (a.length : Int) = some (match b.find? (fun t => t.Name == low s) with | some t => .inr (t, true) | none => .inl ()) := by
 intro b
 induction b with
 | nil =>
  intro a n hs hn
  obtain ⟨n, rfl, _⟩ := fuel hn
  simp only [G9, JY]
  rw [CZ, cond_false]; rfl
 | cons t b ih =>
  intro a n hs' hn
  obtain ⟨n, rfl, hn'⟩ := fuel hn
  simp only [G9, JY]
  rw [D9, cond_true, DD, Option.bind_some, mF hs hN, Option.bind_some, Option.bind_some, DI hs']
  have := ih (a ++ [t]) n (by simpa using hs') hn'
  rw [← EA] at this
  rw [this, List.find?_cons]
  cases t.Name == low s <;> rfl
theorem qJ {N : Nat} {s : List UInt8} (hs : s.length ≤ 9223372036854775807) (hN : s.length < N) (h15 : 15 < N) : L8 N s = some (match YL s with | some t => (t, true) | none => (noT, false)) := by
 unfold L8
 have := uF N s hs hN allT [] N (by rw [List.nil_append, dQ]; omega) (by rw [dQ]; exact h15)
 simp only [List.nil_append, List.length_nil] at this
 rw [Lc, Option.bind_some, show ((0 : Int)) = ((0 : Nat) : Int) from rfl, this]
 unfold YL
 cases allT.find? (fun t => t.Name == low s) <;> rfl
theorem Gx {s : List UInt8} {t : BB} (h : YL s = some t) : t.Syntax = 1 ∨ t.Syntax = 2 ∨ t.Syntax = 3 ∨ t.Syntax = 4 ∨ t.Syntax = 5 := by
 have hm := List.mem_of_find?_eq_some h
 have hall : (allT.all fun t => decide (t.Syntax = 1) || (decide (t.Syntax = 2) || (decide (t.Syntax = 3) || (decide (t.Syntax = 4) || decide (t.Syntax = 5))))) = true := by decide +kernel
 have := List.all_eq_true.1 hall t hm
 simpa using this
def Ed (k : Int) (v : List UInt8) : Bool := if k = 1 then v.any Ox && v.all zT else if k = 2 then v.all zT else if k = 3 then jY v else if k = 5 then (jN v).isSome else true
theorem Qu {N : Nat} {v : List UInt8} (k : Int) (hv : v.length ≤ 1000000) (hN : 2000000 < N) (hN2 : N ≤ 9223372036854775808) : WZ N k v = some (Ed k v) := by
 unfold WZ Ed Q0
 obtain ⟨t, h1, h2⟩ := Kr (N := N) (s := v) (by omega) (by omega)
 rw [h1, zD (by omega) (by omega), Fs (by omega) (by omega), Dw hv hN hN2]
 simp only [Option.bind_some, h2]
 by_cases k1 : k = 1
 ·subst k1
  cases v.any Ox <;> rfl
 ·rw [show (k == 1) = false by simpa using k1, if_neg k1, cond_false]
  by_cases k2 : k = 2
  ·subst k2; rfl
  ·rw [show (k == 2) = false by simpa using k2, if_neg k2, cond_false]
   by_cases k3 : k = 3
   ·subst k3; rfl
   ·rw [show (k == 3) = false by simpa using k3, if_neg k3, cond_false]
    by_cases k5 : k = 5
    ·subst k5
     cases jN v <;> rfl
    ·rw [show (k == 5) = false by simpa using k5, if_neg k5, cond_false]
def M4 (name v : List UInt8) : Int := match YL name with
 | none => 16
 | some t => if v ≠ [] ∧ v.length ≤ 60 ∧ Ed t.Syntax v = true then 0 else 17
theorem sJ {N : Nat} {name v : List UInt8} (hn : name.length ≤ 1000000) (hv : v.length ≤ 1000000) (hN : 2000000 < N) (hN2 : N ≤ 9223372036854775808) : Q3 N name v = some (M4 name v) := by
 unfold Q3 M4
 rw [yO (by omega) (by omega) (by omega), Option.bind_some]
 cases YL name with
 | none => rfl
 | some t =>
  simp only [Bool.not_true, cond_false]
  rw [Qu t.Syntax hv hN hN2]
  by_cases h0 : v = []
  ·subst h0; rfl
  ·rw [show (v == ([] : List UInt8)) = false by simpa using h0, cond_false]
   by_cases h60 : v.length ≤ 60
   ·rw [decide_eq_false (by omega), cond_false]
    cases hm : Ed t.Syntax v with
    | true => rw [if_pos ⟨h0, h60, rfl⟩]; rfl
    | false => rw [if_neg (fun h => by cases h.2.2)]; rfl
   ·rw [decide_eq_true (by omega), if_neg (fun h => h60 h.2.1)]; rfl
theorem qM (N : Nat) (x : BB × Bool) : ∀ (b a : List UInt8) (p q : Bool) (n : Nat), (a ++ b).length ≤ 9223372036854775807 → b.length < n →
  FP N (a ++ b) x n (p, q, (a.length : Int)) = some (p && b.all zT, q || b.any Ox) := by
 intro b
 induction b with
 | nil =>
  intro a p q n hs hn
  obtain ⟨n, rfl, _⟩ := fuel hn
  simp only [FP, J2]
  rw [CZ, cond_false]; simp
 | cons c b ih =>
  intro a p q n hs hn
  obtain ⟨n, rfl, hn'⟩ := fuel hn
  simp only [FP, J2]
  rw [D9, cond_true]
  simp only [DD, Option.bind_some]
  rw [pr_c2, nb_c, DI hs]
  have := fun p q => ih (a ++ [c]) p q n (by simpa using hs) hn'
  simp only [← EA] at this
  rw [List.all_cons, List.any_cons]
  cases p <;> cases q <;> simp only [cond_true, cond_false, Option.bind_some, this] <;> simp
theorem mI {N : Nat} {name v : List UInt8} (hn : name.length ≤ 1000000) (hv : v.length ≤ 1000000) (hN : 2000000 < N) (hN2 : N ≤ 9223372036854775808) : KL N name v = some (M4 name v) := by
 unfold KL M4
 rw [qJ (by omega) (by omega) (by omega), Option.bind_some]
 cases hf : YL name with
 | none => rfl
 | some t =>
  simp only [Bool.not_true, cond_false]
  have hl := qM N (t, true) v [] true false N (by simp; omega) (by omega)
  simp only [List.nil_append, List.length_nil, Bool.true_and, Bool.false_or] at hl
  rw [show ((0 : Int)) = ((0 : Nat) : Int) from rfl, hl, zN (by omega) (by omega), zL hv hN hN2]
  by_cases h0 : v = []
  ·subst h0; rfl
  ·have hlen : 0 < v.length := List.length_pos_iff.2 h0
   rw [decide_eq_false (by omega), cond_false]
   by_cases h60 : v.length ≤ 60
   ·rw [decide_eq_false (by omega)]
    simp only [Option.bind_some, cond_false, EY]
    unfold Ed
    rcases Gx hf with h | h | h | h | h <;> rw [h]
    ·cases v.all zT <;> cases v.any Ox <;> simp [h0, h60]
    ·cases v.all zT <;> simp [h0, h60]
    ·cases jY v <;> simp [h0, h60]
    ·simp [h0, h60]
    ·cases jN v <;> simp [h0, h60]
   ·rw [decide_eq_true (by omega), if_neg (fun h => h60 h.2.1)]; rfl
def uL (c : AR) : Prop := 0 ≤ c.Time ∧ c.Time ≤ 1099511627776 ∧ 0 ≤ c.Seq ∧ c.Seq ≤ 65535 ∧ 0 ≤ c.Rep ∧ c.Rep < 6
instance (c : AR) : Decidable (uL c) := by unfold uL; infer_instance
theorem andB (p q : Prop) [Decidable p] [Decidable q] : (bif decide p then some (decide q) else some false) = some (decide (p ∧ q)) := by
 by_cases h : p <;> simp [h]
theorem sG (N : Nat) (c : AR) : bD N c = some (decide (uL c)) := by
 unfold bD
 simp only [andB, Option.bind_some, ge_iff_le]
 congr 1
theorem Dj (N : Nat) (c : AR) : MH N c = some (decide (uL c)) := sG N c
def fH (a b : Int) : Int := if a < b then -1 else if a > b then 1 else 0
theorem dK (N : Nat) (a b : Int) : MZ N a b = some (fH a b) := by
 unfold MZ OL fH
 simp only [bne_self_eq_false, Option.bind_some, cond_false]
 by_cases h : a < b
 ·simp [h]
 ·by_cases h2 : a > b
  ·simp [h, h2]
  ·simp [h, h2]
theorem kU (N : Nat) (a b : Int) : cmp_Compare_int N a b = some (fH a b) := dK N a b
theorem pJ (a b : Int) : (a == b) = decide (a = b) := by rw [Bool.eq_iff_iff]; simp
theorem Oa (a b : Int) : (a != b) = decide (¬ a = b) := by rw [Bool.eq_iff_iff]; simp
theorem or_eq (N : Nat) (x y z : Int) : XD (N + 4) [x, y, z] = some (if x ≠ 0 then x else if y ≠ 0 then y else z) := by
 have w0 : BQ 1 = 1 := by rfl
 have w1 : BQ 2 = 2 := by rfl
 have w2 : BQ 3 = 3 := by rfl
 unfold XD
 simp only [OG, SG]
 by_cases hx : x = 0
 ·by_cases hy : y = 0
  ·by_cases hz : z = 0
   ·simp [Oa, CQ, w0, w1, w2, hx, hy, hz]
   ·simp [Oa, CQ, w0, w1, w2, hx, hy, hz]
  ·simp [Oa, CQ, w0, w1, w2, hx, hy]
 ·simp [Oa, CQ, w0, w1, w2, hx]
def bE (a b : AR) : Int := if fH a.Time b.Time ≠ 0 then fH a.Time b.Time else if fH a.Seq b.Seq ≠ 0 then fH a.Seq b.Seq else fH a.Rep b.Rep
theorem Bc (N : Nat) (hN : 4 ≤ N) (a b : AR) : iD N a b = some (bE a b) := by
 unfold iD
 obtain ⟨n, rfl⟩ : ∃ n, N = n + 4 := ⟨N - 4, by omega⟩
 rw [dK, Option.bind_some, kU, Option.bind_some, kU, Option.bind_some, or_eq]
 rfl
theorem ZC {a b : AR} : a = b ↔ a.Time = b.Time ∧ a.Seq = b.Seq ∧ a.Rep = b.Rep := by
 cases a; cases b; simp
theorem eqB (a b : AR) : (a.Time == b.Time && (a.Seq == b.Seq && (a.Rep == b.Rep && true))) = decide (a = b) := by
 rw [Bool.eq_iff_iff]
 simp [ZC]
theorem p8 {a b : Int} (h : a < b) : fH a b = -1 := if_pos h
theorem p9 {a b : Int} (h : b < a) : fH a b = 1 := by unfold fH; rw [if_neg (by omega), if_pos (by omega)]
theorem dL (a : Int) : fH a a = 0 := by unfold fH; rw [if_neg (by omega), if_neg (by omega)]
theorem zP (N : Nat) (a b : AR) : L9 N a b = some (bE a b) := by
 unfold L9
 rw [eqB]
 rcases Int.lt_trichotomy a.Time b.Time with h | h | h
 ·have hne : ¬ a = b := by rw [ZC]; omega
  simp [pJ, h, bE, p8 h]
 ·rcases Int.lt_trichotomy a.Seq b.Seq with h2 | h2 | h2
  ·simp [pJ, h, h2, bE, dL, p8 h2]
  ·rcases Int.lt_trichotomy a.Rep b.Rep with h3 | h3 | h3
   ·simp [pJ, h, h2, h3, bE, dL, p8 h3]
   ·have he : a = b := by rw [ZC]; exact ⟨h, h2, h3⟩
    subst he
    simp [pJ, bE, dL]
   ·have hne : ¬ a = b := by rw [ZC]; omega
    have hl : ¬ a.Rep < b.Rep := by omega
    simp [pJ, h, h2, hl, hne, bE, dL, p9 h3]
  ·have hne : ¬ a = b := by rw [ZC]; omega
   have hl : ¬ a.Seq < b.Seq := by omega
   have hn : ¬ a.Seq = b.Seq := by omega
   simp [pJ, h, hl, hn, hne, bE, dL, p9 h2]
 ·have hne : ¬ a = b := by rw [ZC]; omega
  have hl : ¬ a.Time < b.Time := by omega
  have hn : ¬ a.Time = b.Time := by omega
  simp [pJ, hl, hn, hne, bE, p9 h]
end Go.Gp
end
