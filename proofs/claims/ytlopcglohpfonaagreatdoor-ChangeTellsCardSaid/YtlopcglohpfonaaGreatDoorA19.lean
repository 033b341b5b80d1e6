/- A part of the proof: functions of the program and what they compute. -/
import Derived.Test.YtlopcglohpfonaaGreatDoorA18
import Derived.Test.YtlopcglohpfonaaGreatDoorA4
import Derived.Test.YtlopcglohpfonaaGreatDoorA5
import Derived.Test.YtlopcglohpfonaaGreatDoorA17
section
set_option linter.unusedVariables false
set_option linter.unusedSimpArgs false
namespace Go.Gp
open Go.Vd
def Oz : List UInt8 := [101, 110, 116, 114, 121, 105, 100]
def jM (a : AP) : Bool := !(a.Attr == Oz) && decide (M4 a.Attr a.Value = 0)
def gD (r : List AP) : Bool := KT r && (decide (r.length < 4) && r.all jM)
def ZX (last : Int) (m : BC) : Bool := match YL m.Attr with
 | none => false
 | some t => (t.Name == m.Attr) && (!(m.Attr == Oz) && (decide (1 ≤ m.Kind) && (decide (m.Kind ≤ last) && (decide (m.Values.length ≤ 12) && (!(decide (m.Kind = 1) && decide (m.Values.length = 0)) && m.Values.all (fun v => decide (M4 m.Attr v = 0)))))))
def U8 (last : Int) (l : List BC) : Bool := l.all (ZX last) && decide (l.length ≤ 8)
def bnA (a : AP) : Prop := a.Attr.length ≤ 1000000 ∧ a.Value.length ≤ 1000000
def Io (m : BC) : Prop := m.Attr.length ≤ 1000000 ∧ m.Values.length ≤ 1000000 ∧ ∀ v ∈ m.Values, v.length ≤ 1000000
def bnC (c : AX) : Prop := (c.RDN.length ≤ 1000000 ∧ ∀ a ∈ c.RDN, bnA a) ∧ (c.Mods.length ≤ 1000000 ∧ ∀ m ∈ c.Mods, Io m)
theorem neI (a b : Int) : (a != b) = !decide (a = b) := by rw [Bool.eq_iff_iff]; simp
theorem Fq (N : Nat) (hN : 2000000 < N) (hN2 : N ≤ 9223372036854775808) : ∀ (b a : List AP) (n : Nat), (a ++ b).length ≤ 9223372036854775807 → b.length < n → (∀ x ∈ b, bnA x) →
  ∃ i : Nat, BM N (a ++ b) n (a.length : Int) = some (bif b.all jM then .inl () else .inr (i : Int)) := by
 intro b
 induction b with
 | nil =>
  intro a n hs hn _
  obtain ⟨n, rfl, _⟩ := fuel hn
  simp only [BM, CO]
  rw [CZ, cond_false]; exact ⟨0, rfl⟩
 | cons x b ih =>
  intro a n hs hn hok
  obtain ⟨n, rfl, hn'⟩ := fuel hn
  obtain ⟨i, hi⟩ := ih (a ++ [x]) n (by simpa using hs) hn' (fun y hy => hok y (List.mem_cons_of_mem _ hy))
  rw [← EA] at hi
  have hx := hok x List.mem_cons_self
  simp only [BM, CO, U7]
  rw [D9, cond_true, DD, Option.bind_some, sJ hx.1 hx.2 hN hN2, DI (a := a) (b := b) (x := x) (by omega), hi, List.all_cons, Option.bind_some, neI]
  show ∃ j : Nat, _ = some (bif (!(x.Attr == Oz) && decide (M4 x.Attr x.Value = 0)) && b.all jM then _ else _)
  unfold Oz
  cases (x.Attr == ([101, 110, 116, 114, 121, 105, 100] : List UInt8))
  ·cases decide (M4 x.Attr x.Value = 0)
   ·exact ⟨a.length, rfl⟩
   ·exact ⟨i, rfl⟩
  ·exact ⟨a.length, rfl⟩
theorem Ig {N : Nat} {r : List AP} (hN : 2000000 < N) (hN2 : N ≤ 9223372036854775808) (hl : r.length ≤ 1000000) (hr : ∀ x ∈ r, bnA x) : QH N r = some (gD r) := by
 unfold QH DX EN gD
 rw [rF hN2 (by omega) (by omega) (fun x hx => ⟨by have := (hr x hx).1; omega, by have := (hr x hx).2; omega⟩), Option.bind_some]
 obtain ⟨i, h⟩ := Fq N hN hN2 r [] N (by simp; omega) (by omega) hr
 simp only [List.nil_append, List.length_nil] at h
 rw [show ((0 : Int)) = ((0 : Nat) : Int) from rfl, h, show decide ((r.length : Int) ≥ 4) = !decide (r.length < 4) by rw [Bool.eq_iff_iff]; simp; omega]
 cases KT r
 ·rfl
 ·cases decide (r.length < 4)
  ·rfl
  ·cases r.all jM
   ·simp [Option.bind]
   ·rfl
theorem Bd (N : Nat) (hN : 2000000 < N) (hN2 : N ≤ 9223372036854775808) : ∀ (b a : List AP) (n : Nat), (a ++ b).length ≤ 9223372036854775807 → b.length < n → (∀ x ∈ b, bnA x) →
  FX N (a ++ b) n (a.length : Int) = some (bif b.all jM then .inl () else .inr false) := by
 intro b
 induction b with
 | nil =>
  intro a n hs hn _
  obtain ⟨n, rfl, _⟩ := fuel hn
  simp only [FX, JF]
  rw [CZ, cond_false]; rfl
 | cons x b ih =>
  intro a n hs hn hok
  obtain ⟨n, rfl, hn'⟩ := fuel hn
  have hi := ih (a ++ [x]) n (by simpa using hs) hn' (fun y hy => hok y (List.mem_cons_of_mem _ hy))
  rw [← EA] at hi
  have hx := hok x List.mem_cons_self
  simp only [FX, JF]
  rw [D9, cond_true, DD, Option.bind_some, Option.bind_some, Option.bind_some, mI hx.1 hx.2 hN hN2, DI (a := a) (b := b) (x := x) (by omega), hi, List.all_cons, Option.bind_some, neI]
  show _ = some (bif (!(x.Attr == Oz) && decide (M4 x.Attr x.Value = 0)) && b.all jM then _ else _)
  unfold Oz
  cases (x.Attr == ([101, 110, 116, 114, 121, 105, 100] : List UInt8))
  ·cases decide (M4 x.Attr x.Value = 0)
   ·rfl
   ·rfl
  ·rfl
theorem zS {N : Nat} {r : List AP} (hN : 2000000 < N) (hN2 : N ≤ 9223372036854775808) (hl : r.length ≤ 1000000) (hr : ∀ x ∈ r, bnA x) : NZ N r = some (gD r) := by
 unfold NZ gD
 rw [eZ hN2 (by omega) (fun x hx => ⟨by have := (hr x hx).1; omega, by have := (hr x hx).2; omega⟩), Option.bind_some]
 have h := Bd N hN hN2 r [] N (by simp; omega) (by omega) hr
 simp only [List.nil_append, List.length_nil] at h
 rw [show ((0 : Int)) = ((0 : Nat) : Int) from rfl, h, show decide ((r.length : Int) ≥ 4) = !decide (r.length < 4) by rw [Bool.eq_iff_iff]; simp; omega]
 cases KT r
 ·rfl
 ·cases decide (r.length < 4)
  ·rfl
  ·cases r.all jM
   ·rfl
   ·rfl
theorem Fp (N : Nat) (hN : 2000000 < N) (hN2 : N ≤ 9223372036854775808) (m : BC) (hm : m.Attr.length ≤ 1000000) : ∀ (b a : List (List UInt8)) (n : Nat), (a ++ b).length ≤ 9223372036854775807 → b.length < n → (∀ x ∈ b, x.length ≤ 1000000) →
  ∃ i : Nat, BN N (a ++ b) m n (a.length : Int) = some (bif b.all (fun v => decide (M4 m.Attr v = 0)) then .inl () else .inr (i : Int)) := by
 intro b
 induction b with
 | nil =>
  intro a n hs hn _
  obtain ⟨n, rfl, _⟩ := fuel hn
  simp only [BN, CR]
  rw [CZ, cond_false]; exact ⟨0, rfl⟩
 | cons x b ih =>
  intro a n hs hn hok
  obtain ⟨n, rfl, hn'⟩ := fuel hn
  obtain ⟨i, hi⟩ := ih (a ++ [x]) n (by simpa using hs) hn' (fun y hy => hok y (List.mem_cons_of_mem _ hy))
  rw [← EA] at hi
  have hx := hok x List.mem_cons_self
  simp only [BN, CR, SH]
  rw [D9, cond_true, DD, Option.bind_some, sJ hm hx hN hN2, DI (a := a) (b := b) (x := x) (by omega), hi, List.all_cons, Option.bind_some, neI]
  cases decide (M4 m.Attr x = 0)
  ·exact ⟨a.length, rfl⟩
  ·exact ⟨i, rfl⟩
theorem Uv {N : Nat} {m : BC} (hN : 2000000 < N) (hN2 : N ≤ 9223372036854775808) (hm : Io m) : CV N m.Values m = some (!m.Values.all (fun v => decide (M4 m.Attr v = 0))) := by
 unfold CV EP
 obtain ⟨i, h⟩ := Fp N hN hN2 m hm.1 m.Values [] N (by have := hm.2.1; simp; omega) (by have := hm.2.1; omega) hm.2.2
 simp only [List.nil_append, List.length_nil] at h
 rw [show ((0 : Int)) = ((0 : Nat) : Int) from rfl, h]
 cases m.Values.all (fun v => decide (M4 m.Attr v = 0))
 ·simp [Option.bind]
 ·rfl
theorem rG (N : Nat) (hN : 2000000 < N) (hN2 : N ≤ 9223372036854775808) (last : Int) : ∀ (b a : List BC) (n : Nat), (a ++ b).length ≤ 9223372036854775807 → b.length < n → (∀ x ∈ b, Io x) →
  I9 N (a ++ b) last n (a.length : Int) = some (bif b.all (ZX last) then .inl () else .inr false) := by
 intro b
 induction b with
 | nil =>
  intro a n hs hn _
  obtain ⟨n, rfl, _⟩ := fuel hn
  simp only [I9, M5]
  rw [CZ, cond_false]; rfl
 | cons x b ih =>
  intro a n hs hn hok
  obtain ⟨n, rfl, hn'⟩ := fuel hn
  have hi := ih (a ++ [x]) n (by simpa using hs) hn' (fun y hy => hok y (List.mem_cons_of_mem _ hy))
  rw [← EA] at hi
  have hx := hok x List.mem_cons_self
  simp only [I9, M5]
  rw [D9, cond_true, DD, Option.bind_some, yO (by have := hx.1; omega) (by have := hx.1; omega) (by omega), Option.bind_some, DI (a := a) (b := b) (x := x) (by omega), hi, List.all_cons]
  have hv := Uv hN hN2 hx
  rw [show (⟨x.Kind, x.Attr, x.Values⟩ : BC) = x from rfl, hv, Option.bind_some]
  unfold ZX Oz
  rw [show decide (x.Kind < 1) = !decide (1 ≤ x.Kind) by rw [Bool.eq_iff_iff]; simp, show decide (x.Kind > last) = !decide (x.Kind ≤ last) by rw [Bool.eq_iff_iff]; simp, show decide ((x.Values.length : Int) > 12) = !decide (x.Values.length ≤ 12) by rw [Bool.eq_iff_iff]; simp; omega,
   show (x.Kind == (1 : Int)) = decide (x.Kind = 1) by rw [Bool.eq_iff_iff]; simp, show ((x.Values.length : Int) == (0 : Int)) = decide (x.Values.length = 0) by rw [Bool.eq_iff_iff]; simp]
  cases YL x.Attr with
  | none => rfl
  | some t =>
   simp only
   cases (t.Name == x.Attr) <;> cases (x.Attr == ([101, 110, 116, 114, 121, 105, 100] : List UInt8)) <;> cases decide (1 ≤ x.Kind) <;> cases decide (x.Kind ≤ last) <;> cases decide (x.Values.length ≤ 12) <;> cases decide (x.Kind = 1) <;> cases decide (x.Values.length = 0) <;> cases x.Values.all (fun v => decide (M4 x.Attr v = 0)) <;> rfl
theorem nJ {N : Nat} {l : List BC} (last : Int) (hN : 2000000 < N) (hN2 : N ≤ 9223372036854775808) (hl : l.length ≤ 1000000) (hm : ∀ m ∈ l, Io m) : OH N l last = some (U8 last l) := by
 unfold OH U8
 have h := rG N hN hN2 last l [] N (by simp; omega) (by omega) hm
 simp only [List.nil_append, List.length_nil] at h
 rw [show ((0 : Int)) = ((0 : Nat) : Int) from rfl, h, show decide ((l.length : Int) ≤ 8) = decide (l.length ≤ 8) by rw [Bool.eq_iff_iff]; simp; omega]
 cases l.all (ZX last) <;> rfl
theorem zI (N : Nat) (hN : 2000000 < N) (hN2 : N ≤ 9223372036854775808) (l0 : List BC) (o : Bool) (i0 : Int) (m : BC) (hm : m.Attr.length ≤ 1000000) : ∀ (b a : List (List UInt8)) (n : Nat), m.Values = a ++ b → (a ++ b).length ≤ 9223372036854775807 → b.length < n → (∀ x ∈ b, x.length ≤ 1000000) →
  FQ N l0 o i0 m n (a.length : Int) = some (bif b.all (fun v => decide (M4 m.Attr v = 0)) then .inl () else .inr false) := by
 intro b
 induction b with
 | nil =>
  intro a n he hs hn _
  obtain ⟨n, rfl, _⟩ := fuel hn
  simp only [FQ, J3]
  rw [he, CZ, cond_false]; rfl
 | cons x b ih =>
  intro a n he hs hn hok
  obtain ⟨n, rfl, hn'⟩ := fuel hn
  have hi := ih (a ++ [x]) n (by rw [he]; simp) (by simpa using hs) hn' (fun y hy => hok y (List.mem_cons_of_mem _ hy))
  have hx := hok x List.mem_cons_self
  simp only [FQ, J3]
  rw [he, D9, cond_true, DD, Option.bind_some, mI hm hx hN hN2, DI (a := a) (b := b) (x := x) (by omega), hi, List.all_cons, Option.bind_some, neI]
  cases decide (M4 m.Attr x = 0)
  ·rfl
  ·rfl
def fU (o : Bool) : Int := bif o then 1 else 3
theorem uD (N : Nat) (hN : 2000000 < N) (hN2 : N ≤ 9223372036854775808) (o : Bool) : ∀ (b a : List BC) (n : Nat), (a ++ b).length ≤ 9223372036854775807 → b.length < n → (∀ x ∈ b, Io x) →
  FY N (a ++ b) o n (a.length : Int) = some (bif b.all (ZX (fU o)) then .inl () else .inr false) := by
 intro b
 induction b with
 | nil =>
  intro a n hs hn _
  obtain ⟨n, rfl, _⟩ := fuel hn
  simp only [FY, JG]
  rw [CZ, cond_false]; rfl
 | cons x b ih =>
  intro a n hs hn hok
  obtain ⟨n, rfl, hn'⟩ := fuel hn
  have hi := ih (a ++ [x]) n (by simpa using hs) hn' (fun y hy => hok y (List.mem_cons_of_mem _ hy))
  rw [← EA] at hi
  have hx := hok x List.mem_cons_self
  have hv := zI N hN hN2 (a ++ x :: b) o (a.length : Int) x hx.1 x.Values [] N rfl (by have := hx.2.1; simp; omega) (by have := hx.2.1; omega) hx.2.2
  simp only [List.length_nil] at hv
  simp only [FY, JG]
  rw [D9, cond_true, DD, Option.bind_some, qJ (by have := hx.1; omega) (by have := hx.1; omega) (by omega), Option.bind_some, DI (a := a) (b := b) (x := x) (by omega), hi, List.all_cons]
  rw [show ((0 : Int)) = ((0 : Nat) : Int) from rfl, hv, Option.bind_some]
  have hk : ∀ k : Int, ZX (fU o) x = ZX (fU o) x := fun _ => rfl
  unfold ZX Oz
  rw [show decide (x.Kind < 1) = !decide (1 ≤ x.Kind) by rw [Bool.eq_iff_iff]; simp, show decide (x.Kind > 3) = !decide (x.Kind ≤ 3) by rw [Bool.eq_iff_iff]; simp, show decide ((x.Values.length : Int) > 12) = !decide (x.Values.length ≤ 12) by rw [Bool.eq_iff_iff]; simp; omega,
   show (x.Kind == (1 : Int)) = decide (x.Kind = 1) by rw [Bool.eq_iff_iff]; simp, show (x.Kind != (1 : Int)) = !decide (x.Kind = 1) by rw [Bool.eq_iff_iff]; simp, show ((x.Values.length : Int) == ((0 : Nat) : Int)) = decide (x.Values.length = 0) by rw [Bool.eq_iff_iff]; simp]
  cases YL x.Attr with
  | none => rfl
  | some t =>
   simp only
   by_cases hn : t.Name = x.Attr
   ·rw [show (t.Name == x.Attr) = true by simpa using hn, hn]
    cases o
    ·show _ = some (bif ((true && (_ && (_ && (decide (x.Kind ≤ 3) && _)))) && _) then _ else _)
     cases (x.Attr == ([101, 110, 116, 114, 121, 105, 100] : List UInt8)) <;> cases decide (1 ≤ x.Kind) <;> cases decide (x.Kind ≤ 3) <;> cases decide (x.Values.length ≤ 12) <;> cases decide (x.Kind = 1) <;> cases decide (x.Values.length = 0) <;> cases x.Values.all (fun v => decide (M4 x.Attr v = 0)) <;> rfl
    ·show _ = some (bif ((true && (_ && (_ && (decide (x.Kind ≤ 1) && _)))) && _) then _ else _)
     by_cases h1 : x.Kind = 1
     ·rw [decide_eq_true h1, decide_eq_true (show x.Kind ≤ 1 by omega), decide_eq_true (show 1 ≤ x.Kind by omega), decide_eq_true (show x.Kind ≤ 3 by omega)]
      cases (x.Attr == ([101, 110, 116, 114, 121, 105, 100] : List UInt8)) <;> cases decide (x.Values.length ≤ 12) <;> cases decide (x.Values.length = 0) <;> cases x.Values.all (fun v => decide (M4 x.Attr v = 0)) <;> rfl
     ·rw [decide_eq_false h1]
      by_cases h2 : 1 ≤ x.Kind
      ·rw [decide_eq_false (show ¬ x.Kind ≤ 1 by omega)]
       cases (x.Attr == ([101, 110, 116, 114, 121, 105, 100] : List UInt8)) <;> cases decide (1 ≤ x.Kind) <;> cases decide (x.Kind ≤ 3) <;> cases decide (x.Values.length ≤ 12) <;> cases decide (x.Values.length = 0) <;> rfl
      ·rw [decide_eq_false h2]
       cases (x.Attr == ([101, 110, 116, 114, 121, 105, 100] : List UInt8)) <;> rfl
   ·rw [show (t.Name == x.Attr) = false by simpa using hn]
    rfl
theorem jE {N : Nat} {l : List BC} (o : Bool) (hN : 2000000 < N) (hN2 : N ≤ 9223372036854775808) (hl : l.length ≤ 1000000) (hm : ∀ m ∈ l, Io m) : KM N l o = some (U8 (fU o) l) := by
 unfold KM U8
 have h := uD N hN hN2 o l [] N (by simp; omega) (by omega) hm
 simp only [List.nil_append, List.length_nil] at h
 rw [show ((0 : Int)) = ((0 : Nat) : Int) from rfl, h, show decide ((l.length : Int) ≤ 8) = decide (l.length ≤ 8) by rw [Bool.eq_iff_iff]; simp; omega]
 cases l.all (ZX (fU o)) <;> rfl

theorem oW : ∀ (f u : Nat) (a : List UInt8), (Pb f u a).length ≤ f + a.length
 | 0, u, a => by rw [Pb]; omega
 | f + 1, u, a => by
  rw [Pb]
  split
  ·simp; omega
  ·have := oW f (u / 10) (UInt8.ofNat (48 + u % 10) :: a)
   rw [List.length_cons] at this; omega
theorem TG (n : Int) : (dG n).length ≤ 21 := by
 unfold dG
 split
 ·have := oW 20 n.natAbs []
  simp at this ⊢; omega
 ·have := oW 20 n.toNat []
  simp at this; omega
def noC : AR := ⟨0, 0, 0⟩
def Co (c : AR) : List UInt8 := dG c.Time ++ 46 :: (dG c.Seq ++ 46 :: dG c.Rep)
def intC (c : AR) : Prop := (-9223372036854775808 ≤ c.Time ∧ c.Time ≤ 9223372036854775807) ∧ (-9223372036854775808 ≤ c.Seq ∧ c.Seq ≤ 9223372036854775807) ∧ (-9223372036854775808 ≤ c.Rep ∧ c.Rep ≤ 9223372036854775807)
theorem Cn (a b c : List UInt8) (ha : a.length ≤ 21) (hb : b.length ≤ 21) (hc : c.length ≤ 21) :
  (Option.bind (bH a ([46] : List UInt8)) fun (x6 : List UInt8) =>
   Option.bind (some b) fun (x9 : List UInt8) =>
   Option.bind (bH x6 x9) fun (R9 : List UInt8) =>
   Option.bind (bH R9 ([46] : List UInt8)) fun (KW : List UInt8) =>
   Option.bind (some c) fun (OB : List UInt8) =>
   Option.bind (bH KW OB) fun (N7 : List UInt8) =>
   some N7) = some (a ++ 46 :: (b ++ 46 :: c)) := by
 rw [ZF (by simp; omega)]
 simp only [Option.bind_some]
 rw [ZF (by simp; omega), Option.bind_some, ZF (by simp; omega), Option.bind_some, ZF (by simp; omega), Option.bind_some]
 simp
theorem Ku {N : Nat} {c : AR} (h : intC c) : YQ N c = some (Co c) := by
 obtain ⟨h1, h2, h3⟩ := h
 unfold YQ KG strconv_Itoa
 rw [if_pos ⟨rfl, h1⟩, if_pos h2, if_pos h3, Option.bind_some, Cn _ _ _ (TG _) (TG _) (TG _)]
 rfl
theorem zB (c : AR) : (Co c).length ≤ 65 := by
 unfold Co
 have h1 := TG c.Time
 have h2 := TG c.Seq
 have h3 := TG c.Rep
 simp; omega
def Y5 (c : AR) : Bool := decide (c = noC)
def bK (x c : AR) : Bool := decide (bE x c < 0)
def yT (c : AX) : Bool := Y5 c.Parent && (decide (c.RDN.length = 0) && !c.DelOld)
def wY (c : AX) : Bool :=
 bif c.Kind == 1 then decide (c.ID = c.CSN) && (bK c.Parent c.CSN && (gD c.RDN && (U8 1 c.Mods && !c.DelOld)))
 else bif c.Kind == 2 then !Y5 c.ID && (bK c.ID c.CSN && (yT c && decide (c.Mods.length = 0)))
 else bif c.Kind == 3 then bK c.ID c.CSN && (yT c && (decide (0 < c.Mods.length) && U8 3 c.Mods))
 else bif c.Kind == 4 then !Y5 c.ID && (bK c.ID c.CSN && (bK c.Parent c.CSN && (gD c.RDN && decide (c.Mods.length = 0))))
 else false
def lN (c : AX) : Bool := decide (uL c.CSN) && (!Y5 c.CSN && (decide (uL c.ID) && (decide (uL c.Parent) && wY c)))
theorem wB (c : AR) : (c.Time == (0 : Int) && (c.Seq == (0 : Int) && (c.Rep == (0 : Int) && true))) = Y5 c := eqB c noC
theorem vJ (N : Nat) (c : AR) : U5 N c = some (Y5 c) := by unfold U5; rw [wB]
theorem uG (N : Nat) (c : AR) : GZ N c = some (Y5 c) := by unfold GZ; rw [wB]
theorem Ip (a b : Bool) : (bif a then some b else some false) = some (a && b) := by cases a <;> rfl
theorem borS (a b : Bool) : (bif a then some true else some b) = some (a || b) := by cases a <;> rfl
theorem len0 {α : Type} (l : List α) : ((l.length : Int) == (0 : Int)) = decide (l.length = 0) := by rw [Bool.eq_iff_iff]; simp
theorem lenP {α : Type} (l : List α) : decide ((l.length : Int) > (0 : Int)) = decide (0 < l.length) := by rw [Bool.eq_iff_iff]; simp
theorem yQ {N : Nat} {c : AX} (hN : 2000000 < N) (hN2 : N ≤ 9223372036854775808) (h : bnC c) : R5 N c = some (lN c) := by
 unfold R5 NP lN
 have e1 : (⟨c.CSN.Time, c.CSN.Seq, c.CSN.Rep⟩ : AR) = c.CSN := rfl
 have e2 : (⟨c.ID.Time, c.ID.Seq, c.ID.Rep⟩ : AR) = c.ID := rfl
 have e3 : (⟨c.Parent.Time, c.Parent.Seq, c.Parent.Rep⟩ : AR) = c.Parent := rfl
 simp only [e1, e2, e3, sG, vJ, Bc N (by omega), Ig hN hN2 h.1.1 h.1.2, nJ 1 hN hN2 h.2.1 h.2.2, nJ 3 hN hN2 h.2.1 h.2.2, Option.bind_some, Ip, borS, len0, lenP, eqB]
 have g : ∀ (a b x d : Bool) (y : Option Bool) (k : Bool), y = some k → (bif (!a || (b || (!x || !d))) then some false else y) = some (a && (!b && (x && (d && k)))) := by
  intro a b x d y k hy
  subst hy
  cases a <;> cases b <;> cases x <;> cases d <;> rfl
 refine g _ _ _ _ _ _ ?_
 unfold wY yT bK
 cases c.Kind == 1
 ·cases c.Kind == 2
  ·cases c.Kind == 3
   ·cases c.Kind == 4
    ·rfl
    ·rfl
   ·rfl
  ·rfl
 ·rfl
theorem Dm {N : Nat} {c : AX} (hN : 2000000 < N) (hN2 : N ≤ 9223372036854775808) (h : bnC c) : I6 N c = some (lN c) := by
 unfold I6 lN
 have e1 : (⟨c.CSN.Time, c.CSN.Seq, c.CSN.Rep⟩ : AR) = c.CSN := rfl
 have e2 : (⟨c.ID.Time, c.ID.Seq, c.ID.Rep⟩ : AR) = c.ID := rfl
 have e3 : (⟨c.Parent.Time, c.Parent.Seq, c.Parent.Rep⟩ : AR) = c.Parent := rfl
 simp only [e1, e2, e3, Dj, uG, zP, zS hN hN2 h.1.1 h.1.2, jE true hN hN2 h.2.1 h.2.2, jE false hN hN2 h.2.1 h.2.2, Option.bind_some, Ip, borS, len0, lenP, eqB]
 have g : ∀ (a b x d : Bool) (y : Option Bool) (k : Bool), y = some k → (bif (!a || (b || (!x || !d))) then some false else y) = some (a && (!b && (x && (d && k)))) := by
  intro a b x d y k hy
  subst hy
  cases a <;> cases b <;> cases x <;> cases d <;> rfl
 refine g _ _ _ _ _ _ ?_
 unfold wY yT bK
 show _ = some (bif c.Kind == 1 then _ && (_ && (_ && (U8 (fU true) c.Mods && _))) else bif c.Kind == 2 then _ else bif c.Kind == 3 then _ && (_ && (_ && U8 (fU false) c.Mods)) else _)
 cases c.Kind == 1
 ·cases c.Kind == 2
  ·cases c.Kind == 3
   ·cases c.Kind == 4
    ·rfl
    ·simp only [cond_true, cond_false]
     congr 1
     cases decide (bE c.ID c.CSN < 0) <;> cases decide (bE c.Parent c.CSN < 0) <;> cases gD c.RDN <;> cases Y5 c.ID <;> rfl
   ·simp only [cond_true, cond_false]
    congr 1
    cases decide (bE c.ID c.CSN < 0) <;> cases Y5 c.Parent <;> cases decide (c.RDN.length = 0) <;> cases c.DelOld <;> cases decide (0 < c.Mods.length) <;> rfl
  ·simp only [cond_true, cond_false]
   congr 1
   cases decide (bE c.ID c.CSN < 0) <;> cases Y5 c.Parent <;> cases Y5 c.ID <;> cases decide (c.RDN.length = 0) <;> cases c.DelOld <;> rfl
 ·simp only [cond_true, cond_false]
  congr 1
  cases decide (c.ID = c.CSN) <;> cases decide (bE c.Parent c.CSN < 0) <;> cases gD c.RDN <;> cases c.DelOld <;> cases U8 (fU true) c.Mods <;> rfl
theorem WH {α : Type} {a : List α} {a' b' : List α} {y : α} (h : a.length = a'.length) : CQ (a' ++ y :: b') (a.length : Int) = some y := by rw [h]; exact DD a' b' y
theorem fM {α : Type} [DecidableEq α] (x y : α) (b b' : List α) : decide (x :: b = y :: b') = (decide (x = y) && decide (b = b')) := by
 rw [Bool.eq_iff_iff]; simp
theorem Hd (N : Nat) : ∀ (b b' a a' : List (List UInt8)) (n : Nat), a.length = a'.length → b.length = b'.length → (a ++ b).length ≤ 9223372036854775807 → b.length < n →
  D6 N (a ++ b) (a' ++ b') n (a.length : Int) = some (bif decide (b = b') then .inl () else .inr false) := by
 intro b
 induction b with
 | nil =>
  intro b' a a' n ha hb hs hn
  obtain ⟨n, rfl, _⟩ := fuel hn
  cases b' with
  | cons y b' => cases hb
  | nil =>
   simp only [D6, FR]
   rw [CZ, cond_false]; rfl
 | cons x b ih =>
  intro b' a a' n ha hb hs hn
  obtain ⟨n, rfl, hn'⟩ := fuel hn
  cases b' with
  | nil => cases hb
  | cons y b' =>
   have hi := ih b' (a ++ [x]) (a' ++ [y]) n (by simp [ha]) (by simpa using hb) (by simpa using hs) hn'
   rw [← EA, ← EA] at hi
   simp only [D6, FR]
   rw [D9, cond_true, DD, Option.bind_some, WH ha, Option.bind_some, DI (a := a) (b := b) (x := x) hs, hi, fM, show (x == y) = decide (x = y) by rw [Bool.eq_iff_iff]; simp]
   cases decide (x = y) <;> rfl
theorem neL (a b : Nat) : ((a : Int) != (b : Int)) = !decide (a = b) := by rw [Bool.eq_iff_iff]; simp; omega
theorem Vz {N : Nat} {l m : List (List UInt8)} (hl : l.length ≤ 1000000) (hN : 2000000 < N) : GR N l m = some (decide (l = m)) := by
 unfold GR
 rw [neL]
 by_cases h : l.length = m.length
 ·have := Hd N l m [] [] N rfl h (by simp; omega) (by omega)
  simp only [List.nil_append, List.length_nil] at this
  rw [decide_eq_true h, show ((0 : Int)) = ((0 : Nat) : Int) from rfl, this]
  cases decide (l = m) <;> rfl
 ·rw [decide_eq_false h, decide_eq_false (fun e => h (by rw [e]))]; rfl
theorem He (N : Nat) : ∀ (b b' a a' : List AP) (n : Nat), a.length = a'.length → b.length = b'.length → (a ++ b).length ≤ 9223372036854775807 → b.length < n →
  CY N (a ++ b) (a' ++ b') n (a.length : Int) = some (bif decide (b = b') then .inl () else .inr false) ∧ F4 N (a ++ b) (a' ++ b') n (a.length : Int) = some (bif decide (b = b') then .inl () else .inr false) := by
 intro b
 induction b with
 | nil =>
  intro b' a a' n ha hb hs hn
  obtain ⟨n, rfl, _⟩ := fuel hn
  cases b' with
  | cons y b' => cases hb
  | nil =>
   simp only [CY, FD, F4, HZ]
   rw [CZ, cond_false]; exact ⟨rfl, rfl⟩
 | cons x b ih =>
  intro b' a a' n ha hb hs hn
  obtain ⟨n, rfl, hn'⟩ := fuel hn
  cases b' with
  | nil => cases hb
  | cons y b' =>
   have hi := ih b' (a ++ [x]) (a' ++ [y]) n (by simp [ha]) (by simpa using hb) (by simpa using hs) hn'
   rw [← EA, ← EA] at hi
   have he : (x.Attr == y.Attr && (x.Value == y.Value && true)) = decide (x = y) := by
    rw [Bool.eq_iff_iff]; cases x; cases y; simp
   simp only [CY, FD, F4, HZ]
   refine ⟨?_, ?_⟩
   ·rw [D9, cond_true, DD, Option.bind_some, WH ha, Option.bind_some, DI (a := a) (b := b) (x := x) hs, hi.1, fM, he]
    cases decide (x = y) <;> rfl
   ·rw [D9, cond_true, DD, Option.bind_some, WH ha, Option.bind_some, DI (a := a) (b := b) (x := x) hs, hi.2, fM, he]
    cases decide (x = y) <;> rfl
theorem Hf {N : Nat} {l m : List AP} (hl : l.length ≤ 1000000) (hN : 2000000 < N) : GJ N l m = some (decide (l = m)) ∧ KX N l m = some (decide (l = m)) := by
 unfold GJ KX
 rw [neL]
 by_cases h : l.length = m.length
 ·have := He N l m [] [] N rfl h (by simp; omega) (by omega)
  simp only [List.nil_append, List.length_nil] at this
  rw [decide_eq_true h, show ((0 : Int)) = ((0 : Nat) : Int) from rfl, this.1, this.2]
  cases decide (l = m) <;> exact ⟨rfl, rfl⟩
 ·rw [decide_eq_false h, decide_eq_false (fun e => h (by rw [e]))]; exact ⟨rfl, rfl⟩
theorem wV (x y : BC) : decide (x = y) = (decide (x.Kind = y.Kind) && (decide (x.Attr = y.Attr) && decide (x.Values = y.Values))) := by
 rw [Bool.eq_iff_iff]; cases x; cases y; simp
theorem Dc {N : Nat} {x y : BC} (hx : Io x) (hN : 2000000 < N) : RI N x y = some (decide (x = y)) := by
 unfold RI
 rw [Vz hx.2.1 hN, wV, show (x.Kind == y.Kind) = decide (x.Kind = y.Kind) by rw [Bool.eq_iff_iff]; simp, show (x.Attr == y.Attr) = decide (x.Attr = y.Attr) by rw [Bool.eq_iff_iff]; simp]
 cases decide (x.Kind = y.Kind) <;> cases decide (x.Attr = y.Attr) <;> rfl
theorem Hg (N : Nat) (hN : 2000000 < N) : ∀ (b b' a a' : List BC) (n : Nat), a.length = a'.length → b.length = b'.length → (a ++ b).length ≤ 9223372036854775807 → b.length < n → (∀ m ∈ b, Io m) →
  BG N (a ++ b) (a' ++ b') n (a.length : Int) = some (bif decide (b = b') then .inl () else .inr false) := by
 intro b
 induction b with
 | nil =>
  intro b' a a' n ha hb hs hn _
  obtain ⟨n, rfl, _⟩ := fuel hn
  cases b' with
  | cons y b' => cases hb
  | nil =>
   simp only [BG, BU]
   rw [CZ, cond_false]; rfl
 | cons x b ih =>
  intro b' a a' n ha hb hs hn hm
  obtain ⟨n, rfl, hn'⟩ := fuel hn
  cases b' with
  | nil => cases hb
  | cons y b' =>
   have hi := ih b' (a ++ [x]) (a' ++ [y]) n (by simp [ha]) (by simpa using hb) (by simpa using hs) hn' (fun m h => hm m (List.mem_cons_of_mem _ h))
   rw [← EA, ← EA] at hi
   simp only [BG, BU]
   rw [D9, cond_true, DD, Option.bind_some, WH ha, Option.bind_some, Dc (hm x List.mem_cons_self) hN, Option.bind_some, DI (a := a) (b := b) (x := x) hs, hi, fM]
   cases decide (x = y) <;> rfl
theorem Wd {N : Nat} {l m : List BC} (hl : l.length ≤ 1000000) (hm : ∀ x ∈ l, Io x) (hN : 2000000 < N) : BZ N l m = some (decide (l = m)) := by
 unfold BZ
 rw [neL]
 by_cases h : l.length = m.length
 ·have := Hg N hN l m [] [] N rfl h (by simp; omega) (by omega) hm
  simp only [List.nil_append, List.length_nil] at this
  rw [decide_eq_true h, show ((0 : Int)) = ((0 : Nat) : Int) from rfl, this]
  cases decide (l = m) <;> rfl
 ·rw [decide_eq_false h, decide_eq_false (fun e => h (by rw [e]))]; rfl
theorem Ie (x y : AX) : decide (x = y) = (decide (x.CSN = y.CSN) && (decide (x.Kind = y.Kind) && (decide (x.ID = y.ID) && (decide (x.Parent = y.Parent) && (decide (x.RDN = y.RDN) && (decide (x.DelOld = y.DelOld) && decide (x.Mods = y.Mods))))))) := by
 rw [Bool.eq_iff_iff]; cases x; cases y; simp
theorem Pj (a b : Bool) : (a == b) = decide (a = b) := by cases a <;> cases b <;> rfl
theorem Be {N : Nat} {x y : AX} (hx : bnC x) (hN : 2000000 < N) : RV N x y = some (decide (x = y)) := by
 unfold RV
 rw [Wd hx.2.1 hx.2.2 hN, (Hf hx.1.1 hN).1, Ie]
 simp only [eqB]
 simp only [Option.bind_some, Ip, pJ, Pj]
theorem u7 (N : Nat) (c d : AX) (i0 : Int) (x y : BC) : ∀ (b b' a a' : List (List UInt8)) (n : Nat), x.Values = a ++ b → y.Values = a' ++ b' → a.length = a'.length → b.length = b'.length → (a ++ b).length ≤ 9223372036854775807 → b.length < n →
  DY N c d i0 x y n (a.length : Int) = some (bif decide (b = b') then .inl () else .inr false) := by
 intro b
 induction b with
 | nil =>
  intro b' a a' n hx hy ha hb hs hn
  obtain ⟨n, rfl, _⟩ := fuel hn
  cases b' with
  | cons y b' => cases hb
  | nil =>
   simp only [DY, GD]
   rw [hx, CZ, cond_false]; rfl
 | cons u b ih =>
  intro b' a a' n hx hy ha hb hs hn
  obtain ⟨n, rfl, hn'⟩ := fuel hn
  cases b' with
  | nil => cases hb
  | cons v b' =>
   have hi := ih b' (a ++ [u]) (a' ++ [v]) n (by rw [hx]; simp) (by rw [hy]; simp) (by simp [ha]) (by simpa using hb) (by simpa using hs) hn'
   simp only [DY, GD]
   rw [hx, hy, D9, cond_true, DD, Option.bind_some, WH ha, Option.bind_some, DI (a := a) (b := b) (x := u) hs, hi, fM, show (u == v) = decide (u = v) by rw [Bool.eq_iff_iff]; simp]
   cases decide (u = v) <;> rfl
theorem zJ (N : Nat) (hN : 2000000 < N) (c d : AX) : ∀ (b b' a a' : List BC) (n : Nat), c.Mods = a ++ b → d.Mods = a' ++ b' → a.length = a'.length → b.length = b'.length → (a ++ b).length ≤ 9223372036854775807 → b.length < n → (∀ m ∈ b, Io m) →
  DZ N c d n (a.length : Int) = some (bif decide (b = b') then .inl () else .inr false) := by
 intro b
 induction b with
 | nil =>
  intro b' a a' n hx hy ha hb hs hn _
  obtain ⟨n, rfl, _⟩ := fuel hn
  cases b' with
  | cons y b' => cases hb
  | nil =>
   simp only [DZ, GG]
   rw [hx, CZ, cond_false]; rfl
 | cons u b ih =>
  intro b' a a' n hx hy ha hb hs hn hm
  obtain ⟨n, rfl, hn'⟩ := fuel hn
  cases b' with
  | nil => cases hb
  | cons v b' =>
   have hi := ih b' (a ++ [u]) (a' ++ [v]) n (by rw [hx]; simp) (by rw [hy]; simp) (by simp [ha]) (by simpa using hb) (by simpa using hs) hn' (fun m h => hm m (List.mem_cons_of_mem _ h))
   simp only [DZ, GG]
   rw [hx, hy, D9, cond_true, DD, Option.bind_some, WH ha, Option.bind_some, DI (a := a) (b := b) (x := u) hs, hi, fM, wV, neI, neL, show (u.Attr == v.Attr) = decide (u.Attr = v.Attr) by rw [Bool.eq_iff_iff]; simp]
   cases decide (u.Kind = v.Kind)
   ·rfl
   ·cases decide (u.Attr = v.Attr)
    ·rfl
    ·by_cases hl : u.Values.length = v.Values.length
     ·have hu := (hm u List.mem_cons_self).2.1
      have hv := u7 N c d (a.length : Int) u v u.Values v.Values [] [] N rfl rfl rfl hl (by simp; omega) (by omega)
      simp only [List.length_nil] at hv
      rw [decide_eq_true hl, show ((0 : Int)) = ((0 : Nat) : Int) from rfl, hv]
      cases decide (u.Values = v.Values) <;> rfl
     ·rw [decide_eq_false hl, decide_eq_false (show ¬ u.Values = v.Values from fun e => hl (by rw [e]))]
      rfl
theorem uH {N : Nat} {x y : AX} (hx : bnC x) (hN : 2000000 < N) : GM N x y = some (decide (x = y)) := by
 unfold GM
 rw [(Hf hx.1.1 hN).2, Ie, neL]
 simp only [eqB]
 simp only [Option.bind_some, pJ, Pj, neI]
 by_cases hl : x.Mods.length = y.Mods.length
 ·have := zJ N hN x y x.Mods y.Mods [] [] N rfl rfl rfl hl (by have := hx.2.1; simp; omega) (by have := hx.2.1; omega) hx.2.2
  simp only [List.length_nil] at this
  rw [decide_eq_true hl, show ((0 : Int)) = ((0 : Nat) : Int) from rfl, this]
  cases decide (x.CSN = y.CSN) <;> cases decide (x.Kind = y.Kind) <;> cases decide (x.ID = y.ID) <;> cases decide (x.Parent = y.Parent) <;> cases decide (x.RDN = y.RDN) <;> cases decide (x.DelOld = y.DelOld) <;> cases decide (x.Mods = y.Mods) <;> rfl
 ·rw [decide_eq_false hl, decide_eq_false (show ¬ x.Mods = y.Mods from fun e => hl (by rw [e]))]
  cases decide (x.CSN = y.CSN) <;> cases decide (x.Kind = y.Kind) <;> cases decide (x.ID = y.ID) <;> cases decide (x.Parent = y.Parent) <;> cases decide (x.RDN = y.RDN) <;> cases decide (x.DelOld = y.DelOld) <;> rfl
def kH (m : BC) : Bool := decide (m.Attr.length ≤ 30) && (decide (m.Values.length ≤ 20) && m.Values.all (fun v => decide (v.length ≤ 80)))
def kJ (a : AP) : Bool := decide (a.Attr.length ≤ 30) && decide (a.Value.length ≤ 80)
def kI (c : AX) : Bool := c.Mods.all kH && (decide (c.Mods.length ≤ 14) && (c.RDN.all kJ && decide (c.RDN.length ≤ 6)))
theorem gtL (a k : Nat) : decide ((a : Int) > (k : Int)) = !decide (a ≤ k) := by rw [Bool.eq_iff_iff]; simp
theorem leL (a k : Nat) : decide ((a : Int) ≤ (k : Int)) = decide (a ≤ k) := by rw [Bool.eq_iff_iff]; simp
theorem Ar (N : Nat) (l : List BC) (k : Nat) (m : BC) (hk : l[k]? = some m) : ∀ (b a : List (List UInt8)) (n : Nat), m.Values = a ++ b → (a ++ b).length ≤ 9223372036854775807 → b.length < n →
  ET N l (k : Int) n (a.length : Int) = some (bif b.all (fun v => decide (v.length ≤ 80)) then .inl () else .inr false) := by
 intro b
 induction b with
 | nil =>
  intro a n he hs hn
  obtain ⟨n, rfl, _⟩ := fuel hn
  simp only [ET, H5]
  rw [UN hk, Option.bind_some, he, CZ, cond_false]; rfl
 | cons x b ih =>
  intro a n he hs hn
  obtain ⟨n, rfl, hn'⟩ := fuel hn
  have hi := ih (a ++ [x]) n (by rw [he]; simp) (by simpa using hs) hn'
  simp only [ET, H5]
  rw [UN hk, Option.bind_some, he, D9, cond_true, Option.bind_some, he, DD, Option.bind_some, DI (a := a) (b := b) (x := x) hs, hi, List.all_cons, show (80 : Int) = ((80 : Nat) : Int) from rfl, gtL]
  cases decide (x.length ≤ 80) <;> rfl
theorem Au (N : Nat) (hN2 : N ≤ 9223372036854775808) : ∀ (b a : List BC) (n : Nat), (a ++ b).length ≤ 9223372036854775807 → b.length < n → (∀ m ∈ b, m.Values.length < N) →
  F5 N (a ++ b) n (a.length : Int) = some (bif b.all kH then .inl () else .inr false) := by
 intro b
 induction b with
 | nil =>
  intro a n hs hn _
  obtain ⟨n, rfl, _⟩ := fuel hn
  simp only [F5, I1]
  rw [CZ, cond_false]; rfl
 | cons x b ih =>
  intro a n hs hn hm
  obtain ⟨n, rfl, hn'⟩ := fuel hn
  have hi := ih (a ++ [x]) n (by simpa using hs) hn' (fun y hy => hm y (List.mem_cons_of_mem _ hy))
  rw [← EA] at hi
  have hx := hm x List.mem_cons_self
  have hv := Ar N (a ++ x :: b) a.length x (O4 a b x) x.Values [] N rfl (by simp; omega) hx
  simp only [List.length_nil] at hv
  simp only [F5, I1]
  rw [D9, cond_true, DD, Option.bind_some, Option.bind_some, show (30 : Int) = ((30 : Nat) : Int) from rfl, gtL, show (20 : Int) = ((20 : Nat) : Int) from rfl, gtL, DI (a := a) (b := b) (x := x) hs, hi, List.all_cons, show ((0 : Int)) = ((0 : Nat) : Int) from rfl, hv]
  unfold kH
  cases decide (x.Attr.length ≤ 30) <;> cases decide (x.Values.length ≤ 20) <;> cases x.Values.all (fun v => decide (v.length ≤ 80)) <;> rfl
theorem Aw (N : Nat) : ∀ (b a : List AP) (n : Nat), (a ++ b).length ≤ 9223372036854775807 → b.length < n →
  FH N (a ++ b) n (a.length : Int) = some (bif b.all kJ then .inl () else .inr false) := by
 intro b
 induction b with
 | nil =>
  intro a n hs hn
  obtain ⟨n, rfl, _⟩ := fuel hn
  simp only [FH, II]
  rw [CZ, cond_false]; rfl
 | cons x b ih =>
  intro a n hs hn
  obtain ⟨n, rfl, hn'⟩ := fuel hn
  have hi := ih (a ++ [x]) n (by simpa using hs) hn'
  rw [← EA] at hi
  simp only [FH, II]
  rw [D9, cond_true, DD, Option.bind_some, Option.bind_some, show (30 : Int) = ((30 : Nat) : Int) from rfl, gtL, show (80 : Int) = ((80 : Nat) : Int) from rfl, gtL, DI (a := a) (b := b) (x := x) hs, hi, List.all_cons]
  unfold kJ
  cases decide (x.Attr.length ≤ 30) <;> cases decide (x.Value.length ≤ 80) <;> rfl
theorem Gy {N : Nat} {c : AX} (hN2 : N ≤ 9223372036854775808) (h1 : c.RDN.length < N) (h2 : c.Mods.length < N) (h3 : ∀ m ∈ c.Mods, m.Values.length < N) : JK N c = some (kI c) := by
 unfold JK NL OA kI
 have e1 := Au N hN2 c.Mods [] N (by simp; omega) h2 h3
 have e2 := Aw N c.RDN [] N (by simp; omega) h1
 simp only [List.nil_append, List.length_nil] at e1 e2
 rw [show ((0 : Int)) = ((0 : Nat) : Int) from rfl, e1, e2, show (14 : Int) = ((14 : Nat) : Int) from rfl, leL, show (6 : Int) = ((6 : Nat) : Int) from rfl, leL]
 cases c.Mods.all kH <;> cases decide (c.Mods.length ≤ 14) <;> cases c.RDN.all kJ <;> cases decide (c.RDN.length ≤ 6) <;> rfl
theorem Gz {c : AX} (h : kI c = true) : bnC c ∧ c.Mods.length ≤ 14 ∧ c.RDN.length ≤ 6 := by
 unfold kI at h
 simp only [Bool.and_eq_true, List.all_eq_true, decide_eq_true_eq] at h
 obtain ⟨h1, h2, h3, h4⟩ := h
 refine ⟨⟨⟨by omega, fun a ha => ?_⟩, ⟨by omega, fun m hm => ?_⟩⟩, h2, h4⟩
 ·have := h3 a ha
  unfold kJ at this
  simp only [Bool.and_eq_true, decide_eq_true_eq] at this
  exact ⟨by omega, by omega⟩
 ·have := h1 m hm
  unfold kH at this
  simp only [Bool.and_eq_true, decide_eq_true_eq, List.all_eq_true] at this
  exact ⟨by omega, by omega, fun v hv => by have := this.2.2 v hv; omega⟩
def Fit (N d : Nat) (e : A8) : Prop := ∀ n, d ≤ n → KQ N n e = some true ∧ (∃ k : Nat, k ≤ d ∧ OZ N n e = some (k : Int)) ∧ ∃ s b, NT N n e = some (s, b) ∧ s.length ≤ 4010
theorem Fit.mono {N d d' : Nat} {e : A8} (h : Fit N d e) (hd : d ≤ d') : Fit N d' e := fun n hn => by
 obtain ⟨h1, ⟨k, hk, h2⟩, h3⟩ := h n (by omega)
 exact ⟨h1, ⟨k, by omega, h2⟩, h3⟩
theorem rV (N : Nat) (f : A8 → Option Bool) : ∀ (b a : List A8) (n : Nat), (a ++ b).length ≤ 9223372036854775807 → b.length < n → (∀ e ∈ b, f e = some true) →
  BJ N f (a ++ b) n (a.length : Int) = some (.inl ()) := by
 intro b
 induction b with
 | nil =>
  intro a n hs hn _
  obtain ⟨n, rfl, _⟩ := fuel hn
  simp only [BJ, CE]
  rw [CZ, cond_false]
 | cons x b ih =>
  intro a n hs hn hf
  obtain ⟨n, rfl, hn'⟩ := fuel hn
  have hi := ih (a ++ [x]) n (by simpa using hs) hn' (fun y hy => hf y (List.mem_cons_of_mem _ hy))
  rw [← EA] at hi
  simp only [BJ, CE, XF]
  rw [D9, cond_true, DD, Option.bind_some, hf x List.mem_cons_self, Option.bind_some, DI (a := a) (b := b) (x := x) hs, hi]
  rfl
theorem Ba (N d : Nat) (f : A8 → Option Int) : ∀ (b a : List A8) (v : Nat) (n : Nat), (a ++ b).length ≤ 9223372036854775807 → b.length < n → v ≤ d → (∀ e ∈ b, ∃ k : Nat, k ≤ d ∧ f e = some (k : Int)) →
  ∃ k : Nat, k ≤ d ∧ NS N f (a ++ b) n ((v : Int), (a.length : Int)) = some (k : Int) := by
 intro b
 induction b with
 | nil =>
  intro a v n hs hn hv _
  obtain ⟨n, rfl, _⟩ := fuel hn
  simp only [NS, RJ]
  rw [CZ, cond_false]; exact ⟨v, hv, rfl⟩
 | cons x b ih =>
  intro a v n hs hn hv hf
  obtain ⟨n, rfl, hn'⟩ := fuel hn
  obtain ⟨k, hk, hx⟩ := hf x List.mem_cons_self
  simp only [NS, RJ]
  rw [D9, cond_true, DD, Option.bind_some, hx, Option.bind_some, DI (a := a) (b := b) (x := x) hs, show mx (v : Int) (k : Int) = ((if k > v then k else v : Nat) : Int) by unfold mx; split <;> split <;> omega]
  obtain ⟨j, hj, hi⟩ := ih (a ++ [x]) (if k > v then k else v) n (by simpa using hs) hn' (by split <;> omega) (fun y hy => hf y (List.mem_cons_of_mem _ hy))
  rw [← EA] at hi
  exact ⟨j, hj, hi⟩
theorem vN (N : Nat) (f : A8 → Option (List UInt8 × Bool)) (e0 : A8) : ∀ (b a : List A8) (o : List UInt8) (n : Nat), (a ++ b).length ≤ 9223372036854775807 → b.length < n → o.length ≤ 1000000 → (∀ e ∈ b, ∃ s t, f e = some (s, t) ∧ s.length ≤ 4010) →
  ∃ y, ME N f e0 (a ++ b) n ((a.length : Int), o) = some y ∧ (y = .inr ([], false) ∨ ∃ l, y = .inl l ∧ l.length ≤ 1000000) := by
 intro b
 induction b with
 | nil =>
  intro a o n hs hn ho _
  obtain ⟨n, rfl, _⟩ := fuel hn
  simp only [ME, QJ]
  rw [CZ, cond_false]; exact ⟨_, rfl, .inr ⟨o, rfl, ho⟩⟩
 | cons x b ih =>
  intro a o n hs hn ho hf
  obtain ⟨n, rfl, hn'⟩ := fuel hn
  obtain ⟨s, t, hx, hl⟩ := hf x List.mem_cons_self
  simp only [ME, QJ]
  rw [D9, cond_true, DD, Option.bind_some, hx, Option.bind_some, aI (by omega) (by simp only; omega)]
  cases t
  ·exact ⟨_, rfl, .inl rfl⟩
  ·simp only [Bool.not_true, cond_false, Option.bind_some]
   by_cases hc : (o.length : Int) + (s.length : Int) > 4000
   ·rw [decide_eq_true hc]; exact ⟨_, rfl, .inl rfl⟩
   ·rw [decide_eq_false hc, cond_false, KY (by omega), Option.bind_some, DI (a := a) (b := b) (x := x) hs]
    obtain ⟨y, hy, hr⟩ := ih (a ++ [x]) (o ++ s) n (by simpa using hs) hn' (by simp; omega) (fun y hy => hf y (List.mem_cons_of_mem _ hy))
    rw [← EA] at hy
    exact ⟨y, hy, hr⟩
theorem zV (N : Nat) (n : Int) : ∃ l, XE N n = some l ∧ l.length ≤ 3 := by
 unfold XE
 by_cases h : n < 128
 ·rw [decide_eq_true h]; exact ⟨_, rfl, by simp⟩
 ·by_cases h2 : n < 256
  ·rw [decide_eq_false h, decide_eq_true h2]; exact ⟨_, rfl, by simp⟩
  ·rw [decide_eq_false h, decide_eq_false h2]; exact ⟨_, rfl, by simp⟩
theorem qV {N d : Nat} {e : A8} {l : List A8} (hk : e.Kids = List.map AA l) (hl : l.length ≤ 2000000) (hd : d ≤ 1000000) (hb : e.Body.length ≤ 1000000) (hN : 2000000 < N) (hf : ∀ x ∈ l, Fit N d x)
  (ht : ∀ n, (∀ x ∈ l, KQ N n x = some true) → QI N (KQ N n) e = some true) : Fit N (d + 1) e := by
 intro m hm
 obtain ⟨m, rfl⟩ : ∃ k, m = k + 1 := ⟨m - 1, by omega⟩
 have hF := fun x hx => hf x hx m (by omega)
 have hdec : U2 CU e.Kids = some l := by rw [hk]; exact kN XQ l
 refine ⟨ht m (fun x hx => (hF x hx).1), ?_, ?_⟩
 ·show ∃ k : Nat, k ≤ d + 1 ∧ XG N (OZ N m) e = some (k : Int)
  unfold XG
  rw [hdec, Option.bind_some]
  obtain ⟨k, hk, h⟩ := Ba N d (OZ N m) l [] 0 N (by simp; omega) (by omega) (Nat.zero_le _) (fun x hx => (hF x hx).2.1)
  simp only [List.nil_append, List.length_nil] at h
  rw [show ((0 : Int)) = ((0 : Nat) : Int) from rfl, h, Option.bind_some, JM (by omega)]
  exact ⟨k + 1, by omega, rfl⟩
 ·show ∃ s b, UZ N (NT N m) e = some (s, b) ∧ s.length ≤ 4010
  unfold UZ
  rw [hdec, Option.bind_some]
  obtain ⟨y, h, hy⟩ := vN N (NT N m) e l [] e.Body N (by simp; omega) (by omega) hb (fun x hx => (hF x hx).2.2)
  simp only [List.nil_append, List.length_nil] at h
  rw [show ((0 : Int)) = ((0 : Nat) : Int) from rfl, h, Option.bind_some]
  rcases hy with rfl | ⟨o, rfl, ho⟩
  ·exact ⟨_, _, rfl, by simp⟩
  ·simp only [Sum.elim_inl]
   by_cases hc : (o.length : Int) > 4000
   ·rw [decide_eq_true hc]; exact ⟨_, _, rfl, by simp⟩
   ·obtain ⟨q, hq, hql⟩ := zV N (o.length : Int)
    rw [decide_eq_false hc, cond_false, hq, Option.bind_some, ZF (by simp; omega), Option.bind_some, ZF (by simp; omega), Option.bind_some]
    exact ⟨_, _, rfl, by simp; omega⟩
theorem qZ {N : Nat} {t : UInt8} {s : List UInt8} (h1 : ((((t &&& (31 : UInt8))).toNat : Int) == (31 : Int)) = false) (h2 : ((((t &&& (32 : UInt8))).toNat : Int) == (0 : Int)) = true) (hs : s.length ≤ 1000000) (hN : 2000000 < N) : Fit N 1 ⟨t, s, []⟩ := by
 refine qV (d := 0) (l := []) rfl (by simp) (by omega) hs hN (fun x hx => by cases hx) fun n _ => ?_
 unfold QI
 rw [h1, h2]
 rfl
theorem dE {N d : Nat} {l : List A8} (hl : l.length ≤ 2000000) (hd : d ≤ 1000000) (hN : 2000000 < N) (hf : ∀ x ∈ l, Fit N d x) : Fit N (d + 1) ⟨48, [], List.map AA l⟩ := by
 refine qV (l := l) rfl hl hd (by simp) hN hf fun n hfo => ?_
 unfold QI D7 DF
 have h := rV N (KQ N n) l [] N (by simp; omega) (by omega) hfo
 simp only [List.nil_append, List.length_nil] at h
 simp only [kN XQ l, Option.bind_some]
 rw [show ((((48 : UInt8) &&& (31 : UInt8)).toNat : Int) == (31 : Int)) = false from by decide, show ((((48 : UInt8) &&& (32 : UInt8)).toNat : Int) == (0 : Int)) = false from by decide, show ((0 : Int)) = ((0 : Nat) : Int) from rfl, h]
 rfl
theorem Cc {N d : Nat} {e : A8} (hd : d ≤ 20) (hN : 2000000 < N) (h : Fit N d e) : ∃ s k, ZI N e = some (s, k) ∧ (k = 0 ∨ k = 13) := by
 obtain ⟨h1, ⟨k, hk, h2⟩, s, b, h3, h4⟩ := h N (by omega)
 unfold ZI bJ kX fJ
 rw [h1, Option.bind_some, h2, Option.bind_some, h3, Option.bind_some, decide_eq_false (by omega)]
 cases b
 ·exact ⟨_, _, rfl, .inr rfl⟩
 ·exact ⟨_, _, rfl, .inl rfl⟩
theorem tL {N : Nat} (hN : 2000000 < N) {k : Int} (h0 : -4 ≤ k) (h1 : k ≤ 4) : VU N k = some [byte k] := by
 obtain ⟨n, rfl⟩ : ∃ n, N = n + 1 := ⟨N - 1, by omega⟩
 unfold VU
 rw [PY]
 have hk : k = -4 ∨ k = -3 ∨ k = -2 ∨ k = -1 ∨ k = 0 ∨ k = 1 ∨ k = 2 ∨ k = 3 ∨ k = 4 := by omega
 rcases hk with rfl | rfl | rfl | rfl | rfl | rfl | rfl | rfl | rfl <;> rfl
theorem wU {N : Nat} (hN : 2000000 < N) {k : Int} (h0 : -4 ≤ k) (h1 : k ≤ 4) : ∃ e, PX N 2 k = some e ∧ Fit N 1 e := by
 unfold PX J5
 rw [tL hN h0 h1]
 exact ⟨_, rfl, qZ (by decide) (by decide) (by simp) hN⟩
theorem bX {N : Nat} (hN : 2000000 < N) {s : List UInt8} (hs : s.length ≤ 1000000) : Fit N 1 ⟨4, s, []⟩ := qZ (by decide) (by decide) hs hN
theorem Lm {c : AR} (h : uL c) : intC c := by
 obtain ⟨h1, h2, h3, h4, h5, h6⟩ := h
 exact ⟨⟨by omega, by omega⟩, ⟨by omega, by omega⟩, ⟨by omega, by omega⟩⟩
theorem oZ {N : Nat} (hN : 2000000 < N) {c : AR} (h : uL c) : ∃ e, ML N c = some e ∧ Fit N 1 e := by
 unfold ML J5
 rw [Ku (Lm h)]
 exact ⟨_, rfl, bX hN (by have := zB c; omega)⟩
theorem Bl (N : Nat) (hN : 2000000 < N) (c : AX) : ∀ (b a : List AP) (o : List A8) (n : Nat), c.RDN = a ++ b → (a ++ b).length ≤ 1000000 → b.length < n → (∀ x ∈ b, bnA x) → o.length = 2 * a.length → (∀ e ∈ o, Fit N 1 e) →
  ∃ l, IE N c n ((a.length : Int), o) = some l ∧ l.length = 2 * (a ++ b).length ∧ ∀ e ∈ l, Fit N 1 e := by
 intro b
 induction b with
 | nil =>
  intro a o n he hs hn hb ho hf
  obtain ⟨n, rfl, _⟩ := fuel hn
  simp only [IE, M8]
  rw [he, CZ, cond_false]; exact ⟨o, rfl, by simpa using ho, hf⟩
 | cons x b ih =>
  intro a o n he hs hn hb ho hf
  obtain ⟨n, rfl, hn'⟩ := fuel hn
  have hx := hb x List.mem_cons_self
  have hs' := hs
  simp only [List.length_append, List.length_cons] at hs'
  simp only [IE, M8, J5]
  rw [he, D9, cond_true, DD, Option.bind_some, Option.bind_some, Option.bind_some, KY (by simp; omega), Option.bind_some, DI (a := a) (b := b) (x := x) (by omega)]
  obtain ⟨l, hl, h1, h2⟩ := ih (a ++ [x]) (o ++ [⟨4, x.Attr, []⟩, ⟨4, x.Value, []⟩]) n (by rw [he]; simp) (by simpa using hs) hn' (fun y hy => hb y (List.mem_cons_of_mem _ hy)) (by simp; omega) (fun e h => by
   rcases List.mem_append.1 h with h | h
   ·exact hf e h
   ·rcases List.mem_cons.1 h with rfl | h
    ·exact bX hN hx.1
    ·rcases List.mem_cons.1 h with rfl | h
     ·exact bX hN hx.2
     ·cases h)
  exact ⟨l, hl, by simpa using h1, h2⟩
theorem Bh (N : Nat) (hN : 2000000 < N) (c : AX) (y3 r : List A8) (v : Int) (m : BC) : ∀ (b a : List (List UInt8)) (o : List A8) (n : Nat), m.Values = a ++ b → (a ++ b).length ≤ 1000000 → b.length < n → (∀ x ∈ b, x.length ≤ 1000000) → o.length = a.length + 2 → (∀ e ∈ o, Fit N 1 e) →
  ∃ l, IA N c y3 v r m n ((a.length : Int), o) = some l ∧ l.length = (a ++ b).length + 2 ∧ ∀ e ∈ l, Fit N 1 e := by
 intro b
 induction b with
 | nil =>
  intro a o n he hs hn hb ho hf
  obtain ⟨n, rfl, _⟩ := fuel hn
  simp only [IA, M6]
  rw [he, CZ, cond_false]; exact ⟨o, rfl, by simpa using ho, hf⟩
 | cons x b ih =>
  intro a o n he hs hn hb ho hf
  obtain ⟨n, rfl, hn'⟩ := fuel hn
  have hx := hb x List.mem_cons_self
  have hs' := hs
  simp only [List.length_append, List.length_cons] at hs'
  simp only [IA, M6, J5]
  rw [he, D9, cond_true, DD, Option.bind_some, Option.bind_some, KY (by simp; omega), Option.bind_some, DI (a := a) (b := b) (x := x) (by omega)]
  obtain ⟨l, hl, h1, h2⟩ := ih (a ++ [x]) (o ++ [⟨4, x, []⟩]) n (by rw [he]; simp) (by simpa using hs) hn' (fun y hy => hb y (List.mem_cons_of_mem _ hy)) (by simp; omega) (fun e h => by
   rcases List.mem_append.1 h with h | h
   ·exact hf e h
   ·rcases List.mem_cons.1 h with rfl | h
    ·exact bX hN hx
    ·cases h)
  exact ⟨l, hl, by simpa using h1, h2⟩
theorem Bn (N : Nat) (hN : 2000000 < N) (c : AX) (y3 : List A8) : ∀ (b a : List BC) (o : List A8) (n : Nat), c.Mods = a ++ b → (a ++ b).length ≤ 1000000 → b.length < n → (∀ m ∈ b, Io m ∧ 1 ≤ m.Kind ∧ m.Kind ≤ 3) → o.length = a.length → (∀ e ∈ o, Fit N 2 e) →
  ∃ l, IB N c y3 n ((a.length : Int), o) = some l ∧ l.length = (a ++ b).length ∧ ∀ e ∈ l, Fit N 2 e := by
 intro b
 induction b with
 | nil =>
  intro a o n he hs hn hb ho hf
  obtain ⟨n, rfl, _⟩ := fuel hn
  simp only [IB, M7]
  rw [he, CZ, cond_false]; exact ⟨o, rfl, by simpa using ho, hf⟩
 | cons x b ih =>
  intro a o n he hs hn hb ho hf
  obtain ⟨n, rfl, hn'⟩ := fuel hn
  obtain ⟨hx, hx1, hx2⟩ := hb x List.mem_cons_self
  have hs' := hs
  simp only [List.length_append, List.length_cons] at hs'
  obtain ⟨e, hke, hkf⟩ := wU hN (k := x.Kind) (by omega) (by omega)
  simp only [IB, M7, J5, OX]
  rw [he, D9, cond_true, DD, Option.bind_some, hke, Option.bind_some, Option.bind_some]
  obtain ⟨l, hl, h1, h2⟩ := Bh N hN c y3 o (a.length : Int) x x.Values [] [e, ⟨4, x.Attr, []⟩] N rfl (by simpa using hx.2.1) (by have := hx.2.1; omega) hx.2.2 rfl (fun q hq => by
   rcases List.mem_cons.1 hq with rfl | hq
   ·exact hkf
   ·rcases List.mem_cons.1 hq with rfl | hq
    ·exact bX hN hx.1
    ·cases hq)
  simp only [List.length_nil, List.nil_append] at hl h1
  rw [show ((0 : Int)) = ((0 : Nat) : Int) from rfl, hl, Option.bind_some, Option.bind_some, KY (by simp; omega), Option.bind_some, DI (a := a) (b := b) (x := x) (by omega)]
  have hv := hx.2.1
  have hlen : l.length ≤ 1000002 := by omega
  obtain ⟨r, hr, h3, h4⟩ := ih (a ++ [x]) (o ++ [⟨48, [], List.map AA l⟩]) n (by rw [he]; simp) (by simpa using hs) hn' (fun y hy => hb y (List.mem_cons_of_mem _ hy)) (by simp; omega) (fun q h => by
   rcases List.mem_append.1 h with h | h
   ·exact hf q h
   ·rcases List.mem_cons.1 h with rfl | h
    ·exact dE (d := 1) (by omega) (by omega) hN h2
    ·cases h)
  exact ⟨r, hr, by simpa using h3, h4⟩
theorem Ak {c : AX} (h : lN c = true) : uL c.CSN ∧ uL c.ID ∧ uL c.Parent ∧ (1 ≤ c.Kind ∧ c.Kind ≤ 4) ∧ ∀ m ∈ c.Mods, 1 ≤ m.Kind ∧ m.Kind ≤ 3 := by
 unfold lN at h
 simp only [Bool.and_eq_true, decide_eq_true_eq] at h
 obtain ⟨h1, _, h2, h3, h4⟩ := h
 refine ⟨h1, h2, h3, ?_⟩
 have hmods : ∀ last, last ≤ 3 → U8 last c.Mods = true → ∀ m ∈ c.Mods, 1 ≤ m.Kind ∧ m.Kind ≤ 3 := by
  intro last hl hm m hmm
  unfold U8 at hm
  simp only [Bool.and_eq_true, List.all_eq_true] at hm
  have := hm.1 m hmm
  unfold ZX at this
  split at this
  ·cases this
  ·simp only [Bool.and_eq_true, decide_eq_true_eq] at this
   exact ⟨this.2.2.1, by omega⟩
 have hnil : c.Mods.length = 0 → ∀ m ∈ c.Mods, 1 ≤ m.Kind ∧ m.Kind ≤ 3 := by
  intro h m hm
  rw [List.length_eq_zero_iff.1 h] at hm
  cases hm
 unfold wY at h4
 by_cases k1 : c.Kind = 1
 ·rw [show (c.Kind == 1) = true by simpa using k1, cond_true] at h4
  simp only [Bool.and_eq_true] at h4
  exact ⟨by omega, hmods 1 (by omega) h4.2.2.2.1⟩
 ·rw [show (c.Kind == 1) = false by simpa using k1, cond_false] at h4
  by_cases k2 : c.Kind = 2
  ·rw [show (c.Kind == 2) = true by simpa using k2, cond_true] at h4
   simp only [Bool.and_eq_true, decide_eq_true_eq] at h4
   exact ⟨by omega, hnil h4.2.2.2⟩
  ·rw [show (c.Kind == 2) = false by simpa using k2, cond_false] at h4
   by_cases k3 : c.Kind = 3
   ·rw [show (c.Kind == 3) = true by simpa using k3, cond_true] at h4
    simp only [Bool.and_eq_true] at h4
    exact ⟨by omega, hmods 3 (by omega) h4.2.2.2⟩
   ·rw [show (c.Kind == 3) = false by simpa using k3, cond_false] at h4
    by_cases k4 : c.Kind = 4
    ·rw [show (c.Kind == 4) = true by simpa using k4, cond_true] at h4
     simp only [Bool.and_eq_true, decide_eq_true_eq] at h4
     exact ⟨by omega, hnil h4.2.2.2.2⟩
    ·rw [show (c.Kind == 4) = false by simpa using k4, cond_false] at h4
     cases h4
theorem sP {N : Nat} (hN : 2000000 < N) {c : AX} (h1 : uL c.CSN) (h2 : uL c.ID) (h3 : uL c.Parent) {k : Int} (h0 : -4 ≤ k) (h4 : k ≤ 4) {l m : List A8} (hl : l.length ≤ 1000000 * 2) (hm : m.length ≤ 1000000) (fl : ∀ e ∈ l, Fit N 1 e) (fm : ∀ e ∈ m, Fit N 2 e) :
  ∃ s j, LB c N l m k = some (s, j) ∧ ((j = 0 ∧ s.length ≤ 4000) ∨ j = 13) := by
 obtain ⟨e1, g1, f1⟩ := wU hN h0 h4
 obtain ⟨e2, g2, f2⟩ := oZ hN h1
 obtain ⟨e3, g3, f3⟩ := oZ hN h2
 obtain ⟨e4, g4, f4⟩ := oZ hN h3
 unfold LB
 rw [g1, Option.bind_some, show (⟨c.CSN.Time, c.CSN.Seq, c.CSN.Rep⟩ : AR) = c.CSN from rfl, g2, Option.bind_some, show (⟨c.ID.Time, c.ID.Seq, c.ID.Rep⟩ : AR) = c.ID from rfl, g3, Option.bind_some, show (⟨c.Parent.Time, c.Parent.Seq, c.Parent.Rep⟩ : AR) = c.Parent from rfl, g4, Option.bind_some]
 unfold OX
 simp only [Option.bind_some]
 have hf : Fit N 4 ⟨48, [], List.map AA [e1, e2, e3, e4, ⟨48, [], List.map AA l⟩, ⟨48, [], List.map AA m⟩]⟩ := by
  refine dE (d := 3) (by simp) (by omega) hN fun x hx => ?_
  simp only [List.mem_cons, List.not_mem_nil, or_false] at hx
  rcases hx with rfl | rfl | rfl | rfl | rfl | rfl
  ·exact f1.mono (by omega)
  ·exact f2.mono (by omega)
  ·exact f3.mono (by omega)
  ·exact f4.mono (by omega)
  ·exact (dE (d := 1) (by omega) (by omega) hN fl).mono (by omega)
  ·exact dE (d := 2) (by omega) (by omega) hN fm
 obtain ⟨s, j, hw, hj⟩ := Cc (by omega) hN hf
 rw [hw, Option.bind_some]
 rcases hj with rfl | rfl
 ·by_cases hc : (s.length : Int) > 4000
  ·simp only [decide_eq_true hc]; exact ⟨_, _, rfl, .inr rfl⟩
  ·simp only [decide_eq_false hc]; exact ⟨_, _, rfl, .inl ⟨rfl, by omega⟩⟩
 ·exact ⟨_, _, rfl, .inr rfl⟩
theorem Il {N : Nat} {c : AX} (hN : 2000000 < N) (hN2 : N ≤ 9223372036854775808) (h : bnC c) :
  ∃ s j, M9 N c = some (s, j) ∧ (lN c = true → (j = 0 ∧ s.length ≤ 4000) ∨ j = 13) ∧ (lN c = false → s = [] ∧ j = 14) := by
 unfold M9
 rw [yQ hN hN2 h, Option.bind_some]
 cases hc : lN c with
 | false => exact ⟨_, _, rfl, (fun h => by cases h), fun _ => ⟨rfl, rfl⟩⟩
 | true =>
  obtain ⟨k1, k2, k3, k4, k5⟩ := Ak hc
  obtain ⟨l, hl, l1, l2⟩ := Bl N hN c c.RDN [] [] N rfl (by simpa using h.1.1) (by have := h.1.1; omega) h.1.2 rfl (fun e he => by cases he)
  obtain ⟨m, hm, m1, m2⟩ := Bn N hN c l c.Mods [] [] N rfl (by simpa using h.2.1) (by have := h.2.1; omega) (fun q hq => ⟨h.2.2 q hq, k5 q hq⟩) rfl (fun e he => by cases he)
  simp only [List.length_nil, List.nil_append] at hl l1 hm m1
  rw [show ((0 : Int)) = ((0 : Nat) : Int) from rfl, hl]
  simp only [Bool.not_true, cond_false, Option.bind_some]
  rw [hm, Option.bind_some]
  have b1 := h.1.1
  have b2 := h.2.1
  cases c.DelOld
  ·obtain ⟨s, j, hs, hj⟩ := sP hN k1 k2 k3 (k := c.Kind) (by omega) (by omega) (l := l) (m := m) (by omega) (by omega) l2 m2
   exact ⟨s, j, hs, fun _ => hj, (fun h => by cases h)⟩
  ·obtain ⟨s, j, hs, hj⟩ := sP hN k1 k2 k3 (k := BQ (((0 : Nat) : Int) - c.Kind)) (by rw [aI (by omega) (by omega)]; omega) (by rw [aI (by omega) (by omega)]; omega) (l := l) (m := m) (by omega) (by omega) l2 m2
   exact ⟨s, j, hs, fun _ => hj, (fun h => by cases h)⟩
end Go.Gp
end
section
set_option linter.unusedVariables false
namespace Go.Gp
open Go.Vd
theorem uZ : OY 9223372036854775808 = some true := by decide +kernel
end Go.Gp
end
section
set_option linter.unusedVariables false
set_option linter.unusedSimpArgs false
namespace Go.Gp
open Go.Vd
theorem Pm {N : Nat} {c : AX} (hN : N = 9223372036854775808) (h : TD c) : JK N c = some (kI c) := by
 obtain ⟨_, _, _, _, h1, _, h2⟩ := h
 unfold maxLen at h1 h2
 refine Gy (by omega) (by have := h1.1; omega) (by have := h2.1; omega) fun m hm => ?_
 have := (h2.2 m hm).2.2.1
 unfold maxLen at this
 omega
theorem SC (a0 a1 : AX) (h0 : TD a0) (h1 : TD a1) : ∃ N, KS N a0 a1 = some true := by
 refine ⟨9223372036854775808, ?_⟩
 unfold KS
 rw [uZ, Option.bind_some, Pm rfl h0, Option.bind_some, Pm rfl h1]
 simp only [Bool.not_true, cond_false]
 cases f0 : kI a0
 case false => rfl
 cases f1 : kI a1
 case false => rfl
 have g0 := (Gz f0).1
 obtain ⟨s, j, hb, t1, t2⟩ := Il (N := 9223372036854775808) (by omega) (Nat.le_refl _) g0
 simp only [Bool.not_true, cond_false, Option.bind_some]
 rw [hb, yQ (by omega) (Nat.le_refl _) g0, Dm (by omega) (Nat.le_refl _) g0, Be g0 (by omega), uH g0 (by omega)]
 simp only [Option.bind_some, BEq.rfl, cond_true]
 cases hc : lN a0 with
 | false => rw [(t2 hc).2]; rfl
 | true => rcases t1 hc with ⟨rfl, _⟩ | rfl <;> rfl
end Go.Gp
end
