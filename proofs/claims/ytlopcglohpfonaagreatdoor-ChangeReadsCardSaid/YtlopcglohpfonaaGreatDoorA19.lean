/- A part of the proof: functions of the program and what they compute. -/
import Derived.Test.YtlopcglohpfonaaGreatDoorA18
import Derived.Test.YtlopcglohpfonaaGreatDoorA4
import Derived.Test.YtlopcglohpfonaaGreatDoorA5
import Derived.Test.YtlopcglohpfonaaGreatDoorA17
section
set_option linter.unusedVariables false
set_option linter.unusedSimpArgs false
namespace Go.Gp
open Go.Vd
def nC (k : UInt8) : List UInt8 → Option (List UInt8 × List UInt8)
 | [] => none
 | c :: s => if c = k then some ([], s) else (nC k s).map fun x => (c :: x.1, x.2)
theorem gG {k : UInt8} {s a v : List UInt8} (h : nC k s = some (a, v)) : s = a ++ k :: v := by
 induction s generalizing a v with
 | nil => cases h
 | cons c s ih =>
  unfold nC at h
  split at h
  ·rename_i hc; subst hc; cases h; rfl
  ·rw [Option.map_eq_some_iff] at h
   obtain ⟨⟨a', v'⟩, h1, h2⟩ := h
   cases h2
   rw [ih h1]; rfl
theorem gY (k : UInt8) : ∀ s : List UInt8, Lib.indexByte s k = match nC k s with | some x => (x.1.length : Int) | none => -1
 | [] => rfl
 | c :: s => by
  rw [Lib.indexByte, nC, gY k s]
  by_cases h : c = k
  ·subst h; simp
  ·have : (c == k) = false := by simpa using h
   rw [if_neg h]
   simp only [this]
   cases nC k s with
   | none => simp
   | some x => simp <;> omega
def splitN (k : UInt8) : Nat → List UInt8 → List (List UInt8)
 | 0, s => [s]
 | n + 1, s => match nC k s with
  | none => [s]
  | some x => x.1 :: splitN k n x.2
theorem aV (k : UInt8) : ∀ (n : Nat) (s : List UInt8), (splitN k n s).length ≤ n + 1 ∧ (∀ x ∈ splitN k n s, x.length ≤ s.length)
 | 0, s => by simp [splitN]
 | n + 1, s => by
  rw [splitN]
  cases h : nC k s with
  | none => simp
  | some x =>
   obtain ⟨a, v⟩ := x
   have e := gG h
   obtain ⟨h1, h2⟩ := aV k n v
   refine ⟨by simp; omega, fun y hy => ?_⟩
   rcases List.mem_cons.1 hy with rfl | hy
   ·rw [e]; simp
   ·have := h2 y hy; rw [e]; simp; omega
theorem jM (k : UInt8) : ∀ (n m : Nat) (s : List UInt8), s.length ≤ n → s.length ≤ m → splitN k n s = splitN k m s
 | 0, 0, s, _, _ => rfl
 | 0, m + 1, s, h, _ => by
  have : s = [] := List.length_eq_zero_iff.1 (by omega)
  subst this; rfl
 | n + 1, 0, s, _, h => by
  have : s = [] := List.length_eq_zero_iff.1 (by omega)
  subst this; rfl
 | n + 1, m + 1, s, h1, h2 => by
  rw [splitN, splitN]
  cases h : nC k s with
  | none => rfl
  | some x =>
   obtain ⟨a, v⟩ := x
   have e := congrArg List.length (gG h)
   simp at e
   simp only
   rw [jM k n m v (by omega) (by omega)]
theorem Iw (N : Nat) (a0 : List UInt8) (k : UInt8) (v3 : Int) (mx : Nat) (hmx : BM (mn v3 (BM ((a0.length : Int) + 1)) - 1) = (mx : Int)) (hm : mx ≤ 1000000) : ∀ (c : Nat) (d : List (List UInt8)) (s : List UInt8) (n : Nat), d.length + c = mx → c < n → s.length ≤ 1000000 →
  ∃ (s' : List UInt8) (d' : List (List UInt8)) (c' : Nat), FX N a0 [k] 0 v3 n (s, (d.length : Int), d ++ List.replicate (c + 1) []) = some (s', (d'.length : Int), d' ++ List.replicate (c' + 1) []) ∧ d' ++ [s'] = d ++ splitN k c s := by
 intro c
 induction c with
 | zero =>
  intro d s n hd hn hs
  obtain ⟨n, rfl, _⟩ := fuel hn
  simp only [FX, JO]
  rw [hmx, decide_eq_false (by omega), cond_false]
  exact ⟨s, d, 0, rfl, rfl⟩
 | succ c ih =>
  intro d s n hd hn hs
  obtain ⟨n, rfl, hn'⟩ := fuel hn
  simp only [FX, JO]
  rw [hmx, decide_eq_true (by omega), cond_true]
  unfold strings_Index stringslite_Index
  simp only [oS]
  rw [gY, splitN]
  cases h : nC k s with
  | none =>
   refine ⟨s, d, c + 1, ?_, rfl⟩
   simp
  | some x =>
   obtain ⟨a, v⟩ := x
   have e := gG h
   have el := congrArg List.length e
   simp at el
   simp only
   have hchk : OV (d.length : Int) (d ++ List.replicate (c + 1 + 1) ([] : List UInt8)).length = some d.length := UN (by simp)
   have hget : (d ++ List.replicate (c + 1 + 1) ([] : List UInt8))[d.length]? = some [] := by
    rw [List.replicate_succ]; exact L9 d _ _
   have hset : ∀ y, (d ++ List.replicate (c + 1 + 1) ([] : List UInt8)).set d.length y = (d ++ [y]) ++ List.replicate (c + 1) [] := by
    intro y
    rw [List.replicate_succ, set_mid]; simp
   rw [decide_eq_false (by omega), cond_false, show (a.length : Int) + 0 = (a.length : Int) by omega, xL (by omega), RQ (by omega), oS, hchk, oS, hget, oS,
    show ((([k] : List UInt8).length : Int)) = 1 from rfl, GA (by omega), QF (by omega), oS, GA (by omega), hset]
   have ht : s.take a.length = a := by rw [e, List.take_left' rfl]
   have hdr : s.drop (a.length + 1) = v := by rw [e, EN, List.drop_left' (by simp)]
   rw [ht, hdr]
   obtain ⟨s', d', c', h1, h2⟩ := ih (d ++ [a]) v n (by simp; omega) (by omega) (by omega)
   refine ⟨s', d', c', ?_, ?_⟩
   ·rw [← h1]; simp
   ·rw [h2]; simp
theorem gen_j (N : Nat) (s : List UInt8) (k : UInt8) (n : Nat) (hn : 1 ≤ n) (hn2 : n ≤ 1000000) (hs : s.length ≤ 1000000) (hN : 2000000 < N) : IW s [k] 0 N (n : Int) = some (splitN k (n - 1) s) := by
 unfold IW
 have hmn : mn (n : Int) (BM ((s.length : Int) + 1)) = ((min n (s.length + 1) : Nat) : Int) := by
  rw [GA (by omega)]
  unfold mn
  split <;> omega
 have hmx : BM (mn (n : Int) (BM ((s.length : Int) + 1)) - 1) = ((min n (s.length + 1) - 1 : Nat) : Int) := by
  rw [hmn, NF (by omega) (by omega)]; omega
 obtain ⟨s', d', c', h1, h2⟩ := Iw N s k (n : Int) (min n (s.length + 1) - 1) hmx (by omega) (min n (s.length + 1) - 1) [] s N (by simp) (by omega) hs
 simp only [List.nil_append, List.length_nil] at h1 h2
 have hmk : mkN 16 (mn (n : Int) (BM ((s.length : Int) + 1))) = some (min n (s.length + 1) - 1 + 1) := by
  rw [hmn]
  unfold mkN
  rw [if_pos (by constructor <;> omega)]
  simp; omega
 rw [show (((0 : Nat)) : Int) = (0 : Int) from rfl] at h1
 rw [hmk, oS, h1, oS]
 simp only
 have hchk : OV (d'.length : Int) (d' ++ List.replicate (c' + 1) ([] : List UInt8)).length = some d'.length := UN (by simp)
 have hget : (d' ++ List.replicate (c' + 1) ([] : List UInt8))[d'.length]? = some [] := by
  rw [List.replicate_succ]; exact L9 d' _ _
 have hset : ∀ y, (d' ++ List.replicate (c' + 1) ([] : List UInt8)).set d'.length y = (d' ++ [y]) ++ List.replicate c' [] := by
  intro y
  rw [List.replicate_succ, set_mid]; simp
 have hdl : d'.length ≤ 1000000 := by
  have e := congrArg List.length h2
  have := (aV k (min n (s.length + 1) - 1) s).1
  simp at e
  omega
 rw [hchk, oS, hget, oS, hset, GA (by omega), RQ (by simp), oS]
 have ht : ((d' ++ [s']) ++ List.replicate c' ([] : List UInt8)).take (d'.length + 1) = d' ++ [s'] := List.take_left' (by simp)
 rw [ht, h2]
 by_cases hc : n ≤ s.length + 1
 ·rw [Nat.min_eq_left hc]
 ·rw [Nat.min_eq_right (by omega)]
  congr 1
  exact jM k _ _ s (by omega) (by omega)
theorem count_le (s : List UInt8) (k : UInt8) : Lib.countByte s k ≤ s.length := List.count_le_length
theorem Ed (N : Nat) (s : List UInt8) (k : UInt8) (hs : s.length ≤ 999999) (hN : 2000000 < N) : strings_Split N s [k] = some (splitN k (Lib.countByte s k) s) := by
 unfold strings_Split strings_genSplit strings_Count
 have hc := count_le s k
 simp only [oS]
 rw [GA (by omega)]
 have := gen_j N s k (Lib.countByte s k + 1) (by omega) (by omega) (by omega) hN
 rw [show (((-1) : Int) == (0 : Int)) = false from rfl, cond_false, show (([k] : List UInt8) == ([] : List UInt8)) = false from rfl, cond_false, show decide (((-1) : Int) < (0 : Int)) = true from rfl, cond_true, this]
 rfl
theorem qK : ∀ (f u : Nat) (a : List UInt8), (Qq f u a).length ≤ f + a.length
 | 0, u, a => by rw [Qq]; omega
 | f + 1, u, a => by
  rw [Qq]
  split
  ·simp; omega
  ·have := qK f (u / 10) (UInt8.ofNat (48 + u % 10) :: a)
   rw [List.length_cons] at this; omega
theorem TV (n : Int) : (dV n).length ≤ 21 := by
 unfold dV
 split
 ·have := qK 20 n.natAbs []
  simp at this ⊢; omega
 ·have := qK 20 n.toNat []
  simp at this; omega
def Sq : AP := ⟨0, 0, 0⟩
def gT (c : AP) : List UInt8 := dV c.Time ++ 46 :: (dV c.Seq ++ 46 :: dV c.Rep)
def intC (c : AP) : Prop := (-9223372036854775808 ≤ c.Time ∧ c.Time ≤ 9223372036854775807) ∧ (-9223372036854775808 ≤ c.Seq ∧ c.Seq ≤ 9223372036854775807) ∧ (-9223372036854775808 ≤ c.Rep ∧ c.Rep ≤ 9223372036854775807)
theorem Eb (a b c : List UInt8) (ha : a.length ≤ 21) (hb : b.length ≤ 21) (hc : c.length ≤ 21) :
  (Option.bind (bT a ([46] : List UInt8)) fun (x6 : List UInt8) =>
   Option.bind (some b) fun (x9 : List UInt8) =>
   Option.bind (bT x6 x9) fun (SX : List UInt8) =>
   Option.bind (bT SX ([46] : List UInt8)) fun (LK : List UInt8) =>
   Option.bind (some c) fun (PO : List UInt8) =>
   Option.bind (bT LK PO) fun (NK : List UInt8) =>
   some NK) = some (a ++ 46 :: (b ++ 46 :: c)) := by
 rw [ZP (by simp; omega)]
 simp only [oS]
 rw [ZP (by simp; omega), oS, ZP (by simp; omega), oS, ZP (by simp; omega), oS]
 simp
theorem xU {N : Nat} {c : AP} (h : intC c) : Z6 N c = some (gT c) := by
 obtain ⟨h1, h2, h3⟩ := h
 unfold Z6 KV strconv_Itoa
 rw [if_pos ⟨rfl, h1⟩, if_pos h2, if_pos h3, oS, Eb _ _ _ (TV _) (TV _) (TV _)]
 rfl
theorem Ao (c : AP) : (gT c).length ≤ 65 := by
 unfold gT
 have h1 := TV c.Time
 have h2 := TV c.Seq
 have h3 := TV c.Rep
 simp; omega
def WG (p : List UInt8) : Option Int := match Lib.parseIntB 64 p with
 | .ok v => if 0 ≤ v ∧ v ≤ 1099511627776 then some v else none
 | _ => none
theorem jK {p : List UInt8} {v : Int} (h : WG p = some v) : 0 ≤ v ∧ v ≤ 1099511627776 := by
 unfold WG at h
 split at h
 ·split at h
  ·rename_i hv; cases h; exact hv
  ·cases h
 ·cases h
theorem bE (N : Nat) (s : List UInt8) (ps : List (List UInt8)) (rec : (Int × List Int) → Option ((List Int) ⊕ (AP × Int))) (i : Nat) (l : List Int) (p : List UInt8) (y : Int)
  (hi : i < ps.length) (hp : ps[i]? = some p) (h3 : i < 3) (hl : l[i]? = some y) (hlen : p.length ≤ 281474976710656) :
  N9 N s ps rec ((i : Int), l) = match WG p with | some v => rec (((i + 1 : Nat) : Int), l.set i v) | none => some (.inr (Sq, 14)) := by
 unfold N9
 simp only
 rw [decide_eq_true (by omega), cond_true, YS, hp, oS]
 unfold LX WG
 rw [if_pos ⟨rfl, rfl, hlen⟩, oS, GA (by omega)]
 have hc : OV (i : Int) 3 = some i := UN h3
 rw [hc, oS, hl]
 cases hv : Lib.parseIntB 64 p with
 | ok v =>
  simp only [cond_false, oS]
  by_cases h1 : v < 0
  ·rw [decide_eq_true h1, cond_true, oS, cond_true, if_neg (by omega)]; rfl
  ·rw [decide_eq_false h1, cond_false, oS]
   by_cases h2 : v > 1099511627776
   ·rw [decide_eq_true h2, cond_true, if_neg (by omega)]; rfl
   ·rw [decide_eq_false h2, cond_false, if_pos (by omega)]
 | _ => rfl
theorem Mv {N : Nat} (hN : 4 ≤ N) {s p0 p1 p2 : List UInt8} (hs : strings_Split N s [46] = some [p0, p1, p2]) (h0 : p0.length ≤ 281474976710656) (h1 : p1.length ≤ 281474976710656) (h2 : p2.length ≤ 281474976710656) :
  ND N s = some (match WG p0, WG p1, WG p2 with
   | some a, some b, some c => if pR ⟨a, b, c⟩ ∧ gT ⟨a, b, c⟩ = s then (⟨a, b, c⟩, 0) else (Sq, 14)
   | _, _, _ => (Sq, 14)) := by
 obtain ⟨n, rfl⟩ : ∃ n, N = n + 4 := ⟨N - 4, by omega⟩
 unfold ND
 rw [hs, oS, show ((([p0, p1, p2] : List (List UInt8)).length : Int) != 3) = false from rfl, cond_false]
 rw [JX, show (0 : Int) = ((0 : Nat) : Int) from rfl, bE (i := 0) (p := p0) (y := 0) (hi := by simp) (hp := rfl) (h3 := by omega) (hl := rfl) (hlen := h0)]
 cases e0 : WG p0 with
 | none => rfl
 | some a =>
  simp only
  rw [JX, bE (i := 0 + 1) (p := p1) (y := 0) (hi := by simp) (hp := rfl) (h3 := by omega) (hl := rfl) (hlen := h1)]
  cases e1 : WG p1 with
  | none => rfl
  | some b =>
   simp only
   rw [JX, bE (i := 0 + 1 + 1) (p := p2) (y := 0) (hi := by simp) (hp := rfl) (h3 := by omega) (hl := rfl) (hlen := h2)]
   cases e2 : WG p2 with
   | none => rfl
   | some c =>
    have k0 := jK e0
    have k1 := jK e1
    have k2 := jK e2
    simp only
    rw [JX, N9]
    rw [show decide ((((0 + 1 + 1 + 1 : Nat)) : Int) < (([p0, p1, p2] : List (List UInt8)).length : Int)) = false from rfl, cond_false, oS]
    simp only [Sum.elim_inl, List.set_cons_zero, List.set_cons_succ, List.getElem?_cons_zero, List.getElem?_cons_succ, oS, Nat.zero_add]
    rw [lT, oS, xU (c := ⟨a, b, c⟩) ⟨⟨by simp only; omega, by simp only; omega⟩, ⟨by simp only; omega, by simp only; omega⟩, ⟨by simp only; omega, by simp only; omega⟩⟩, oS]
    by_cases h : pR ⟨a, b, c⟩
    ·rw [decide_eq_true h, Bool.not_true, cond_false, oS]
     by_cases ht : gT ⟨a, b, c⟩ = s
     ·rw [if_pos ⟨h, ht⟩, ht, BEq.rfl, Bool.not_true, cond_false]
     ·rw [if_neg (fun h' => ht h'.2), show (gT ⟨a, b, c⟩ == s) = false from beq_eq_false_iff_ne.2 ht, Bool.not_false, cond_true]; rfl
    ·rw [decide_eq_false h, Bool.not_false, cond_true, oS, cond_true, if_neg (fun h' => h h'.1)]; rfl
theorem dP {N : Nat} {s : List UInt8} {ps : List (List UInt8)} (hs : strings_Split N s [46] = some ps) (hl : ps.length ≠ 3) : ND N s = some (Sq, 14) := by
 unfold ND
 rw [hs, oS, Jy, decide_eq_true (by omega), cond_true]
 rfl
theorem bF {N : Nat} (hN : 2000000 < N) {s : List UInt8} (hs : s.length ≤ 999999) : ND N s = some (Sq, 14) ∨ ∃ c, ND N s = some (c, 0) ∧ pR c ∧ gT c = s := by
 have hsp := Ed N s 46 hs hN
 have hle := (aV 46 (Lib.countByte s 46) s).2
 generalize splitN 46 (Lib.countByte s 46) s = ps at *
 match ps, hsp, hle with
 | [p0, p1, p2], hsp, hle =>
  rw [Mv (by omega) hsp (by have := hle p0 (by simp); omega) (by have := hle p1 (by simp); omega) (by have := hle p2 (by simp); omega)]
  cases WG p0 with
  | none => exact .inl rfl
  | some a =>
   cases WG p1 with
   | none => exact .inl rfl
   | some b =>
    cases WG p2 with
    | none => exact .inl rfl
    | some c =>
     simp only
     by_cases h : pR ⟨a, b, c⟩ ∧ gT ⟨a, b, c⟩ = s
     ·rw [if_pos h]; exact .inr ⟨_, rfl, h⟩
     ·rw [if_neg h]; exact .inl rfl
 | [], hsp, hle => exact .inl (dP hsp (by simp))
 | [_], hsp, hle => exact .inl (dP hsp (by simp))
 | [_, _], hsp, hle => exact .inl (dP hsp (by simp))
 | _ :: _ :: _ :: _ :: _, hsp, hle => exact .inl (dP hsp (by simp))
def YI (c : AP) : Bool := decide (c = Sq)
def bX (x c : AP) : Bool := decide (bQ x c < 0)
def Ab (c : AX) : Bool := YI c.Parent && (decide (c.RDN.length = 0) && !c.DelOld)
def yH (c : AX) : Bool :=
 bif c.Kind == 1 then decide (c.ID = c.CSN) && (bX c.Parent c.CSN && (iC c.RDN && (UQ 1 c.Mods && !c.DelOld)))
 else bif c.Kind == 2 then !YI c.ID && (bX c.ID c.CSN && (Ab c && decide (c.Mods.length = 0)))
 else bif c.Kind == 3 then bX c.ID c.CSN && (Ab c && (decide (0 < c.Mods.length) && UQ 3 c.Mods))
 else bif c.Kind == 4 then !YI c.ID && (bX c.ID c.CSN && (bX c.Parent c.CSN && (iC c.RDN && decide (c.Mods.length = 0))))
 else false
def iQ (c : AX) : Bool := decide (pR c.CSN) && (!YI c.CSN && (decide (pR c.ID) && (decide (pR c.Parent) && yH c)))
theorem xJ (c : AP) : (c.Time == (0 : Int) && (c.Seq == (0 : Int) && (c.Rep == (0 : Int) && true))) = YI c := eqB c Sq
theorem wP (N : Nat) (c : AP) : UL N c = some (YI c) := by unfold UL; rw [xJ]
theorem vL (N : Nat) (c : AP) : HV N c = some (YI c) := by unfold HV; rw [xJ]
theorem Qy (a b : Bool) : (bif a then some b else some false) = some (a && b) := by cases a <;> rfl
theorem borS (a b : Bool) : (bif a then some true else some b) = some (a || b) := by cases a <;> rfl
theorem len0 {α : Type} (l : List α) : ((l.length : Int) == (0 : Int)) = decide (l.length = 0) := by rw [Bool.eq_iff_iff]; simp
theorem lenP {α : Type} (l : List α) : decide ((l.length : Int) > (0 : Int)) = decide (0 < l.length) := by rw [Bool.eq_iff_iff]; simp
theorem Pt {N : Nat} {c : AX} (hN : 2000000 < N) (hN2 : N ≤ 9223372036854775808) (h : Qv c) : TW N c = some (iQ c) := by
 unfold TW OD iQ
 have e1 : (⟨c.CSN.Time, c.CSN.Seq, c.CSN.Rep⟩ : AP) = c.CSN := rfl
 have e2 : (⟨c.ID.Time, c.ID.Seq, c.ID.Rep⟩ : AP) = c.ID := rfl
 have e3 : (⟨c.Parent.Time, c.Parent.Seq, c.Parent.Rep⟩ : AP) = c.Parent := rfl
 simp only [e1, e2, e3, lT, wP, Cw N (by omega), Jr hN hN2 h.1.1 h.1.2, oL 1 hN hN2 h.2.1 h.2.2, oL 3 hN hN2 h.2.1 h.2.2, oS, Qy, borS, len0, lenP, eqB]
 have g : ∀ (a b x d : Bool) (y : Option Bool) (k : Bool), y = some k → (bif (!a || (b || (!x || !d))) then some false else y) = some (a && (!b && (x && (d && k)))) := by
  intro a b x d y k hy
  subst hy
  cases a <;> cases b <;> cases x <;> cases d <;> rfl
 refine g _ _ _ _ _ _ ?_
 unfold yH Ab bX
 cases c.Kind == 1
 ·cases c.Kind == 2
  ·cases c.Kind == 3
   ·cases c.Kind == 4
    ·rfl
    ·rfl
   ·rfl
  ·rfl
 ·rfl
theorem Ez {N : Nat} {c : AX} (hN : 2000000 < N) (hN2 : N ≤ 9223372036854775808) (h : Qv c) : KG N c = some (iQ c) := by
 unfold KG iQ
 have e1 : (⟨c.CSN.Time, c.CSN.Seq, c.CSN.Rep⟩ : AP) = c.CSN := rfl
 have e2 : (⟨c.ID.Time, c.ID.Seq, c.ID.Rep⟩ : AP) = c.ID := rfl
 have e3 : (⟨c.Parent.Time, c.Parent.Seq, c.Parent.Rep⟩ : AP) = c.Parent := rfl
 simp only [e1, e2, e3, Ev, vL, Be, Bh hN hN2 h.1.1 h.1.2, kJ true hN hN2 h.2.1 h.2.2, kJ false hN hN2 h.2.1 h.2.2, oS, Qy, borS, len0, lenP, eqB]
 have g : ∀ (a b x d : Bool) (y : Option Bool) (k : Bool), y = some k → (bif (!a || (b || (!x || !d))) then some false else y) = some (a && (!b && (x && (d && k)))) := by
  intro a b x d y k hy
  subst hy
  cases a <;> cases b <;> cases x <;> cases d <;> rfl
 refine g _ _ _ _ _ _ ?_
 unfold yH Ab bX
 show _ = some (bif c.Kind == 1 then _ && (_ && (_ && (UQ (gW true) c.Mods && _))) else bif c.Kind == 2 then _ else bif c.Kind == 3 then _ && (_ && (_ && UQ (gW false) c.Mods)) else _)
 cases c.Kind == 1
 ·cases c.Kind == 2
  ·cases c.Kind == 3
   ·cases c.Kind == 4
    ·rfl
    ·simp only [cond_true, cond_false]
     congr 1
     cases decide (bQ c.ID c.CSN < 0) <;> cases decide (bQ c.Parent c.CSN < 0) <;> cases iC c.RDN <;> cases YI c.ID <;> rfl
   ·simp only [cond_true, cond_false]
    congr 1
    cases decide (bQ c.ID c.CSN < 0) <;> cases YI c.Parent <;> cases decide (c.RDN.length = 0) <;> cases c.DelOld <;> cases decide (0 < c.Mods.length) <;> rfl
  ·simp only [cond_true, cond_false]
   congr 1
   cases decide (bQ c.ID c.CSN < 0) <;> cases YI c.Parent <;> cases YI c.ID <;> cases decide (c.RDN.length = 0) <;> cases c.DelOld <;> rfl
 ·simp only [cond_true, cond_false]
  congr 1
  cases decide (c.ID = c.CSN) <;> cases decide (bQ c.Parent c.CSN < 0) <;> cases iC c.RDN <;> cases c.DelOld <;> cases UQ (gW true) c.Mods <;> rfl
theorem dW {α : Type} {a : List α} {a' b' : List α} {y : α} (h : a.length = a'.length) : CE (a' ++ y :: b') (a.length : Int) = some y := by rw [h]; exact D9 a' b' y
theorem qU {α : Type} [DecidableEq α] (x y : α) (b b' : List α) : decide (x :: b = y :: b') = (decide (x = y) && decide (b = b')) := by
 rw [Bool.eq_iff_iff]; simp
theorem neL (a b : Nat) : ((a : Int) != (b : Int)) = !decide (a = b) := by rw [Bool.eq_iff_iff]; simp; omega
theorem Je (N : Nat) : ∀ (b b' a a' : List AL) (n : Nat), a.length = a'.length → b.length = b'.length → (a ++ b).length ≤ 9223372036854775807 → b.length < n →
  CW N (a ++ b) (a' ++ b') n (a.length : Int) = some (bif decide (b = b') then .inl () else .inr false) ∧ F4 N (a ++ b) (a' ++ b') n (a.length : Int) = some (bif decide (b = b') then .inl () else .inr false) := by
 intro b
 induction b with
 | nil =>
  intro b' a a' n ha hb hs hn
  obtain ⟨n, rfl, _⟩ := fuel hn
  cases b' with
  | cons y b' => cases hb
  | nil =>
   simp only [CW, FC, F4, I9]
   rw [CS, cond_false]; exact ⟨rfl, rfl⟩
 | cons x b ih =>
  intro b' a a' n ha hb hs hn
  obtain ⟨n, rfl, hn'⟩ := fuel hn
  cases b' with
  | nil => cases hb
  | cons y b' =>
   have hi := ih b' (a ++ [x]) (a' ++ [y]) n (by simp [ha]) (by simpa using hb) (by simpa using hs) hn'
   rw [← EN, ← EN] at hi
   have he : (x.Attr == y.Attr && (x.Value == y.Value && true)) = decide (x = y) := by
    rw [Bool.eq_iff_iff]; cases x; cases y; simp
   simp only [CW, FC, F4, I9]
   refine ⟨?_, ?_⟩
   ·rw [CY, cond_true, D9, oS, dW ha, oS, D7 (a := a) (b := b) (x := x) hs, hi.1, qU, he]
    cases decide (x = y) <;> rfl
   ·rw [CY, cond_true, D9, oS, dW ha, oS, D7 (a := a) (b := b) (x := x) hs, hi.2, qU, he]
    cases decide (x = y) <;> rfl
theorem Xy {N : Nat} {l m : List AL} (hl : l.length ≤ 1000000) (hN : 2000000 < N) : GR N l m = some (decide (l = m)) ∧ LU N l m = some (decide (l = m)) := by
 unfold GR LU
 rw [neL]
 by_cases h : l.length = m.length
 ·have := Je N l m [] [] N rfl h (by simp; omega) (by omega)
  simp only [List.nil_append, List.length_nil] at this
  rw [decide_eq_true h, show ((0 : Int)) = ((0 : Nat) : Int) from rfl, this.1, this.2]
  cases decide (l = m) <;> exact ⟨rfl, rfl⟩
 ·rw [decide_eq_false h, decide_eq_false (fun e => h (by rw [e]))]; exact ⟨rfl, rfl⟩
theorem Nk (x y : BD) : decide (x = y) = (decide (x.Kind = y.Kind) && (decide (x.Attr = y.Attr) && decide (x.Values = y.Values))) := by
 rw [Bool.eq_iff_iff]; cases x; cases y; simp
theorem Yb (x y : AX) : decide (x = y) = (decide (x.CSN = y.CSN) && (decide (x.Kind = y.Kind) && (decide (x.ID = y.ID) && (decide (x.Parent = y.Parent) && (decide (x.RDN = y.RDN) && (decide (x.DelOld = y.DelOld) && decide (x.Mods = y.Mods))))))) := by
 rw [Bool.eq_iff_iff]; cases x; cases y; simp
theorem boolB (a b : Bool) : (a == b) = decide (a = b) := by cases a <;> cases b <;> rfl
theorem vE (N : Nat) (c d : AX) (i0 : Int) (x y : BD) : ∀ (b b' a a' : List (List UInt8)) (n : Nat), x.Values = a ++ b → y.Values = a' ++ b' → a.length = a'.length → b.length = b'.length → (a ++ b).length ≤ 9223372036854775807 → b.length < n →
  DU N c d i0 x y n (a.length : Int) = some (bif decide (b = b') then .inl () else .inr false) := by
 intro b
 induction b with
 | nil =>
  intro b' a a' n hx hy ha hb hs hn
  obtain ⟨n, rfl, _⟩ := fuel hn
  cases b' with
  | cons y b' => cases hb
  | nil =>
   simp only [DU, GL]
   rw [hx, CS, cond_false]; rfl
 | cons u b ih =>
  intro b' a a' n hx hy ha hb hs hn
  obtain ⟨n, rfl, hn'⟩ := fuel hn
  cases b' with
  | nil => cases hb
  | cons v b' =>
   have hi := ih b' (a ++ [u]) (a' ++ [v]) n (by rw [hx]; simp) (by rw [hy]; simp) (by simp [ha]) (by simpa using hb) (by simpa using hs) hn'
   simp only [DU, GL]
   rw [hx, hy, CY, cond_true, D9, oS, dW ha, oS, D7 (a := a) (b := b) (x := u) hs, hi, qU, show (u == v) = decide (u = v) by rw [Bool.eq_iff_iff]; simp]
   cases decide (u = v) <;> rfl
theorem Ay (N : Nat) (hN : 2000000 < N) (c d : AX) : ∀ (b b' a a' : List BD) (n : Nat), c.Mods = a ++ b → d.Mods = a' ++ b' → a.length = a'.length → b.length = b'.length → (a ++ b).length ≤ 9223372036854775807 → b.length < n → (∀ m ∈ b, Lr m) →
  DV N c d n (a.length : Int) = some (bif decide (b = b') then .inl () else .inr false) := by
 intro b
 induction b with
 | nil =>
  intro b' a a' n hx hy ha hb hs hn _
  obtain ⟨n, rfl, _⟩ := fuel hn
  cases b' with
  | cons y b' => cases hb
  | nil =>
   simp only [DV, GM]
   rw [hx, CS, cond_false]; rfl
 | cons u b ih =>
  intro b' a a' n hx hy ha hb hs hn hm
  obtain ⟨n, rfl, hn'⟩ := fuel hn
  cases b' with
  | nil => cases hb
  | cons v b' =>
   have hi := ih b' (a ++ [u]) (a' ++ [v]) n (by rw [hx]; simp) (by rw [hy]; simp) (by simp [ha]) (by simpa using hb) (by simpa using hs) hn' (fun m h => hm m (List.mem_cons_of_mem _ h))
   simp only [DV, GM]
   rw [hx, hy, CY, cond_true, D9, oS, dW ha, oS, D7 (a := a) (b := b) (x := u) hs, hi, qU, Nk, neI, neL, show (u.Attr == v.Attr) = decide (u.Attr = v.Attr) by rw [Bool.eq_iff_iff]; simp]
   cases decide (u.Kind = v.Kind)
   ·rfl
   ·cases decide (u.Attr = v.Attr)
    ·rfl
    ·by_cases hl : u.Values.length = v.Values.length
     ·have hu := (hm u List.mem_cons_self).2.1
      have hv := vE N c d (a.length : Int) u v u.Values v.Values [] [] N rfl rfl rfl hl (by simp; omega) (by omega)
      simp only [List.length_nil] at hv
      rw [decide_eq_true hl, show ((0 : Int)) = ((0 : Nat) : Int) from rfl, hv]
      cases decide (u.Values = v.Values) <;> rfl
     ·rw [decide_eq_false hl, decide_eq_false (show ¬ u.Values = v.Values from fun e => hl (by rw [e]))]
      rfl
theorem vN {N : Nat} {x y : AX} (hx : Qv x) (hN : 2000000 < N) : GX N x y = some (decide (x = y)) := by
 unfold GX
 rw [(Xy hx.1.1 hN).2, Yb, neL]
 simp only [eqB]
 simp only [oS, uK, boolB, neI]
 by_cases hl : x.Mods.length = y.Mods.length
 ·have := Ay N hN x y x.Mods y.Mods [] [] N rfl rfl rfl hl (by have := hx.2.1; simp; omega) (by have := hx.2.1; omega) hx.2.2
  simp only [List.length_nil] at this
  rw [decide_eq_true hl, show ((0 : Int)) = ((0 : Nat) : Int) from rfl, this]
  cases decide (x.CSN = y.CSN) <;> cases decide (x.Kind = y.Kind) <;> cases decide (x.ID = y.ID) <;> cases decide (x.Parent = y.Parent) <;> cases decide (x.RDN = y.RDN) <;> cases decide (x.DelOld = y.DelOld) <;> cases decide (x.Mods = y.Mods) <;> rfl
 ·rw [decide_eq_false hl, decide_eq_false (show ¬ x.Mods = y.Mods from fun e => hl (by rw [e]))]
  cases decide (x.CSN = y.CSN) <;> cases decide (x.Kind = y.Kind) <;> cases decide (x.ID = y.ID) <;> cases decide (x.Parent = y.Parent) <;> cases decide (x.RDN = y.RDN) <;> cases decide (x.DelOld = y.DelOld) <;> rfl
def lJ (m : BD) : Bool := decide (m.Attr.length ≤ 30) && (decide (m.Values.length ≤ 20) && m.Values.all (fun v => decide (v.length ≤ 80)))
def lK (a : AL) : Bool := decide (a.Attr.length ≤ 30) && decide (a.Value.length ≤ 80)
def oF (c : AX) : Bool := c.Mods.all lJ && (decide (c.Mods.length ≤ 14) && (c.RDN.all lK && decide (c.RDN.length ≤ 6)))
theorem gtL (a k : Nat) : decide ((a : Int) > (k : Int)) = !decide (a ≤ k) := by rw [Bool.eq_iff_iff]; simp
theorem leL (a k : Nat) : decide ((a : Int) ≤ (k : Int)) = decide (a ≤ k) := by rw [Bool.eq_iff_iff]; simp
theorem Cn (N : Nat) (l : List BD) (k : Nat) (m : BD) (hk : l[k]? = some m) : ∀ (b a : List (List UInt8)) (n : Nat), m.Values = a ++ b → (a ++ b).length ≤ 9223372036854775807 → b.length < n →
  ES N l (k : Int) n (a.length : Int) = some (bif b.all (fun v => decide (v.length ≤ 80)) then .inl () else .inr false) := by
 intro b
 induction b with
 | nil =>
  intro a n he hs hn
  obtain ⟨n, rfl, _⟩ := fuel hn
  simp only [ES, HY]
  rw [R3 hk, oS, he, CS, cond_false]; rfl
 | cons x b ih =>
  intro a n he hs hn
  obtain ⟨n, rfl, hn'⟩ := fuel hn
  have hi := ih (a ++ [x]) n (by rw [he]; simp) (by simpa using hs) hn'
  simp only [ES, HY]
  rw [R3 hk, oS, he, CY, cond_true, oS, he, D9, oS, D7 (a := a) (b := b) (x := x) hs, hi, List.all_cons, show (80 : Int) = ((80 : Nat) : Int) from rfl, gtL]
  cases decide (x.length ≤ 80) <;> rfl
theorem Co (N : Nat) (hN2 : N ≤ 9223372036854775808) : ∀ (b a : List BD) (n : Nat), (a ++ b).length ≤ 9223372036854775807 → b.length < n → (∀ m ∈ b, m.Values.length < N) →
  F5 N (a ++ b) n (a.length : Int) = some (bif b.all lJ then .inl () else .inr false) := by
 intro b
 induction b with
 | nil =>
  intro a n hs hn _
  obtain ⟨n, rfl, _⟩ := fuel hn
  simp only [F5, IA]
  rw [CS, cond_false]; rfl
 | cons x b ih =>
  intro a n hs hn hm
  obtain ⟨n, rfl, hn'⟩ := fuel hn
  have hi := ih (a ++ [x]) n (by simpa using hs) hn' (fun y hy => hm y (List.mem_cons_of_mem _ hy))
  rw [← EN] at hi
  have hx := hm x List.mem_cons_self
  have hv := Cn N (a ++ x :: b) a.length x (L9 a b x) x.Values [] N rfl (by simp; omega) hx
  simp only [List.length_nil] at hv
  simp only [F5, IA]
  rw [CY, cond_true, D9, oS, oS, show (30 : Int) = ((30 : Nat) : Int) from rfl, gtL, show (20 : Int) = ((20 : Nat) : Int) from rfl, gtL, D7 (a := a) (b := b) (x := x) hs, hi, List.all_cons, show ((0 : Int)) = ((0 : Nat) : Int) from rfl, hv]
  unfold lJ
  cases decide (x.Attr.length ≤ 30) <;> cases decide (x.Values.length ≤ 20) <;> cases x.Values.all (fun v => decide (v.length ≤ 80)) <;> rfl
theorem Cq (N : Nat) : ∀ (b a : List AL) (n : Nat), (a ++ b).length ≤ 9223372036854775807 → b.length < n →
  FE N (a ++ b) n (a.length : Int) = some (bif b.all lK then .inl () else .inr false) := by
 intro b
 induction b with
 | nil =>
  intro a n hs hn
  obtain ⟨n, rfl, _⟩ := fuel hn
  simp only [FE, IR]
  rw [CS, cond_false]; rfl
 | cons x b ih =>
  intro a n hs hn
  obtain ⟨n, rfl, hn'⟩ := fuel hn
  have hi := ih (a ++ [x]) n (by simpa using hs) hn'
  rw [← EN] at hi
  simp only [FE, IR]
  rw [CY, cond_true, D9, oS, oS, show (30 : Int) = ((30 : Nat) : Int) from rfl, gtL, show (80 : Int) = ((80 : Nat) : Int) from rfl, gtL, D7 (a := a) (b := b) (x := x) hs, hi, List.all_cons]
  unfold lK
  cases decide (x.Attr.length ≤ 30) <;> cases decide (x.Value.length ≤ 80) <;> rfl
theorem Jb {N : Nat} {c : AX} (hN2 : N ≤ 9223372036854775808) (h1 : c.RDN.length < N) (h2 : c.Mods.length < N) (h3 : ∀ m ∈ c.Mods, m.Values.length < N) : M4 N c = some (oF c) := by
 unfold M4 O9 P5 oF
 have e1 := Co N hN2 c.Mods [] N (by simp; omega) h2 h3
 have e2 := Cq N c.RDN [] N (by simp; omega) h1
 simp only [List.nil_append, List.length_nil] at e1 e2
 rw [show ((0 : Int)) = ((0 : Nat) : Int) from rfl, e1, e2, show (14 : Int) = ((14 : Nat) : Int) from rfl, leL, show (6 : Int) = ((6 : Nat) : Int) from rfl, leL]
 cases c.Mods.all lJ <;> cases decide (c.Mods.length ≤ 14) <;> cases c.RDN.all lK <;> cases decide (c.RDN.length ≤ 6) <;> rfl
theorem Jc {c : AX} (h : oF c = true) : Qv c ∧ c.Mods.length ≤ 14 ∧ c.RDN.length ≤ 6 := by
 unfold oF at h
 simp only [Bool.and_eq_true, List.all_eq_true, decide_eq_true_eq] at h
 obtain ⟨h1, h2, h3, h4⟩ := h
 refine ⟨⟨⟨by omega, fun a ha => ?_⟩, ⟨by omega, fun m hm => ?_⟩⟩, h2, h4⟩
 ·have := h3 a ha
  unfold lK at this
  simp only [Bool.and_eq_true, decide_eq_true_eq] at this
  exact ⟨by omega, by omega⟩
 ·have := h1 m hm
  unfold lJ at this
  simp only [Bool.and_eq_true, decide_eq_true_eq, List.all_eq_true] at this
  exact ⟨by omega, by omega, fun v hv => by have := this.2.2 v hv; omega⟩
def Fit (N d : Nat) (e : A7) : Prop := ∀ n, d ≤ n → LC N n e = some true ∧ (∃ k : Nat, k ≤ d ∧ PU N n e = some (k : Int)) ∧ ∃ s b, OI N n e = some (s, b) ∧ s.length ≤ 4010
theorem Fit.mono {N d d' : Nat} {e : A7} (h : Fit N d e) (hd : d ≤ d') : Fit N d' e := fun n hn => by
 obtain ⟨h1, ⟨k, hk, h2⟩, h3⟩ := h n (by omega)
 exact ⟨h1, ⟨k, by omega, h2⟩, h3⟩
theorem tX (N : Nat) (f : A7 → Option Bool) : ∀ (b a : List A7) (n : Nat), (a ++ b).length ≤ 9223372036854775807 → b.length < n → (∀ e ∈ b, f e = some true) →
  BI N f (a ++ b) n (a.length : Int) = some (.inl ()) := by
 intro b
 induction b with
 | nil =>
  intro a n hs hn _
  obtain ⟨n, rfl, _⟩ := fuel hn
  simp only [BI, C9]
  rw [CS, cond_false]
 | cons x b ih =>
  intro a n hs hn hf
  obtain ⟨n, rfl, hn'⟩ := fuel hn
  have hi := ih (a ++ [x]) n (by simpa using hs) hn' (fun y hy => hf y (List.mem_cons_of_mem _ hy))
  rw [← EN] at hi
  simp only [BI, C9, XU]
  rw [CY, cond_true, D9, oS, hf x List.mem_cons_self, oS, D7 (a := a) (b := b) (x := x) hs, hi]
  rfl
theorem Cu (N d : Nat) (f : A7 → Option Int) : ∀ (b a : List A7) (v : Nat) (n : Nat), (a ++ b).length ≤ 9223372036854775807 → b.length < n → v ≤ d → (∀ e ∈ b, ∃ k : Nat, k ≤ d ∧ f e = some (k : Int)) →
  ∃ k : Nat, k ≤ d ∧ OH N f (a ++ b) n ((v : Int), (a.length : Int)) = some (k : Int) := by
 intro b
 induction b with
 | nil =>
  intro a v n hs hn hv _
  obtain ⟨n, rfl, _⟩ := fuel hn
  simp only [OH, SH]
  rw [CS, cond_false]; exact ⟨v, hv, rfl⟩
 | cons x b ih =>
  intro a v n hs hn hv hf
  obtain ⟨n, rfl, hn'⟩ := fuel hn
  obtain ⟨k, hk, hx⟩ := hf x List.mem_cons_self
  simp only [OH, SH]
  rw [CY, cond_true, D9, oS, hx, oS, D7 (a := a) (b := b) (x := x) hs, show mx (v : Int) (k : Int) = ((if k > v then k else v : Nat) : Int) by unfold mx; split <;> split <;> omega]
  obtain ⟨j, hj, hi⟩ := ih (a ++ [x]) (if k > v then k else v) n (by simpa using hs) hn' (by split <;> omega) (fun y hy => hf y (List.mem_cons_of_mem _ hy))
  rw [← EN] at hi
  exact ⟨j, hj, hi⟩
theorem wT (N : Nat) (f : A7 → Option (List UInt8 × Bool)) (e0 : A7) : ∀ (b a : List A7) (o : List UInt8) (n : Nat), (a ++ b).length ≤ 9223372036854775807 → b.length < n → o.length ≤ 1000000 → (∀ e ∈ b, ∃ s t, f e = some (s, t) ∧ s.length ≤ 4010) →
  ∃ y, MV N f e0 (a ++ b) n ((a.length : Int), o) = some y ∧ (y = .inr ([], false) ∨ ∃ l, y = .inl l ∧ l.length ≤ 1000000) := by
 intro b
 induction b with
 | nil =>
  intro a o n hs hn ho _
  obtain ⟨n, rfl, _⟩ := fuel hn
  simp only [MV, R9]
  rw [CS, cond_false]; exact ⟨_, rfl, .inr ⟨o, rfl, ho⟩⟩
 | cons x b ih =>
  intro a o n hs hn ho hf
  obtain ⟨n, rfl, hn'⟩ := fuel hn
  obtain ⟨s, t, hx, hl⟩ := hf x List.mem_cons_self
  simp only [MV, R9]
  rw [CY, cond_true, D9, oS, hx, oS, NF (by omega) (by simp only; omega)]
  cases t
  ·exact ⟨_, rfl, .inl rfl⟩
  ·simp only [Bool.not_true, cond_false, oS]
   by_cases hc : (o.length : Int) + (s.length : Int) > 4000
   ·rw [decide_eq_true hc]; exact ⟨_, rfl, .inl rfl⟩
   ·rw [decide_eq_false hc, cond_false, IV (by omega), oS, D7 (a := a) (b := b) (x := x) hs]
    obtain ⟨y, hy, hr⟩ := ih (a ++ [x]) (o ++ s) n (by simpa using hs) hn' (by simp; omega) (fun y hy => hf y (List.mem_cons_of_mem _ hy))
    rw [← EN] at hy
    exact ⟨y, hy, hr⟩
theorem Bl (N : Nat) (n : Int) : ∃ l, XT N n = some l ∧ l.length ≤ 3 := by
 unfold XT
 by_cases h : n < 128
 ·rw [decide_eq_true h]; exact ⟨_, rfl, by simp⟩
 ·by_cases h2 : n < 256
  ·rw [decide_eq_false h, decide_eq_true h2]; exact ⟨_, rfl, by simp⟩
  ·rw [decide_eq_false h, decide_eq_false h2]; exact ⟨_, rfl, by simp⟩
theorem sM {N d : Nat} {e : A7} {l : List A7} (hk : e.Kids = List.map A9 l) (hl : l.length ≤ 2000000) (hd : d ≤ 1000000) (hb : e.Body.length ≤ 1000000) (hN : 2000000 < N) (hf : ∀ x ∈ l, Fit N d x)
  (ht : ∀ n, (∀ x ∈ l, LC N n x = some true) → R8 N (LC N n) e = some true) : Fit N (d + 1) e := by
 intro m hm
 obtain ⟨m, rfl⟩ : ∃ k, m = k + 1 := ⟨m - 1, by omega⟩
 have hF := fun x hx => hf x hx m (by omega)
 have hdec : TS CL e.Kids = some l := by rw [hk]; exact dZ TE l
 refine ⟨ht m (fun x hx => (hF x hx).1), ?_, ?_⟩
 ·show ∃ k : Nat, k ≤ d + 1 ∧ XV N (PU N m) e = some (k : Int)
  unfold XV
  rw [hdec, oS]
  obtain ⟨k, hk, h⟩ := Cu N d (PU N m) l [] 0 N (by simp; omega) (by omega) (Nat.zero_le _) (fun x hx => (hF x hx).2.1)
  simp only [List.nil_append, List.length_nil] at h
  rw [show ((0 : Int)) = ((0 : Nat) : Int) from rfl, h, oS, GA (by omega)]
  exact ⟨k + 1, by omega, rfl⟩
 ·show ∃ s b, VE N (OI N m) e = some (s, b) ∧ s.length ≤ 4010
  unfold VE
  rw [hdec, oS]
  obtain ⟨y, h, hy⟩ := wT N (OI N m) e l [] e.Body N (by simp; omega) (by omega) hb (fun x hx => (hF x hx).2.2)
  simp only [List.nil_append, List.length_nil] at h
  rw [show ((0 : Int)) = ((0 : Nat) : Int) from rfl, h, oS]
  rcases hy with rfl | ⟨o, rfl, ho⟩
  ·exact ⟨_, _, rfl, by simp⟩
  ·simp only [Sum.elim_inl]
   by_cases hc : (o.length : Int) > 4000
   ·rw [decide_eq_true hc]; exact ⟨_, _, rfl, by simp⟩
   ·obtain ⟨q, hq, hql⟩ := Bl N (o.length : Int)
    rw [decide_eq_false hc, cond_false, hq, oS, ZP (by simp; omega), oS, ZP (by simp; omega), oS]
    exact ⟨_, _, rfl, by simp; omega⟩
theorem sQ {N : Nat} {t : UInt8} {s : List UInt8} (h1 : ((((t &&& (31 : UInt8))).toNat : Int) == (31 : Int)) = false) (h2 : ((((t &&& (32 : UInt8))).toNat : Int) == (0 : Int)) = true) (hs : s.length ≤ 1000000) (hN : 2000000 < N) : Fit N 1 ⟨t, s, []⟩ := by
 refine sM (d := 0) (l := []) rfl (by simp) (by omega) hs hN (fun x hx => by cases hx) fun n _ => ?_
 unfold R8
 rw [h1, h2]
 rfl
theorem dS {N d : Nat} {l : List A7} (hl : l.length ≤ 2000000) (hd : d ≤ 1000000) (hN : 2000000 < N) (hf : ∀ x ∈ l, Fit N d x) : Fit N (d + 1) ⟨48, [], List.map A9 l⟩ := by
 refine sM (l := l) rfl hl hd (by simp) hN hf fun n hfo => ?_
 unfold R8 D6 DC
 have h := tX N (LC N n) l [] N (by simp; omega) (by omega) hfo
 simp only [List.nil_append, List.length_nil] at h
 simp only [dZ TE l, oS]
 rw [show ((((48 : UInt8) &&& (31 : UInt8)).toNat : Int) == (31 : Int)) = false from by decide, show ((((48 : UInt8) &&& (32 : UInt8)).toNat : Int) == (0 : Int)) = false from by decide, show ((0 : Int)) = ((0 : Nat) : Int) from rfl, h]
 rfl
theorem Dr {N d : Nat} {e : A7} (hd : d ≤ 20) (hN : 2000000 < N) (h : Fit N d e) : ∃ s k, ZT N e = some (s, k) ∧ (k = 0 ∨ k = 13) := by
 obtain ⟨h1, ⟨k, hk, h2⟩, s, b, h3, h4⟩ := h N (by omega)
 unfold ZT bW mD gJ
 rw [h1, oS, h2, oS, h3, oS, decide_eq_false (by omega)]
 cases b
 ·exact ⟨_, _, rfl, .inr rfl⟩
 ·exact ⟨_, _, rfl, .inl rfl⟩
theorem uT {N : Nat} (hN : 2000000 < N) {k : Int} (h0 : -4 ≤ k) (h1 : k ≤ 4) : RP N k = some [byte k] := by
 obtain ⟨n, rfl⟩ : ∃ n, N = n + 1 := ⟨N - 1, by omega⟩
 unfold RP
 rw [GQ]
 have hk : k = -4 ∨ k = -3 ∨ k = -2 ∨ k = -1 ∨ k = 0 ∨ k = 1 ∨ k = 2 ∨ k = 3 ∨ k = 4 := by omega
 rcases hk with rfl | rfl | rfl | rfl | rfl | rfl | rfl | rfl | rfl <;> rfl
theorem yE {N : Nat} (hN : 2000000 < N) {k : Int} (h0 : -4 ≤ k) (h1 : k ≤ 4) : ∃ e, QM N 2 k = some e ∧ Fit N 1 e := by
 unfold QM JE
 rw [uT hN h0 h1]
 exact ⟨_, rfl, sQ (by decide) (by decide) (by simp) hN⟩
theorem dF {N : Nat} (hN : 2000000 < N) {s : List UInt8} (hs : s.length ≤ 1000000) : Fit N 1 ⟨4, s, []⟩ := sQ (by decide) (by decide) hs hN
theorem Ng {c : AP} (h : pR c) : intC c := by
 obtain ⟨h1, h2, h3, h4, h5, h6⟩ := h
 exact ⟨⟨by omega, by omega⟩, ⟨by omega, by omega⟩, ⟨by omega, by omega⟩⟩
theorem qL {N : Nat} (hN : 2000000 < N) {c : AP} (h : pR c) : ∃ e, NE N c = some e ∧ Fit N 1 e := by
 unfold NE JE
 rw [xU (Ng h)]
 exact ⟨_, rfl, dF hN (by have := Ao c; omega)⟩
theorem Df (N : Nat) (hN : 2000000 < N) (c : AX) : ∀ (b a : List AL) (o : List A7) (n : Nat), c.RDN = a ++ b → (a ++ b).length ≤ 1000000 → b.length < n → (∀ x ∈ b, Qw x) → o.length = 2 * a.length → (∀ e ∈ o, Fit N 1 e) →
  ∃ l, IM N c n ((a.length : Int), o) = some l ∧ l.length = 2 * (a ++ b).length ∧ ∀ e ∈ l, Fit N 1 e := by
 intro b
 induction b with
 | nil =>
  intro a o n he hs hn hb ho hf
  obtain ⟨n, rfl, _⟩ := fuel hn
  simp only [IM, MU]
  rw [he, CS, cond_false]; exact ⟨o, rfl, by simpa using ho, hf⟩
 | cons x b ih =>
  intro a o n he hs hn hb ho hf
  obtain ⟨n, rfl, hn'⟩ := fuel hn
  have hx := hb x List.mem_cons_self
  have hs' := hs
  simp only [List.length_append, List.length_cons] at hs'
  simp only [IM, MU, JE]
  rw [he, CY, cond_true, D9, oS, oS, oS, IV (by simp; omega), oS, D7 (a := a) (b := b) (x := x) (by omega)]
  obtain ⟨l, hl, h1, h2⟩ := ih (a ++ [x]) (o ++ [⟨4, x.Attr, []⟩, ⟨4, x.Value, []⟩]) n (by rw [he]; simp) (by simpa using hs) hn' (fun y hy => hb y (List.mem_cons_of_mem _ hy)) (by simp; omega) (fun e h => by
   rcases List.mem_append.1 h with h | h
   ·exact hf e h
   ·rcases List.mem_cons.1 h with rfl | h
    ·exact dF hN hx.1
    ·rcases List.mem_cons.1 h with rfl | h
     ·exact dF hN hx.2
     ·cases h)
  exact ⟨l, hl, by simpa using h1, h2⟩
theorem Db (N : Nat) (hN : 2000000 < N) (c : AX) (y3 r : List A7) (v : Int) (m : BD) : ∀ (b a : List (List UInt8)) (o : List A7) (n : Nat), m.Values = a ++ b → (a ++ b).length ≤ 1000000 → b.length < n → (∀ x ∈ b, x.length ≤ 1000000) → o.length = a.length + 2 → (∀ e ∈ o, Fit N 1 e) →
  ∃ l, IK N c y3 v r m n ((a.length : Int), o) = some l ∧ l.length = (a ++ b).length + 2 ∧ ∀ e ∈ l, Fit N 1 e := by
 intro b
 induction b with
 | nil =>
  intro a o n he hs hn hb ho hf
  obtain ⟨n, rfl, _⟩ := fuel hn
  simp only [IK, MR]
  rw [he, CS, cond_false]; exact ⟨o, rfl, by simpa using ho, hf⟩
 | cons x b ih =>
  intro a o n he hs hn hb ho hf
  obtain ⟨n, rfl, hn'⟩ := fuel hn
  have hx := hb x List.mem_cons_self
  have hs' := hs
  simp only [List.length_append, List.length_cons] at hs'
  simp only [IK, MR, JE]
  rw [he, CY, cond_true, D9, oS, oS, IV (by simp; omega), oS, D7 (a := a) (b := b) (x := x) (by omega)]
  obtain ⟨l, hl, h1, h2⟩ := ih (a ++ [x]) (o ++ [⟨4, x, []⟩]) n (by rw [he]; simp) (by simpa using hs) hn' (fun y hy => hb y (List.mem_cons_of_mem _ hy)) (by simp; omega) (fun e h => by
   rcases List.mem_append.1 h with h | h
   ·exact hf e h
   ·rcases List.mem_cons.1 h with rfl | h
    ·exact dF hN hx
    ·cases h)
  exact ⟨l, hl, by simpa using h1, h2⟩
theorem Dg (N : Nat) (hN : 2000000 < N) (c : AX) (y3 : List A7) : ∀ (b a : List BD) (o : List A7) (n : Nat), c.Mods = a ++ b → (a ++ b).length ≤ 1000000 → b.length < n → (∀ m ∈ b, Lr m ∧ 1 ≤ m.Kind ∧ m.Kind ≤ 3) → o.length = a.length → (∀ e ∈ o, Fit N 2 e) →
  ∃ l, IL N c y3 n ((a.length : Int), o) = some l ∧ l.length = (a ++ b).length ∧ ∀ e ∈ l, Fit N 2 e := by
 intro b
 induction b with
 | nil =>
  intro a o n he hs hn hb ho hf
  obtain ⟨n, rfl, _⟩ := fuel hn
  simp only [IL, MS]
  rw [he, CS, cond_false]; exact ⟨o, rfl, by simpa using ho, hf⟩
 | cons x b ih =>
  intro a o n he hs hn hb ho hf
  obtain ⟨n, rfl, hn'⟩ := fuel hn
  obtain ⟨hx, hx1, hx2⟩ := hb x List.mem_cons_self
  have hs' := hs
  simp only [List.length_append, List.length_cons] at hs'
  obtain ⟨e, hke, hkf⟩ := yE hN (k := x.Kind) (by omega) (by omega)
  simp only [IL, MS, JE, PQ]
  rw [he, CY, cond_true, D9, oS, hke, oS, oS]
  obtain ⟨l, hl, h1, h2⟩ := Db N hN c y3 o (a.length : Int) x x.Values [] [e, ⟨4, x.Attr, []⟩] N rfl (by simpa using hx.2.1) (by have := hx.2.1; omega) hx.2.2 rfl (fun q hq => by
   rcases List.mem_cons.1 hq with rfl | hq
   ·exact hkf
   ·rcases List.mem_cons.1 hq with rfl | hq
    ·exact dF hN hx.1
    ·cases hq)
  simp only [List.length_nil, List.nil_append] at hl h1
  rw [show ((0 : Int)) = ((0 : Nat) : Int) from rfl, hl, oS, oS, IV (by simp; omega), oS, D7 (a := a) (b := b) (x := x) (by omega)]
  have hv := hx.2.1
  have hlen : l.length ≤ 1000002 := by omega
  obtain ⟨r, hr, h3, h4⟩ := ih (a ++ [x]) (o ++ [⟨48, [], List.map A9 l⟩]) n (by rw [he]; simp) (by simpa using hs) hn' (fun y hy => hb y (List.mem_cons_of_mem _ hy)) (by simp; omega) (fun q h => by
   rcases List.mem_append.1 h with h | h
   ·exact hf q h
   ·rcases List.mem_cons.1 h with rfl | h
    ·exact dS (d := 1) (by omega) (by omega) hN h2
    ·cases h)
  exact ⟨r, hr, by simpa using h3, h4⟩
theorem Cf {c : AX} (h : iQ c = true) : pR c.CSN ∧ pR c.ID ∧ pR c.Parent ∧ (1 ≤ c.Kind ∧ c.Kind ≤ 4) ∧ ∀ m ∈ c.Mods, 1 ≤ m.Kind ∧ m.Kind ≤ 3 := by
 unfold iQ at h
 simp only [Bool.and_eq_true, decide_eq_true_eq] at h
 obtain ⟨h1, _, h2, h3, h4⟩ := h
 refine ⟨h1, h2, h3, ?_⟩
 have hmods : ∀ last, last ≤ 3 → UQ last c.Mods = true → ∀ m ∈ c.Mods, 1 ≤ m.Kind ∧ m.Kind ≤ 3 := by
  intro last hl hm m hmm
  unfold UQ at hm
  simp only [Bool.and_eq_true, List.all_eq_true] at hm
  have := hm.1 m hmm
  unfold aH at this
  split at this
  ·cases this
  ·simp only [Bool.and_eq_true, decide_eq_true_eq] at this
   exact ⟨this.2.2.1, by omega⟩
 have hnil : c.Mods.length = 0 → ∀ m ∈ c.Mods, 1 ≤ m.Kind ∧ m.Kind ≤ 3 := by
  intro h m hm
  rw [List.length_eq_zero_iff.1 h] at hm
  cases hm
 unfold yH at h4
 by_cases k1 : c.Kind = 1
 ·rw [show (c.Kind == 1) = true by simpa using k1, cond_true] at h4
  simp only [Bool.and_eq_true] at h4
  exact ⟨by omega, hmods 1 (by omega) h4.2.2.2.1⟩
 ·rw [show (c.Kind == 1) = false by simpa using k1, cond_false] at h4
  by_cases k2 : c.Kind = 2
  ·rw [show (c.Kind == 2) = true by simpa using k2, cond_true] at h4
   simp only [Bool.and_eq_true, decide_eq_true_eq] at h4
   exact ⟨by omega, hnil h4.2.2.2⟩
  ·rw [show (c.Kind == 2) = false by simpa using k2, cond_false] at h4
   by_cases k3 : c.Kind = 3
   ·rw [show (c.Kind == 3) = true by simpa using k3, cond_true] at h4
    simp only [Bool.and_eq_true] at h4
    exact ⟨by omega, hmods 3 (by omega) h4.2.2.2⟩
   ·rw [show (c.Kind == 3) = false by simpa using k3, cond_false] at h4
    by_cases k4 : c.Kind = 4
    ·rw [show (c.Kind == 4) = true by simpa using k4, cond_true] at h4
     simp only [Bool.and_eq_true, decide_eq_true_eq] at h4
     exact ⟨by omega, hnil h4.2.2.2.2⟩
    ·rw [show (c.Kind == 4) = false by simpa using k4, cond_false] at h4
     cases h4
theorem uI {N : Nat} (hN : 2000000 < N) {c : AX} (h1 : pR c.CSN) (h2 : pR c.ID) (h3 : pR c.Parent) {k : Int} (h0 : -4 ≤ k) (h4 : k ≤ 4) {l m : List A7} (hl : l.length ≤ 1000000 * 2) (hm : m.length ≤ 1000000) (fl : ∀ e ∈ l, Fit N 1 e) (fm : ∀ e ∈ m, Fit N 2 e) :
  ∃ s j, M6 c N l m k = some (s, j) ∧ ((j = 0 ∧ s.length ≤ 4000) ∨ j = 13) := by
 obtain ⟨e1, g1, f1⟩ := yE hN h0 h4
 obtain ⟨e2, g2, f2⟩ := qL hN h1
 obtain ⟨e3, g3, f3⟩ := qL hN h2
 obtain ⟨e4, g4, f4⟩ := qL hN h3
 unfold M6
 rw [g1, oS, show (⟨c.CSN.Time, c.CSN.Seq, c.CSN.Rep⟩ : AP) = c.CSN from rfl, g2, oS, show (⟨c.ID.Time, c.ID.Seq, c.ID.Rep⟩ : AP) = c.ID from rfl, g3, oS, show (⟨c.Parent.Time, c.Parent.Seq, c.Parent.Rep⟩ : AP) = c.Parent from rfl, g4, oS]
 unfold PQ
 simp only [oS]
 have hf : Fit N 4 ⟨48, [], List.map A9 [e1, e2, e3, e4, ⟨48, [], List.map A9 l⟩, ⟨48, [], List.map A9 m⟩]⟩ := by
  refine dS (d := 3) (by simp) (by omega) hN fun x hx => ?_
  simp only [List.mem_cons, List.not_mem_nil, or_false] at hx
  rcases hx with rfl | rfl | rfl | rfl | rfl | rfl
  ·exact f1.mono (by omega)
  ·exact f2.mono (by omega)
  ·exact f3.mono (by omega)
  ·exact f4.mono (by omega)
  ·exact (dS (d := 1) (by omega) (by omega) hN fl).mono (by omega)
  ·exact dS (d := 2) (by omega) (by omega) hN fm
 obtain ⟨s, j, hw, hj⟩ := Dr (by omega) hN hf
 rw [hw, oS]
 rcases hj with rfl | rfl
 ·by_cases hc : (s.length : Int) > 4000
  ·simp only [decide_eq_true hc]; exact ⟨_, _, rfl, .inr rfl⟩
  ·simp only [decide_eq_false hc]; exact ⟨_, _, rfl, .inl ⟨rfl, by omega⟩⟩
 ·exact ⟨_, _, rfl, .inr rfl⟩
theorem lZ {N : Nat} {c : AX} (hN : 2000000 < N) (hN2 : N ≤ 9223372036854775808) (h : Qv c) :
  ∃ s j, JW N c = some (s, j) ∧ (iQ c = true → (j = 0 ∧ s.length ≤ 4000) ∨ j = 13) ∧ (iQ c = false → s = [] ∧ j = 14) := by
 unfold JW
 rw [Pt hN hN2 h, oS]
 cases hc : iQ c with
 | false => exact ⟨_, _, rfl, (fun h => by cases h), fun _ => ⟨rfl, rfl⟩⟩
 | true =>
  obtain ⟨k1, k2, k3, k4, k5⟩ := Cf hc
  obtain ⟨l, hl, l1, l2⟩ := Df N hN c c.RDN [] [] N rfl (by simpa using h.1.1) (by have := h.1.1; omega) h.1.2 rfl (fun e he => by cases he)
  obtain ⟨m, hm, m1, m2⟩ := Dg N hN c l c.Mods [] [] N rfl (by simpa using h.2.1) (by have := h.2.1; omega) (fun q hq => ⟨h.2.2 q hq, k5 q hq⟩) rfl (fun e he => by cases he)
  simp only [List.length_nil, List.nil_append] at hl l1 hm m1
  rw [show ((0 : Int)) = ((0 : Nat) : Int) from rfl, hl]
  simp only [Bool.not_true, cond_false, oS]
  rw [hm, oS]
  have b1 := h.1.1
  have b2 := h.2.1
  cases c.DelOld
  ·obtain ⟨s, j, hs, hj⟩ := uI hN k1 k2 k3 (k := c.Kind) (by omega) (by omega) (l := l) (m := m) (by omega) (by omega) l2 m2
   exact ⟨s, j, hs, fun _ => hj, (fun h => by cases h)⟩
  ·obtain ⟨s, j, hs, hj⟩ := uI hN k1 k2 k3 (k := BM (((0 : Nat) : Int) - c.Kind)) (by rw [NF (by omega) (by omega)]; omega) (by rw [NF (by omega) (by omega)]; omega) (l := l) (m := m) (by omega) (by omega) l2 m2
   exact ⟨s, j, hs, fun _ => hj, (fun h => by cases h)⟩
theorem or64 {a b k : Nat} (ha : a < 2 ^ k) (hb : b < 2 ^ k) (hk : k ≤ 62) : ∃ c : Nat, c < 2 ^ k ∧ Ll .or .i64 (a : Int) (b : Int) = (c : Int) := by
 have hp : 2 ^ k ≤ 2 ^ 62 := Nat.pow_le_pow_right (by omega) hk
 refine ⟨a ||| b, Nat.or_lt_two_pow ha hb, ?_⟩
 have hc := Nat.or_lt_two_pow ha hb
 unfold Ll o9
 simp only [Option.getD_some]
 have e1 : (BitVec.ofInt IntKind.i64.bits (a : Int) ||| BitVec.ofInt IntKind.i64.bits (b : Int)).toNat = a ||| b := by
  show (BitVec.ofInt 64 (a : Int) ||| BitVec.ofInt 64 (b : Int)).toNat = a ||| b
  rw [BitVec.toNat_or, BitVec.toNat_ofInt, BitVec.toNat_ofInt]
  have h1 : ((a : Int) % ((2 ^ 64 : Nat) : Int)).toNat = a := by omega
  have h2 : ((b : Int) % ((2 ^ 64 : Nat) : Int)).toNat = b := by omega
  rw [h1, h2]
 rw [e1]
 exact NF (by omega) (by omega)
theorem shl8 {v : Nat} (hv : v < 36028797018963968) : jQ (v : Int) 8 = ((v * 256 : Nat) : Int) := by
 unfold jQ
 show IntKind.i64.wrap ((v : Int) * 2 ^ 8) = _
 have : BM ((v : Int) * 256) = (v : Int) * 256 := NF (by omega) (by omega)
 have e : ((v : Int) * 2 ^ 8) = (v : Int) * 256 := rfl
 rw [e]
 exact this.trans (by omega)
theorem Cj (N : Nat) (x : UInt8) : ∀ (b a : List UInt8) (v n : Nat), (a ++ b).length ≤ 4 → b.length < n → v < 2 ^ (8 * a.length) → ∃ c : Nat, MW N x (a ++ b) n ((v : Int), (a.length : Int)) = some (c : Int) := by
 intro b
 induction b with
 | nil =>
  intro a v n hs hn hv
  obtain ⟨n, rfl, _⟩ := fuel hn
  simp only [MW, RA]
  rw [CS, cond_false]; exact ⟨v, rfl⟩
 | cons c b ih =>
  intro a v n hs hn hv
  obtain ⟨n, rfl, hn'⟩ := fuel hn
  have hl : a.length ≤ 3 := by simp at hs; omega
  have hv2 : v * 256 < 2 ^ (8 * (a ++ [c]).length) := by
   have : 2 ^ (8 * (a ++ [c]).length) = 2 ^ (8 * a.length) * 256 := by
    rw [List.length_append, List.length_singleton, Nat.mul_add, Nat.pow_add]
   rw [this]
   exact (Nat.mul_lt_mul_right (by omega)).2 hv
  have hb : c.toNat < 2 ^ (8 * (a ++ [c]).length) := by
   have h1 := c.toNat_lt
   have h2 : 2 ^ 8 ≤ 2 ^ (8 * (a ++ [c]).length) := Nat.pow_le_pow_right (by omega) (by simp; omega)
   omega
  obtain ⟨o, ho, e⟩ := or64 hv2 hb (by simp; omega)
  have hbig : v < 36028797018963968 := by
   have h2 : 2 ^ (8 * a.length) ≤ 2 ^ 24 := Nat.pow_le_pow_right (by omega) (by omega)
   omega
  simp only [MW, RA]
  rw [CY, cond_true, XQ, oS, L9, oS, shl8 hbig, e, D7 (a := a) (b := b) (x := c) (by omega)]
  obtain ⟨r, hr⟩ := ih (a ++ [c]) o n (by simpa using hs) hn' ho
  rw [← EN] at hr
  exact ⟨r, hr⟩
theorem head_eq {N : Nat} (hN : 2000000 < N) {s : List UInt8} (hs : s.length ≤ 1000000) :
  (∃ h z : Nat, Z9 N s = some ((h : Int), (z : Int), 0) ∧ 2 ≤ h ∧ h ≤ s.length ∧ z ≤ 4000) ∨ ∃ k : Int, k ≠ 0 ∧ Z9 N s = some (0, 0, k) := by
 unfold Z9
 cases s with
 | nil => exact .inr ⟨10, by decide, rfl⟩
 | cons c t =>
  rw [show (c :: t == ([] : List UInt8)) = false from rfl, cond_false, show CE (c :: t) (0 : Int) = some c from rfl, oS]
  cases ((((c &&& (31 : UInt8))).toNat : Int) == (31 : Int)) with
  | true => exact .inr ⟨14, by decide, rfl⟩
  | false =>
   rw [cond_false]
   cases t with
   | nil => exact .inr ⟨10, by decide, rfl⟩
   | cons d u =>
    have hl1 : (((c :: d :: u).length : Int) == (1 : Int)) = false := by
     rw [beq_eq_false_iff_ne]; simp; omega
    rw [hl1, cond_false, show CE (c :: d :: u) (1 : Int) = some d from rfl, oS]
    by_cases h128 : d.toNat = 128
    ·rw [show (((d).toNat : Int) == (128 : Int)) = true by rw [h128]; rfl]
     exact .inr ⟨11, by decide, rfl⟩
    ·rw [show (((d).toNat : Int) == (128 : Int)) = false by rw [beq_eq_false_iff_ne]; omega, cond_false, oS]
     by_cases h132 : d.toNat > 132
     ·rw [decide_eq_true (show ((d.toNat : Int) > 132) by omega)]
      exact .inr ⟨11, by decide, rfl⟩
     ·rw [decide_eq_false (show ¬ ((d.toNat : Int) > 132) by omega), cond_false]
      by_cases hgt : d.toNat > 128
      ·obtain ⟨q, hq⟩ : ∃ q : Nat, d.toNat = 128 + q := ⟨d.toNat - 128, by omega⟩
       have e1 : BM ((d.toNat : Int) - 128) = (q : Int) := by rw [NF (by omega) (by omega)]; omega
       have e2 : BM ((2 : Int) + (q : Int)) = ((2 + q : Nat) : Int) := by rw [NF (by omega) (by omega)]; omega
       rw [decide_eq_true (show ((d.toNat : Int) > 128) by omega), cond_true, e1, e2]
       by_cases hsh : ((c :: d :: u).length : Int) < ((2 + q : Nat) : Int)
       ·rw [decide_eq_true hsh]
        exact .inr ⟨10, by decide, rfl⟩
       ·rw [decide_eq_false hsh, cond_false, show (2 : Int) = ((2 : Nat) : Int) from rfl, Z5 (by omega) (by omega), oS]
        have hlen : (((c :: d :: u).take (2 + q)).drop 2).length ≤ 4 := by simp; omega
        obtain ⟨r, hr⟩ := Cj N d (((c :: d :: u).take (2 + q)).drop 2) [] 0 N (by simpa using hlen) (by omega) (by simp)
        simp only [List.nil_append, List.length_nil] at hr
        rw [show ((0 : Int)) = ((0 : Nat) : Int) from rfl, hr, oS]
        unfold RB
        by_cases hbig : (r : Int) > 4000
        ·rw [decide_eq_true hbig]
         exact .inr ⟨13, by decide, rfl⟩
        ·rw [decide_eq_false hbig, cond_false, show (2 : Int) = ((2 : Nat) : Int) from rfl] at *
         refine .inl ⟨2 + q, r, ?_, by omega, by omega, by omega⟩
         have e3 : BM (((2 : Nat) : Int) + (q : Int)) = ((2 + q : Nat) : Int) := e2
         rw [e3]; rfl
      ·rw [decide_eq_false (show ¬ ((d.toNat : Int) > 128) by omega), cond_false]
       unfold RB
       rw [decide_eq_false (show ¬ ((d.toNat : Int) > 4000) by omega), cond_false]
       exact .inl ⟨2, d.toNat, rfl, by omega, by simp, by omega⟩
def Le : Nat → A7 → Prop
 | 0, _ => True
 | d + 1, e => e.Body.length ≤ 999999 ∧ ∃ l, e.Kids = List.map A9 l ∧ l.length ≤ 999999 ∧ ∀ x ∈ l, Le d x
def noE : A7 := ⟨0, [], []⟩
theorem rloop (N : Nat) (s : List UInt8) (hs : s.length ≤ 999999) (g : BG → Int → Int → Int → Option (A7 × Int × Int × BG)) (a1 : Int) (d E : Nat) (x : Int × Int × Int)
  (hE : BM ((BM (a1 + x.1)) + x.2.1) = (E : Int)) (hEs : E ≤ s.length) (hd : BM ((d : Int) + 1) = ((d + 1 : Nat) : Int))
  (hg : ∀ (r : BG) (f : Nat), r.s = s → f ≤ E → ∃ y t k r', g r (f : Int) (E : Int) ((d + 1 : Nat) : Int) = some (y, t, k, r') ∧ r'.s = s ∧ (k = 0 → ∃ t' : Nat, t = (t' : Int) ∧ f < t' ∧ t' ≤ E ∧ ∀ q, Le q y)) :
  ∀ (m p n : Nat) (tag : UInt8) (body : List UInt8) (kids : List A7) (r : BG), p ≤ E → E - p ≤ m → m < n → r.s = s → kids.length ≤ p → (∀ y ∈ kids, ∀ q, Le q y) →
  ∃ y, FH N g a1 (d : Int) x n ((p : Int), tag, body, kids, r) = some y ∧ ((∃ k r', k ≠ 0 ∧ r'.s = s ∧ y = .inr (noE, 0, k, r')) ∨ ∃ l r', r'.s = s ∧ l.length ≤ 999999 ∧ (∀ y ∈ l, ∀ q, Le q y) ∧ y = .inl (tag, body, l, r')) := by
 intro m
 induction m with
 | zero =>
  intro p n tag body kids r hp hm hn hr hk hG
  obtain ⟨n, rfl, _⟩ := fuel hn
  simp only [FH, IU]
  rw [hE, decide_eq_false (by omega), cond_false]
  exact ⟨_, rfl, .inr ⟨kids, r, hr, by omega, hG, rfl⟩⟩
 | succ m ih =>
  intro p n tag body kids r hp hm hn hr hk hG
  obtain ⟨n, rfl, hn'⟩ := fuel hn
  simp only [FH, IU]
  rw [hE]
  by_cases hpE : p < E
  ·rw [decide_eq_true (by omega), cond_true, hd]
   obtain ⟨y, t, k, r', h1, h2, h3⟩ := hg r p hr hp
   rw [h1, oS]
   by_cases hk0 : k = 0
   ·subst hk0
    obtain ⟨t', rfl, h4, h5, h6⟩ := h3 rfl
    rw [show ((0 : Int) != (0 : Int)) = false from rfl, cond_false, IV (by simp; omega), oS]
    exact ih t' n tag body (kids ++ [y]) r' h5 (by omega) (by omega) h2 (by simp; omega) fun z hz => by
     rcases List.mem_append.1 hz with hz | hz
     ·exact hG z hz
     ·rcases List.mem_cons.1 hz with rfl | hz
      ·exact h6
      ·cases hz
   ·rw [show ((k : Int) != (0 : Int)) = true by simpa using hk0, cond_true]
    exact ⟨_, rfl, .inl ⟨k, r', hk0, h2, rfl⟩⟩
  ·rw [decide_eq_false (by omega), cond_false]
   exact ⟨_, rfl, .inr ⟨kids, r, hr, by omega, hG, rfl⟩⟩
theorem Ir {t : UInt8} {b : List UInt8} {l : List A7} (hb : b.length ≤ 999999) (hl : l.length ≤ 999999) (h : ∀ y ∈ l, ∀ q, Le q y) : ∀ q, Le q ⟨t, b, List.map A9 l⟩
 | 0 => trivial
 | q + 1 => ⟨hb, l, rfl, hl, fun x hx => h x hx q⟩
theorem sD {g : BG → Int → Int → Int → Option (A7 × Int × Int × BG)} {N : Nat} {r : BG} {a1 a3 : Int} {x : Int × Int × Int} {v : Int} (hv : v ≠ 0) : ∃ k, k ≠ 0 ∧ G9 g r a1 a3 N x v = some (noE, 0, k, ⟨r.s, a1⟩) := by
 unfold G9
 have hj : ∀ w : Int, w ≠ 0 → G8 g r a1 a3 N x w = some (noE, 0, w, ⟨r.s, a1⟩) := by
  intro w hw
  unfold G8
  rw [show ((w : Int) != (0 : Int)) = true by simpa using hw]; rfl
 rw [hj v hv, hj 11 (by decide)]
 cases (v == (10 : Int))
 ·exact ⟨v, hv, rfl⟩
 ·cases decide (a3 > (1 : Int))
  ·exact ⟨v, hv, rfl⟩
  ·exact ⟨11, by decide, rfl⟩
theorem Ml (N : Nat) (hN : 2000000 < N) (s : List UInt8) (hs : s.length ≤ 999999) : ∀ (n : Nat) (r : BG) (f e d : Nat), r.s = s → f ≤ e → e ≤ s.length → d ≤ 21 → 22 ≤ n + d →
  ∃ y t k r', DX N n r (f : Int) (e : Int) (d : Int) = some (y, t, k, r') ∧ r'.s = s ∧ (k = 0 → ∃ t' : Nat, t = (t' : Int) ∧ f < t' ∧ t' ≤ e ∧ ∀ q, Le q y) := by
 intro n
 induction n with
 | zero => intro r f e d _ _ _ _ _; omega
 | succ n ih =>
  rintro ⟨s', p0⟩ f e d hr hfe hes hd hnd
  simp only at hr
  subst hr
  show ∃ y t k r', LB N (DX N n) ⟨s', p0⟩ (f : Int) (e : Int) (d : Int) = some (y, t, k, r') ∧ _
  unfold LB
  by_cases h20 : d > 20
  ·rw [decide_eq_true (show ((d : Int) > 20) by omega)]
   exact ⟨_, _, _, _, rfl, rfl, fun h => by cases h⟩
  ·rw [decide_eq_false (show ¬ ((d : Int) > 20) by omega), cond_false, Z5 hfe hes, oS]
   have hlen : ((s'.take e).drop f).length = e - f := by simp; omega
   rcases head_eq hN (s := (s'.take e).drop f) (by omega) with ⟨h, z, hh, h2, hhl, hz⟩ | ⟨k, hk, hh⟩
   ·rw [hh, oS]
    simp only
    have e1 : BM (BM ((e : Int) - (f : Int)) - (h : Int)) = ((e - f - h : Nat) : Int) := by
     rw [NF (n := (e : Int) - (f : Int)) (by omega) (by omega), NF (by omega) (by omega)]; omega
    rw [e1, show ((0 : Int) == (0 : Int)) = true from rfl, cond_true, oS]
    by_cases hbig : (z : Int) > ((e - f - h : Nat) : Int)
    ·rw [decide_eq_true hbig, cond_true]
     obtain ⟨k, hk, hr⟩ := sD (g := DX N n) (N := N) (r := ⟨s', p0⟩) (a1 := (f : Int)) (a3 := (d : Int)) (x := ((h : Int), (z : Int), 0)) (v := 10) (by decide)
     rw [hr]
     exact ⟨_, _, _, _, rfl, rfl, fun h => absurd h hk⟩
    ·rw [decide_eq_false hbig, cond_false]
     unfold G9
     rw [show ((0 : Int) == (10 : Int)) = false from rfl, cond_false, oS, cond_false]
     unfold G8
     have hf : f < s'.length := by omega
     have e2 : BM ((f : Int) + (h : Int)) = ((f + h : Nat) : Int) := by rw [NF (by omega) (by omega)]; omega
     have e3 : BM (((f + h : Nat) : Int) + (z : Int)) = ((f + h + z : Nat) : Int) := by rw [NF (by omega) (by omega)]; omega
     rw [show ((0 : Int) != (0 : Int)) = false from rfl, cond_false, R3 (List.getElem?_eq_getElem hf), oS]
     simp only [e2, e3]
     cases (((((s'[f]) &&& (32 : UInt8))).toNat : Int) == (0 : Int)) with
     | true =>
      rw [cond_true, Z5 (by omega) (by omega), oS]
      exact ⟨_, _, _, _, rfl, rfl, fun _ => ⟨f + h + z, rfl, by omega, by omega, Ir (l := []) (by simp; omega) (by simp) (fun y hy => by cases hy)⟩⟩
     | false =>
      rw [cond_false]
      obtain ⟨y, hy, hc⟩ := rloop N s' hs (DX N n) (f : Int) d (f + h + z) ((h : Int), (z : Int), 0) (by simp only; rw [e2, e3]) (by omega) (by rw [NF (by omega) (by omega)]; omega)
       (fun r p hr hp => ih r p (f + h + z) (d + 1) hr hp (by omega) (by omega) (by omega)) (f + h + z) (f + h) N (s'[f]) [] [] ⟨s', (f : Int)⟩ (by omega) (by omega) (by omega) rfl (by simp) (fun y hy => by cases hy)
      rw [hy, oS]
      rcases hc with ⟨k, r', hk, hr', rfl⟩ | ⟨l, r', hr', hl, hG, rfl⟩
      ·exact ⟨_, _, _, _, rfl, hr', fun h => absurd h hk⟩
      ·exact ⟨_, _, _, _, rfl, hr', fun _ => ⟨f + h + z, rfl, by omega, by omega, Ir (by simp) hl hG⟩⟩
   ·rw [hh, oS]
    simp only
    rw [show ((k : Int) == (0 : Int)) = false by simpa using hk, cond_false, oS, cond_false]
    obtain ⟨k', hk', hr⟩ := sD (g := DX N n) (N := N) (r := ⟨s', p0⟩) (a1 := (f : Int)) (a3 := (d : Int)) (x := (0, 0, k)) hk
    rw [hr]
    exact ⟨_, _, _, _, rfl, rfl, fun h => absurd h hk'⟩
theorem wV {N : Nat} (hN : 2000000 < N) {s : List UInt8} (hs : s.length ≤ 999999) : ∃ y n m k, eG N s = some (y, n, m, k) ∧ (k = 0 → ∀ q, Le q y) := by
 unfold eG PT
 obtain ⟨y, t, k, r', h1, h2, h3⟩ := Ml N hN s hs N ⟨s, 0⟩ 0 s.length 1 rfl (Nat.zero_le _) (Nat.le_refl _) (by omega) (by omega)
 have h1' : DX N N ⟨s, 0⟩ 0 (s.length : Int) 1 = some (y, t, k, r') := h1
 rw [h1', oS]
 by_cases hk : k = 0
 ·subst hk
  obtain ⟨_, _, _, _, h4⟩ := h3 rfl
  exact ⟨_, _, _, _, rfl, fun _ => h4⟩
 ·simp only
  rw [show ((k : Int) != (0 : Int)) = true by simpa using hk, cond_true]
  exact ⟨_, _, _, _, rfl, fun h => absurd h hk⟩
theorem Ah (n : Int) : -9223372036854775808 ≤ BM n ∧ BM n < 9223372036854775808 := by
 unfold BM IntKind.wrap
 simp only [IntKind.signed, IntKind.bits, Bool.true_and, decide_eq_true_eq, show ((2 : Int) ^ 64) = 18446744073709551616 from rfl, show ((2 : Int) ^ (64 - 1)) = 9223372036854775808 from rfl]
 split <;> omega
theorem shr8 (v : Int) : jO v 8 = v / 256 := by
 unfold jO
 show v.fdiv (2 ^ 8) = v / 256
 rw [Int.fdiv_eq_ediv_of_nonneg _ (by decide)]; rfl
theorem Ai (N : Nat) : ∀ (k n : Nat) (v : Int) (b : List UInt8), -((256 : Int) ^ k) ≤ v → v < (256 : Int) ^ k → b ≠ [] → b.length + k ≤ 1000 → k + 2 < n → ∃ l, GQ N n (v, b) = some l := by
 intro k
 have step : ∀ (n : Nat) (v : Int) (c : UInt8) (b : List UInt8), (c :: b).length ≤ 1000 → (∃ l, GQ N n (v / 256, byte v :: c :: b) = some l) → ∃ l, GQ N (n + 1) (v, c :: b) = some l := by
  intro n v c b hb ⟨l, hl⟩
  simp only [GQ, QN, P8]
  have hl' : GQ N n (jO v 8, byte v :: c :: b) = some l := by rw [shr8]; exact hl
  rw [show OV (0 : Int) (c :: b).length = some 0 from UN (i := 0) (by simp), oS, show (c :: b)[0]? = some c from rfl, oS, IV (by simp at hb ⊢; omega)]
  simp only [oS, List.singleton_append, hl']
  cases ((((c &&& (128 : UInt8))).toNat : Int) != (0 : Int)) <;> simp only [cond_true, cond_false]
  ·cases (v == 0)
   ·exact ⟨_, rfl⟩
   ·exact ⟨_, rfl⟩
  ·cases (v == -1)
   ·exact ⟨_, rfl⟩
   ·exact ⟨_, rfl⟩
 induction k with
 | zero =>
  intro n v b h0 h1 hb hl hn
  obtain ⟨c, b, rfl⟩ := List.exists_cons_of_ne_nil hb
  obtain ⟨n, rfl⟩ : ∃ m, n = m + 2 := ⟨n - 2, by omega⟩
  refine step (n + 1) v c b (by omega) ?_
  have hv : v = -1 ∨ v = 0 := by
   have e : (256 : Int) ^ 0 = 1 := rfl
   rw [e] at h0 h1; omega
  have fin : ∀ (v : Int) (c : UInt8) (b : List UInt8), (bif ((((c &&& (128 : UInt8))).toNat : Int) != (0 : Int)) then v == -1 else v == 0) = true → ∃ l, GQ N (n + 1) (v, c :: b) = some l := by
   intro v c b hc
   simp only [GQ, QN, P8]
   rw [show OV (0 : Int) (c :: b).length = some 0 from UN (i := 0) (by simp), oS, show (c :: b)[0]? = some c from rfl, oS]
   cases h : ((((c &&& (128 : UInt8))).toNat : Int) != (0 : Int)) <;> rw [h] at hc <;> simp only [cond_true, cond_false] at hc ⊢ <;> rw [hc] <;> exact ⟨_, rfl⟩
  rcases hv with rfl | rfl
  ·exact fin _ _ _ (by decide)
  ·exact fin _ _ _ (by decide)
 | succ k ih =>
  intro n v b h0 h1 hb hl hn
  obtain ⟨c, b, rfl⟩ := List.exists_cons_of_ne_nil hb
  obtain ⟨n, rfl⟩ : ∃ m, n = m + 1 := ⟨n - 1, by omega⟩
  rw [Int.pow_succ] at h0 h1
  refine step n v c b (by omega) (ih n (v / 256) (byte v :: c :: b) (by omega) (by omega) (by simp) (by simp at hl ⊢; omega) (by omega))
theorem uS {N : Nat} (hN : 2000000 < N) {v : Int} (h0 : -9223372036854775808 ≤ v) (h1 : v < 9223372036854775808) : ∃ l, RP N v = some l := by
 unfold RP
 have e : (256 : Int) ^ 7 = 72057594037927936 := rfl
 obtain ⟨l, hl⟩ := Ai N 7 N (v / 256) [byte v] (by rw [e]; omega) (by rw [e]; omega) (by simp) (by simp) (by omega)
 rw [shr8, hl]
 exact ⟨l, rfl⟩
theorem rW (N : Nat) : ∀ (b a : List UInt8) (v : Int) (n : Nat), (a ++ b).length ≤ 999999 → b.length < n → -9223372036854775808 ≤ v → v < 9223372036854775808 →
  ∃ y, GZ N (a ++ b) n (v, (a.length : Int)) = some y ∧ -9223372036854775808 ≤ y ∧ y < 9223372036854775808 := by
 intro b
 induction b with
 | nil =>
  intro a v n hs hn h0 h1
  obtain ⟨n, rfl, _⟩ := fuel hn
  simp only [GZ, LP]
  rw [CS, cond_false]; exact ⟨v, rfl, h0, h1⟩
 | cons c b ih =>
  intro a v n hs hn h0 h1
  obtain ⟨n, rfl, hn'⟩ := fuel hn
  simp only [GZ, LP]
  rw [CY, cond_true, XQ, oS, L9, oS, D7 (a := a) (b := b) (x := c) (by omega)]
  have hr : -9223372036854775808 ≤ Ll .or .i64 (jQ v 8) ((c.toNat : Nat) : Int) ∧ Ll .or .i64 (jQ v 8) ((c.toNat : Nat) : Int) < 9223372036854775808 := Ah _
  obtain ⟨y, hy, h2⟩ := ih (a ++ [c]) _ n (by simpa using hs) hn' hr.1 hr.2
  rw [← EN] at hy
  exact ⟨y, hy, h2⟩
theorem aG {N : Nat} (hN : 2000000 < N) {s : List UInt8} (hs : s.length ≤ 999999) : ∃ v b, P7 N s = some (v, b) := by
 have hj : ∀ v : Int, -9223372036854775808 ≤ v → v < 9223372036854775808 → ∃ w b, LW s N v = some (w, b) := by
  intro v h0 h1
  unfold LW
  obtain ⟨y, hy, h2, h3⟩ := rW N s [] v N (by simpa using hs) (by omega) h0 h1
  simp only [List.nil_append, List.length_nil] at hy
  obtain ⟨l, hl⟩ := uS hN h2 h3
  rw [show ((0 : Int)) = ((0 : Nat) : Int) from rfl, hy, oS, hl, oS]
  cases (!(l == s)) <;> exact ⟨_, _, rfl⟩
 unfold P7
 cases s with
 | nil => exact ⟨_, _, rfl⟩
 | cons c t =>
  rw [show (c :: t == ([] : List UInt8)) = false from rfl, cond_false, oS]
  cases decide (((c :: t).length : Int) > (8 : Int))
  ·rw [cond_false, show CE (c :: t) (0 : Int) = some c from rfl, oS]
   cases ((((c &&& (128 : UInt8))).toNat : Int) != (0 : Int))
   ·exact hj 0 (by omega) (by omega)
   ·exact hj (-1) (by omega) (by omega)
  ·exact ⟨_, _, rfl⟩
def Fx : AX := ⟨⟨0, 0, 0⟩, 0, ⟨0, 0, 0⟩, ⟨0, 0, 0⟩, [], false, []⟩
def Qk (x : A7) : Prop := x.Body.length ≤ 999999
theorem j3 {d : Nat} {x : A7} (h : Le (d + 1) x) : Qk x ∧ ∃ l, TS CL x.Kids = some l ∧ l.length ≤ 999999 ∧ ∀ y ∈ l, Le d y := by
 obtain ⟨h1, l, h2, h3, h4⟩ := h
 exact ⟨h1, l, by rw [h2]; exact dZ TE l, h3, h4⟩
theorem vM (N : Nat) (s : List UInt8) (x : A7 × Int × Int × Int) (l : List A7) (hl : l.length ≤ 999999) (hk : ∀ y ∈ l, Qk y) (t0 t1 t2 t3 t4 t5 t6 t7 t8 t9 : Int) (t11 : Bool) :
  ∀ (m i n : Nat) (o : List AL), l.length + 2 - i ≤ m → m < n → o.length ≤ i → i ≤ l.length + 1 → (∀ a ∈ o, Qw a) →
  ∃ r, JI N s x l n ((i : Int), t0, t1, t2, t3, t4, t5, t6, t7, t8, t9, t11, o) = some (t0, t1, t2, t3, t4, t5, t6, t7, t8, t9, t11, r) ∧ r.length ≤ 1000000 ∧ ∀ a ∈ r, Qw a := by
 intro m
 induction m with
 | zero => intro i n o h1 h2 h3 h4 h5; omega
 | succ m ih =>
  intro i n o h1 h2 h3 h4 h5
  obtain ⟨n, rfl, hn'⟩ := fuel h2
  simp only [JI, R6]
  rw [GA (by omega)]
  by_cases hi : i + 1 < l.length
  ·rw [decide_eq_true (by omega), cond_true, R3 (List.getElem?_eq_getElem (show i < l.length by omega)), oS, R3 (List.getElem?_eq_getElem hi), oS, IV (by simp; omega), oS, nH (by omega)]
   obtain ⟨r, hr, hr2⟩ := ih (i + 2) n (o ++ [⟨(l[i]).Body, (l[i + 1]).Body⟩]) (by omega) (by omega) (by simp; omega) (by omega) (fun a ha => by
    rcases List.mem_append.1 ha with ha | ha
    ·exact h5 a ha
    ·rcases List.mem_cons.1 ha with rfl | ha
     ·have k1 := hk _ (List.getElem_mem (show i < l.length by omega))
      have k2 := hk _ (List.getElem_mem hi)
      unfold Qk at k1 k2
      exact ⟨by simp only; omega, by simp only; omega⟩
     ·cases ha)
   exact ⟨r, hr, hr2⟩
  ·rw [decide_eq_false (by omega), cond_false]
   exact ⟨o, rfl, by omega, h5⟩
theorem uU (N : Nat) (s : List UInt8) (q : List A7) (v t0 t1 t2 t3 t4 t5 t6 t7 t8 t9 : Int) (t11 : Bool) (ra : List AL) (rm : List BD) (k : Int) (w : List UInt8) (l : List A7) : ∀ (b a : List A7) (n : Nat) (o : List (List UInt8)), l = a ++ b → (a ++ b).length ≤ 999999 → b.length < n → (∀ y ∈ b, Qk y) → o.length = a.length → (∀ z ∈ o, z.length ≤ 1000000) →
  ∃ r, JH N s q v t0 t1 t2 t3 t4 t5 t6 t7 t8 t9 t11 ra rm l n ((a.length : Int), k, w, o) = some (k, w, r) ∧ r.length ≤ 1000000 ∧ ∀ z ∈ r, z.length ≤ 1000000 := by
 intro b
 induction b with
 | nil =>
  intro a n o he hs hn hk ho h5
  obtain ⟨n, rfl, _⟩ := fuel hn
  simp only [JH, NS]
  rw [he, CS, cond_false]; exact ⟨o, rfl, by simp at hs; omega, h5⟩
 | cons c b ih =>
  intro a n o he hs hn hk ho h5
  obtain ⟨n, rfl, hn'⟩ := fuel hn
  have hs' := hs
  simp only [List.length_append, List.length_cons] at hs'
  simp only [JH, NS]
  rw [he, CY, cond_true, D9, oS, IV (by simp; omega), oS, D7 (a := a) (b := b) (x := c) (by omega)]
  obtain ⟨r, hr, hr2⟩ := ih (a ++ [c]) n (o ++ [c.Body]) (by rw [he]; simp) (by simpa using hs) hn' (fun y hy => hk y (List.mem_cons_of_mem _ hy)) (by simp [ho]) (fun z hz => by
   rcases List.mem_append.1 hz with hz | hz
   ·exact h5 z hz
   ·rcases List.mem_cons.1 hz with rfl | hz
    ·have := hk c List.mem_cons_self
     unfold Qk at this; omega
    ·cases hz)
  rw [he] at hr
  exact ⟨r, hr, hr2⟩
theorem vR (N : Nat) (hN : 2000000 < N) (s : List UInt8) (l : List A7) (t0 t1 t2 t3 t4 t5 t6 t7 t8 t9 : Int) (t11 : Bool) (ra : List AL) : ∀ (b a : List A7) (n : Nat) (o : List BD), l = a ++ b → (a ++ b).length ≤ 999999 → b.length < n → (∀ y ∈ b, Le 2 y) → o.length = a.length → (∀ m ∈ o, Lr m) →
  ∃ y, I5 N s l n ((a.length : Int), t0, t1, t2, t3, t4, t5, t6, t7, t8, t9, t11, ra, o) = some y ∧ (y = .inr (Fx, 14) ∨ ∃ r, y = .inl (t0, t1, t2, t3, t4, t5, t6, t7, t8, t9, t11, ra, r) ∧ r.length ≤ 1000000 ∧ ∀ m ∈ r, Lr m) := by
 intro b
 induction b with
 | nil =>
  intro a n o he hs hn hk ho h5
  obtain ⟨n, rfl, _⟩ := fuel hn
  simp only [I5, NT]
  rw [he, CS, cond_false]; exact ⟨_, rfl, .inr ⟨o, rfl, by simp at hs; omega, h5⟩⟩
 | cons c b ih =>
  intro a n o he hs hn hk ho h5
  obtain ⟨n, rfl, hn'⟩ := fuel hn
  have hs' := hs
  simp only [List.length_append, List.length_cons] at hs'
  obtain ⟨_, k, hdec, hkl, hkk⟩ := j3 (hk c List.mem_cons_self)
  simp only [I5, NT]
  rw [he, CY, cond_true, D9, oS, hdec, oS]
  match k, hdec, hkl, hkk with
  | [], _, _, _ => exact ⟨_, rfl, .inl rfl⟩
  | [_], _, _, _ => exact ⟨_, rfl, .inl rfl⟩
  | e0 :: e1 :: ks, hdec, hkl, hkk =>
   have k0 : Qk e0 := (hkk e0 (by simp)).1
   have k1 : Qk e1 := (hkk e1 (by simp)).1
   obtain ⟨v, vb, hv⟩ := aG hN k0
   rw [decide_eq_false (by simp; omega), cond_false, oS, show CE (e0 :: e1 :: ks) (0 : Int) = some e0 from rfl, oS, hv]
   simp only [oS, hdec]
   rw [show CE (e0 :: e1 :: ks) (1 : Int) = some e1 from rfl, oS, show (2 : Int) = ((2 : Nat) : Int) from rfl, QF (by simp), oS]
   simp only [List.drop_succ_cons, List.drop_zero]
   simp only [List.length_cons] at hkl
   obtain ⟨r, hr, hr1, hr2⟩ := uU N s l (a.length : Int) t0 t1 t2 t3 t4 t5 t6 t7 t8 t9 t11 ra o v e1.Body ks ks [] N [] rfl (by simp; omega) (by omega) (fun y hy => (hkk y (by simp [hy])).1) rfl (fun z hz => by cases hz)
   simp only [List.length_nil] at hr
   rw [← he, show ((0 : Int)) = ((0 : Nat) : Int) from rfl, hr, oS, IV (by simp; omega), oS, show BM ((a.length : Int) + 1) = ((a ++ [c]).length : Int) from D7 (a := a) (b := b) (x := c) (by omega)]
   unfold Qk at k1
   exact ih (a ++ [c]) n (o ++ [⟨v, e1.Body, r⟩]) (by rw [he]; simp) (by simpa using hs) hn' (fun y hy => hk y (List.mem_cons_of_mem _ hy)) (by simp [ho]) (fun m hm => by
    rcases List.mem_append.1 hm with hm | hm
    ·exact h5 m hm
    ·rcases List.mem_cons.1 hm with rfl | hm
     ·exact ⟨by simp only; omega, hr1, hr2⟩
     ·cases hm)
theorem Sy {N : Nat} (hN : 2000000 < N) (s : List UInt8) (x : A7 × Int × Int × Int) (y : Int × Bool) (a b c : AP × Int) : NB N s x y a b c N () = some () := by
 obtain ⟨n, rfl⟩ : ∃ n, N = n + 1 := ⟨N - 1, by omega⟩
 rfl
theorem Cy {N : Nat} (hN : 2000000 < N) (hN2 : N ≤ 9223372036854775808) {s : List UInt8} (hs : s.length ≤ 999999) : OC N s = some (Fx, 14) ∨ ∃ c, OC N s = some (c, 0) ∧ Qv c ∧ JW N c = some (s, 0) := by
 obtain ⟨x, n, m, k, hr, hg⟩ := wV hN hs
 unfold OC
 rw [hr, oS]
 by_cases hk : k = 0
 case neg =>
  simp only
  rw [show ((k : Int) != (0 : Int)) = true by simpa using hk, cond_true, oS]
  exact .inl rfl
 subst hk
 simp only
 rw [show ((0 : Int) != (0 : Int)) = false from rfl, cond_false]
 cases (n != (s.length : Int)) with
 | true => exact .inl rfl
 | false =>
  obtain ⟨_, l, hdec, hl, hkk⟩ := j3 (hg rfl 4)
  rw [cond_false, hdec, oS, oS]
  by_cases h6 : l.length = 6
  case neg =>
   rw [show ((l.length : Int) != (6 : Int)) = true by simp; omega, cond_true]
   exact .inl rfl
  rw [show ((l.length : Int) != (6 : Int)) = false by simp; omega, cond_false]
  match l, h6, hdec, hkk with
  | [e0, e1, e2, e3, e4, e5], _, hdec, hkk =>
   have g0 := (hkk e0 (by simp)).1
   have g1 := (hkk e1 (by simp)).1
   have g2 := (hkk e2 (by simp)).1
   have g3 := (hkk e3 (by simp)).1
   obtain ⟨_, l4, d4, b4, k4⟩ := j3 (hkk e4 (by simp))
   obtain ⟨_, l5, d5, b5, k5⟩ := j3 (hkk e5 (by simp))
   obtain ⟨v, vb, hv⟩ := aG hN g0
   rw [oS, show CE [e0, e1, e2, e3, e4, e5] (0 : Int) = some e0 from rfl, oS, hv, oS]
   simp only [hdec, oS]
   rw [show CE [e0, e1, e2, e3, e4, e5] (1 : Int) = some e1 from rfl, oS]
   rcases bF hN g1 with h1 | ⟨c1, h1, _, _⟩
   ·rw [h1]; exact .inl rfl
   rw [h1, oS]
   simp only
   rw [show ((0 : Int) != (0 : Int)) = false from rfl, cond_false, show CE [e0, e1, e2, e3, e4, e5] (2 : Int) = some e2 from rfl, oS]
   rcases bF hN g2 with h2 | ⟨c2, h2, _, _⟩
   ·rw [h2]; exact .inl rfl
   rw [h2, oS]
   simp only
   rw [show ((0 : Int) != (0 : Int)) = false from rfl, cond_false, show CE [e0, e1, e2, e3, e4, e5] (3 : Int) = some e3 from rfl, oS]
   rcases bF hN g3 with h3 | ⟨c3, h3, _, _⟩
   ·rw [h3]; exact .inl rfl
   rw [h3, oS]
   simp only
   rw [show ((0 : Int) != (0 : Int)) = false from rfl, cond_false, Sy hN, oS, show CE [e0, e1, e2, e3, e4, e5] (4 : Int) = some e4 from rfl, oS, d4, oS]
   obtain ⟨r, hr47, hrl, hrb⟩ := vM N s (x, n, m, 0) l4 b4 (fun y hy => (k4 y hy).1) c1.Time c1.Seq c1.Rep (mx v (BM (0 - v))) c2.Time c2.Seq c2.Rep c3.Time c3.Seq c3.Rep (decide (v < 0)) (l4.length + 2) 0 N [] (by omega) (by omega) (by simp) (by omega) (fun a ha => by cases ha)
   have hr47' : JI N s (x, n, m, 0) l4 N (0, c1.Time, c1.Seq, c1.Rep, mx v (BM (0 - v)), c2.Time, c2.Seq, c2.Rep, c3.Time, c3.Seq, c3.Rep, decide (v < 0), []) = some (c1.Time, c1.Seq, c1.Rep, mx v (BM (0 - v)), c2.Time, c2.Seq, c2.Rep, c3.Time, c3.Seq, c3.Rep, decide (v < 0), r) := hr47
   rw [hr47', oS, show CE [e0, e1, e2, e3, e4, e5] (5 : Int) = some e5 from rfl, oS, d5, oS]
   obtain ⟨y, hy, hc⟩ := vR N hN s l5 c1.Time c1.Seq c1.Rep (mx v (BM (0 - v))) c2.Time c2.Seq c2.Rep c3.Time c3.Seq c3.Rep (decide (v < 0)) r l5 [] N [] rfl (by simpa using b5) (by omega) k5 rfl (fun a ha => by cases ha)
   have hy' : I5 N s l5 N (0, c1.Time, c1.Seq, c1.Rep, mx v (BM (0 - v)), c2.Time, c2.Seq, c2.Rep, c3.Time, c3.Seq, c3.Rep, decide (v < 0), r, []) = some y := hy
   simp only [hy', oS]
   rcases hc with rfl | ⟨q, rfl, hq1, hq2⟩
   ·exact .inl rfl
   ·simp only [Sum.elim_inl]
    have hb : Qv (⟨⟨c1.Time, c1.Seq, c1.Rep⟩, mx v (BM (0 - v)), ⟨c2.Time, c2.Seq, c2.Rep⟩, ⟨c3.Time, c3.Seq, c3.Rep⟩, r, decide (v < 0), q⟩ : AX) := ⟨⟨hrl, hrb⟩, hq1, hq2⟩
    obtain ⟨t, j, hB, _, _⟩ := lZ hN hN2 hb
    rw [hB, oS]
    by_cases hj : j = 0
    ·subst hj
     simp only
     rw [show ((0 : Int) != (0 : Int)) = false from rfl, cond_false, oS]
     by_cases ht : t = s
     ·subst ht
      rw [BEq.rfl, Bool.not_true, cond_false]
      exact .inr ⟨_, rfl, hb, hB⟩
     ·rw [show (t == s) = false by simpa using ht, Bool.not_false, cond_true]
      exact .inl rfl
    ·simp only
     rw [show ((j : Int) != (0 : Int)) = true by simpa using hj, cond_true, oS, cond_true]
     exact .inl rfl
end Go.Gp
end
section
set_option linter.unusedVariables false
namespace Go.Gp
open Go.Vd
theorem wG : PS 9223372036854775808 = some true := by decide +kernel
end Go.Gp
end
section
set_option linter.unusedVariables false
set_option linter.unusedSimpArgs false
namespace Go.Gp
open Go.Vd
theorem b_few {N : Nat} {c : AX} (hN : N = 9223372036854775808) (h : XW c) : M4 N c = some (oF c) := by
 obtain ⟨_, _, _, _, h1, _, h2⟩ := h
 unfold maxLen at h1 h2
 refine Jb (by omega) (by have := h1.1; omega) (by have := h2.1; omega) fun m hm => ?_
 have := (h2.2 m hm).2.2.1
 unfold maxLen at this
 omega
theorem Nh : Qv Fx := ⟨⟨by simp [Fx], fun a h => by cases h⟩, ⟨by simp [Fx], fun a h => by cases h⟩⟩
theorem rZ {s : List UInt8} (hs : s.length ≤ 999999) : K8 9223372036854775808 s = some true := by
 unfold K8
 rcases Cy (N := 9223372036854775808) (by omega) (Nat.le_refl _) hs with h | ⟨c, h, hb, hB⟩
 ·rw [h, oS]
  simp only
  rw [show ((14 : Int) != (0 : Int)) = true from rfl, cond_true, show ((14 : Int) == (14 : Int)) = true from rfl, cond_true, vN Nh (by omega), oS, oS]
  rfl
 ·rw [h, oS]
  simp only
  obtain ⟨t, j, hB', _, h2⟩ := lZ (N := 9223372036854775808) (by omega) (Nat.le_refl _) hb
  rw [hB] at hB'
  cases hB'
  have hc : iQ c = true := by
   cases hc : iQ c with
   | true => rfl
   | false => have := (h2 hc).2; cases this
  rw [show ((0 : Int) != (0 : Int)) = false from rfl, cond_false, hB, oS]
  simp only
  rw [show ((0 : Int) == (0 : Int)) = true from rfl, cond_true, BEq.rfl, cond_true, Ez (by omega) (Nat.le_refl _) hb, hc]
  rfl
theorem TD (a0 : AX) (a1 : Int) (a2 : UInt8) (a3 : List UInt8) (h0 : XW a0) (h1 : (IntKind.u16.min ≤ a1 ∧ a1 ≤ IntKind.u16.max)) (h2 : True) (h3 : a3.length ≤ maxLen) : ∃ N, LF N a0 a1 a2 a3 = some true := by
 refine ⟨9223372036854775808, ?_⟩
 unfold LF
 rw [wG, oS, b_few rfl h0, oS]
 simp only [Bool.not_true, cond_false]
 cases f0 : oF a0
 case false => rfl
 by_cases h600 : a3.length ≤ 600
 case neg =>
  simp only [Bool.not_true, cond_false, oS]
  rw [decide_eq_true (show ((a3.length : Int) > 600) by omega)]
  rfl
 have g0 := (Jc f0).1
 obtain ⟨s, j, hb, t1, t2⟩ := lZ (N := 9223372036854775808) (by omega) (Nat.le_refl _) g0
 simp only [Bool.not_true, cond_false, oS]
 rw [decide_eq_false (show ¬ ((a3.length : Int) > 600) by omega), cond_false, hb, oS]
 simp only
 have hlast : FI a3 9223372036854775808 = some true := by
  unfold FI
  rw [rZ (by omega)]; rfl
 rw [hlast]
 by_cases hj : j = 0
 case neg =>
  rw [show ((j : Int) == (0 : Int)) = false by simpa using hj, cond_false, oS, cond_false]
 subst hj
 rw [show ((0 : Int) == (0 : Int)) = true from rfl, cond_true, oS]
 by_cases hs0 : 0 < s.length
 case neg => rw [decide_eq_false (by omega), cond_false]
 have hs4 : s.length ≤ 4000 := by
  cases hc : iQ a0 with
  | true =>
   rcases t1 hc with h | h
   ·exact h.2
   ·cases h
  | false => have := (t2 hc).1; rw [this] at hs0; simp at hs0
 have k1 : (0 : Int) ≤ a1 ∧ a1 ≤ 65535 := h1
 obtain ⟨n, rfl⟩ : ∃ n : Nat, a1 = (n : Int) := ⟨a1.toNat, by omega⟩
 have hm : n % s.length < s.length := Nat.mod_lt _ hs0
 have e1 : Int.tmod (BM (n : Int)) (s.length : Int) = ((n % s.length : Nat) : Int) := by
  rw [xL (by omega)]; exact Int.ofNat_tmod n s.length
 rw [decide_eq_true (show ((s.length : Int) > 0) by omega), cond_true, e1, UN hm]
 have hnz : nz (s.length : Int) = some () := by unfold nz; rw [if_neg (by omega)]
 rw [hnz]
 simp only [oS, List.getElem?_eq_getElem hm]
 rw [rZ (by simp; omega)]
 rfl
end Go.Gp
end
