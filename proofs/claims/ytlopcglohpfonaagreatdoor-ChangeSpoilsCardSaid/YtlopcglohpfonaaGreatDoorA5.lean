/- A part of the proof: functions of the program and what they compute. -/
import Derived.Test.YtlopcglohpfonaaGreatDoorA4
import Derived.Test.YtlopcglohpfonaaGreatDoorProg
import Derived.Test.YtlopcglohpfonaaGreatDoorRows
import Derived.Stop.LaidErr
import Derived.LaidSub
import Derived.Lib.LaidTab
import Derived.Lib.ItoaNum
import Derived.MakeChecks
section
set_option linter.unusedVariables false
namespace Go.Gp
open Go.Vd
structure AO where
 Time : Int
 Seq : Int
 Rep : Int
deriving DecidableEq
def GM (x : AO) : PV := .agg [.int .i64 x.Time, .int .i64 x.Seq, .int .i64 x.Rep]
structure AU where
 Attr : List UInt8
 Value : List UInt8
deriving DecidableEq
def AV (x : AU) : PV := .agg [.str x.Attr, .str x.Value]
structure BA where
 Kind : Int
 Attr : List UInt8
 Values : List (List UInt8)
deriving DecidableEq
def AJ (x : BA) : PV := .agg [.int .i64 x.Kind, .str x.Attr, .sl 1 (List.map PV.str x.Values)]
structure AR where
 CSN : AO
 Kind : Int
 ID : AO
 Parent : AO
 RDN : List AU
 DelOld : Bool
 Mods : List BA
deriving DecidableEq
def AL (x : AR) : PV := .agg [.int .i64 x.CSN.Time, .int .i64 x.CSN.Seq, .int .i64 x.CSN.Rep, .int .i64 x.Kind, .int .i64 x.ID.Time, .int .i64 x.ID.Seq, .int .i64 x.ID.Rep, .int .i64 x.Parent.Time, .int .i64 x.Parent.Seq, .int .i64 x.Parent.Rep, .sl 2 (List.map AV x.RDN), .bool x.DelOld, .sl 3 (List.map AJ x.Mods)]
structure BJ where
 Name : List UInt8
 Syntax : Int
 Single : Bool
deriving DecidableEq
def FI (x : BJ) : PV := .agg [.str x.Name, .int .i64 x.Syntax, .bool x.Single]
structure A7 where
 Tag : UInt8
 Body : List UInt8
 Kids : List PV
def A9 (x : A7) : PV := .agg [eb x.Tag, .str x.Body, .sl 3 x.Kids]
def CJ : PV → Option A7
 | .agg [.int .u8 n0, .str n1, .sl 3 n2] => if n0 = ((UInt8.ofNat n0.toNat).toNat : Int) then some ⟨UInt8.ofNat n0.toNat, n1, n2⟩ else none
 | _ => none
theorem C8 {p : PV} {x : A7} (h : CJ p = some x) : p = A9 x := by
 unfold CJ at h
 split at h
 ·split at h
  ·rename_i hn
   cases h
   unfold A9 eb
   simp only
   rw [← hn]
  ·cases h
 ·cases h
theorem UJ (x : A7) : CJ (A9 x) = some x := by
 unfold CJ A9 eb
 simp
structure BC where
 s : List UInt8
 at_ : Int
deriving DecidableEq
def BG (x : BC) : PV := .agg [.str x.s, .int .i64 x.at_]
def X9 (N : Nat) (a0 : AO) : Option (Bool) :=
 Option.bind (
   bif decide (a0.Time ≥ (0 : Int)) then
    bif decide (a0.Time ≤ (1099511627776 : Int)) then
     bif decide (a0.Seq ≥ (0 : Int)) then
      bif decide (a0.Seq ≤ (65535 : Int)) then
       bif decide (a0.Rep ≥ (0 : Int)) then
        some (decide (a0.Rep < (6 : Int)))
       else
        some false
      else
       some false
     else
      some false
    else
     some false
   else
    some false
  ) fun (g1 : Bool) =>
 some g1
def QQ (N : Nat) (a0 : AO) : Option (Bool) :=
 some (a0.Time == (0 : Int) && (a0.Seq == (0 : Int) && (a0.Rep == (0 : Int) && true)))
def LZ (N : Nat) (a0 : Int) : Option (Bool) :=
 some (a0 != a0)
def K8 (N : Nat) (a0 : Int) (a1 : Int) : Option (Int) :=
 Option.bind (LZ N a0) fun (x8 : Bool) =>
 Option.bind (LZ N a1) fun (PI : Bool) =>
 bif x8 then
  bif PI then
   some 0
  else
   some (-1)
 else
  bif PI then
   some 1
  else
   bif decide (a0 < a1) then
    some (-1)
   else
    bif decide (a0 > a1) then
     some 1
    else
     some 0
def cmp_isNaN_int (N : Nat) (a0 : Int) : Option (Bool) :=
 some (a0 != a0)
def cmp_Compare_int (N : Nat) (a0 : Int) (a1 : Int) : Option (Int) :=
 Option.bind (cmp_isNaN_int N a0) fun (x8 : Bool) =>
 Option.bind (cmp_isNaN_int N a1) fun (PI : Bool) =>
 bif x8 then
  bif PI then
   some 0
  else
   some (-1)
 else
  bif PI then
   some 1
  else
   bif decide (a0 < a1) then
    some (-1)
   else
    bif decide (a0 > a1) then
     some 1
    else
     some 0
def PM (N : Nat) (a0 : List Int) (rec : Int → Option (Unit ⊕ Int)) : Int → Option (Unit ⊕ Int)
 | v8l8 =>
  bif decide (v8l8 < (a0.length : Int)) then
   (EP a0 v8l8).bind fun (PI : Int) =>
   bif (PI != (0 : Int)) then
    some (Sum.inr PI)
   else
    rec (CE (v8l8 + (1 : Int)))
  else
   some (Sum.inl ())
def LV (N : Nat) (a0 : List Int) : Nat → Int → Option (Unit ⊕ Int)
 | 0, _ => none
 | n + 1, x => PM N a0 (LV N a0 n) x
def U5 (N : Nat) (a0 : List Int) : Option (Int) :=
 Option.bind (LV N a0 N 0) fun (y3 : Unit ⊕ Int) =>
 Sum.elim (fun (y3 : Unit) =>
   some 0
  ) (fun (y3 : Int) =>
   some y3
  ) y3
def aW (N : Nat) (a0 : AO) (a1 : AO) : Option (Int) :=
 Option.bind (K8 N a0.Time a1.Time) fun (x9 : Int) =>
 Option.bind (cmp_Compare_int N a0.Seq a1.Seq) fun (M7 : Int) =>
 Option.bind (cmp_Compare_int N a0.Rep a1.Rep) fun (BQ : Int) =>
 Option.bind (U5 N [x9, M7, BQ]) fun (XF : Int) =>
 some XF
def KV (N : Nat) (a0 : AO) (c0 : AR) : Option (Bool) :=
 Option.bind (aW N a0 (⟨c0.CSN.Time, c0.CSN.Seq, c0.CSN.Rep⟩ : AO)) fun (x7 : Int) =>
 some (decide (x7 < (0 : Int)))
def OP (v25l14 : Int) (rec : Int → Option (Unit ⊕ Bool))  : Option (Unit ⊕ Bool) :=
 rec (CE (v25l14 + (1 : Int)))
def OO (v25l14 : Int) (rec : Int → Option (Unit ⊕ Bool)) (uV : Bool) : Option (Unit ⊕ Bool) :=
 bif uV then
  OP v25l14 rec
 else
  some (Sum.inr false)
def LY (N : Nat) (a0 : List UInt8) (rec : Int → Option (Unit ⊕ Bool)) : Int → Option (Unit ⊕ Bool)
 | v25l14 =>
  bif decide (v25l14 < (a0.length : Int)) then
   (QS v25l14 a0.length).bind fun (x27 : Nat) =>
   (a0[x27]?).bind fun (x28 : UInt8) =>
   Option.bind (
     bif decide (((x28).toNat : Int) ≥ (97 : Int)) then
      some (decide (((x28).toNat : Int) ≤ (122 : Int)))
     else
      some false
    ) fun (g7 : Bool) =>
   bif g7 then
    OP v25l14 rec
   else
    Option.bind (
      bif decide (((x28).toNat : Int) ≥ (48 : Int)) then
       some (decide (((x28).toNat : Int) ≤ (57 : Int)))
      else
       some false
     ) fun (g11 : Bool) =>
    bif g11 then
     OO v25l14 rec g11
    else
     OO v25l14 rec (((x28).toNat : Int) == (45 : Int))
  else
   some (Sum.inl ())
def IY (N : Nat) (a0 : List UInt8) : Nat → Int → Option (Unit ⊕ Bool)
 | 0, _ => none
 | n + 1, x => LY N a0 (IY N a0 n) x
def VT (N : Nat) (a0 : List UInt8) : Option (Bool) :=
 Option.bind (
   bif (a0 == ([] : List UInt8)) then
    some true
   else
    bif decide ((a0.length : Int) > (16 : Int)) then
     some true
    else
     (EP a0 (0 : Int)).bind fun (M7 : UInt8) =>
     bif decide (((M7).toNat : Int) < (97 : Int)) then
      some true
     else
      (EP a0 (0 : Int)).bind fun (BQ : UInt8) =>
      some (decide (((BQ).toNat : Int) > (122 : Int)))
  ) fun (g1 : Bool) =>
 bif g1 then
  some false
 else
  Option.bind (IY N a0 N 0) fun (YJ : Unit ⊕ Bool) =>
  Sum.elim (fun (YJ : Unit) =>
    some true
   ) (fun (YJ : Bool) =>
    some YJ
   ) YJ
def X5 (N : Nat) (a0 : AU) (c0 : AU) : Option (Bool) :=
 some (a0.Attr == c0.Attr)
def CO (N : Nat) (a0 : List AU) (GZ : AU) (rec : Int → Option (Unit ⊕ Int)) : Int → Option (Unit ⊕ Int)
 | v8l6 =>
  bif decide (v8l6 < (a0.length : Int)) then
   (EP a0 v8l6).bind fun (M7 : AU) =>
   Option.bind (X5 N M7 GZ) fun (YM : Bool) =>
   bif YM then
    some (Sum.inr v8l6)
   else
    rec (CE (v8l6 + (1 : Int)))
  else
   some (Sum.inl ())
def BN (N : Nat) (a0 : List AU) (GZ : AU) : Nat → Int → Option (Unit ⊕ Int)
 | 0, _ => none
 | n + 1, x => CO N a0 GZ (BN N a0 GZ n) x
def EH (N : Nat) (a0 : List AU) (GZ : AU) : Option (Int) :=
 Option.bind (BN N a0 GZ N 0) fun (y3 : Unit ⊕ Int) =>
 Sum.elim (fun (y3 : Unit) =>
   some (-1)
  ) (fun (y3 : Int) =>
   some y3
  ) y3
def CQ (N : Nat) (a0 : List AU) (GZ : AU) : Option (Bool) :=
 Option.bind (EH N a0 GZ) fun (x7 : Int) =>
 some (decide (x7 ≥ (0 : Int)))
def OQ (N : Nat) (a0 : List AU) (rec : Int → Option (Unit ⊕ Bool)) : Int → Option (Unit ⊕ Bool)
 | v7l6 =>
  bif decide (v7l6 < (a0.length : Int)) then
   (EP a0 v7l6).bind fun (PI : AU) =>
   Option.bind (
     bif decide (v7l6 ≥ (4 : Int)) then
      some true
     else
      Option.bind (VT N PI.Attr) fun (EA : Bool) =>
      bif !EA then
       some true
      else
       bif (PI.Value == ([] : List UInt8)) then
        some true
       else
        some (decide ((PI.Value.length : Int) > (60 : Int)))
    ) fun (g2 : Bool) =>
   bif g2 then
    some (Sum.inr false)
   else
    (R9 a0 v7l6).bind fun (x33 : List AU) =>
    Option.bind (CQ N x33 (⟨PI.Attr, PI.Value⟩ : AU)) fun (K4 : Bool) =>
    bif K4 then
     some (Sum.inr false)
    else
     rec (CE (v7l6 + (1 : Int)))
  else
   some (Sum.inl ())
def KT (N : Nat) (a0 : List AU) : Nat → Int → Option (Unit ⊕ Bool)
 | 0, _ => none
 | n + 1, x => OQ N a0 (KT N a0 n) x
def VB (N : Nat) (a0 : List AU) : Option (Bool) :=
 Option.bind (KT N a0 N 0) fun (y8 : Unit ⊕ Bool) =>
 Sum.elim (fun (y8 : Unit) =>
   some (decide ((a0.length : Int) > (0 : Int)))
  ) (fun (y8 : Bool) =>
   some y8
  ) y8
def Q3 (v10l8 : Int) (rec : (Int × List UInt8) → Option (List UInt8)) (WV : List UInt8) : Option (List UInt8) :=
 rec ((CE (v10l8 + (1 : Int))), WV)
def OM (N : Nat) (a0 : List UInt8) (rec : (Int × List UInt8) → Option (List UInt8)) : (Int × List UInt8) → Option (List UInt8)
 | (v10l8, F6) =>
  bif decide (v10l8 < (a0.length : Int)) then
   (QS v10l8 F6.length).bind fun (K5 : Nat) =>
   (F6[K5]?).bind fun (M7 : UInt8) =>
   Option.bind (
     bif decide (((M7).toNat : Int) ≥ (65 : Int)) then
      some (decide (((M7).toNat : Int) ≤ (90 : Int)))
     else
      some false
    ) fun (g2 : Bool) =>
   bif g2 then
    (QS v10l8 F6.length).bind fun (x25 : Nat) =>
    (F6[x25]?).bind fun (uN : UInt8) =>
    Q3 v10l8 rec (F6.set x25 (M7 + (32 : UInt8)))
   else
    Q3 v10l8 rec F6
  else
   some F6
def J9 (N : Nat) (a0 : List UInt8) : Nat → (Int × List UInt8) → Option (List UInt8)
 | 0, _ => none
 | n + 1, x => OM N a0 (J9 N a0 n) x
def TE (N : Nat) (a0 : List UInt8) : Option (List UInt8) :=
 Option.bind (J9 N a0 N (0, a0)) fun (y6 : List UInt8) =>
 some y6
def TQ (N : Nat)  : Option (List BJ) :=
 some [(⟨([97, 99, 105] : List UInt8), 2, false⟩ : BJ), (⟨([99] : List UInt8), 1, true⟩ : BJ), (⟨([99, 110] : List UInt8), 1, false⟩ : BJ), (⟨([100, 99] : List UInt8), 1, false⟩ : BJ), (⟨([100, 101, 115, 99, 114, 105, 112, 116, 105, 111, 110] : List UInt8), 1, false⟩ : BJ), (⟨([101, 110, 116, 114, 121, 105, 100] : List UInt8), 2, true⟩ : BJ), (⟨([109, 97, 105, 108] : List UInt8), 2, false⟩ : BJ), (⟨([109, 101, 109, 98, 101, 114] : List UInt8), 5, false⟩ : BJ), (⟨([111] : List UInt8), 1, false⟩ : BJ), (⟨([111, 117] : List UInt8), 1, false⟩ : BJ), (⟨([115, 110] : List UInt8), 1, false⟩ : BJ), (⟨([116, 105, 116, 108, 101] : List UInt8), 1, true⟩ : BJ), (⟨([117, 105, 100] : List UInt8), 1, false⟩ : BJ), (⟨([117, 105, 100, 110, 117, 109, 98, 101, 114] : List UInt8), 3, true⟩ : BJ), (⟨([117, 115, 101, 114, 112, 97, 115, 115, 119, 111, 114, 100] : List UInt8), 4, false⟩ : BJ)]
def L8 (N : Nat) (x7 : List UInt8) (x8 : List BJ) (rec : Int → Option (Unit ⊕ (BJ × Bool))) : Int → Option (Unit ⊕ (BJ × Bool))
 | v10l8 =>
  bif decide (v10l8 < (x8.length : Int)) then
   (EP x8 v10l8).bind fun (LF : BJ) =>
   bif (LF.Name == x7) then
    some (Sum.inr (LF, true))
   else
    rec (CE (v10l8 + (1 : Int)))
  else
   some (Sum.inl ())
def HY (N : Nat) (x7 : List UInt8) (x8 : List BJ) : Nat → Int → Option (Unit ⊕ (BJ × Bool))
 | 0, _ => none
 | n + 1, x => L8 N x7 x8 (HY N x7 x8 n) x
def OZ (N : Nat) (a0 : List UInt8) : Option (BJ × Bool) :=
 Option.bind (TE N a0) fun (x7 : List UInt8) =>
 Option.bind (TQ N) fun (x8 : List BJ) =>
 Option.bind (HY N x7 x8 N 0) fun (y3 : Unit ⊕ (BJ × Bool)) =>
 Sum.elim (fun (y3 : Unit) =>
   some ((⟨([] : List UInt8), 0, false⟩ : BJ), false)
  ) (fun (y3 : BJ × Bool) =>
   some (y3.1, y3.2)
  ) y3
def HV (N : Nat) (a1 : UInt8) (rec : List UInt8 → Option (List UInt8)) : List UInt8 → Option (List UInt8)
 | v0l4 =>
  Option.bind (
    bif decide ((v0l4.length : Int) > (0 : Int)) then
     (EP v0l4 (CE ((v0l4.length : Int) - (1 : Int)))).bind fun (K5 : UInt8) =>
     some (((K5).toNat : Int) == ((a1).toNat : Int))
    else
     some false
   ) fun (g1 : Bool) =>
  bif g1 then
   (R9 v0l4 (CE ((v0l4.length : Int) - (1 : Int)))).bind fun (XF : List UInt8) =>
   rec XF
  else
   some v0l4
def ES (N : Nat) (a1 : UInt8) : Nat → List UInt8 → Option (List UInt8)
 | 0, _ => none
 | n + 1, x => HV N a1 (ES N a1 n) x
def strings_trimRightByte (N : Nat) (a0 : List UInt8) (a1 : UInt8) : Option (List UInt8) :=
 Option.bind (ES N a1 N a0) fun (y4 : List UInt8) =>
 some y4
def IE (N : Nat) (a1 : UInt8) (rec : List UInt8 → Option (List UInt8)) : List UInt8 → Option (List UInt8)
 | v0l4 =>
  Option.bind (
    bif decide ((v0l4.length : Int) > (0 : Int)) then
     (EP v0l4 (0 : Int)).bind fun (PI : UInt8) =>
     some (((PI).toNat : Int) == ((a1).toNat : Int))
    else
     some false
   ) fun (g1 : Bool) =>
  bif g1 then
   (UI v0l4 (1 : Int)).bind fun (W9 : List UInt8) =>
   rec W9
  else
   some v0l4
def EY (N : Nat) (a1 : UInt8) : Nat → List UInt8 → Option (List UInt8)
 | 0, _ => none
 | n + 1, x => IE N a1 (EY N a1 n) x
def strings_trimLeftByte (N : Nat) (a0 : List UInt8) (a1 : UInt8) : Option (List UInt8) :=
 Option.bind (EY N a1 N a0) fun (y4 : List UInt8) =>
 some y4
def PT (N : Nat) (a0 : List UInt8) (a1 : List UInt8) : Option (List UInt8) :=
 Option.bind (
   bif (a0 == ([] : List UInt8)) then
    some true
   else
    some (a1 == ([] : List UInt8))
  ) fun (g1 : Bool) =>
 bif g1 then
  some a0
 else
  Option.bind (
    bif ((a1.length : Int) == (1 : Int)) then
     (EP a1 (0 : Int)).bind fun (BQ : UInt8) =>
     some (decide (((BQ).toNat : Int) < (128 : Int)))
    else
     some false
   ) fun (g4 : Bool) =>
  bif g4 then
   (EP a1 (0 : Int)).bind fun (x24 : UInt8) =>
   Option.bind (strings_trimRightByte N a0 x24) fun (x25 : List UInt8) =>
   (EP a1 (0 : Int)).bind fun (x27 : UInt8) =>
   Option.bind (strings_trimLeftByte N x25 x27) fun (x28 : List UInt8) =>
   some x28
  else
   none
def K7 (N : Nat) (a0 : List UInt8) (rec : Int → Option (Unit ⊕ Bool)) : Int → Option (Unit ⊕ Bool)
 | v8l6 =>
  bif decide (v8l6 < (a0.length : Int)) then
   (QS v8l6 a0.length).bind fun (PI : Nat) =>
   (a0[PI]?).bind fun (PG : UInt8) =>
   Option.bind (
     bif decide (((PG).toNat : Int) < (32 : Int)) then
      some true
     else
      some (decide (((PG).toNat : Int) > (126 : Int)))
    ) fun (g2 : Bool) =>
   bif g2 then
    some (Sum.inr false)
   else
    rec (CE (v8l6 + (1 : Int)))
  else
   some (Sum.inl ())
def GR (N : Nat) (a0 : List UInt8) : Nat → Int → Option (Unit ⊕ Bool)
 | 0, _ => none
 | n + 1, x => K7 N a0 (GR N a0 n) x
def PU (N : Nat) (a0 : List UInt8) : Option (Bool) :=
 Option.bind (GR N a0 N 0) fun (y5 : Unit ⊕ Bool) =>
 Sum.elim (fun (y5 : Unit) =>
   some true
  ) (fun (y5 : Bool) =>
   some y5
  ) y5
def EL (N : Nat) (a0 : List UInt8) (a1 : List UInt8) : Option (Bool) :=
 Option.bind (
   bif decide ((a0.length : Int) ≥ (a1.length : Int)) then
    (R9 a0 (a1.length : Int)).bind fun (M7 : List UInt8) =>
    some (M7 == a1)
   else
    some false
  ) fun (g1 : Bool) =>
 some g1
def FV (N : Nat) (a0 : List UInt8) (a1 : List UInt8) : Option (List UInt8) :=
 Option.bind (EL N a0 a1) fun (x7 : Bool) =>
 bif x7 then
  (UI a0 (a1.length : Int)).bind fun (PG : List UInt8) =>
  some PG
 else
  some a0
def strings_TrimPrefix (N : Nat) (a0 : List UInt8) (a1 : List UInt8) : Option (List UInt8) :=
 Option.bind (FV N a0 a1) fun (x7 : List UInt8) =>
 some x7
def JD (N : Nat) (x7 : List UInt8) (rec : Int → Option (Unit ⊕ Bool)) : Int → Option (Unit ⊕ Bool)
 | v27l16 =>
  bif decide (v27l16 < (x7.length : Int)) then
   (QS v27l16 x7.length).bind fun (x29 : Nat) =>
   (x7[x29]?).bind fun (x30 : UInt8) =>
   Option.bind (
     bif decide (((x30).toNat : Int) < (48 : Int)) then
      some true
     else
      some (decide (((x30).toNat : Int) > (57 : Int)))
    ) fun (g7 : Bool) =>
   bif g7 then
    some (Sum.inr false)
   else
    rec (CE (v27l16 + (1 : Int)))
  else
   some (Sum.inl ())
def FJ (N : Nat) (x7 : List UInt8) : Nat → Int → Option (Unit ⊕ Bool)
 | 0, _ => none
 | n + 1, x => JD N x7 (FJ N x7 n) x
def PW (N : Nat) (a0 : List UInt8) : Option (Bool) :=
 Option.bind (strings_TrimPrefix N a0 ([45] : List UInt8)) fun (x7 : List UInt8) =>
 Option.bind (
   bif (x7 == ([] : List UInt8)) then
    some true
   else
    bif decide ((x7.length : Int) > (15 : Int)) then
     some true
    else
     (EP x7 (0 : Int)).bind fun (EA : UInt8) =>
     bif (((EA).toNat : Int) == (48 : Int)) then
      some (!(a0 == ([48] : List UInt8)))
     else
      some false
  ) fun (g1 : Bool) =>
 bif g1 then
  some false
 else
  Option.bind (FJ N x7 N 0) fun (PH : Unit ⊕ Bool) =>
  Sum.elim (fun (PH : Unit) =>
    some true
   ) (fun (PH : Bool) =>
    some PH
   ) PH
def QN (rec : (Int × Int × List (List UInt8)) → Option (Int × List (List UInt8))) (uR : Int) (pF : Int) (WU : List (List UInt8)) : Option (Int × List (List UInt8)) :=
 rec (uR, (CE (pF + (1 : Int))), WU)
def LC (N : Nat) (a0 : List UInt8) (a1 : UInt8) (rec : (Int × Int × List (List UInt8)) → Option (Int × List (List UInt8))) : (Int × Int × List (List UInt8)) → Option (Int × List (List UInt8))
 | (ZL, R8, JF) =>
  bif decide (R8 < (a0.length : Int)) then
   (EP a0 R8).bind fun (YM : UInt8) =>
   bif (((YM).toNat : Int) == (92 : Int)) then
    QN rec ZL (CE (R8 + (1 : Int))) JF
   else
    bif (((YM).toNat : Int) == ((a1).toNat : Int)) then
     (fA a0 ZL R8).bind fun (x28 : List UInt8) =>
     (PO 16 JF [x28]).bind fun (x30 : List (List UInt8)) =>
     QN rec (CE (R8 + (1 : Int))) R8 x30
    else
     QN rec ZL R8 JF
  else
   some (ZL, JF)
def JI (N : Nat) (a0 : List UInt8) (a1 : UInt8) : Nat → (Int × Int × List (List UInt8)) → Option (Int × List (List UInt8))
 | 0, _ => none
 | n + 1, x => LC N a0 a1 (JI N a0 a1 n) x
def dK (N : Nat) (a0 : List UInt8) (a1 : UInt8) : Option (List (List UInt8)) :=
 Option.bind (JI N a0 a1 N (0, 0, [])) fun (y4 : Int × List (List UInt8)) =>
 (UI a0 y4.1).bind fun (Gd : List UInt8) =>
 (PO 16 y4.2 [Gd]).bind fun (x38 : List (List UInt8)) =>
 some x38
def IX (N : Nat) (a0 : List UInt8) (a1 : List UInt8) : Option (List UInt8 × List UInt8 × Bool) :=
 Option.bind (stringslite_Index N a0 a1) fun (PI : Int) =>
 bif decide (PI ≥ (0 : Int)) then
  (R9 a0 PI).bind fun (W9 : List UInt8) =>
  (UI a0 (CE (PI + (a1.length : Int)))).bind fun (XF : List UInt8) =>
  some (W9, XF, true)
 else
  some (a0, ([] : List UInt8), false)
def strings_Cut (N : Nat) (a0 : List UInt8) (a1 : List UInt8) : Option (List UInt8 × List UInt8 × Bool) :=
 Option.bind (IX N a0 a1) fun (x9 : List UInt8 × List UInt8 × Bool) =>
 some (x9.1, x9.2.1, x9.2.2)
def strings_HasPrefix (N : Nat) (a0 : List UInt8) (a1 : List UInt8) : Option (Bool) :=
 Option.bind (EL N a0 a1) fun (x7 : Bool) =>
 some x7
def QM (N : Nat) (a0 : List UInt8) (a1 : Int) : Option (UInt8 × Bool) :=
 bif decide (a1 ≥ (a0.length : Int)) then
  some ((0 : UInt8), false)
 else
  (fA a0 a1 (CE (a1 + (1 : Int)))).bind fun (W9 : List UInt8) =>
  Option.bind (TE N W9) fun (YM : List UInt8) =>
  (EP YM (0 : Int)).bind fun (EA : UInt8) =>
  Option.bind (strings_IndexByte N ([48, 49, 50, 51, 52, 53, 54, 55, 56, 57, 97, 98, 99, 100, 101, 102] : List UInt8) EA) fun (aB : Int) =>
  some ((byte (mx aB (0 : Int))), decide (aB ≥ (0 : Int)))
def JU (rec : (Bool × Int × List UInt8) → Option ((Bool × List UInt8) ⊕ (List UInt8 × Bool))) (uU : Bool) (pG : Int) (WT : List UInt8) : Option ((Bool × List UInt8) ⊕ (List UInt8 × Bool)) :=
 rec (uU, (CE (pG + (1 : Int))), WT)
def IP (N : Nat) (a0 : List UInt8) (rec : (Bool × Int × List UInt8) → Option ((Bool × List UInt8) ⊕ (List UInt8 × Bool))) : (Bool × Int × List UInt8) → Option ((Bool × List UInt8) ⊕ (List UInt8 × Bool))
 | (uS, NL, I4) =>
  bif decide (NL < (a0.length : Int)) then
   (EP a0 NL).bind fun (J2 : UInt8) =>
   bif (((J2).toNat : Int) == (92 : Int)) then
    Option.bind (
      bif decide ((CE (NL + (1 : Int))) < (a0.length : Int)) then
       (EP a0 (CE (NL + (1 : Int)))).bind fun (jP : UInt8) =>
       Option.bind (strings_IndexByte N ([44, 43, 34, 92, 60, 62, 59, 35, 61, 32] : List UInt8) jP) fun (x46 : Int) =>
       some (decide (x46 ≥ (0 : Int)))
      else
       some false
     ) fun (g6 : Bool) =>
    bif g6 then
     (EP a0 (CE (NL + (1 : Int)))).bind fun (M6 : UInt8) =>
     (PO 1 I4 [M6]).bind fun (x54 : List UInt8) =>
     JU rec (((J2).toNat : Int) == (32 : Int)) (CE (NL + (1 : Int))) x54
    else
     Option.bind (QM N a0 (CE (NL + (1 : Int)))) fun (Gb : UInt8 × Bool) =>
     Option.bind (QM N a0 (CE ((CE (NL + (1 : Int))) + (1 : Int)))) fun (pE : UInt8 × Bool) =>
     Option.bind (
       bif !Gb.2 then
        some true
       else
        some (!pE.2)
      ) fun (g9 : Bool) =>
     bif g9 then
      some (Sum.inr (([] : List UInt8), false))
     else
      (PO 1 I4 [((vI Gb.1 4) ||| pE.1)]).bind fun (x80 : List UInt8) =>
      JU rec (((J2).toNat : Int) == (32 : Int)) (CE ((CE (NL + (1 : Int))) + (1 : Int))) x80
   else
    Option.bind (strings_IndexByte N ([44, 43, 34, 92, 60, 62, 59] : List UInt8) J2) fun (x85 : Int) =>
    bif decide (x85 ≥ (0 : Int)) then
     some (Sum.inr (([] : List UInt8), false))
    else
     (PO 1 I4 [J2]).bind fun (x32 : List UInt8) =>
     JU rec (((J2).toNat : Int) == (32 : Int)) NL x32
  else
   some (Sum.inl (uS, I4))
def FR (N : Nat) (a0 : List UInt8) : Nat → (Bool × Int × List UInt8) → Option ((Bool × List UInt8) ⊕ (List UInt8 × Bool))
 | 0, _ => none
 | n + 1, x => IP N a0 (FR N a0 n) x
def RG (N : Nat) (a0 : List UInt8) : Option (List UInt8 × Bool) :=
 Option.bind (
   Option.bind (strings_HasPrefix N a0 ([35] : List UInt8)) fun (K5 : Bool) =>
   bif K5 then
    some true
   else
    Option.bind (strings_HasPrefix N a0 ([32] : List UInt8)) fun (YM : Bool) =>
    some YM
  ) fun (g1 : Bool) =>
 bif g1 then
  some (([] : List UInt8), false)
 else
  Option.bind (FR N a0 N (false, 0, [])) fun (y13 : (Bool × List UInt8) ⊕ (List UInt8 × Bool)) =>
  Sum.elim (fun (y13 : Bool × List UInt8) =>
    some (y13.2, !y13.1)
   ) (fun (y13 : List UInt8 × Bool) =>
    some (y13.1, y13.2)
   ) y13
def LD (N : Nat) (K5 : List (List UInt8)) (rec : (Int × List AU) → Option ((List AU) ⊕ (List AU × Int))) : (Int × List AU) → Option ((List AU) ⊕ (List AU × Int))
 | (QB, NB) =>
  bif decide (QB < (K5.length : Int)) then
   (EP K5 QB).bind fun (EA : List UInt8) =>
   Option.bind (strings_Cut N EA ([61] : List UInt8)) fun (XF : List UInt8 × List UInt8 × Bool) =>
   Option.bind (RG N XF.2.1) fun (x27 : List UInt8 × Bool) =>
   Option.bind (
     bif !XF.2.2 then
      some true
     else
      bif !x27.2 then
       some true
      else
       some (decide ((NB.length : Int) > (4 : Int)))
    ) fun (g2 : Bool) =>
   bif g2 then
    some (Sum.inr ([], 15))
   else
    Option.bind (TE N XF.1) fun (x43 : List UInt8) =>
    (PO 32 NB [(⟨x43, x27.1⟩ : AU)]).bind fun (YK : List AU) =>
    rec ((CE (QB + (1 : Int))), YK)
  else
   some (Sum.inl NB)
def I5 (N : Nat) (K5 : List (List UInt8)) : Nat → (Int × List AU) → Option ((List AU) ⊕ (List AU × Int))
 | 0, _ => none
 | n + 1, x => LD N K5 (I5 N K5 n) x
def RH (N : Nat) (a0 : List UInt8) : Option (List AU × Int) :=
 Option.bind (dK N a0 (43 : UInt8)) fun (K5 : List (List UInt8)) =>
 Option.bind (I5 N K5 N (0, [])) fun (y6 : (List AU) ⊕ (List AU × Int)) =>
 Sum.elim (fun (y6 : List AU) =>
   Option.bind (VB N y6) fun (x50 : Bool) =>
   bif !x50 then
    some ([], 15)
   else
    some (y6, 0)
  ) (fun (y6 : List AU × Int) =>
   some (y6.1, y6.2)
  ) y6
def NZ (N : Nat) (LF : List (List UInt8)) (rec : (Int × List (List AU)) → Option ((List (List AU)) ⊕ (List (List AU) × Int))) : (Int × List (List AU)) → Option ((List (List AU)) ⊕ (List (List AU) × Int))
 | (WR, KQ) =>
  bif decide (WR < (LF.length : Int)) then
   (EP LF WR).bind fun (YM : List UInt8) =>
   Option.bind (RH N YM) fun (x20 : List AU × Int) =>
   Option.bind (
     bif (x20.2 != (0 : Int)) then
      some true
     else
      some ((KQ.length : Int) == (8 : Int))
    ) fun (g3 : Bool) =>
   bif g3 then
    some (Sum.inr ([], 15))
   else
    (PO 24 KQ [x20.1]).bind fun (x33 : List (List AU)) =>
    rec ((CE (WR + (1 : Int))), x33)
  else
   some (Sum.inl KQ)
def JJ (N : Nat) (LF : List (List UInt8)) : Nat → (Int × List (List AU)) → Option ((List (List AU)) ⊕ (List (List AU) × Int))
 | 0, _ => none
 | n + 1, x => NZ N LF (JJ N LF n) x
def YA (N : Nat) (a0 : List UInt8) : Option (List (List AU) × Int) :=
 bif (a0 == ([] : List UInt8)) then
  some ([], 0)
 else
  Option.bind (dK N a0 (44 : UInt8)) fun (LF : List (List UInt8)) =>
  Option.bind (JJ N LF N (0, [])) fun (y6 : (List (List AU)) ⊕ (List (List AU) × Int)) =>
  Sum.elim (fun (y6 : List (List AU)) =>
    some (y6, 0)
   ) (fun (y6 : List (List AU) × Int) =>
    some (y6.1, y6.2)
   ) y6
def NN (a1 : List UInt8) (N : Nat)  : Option (Bool) :=
 Option.bind (PU N a1) fun (x20 : Bool) =>
 some x20
def TP (N : Nat) (a0 : Int) (a1 : List UInt8) : Option (Bool) :=
 bif (a0 == (1 : Int)) then
  Option.bind (PT N a1 ([32] : List UInt8)) fun (EA : List UInt8) =>
  bif (EA == ([] : List UInt8)) then
   some false
  else
   NN a1 N
 else
  bif (a0 == (2 : Int)) then
   NN a1 N
  else
   bif (a0 == (3 : Int)) then
    Option.bind (PW N a1) fun (ZK : Bool) =>
    some ZK
   else
    bif (a0 == (5 : Int)) then
     Option.bind (YA N a1) fun (x25 : List (List AU) × Int) =>
     some (x25.2 == (0 : Int))
    else
     some true
def NP (N : Nat) (a0 : List UInt8) (a1 : List UInt8) : Option (Int) :=
 Option.bind (OZ N a0) fun (x9 : BJ × Bool) =>
 bif !x9.2 then
  some 16
 else
  Option.bind (
    bif (a1 == ([] : List UInt8)) then
     some true
    else
     bif decide ((a1.length : Int) > (60 : Int)) then
      some true
     else
      Option.bind (TP N x9.1.Syntax a1) fun (x27 : Bool) =>
      some (!x27)
   ) fun (g2 : Bool) =>
  bif g2 then
   some 17
  else
   some 0
def QU (N : Nat) (a0 : AU) : Option (Bool) :=
 Option.bind (
   bif (a0.Attr == ([101, 110, 116, 114, 121, 105, 100] : List UInt8)) then
    some true
   else
    Option.bind (NP N a0.Attr a0.Value) fun (PG : Int) =>
    some (PG != (0 : Int))
  ) fun (g1 : Bool) =>
 some g1
def CB (N : Nat) (a0 : List AU) (rec : Int → Option (Unit ⊕ Int)) : Int → Option (Unit ⊕ Int)
 | v8l6 =>
  bif decide (v8l6 < (a0.length : Int)) then
   (EP a0 v8l6).bind fun (M7 : AU) =>
   Option.bind (QU N M7) fun (YM : Bool) =>
   bif YM then
    some (Sum.inr v8l6)
   else
    rec (CE (v8l6 + (1 : Int)))
  else
   some (Sum.inl ())
def BL (N : Nat) (a0 : List AU) : Nat → Int → Option (Unit ⊕ Int)
 | 0, _ => none
 | n + 1, x => CB N a0 (BL N a0 n) x
def E8 (N : Nat) (a0 : List AU) : Option (Int) :=
 Option.bind (BL N a0 N 0) fun (y3 : Unit ⊕ Int) =>
 Sum.elim (fun (y3 : Unit) =>
   some (-1)
  ) (fun (y3 : Int) =>
   some y3
  ) y3
def DC (N : Nat) (a0 : List AU) : Option (Bool) :=
 Option.bind (E8 N a0) fun (x7 : Int) =>
 some (decide (x7 ≥ (0 : Int)))
def O0 (N : Nat) (a0 : List AU) : Option (Bool) :=
 Option.bind (
   Option.bind (VB N a0) fun (x4 : Bool) =>
   bif !x4 then
    some true
   else
    some (decide ((a0.length : Int) ≥ (4 : Int)))
  ) fun (g1 : Bool) =>
 bif g1 then
  some false
 else
  Option.bind (DC N a0) fun (LF : Bool) =>
  some (!LF)
def PN (N : Nat) (a0 : List UInt8) (c0 : BA) : Option (Bool) :=
 Option.bind (NP N c0.Attr a0) fun (x7 : Int) =>
 some (x7 != (0 : Int))
def CG (N : Nat) (a0 : List (List UInt8)) (GZ : BA) (rec : Int → Option (Unit ⊕ Int)) : Int → Option (Unit ⊕ Int)
 | v8l6 =>
  bif decide (v8l6 < (a0.length : Int)) then
   (EP a0 v8l6).bind fun (M7 : List UInt8) =>
   Option.bind (PN N M7 GZ) fun (YM : Bool) =>
   bif YM then
    some (Sum.inr v8l6)
   else
    rec (CE (v8l6 + (1 : Int)))
  else
   some (Sum.inl ())
def BM (N : Nat) (a0 : List (List UInt8)) (GZ : BA) : Nat → Int → Option (Unit ⊕ Int)
 | 0, _ => none
 | n + 1, x => CG N a0 GZ (BM N a0 GZ n) x
def EB (N : Nat) (a0 : List (List UInt8)) (GZ : BA) : Option (Int) :=
 Option.bind (BM N a0 GZ N 0) fun (y3 : Unit ⊕ Int) =>
 Sum.elim (fun (y3 : Unit) =>
   some (-1)
  ) (fun (y3 : Int) =>
   some y3
  ) y3
def CL (N : Nat) (a0 : List (List UInt8)) (GZ : BA) : Option (Bool) :=
 Option.bind (EB N a0 GZ) fun (x7 : Int) =>
 some (decide (x7 ≥ (0 : Int)))
def JK (N : Nat) (a0 : List BA) (a1 : Int) (rec : Int → Option (Unit ⊕ Bool)) : Int → Option (Unit ⊕ Bool)
 | v11l6 =>
  bif decide (v11l6 < (a0.length : Int)) then
   (EP a0 v11l6).bind fun (K5 : BA) =>
   Option.bind (OZ N K5.Attr) fun (aB : BJ × Bool) =>
   Option.bind (
     bif !aB.2 then
      some true
     else
      bif (!(aB.1.Name == K5.Attr)) then
       some true
      else
       bif (K5.Attr == ([101, 110, 116, 114, 121, 105, 100] : List UInt8)) then
        some true
       else
        bif decide (K5.Kind < (1 : Int)) then
         some true
        else
         bif decide (K5.Kind > a1) then
          some true
         else
          bif decide ((K5.Values.length : Int) > (12 : Int)) then
           some true
          else
           bif (K5.Kind == (1 : Int)) then
            some ((K5.Values.length : Int) == (0 : Int))
           else
            some false
    ) fun (g2 : Bool) =>
   bif g2 then
    some (Sum.inr false)
   else
    Option.bind (CL N K5.Values (⟨K5.Kind, K5.Attr, K5.Values⟩ : BA)) fun (x66 : Bool) =>
    bif x66 then
     some (Sum.inr false)
    else
     rec (CE (v11l6 + (1 : Int)))
  else
   some (Sum.inl ())
def G7 (N : Nat) (a0 : List BA) (a1 : Int) : Nat → Int → Option (Unit ⊕ Bool)
 | 0, _ => none
 | n + 1, x => JK N a0 a1 (G7 N a0 a1 n) x
def LW (N : Nat) (a0 : List BA) (a1 : Int) : Option (Bool) :=
 Option.bind (G7 N a0 a1 N 0) fun (Ee : Unit ⊕ Bool) =>
 Sum.elim (fun (Ee : Unit) =>
   some (decide ((a0.length : Int) ≤ (8 : Int)))
  ) (fun (Ee : Bool) =>
   some Ee
  ) Ee
def NF (N : Nat) (a0 : AR) : Option (Bool) :=
 Option.bind (
   Option.bind (X9 N (⟨a0.CSN.Time, a0.CSN.Seq, a0.CSN.Rep⟩ : AO)) fun (x7 : Bool) =>
   bif !x7 then
    some true
   else
    Option.bind (QQ N (⟨a0.CSN.Time, a0.CSN.Seq, a0.CSN.Rep⟩ : AO)) fun (LF : Bool) =>
    bif LF then
     some true
    else
     Option.bind (X9 N (⟨a0.ID.Time, a0.ID.Seq, a0.ID.Rep⟩ : AO)) fun (EA : Bool) =>
     bif !EA then
      some true
     else
      Option.bind (X9 N (⟨a0.Parent.Time, a0.Parent.Seq, a0.Parent.Rep⟩ : AO)) fun (iB : Bool) =>
      some (!iB)
  ) fun (g1 : Bool) =>
 bif g1 then
  some false
 else
  Option.bind (
    Option.bind (QQ N (⟨a0.Parent.Time, a0.Parent.Seq, a0.Parent.Rep⟩ : AO)) fun (x29 : Bool) =>
    bif x29 then
     bif ((a0.RDN.length : Int) == (0 : Int)) then
      some (!a0.DelOld)
     else
      some false
    else
     some false
   ) fun (g6 : Bool) =>
  bif (a0.Kind == (1 : Int)) then
   Option.bind (
     bif (a0.ID.Time == a0.CSN.Time && (a0.ID.Seq == a0.CSN.Seq && (a0.ID.Rep == a0.CSN.Rep && true))) then
      Option.bind (KV N (⟨a0.Parent.Time, a0.Parent.Seq, a0.Parent.Rep⟩ : AO) (⟨(⟨a0.CSN.Time, a0.CSN.Seq, a0.CSN.Rep⟩ : AO), a0.Kind, (⟨a0.ID.Time, a0.ID.Seq, a0.ID.Rep⟩ : AO), (⟨a0.Parent.Time, a0.Parent.Seq, a0.Parent.Rep⟩ : AO), a0.RDN, a0.DelOld, a0.Mods⟩ : AR)) fun (x54 : Bool) =>
      bif x54 then
       Option.bind (O0 N a0.RDN) fun (uO : Bool) =>
       bif uO then
        Option.bind (LW N a0.Mods 1) fun (x64 : Bool) =>
        bif x64 then
         some (!a0.DelOld)
        else
         some false
       else
        some false
      else
       some false
     else
      some false
    ) fun (g10 : Bool) =>
   some g10
  else
   bif (a0.Kind == (2 : Int)) then
    Option.bind (
      Option.bind (QQ N (⟨a0.ID.Time, a0.ID.Seq, a0.ID.Rep⟩ : AO)) fun (x75 : Bool) =>
      bif !x75 then
       Option.bind (KV N (⟨a0.ID.Time, a0.ID.Seq, a0.ID.Rep⟩ : AO) (⟨(⟨a0.CSN.Time, a0.CSN.Seq, a0.CSN.Rep⟩ : AO), a0.Kind, (⟨a0.ID.Time, a0.ID.Seq, a0.ID.Rep⟩ : AO), (⟨a0.Parent.Time, a0.Parent.Seq, a0.Parent.Rep⟩ : AO), a0.RDN, a0.DelOld, a0.Mods⟩ : AR)) fun (x81 : Bool) =>
       bif x81 then
        bif g6 then
         some ((a0.Mods.length : Int) == (0 : Int))
        else
         some false
       else
        some false
      else
       some false
     ) fun (g16 : Bool) =>
    some g16
   else
    bif (a0.Kind == (3 : Int)) then
     Option.bind (
       Option.bind (KV N (⟨a0.ID.Time, a0.ID.Seq, a0.ID.Rep⟩ : AO) (⟨(⟨a0.CSN.Time, a0.CSN.Seq, a0.CSN.Rep⟩ : AO), a0.Kind, (⟨a0.ID.Time, a0.ID.Seq, a0.ID.Rep⟩ : AO), (⟨a0.Parent.Time, a0.Parent.Seq, a0.Parent.Rep⟩ : AO), a0.RDN, a0.DelOld, a0.Mods⟩ : AR)) fun (x97 : Bool) =>
       bif x97 then
        bif g6 then
         bif decide ((a0.Mods.length : Int) > (0 : Int)) then
          Option.bind (LW N a0.Mods 3) fun (x110 : Bool) =>
          some x110
         else
          some false
        else
         some false
       else
        some false
      ) fun (g21 : Bool) =>
     some g21
    else
     bif (a0.Kind == (4 : Int)) then
      Option.bind (
        Option.bind (QQ N (⟨a0.ID.Time, a0.ID.Seq, a0.ID.Rep⟩ : AO)) fun (mO : Bool) =>
        bif !mO then
         Option.bind (KV N (⟨a0.ID.Time, a0.ID.Seq, a0.ID.Rep⟩ : AO) (⟨(⟨a0.CSN.Time, a0.CSN.Seq, a0.CSN.Rep⟩ : AO), a0.Kind, (⟨a0.ID.Time, a0.ID.Seq, a0.ID.Rep⟩ : AO), (⟨a0.Parent.Time, a0.Parent.Seq, a0.Parent.Rep⟩ : AO), a0.RDN, a0.DelOld, a0.Mods⟩ : AR)) fun (JX : Bool) =>
         bif JX then
          Option.bind (KV N (⟨a0.Parent.Time, a0.Parent.Seq, a0.Parent.Rep⟩ : AO) (⟨(⟨a0.CSN.Time, a0.CSN.Seq, a0.CSN.Rep⟩ : AO), a0.Kind, (⟨a0.ID.Time, a0.ID.Seq, a0.ID.Rep⟩ : AO), (⟨a0.Parent.Time, a0.Parent.Seq, a0.Parent.Rep⟩ : AO), a0.RDN, a0.DelOld, a0.Mods⟩ : AR)) fun (x128 : Bool) =>
          bif x128 then
           Option.bind (O0 N a0.RDN) fun (x133 : Bool) =>
           bif x133 then
            some ((a0.Mods.length : Int) == (0 : Int))
           else
            some false
          else
           some false
         else
          some false
        else
         some false
       ) fun (g26 : Bool) =>
      some g26
     else
      some false
def GQ (N : Nat) (a0 : UInt8) (a1 : List UInt8) : Option (A7) :=
 some (⟨a0, a1, []⟩ : A7)
def RV (bD : Int) (I1 : List UInt8) (rec : (Int × List UInt8) → Option (List UInt8)) (Eg : Int) : Option (List UInt8) :=
 bif (bD == Eg) then
  some I1
 else
  (PO 1 [(byte bD)] I1).bind fun (x27 : List UInt8) =>
  rec ((jY bD 8), x27)
def UW (N : Nat) (rec : (Int × List UInt8) → Option (List UInt8)) : (Int × List UInt8) → Option (List UInt8)
 | (bD, I1) =>
  (QS (0 : Int) I1.length).bind fun (M7 : Nat) =>
  (I1[M7]?).bind fun (W9 : UInt8) =>
  bif ((((W9 &&& (128 : UInt8))).toNat : Int) != (0 : Int)) then
   RV bD I1 rec (-1)
  else
   RV bD I1 rec 0
def NK (N : Nat) : Nat → (Int × List UInt8) → Option (List UInt8)
 | 0, _ => none
 | n + 1, x => UW N (NK N n) x
def SL (N : Nat) (a0 : Int) : Option (List UInt8) :=
 Option.bind (NK N N ((jY a0 8), [(byte a0)])) fun (y3 : List UInt8) =>
 some y3
def NJ (N : Nat) (a0 : UInt8) (a1 : Int) : Option (A7) :=
 Option.bind (SL N a1) fun (x7 : List UInt8) =>
 Option.bind (GQ N a0 x7) fun (x8 : A7) =>
 some x8
def M9 (N : Nat) (a0 : UInt8) (a1 : List A7) : Option (A7) :=
 some (⟨a0, ([] : List UInt8), (List.map A9 a1)⟩ : A7)
def VC (N : Nat) (a0 : AO) : Option (List UInt8) :=
 Option.bind (IM N a0.Time 10) fun (x5 : List UInt8) =>
 (XC x5 ([46] : List UInt8)).bind fun (x6 : List UInt8) =>
 Option.bind (strconv_Itoa N a0.Seq) fun (x9 : List UInt8) =>
 (XC x6 x9).bind fun (PI : List UInt8) =>
 (XC PI ([46] : List UInt8)).bind fun (PG : List UInt8) =>
 Option.bind (strconv_Itoa N a0.Rep) fun (M7 : List UInt8) =>
 (XC PG M7).bind fun (W9 : List UInt8) =>
 some W9
def JW (N : Nat) (a0 : AO) : Option (A7) :=
 Option.bind (VC N a0) fun (x4 : List UInt8) =>
 Option.bind (GQ N (4 : UInt8) x4) fun (x5 : A7) =>
 some x5
def U7 (N : Nat) (IU : A7 → Option (Bool)) (a0 : A7) : Option (Bool) :=
 Option.bind (IU a0) fun (x4 : Bool) =>
 some (!x4)
def BV (N : Nat) (IU : A7 → Option (Bool)) (a0 : List A7) (rec : Int → Option (Unit ⊕ Int)) : Int → Option (Unit ⊕ Int)
 | v8l6 =>
  bif decide (v8l6 < (a0.length : Int)) then
   (EP a0 v8l6).bind fun (M7 : A7) =>
   Option.bind (U7 N IU M7) fun (YM : Bool) =>
   bif YM then
    some (Sum.inr v8l6)
   else
    rec (CE (v8l6 + (1 : Int)))
  else
   some (Sum.inl ())
def BI (N : Nat) (IU : A7 → Option (Bool)) (a0 : List A7) : Nat → Int → Option (Unit ⊕ Int)
 | 0, _ => none
 | n + 1, x => BV N IU a0 (BI N IU a0 n) x
def CY (N : Nat) (IU : A7 → Option (Bool)) (a0 : List A7) : Option (Int) :=
 Option.bind (BI N IU a0 N 0) fun (y3 : Unit ⊕ Int) =>
 Sum.elim (fun (y3 : Unit) =>
   some (-1)
  ) (fun (y3 : Int) =>
   some y3
  ) y3
def CV (N : Nat) (IU : A7 → Option (Bool)) (a0 : List A7) : Option (Bool) :=
 Option.bind (CY N IU a0) fun (x7 : Int) =>
 some (decide (x7 ≥ (0 : Int)))
def O1 (N : Nat) (IU : A7 → Option (Bool)) (a0 : A7) : Option (Bool) :=
 bif ((((a0.Tag &&& (31 : UInt8))).toNat : Int) == (31 : Int)) then
  some false
 else
  bif ((((a0.Tag &&& (32 : UInt8))).toNat : Int) == (0 : Int)) then
   Option.bind (QO CJ a0.Kids) fun (M7 : List A7) =>
   some ((M7.length : Int) == (0 : Int))
  else
   Option.bind (
     bif (a0.Body == ([] : List UInt8)) then
      Option.bind (QO CJ a0.Kids) fun (ZK : List A7) =>
      Option.bind (CV N IU ZK) fun (iB : Bool) =>
      some (!iB)
     else
      some false
    ) fun (g3 : Bool) =>
   some g3
def IR (N : Nat) : Nat → A7 → Option (Bool)
 | 0 => fun _ => none
 | n + 1 => O1 N (IR N n)
def XE (N : Nat) (a0 : A7) : Option (Bool) := IR N N a0
def OW (N : Nat) (IU : A7 → Option (Int)) (x7 : List A7) (rec : (Int × Int) → Option (Int)) : (Int × Int) → Option (Int)
 | (rP, rO) =>
  bif decide (rO < (x7.length : Int)) then
   (EP x7 rO).bind fun (PG : A7) =>
   Option.bind (IU PG) fun (W9 : Int) =>
   rec ((mx rP W9), (CE (rO + (1 : Int))))
  else
   some rP
def KY (N : Nat) (IU : A7 → Option (Int)) (x7 : List A7) : Nat → (Int × Int) → Option (Int)
 | 0, _ => none
 | n + 1, x => OW N IU x7 (KY N IU x7 n) x
def U8 (N : Nat) (IU : A7 → Option (Int)) (a0 : A7) : Option (Int) :=
 Option.bind (QO CJ a0.Kids) fun (x7 : List A7) =>
 Option.bind (KY N IU x7 N (0, 0)) fun (y2 : Int) =>
 some (CE (y2 + (1 : Int)))
def MN (N : Nat) : Nat → A7 → Option (Int)
 | 0 => fun _ => none
 | n + 1 => U8 N (MN N n)
def dV (N : Nat) (a0 : A7) : Option (Int) := MN N N a0
def U6 (N : Nat) (a0 : Int) : Option (List UInt8) :=
 bif decide (a0 < (128 : Int)) then
  some [(byte a0)]
 else
  bif decide (a0 < (256 : Int)) then
   some [(129 : UInt8), (byte a0)]
  else
   some [(130 : UInt8), (byte (jY a0 8)), (byte a0)]
def O3 (N : Nat) (IU : A7 → Option (List UInt8 × Bool)) (a0 : A7) (K5 : List A7) (rec : (Int × List UInt8) → Option ((List UInt8) ⊕ (List UInt8 × Bool))) : (Int × List UInt8) → Option ((List UInt8) ⊕ (List UInt8 × Bool))
 | (QB, NT) =>
  bif decide (QB < (K5.length : Int)) then
   (EP K5 QB).bind fun (EA : A7) =>
   Option.bind (IU EA) fun (XF : List UInt8 × Bool) =>
   Option.bind (
     bif !XF.2 then
      some true
     else
      some (decide ((CE ((NT.length : Int) + (XF.1.length : Int))) > (4000 : Int)))
    ) fun (g2 : Bool) =>
   bif g2 then
    some (Sum.inr (([] : List UInt8), false))
   else
    (PO 1 NT XF.1).bind fun (Gd : List UInt8) =>
    rec ((CE (QB + (1 : Int))), Gd)
  else
   some (Sum.inl NT)
def JR (N : Nat) (IU : A7 → Option (List UInt8 × Bool)) (a0 : A7) (K5 : List A7) : Nat → (Int × List UInt8) → Option ((List UInt8) ⊕ (List UInt8 × Bool))
 | 0, _ => none
 | n + 1, x => O3 N IU a0 K5 (JR N IU a0 K5 n) x
def RP (N : Nat) (IU : A7 → Option (List UInt8 × Bool)) (a0 : A7) : Option (List UInt8 × Bool) :=
 Option.bind (QO CJ a0.Kids) fun (K5 : List A7) =>
 Option.bind (JR N IU a0 K5 N (0, a0.Body)) fun (y5 : (List UInt8) ⊕ (List UInt8 × Bool)) =>
 Sum.elim (fun (y5 : List UInt8) =>
   bif decide ((y5.length : Int) > (4000 : Int)) then
    some (([] : List UInt8), false)
   else
    Option.bind (U6 N (y5.length : Int)) fun (YK : List UInt8) =>
    (XC [a0.Tag] YK).bind fun (mJ : List UInt8) =>
    (XC mJ y5).bind fun (Gc : List UInt8) =>
    some (Gc, true)
  ) (fun (y5 : List UInt8 × Bool) =>
   some (y5.1, y5.2)
  ) y5
def KZ (N : Nat) : Nat → A7 → Option (List UInt8 × Bool)
 | 0 => fun _ => none
 | n + 1 => RP N (KZ N n)
def ZF (N : Nat) (a0 : A7) : Option (List UInt8 × Bool) := KZ N N a0
def VX (N : Nat) (a0 : A7) : Option (List UInt8 × Int) :=
 Option.bind (XE N a0) fun (x7 : Bool) =>
 bif !x7 then
  some (([] : List UInt8), 14)
 else
  Option.bind (dV N a0) fun (PI : Int) =>
  bif decide (PI > (20 : Int)) then
   some (([] : List UInt8), 12)
  else
   Option.bind (ZF N a0) fun (M7 : List UInt8 × Bool) =>
   bif !M7.2 then
    some (([] : List UInt8), 13)
   else
    some (M7.1, 0)
def JN (N : Nat) (a0 : AR) (rec : (Int × List A7) → Option (List A7)) : (Int × List A7) → Option (List A7)
 | (YS, TC) =>
  bif decide (YS < (a0.RDN.length : Int)) then
   (EP a0.RDN YS).bind fun (x24 : AU) =>
   Option.bind (GQ N (4 : UInt8) x24.Attr) fun (x29 : A7) =>
   Option.bind (GQ N (4 : UInt8) x24.Value) fun (x32 : A7) =>
   (PO 48 TC [x29, x32]).bind fun (x34 : List A7) =>
   rec ((CE (YS + (1 : Int))), x34)
  else
   some TC
def GA (N : Nat) (a0 : AR) : Nat → (Int × List A7) → Option (List A7)
 | 0, _ => none
 | n + 1, x => JN N a0 (GA N a0 n) x
def JL (N : Nat) (a0 : AR) (y3 : List A7) (JB : Int) (ET : List A7) (x41 : BA) (rec : (Int × List A7) → Option (List A7)) : (Int × List A7) → Option (List A7)
 | (YP, TB) =>
  bif decide (YP < (x41.Values.length : Int)) then
   (EP x41.Values YP).bind fun (x55 : List UInt8) =>
   Option.bind (GQ N (4 : UInt8) x55) fun (uO : A7) =>
   (PO 48 TB [uO]).bind fun (Ga : List A7) =>
   rec ((CE (YP + (1 : Int))), Ga)
  else
   some TB
def G8 (N : Nat) (a0 : AR) (y3 : List A7) (JB : Int) (ET : List A7) (x41 : BA) : Nat → (Int × List A7) → Option (List A7)
 | 0, _ => none
 | n + 1, x => JL N a0 y3 JB ET x41 (G8 N a0 y3 JB ET x41 n) x
def JM (N : Nat) (a0 : AR) (y3 : List A7) (rec : (Int × List A7) → Option (List A7)) : (Int × List A7) → Option (List A7)
 | (JB, ET) =>
  bif decide (JB < (a0.Mods.length : Int)) then
   (EP a0.Mods JB).bind fun (x41 : BA) =>
   Option.bind (NJ N (2 : UInt8) x41.Kind) fun (jP : A7) =>
   Option.bind (GQ N (4 : UInt8) x41.Attr) fun (mJ : A7) =>
   Option.bind (G8 N a0 y3 JB ET x41 N (0, [jP, mJ])) fun (y6 : List A7) =>
   Option.bind (M9 N (48 : UInt8) y6) fun (pE : A7) =>
   (PO 48 ET [pE]).bind fun (x67 : List A7) =>
   rec ((CE (JB + (1 : Int))), x67)
  else
   some ET
def G9 (N : Nat) (a0 : AR) (y3 : List A7) : Nat → (Int × List A7) → Option (List A7)
 | 0, _ => none
 | n + 1, x => JM N a0 y3 (G9 N a0 y3 n) x
def J6 (a0 : AR) (N : Nat) (y3 : List A7) (y7 : List A7) (uW : Int) : Option (List UInt8 × Int) :=
 Option.bind (NJ N (2 : UInt8) uW) fun (x77 : A7) =>
 Option.bind (JW N (⟨a0.CSN.Time, a0.CSN.Seq, a0.CSN.Rep⟩ : AO)) fun (x80 : A7) =>
 Option.bind (JW N (⟨a0.ID.Time, a0.ID.Seq, a0.ID.Rep⟩ : AO)) fun (x83 : A7) =>
 Option.bind (JW N (⟨a0.Parent.Time, a0.Parent.Seq, a0.Parent.Rep⟩ : AO)) fun (x86 : A7) =>
 Option.bind (M9 N (48 : UInt8) y3) fun (x88 : A7) =>
 Option.bind (M9 N (48 : UInt8) y7) fun (x90 : A7) =>
 Option.bind (M9 N (48 : UInt8) [x77, x80, x83, x86, x88, x90]) fun (x92 : A7) =>
 Option.bind (VX N x92) fun (x93 : List UInt8 × Int) =>
 Option.bind (
   bif (x93.2 == (0 : Int)) then
    some (decide ((x93.1.length : Int) > (4000 : Int)))
   else
    some false
  ) fun (g8 : Bool) =>
 bif g8 then
  some (([] : List UInt8), 13)
 else
  some (x93.1, x93.2)
def JO (N : Nat) (a0 : AR) : Option (List UInt8 × Int) :=
 Option.bind (NF N a0) fun (EA : Bool) =>
 bif !EA then
  some (([] : List UInt8), 14)
 else
  Option.bind (GA N a0 N (0, [])) fun (y3 : List A7) =>
  Option.bind (G9 N a0 y3 N (0, [])) fun (y7 : List A7) =>
  bif a0.DelOld then
   J6 a0 N y3 y7 (CE (0 - a0.Kind))
  else
   J6 a0 N y3 y7 a0.Kind
def U9 (uT : Int) (uQ : Int) : Option (Int × Int × Int) :=
 bif decide (uT > (4000 : Int)) then
  some (0, 0, 13)
 else
  some ((CE ((2 : Int) + uQ)), uT, 0)
def VG (N : Nat) (BQ : UInt8) (x41 : List UInt8) (rec : (Int × Int) → Option (Int)) : (Int × Int) → Option (Int)
 | (fG, YQ) =>
  bif decide (YQ < (x41.length : Int)) then
   (QS YQ x41.length).bind fun (x46 : Nat) =>
   (x41[x46]?).bind fun (YK : UInt8) =>
   rec ((iop .or .i64 (mY fG 8) ((YK).toNat : Int)), (CE (YQ + (1 : Int))))
  else
   some fG
def Q5 (N : Nat) (BQ : UInt8) (x41 : List UInt8) : Nat → (Int × Int) → Option (Int)
 | 0, _ => none
 | n + 1, x => VG N BQ x41 (Q5 N BQ x41 n) x
def mE (N : Nat) (a0 : List UInt8) : Option (Int × Int × Int) :=
 bif (a0 == ([] : List UInt8)) then
  some (0, 0, 10)
 else
  (EP a0 (0 : Int)).bind fun (LF : UInt8) =>
  bif ((((LF &&& (31 : UInt8))).toNat : Int) == (31 : Int)) then
   some (0, 0, 14)
  else
   bif ((a0.length : Int) == (1 : Int)) then
    some (0, 0, 10)
   else
    (EP a0 (1 : Int)).bind fun (BQ : UInt8) =>
    Option.bind (
      bif (((BQ).toNat : Int) == (128 : Int)) then
       some true
      else
       some (decide (((BQ).toNat : Int) > (132 : Int)))
     ) fun (g5 : Bool) =>
    bif g5 then
     some (0, 0, 11)
    else
     bif decide (((BQ).toNat : Int) > (128 : Int)) then
      bif decide ((a0.length : Int) < (CE ((2 : Int) + (CE (((BQ).toNat : Int) - (128 : Int)))))) then
       some (0, 0, 10)
      else
       (fA a0 (2 : Int) (CE ((2 : Int) + (CE (((BQ).toNat : Int) - (128 : Int)))))).bind fun (x41 : List UInt8) =>
       Option.bind (Q5 N BQ x41 N (0, 0)) fun (y11 : Int) =>
       U9 y11 (CE (((BQ).toNat : Int) - (128 : Int)))
     else
      U9 ((BQ).toNat : Int) 0
def LX (N : Nat) (IU : BC → Int → Int → Int → Option (A7 × Int × Int × BC)) (a1 : Int) (a3 : Int) (K4 : Int × Int × Int) (rec : (Int × UInt8 × List UInt8 × List A7 × BC) → Option ((UInt8 × List UInt8 × List A7 × BC) ⊕ (A7 × Int × Int × BC))) : (Int × UInt8 × List UInt8 × List A7 × BC) → Option ((UInt8 × List UInt8 × List A7 × BC) ⊕ (A7 × Int × Int × BC))
 | (mQ, JH, JG, QI, QF) =>
  bif decide (mQ < (CE ((CE (a1 + K4.1)) + K4.2.1))) then
   Option.bind (IU QF mQ (CE ((CE (a1 + K4.1)) + K4.2.1)) (CE (a3 + (1 : Int)))) fun (x102 : A7 × Int × Int × BC) =>
   bif (x102.2.2.1 != (0 : Int)) then
    some (Sum.inr ((⟨(0 : UInt8), ([] : List UInt8), []⟩ : A7), 0, x102.2.2.1, x102.2.2.2))
   else
    (PO 48 QI [x102.1]).bind fun (x114 : List A7) =>
    rec (x102.2.1, JH, JG, x114, x102.2.2.2)
  else
   some (Sum.inl (JH, JG, QI, QF))
def H8 (N : Nat) (IU : BC → Int → Int → Int → Option (A7 × Int × Int × BC)) (a1 : Int) (a3 : Int) (K4 : Int × Int × Int) : Nat → (Int × UInt8 × List UInt8 × List A7 × BC) → Option ((UInt8 × List UInt8 × List A7 × BC) ⊕ (A7 × Int × Int × BC))
 | 0, _ => none
 | n + 1, x => LX N IU a1 a3 K4 (H8 N IU a1 a3 K4 n) x
def JP (IU : BC → Int → Int → Int → Option (A7 × Int × Int × BC)) (a0 : BC) (a1 : Int) (a3 : Int) (N : Nat) (K4 : Int × Int × Int) (iH : Int) : Option (A7 × Int × Int × BC) :=
 bif (iH != (0 : Int)) then
  some ((⟨(0 : UInt8), ([] : List UInt8), []⟩ : A7), 0, iH, (⟨a0.s, a1⟩ : BC))
 else
  (EP a0.s a1).bind fun (iA : UInt8) =>
  bif ((((iA &&& (32 : UInt8))).toNat : Int) == (0 : Int)) then
   (fA a0.s (CE (a1 + K4.1)) (CE ((CE (a1 + K4.1)) + K4.2.1))).bind fun (x82 : List UInt8) =>
   some ((⟨iA, x82, []⟩ : A7), (CE ((CE (a1 + K4.1)) + K4.2.1)), 0, (⟨a0.s, a1⟩ : BC))
  else
   Option.bind (H8 N IU a1 a3 K4 N ((CE (a1 + K4.1)), iA, ([] : List UInt8), [], (⟨a0.s, a1⟩ : BC))) fun (y6 : (UInt8 × List UInt8 × List A7 × BC) ⊕ (A7 × Int × Int × BC)) =>
   Sum.elim (fun (y6 : UInt8 × List UInt8 × List A7 × BC) =>
     some ((⟨y6.1, y6.2.1, (List.map A9 y6.2.2.1)⟩ : A7), (CE ((CE (a1 + K4.1)) + K4.2.1)), 0, y6.2.2.2)
    ) (fun (y6 : A7 × Int × Int × BC) =>
     some (y6.1, y6.2.1, y6.2.2.1, y6.2.2.2)
    ) y6
def JQ (IU : BC → Int → Int → Int → Option (A7 × Int × Int × BC)) (a0 : BC) (a1 : Int) (a3 : Int) (N : Nat) (K4 : Int × Int × Int) (bE : Int) : Option (A7 × Int × Int × BC) :=
 Option.bind (
   bif (bE == (10 : Int)) then
    some (decide (a3 > (1 : Int)))
   else
    some false
  ) fun (g7 : Bool) =>
 bif g7 then
  JP IU a0 a1 a3 N K4 11
 else
  JP IU a0 a1 a3 N K4 bE
def PD (N : Nat) (IU : BC → Int → Int → Int → Option (A7 × Int × Int × BC)) (a0 : BC) (a1 : Int) (a2 : Int) (a3 : Int) : Option (A7 × Int × Int × BC) :=
 bif decide (a3 > (20 : Int)) then
  some ((⟨(0 : UInt8), ([] : List UInt8), []⟩ : A7), 0, 12, (⟨a0.s, a1⟩ : BC))
 else
  (fA a0.s a1 a2).bind fun (x34 : List UInt8) =>
  Option.bind (mE N x34) fun (K4 : Int × Int × Int) =>
  Option.bind (
    bif (K4.2.2 == (0 : Int)) then
     some (decide (K4.2.1 > (CE ((CE (a2 - a1)) - K4.1))))
    else
     some false
   ) fun (g10 : Bool) =>
  bif g10 then
   JQ IU a0 a1 a3 N K4 10
  else
   JQ IU a0 a1 a3 N K4 K4.2.2
def IQ (N : Nat) : Nat → BC → Int → Int → Int → Option (A7 × Int × Int × BC)
 | 0 => fun _ _ _ _ => none
 | n + 1 => PD N (IQ N n)
def QW (N : Nat) (a0 : BC) (a1 : Int) (a2 : Int) (a3 : Int) : Option (A7 × Int × Int × BC) := IQ N N a0 a1 a2 a3
def mD (N : Nat) (a0 : List UInt8) : Option (A7 × Int × Int × Int) :=
 Option.bind (QW N (⟨a0, 0⟩ : BC) 0 (a0.length : Int) 1) fun (EA : A7 × Int × Int × BC) =>
 bif (EA.2.2.1 != (0 : Int)) then
  some ((⟨(0 : UInt8), ([] : List UInt8), []⟩ : A7), 0, EA.2.2.2.at_, EA.2.2.1)
 else
  some (EA.1, EA.2.1, 0, 0)
def PP (N : Nat) (a0 : List UInt8) (rec : (Int × Int) → Option (Int)) : (Int × Int) → Option (Int)
 | (fH, YR) =>
  bif decide (YR < (a0.length : Int)) then
   (QS YR a0.length).bind fun (x25 : Nat) =>
   (a0[x25]?).bind fun (J2 : UInt8) =>
   rec ((iop .or .i64 (mY fH 8) ((J2).toNat : Int)), (CE (YR + (1 : Int))))
  else
   some fH
def K6 (N : Nat) (a0 : List UInt8) : Nat → (Int × Int) → Option (Int)
 | 0, _ => none
 | n + 1, x => PP N a0 (K6 N a0 n) x
def OA (a0 : List UInt8) (N : Nat) (v4j6 : Int) : Option (Int × Bool) :=
 Option.bind (K6 N a0 N (v4j6, 0)) fun (y2 : Int) =>
 Option.bind (SL N y2) fun (x34 : List UInt8) =>
 bif (!(x34 == a0)) then
  some (0, false)
 else
  some (y2, true)
def RU (N : Nat) (a0 : List UInt8) : Option (Int × Bool) :=
 Option.bind (
   bif (a0 == ([] : List UInt8)) then
    some true
   else
    some (decide ((a0.length : Int) > (8 : Int)))
  ) fun (g4 : Bool) =>
 bif g4 then
  some (0, false)
 else
  (EP a0 (0 : Int)).bind fun (EA : UInt8) =>
  bif ((((EA &&& (128 : UInt8))).toNat : Int) != (0 : Int)) then
   OA a0 N (-1)
  else
   OA a0 N 0
def UB (N : Nat) (a0 : List UInt8) (a1 : Int) : Option (List (List UInt8)) :=
 none
def strings_Index (N : Nat) (a0 : List UInt8) (a1 : List UInt8) : Option (Int) :=
 Option.bind (stringslite_Index N a0 a1) fun (x7 : Int) =>
 some x7
def NM (N : Nat) (a0 : List UInt8) (a1 : List UInt8) (a2 : Int) (PQ : Int) (rec : (List UInt8 × Int × List (List UInt8)) → Option (List UInt8 × Int × List (List UInt8))) : (List UInt8 × Int × List (List UInt8)) → Option (List UInt8 × Int × List (List UInt8))
 | (ZM, RX, G6) =>
  bif decide (RX < (CE ((mn PQ (CE ((a0.length : Int) + (1 : Int)))) - (1 : Int)))) then
   Option.bind (strings_Index N ZM a1) fun (x39 : Int) =>
   bif decide (x39 < (0 : Int)) then
    some (ZM, RX, G6)
   else
    (R9 ZM (CE (x39 + a2))).bind fun (mJ : List UInt8) =>
    (QS RX G6.length).bind fun (aA : Nat) =>
    (G6[aA]?).bind fun (uN : List UInt8) =>
    (UI ZM (CE (x39 + (a1.length : Int)))).bind fun (x55 : List UInt8) =>
    rec (x55, (CE (RX + (1 : Int))), (G6.set aA mJ))
  else
   some (ZM, RX, G6)
def IL (N : Nat) (a0 : List UInt8) (a1 : List UInt8) (a2 : Int) (PQ : Int) : Nat → (List UInt8 × Int × List (List UInt8)) → Option (List UInt8 × Int × List (List UInt8))
 | 0, _ => none
 | n + 1, x => NM N a0 a1 a2 PQ (IL N a0 a1 a2 PQ n) x
def KD (a0 : List UInt8) (a1 : List UInt8) (a2 : Int) (N : Nat) (PQ : Int) : Option (List (List UInt8)) :=
 Option.bind (mkN 16 (mn PQ (CE ((a0.length : Int) + (1 : Int))))) fun (x31 : Nat) =>
 Option.bind (IL N a0 a1 a2 PQ N (a0, 0, (List.replicate x31 ([] : List UInt8)))) fun (y6 : List UInt8 × Int × List (List UInt8)) =>
 (QS y6.2.1 y6.2.2.length).bind fun (Ga : Nat) =>
 (y6.2.2[Ga]?).bind fun (uM : List UInt8) =>
 (R9 (y6.2.2.set Ga y6.1) (CE (y6.2.1 + (1 : Int)))).bind fun (pE : List (List UInt8)) =>
 some pE
def strings_genSplit (N : Nat) (a0 : List UInt8) (a1 : List UInt8) (a2 : Int) (a3 : Int) : Option (List (List UInt8)) :=
 bif (a3 == (0 : Int)) then
  some []
 else
  bif (a1 == ([] : List UInt8)) then
   Option.bind (UB N a0 a3) fun (aB : List (List UInt8)) =>
   some aB
  else
   bif decide (a3 < (0 : Int)) then
    Option.bind (strings_Count N a0 a1) fun (iB : Int) =>
    KD a0 a1 a2 N (CE (iB + (1 : Int)))
   else
    KD a0 a1 a2 N a3
def strings_Split (N : Nat) (a0 : List UInt8) (a1 : List UInt8) : Option (List (List UInt8)) :=
 Option.bind (strings_genSplit N a0 a1 0 (-1)) fun (x7 : List (List UInt8)) =>
 some x7
def UL (N : Nat) (a0 : List UInt8) (LF : List (List UInt8)) (rec : (Int × List Int) → Option ((List Int) ⊕ (AO × Int))) : (Int × List Int) → Option ((List Int) ⊕ (AO × Int))
 | (TL, OE) =>
  bif decide (TL < (LF.length : Int)) then
   (EP LF TL).bind fun (ZK : List UInt8) =>
   Option.bind (L6 N ZK 10 64) fun (J2 : Int × Bool) =>
   Option.bind (
     bif J2.2 then
      some true
     else
      bif decide (J2.1 < (0 : Int)) then
       some true
      else
       some (decide (J2.1 > (1099511627776 : Int)))
    ) fun (g3 : Bool) =>
   bif g3 then
    some (Sum.inr ((⟨0, 0, 0⟩ : AO), 14))
   else
    (QS TL 3).bind fun (uG : Nat) =>
    (OE[uG]?).bind fun (uM : Int) =>
    rec ((CE (TL + (1 : Int))), (OE.set uG J2.1))
  else
   some (Sum.inl OE)
def OT (N : Nat) (a0 : List UInt8) (LF : List (List UInt8)) : Nat → (Int × List Int) → Option ((List Int) ⊕ (AO × Int))
 | 0, _ => none
 | n + 1, x => UL N a0 LF (OT N a0 LF n) x
def VU (N : Nat) (a0 : List UInt8) : Option (AO × Int) :=
 Option.bind (strings_Split N a0 ([46] : List UInt8)) fun (LF : List (List UInt8)) =>
 bif ((LF.length : Int) != (3 : Int)) then
  some ((⟨0, 0, 0⟩ : AO), 14)
 else
  Option.bind (OT N a0 LF N (0, [0, 0, 0])) fun (y8 : (List Int) ⊕ (AO × Int)) =>
  Sum.elim (fun (y8 : List Int) =>
    (y8[0]?).bind fun (jP : Int) =>
    (y8[1]?).bind fun (YK : Int) =>
    (y8[2]?).bind fun (aA : Int) =>
    Option.bind (
      Option.bind (X9 N (⟨jP, YK, aA⟩ : AO)) fun (M6 : Bool) =>
      bif !M6 then
       some true
      else
       Option.bind (VC N (⟨jP, YK, aA⟩ : AO)) fun (x56 : List UInt8) =>
       some (!(x56 == a0))
     ) fun (g9 : Bool) =>
    bif g9 then
     some ((⟨0, 0, 0⟩ : AO), 14)
    else
     some ((⟨jP, YK, aA⟩ : AO), 0)
   ) (fun (y8 : AO × Int) =>
    some (y8.1, y8.2)
   ) y8
def RN (N : Nat) (a0 : List UInt8) (J2 : A7 × Int × Int × Int) (M6 : Int × Bool) (x81 : AO × Int) (D9 : AO × Int) (EI : AO × Int) (rec : Unit → Option (Unit)) : Unit → Option (Unit)
 | () =>
  some ()
def M5 (N : Nat) (a0 : List UInt8) (J2 : A7 × Int × Int × Int) (M6 : Int × Bool) (x81 : AO × Int) (D9 : AO × Int) (EI : AO × Int) : Nat → Unit → Option (Unit)
 | 0, _ => none
 | n + 1, x => RN N a0 J2 M6 x81 D9 EI (M5 N a0 J2 M6 x81 D9 EI n) x
def RL (N : Nat) (a0 : List UInt8) (J2 : A7 × Int × Int × Int) (x93 : List A7) (rec : (Int × Int × Int × Int × Int × Int × Int × Int × Int × Int × Int × Bool × List AU) → Option (Int × Int × Int × Int × Int × Int × Int × Int × Int × Int × Bool × List AU)) : (Int × Int × Int × Int × Int × Int × Int × Int × Int × Int × Int × Bool × List AU) → Option (Int × Int × Int × Int × Int × Int × Int × Int × Int × Int × Bool × List AU)
 | (TM, N9, N8, N7, MZ, MX, MW, MV, MU, MS, MR, LA, QH) =>
  bif decide ((CE (TM + (1 : Int))) < (x93.length : Int)) then
   (EP x93 TM).bind fun (x105 : A7) =>
   (EP x93 (CE (TM + (1 : Int)))).bind fun (iD : A7) =>
   (PO 32 QH [(⟨x105.Body, iD.Body⟩ : AU)]).bind fun (mO : List AU) =>
   rec ((CE (TM + (2 : Int))), N9, N8, N7, MZ, MX, MW, MV, MU, MS, MR, LA, mO)
  else
   some (N9, N8, N7, MZ, MX, MW, MV, MU, MS, MR, LA, QH)
def M4 (N : Nat) (a0 : List UInt8) (J2 : A7 × Int × Int × Int) (x93 : List A7) : Nat → (Int × Int × Int × Int × Int × Int × Int × Int × Int × Int × Int × Bool × List AU) → Option (Int × Int × Int × Int × Int × Int × Int × Int × Int × Int × Bool × List AU)
 | 0, _ => none
 | n + 1, x => RL N a0 J2 x93 (M4 N a0 J2 x93 n) x
def RI (N : Nat) (a0 : List UInt8) (JX : List A7) (GL : Int) (E5 : Int) (DZ : Int) (DY : Int) (DX : Int) (DV : Int) (DU : Int) (DT : Int) (DR : Int) (DN : Int) (DL : Int) (D5 : Bool) (D6 : List AU) (DJ : List BA) (x151 : List A7) (rec : (Int × Int × List UInt8 × List (List UInt8)) → Option (Int × List UInt8 × List (List UInt8))) : (Int × Int × List UInt8 × List (List UInt8)) → Option (Int × List UInt8 × List (List UInt8))
 | (VK, MQ, MP, QG) =>
  bif decide (VK < (x151.length : Int)) then
   (EP x151 VK).bind fun (jQ : A7) =>
   (PO 16 QG [jQ.Body]).bind fun (Aq : List (List UInt8)) =>
   rec ((CE (VK + (1 : Int))), MQ, MP, Aq)
  else
   some (MQ, MP, QG)
def M0 (N : Nat) (a0 : List UInt8) (JX : List A7) (GL : Int) (E5 : Int) (DZ : Int) (DY : Int) (DX : Int) (DV : Int) (DU : Int) (DT : Int) (DR : Int) (DN : Int) (DL : Int) (D5 : Bool) (D6 : List AU) (DJ : List BA) (x151 : List A7) : Nat → (Int × Int × List UInt8 × List (List UInt8)) → Option (Int × List UInt8 × List (List UInt8))
 | 0, _ => none
 | n + 1, x => RI N a0 JX GL E5 DZ DY DX DV DU DT DR DN DL D5 D6 DJ x151 (M0 N a0 JX GL E5 DZ DY DX DV DU DT DR DN DL D5 D6 DJ x151 n) x
def RJ (N : Nat) (a0 : List UInt8) (JX : List A7) (rec : (Int × Int × Int × Int × Int × Int × Int × Int × Int × Int × Int × Bool × List AU × List BA) → Option ((Int × Int × Int × Int × Int × Int × Int × Int × Int × Int × Bool × List AU × List BA) ⊕ (AR × Int))) : (Int × Int × Int × Int × Int × Int × Int × Int × Int × Int × Int × Bool × List AU × List BA) → Option ((Int × Int × Int × Int × Int × Int × Int × Int × Int × Int × Bool × List AU × List BA) ⊕ (AR × Int))
 | (GL, E5, DZ, DY, DX, DV, DU, DT, DR, DN, DL, D5, D6, DJ) =>
  bif decide (GL < (JX.length : Int)) then
   (EP JX GL).bind fun (aX : A7) =>
   Option.bind (QO CJ aX.Kids) fun (Gi : List A7) =>
   bif decide ((Gi.length : Int) < (2 : Int)) then
    some (Sum.inr ((⟨(⟨0, 0, 0⟩ : AO), 0, (⟨0, 0, 0⟩ : AO), (⟨0, 0, 0⟩ : AO), [], false, []⟩ : AR), 14))
   else
    Option.bind (QO CJ aX.Kids) fun (Gh : List A7) =>
    (EP Gh (0 : Int)).bind fun (mM : A7) =>
    Option.bind (RU N mM.Body) fun (mK : Int × Bool) =>
    Option.bind (QO CJ aX.Kids) fun (Gg : List A7) =>
    (EP Gg (1 : Int)).bind fun (aC : A7) =>
    Option.bind (QO CJ aX.Kids) fun (x150 : List A7) =>
    (UI x150 (2 : Int)).bind fun (x151 : List A7) =>
    Option.bind (M0 N a0 JX GL E5 DZ DY DX DV DU DT DR DN DL D5 D6 DJ x151 N (0, mK.1, aC.Body, [])) fun (YJ : Int × List UInt8 × List (List UInt8)) =>
    (PO 48 DJ [(⟨YJ.1, YJ.2.1, YJ.2.2⟩ : BA)]).bind fun (Ap : List BA) =>
    rec ((CE (GL + (1 : Int))), E5, DZ, DY, DX, DV, DU, DT, DR, DN, DL, D5, D6, Ap)
  else
   some (Sum.inl (E5, DZ, DY, DX, DV, DU, DT, DR, DN, DL, D5, D6, DJ))
def M3 (N : Nat) (a0 : List UInt8) (JX : List A7) : Nat → (Int × Int × Int × Int × Int × Int × Int × Int × Int × Int × Int × Bool × List AU × List BA) → Option ((Int × Int × Int × Int × Int × Int × Int × Int × Int × Int × Bool × List AU × List BA) ⊕ (AR × Int))
 | 0, _ => none
 | n + 1, x => RJ N a0 JX (M3 N a0 JX n) x
def VE (N : Nat) (a0 : List UInt8) : Option (AR × Int) :=
 Option.bind (mD N a0) fun (J2 : A7 × Int × Int × Int) =>
 Option.bind (
   bif (J2.2.2.2 != (0 : Int)) then
    some true
   else
    bif (J2.2.1 != (a0.length : Int)) then
     some true
    else
     Option.bind (QO CJ J2.1.Kids) fun (x41 : List A7) =>
     some ((x41.length : Int) != (6 : Int))
  ) fun (g1 : Bool) =>
 bif g1 then
  some ((⟨(⟨0, 0, 0⟩ : AO), 0, (⟨0, 0, 0⟩ : AO), (⟨0, 0, 0⟩ : AO), [], false, []⟩ : AR), 14)
 else
  Option.bind (QO CJ J2.1.Kids) fun (mJ : List A7) =>
  (EP mJ (0 : Int)).bind fun (aA : A7) =>
  Option.bind (RU N aA.Body) fun (M6 : Int × Bool) =>
  Option.bind (QO CJ J2.1.Kids) fun (x75 : List A7) =>
  (EP x75 (1 : Int)).bind fun (Fz : A7) =>
  Option.bind (VU N Fz.Body) fun (x81 : AO × Int) =>
  bif (x81.2 != (0 : Int)) then
   some ((⟨(⟨0, 0, 0⟩ : AO), 0, (⟨0, 0, 0⟩ : AO), (⟨0, 0, 0⟩ : AO), [], false, []⟩ : AR), 14)
  else
   Option.bind (QO CJ J2.1.Kids) fun (iE : List A7) =>
   (EP iE (2 : Int)).bind fun (TJ : A7) =>
   Option.bind (VU N TJ.Body) fun (D9 : AO × Int) =>
   bif (D9.2 != (0 : Int)) then
    some ((⟨(⟨0, 0, 0⟩ : AO), 0, (⟨0, 0, 0⟩ : AO), (⟨0, 0, 0⟩ : AO), [], false, []⟩ : AR), 14)
   else
    Option.bind (QO CJ J2.1.Kids) fun (iC : List A7) =>
    (EP iC (3 : Int)).bind fun (TI : A7) =>
    Option.bind (VU N TI.Body) fun (EI : AO × Int) =>
    bif (EI.2 != (0 : Int)) then
     some ((⟨(⟨0, 0, 0⟩ : AO), 0, (⟨0, 0, 0⟩ : AO), (⟨0, 0, 0⟩ : AO), [], false, []⟩ : AR), 14)
    else
     Option.bind (M5 N a0 J2 M6 x81 D9 EI N ()) fun (y8 : Unit) =>
     Option.bind (QO CJ J2.1.Kids) fun (x90 : List A7) =>
     (EP x90 (4 : Int)).bind fun (x91 : A7) =>
     Option.bind (QO CJ x91.Kids) fun (x93 : List A7) =>
     Option.bind (M4 N a0 J2 x93 N (0, x81.1.Time, x81.1.Seq, x81.1.Rep, (mx M6.1 (CE (0 - M6.1))), D9.1.Time, D9.1.Seq, D9.1.Rep, EI.1.Time, EI.1.Seq, EI.1.Rep, decide (M6.1 < (0 : Int)), [])) fun (PH : Int × Int × Int × Int × Int × Int × Int × Int × Int × Int × Bool × List AU) =>
     Option.bind (QO CJ J2.1.Kids) fun (Gj : List A7) =>
     (EP Gj (5 : Int)).bind fun (rM : A7) =>
     Option.bind (QO CJ rM.Kids) fun (JX : List A7) =>
     Option.bind (M3 N a0 JX N (0, PH.1, PH.2.1, PH.2.2.1, PH.2.2.2.1, PH.2.2.2.2.1, PH.2.2.2.2.2.1, PH.2.2.2.2.2.2.1, PH.2.2.2.2.2.2.2.1, PH.2.2.2.2.2.2.2.2.1, PH.2.2.2.2.2.2.2.2.2.1, PH.2.2.2.2.2.2.2.2.2.2.1, PH.2.2.2.2.2.2.2.2.2.2.2, [])) fun (BU : (Int × Int × Int × Int × Int × Int × Int × Int × Int × Int × Bool × List AU × List BA) ⊕ (AR × Int)) =>
     Sum.elim (fun (BU : Int × Int × Int × Int × Int × Int × Int × Int × Int × Int × Bool × List AU × List BA) =>
       Option.bind (JO N (⟨(⟨BU.1, BU.2.1, BU.2.2.1⟩ : AO), BU.2.2.2.1, (⟨BU.2.2.2.2.1, BU.2.2.2.2.2.1, BU.2.2.2.2.2.2.1⟩ : AO), (⟨BU.2.2.2.2.2.2.2.1, BU.2.2.2.2.2.2.2.2.1, BU.2.2.2.2.2.2.2.2.2.1⟩ : AO), BU.2.2.2.2.2.2.2.2.2.2.2.1, BU.2.2.2.2.2.2.2.2.2.2.1, BU.2.2.2.2.2.2.2.2.2.2.2.2⟩ : AR)) fun (Gf : List UInt8 × Int) =>
       Option.bind (
         bif (Gf.2 != (0 : Int)) then
          some true
         else
          some (!(Gf.1 == a0))
        ) fun (g16 : Bool) =>
       bif g16 then
        some ((⟨(⟨0, 0, 0⟩ : AO), 0, (⟨0, 0, 0⟩ : AO), (⟨0, 0, 0⟩ : AO), [], false, []⟩ : AR), 14)
       else
        some ((⟨(⟨BU.1, BU.2.1, BU.2.2.1⟩ : AO), BU.2.2.2.1, (⟨BU.2.2.2.2.1, BU.2.2.2.2.2.1, BU.2.2.2.2.2.2.1⟩ : AO), (⟨BU.2.2.2.2.2.2.2.1, BU.2.2.2.2.2.2.2.2.1, BU.2.2.2.2.2.2.2.2.2.1⟩ : AO), BU.2.2.2.2.2.2.2.2.2.2.2.1, BU.2.2.2.2.2.2.2.2.2.2.1, BU.2.2.2.2.2.2.2.2.2.2.2.2⟩ : AR), 0)
      ) (fun (BU : AR × Int) =>
       some (BU.1, BU.2)
      ) BU
def FX (N : Nat) (a0 : List AU) (a1 : List AU) (rec : Int → Option (Unit ⊕ Bool)) : Int → Option (Unit ⊕ Bool)
 | v5l14 =>
  bif decide (v5l14 < (a0.length : Int)) then
   (EP a0 v5l14).bind fun (BQ : AU) =>
   (EP a1 v5l14).bind fun (iB : AU) =>
   bif !(BQ.Attr == iB.Attr && (BQ.Value == iB.Value && true)) then
    some (Sum.inr false)
   else
    rec (CE (v5l14 + (1 : Int)))
  else
   some (Sum.inl ())
def EJ (N : Nat) (a0 : List AU) (a1 : List AU) : Nat → Int → Option (Unit ⊕ Bool)
 | 0, _ => none
 | n + 1, x => FX N a0 a1 (EJ N a0 a1 n) x
def IZ (N : Nat) (a0 : List AU) (a1 : List AU) : Option (Bool) :=
 bif ((a0.length : Int) != (a1.length : Int)) then
  some false
 else
  Option.bind (EJ N a0 a1 N 0) fun (y4 : Unit ⊕ Bool) =>
  Sum.elim (fun (y4 : Unit) =>
    some true
   ) (fun (y4 : Bool) =>
    some y4
   ) y4
def J7 (N : Nat) (a0 : AR) (a1 : AR) (v5l14 : Int) (x69 : BA) (O6 : BA) (rec : Int → Option (Unit ⊕ Bool)) : Int → Option (Unit ⊕ Bool)
 | v8l36 =>
  bif decide (v8l36 < (x69.Values.length : Int)) then
   (EP x69.Values v8l36).bind fun (x107 : List UInt8) =>
   (EP O6.Values v8l36).bind fun (x112 : List UInt8) =>
   bif (!(x107 == x112)) then
    some (Sum.inr false)
   else
    rec (CE (v8l36 + (1 : Int)))
  else
   some (Sum.inl ())
def FK (N : Nat) (a0 : AR) (a1 : AR) (v5l14 : Int) (x69 : BA) (O6 : BA) : Nat → Int → Option (Unit ⊕ Bool)
 | 0, _ => none
 | n + 1, x => J7 N a0 a1 v5l14 x69 O6 (FK N a0 a1 v5l14 x69 O6 n) x
def J8 (N : Nat) (a0 : AR) (a1 : AR) (rec : Int → Option (Unit ⊕ Bool)) : Int → Option (Unit ⊕ Bool)
 | v5l14 =>
  bif decide (v5l14 < (a0.Mods.length : Int)) then
   (EP a0.Mods v5l14).bind fun (x69 : BA) =>
   (EP a1.Mods v5l14).bind fun (O6 : BA) =>
   Option.bind (
     bif (x69.Kind != O6.Kind) then
      some true
     else
      bif (!(x69.Attr == O6.Attr)) then
       some true
      else
       some ((x69.Values.length : Int) != (O6.Values.length : Int))
    ) fun (g10 : Bool) =>
   bif g10 then
    some (Sum.inr false)
   else
    Option.bind (FK N a0 a1 v5l14 x69 O6 N 0) fun (Ed : Unit ⊕ Bool) =>
    Sum.elim (fun (Ed : Unit) =>
      rec (CE (v5l14 + (1 : Int)))
     ) (fun (Ed : Bool) =>
      some (Sum.inr Ed)
     ) Ed
  else
   some (Sum.inl ())
def FL (N : Nat) (a0 : AR) (a1 : AR) : Nat → Int → Option (Unit ⊕ Bool)
 | 0, _ => none
 | n + 1, x => J8 N a0 a1 (FL N a0 a1 n) x
def NC (N : Nat) (a0 : AR) (a1 : AR) : Option (Bool) :=
 Option.bind (
   bif !(a0.CSN.Time == a1.CSN.Time && (a0.CSN.Seq == a1.CSN.Seq && (a0.CSN.Rep == a1.CSN.Rep && true))) then
    some true
   else
    bif (a0.Kind != a1.Kind) then
     some true
    else
     bif !(a0.ID.Time == a1.ID.Time && (a0.ID.Seq == a1.ID.Seq && (a0.ID.Rep == a1.ID.Rep && true))) then
      some true
     else
      bif !(a0.Parent.Time == a1.Parent.Time && (a0.Parent.Seq == a1.Parent.Seq && (a0.Parent.Rep == a1.Parent.Rep && true))) then
       some true
      else
       bif !(a0.DelOld == a1.DelOld) then
        some true
       else
        Option.bind (IZ N a0.RDN a1.RDN) fun (YK : Bool) =>
        bif !YK then
         some true
        else
         some ((a0.Mods.length : Int) != (a1.Mods.length : Int))
  ) fun (g1 : Bool) =>
 bif g1 then
  some false
 else
  Option.bind (FL N a0 a1 N 0) fun (Ec : Unit ⊕ Bool) =>
  Sum.elim (fun (Ec : Unit) =>
    some true
   ) (fun (Ec : Bool) =>
    some Ec
   ) Ec
def K9 (N : Nat) (PG : List BA) (rec : (Int × Int × Int × Int × Int × Int × Int × Int × Int × Int × Int × Bool × List AU × List BA) → Option (Int × Int × Int × Int × Int × Int × Int × Int × Int × Int × Bool × List AU × List BA)) : (Int × Int × Int × Int × Int × Int × Int × Int × Int × Int × Int × Bool × List AU × List BA) → Option (Int × Int × Int × Int × Int × Int × Int × Int × Int × Int × Bool × List AU × List BA)
 | (WQ, KP, KO, KN, KM, KL, KJ, KI, KH, KG, KF, JE, NA, FQ) =>
  bif decide (WQ < (PG.length : Int)) then
   (QS WQ FQ.length).bind fun (BQ : Nat) =>
   (FQ[BQ]?).bind fun (x20 : BA) =>
   Option.bind (SG 16 x20.Values) fun (J2 : List (List UInt8)) =>
   (QS WQ FQ.length).bind fun (x27 : Nat) =>
   (FQ[x27]?).bind fun (SK : BA) =>
   rec ((CE (WQ + (1 : Int))), KP, KO, KN, KM, KL, KJ, KI, KH, KG, KF, JE, NA, (FQ.set x27 (⟨SK.Kind, SK.Attr, J2⟩ : BA)))
  else
   some (KP, KO, KN, KM, KL, KJ, KI, KH, KG, KF, JE, NA, FQ)
def GU (N : Nat) (PG : List BA) : Nat → (Int × Int × Int × Int × Int × Int × Int × Int × Int × Int × Int × Bool × List AU × List BA) → Option (Int × Int × Int × Int × Int × Int × Int × Int × Int × Int × Bool × List AU × List BA)
 | 0, _ => none
 | n + 1, x => K9 N PG (GU N PG n) x
def NG (N : Nat) (a0 : AR) : Option (AR) :=
 Option.bind (SG 32 a0.RDN) fun (x7 : List AU) =>
 Option.bind (SG 48 a0.Mods) fun (PG : List BA) =>
 Option.bind (GU N PG N (0, a0.CSN.Time, a0.CSN.Seq, a0.CSN.Rep, a0.Kind, a0.ID.Time, a0.ID.Seq, a0.ID.Rep, a0.Parent.Time, a0.Parent.Seq, a0.Parent.Rep, a0.DelOld, x7, PG)) fun (y3 : Int × Int × Int × Int × Int × Int × Int × Int × Int × Int × Bool × List AU × List BA) =>
 some (⟨(⟨y3.1, y3.2.1, y3.2.2.1⟩ : AO), y3.2.2.2.1, (⟨y3.2.2.2.2.1, y3.2.2.2.2.2.1, y3.2.2.2.2.2.2.1⟩ : AO), (⟨y3.2.2.2.2.2.2.2.1, y3.2.2.2.2.2.2.2.2.1, y3.2.2.2.2.2.2.2.2.2.1⟩ : AO), y3.2.2.2.2.2.2.2.2.2.2.2.1, y3.2.2.2.2.2.2.2.2.2.2.1, y3.2.2.2.2.2.2.2.2.2.2.2.2⟩ : AR)
def EU (N : Nat) (a0 : List (List UInt8)) (a1 : List (List UInt8)) (rec : Int → Option (Unit ⊕ Bool)) : Int → Option (Unit ⊕ Bool)
 | v13l14 =>
  bif decide (v13l14 < (a0.length : Int)) then
   (EP a0 v13l14).bind fun (aB : List UInt8) =>
   (EP a1 v13l14).bind fun (ZK : List UInt8) =>
   bif (!(aB == ZK)) then
    some (Sum.inr false)
   else
    rec (CE (v13l14 + (1 : Int)))
  else
   some (Sum.inl ())
def CU (N : Nat) (a0 : List (List UInt8)) (a1 : List (List UInt8)) : Nat → Int → Option (Unit ⊕ Bool)
 | 0, _ => none
 | n + 1, x => EU N a0 a1 (CU N a0 a1 n) x
def FN (N : Nat) (a0 : List (List UInt8)) (a1 : List (List UInt8)) : Option (Bool) :=
 bif ((a0.length : Int) != (a1.length : Int)) then
  some false
 else
  Option.bind (CU N a0 a1 N 0) fun (y4 : Unit ⊕ Bool) =>
  Sum.elim (fun (y4 : Unit) =>
    some true
   ) (fun (y4 : Bool) =>
    some y4
   ) y4
def OU (N : Nat) (a0 : BA) (a1 : BA) : Option (Bool) :=
 Option.bind (
   bif (a0.Kind == a1.Kind) then
    bif (a0.Attr == a1.Attr) then
     Option.bind (FN N a0.Values a1.Values) fun (ZK : Bool) =>
     some ZK
    else
     some false
   else
    some false
  ) fun (g1 : Bool) =>
 some g1
def BO (N : Nat) (a0 : List BA) (a1 : List BA) (rec : Int → Option (Unit ⊕ Bool)) : Int → Option (Unit ⊕ Bool)
 | v17l14 =>
  bif decide (v17l14 < (a0.length : Int)) then
   (EP a0 v17l14).bind fun (x20 : BA) =>
   (EP a1 v17l14).bind fun (x24 : BA) =>
   Option.bind (OU N x20 x24) fun (x29 : Bool) =>
   bif !x29 then
    some (Sum.inr false)
   else
    rec (CE (v17l14 + (1 : Int)))
  else
   some (Sum.inl ())
def BB (N : Nat) (a0 : List BA) (a1 : List BA) : Nat → Int → Option (Unit ⊕ Bool)
 | 0, _ => none
 | n + 1, x => BO N a0 a1 (BB N a0 a1 n) x
def BR (N : Nat) (a0 : List BA) (a1 : List BA) : Option (Bool) :=
 bif ((a0.length : Int) != (a1.length : Int)) then
  some false
 else
  Option.bind (BB N a0 a1 N 0) fun (y4 : Unit ⊕ Bool) =>
  Sum.elim (fun (y4 : Unit) =>
    some true
   ) (fun (y4 : Bool) =>
    some y4
   ) y4
def EQ (N : Nat) (a0 : List AU) (a1 : List AU) (rec : Int → Option (Unit ⊕ Bool)) : Int → Option (Unit ⊕ Bool)
 | v13l14 =>
  bif decide (v13l14 < (a0.length : Int)) then
   (EP a0 v13l14).bind fun (aB : AU) =>
   (EP a1 v13l14).bind fun (ZK : AU) =>
   bif !(aB.Attr == ZK.Attr && (aB.Value == ZK.Value && true)) then
    some (Sum.inr false)
   else
    rec (CE (v13l14 + (1 : Int)))
  else
   some (Sum.inl ())
def CP (N : Nat) (a0 : List AU) (a1 : List AU) : Nat → Int → Option (Unit ⊕ Bool)
 | 0, _ => none
 | n + 1, x => EQ N a0 a1 (CP N a0 a1 n) x
def FD (N : Nat) (a0 : List AU) (a1 : List AU) : Option (Bool) :=
 bif ((a0.length : Int) != (a1.length : Int)) then
  some false
 else
  Option.bind (CP N a0 a1 N 0) fun (y4 : Unit ⊕ Bool) =>
  Sum.elim (fun (y4 : Unit) =>
    some true
   ) (fun (y4 : Bool) =>
    some y4
   ) y4
def P9 (N : Nat) (a0 : AR) (a1 : AR) : Option (Bool) :=
 Option.bind (BR N a0.Mods a1.Mods) fun (PI : Bool) =>
 Option.bind (
   bif (a0.CSN.Time == a1.CSN.Time && (a0.CSN.Seq == a1.CSN.Seq && (a0.CSN.Rep == a1.CSN.Rep && true))) then
    bif (a0.Kind == a1.Kind) then
     bif (a0.ID.Time == a1.ID.Time && (a0.ID.Seq == a1.ID.Seq && (a0.ID.Rep == a1.ID.Rep && true))) then
      bif (a0.Parent.Time == a1.Parent.Time && (a0.Parent.Seq == a1.Parent.Seq && (a0.Parent.Rep == a1.Parent.Rep && true))) then
       Option.bind (FD N a0.RDN a1.RDN) fun (uG : Bool) =>
       bif uG then
        bif (a0.DelOld == a1.DelOld) then
         some PI
        else
         some false
       else
        some false
      else
       some false
     else
      some false
    else
     some false
   else
    some false
  ) fun (g1 : Bool) =>
 some g1
def MM (N : Nat)  : Option (Bool) :=
 Option.bind (JO N (⟨(⟨2, 0, 0⟩ : AO), 2, (⟨1, 0, 0⟩ : AO), (⟨0, 0, 0⟩ : AO), [], false, []⟩ : AR)) fun (W9 : List UInt8 × Int) =>
 Option.bind (VE N W9.1) fun (x20 : AR × Int) =>
 Option.bind (JO N (⟨(⟨0, 0, 0⟩ : AO), 0, (⟨0, 0, 0⟩ : AO), (⟨0, 0, 0⟩ : AO), [], false, []⟩ : AR)) fun (x25 : List UInt8 × Int) =>
 Option.bind (VE N ([] : List UInt8)) fun (x29 : AR × Int) =>
 Option.bind (
   bif (W9.2 == (0 : Int)) then
    bif (x20.2 == (0 : Int)) then
     Option.bind (NC N (⟨(⟨2, 0, 0⟩ : AO), 2, (⟨1, 0, 0⟩ : AO), (⟨0, 0, 0⟩ : AO), [], false, []⟩ : AR) x20.1) fun (x41 : Bool) =>
     bif x41 then
      bif (x25.2 == (14 : Int)) then
       bif (x29.2 == (14 : Int)) then
        Option.bind (NF N (⟨(⟨2, 0, 0⟩ : AO), 2, (⟨1, 0, 0⟩ : AO), (⟨0, 0, 0⟩ : AO), [], false, []⟩ : AR)) fun (x53 : Bool) =>
        bif x53 then
         Option.bind (NF N (⟨(⟨0, 0, 0⟩ : AO), 0, (⟨0, 0, 0⟩ : AO), (⟨0, 0, 0⟩ : AO), [], false, []⟩ : AR)) fun (x57 : Bool) =>
         bif !x57 then
          Option.bind (NG N (⟨(⟨2, 0, 0⟩ : AO), 2, (⟨1, 0, 0⟩ : AO), (⟨0, 0, 0⟩ : AO), [], false, []⟩ : AR)) fun (x63 : AR) =>
          Option.bind (P9 N (⟨(⟨2, 0, 0⟩ : AO), 2, (⟨1, 0, 0⟩ : AO), (⟨0, 0, 0⟩ : AO), [], false, []⟩ : AR) x63) fun (x64 : Bool) =>
          some x64
         else
          some false
        else
         some false
       else
        some false
      else
       some false
     else
      some false
    else
     some false
   else
    some false
  ) fun (g1 : Bool) =>
 some g1
def FP (N : Nat) (a0 : List BA) (v3l6 : Int) (rec : Int → Option (Unit ⊕ Bool)) : Int → Option (Unit ⊕ Bool)
 | v4l26 =>
  (EP a0 v3l6).bind fun (x30 : BA) =>
  bif decide (v4l26 < (x30.Values.length : Int)) then
   (EP a0 v3l6).bind fun (x39 : BA) =>
   (EP x39.Values v4l26).bind fun (x43 : List UInt8) =>
   bif decide ((x43.length : Int) > (80 : Int)) then
    some (Sum.inr false)
   else
    rec (CE (v4l26 + (1 : Int)))
  else
   some (Sum.inl ())
def EE (N : Nat) (a0 : List BA) (v3l6 : Int) : Nat → Int → Option (Unit ⊕ Bool)
 | 0, _ => none
 | n + 1, x => FP N a0 v3l6 (EE N a0 v3l6 n) x
def FY (N : Nat) (a0 : List BA) (rec : Int → Option (Unit ⊕ Bool)) : Int → Option (Unit ⊕ Bool)
 | v3l6 =>
  bif decide (v3l6 < (a0.length : Int)) then
   Option.bind (
     (EP a0 v3l6).bind fun (K5 : BA) =>
     bif decide ((K5.Attr.length : Int) > (30 : Int)) then
      some true
     else
      (EP a0 v3l6).bind fun (XF : BA) =>
      some (decide ((XF.Values.length : Int) > (20 : Int)))
    ) fun (g2 : Bool) =>
   bif g2 then
    some (Sum.inr false)
   else
    Option.bind (EE N a0 v3l6 N 0) fun (y7 : Unit ⊕ Bool) =>
    Sum.elim (fun (y7 : Unit) =>
      rec (CE (v3l6 + (1 : Int)))
     ) (fun (y7 : Bool) =>
      some (Sum.inr y7)
     ) y7
  else
   some (Sum.inl ())
def EK (N : Nat) (a0 : List BA) : Nat → Int → Option (Unit ⊕ Bool)
 | 0, _ => none
 | n + 1, x => FY N a0 (EK N a0 n) x
def KR (N : Nat) (a0 : List BA) : Option (Bool) :=
 Option.bind (EK N a0 N 0) fun (y8 : Unit ⊕ Bool) =>
 Sum.elim (fun (y8 : Unit) =>
   some (decide ((a0.length : Int) ≤ (14 : Int)))
  ) (fun (y8 : Bool) =>
   some y8
  ) y8
def GD (N : Nat) (a0 : List AU) (rec : Int → Option (Unit ⊕ Bool)) : Int → Option (Unit ⊕ Bool)
 | v3l6 =>
  bif decide (v3l6 < (a0.length : Int)) then
   Option.bind (
     (EP a0 v3l6).bind fun (LF : AU) =>
     bif decide ((LF.Attr.length : Int) > (30 : Int)) then
      some true
     else
      (EP a0 v3l6).bind fun (x20 : AU) =>
      some (decide ((x20.Value.length : Int) > (80 : Int)))
    ) fun (g2 : Bool) =>
   bif g2 then
    some (Sum.inr false)
   else
    rec (CE (v3l6 + (1 : Int)))
  else
   some (Sum.inl ())
def ER (N : Nat) (a0 : List AU) : Nat → Int → Option (Unit ⊕ Bool)
 | 0, _ => none
 | n + 1, x => GD N a0 (ER N a0 n) x
def LK (N : Nat) (a0 : List AU) : Option (Bool) :=
 Option.bind (ER N a0 N 0) fun (y5 : Unit ⊕ Bool) =>
 Sum.elim (fun (y5 : Unit) =>
   some (decide ((a0.length : Int) ≤ (6 : Int)))
  ) (fun (y5 : Bool) =>
   some y5
  ) y5
def J4 (N : Nat) (a0 : AR) : Option (Bool) :=
 Option.bind (
   Option.bind (KR N a0.Mods) fun (x5 : Bool) =>
   bif x5 then
    Option.bind (LK N a0.RDN) fun (x9 : Bool) =>
    some x9
   else
    some false
  ) fun (g1 : Bool) =>
 some g1
def BS (a0 : AR) (N : Nat) (ML : Int) (MK : Int) (MJ : Int) (MI : Int) (MH : Int) (MG : Int) (MF : Int) (ME : Int) (MC : Int) (MB : Int) (KE : Bool) (IW : List AU) (IV : List BA) : Option (Bool) :=
 Option.bind (JO N (⟨(⟨ML, MK, MJ⟩ : AO), MI, (⟨MH, MG, MF⟩ : AO), (⟨ME, MC, MB⟩ : AO), IW, KE, IV⟩ : AR)) fun (x63 : List UInt8 × Int) =>
 Option.bind (
   Option.bind (NF N (⟨(⟨ML, MK, MJ⟩ : AO), MI, (⟨MH, MG, MF⟩ : AO), (⟨ME, MC, MB⟩ : AO), IW, KE, IV⟩ : AR)) fun (x67 : Bool) =>
   bif !x67 then
    bif (x63.2 == (14 : Int)) then
     Option.bind (P9 N a0 (⟨(⟨ML, MK, MJ⟩ : AO), MI, (⟨MH, MG, MF⟩ : AO), (⟨ME, MC, MB⟩ : AO), IW, KE, IV⟩ : AR)) fun (x76 : Bool) =>
     some (!x76)
    else
     some false
   else
    some false
  ) fun (g5 : Bool) =>
 some g5
def IG (N : Nat) (a0 : AR) (a1 : UInt8) : Option (Bool) :=
 Option.bind (MM N) fun (x8 : Bool) =>
 bif !x8 then
  some false
 else
  Option.bind (
    Option.bind (J4 N a0) fun (PG : Bool) =>
    bif !PG then
     some true
    else
     Option.bind (NF N a0) fun (W9 : Bool) =>
     some (!W9)
   ) fun (g2 : Bool) =>
  bif g2 then
   some true
  else
   Option.bind (NG N a0) fun (BQ : AR) =>
   bif ((((a1 % (7 : UInt8))).toNat : Int) == (0 : Int)) then
    BS a0 N BQ.CSN.Time BQ.CSN.Seq BQ.CSN.Rep 0 BQ.ID.Time BQ.ID.Seq BQ.ID.Rep BQ.Parent.Time BQ.Parent.Seq BQ.Parent.Rep BQ.DelOld BQ.RDN BQ.Mods
   else
    bif ((((a1 % (7 : UInt8))).toNat : Int) == (1 : Int)) then
     BS a0 N BQ.CSN.Time BQ.CSN.Seq 6 BQ.Kind BQ.ID.Time BQ.ID.Seq BQ.ID.Rep BQ.Parent.Time BQ.Parent.Seq BQ.Parent.Rep BQ.DelOld BQ.RDN BQ.Mods
    else
     bif ((((a1 % (7 : UInt8))).toNat : Int) == (2 : Int)) then
      BS a0 N (-1) BQ.CSN.Seq BQ.CSN.Rep BQ.Kind BQ.ID.Time BQ.ID.Seq BQ.ID.Rep BQ.Parent.Time BQ.Parent.Seq BQ.Parent.Rep BQ.DelOld BQ.RDN BQ.Mods
     else
      bif ((((a1 % (7 : UInt8))).toNat : Int) == (3 : Int)) then
       (PO 48 BQ.Mods [(⟨1, ([110, 111, 115, 117, 99, 104] : List UInt8), [([120] : List UInt8)]⟩ : BA)]).bind fun (uG : List BA) =>
       BS a0 N BQ.CSN.Time BQ.CSN.Seq BQ.CSN.Rep BQ.Kind BQ.ID.Time BQ.ID.Seq BQ.ID.Rep BQ.Parent.Time BQ.Parent.Seq BQ.Parent.Rep BQ.DelOld BQ.RDN uG
      else
       bif ((((a1 % (7 : UInt8))).toNat : Int) == (4 : Int)) then
        (PO 48 BQ.Mods [(⟨1, ([101, 110, 116, 114, 121, 105, 100] : List UInt8), [([120] : List UInt8)]⟩ : BA)]).bind fun (Gc : List BA) =>
        BS a0 N BQ.CSN.Time BQ.CSN.Seq BQ.CSN.Rep BQ.Kind BQ.ID.Time BQ.ID.Seq BQ.ID.Rep BQ.Parent.Time BQ.Parent.Seq BQ.Parent.Rep BQ.DelOld BQ.RDN Gc
       else
        bif ((((a1 % (7 : UInt8))).toNat : Int) == (5 : Int)) then
         (PO 32 BQ.RDN [(⟨([101, 110, 116, 114, 121, 105, 100] : List UInt8), ([120] : List UInt8)⟩ : AU)]).bind fun (uO : List AU) =>
         BS a0 N BQ.CSN.Time BQ.CSN.Seq BQ.CSN.Rep BQ.Kind BQ.ID.Time BQ.ID.Seq BQ.ID.Rep BQ.Parent.Time BQ.Parent.Seq BQ.Parent.Rep BQ.DelOld uO BQ.Mods
        else
         BS a0 N BQ.CSN.Time BQ.CSN.Seq BQ.CSN.Rep BQ.Kind BQ.ID.Time BQ.ID.Seq BQ.ID.Rep BQ.Parent.Time (-1) BQ.Parent.Rep BQ.DelOld BQ.RDN BQ.Mods
end Go.Gp
end
section
namespace Go.Gp
open Go.Vd
def VZ (x : AU) : Prop := (x.Attr.length ≤ maxLen) ∧ (x.Value.length ≤ maxLen)
def VY (x : BA) : Prop := ((IntKind.i64.min ≤ x.Kind ∧ x.Kind ≤ IntKind.i64.max)) ∧ (x.Attr.length ≤ maxLen) ∧ ((x.Values.length ≤ maxLen ∧ ∀ y0 ∈ x.Values, y0.length ≤ maxLen))
def ZH (x : AO) : Prop := ((IntKind.i64.min ≤ x.Time ∧ x.Time ≤ IntKind.i64.max)) ∧ ((IntKind.i64.min ≤ x.Seq ∧ x.Seq ≤ IntKind.i64.max)) ∧ ((IntKind.i64.min ≤ x.Rep ∧ x.Rep ≤ IntKind.i64.max))
def UA (x : AR) : Prop := (ZH x.CSN) ∧ ((IntKind.i64.min ≤ x.Kind ∧ x.Kind ≤ IntKind.i64.max)) ∧ (ZH x.ID) ∧ (ZH x.Parent) ∧ ((x.RDN.length ≤ maxLen ∧ ∀ y0 ∈ x.RDN, VZ y0)) ∧ (True) ∧ ((x.Mods.length ≤ maxLen ∧ ∀ y0 ∈ x.Mods, VY y0))
end Go.Gp
end
section
namespace Go.Gp
open Go.Vd Go.Proofs
theorem mixed : Tryz.prog.follows .mixedOrders = true := by kernel_rfl
theorem var_stays {P : Program} {w w' : World} {n : String} {g : Nat} {x : Array Value} (hg : P.globalNamed n = some g) (hb : w'.heap[g]? = w.heap[g]?) (h : w.var? P n = some x) : w'.var? P n = some x := by
 unfold World.var? at h ⊢
 rw [hg, Option.bind_some] at h ⊢
 rw [hb]; exact h
theorem iG {P : Program} {w : World} {n : String} {g : Nat} {x : Array Value} (hg : P.globalNamed n = some g) (h : w.var? P n = some x) : g < w.heap.size := by
 unfold World.var? at h
 rw [hg, Option.bind_some] at h
 cases hh : w.heap[g]? with
 | none => simp [hh] at h
 | some b => exact (Array.getElem?_eq_some_iff.1 hh).1
theorem gS : Tryz.prog.globalNamed "strconv.ErrSyntax" = some 0 := by kernel_rfl
theorem gR : Tryz.prog.globalNamed "strconv.ErrRange" = some 1 := by kernel_rfl
theorem gP : Tryz.prog.globalNamed "internal/strconv.uint64pow10" = some 2 := by kernel_rfl
structure Laid (w : World) : Prop where
 tab : Lib.TabIs Tryz.prog w "internal/strconv.uint64pow10" .u64 Lib.pow10Tab
 syn : ∃ tp p, w.var? Tryz.prog "strconv.ErrSyntax" = some #[.iface tp p]
 ran : ∃ tp p, w.var? Tryz.prog "strconv.ErrRange" = some #[.iface tp p]
instance : AZ where
 B b := b = 0 ∨ b = 1 ∨ b = 2
 ok := Laid
 stable w w' h k := ⟨var_stays gP (h 2 (by simp)) k.tab, by obtain ⟨tp, p, k⟩ := k.syn; exact ⟨tp, p, var_stays gS (h 0 (by simp)) k⟩, by obtain ⟨tp, p, k⟩ := k.ran; exact ⟨tp, p, var_stays gR (h 1 (by simp)) k⟩⟩
 low w b k hb := by
  obtain ⟨k1, ⟨_, _, k2⟩, ⟨_, _, k3⟩⟩ := k
  rcases hb with rfl | rfl | rfl
  ·exact iG gS k2
  ·exact iG gR k3
  ·exact iG gP k1
end Go.Gp
end
section
namespace Go.Gp
open Go.Vd Go.Proofs Go.Proofs.YtlopcglohpfonaaGreatDoor
set_option maxRecDepth 100000
theorem star : "*" ++ "errors.errorString" = "*errors.errorString" := by decide
theorem vN (u : TypeId) (h : Tryz.prog.typeName? 3 u = some "*errors.errorString") : u = 178 :=
 typeName_ptr_named (nm := "errors.errorString") (by rw [star]; kernel_rfl) (by kernel_rfl) (by decide) u (by rw [star]; exact h)
theorem gSt : (Tryz.prog.globals[0]?).map (·.type) = some 104 := by kernel_rfl
theorem gRt : (Tryz.prog.globals[1]?).map (·.type) = some 104 := by kernel_rfl
theorem gPt : (Tryz.prog.globals[2]?).map (·.type) = some 168 := by kernel_rfl
theorem c180 : Tryz.prog.cellsOf 180 = 1 := by kernel_rfl
theorem c9 : Tryz.prog.cellsOf 9 = 1 := by kernel_rfl
theorem c137 : Tryz.prog.cellsOf 137 = 1 := by kernel_rfl
theorem c168 : Tryz.prog.cellsOf 168 = 20 := by kernel_rfl
theorem rowsP : (Rows.changeTellsRow.laid.all fun x => x.2.handleName?.isNone) = true := by kernel_rfl
theorem Df (W : World) (hL : laidMetH Tryz.prog Rows.changeTellsRow.laid W) : AZ.ok W := by
 rw [MakeChecks.laidMetH_plain _ _ _ rowsP] at hL
 refine (show Laid W from ⟨?_, ?_, ?_⟩)
 ·exact Lib.tabIs_of_head gP gPt Tryz.underlying168 Tryz.underlying137 c137 c168 hL.tail.tail
 ·obtain ⟨a0, s0, hv0, -, -, -⟩ := laid_sentinel hL.tail.tail.tail.tail.tail gS gSt Tryz.underlying104 vN Tryz.underlying178 Tryz.underlying180 rfl rfl Tryz.underlying9 c180 c9
  exact ⟨_, _, hv0⟩
 ·obtain ⟨a0, s0, hv0, -, -, -⟩ := laid_sentinel hL.tail.tail.tail.tail gR gRt Tryz.underlying104 vN Tryz.underlying178 Tryz.underlying180 rfl rfl Tryz.underlying9 c180 c9
  exact ⟨_, _, hv0⟩
end Go.Gp
end
