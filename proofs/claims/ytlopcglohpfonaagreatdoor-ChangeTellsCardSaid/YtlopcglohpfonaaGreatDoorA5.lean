/- A part of the proof: functions of the program and what they compute. -/
import Derived.Test.YtlopcglohpfonaaGreatDoorA4
section
set_option linter.unusedVariables false
namespace Go.Gp
open Go.Vd
structure AR where
 Time : Int
 Seq : Int
 Rep : Int
deriving DecidableEq
def F7 (x : AR) : PV := .agg [.int .i64 x.Time, .int .i64 x.Seq, .int .i64 x.Rep]
structure AP where
 Attr : List UInt8
 Value : List UInt8
deriving DecidableEq
def AV (x : AP) : PV := .agg [.str x.Attr, .str x.Value]
structure BC where
 Kind : Int
 Attr : List UInt8
 Values : List (List UInt8)
deriving DecidableEq
def AU (x : BC) : PV := .agg [.int .i64 x.Kind, .str x.Attr, .sl 1 (List.map PV.str x.Values)]
structure AX where
 CSN : AR
 Kind : Int
 ID : AR
 Parent : AR
 RDN : List AP
 DelOld : Bool
 Mods : List BC
deriving DecidableEq
def AQ (x : AX) : PV := .agg [.int .i64 x.CSN.Time, .int .i64 x.CSN.Seq, .int .i64 x.CSN.Rep, .int .i64 x.Kind, .int .i64 x.ID.Time, .int .i64 x.ID.Seq, .int .i64 x.ID.Rep, .int .i64 x.Parent.Time, .int .i64 x.Parent.Seq, .int .i64 x.Parent.Rep, .sl 2 (List.map AV x.RDN), .bool x.DelOld, .sl 3 (List.map AU x.Mods)]
structure BB where
 Name : List UInt8
 Syntax : Int
 Single : Bool
deriving DecidableEq
def CJ (x : BB) : PV := .agg [.str x.Name, .int .i64 x.Syntax, .bool x.Single]
structure A8 where
 Tag : UInt8
 Body : List UInt8
 Kids : List PV
def AA (x : A8) : PV := .agg [eb x.Tag, .str x.Body, .sl 3 x.Kids]
def CU : PV → Option A8
 | .agg [.int .u8 n0, .str n1, .sl 3 n2] => if n0 = ((UInt8.ofNat n0.toNat).toNat : Int) then some ⟨UInt8.ofNat n0.toNat, n1, n2⟩ else none
 | _ => none
theorem CL {p : PV} {x : A8} (h : CU p = some x) : p = AA x := by
 unfold CU at h
 split at h
 ·split at h
  ·rename_i hn
   cases h
   unfold AA eb
   simp only
   rw [← hn]
  ·cases h
 ·cases h
theorem XQ (x : A8) : CU (AA x) = some x := by
 unfold CU AA eb
 simp
structure BH where
 s : List UInt8
 at_ : Int
deriving DecidableEq
def BI (x : BH) : PV := .agg [.str x.s, .int .i64 x.at_]
def bD (N : Nat) (a0 : AR) : Option (Bool) :=
 Option.bind (
   bif decide (a0.Time ≥ (0 : Int)) then
    bif decide (a0.Time ≤ (1099511627776 : Int)) then
     bif decide (a0.Seq ≥ (0 : Int)) then
      bif decide (a0.Seq ≤ (65535 : Int)) then
       bif decide (a0.Rep ≥ (0 : Int)) then
        some (decide (a0.Rep < (6 : Int)))
       else
        some false
      else
       some false
     else
      some false
    else
     some false
   else
    some false
  ) fun (g1 : Bool) =>
 some g1
def U5 (N : Nat) (a0 : AR) : Option (Bool) :=
 some (a0.Time == (0 : Int) && (a0.Seq == (0 : Int) && (a0.Rep == (0 : Int) && true)))
def OL (N : Nat) (a0 : Int) : Option (Bool) :=
 some (a0 != a0)
def MZ (N : Nat) (a0 : Int) (a1 : Int) : Option (Int) :=
 Option.bind (OL N a0) fun (x8 : Bool) =>
 Option.bind (OL N a1) fun (R9 : Bool) =>
 bif x8 then
  bif R9 then
   some 0
  else
   some (-1)
 else
  bif R9 then
   some 1
  else
   bif decide (a0 < a1) then
    some (-1)
   else
    bif decide (a0 > a1) then
     some 1
    else
     some 0
def cmp_isNaN_int (N : Nat) (a0 : Int) : Option (Bool) :=
 some (a0 != a0)
def cmp_Compare_int (N : Nat) (a0 : Int) (a1 : Int) : Option (Int) :=
 Option.bind (cmp_isNaN_int N a0) fun (x8 : Bool) =>
 Option.bind (cmp_isNaN_int N a1) fun (R9 : Bool) =>
 bif x8 then
  bif R9 then
   some 0
  else
   some (-1)
 else
  bif R9 then
   some 1
  else
   bif decide (a0 < a1) then
    some (-1)
   else
    bif decide (a0 > a1) then
     some 1
    else
     some 0
def SG (N : Nat) (a0 : List Int) (rec : Int → Option (Unit ⊕ Int)) : Int → Option (Unit ⊕ Int)
 | v8l8 =>
  bif decide (v8l8 < (a0.length : Int)) then
   Option.bind (CQ a0 v8l8) fun (R9 : Int) =>
   bif (R9 != (0 : Int)) then
    some (Sum.inr R9)
   else
    rec (BQ (v8l8 + (1 : Int)))
  else
   some (Sum.inl ())
def OG (N : Nat) (a0 : List Int) : Nat → Int → Option (Unit ⊕ Int)
 | 0, _ => none
 | n + 1, x => SG N a0 (OG N a0 n) x
def XD (N : Nat) (a0 : List Int) : Option (Int) :=
 Option.bind (OG N a0 N 0) fun (y3 : Unit ⊕ Int) =>
 Sum.elim (fun (y3 : Unit) =>
   some 0
  ) (fun (y3 : Int) =>
   some y3
  ) y3
def iD (N : Nat) (a0 : AR) (a1 : AR) : Option (Int) :=
 Option.bind (MZ N a0.Time a1.Time) fun (x9 : Int) =>
 Option.bind (cmp_Compare_int N a0.Seq a1.Seq) fun (OB : Int) =>
 Option.bind (cmp_Compare_int N a0.Rep a1.Rep) fun (PR : Int) =>
 Option.bind (XD N [x9, OB, PR]) fun (V3 : Int) =>
 some V3
def NP (N : Nat) (a0 : AR) (c0 : AX) : Option (Bool) :=
 Option.bind (iD N a0 (⟨c0.CSN.Time, c0.CSN.Seq, c0.CSN.Rep⟩ : AR)) fun (x7 : Int) =>
 some (decide (x7 < (0 : Int)))
def RF (v25l14 : Int) (rec : Int → Option (Unit ⊕ Bool))  : Option (Unit ⊕ Bool) :=
 rec (BQ (v25l14 + (1 : Int)))
def RD (v25l14 : Int) (rec : Int → Option (Unit ⊕ Bool)) (Ci : Bool) : Option (Unit ⊕ Bool) :=
 bif Ci then
  RF v25l14 rec
 else
  some (Sum.inr false)
def OJ (N : Nat) (a0 : List UInt8) (rec : Int → Option (Unit ⊕ Bool)) : Int → Option (Unit ⊕ Bool)
 | v25l14 =>
  bif decide (v25l14 < (a0.length : Int)) then
   Option.bind (R4 v25l14 a0.length) fun (x27 : Nat) =>
   Option.bind (a0[x27]?) fun (x28 : UInt8) =>
   Option.bind (
     bif decide (((x28).toNat : Int) ≥ (97 : Int)) then
      some (decide (((x28).toNat : Int) ≤ (122 : Int)))
     else
      some false
    ) fun (g7 : Bool) =>
   bif g7 then
    RF v25l14 rec
   else
    Option.bind (
      bif decide (((x28).toNat : Int) ≥ (48 : Int)) then
       some (decide (((x28).toNat : Int) ≤ (57 : Int)))
      else
       some false
     ) fun (g11 : Bool) =>
    bif g11 then
     RD v25l14 rec g11
    else
     RD v25l14 rec (((x28).toNat : Int) == (45 : Int))
  else
   some (Sum.inl ())
def KV (N : Nat) (a0 : List UInt8) : Nat → Int → Option (Unit ⊕ Bool)
 | 0, _ => none
 | n + 1, x => OJ N a0 (KV N a0 n) x
def ZB (N : Nat) (a0 : List UInt8) : Option (Bool) :=
 Option.bind (
   bif (a0 == ([] : List UInt8)) then
    some true
   else
    bif decide ((a0.length : Int) > (16 : Int)) then
     some true
    else
     Option.bind (CQ a0 (0 : Int)) fun (OB : UInt8) =>
     bif decide (((OB).toNat : Int) < (97 : Int)) then
      some true
     else
      Option.bind (CQ a0 (0 : Int)) fun (PR : UInt8) =>
      some (decide (((PR).toNat : Int) > (122 : Int)))
  ) fun (g1 : Bool) =>
 bif g1 then
  some false
 else
  Option.bind (KV N a0 N 0) fun (dU : Unit ⊕ Bool) =>
  Sum.elim (fun (dU : Unit) =>
    some true
   ) (fun (dU : Bool) =>
    some dU
   ) dU
def bA (N : Nat) (a0 : AP) (c0 : AP) : Option (Bool) :=
 some (a0.Attr == c0.Attr)
def CX (N : Nat) (a0 : List AP) (JB : AP) (rec : Int → Option (Unit ⊕ Int)) : Int → Option (Unit ⊕ Int)
 | v8l6 =>
  bif decide (v8l6 < (a0.length : Int)) then
   Option.bind (CQ a0 v8l6) fun (OB : AP) =>
   Option.bind (bA N OB JB) fun (Y4 : Bool) =>
   bif Y4 then
    some (Sum.inr v8l6)
   else
    rec (BQ (v8l6 + (1 : Int)))
  else
   some (Sum.inl ())
def BP (N : Nat) (a0 : List AP) (JB : AP) : Nat → Int → Option (Unit ⊕ Int)
 | 0, _ => none
 | n + 1, x => CX N a0 JB (BP N a0 JB n) x
def EX (N : Nat) (a0 : List AP) (JB : AP) : Option (Int) :=
 Option.bind (BP N a0 JB N 0) fun (y3 : Unit ⊕ Int) =>
 Sum.elim (fun (y3 : Unit) =>
   some (-1)
  ) (fun (y3 : Int) =>
   some y3
  ) y3
def D5 (N : Nat) (a0 : List AP) (JB : AP) : Option (Bool) :=
 Option.bind (EX N a0 JB) fun (x7 : Int) =>
 some (decide (x7 ≥ (0 : Int)))
def RG (N : Nat) (a0 : List AP) (rec : Int → Option (Unit ⊕ Bool)) : Int → Option (Unit ⊕ Bool)
 | v7l6 =>
  bif decide (v7l6 < (a0.length : Int)) then
   Option.bind (CQ a0 v7l6) fun (R9 : AP) =>
   Option.bind (
     bif decide (v7l6 ≥ (4 : Int)) then
      some true
     else
      Option.bind (ZB N R9.Attr) fun (EC : Bool) =>
      bif !EC then
       some true
      else
       bif (R9.Value == ([] : List UInt8)) then
        some true
       else
        some (decide ((R9.Value.length : Int) > (60 : Int)))
    ) fun (g2 : Bool) =>
   bif g2 then
    some (Sum.inr false)
   else
    Option.bind (TN a0 v7l6) fun (Kj : List AP) =>
    Option.bind (D5 N Kj (⟨R9.Attr, R9.Value⟩ : AP)) fun (LD : Bool) =>
    bif LD then
     some (Sum.inr false)
    else
     rec (BQ (v7l6 + (1 : Int)))
  else
   some (Sum.inl ())
def NN (N : Nat) (a0 : List AP) : Nat → Int → Option (Unit ⊕ Bool)
 | 0, _ => none
 | n + 1, x => RG N a0 (NN N a0 n) x
def YO (N : Nat) (a0 : List AP) : Option (Bool) :=
 Option.bind (NN N a0 N 0) fun (y8 : Unit ⊕ Bool) =>
 Sum.elim (fun (y8 : Unit) =>
   some (decide ((a0.length : Int) > (0 : Int)))
  ) (fun (y8 : Bool) =>
   some y8
  ) y8
def TA (v10l8 : Int) (rec : (Int × List UInt8) → Option (List UInt8)) (aT : List UInt8) : Option (List UInt8) :=
 rec ((BQ (v10l8 + (1 : Int))), aT)
def RB (N : Nat) (a0 : List UInt8) (rec : (Int × List UInt8) → Option (List UInt8)) : (Int × List UInt8) → Option (List UInt8)
 | (v10l8, G5) =>
  bif decide (v10l8 < (a0.length : Int)) then
   Option.bind (R4 v10l8 G5.length) fun (MF : Nat) =>
   Option.bind (G5[MF]?) fun (OB : UInt8) =>
   Option.bind (
     bif decide (((OB).toNat : Int) ≥ (65 : Int)) then
      some (decide (((OB).toNat : Int) ≤ (90 : Int)))
     else
      some false
    ) fun (g2 : Bool) =>
   bif g2 then
    Option.bind (R4 v10l8 G5.length) fun (x25 : Nat) =>
    Option.bind (G5[x25]?) fun (pQ : UInt8) =>
    TA v10l8 rec (G5.set x25 (OB + (32 : UInt8)))
   else
    TA v10l8 rec G5
  else
   some G5
def LH (N : Nat) (a0 : List UInt8) : Nat → (Int × List UInt8) → Option (List UInt8)
 | 0, _ => none
 | n + 1, x => RB N a0 (LH N a0 n) x
def WJ (N : Nat) (a0 : List UInt8) : Option (List UInt8) :=
 Option.bind (LH N a0 N (0, a0)) fun (y6 : List UInt8) =>
 some y6
def X0 (N : Nat)  : Option (List BB) :=
 some [(⟨([97, 99, 105] : List UInt8), 2, false⟩ : BB), (⟨([99] : List UInt8), 1, true⟩ : BB), (⟨([99, 110] : List UInt8), 1, false⟩ : BB), (⟨([100, 99] : List UInt8), 1, false⟩ : BB), (⟨([100, 101, 115, 99, 114, 105, 112, 116, 105, 111, 110] : List UInt8), 1, false⟩ : BB), (⟨([101, 110, 116, 114, 121, 105, 100] : List UInt8), 2, true⟩ : BB), (⟨([109, 97, 105, 108] : List UInt8), 2, false⟩ : BB), (⟨([109, 101, 109, 98, 101, 114] : List UInt8), 5, false⟩ : BB), (⟨([111] : List UInt8), 1, false⟩ : BB), (⟨([111, 117] : List UInt8), 1, false⟩ : BB), (⟨([115, 110] : List UInt8), 1, false⟩ : BB), (⟨([116, 105, 116, 108, 101] : List UInt8), 1, true⟩ : BB), (⟨([117, 105, 100] : List UInt8), 1, false⟩ : BB), (⟨([117, 105, 100, 110, 117, 109, 98, 101, 114] : List UInt8), 3, true⟩ : BB), (⟨([117, 115, 101, 114, 112, 97, 115, 115, 119, 111, 114, 100] : List UInt8), 4, false⟩ : BB)]
def NV (N : Nat) (x7 : List UInt8) (x8 : List BB) (rec : Int → Option (Unit ⊕ (BB × Bool))) : Int → Option (Unit ⊕ (BB × Bool))
 | v10l8 =>
  bif decide (v10l8 < (x8.length : Int)) then
   Option.bind (CQ x8 v10l8) fun (IP : BB) =>
   bif (IP.Name == x7) then
    some (Sum.inr (IP, true))
   else
    rec (BQ (v10l8 + (1 : Int)))
  else
   some (Sum.inl ())
def JO (N : Nat) (x7 : List UInt8) (x8 : List BB) : Nat → Int → Option (Unit ⊕ (BB × Bool))
 | 0, _ => none
 | n + 1, x => NV N x7 x8 (JO N x7 x8 n) x
def RO (N : Nat) (a0 : List UInt8) : Option (BB × Bool) :=
 Option.bind (WJ N a0) fun (x7 : List UInt8) =>
 Option.bind (X0 N) fun (x8 : List BB) =>
 Option.bind (JO N x7 x8 N 0) fun (y3 : Unit ⊕ (BB × Bool)) =>
 Sum.elim (fun (y3 : Unit) =>
   some ((⟨([] : List UInt8), 0, false⟩ : BB), false)
  ) (fun (y3 : BB × Bool) =>
   some (y3.1, y3.2)
  ) y3
def JN (N : Nat) (a1 : UInt8) (rec : List UInt8 → Option (List UInt8)) : List UInt8 → Option (List UInt8)
 | v0l4 =>
  Option.bind (
    bif decide ((v0l4.length : Int) > (0 : Int)) then
     Option.bind (CQ v0l4 (BQ ((v0l4.length : Int) - (1 : Int)))) fun (MF : UInt8) =>
     some (((MF).toNat : Int) == ((a1).toNat : Int))
    else
     some false
   ) fun (g1 : Bool) =>
  bif g1 then
   Option.bind (TN v0l4 (BQ ((v0l4.length : Int) - (1 : Int)))) fun (V3 : List UInt8) =>
   rec V3
  else
   some v0l4
def FI (N : Nat) (a1 : UInt8) : Nat → List UInt8 → Option (List UInt8)
 | 0, _ => none
 | n + 1, x => JN N a1 (FI N a1 n) x
def strings_trimRightByte (N : Nat) (a0 : List UInt8) (a1 : UInt8) : Option (List UInt8) :=
 Option.bind (FI N a1 N a0) fun (y4 : List UInt8) =>
 some y4
def K8 (N : Nat) (a1 : UInt8) (rec : List UInt8 → Option (List UInt8)) : List UInt8 → Option (List UInt8)
 | v0l4 =>
  Option.bind (
    bif decide ((v0l4.length : Int) > (0 : Int)) then
     Option.bind (CQ v0l4 (0 : Int)) fun (R9 : UInt8) =>
     some (((R9).toNat : Int) == ((a1).toNat : Int))
    else
     some false
   ) fun (g1 : Bool) =>
  bif g1 then
   Option.bind (U0 v0l4 (1 : Int)) fun (N7 : List UInt8) =>
   rec N7
  else
   some v0l4
def FT (N : Nat) (a1 : UInt8) : Nat → List UInt8 → Option (List UInt8)
 | 0, _ => none
 | n + 1, x => K8 N a1 (FT N a1 n) x
def strings_trimLeftByte (N : Nat) (a0 : List UInt8) (a1 : UInt8) : Option (List UInt8) :=
 Option.bind (FT N a1 N a0) fun (y4 : List UInt8) =>
 some y4
def SQ (N : Nat) (a0 : List UInt8) (a1 : List UInt8) : Option (List UInt8) :=
 Option.bind (
   bif (a0 == ([] : List UInt8)) then
    some true
   else
    some (a1 == ([] : List UInt8))
  ) fun (g1 : Bool) =>
 bif g1 then
  some a0
 else
  Option.bind (
    bif ((a1.length : Int) == (1 : Int)) then
     Option.bind (CQ a1 (0 : Int)) fun (PR : UInt8) =>
     some (decide (((PR).toNat : Int) < (128 : Int)))
    else
     some false
   ) fun (g4 : Bool) =>
  bif g4 then
   Option.bind (CQ a1 (0 : Int)) fun (x24 : UInt8) =>
   Option.bind (strings_trimRightByte N a0 x24) fun (x25 : List UInt8) =>
   Option.bind (CQ a1 (0 : Int)) fun (x27 : UInt8) =>
   Option.bind (strings_trimLeftByte N x25 x27) fun (x28 : List UInt8) =>
   some x28
  else
   none
def MS (N : Nat) (a0 : List UInt8) (rec : Int → Option (Unit ⊕ Bool)) : Int → Option (Unit ⊕ Bool)
 | v8l6 =>
  bif decide (v8l6 < (a0.length : Int)) then
   Option.bind (R4 v8l6 a0.length) fun (R9 : Nat) =>
   Option.bind (a0[R9]?) fun (KW : UInt8) =>
   Option.bind (
     bif decide (((KW).toNat : Int) < (32 : Int)) then
      some true
     else
      some (decide (((KW).toNat : Int) > (126 : Int)))
    ) fun (g2 : Bool) =>
   bif g2 then
    some (Sum.inr false)
   else
    rec (BQ (v8l6 + (1 : Int)))
  else
   some (Sum.inl ())
def J6 (N : Nat) (a0 : List UInt8) : Nat → Int → Option (Unit ⊕ Bool)
 | 0, _ => none
 | n + 1, x => MS N a0 (J6 N a0 n) x
def SS (N : Nat) (a0 : List UInt8) : Option (Bool) :=
 Option.bind (J6 N a0 N 0) fun (y5 : Unit ⊕ Bool) =>
 Sum.elim (fun (y5 : Unit) =>
   some true
  ) (fun (y5 : Bool) =>
   some y5
  ) y5
def F6 (N : Nat) (a0 : List UInt8) (a1 : List UInt8) : Option (Bool) :=
 Option.bind (
   bif decide ((a0.length : Int) ≥ (a1.length : Int)) then
    Option.bind (TN a0 (a1.length : Int)) fun (OB : List UInt8) =>
    some (OB == a1)
   else
    some false
  ) fun (g1 : Bool) =>
 some g1
def HY (N : Nat) (a0 : List UInt8) (a1 : List UInt8) : Option (List UInt8) :=
 Option.bind (F6 N a0 a1) fun (x7 : Bool) =>
 bif x7 then
  Option.bind (U0 a0 (a1.length : Int)) fun (KW : List UInt8) =>
  some KW
 else
  some a0
def strings_TrimPrefix (N : Nat) (a0 : List UInt8) (a1 : List UInt8) : Option (List UInt8) :=
 Option.bind (HY N a0 a1) fun (x7 : List UInt8) =>
 some x7
def LP (N : Nat) (x7 : List UInt8) (rec : Int → Option (Unit ⊕ Bool)) : Int → Option (Unit ⊕ Bool)
 | v27l16 =>
  bif decide (v27l16 < (x7.length : Int)) then
   Option.bind (R4 v27l16 x7.length) fun (x29 : Nat) =>
   Option.bind (x7[x29]?) fun (x30 : UInt8) =>
   Option.bind (
     bif decide (((x30).toNat : Int) < (48 : Int)) then
      some true
     else
      some (decide (((x30).toNat : Int) > (57 : Int)))
    ) fun (g7 : Bool) =>
   bif g7 then
    some (Sum.inr false)
   else
    rec (BQ (v27l16 + (1 : Int)))
  else
   some (Sum.inl ())
def GL (N : Nat) (x7 : List UInt8) : Nat → Int → Option (Unit ⊕ Bool)
 | 0, _ => none
 | n + 1, x => LP N x7 (GL N x7 n) x
def SV (N : Nat) (a0 : List UInt8) : Option (Bool) :=
 Option.bind (strings_TrimPrefix N a0 ([45] : List UInt8)) fun (x7 : List UInt8) =>
 Option.bind (
   bif (x7 == ([] : List UInt8)) then
    some true
   else
    bif decide ((x7.length : Int) > (15 : Int)) then
     some true
    else
     Option.bind (CQ x7 (0 : Int)) fun (EC : UInt8) =>
     bif (((EC).toNat : Int) == (48 : Int)) then
      some (!(a0 == ([48] : List UInt8)))
     else
      some false
  ) fun (g1 : Bool) =>
 bif g1 then
  some false
 else
  Option.bind (GL N x7 N 0) fun (LC : Unit ⊕ Bool) =>
  Sum.elim (fun (LC : Unit) =>
    some true
   ) (fun (LC : Bool) =>
    some LC
   ) LC
def R3 (rec : (Int × Int × List (List UInt8)) → Option (Int × List (List UInt8))) (iK : Int) (bU : Int) (aQ : List (List UInt8)) : Option (Int × List (List UInt8)) :=
 rec (iK, (BQ (bU + (1 : Int))), aQ)
def LZ (N : Nat) (a0 : List UInt8) (a1 : UInt8) (rec : (Int × Int × List (List UInt8)) → Option (Int × List (List UInt8))) : (Int × Int × List (List UInt8)) → Option (Int × List (List UInt8))
 | (G6, K6, LU) =>
  bif decide (K6 < (a0.length : Int)) then
   Option.bind (CQ a0 K6) fun (Y4 : UInt8) =>
   bif (((Y4).toNat : Int) == (92 : Int)) then
    R3 rec G6 (BQ (K6 + (1 : Int))) LU
   else
    bif (((Y4).toNat : Int) == ((a1).toNat : Int)) then
     Option.bind (kQ a0 G6 K6) fun (x28 : List UInt8) =>
     Option.bind (QK 16 LU [x28]) fun (x30 : List (List UInt8)) =>
     R3 rec (BQ (K6 + (1 : Int))) K6 x30
    else
     R3 rec G6 K6 LU
  else
   some (G6, LU)
def J7 (N : Nat) (a0 : List UInt8) (a1 : UInt8) : Nat → (Int × Int × List (List UInt8)) → Option (Int × List (List UInt8))
 | 0, _ => none
 | n + 1, x => LZ N a0 a1 (J7 N a0 a1 n) x
def fG (N : Nat) (a0 : List UInt8) (a1 : UInt8) : Option (List (List UInt8)) :=
 Option.bind (J7 N a0 a1 N (0, 0, [])) fun (y4 : Int × List (List UInt8)) =>
 Option.bind (U0 a0 y4.1) fun (Qc : List UInt8) =>
 Option.bind (QK 16 y4.2 [Qc]) fun (x38 : List (List UInt8)) =>
 some x38
def KU (N : Nat) (a0 : List UInt8) (a1 : List UInt8) : Option (List UInt8 × List UInt8 × Bool) :=
 Option.bind (stringslite_Index N a0 a1) fun (R9 : Int) =>
 bif decide (R9 ≥ (0 : Int)) then
  Option.bind (TN a0 R9) fun (N7 : List UInt8) =>
  Option.bind (U0 a0 (BQ (R9 + (a1.length : Int)))) fun (V3 : List UInt8) =>
  some (N7, V3, true)
 else
  some (a0, ([] : List UInt8), false)
def strings_Cut (N : Nat) (a0 : List UInt8) (a1 : List UInt8) : Option (List UInt8 × List UInt8 × Bool) :=
 Option.bind (KU N a0 a1) fun (x9 : List UInt8 × List UInt8 × Bool) =>
 some (x9.1, x9.2.1, x9.2.2)
def strings_HasPrefix (N : Nat) (a0 : List UInt8) (a1 : List UInt8) : Option (Bool) :=
 Option.bind (F6 N a0 a1) fun (x7 : Bool) =>
 some x7
def U1 (N : Nat) (a0 : List UInt8) (a1 : Int) : Option (UInt8 × Bool) :=
 bif decide (a1 ≥ (a0.length : Int)) then
  some ((0 : UInt8), false)
 else
  Option.bind (kQ a0 a1 (BQ (a1 + (1 : Int)))) fun (N7 : List UInt8) =>
  Option.bind (WJ N N7) fun (Y4 : List UInt8) =>
  Option.bind (CQ Y4 (0 : Int)) fun (EC : UInt8) =>
  Option.bind (strings_IndexByte N ([48, 49, 50, 51, 52, 53, 54, 55, 56, 57, 97, 98, 99, 100, 101, 102] : List UInt8) EC) fun (OV : Int) =>
  some ((byte (mx OV (0 : Int))), decide (OV ≥ (0 : Int)))
def MI (rec : (Bool × Int × List UInt8) → Option ((Bool × List UInt8) ⊕ (List UInt8 × Bool))) (Ch : Bool) (wE : Int) (aO : List UInt8) : Option ((Bool × List UInt8) ⊕ (List UInt8 × Bool)) :=
 rec (Ch, (BQ (wE + (1 : Int))), aO)
def KO (N : Nat) (a0 : List UInt8) (rec : (Bool × Int × List UInt8) → Option ((Bool × List UInt8) ⊕ (List UInt8 × Bool))) : (Bool × Int × List UInt8) → Option ((Bool × List UInt8) ⊕ (List UInt8 × Bool))
 | (Cf, LG, JR) =>
  bif decide (LG < (a0.length : Int)) then
   Option.bind (CQ a0 LG) fun (KZ : UInt8) =>
   bif (((KZ).toNat : Int) == (92 : Int)) then
    Option.bind (
      bif decide ((BQ (LG + (1 : Int))) < (a0.length : Int)) then
       Option.bind (CQ a0 (BQ (LG + (1 : Int)))) fun (pR : UInt8) =>
       Option.bind (strings_IndexByte N ([44, 43, 34, 92, 60, 62, 59, 35, 61, 32] : List UInt8) pR) fun (sZ : Int) =>
       some (decide (sZ ≥ (0 : Int)))
      else
       some false
     ) fun (g6 : Bool) =>
    bif g6 then
     Option.bind (CQ a0 (BQ (LG + (1 : Int)))) fun (OU : UInt8) =>
     Option.bind (QK 1 JR [OU]) fun (x54 : List UInt8) =>
     MI rec (((KZ).toNat : Int) == (32 : Int)) (BQ (LG + (1 : Int))) x54
    else
     Option.bind (U1 N a0 (BQ (LG + (1 : Int)))) fun (Jy : UInt8 × Bool) =>
     Option.bind (U1 N a0 (BQ ((BQ (LG + (1 : Int))) + (1 : Int)))) fun (wC : UInt8 × Bool) =>
     Option.bind (
       bif !Jy.2 then
        some true
       else
        some (!wC.2)
      ) fun (g9 : Bool) =>
     bif g9 then
      some (Sum.inr (([] : List UInt8), false))
     else
      Option.bind (QK 1 JR [((zG Jy.1 4) ||| wC.1)]) fun (x80 : List UInt8) =>
      MI rec (((KZ).toNat : Int) == (32 : Int)) (BQ ((BQ (LG + (1 : Int))) + (1 : Int))) x80
   else
    Option.bind (strings_IndexByte N ([44, 43, 34, 92, 60, 62, 59] : List UInt8) KZ) fun (x85 : Int) =>
    bif decide (x85 ≥ (0 : Int)) then
     some (Sum.inr (([] : List UInt8), false))
    else
     Option.bind (QK 1 JR [KZ]) fun (x32 : List UInt8) =>
     MI rec (((KZ).toNat : Int) == (32 : Int)) LG x32
  else
   some (Sum.inl (Cf, JR))
def H8 (N : Nat) (a0 : List UInt8) : Nat → (Bool × Int × List UInt8) → Option ((Bool × List UInt8) ⊕ (List UInt8 × Bool))
 | 0, _ => none
 | n + 1, x => KO N a0 (H8 N a0 n) x
def UQ (N : Nat) (a0 : List UInt8) : Option (List UInt8 × Bool) :=
 Option.bind (
   Option.bind (strings_HasPrefix N a0 ([35] : List UInt8)) fun (MF : Bool) =>
   bif MF then
    some true
   else
    Option.bind (strings_HasPrefix N a0 ([32] : List UInt8)) fun (Y4 : Bool) =>
    some Y4
  ) fun (g1 : Bool) =>
 bif g1 then
  some (([] : List UInt8), false)
 else
  Option.bind (H8 N a0 N (false, 0, [])) fun (y13 : (Bool × List UInt8) ⊕ (List UInt8 × Bool)) =>
  Sum.elim (fun (y13 : Bool × List UInt8) =>
    some (y13.2, !y13.1)
   ) (fun (y13 : List UInt8 × Bool) =>
    some (y13.1, y13.2)
   ) y13
def O5 (N : Nat) (MF : List (List UInt8)) (rec : (Int × List AP) → Option ((List AP) ⊕ (List AP × Int))) : (Int × List AP) → Option ((List AP) ⊕ (List AP × Int))
 | (TM, PP) =>
  bif decide (TM < (MF.length : Int)) then
   Option.bind (CQ MF TM) fun (EC : List UInt8) =>
   Option.bind (strings_Cut N EC ([61] : List UInt8)) fun (V3 : List UInt8 × List UInt8 × Bool) =>
   Option.bind (UQ N V3.2.1) fun (x27 : List UInt8 × Bool) =>
   Option.bind (
     bif !V3.2.2 then
      some true
     else
      bif !x27.2 then
       some true
      else
       some (decide ((PP.length : Int) > (4 : Int)))
    ) fun (g2 : Bool) =>
   bif g2 then
    some (Sum.inr ([], 15))
   else
    Option.bind (WJ N V3.1) fun (x43 : List UInt8) =>
    Option.bind (QK 32 PP [(⟨x43, x27.1⟩ : AP)]) fun (dV : List AP) =>
    rec ((BQ (TM + (1 : Int))), dV)
  else
   some (Sum.inl PP)
def JS (N : Nat) (MF : List (List UInt8)) : Nat → (Int × List AP) → Option ((List AP) ⊕ (List AP × Int))
 | 0, _ => none
 | n + 1, x => O5 N MF (JS N MF n) x
def UR (N : Nat) (a0 : List UInt8) : Option (List AP × Int) :=
 Option.bind (fG N a0 (43 : UInt8)) fun (MF : List (List UInt8)) =>
 Option.bind (JS N MF N (0, [])) fun (y6 : (List AP) ⊕ (List AP × Int)) =>
 Sum.elim (fun (y6 : List AP) =>
   Option.bind (YO N y6) fun (x50 : Bool) =>
   bif !x50 then
    some ([], 15)
   else
    some (y6, 0)
  ) (fun (y6 : List AP × Int) =>
   some (y6.1, y6.2)
  ) y6
def QF (N : Nat) (IP : List (List UInt8)) (rec : (Int × List (List AP)) → Option ((List (List AP)) ⊕ (List (List AP) × Int))) : (Int × List (List AP)) → Option ((List (List AP)) ⊕ (List (List AP) × Int))
 | (aL, NK) =>
  bif decide (aL < (IP.length : Int)) then
   Option.bind (CQ IP aL) fun (Y4 : List UInt8) =>
   Option.bind (UR N Y4) fun (x20 : List AP × Int) =>
   Option.bind (
     bif (x20.2 != (0 : Int)) then
      some true
     else
      some ((NK.length : Int) == (8 : Int))
    ) fun (g3 : Bool) =>
   bif g3 then
    some (Sum.inr ([], 15))
   else
    Option.bind (QK 24 NK [x20.1]) fun (Kj : List (List AP)) =>
    rec ((BQ (aL + (1 : Int))), Kj)
  else
   some (Sum.inl NK)
def M0 (N : Nat) (IP : List (List UInt8)) : Nat → (Int × List (List AP)) → Option ((List (List AP)) ⊕ (List (List AP) × Int))
 | 0, _ => none
 | n + 1, x => QF N IP (M0 N IP n) x
def dJ (N : Nat) (a0 : List UInt8) : Option (List (List AP) × Int) :=
 bif (a0 == ([] : List UInt8)) then
  some ([], 0)
 else
  Option.bind (fG N a0 (44 : UInt8)) fun (IP : List (List UInt8)) =>
  Option.bind (M0 N IP N (0, [])) fun (y6 : (List (List AP)) ⊕ (List (List AP) × Int)) =>
  Sum.elim (fun (y6 : List (List AP)) =>
    some (y6, 0)
   ) (fun (y6 : List (List AP) × Int) =>
    some (y6.1, y6.2)
   ) y6
def Q0 (a1 : List UInt8) (N : Nat)  : Option (Bool) :=
 Option.bind (SS N a1) fun (x20 : Bool) =>
 some x20
def WZ (N : Nat) (a0 : Int) (a1 : List UInt8) : Option (Bool) :=
 bif (a0 == (1 : Int)) then
  Option.bind (SQ N a1 ([32] : List UInt8)) fun (EC : List UInt8) =>
  bif (EC == ([] : List UInt8)) then
   some false
  else
   Q0 a1 N
 else
  bif (a0 == (2 : Int)) then
   Q0 a1 N
  else
   bif (a0 == (3 : Int)) then
    Option.bind (SV N a1) fun (WO : Bool) =>
    some WO
   else
    bif (a0 == (5 : Int)) then
     Option.bind (dJ N a1) fun (x25 : List (List AP) × Int) =>
     some (x25.2 == (0 : Int))
    else
     some true
def Q3 (N : Nat) (a0 : List UInt8) (a1 : List UInt8) : Option (Int) :=
 Option.bind (RO N a0) fun (x9 : BB × Bool) =>
 bif !x9.2 then
  some 16
 else
  Option.bind (
    bif (a1 == ([] : List UInt8)) then
     some true
    else
     bif decide ((a1.length : Int) > (60 : Int)) then
      some true
     else
      Option.bind (WZ N x9.1.Syntax a1) fun (x27 : Bool) =>
      some (!x27)
   ) fun (g2 : Bool) =>
  bif g2 then
   some 17
  else
   some 0
def U7 (N : Nat) (a0 : AP) : Option (Bool) :=
 Option.bind (
   bif (a0.Attr == ([101, 110, 116, 114, 121, 105, 100] : List UInt8)) then
    some true
   else
    Option.bind (Q3 N a0.Attr a0.Value) fun (KW : Int) =>
    some (KW != (0 : Int))
  ) fun (g1 : Bool) =>
 some g1
def CO (N : Nat) (a0 : List AP) (rec : Int → Option (Unit ⊕ Int)) : Int → Option (Unit ⊕ Int)
 | v8l6 =>
  bif decide (v8l6 < (a0.length : Int)) then
   Option.bind (CQ a0 v8l6) fun (OB : AP) =>
   Option.bind (U7 N OB) fun (Y4 : Bool) =>
   bif Y4 then
    some (Sum.inr v8l6)
   else
    rec (BQ (v8l6 + (1 : Int)))
  else
   some (Sum.inl ())
def BM (N : Nat) (a0 : List AP) : Nat → Int → Option (Unit ⊕ Int)
 | 0, _ => none
 | n + 1, x => CO N a0 (BM N a0 n) x
def EN (N : Nat) (a0 : List AP) : Option (Int) :=
 Option.bind (BM N a0 N 0) fun (y3 : Unit ⊕ Int) =>
 Sum.elim (fun (y3 : Unit) =>
   some (-1)
  ) (fun (y3 : Int) =>
   some y3
  ) y3
def DX (N : Nat) (a0 : List AP) : Option (Bool) :=
 Option.bind (EN N a0) fun (x7 : Int) =>
 some (decide (x7 ≥ (0 : Int)))
def QH (N : Nat) (a0 : List AP) : Option (Bool) :=
 Option.bind (
   Option.bind (YO N a0) fun (x4 : Bool) =>
   bif !x4 then
    some true
   else
    some (decide ((a0.length : Int) ≥ (4 : Int)))
  ) fun (g1 : Bool) =>
 bif g1 then
  some false
 else
  Option.bind (DX N a0) fun (IP : Bool) =>
  some (!IP)
def SH (N : Nat) (a0 : List UInt8) (c0 : BC) : Option (Bool) :=
 Option.bind (Q3 N c0.Attr a0) fun (x7 : Int) =>
 some (x7 != (0 : Int))
def CR (N : Nat) (a0 : List (List UInt8)) (JB : BC) (rec : Int → Option (Unit ⊕ Int)) : Int → Option (Unit ⊕ Int)
 | v8l6 =>
  bif decide (v8l6 < (a0.length : Int)) then
   Option.bind (CQ a0 v8l6) fun (OB : List UInt8) =>
   Option.bind (SH N OB JB) fun (Y4 : Bool) =>
   bif Y4 then
    some (Sum.inr v8l6)
   else
    rec (BQ (v8l6 + (1 : Int)))
  else
   some (Sum.inl ())
def BN (N : Nat) (a0 : List (List UInt8)) (JB : BC) : Nat → Int → Option (Unit ⊕ Int)
 | 0, _ => none
 | n + 1, x => CR N a0 JB (BN N a0 JB n) x
def EP (N : Nat) (a0 : List (List UInt8)) (JB : BC) : Option (Int) :=
 Option.bind (BN N a0 JB N 0) fun (y3 : Unit ⊕ Int) =>
 Sum.elim (fun (y3 : Unit) =>
   some (-1)
  ) (fun (y3 : Int) =>
   some y3
  ) y3
def CV (N : Nat) (a0 : List (List UInt8)) (JB : BC) : Option (Bool) :=
 Option.bind (EP N a0 JB) fun (x7 : Int) =>
 some (decide (x7 ≥ (0 : Int)))
def M5 (N : Nat) (a0 : List BC) (a1 : Int) (rec : Int → Option (Unit ⊕ Bool)) : Int → Option (Unit ⊕ Bool)
 | v11l6 =>
  bif decide (v11l6 < (a0.length : Int)) then
   Option.bind (CQ a0 v11l6) fun (MF : BC) =>
   Option.bind (RO N MF.Attr) fun (OV : BB × Bool) =>
   Option.bind (
     bif !OV.2 then
      some true
     else
      bif (!(OV.1.Name == MF.Attr)) then
       some true
      else
       bif (MF.Attr == ([101, 110, 116, 114, 121, 105, 100] : List UInt8)) then
        some true
       else
        bif decide (MF.Kind < (1 : Int)) then
         some true
        else
         bif decide (MF.Kind > a1) then
          some true
         else
          bif decide ((MF.Values.length : Int) > (12 : Int)) then
           some true
          else
           bif (MF.Kind == (1 : Int)) then
            some ((MF.Values.length : Int) == (0 : Int))
           else
            some false
    ) fun (g2 : Bool) =>
   bif g2 then
    some (Sum.inr false)
   else
    Option.bind (CV N MF.Values (⟨MF.Kind, MF.Attr, MF.Values⟩ : BC)) fun (x66 : Bool) =>
    bif x66 then
     some (Sum.inr false)
    else
     rec (BQ (v11l6 + (1 : Int)))
  else
   some (Sum.inl ())
def I9 (N : Nat) (a0 : List BC) (a1 : Int) : Nat → Int → Option (Unit ⊕ Bool)
 | 0, _ => none
 | n + 1, x => M5 N a0 a1 (I9 N a0 a1 n) x
def OH (N : Nat) (a0 : List BC) (a1 : Int) : Option (Bool) :=
 Option.bind (I9 N a0 a1 N 0) fun (pO : Unit ⊕ Bool) =>
 Sum.elim (fun (pO : Unit) =>
   some (decide ((a0.length : Int) ≤ (8 : Int)))
  ) (fun (pO : Bool) =>
   some pO
  ) pO
def R5 (N : Nat) (a0 : AX) : Option (Bool) :=
 Option.bind (
   Option.bind (bD N (⟨a0.CSN.Time, a0.CSN.Seq, a0.CSN.Rep⟩ : AR)) fun (x7 : Bool) =>
   bif !x7 then
    some true
   else
    Option.bind (U5 N (⟨a0.CSN.Time, a0.CSN.Seq, a0.CSN.Rep⟩ : AR)) fun (IP : Bool) =>
    bif IP then
     some true
    else
     Option.bind (bD N (⟨a0.ID.Time, a0.ID.Seq, a0.ID.Rep⟩ : AR)) fun (EC : Bool) =>
     bif !EC then
      some true
     else
      Option.bind (bD N (⟨a0.Parent.Time, a0.Parent.Seq, a0.Parent.Rep⟩ : AR)) fun (XV : Bool) =>
      some (!XV)
  ) fun (g1 : Bool) =>
 bif g1 then
  some false
 else
  Option.bind (
    Option.bind (U5 N (⟨a0.Parent.Time, a0.Parent.Seq, a0.Parent.Rep⟩ : AR)) fun (x29 : Bool) =>
    bif x29 then
     bif ((a0.RDN.length : Int) == (0 : Int)) then
      some (!a0.DelOld)
     else
      some false
    else
     some false
   ) fun (g6 : Bool) =>
  bif (a0.Kind == (1 : Int)) then
   Option.bind (
     bif (a0.ID.Time == a0.CSN.Time && (a0.ID.Seq == a0.CSN.Seq && (a0.ID.Rep == a0.CSN.Rep && true))) then
      Option.bind (NP N (⟨a0.Parent.Time, a0.Parent.Seq, a0.Parent.Rep⟩ : AR) (⟨(⟨a0.CSN.Time, a0.CSN.Seq, a0.CSN.Rep⟩ : AR), a0.Kind, (⟨a0.ID.Time, a0.ID.Seq, a0.ID.Rep⟩ : AR), (⟨a0.Parent.Time, a0.Parent.Seq, a0.Parent.Rep⟩ : AR), a0.RDN, a0.DelOld, a0.Mods⟩ : AX)) fun (x54 : Bool) =>
      bif x54 then
       Option.bind (QH N a0.RDN) fun (Kg : Bool) =>
       bif Kg then
        Option.bind (OH N a0.Mods 1) fun (x64 : Bool) =>
        bif x64 then
         some (!a0.DelOld)
        else
         some false
       else
        some false
      else
       some false
     else
      some false
    ) fun (g10 : Bool) =>
   some g10
  else
   bif (a0.Kind == (2 : Int)) then
    Option.bind (
      Option.bind (U5 N (⟨a0.ID.Time, a0.ID.Seq, a0.ID.Rep⟩ : AR)) fun (x75 : Bool) =>
      bif !x75 then
       Option.bind (NP N (⟨a0.ID.Time, a0.ID.Seq, a0.ID.Rep⟩ : AR) (⟨(⟨a0.CSN.Time, a0.CSN.Seq, a0.CSN.Rep⟩ : AR), a0.Kind, (⟨a0.ID.Time, a0.ID.Seq, a0.ID.Rep⟩ : AR), (⟨a0.Parent.Time, a0.Parent.Seq, a0.Parent.Rep⟩ : AR), a0.RDN, a0.DelOld, a0.Mods⟩ : AX)) fun (x81 : Bool) =>
       bif x81 then
        bif g6 then
         some ((a0.Mods.length : Int) == (0 : Int))
        else
         some false
       else
        some false
      else
       some false
     ) fun (g16 : Bool) =>
    some g16
   else
    bif (a0.Kind == (3 : Int)) then
     Option.bind (
       Option.bind (NP N (⟨a0.ID.Time, a0.ID.Seq, a0.ID.Rep⟩ : AR) (⟨(⟨a0.CSN.Time, a0.CSN.Seq, a0.CSN.Rep⟩ : AR), a0.Kind, (⟨a0.ID.Time, a0.ID.Seq, a0.ID.Rep⟩ : AR), (⟨a0.Parent.Time, a0.Parent.Seq, a0.Parent.Rep⟩ : AR), a0.RDN, a0.DelOld, a0.Mods⟩ : AX)) fun (x97 : Bool) =>
       bif x97 then
        bif g6 then
         bif decide ((a0.Mods.length : Int) > (0 : Int)) then
          Option.bind (OH N a0.Mods 3) fun (x110 : Bool) =>
          some x110
         else
          some false
        else
         some false
       else
        some false
      ) fun (g21 : Bool) =>
     some g21
    else
     bif (a0.Kind == (4 : Int)) then
      Option.bind (
        Option.bind (U5 N (⟨a0.ID.Time, a0.ID.Seq, a0.ID.Rep⟩ : AR)) fun (lC : Bool) =>
        bif !lC then
         Option.bind (NP N (⟨a0.ID.Time, a0.ID.Seq, a0.ID.Rep⟩ : AR) (⟨(⟨a0.CSN.Time, a0.CSN.Seq, a0.CSN.Rep⟩ : AR), a0.Kind, (⟨a0.ID.Time, a0.ID.Seq, a0.ID.Rep⟩ : AR), (⟨a0.Parent.Time, a0.Parent.Seq, a0.Parent.Rep⟩ : AR), a0.RDN, a0.DelOld, a0.Mods⟩ : AX)) fun (LF : Bool) =>
         bif LF then
          Option.bind (NP N (⟨a0.Parent.Time, a0.Parent.Seq, a0.Parent.Rep⟩ : AR) (⟨(⟨a0.CSN.Time, a0.CSN.Seq, a0.CSN.Rep⟩ : AR), a0.Kind, (⟨a0.ID.Time, a0.ID.Seq, a0.ID.Rep⟩ : AR), (⟨a0.Parent.Time, a0.Parent.Seq, a0.Parent.Rep⟩ : AR), a0.RDN, a0.DelOld, a0.Mods⟩ : AX)) fun (x128 : Bool) =>
          bif x128 then
           Option.bind (QH N a0.RDN) fun (x133 : Bool) =>
           bif x133 then
            some ((a0.Mods.length : Int) == (0 : Int))
           else
            some false
          else
           some false
         else
          some false
        else
         some false
       ) fun (g26 : Bool) =>
      some g26
     else
      some false
def J5 (N : Nat) (a0 : UInt8) (a1 : List UInt8) : Option (A8) :=
 some (⟨a0, a1, []⟩ : A8)
def V8 (iL : Int) (JQ : List UInt8) (rec : (Int × List UInt8) → Option (List UInt8)) (Om : Int) : Option (List UInt8) :=
 bif (iL == Om) then
  some JQ
 else
  Option.bind (QK 1 [(byte iL)] JQ) fun (x27 : List UInt8) =>
  rec ((qC iL 8), x27)
def Y7 (N : Nat) (rec : (Int × List UInt8) → Option (List UInt8)) : (Int × List UInt8) → Option (List UInt8)
 | (iL, JQ) =>
  Option.bind (R4 (0 : Int) JQ.length) fun (OB : Nat) =>
  Option.bind (JQ[OB]?) fun (N7 : UInt8) =>
  bif ((((N7 &&& (128 : UInt8))).toNat : Int) != (0 : Int)) then
   V8 iL JQ rec (-1)
  else
   V8 iL JQ rec 0
def PY (N : Nat) : Nat → (Int × List UInt8) → Option (List UInt8)
 | 0, _ => none
 | n + 1, x => Y7 N (PY N n) x
def VU (N : Nat) (a0 : Int) : Option (List UInt8) :=
 Option.bind (PY N N ((qC a0 8), [(byte a0)])) fun (y3 : List UInt8) =>
 some y3
def PX (N : Nat) (a0 : UInt8) (a1 : Int) : Option (A8) :=
 Option.bind (VU N a1) fun (x7 : List UInt8) =>
 Option.bind (J5 N a0 x7) fun (x8 : A8) =>
 some x8
def OX (N : Nat) (a0 : UInt8) (a1 : List A8) : Option (A8) :=
 some (⟨a0, ([] : List UInt8), (List.map AA a1)⟩ : A8)
def YQ (N : Nat) (a0 : AR) : Option (List UInt8) :=
 Option.bind (KG N a0.Time 10) fun (x5 : List UInt8) =>
 Option.bind (bH x5 ([46] : List UInt8)) fun (x6 : List UInt8) =>
 Option.bind (strconv_Itoa N a0.Seq) fun (x9 : List UInt8) =>
 Option.bind (bH x6 x9) fun (R9 : List UInt8) =>
 Option.bind (bH R9 ([46] : List UInt8)) fun (KW : List UInt8) =>
 Option.bind (strconv_Itoa N a0.Rep) fun (OB : List UInt8) =>
 Option.bind (bH KW OB) fun (N7 : List UInt8) =>
 some N7
def ML (N : Nat) (a0 : AR) : Option (A8) :=
 Option.bind (YQ N a0) fun (x4 : List UInt8) =>
 Option.bind (J5 N (4 : UInt8) x4) fun (x5 : A8) =>
 some x5
def XF (N : Nat) (KR : A8 → Option (Bool)) (a0 : A8) : Option (Bool) :=
 Option.bind (KR a0) fun (x4 : Bool) =>
 some (!x4)
def CE (N : Nat) (KR : A8 → Option (Bool)) (a0 : List A8) (rec : Int → Option (Unit ⊕ Int)) : Int → Option (Unit ⊕ Int)
 | v8l6 =>
  bif decide (v8l6 < (a0.length : Int)) then
   Option.bind (CQ a0 v8l6) fun (OB : A8) =>
   Option.bind (XF N KR OB) fun (Y4 : Bool) =>
   bif Y4 then
    some (Sum.inr v8l6)
   else
    rec (BQ (v8l6 + (1 : Int)))
  else
   some (Sum.inl ())
def BJ (N : Nat) (KR : A8 → Option (Bool)) (a0 : List A8) : Nat → Int → Option (Unit ⊕ Int)
 | 0, _ => none
 | n + 1, x => CE N KR a0 (BJ N KR a0 n) x
def DF (N : Nat) (KR : A8 → Option (Bool)) (a0 : List A8) : Option (Int) :=
 Option.bind (BJ N KR a0 N 0) fun (y3 : Unit ⊕ Int) =>
 Sum.elim (fun (y3 : Unit) =>
   some (-1)
  ) (fun (y3 : Int) =>
   some y3
  ) y3
def D7 (N : Nat) (KR : A8 → Option (Bool)) (a0 : List A8) : Option (Bool) :=
 Option.bind (DF N KR a0) fun (x7 : Int) =>
 some (decide (x7 ≥ (0 : Int)))
def QI (N : Nat) (KR : A8 → Option (Bool)) (a0 : A8) : Option (Bool) :=
 bif ((((a0.Tag &&& (31 : UInt8))).toNat : Int) == (31 : Int)) then
  some false
 else
  bif ((((a0.Tag &&& (32 : UInt8))).toNat : Int) == (0 : Int)) then
   Option.bind (U2 CU a0.Kids) fun (OB : List A8) =>
   some ((OB.length : Int) == (0 : Int))
  else
   Option.bind (
     bif (a0.Body == ([] : List UInt8)) then
      Option.bind (U2 CU a0.Kids) fun (WO : List A8) =>
      Option.bind (D7 N KR WO) fun (XV : Bool) =>
      some (!XV)
     else
      some false
    ) fun (g3 : Bool) =>
   some g3
def KQ (N : Nat) : Nat → A8 → Option (Bool)
 | 0 => fun _ => none
 | n + 1 => QI N (KQ N n)
def bJ (N : Nat) (a0 : A8) : Option (Bool) := KQ N N a0
def RJ (N : Nat) (KR : A8 → Option (Int)) (x7 : List A8) (rec : (Int × Int) → Option (Int)) : (Int × Int) → Option (Int)
 | (yZ, yY) =>
  bif decide (yY < (x7.length : Int)) then
   Option.bind (CQ x7 yY) fun (KW : A8) =>
   Option.bind (KR KW) fun (N7 : Int) =>
   rec ((mx yZ N7), (BQ (yY + (1 : Int))))
  else
   some yZ
def NS (N : Nat) (KR : A8 → Option (Int)) (x7 : List A8) : Nat → (Int × Int) → Option (Int)
 | 0, _ => none
 | n + 1, x => RJ N KR x7 (NS N KR x7 n) x
def XG (N : Nat) (KR : A8 → Option (Int)) (a0 : A8) : Option (Int) :=
 Option.bind (U2 CU a0.Kids) fun (x7 : List A8) =>
 Option.bind (NS N KR x7 N (0, 0)) fun (y2 : Int) =>
 some (BQ (y2 + (1 : Int)))
def OZ (N : Nat) : Nat → A8 → Option (Int)
 | 0 => fun _ => none
 | n + 1 => XG N (OZ N n)
def kX (N : Nat) (a0 : A8) : Option (Int) := OZ N N a0
def XE (N : Nat) (a0 : Int) : Option (List UInt8) :=
 bif decide (a0 < (128 : Int)) then
  some [(byte a0)]
 else
  bif decide (a0 < (256 : Int)) then
   some [(129 : UInt8), (byte a0)]
  else
   some [(130 : UInt8), (byte (qC a0 8)), (byte a0)]
def QJ (N : Nat) (KR : A8 → Option (List UInt8 × Bool)) (a0 : A8) (MF : List A8) (rec : (Int × List UInt8) → Option ((List UInt8) ⊕ (List UInt8 × Bool))) : (Int × List UInt8) → Option ((List UInt8) ⊕ (List UInt8 × Bool))
 | (TM, Q8) =>
  bif decide (TM < (MF.length : Int)) then
   Option.bind (CQ MF TM) fun (EC : A8) =>
   Option.bind (KR EC) fun (V3 : List UInt8 × Bool) =>
   Option.bind (
     bif !V3.2 then
      some true
     else
      some (decide ((BQ ((Q8.length : Int) + (V3.1.length : Int))) > (4000 : Int)))
    ) fun (g2 : Bool) =>
   bif g2 then
    some (Sum.inr (([] : List UInt8), false))
   else
    Option.bind (QK 1 Q8 V3.1) fun (Qc : List UInt8) =>
    rec ((BQ (TM + (1 : Int))), Qc)
  else
   some (Sum.inl Q8)
def ME (N : Nat) (KR : A8 → Option (List UInt8 × Bool)) (a0 : A8) (MF : List A8) : Nat → (Int × List UInt8) → Option ((List UInt8) ⊕ (List UInt8 × Bool))
 | 0, _ => none
 | n + 1, x => QJ N KR a0 MF (ME N KR a0 MF n) x
def UZ (N : Nat) (KR : A8 → Option (List UInt8 × Bool)) (a0 : A8) : Option (List UInt8 × Bool) :=
 Option.bind (U2 CU a0.Kids) fun (MF : List A8) =>
 Option.bind (ME N KR a0 MF N (0, a0.Body)) fun (y5 : (List UInt8) ⊕ (List UInt8 × Bool)) =>
 Sum.elim (fun (y5 : List UInt8) =>
   bif decide ((y5.length : Int) > (4000 : Int)) then
    some (([] : List UInt8), false)
   else
    Option.bind (XE N (y5.length : Int)) fun (dV : List UInt8) =>
    Option.bind (bH [a0.Tag] dV) fun (iF : List UInt8) =>
    Option.bind (bH iF y5) fun (Ki : List UInt8) =>
    some (Ki, true)
  ) (fun (y5 : List UInt8 × Bool) =>
   some (y5.1, y5.2)
  ) y5
def NT (N : Nat) : Nat → A8 → Option (List UInt8 × Bool)
 | 0 => fun _ => none
 | n + 1 => UZ N (NT N n)
def fJ (N : Nat) (a0 : A8) : Option (List UInt8 × Bool) := NT N N a0
def ZI (N : Nat) (a0 : A8) : Option (List UInt8 × Int) :=
 Option.bind (bJ N a0) fun (x7 : Bool) =>
 bif !x7 then
  some (([] : List UInt8), 14)
 else
  Option.bind (kX N a0) fun (R9 : Int) =>
  bif decide (R9 > (20 : Int)) then
   some (([] : List UInt8), 12)
  else
   Option.bind (fJ N a0) fun (OB : List UInt8 × Bool) =>
   bif !OB.2 then
    some (([] : List UInt8), 13)
   else
    some (OB.1, 0)
def M8 (N : Nat) (a0 : AX) (rec : (Int × List A8) → Option (List A8)) : (Int × List A8) → Option (List A8)
 | (eD, WF) =>
  bif decide (eD < (a0.RDN.length : Int)) then
   Option.bind (CQ a0.RDN eD) fun (x24 : AP) =>
   Option.bind (J5 N (4 : UInt8) x24.Attr) fun (x29 : A8) =>
   Option.bind (J5 N (4 : UInt8) x24.Value) fun (x32 : A8) =>
   Option.bind (QK 48 WF [x29, x32]) fun (x34 : List A8) =>
   rec ((BQ (eD + (1 : Int))), x34)
  else
   some WF
def IE (N : Nat) (a0 : AX) : Nat → (Int × List A8) → Option (List A8)
 | 0, _ => none
 | n + 1, x => M8 N a0 (IE N a0 n) x
def M6 (N : Nat) (a0 : AX) (y3 : List A8) (LJ : Int) (FJ : List A8) (x41 : BC) (rec : (Int × List A8) → Option (List A8)) : (Int × List A8) → Option (List A8)
 | (dY, WE) =>
  bif decide (dY < (x41.Values.length : Int)) then
   Option.bind (CQ x41.Values dY) fun (x55 : List UInt8) =>
   Option.bind (J5 N (4 : UInt8) x55) fun (Kg : A8) =>
   Option.bind (QK 48 WE [Kg]) fun (Qb : List A8) =>
   rec ((BQ (dY + (1 : Int))), Qb)
  else
   some WE
def IA (N : Nat) (a0 : AX) (y3 : List A8) (LJ : Int) (FJ : List A8) (x41 : BC) : Nat → (Int × List A8) → Option (List A8)
 | 0, _ => none
 | n + 1, x => M6 N a0 y3 LJ FJ x41 (IA N a0 y3 LJ FJ x41 n) x
def M7 (N : Nat) (a0 : AX) (y3 : List A8) (rec : (Int × List A8) → Option (List A8)) : (Int × List A8) → Option (List A8)
 | (LJ, FJ) =>
  bif decide (LJ < (a0.Mods.length : Int)) then
   Option.bind (CQ a0.Mods LJ) fun (x41 : BC) =>
   Option.bind (PX N (2 : UInt8) x41.Kind) fun (pR : A8) =>
   Option.bind (J5 N (4 : UInt8) x41.Attr) fun (iF : A8) =>
   Option.bind (IA N a0 y3 LJ FJ x41 N (0, [pR, iF])) fun (y6 : List A8) =>
   Option.bind (OX N (48 : UInt8) y6) fun (wC : A8) =>
   Option.bind (QK 48 FJ [wC]) fun (x67 : List A8) =>
   rec ((BQ (LJ + (1 : Int))), x67)
  else
   some FJ
def IB (N : Nat) (a0 : AX) (y3 : List A8) : Nat → (Int × List A8) → Option (List A8)
 | 0, _ => none
 | n + 1, x => M7 N a0 y3 (IB N a0 y3 n) x
def LB (a0 : AX) (N : Nat) (y3 : List A8) (y7 : List A8) (Cj : Int) : Option (List UInt8 × Int) :=
 Option.bind (PX N (2 : UInt8) Cj) fun (x77 : A8) =>
 Option.bind (ML N (⟨a0.CSN.Time, a0.CSN.Seq, a0.CSN.Rep⟩ : AR)) fun (x80 : A8) =>
 Option.bind (ML N (⟨a0.ID.Time, a0.ID.Seq, a0.ID.Rep⟩ : AR)) fun (x83 : A8) =>
 Option.bind (ML N (⟨a0.Parent.Time, a0.Parent.Seq, a0.Parent.Rep⟩ : AR)) fun (x86 : A8) =>
 Option.bind (OX N (48 : UInt8) y3) fun (x88 : A8) =>
 Option.bind (OX N (48 : UInt8) y7) fun (x90 : A8) =>
 Option.bind (OX N (48 : UInt8) [x77, x80, x83, x86, x88, x90]) fun (x92 : A8) =>
 Option.bind (ZI N x92) fun (x93 : List UInt8 × Int) =>
 Option.bind (
   bif (x93.2 == (0 : Int)) then
    some (decide ((x93.1.length : Int) > (4000 : Int)))
   else
    some false
  ) fun (g8 : Bool) =>
 bif g8 then
  some (([] : List UInt8), 13)
 else
  some (x93.1, x93.2)
def M9 (N : Nat) (a0 : AX) : Option (List UInt8 × Int) :=
 Option.bind (R5 N a0) fun (EC : Bool) =>
 bif !EC then
  some (([] : List UInt8), 14)
 else
  Option.bind (IE N a0 N (0, [])) fun (y3 : List A8) =>
  Option.bind (IB N a0 y3 N (0, [])) fun (y7 : List A8) =>
  bif a0.DelOld then
   LB a0 N y3 y7 (BQ (0 - a0.Kind))
  else
   LB a0 N y3 y7 a0.Kind
def XH (Cg : Int) (Ce : Int) : Option (Int × Int × Int) :=
 bif decide (Cg > (4000 : Int)) then
  some (0, 0, 13)
 else
  some ((BQ ((2 : Int) + Ce)), Cg, 0)
def YU (N : Nat) (PR : UInt8) (x41 : List UInt8) (rec : (Int × Int) → Option (Int)) : (Int × Int) → Option (Int)
 | (lW, dZ) =>
  bif decide (dZ < (x41.length : Int)) then
   Option.bind (R4 dZ x41.length) fun (sZ : Nat) =>
   Option.bind (x41[sZ]?) fun (dV : UInt8) =>
   rec ((iop .or .i64 (tZ lW 8) ((dV).toNat : Int)), (BQ (dZ + (1 : Int))))
  else
   some lW
def TC (N : Nat) (PR : UInt8) (x41 : List UInt8) : Nat → (Int × Int) → Option (Int)
 | 0, _ => none
 | n + 1, x => YU N PR x41 (TC N PR x41 n) x
def sU (N : Nat) (a0 : List UInt8) : Option (Int × Int × Int) :=
 bif (a0 == ([] : List UInt8)) then
  some (0, 0, 10)
 else
  Option.bind (CQ a0 (0 : Int)) fun (IP : UInt8) =>
  bif ((((IP &&& (31 : UInt8))).toNat : Int) == (31 : Int)) then
   some (0, 0, 14)
  else
   bif ((a0.length : Int) == (1 : Int)) then
    some (0, 0, 10)
   else
    Option.bind (CQ a0 (1 : Int)) fun (PR : UInt8) =>
    Option.bind (
      bif (((PR).toNat : Int) == (128 : Int)) then
       some true
      else
       some (decide (((PR).toNat : Int) > (132 : Int)))
     ) fun (g5 : Bool) =>
    bif g5 then
     some (0, 0, 11)
    else
     bif decide (((PR).toNat : Int) > (128 : Int)) then
      bif decide ((a0.length : Int) < (BQ ((2 : Int) + (BQ (((PR).toNat : Int) - (128 : Int)))))) then
       some (0, 0, 10)
      else
       Option.bind (kQ a0 (2 : Int) (BQ ((2 : Int) + (BQ (((PR).toNat : Int) - (128 : Int)))))) fun (x41 : List UInt8) =>
       Option.bind (TC N PR x41 N (0, 0)) fun (Bq : Int) =>
       XH Bq (BQ (((PR).toNat : Int) - (128 : Int)))
     else
      XH ((PR).toNat : Int) 0
def OI (N : Nat) (KR : BH → Int → Int → Int → Option (A8 × Int × Int × BH)) (a1 : Int) (a3 : Int) (LD : Int × Int × Int) (rec : (Int × UInt8 × List UInt8 × List A8 × BH) → Option ((UInt8 × List UInt8 × List A8 × BH) ⊕ (A8 × Int × Int × BH))) : (Int × UInt8 × List UInt8 × List A8 × BH) → Option ((UInt8 × List UInt8 × List A8 × BH) ⊕ (A8 × Int × Int × BH))
 | (tN, LX, LW, TW, TT) =>
  bif decide (tN < (BQ ((BQ (a1 + LD.1)) + LD.2.1))) then
   Option.bind (KR TT tN (BQ ((BQ (a1 + LD.1)) + LD.2.1)) (BQ (a3 + (1 : Int)))) fun (x102 : A8 × Int × Int × BH) =>
   bif (x102.2.2.1 != (0 : Int)) then
    some (Sum.inr ((⟨(0 : UInt8), ([] : List UInt8), []⟩ : A8), 0, x102.2.2.1, x102.2.2.2))
   else
    Option.bind (QK 48 TW [x102.1]) fun (x114 : List A8) =>
    rec (x102.2.1, LX, LW, x114, x102.2.2.2)
  else
   some (Sum.inl (LX, LW, TW, TT))
def JI (N : Nat) (KR : BH → Int → Int → Int → Option (A8 × Int × Int × BH)) (a1 : Int) (a3 : Int) (LD : Int × Int × Int) : Nat → (Int × UInt8 × List UInt8 × List A8 × BH) → Option ((UInt8 × List UInt8 × List A8 × BH) ⊕ (A8 × Int × Int × BH))
 | 0, _ => none
 | n + 1, x => OI N KR a1 a3 LD (JI N KR a1 a3 LD n) x
def MB (KR : BH → Int → Int → Int → Option (A8 × Int × Int × BH)) (a0 : BH) (a1 : Int) (a3 : Int) (N : Nat) (LD : Int × Int × Int) (nT : Int) : Option (A8 × Int × Int × BH) :=
 bif (nT != (0 : Int)) then
  some ((⟨(0 : UInt8), ([] : List UInt8), []⟩ : A8), 0, nT, (⟨a0.s, a1⟩ : BH))
 else
  Option.bind (CQ a0.s a1) fun (iE : UInt8) =>
  bif ((((iE &&& (32 : UInt8))).toNat : Int) == (0 : Int)) then
   Option.bind (kQ a0.s (BQ (a1 + LD.1)) (BQ ((BQ (a1 + LD.1)) + LD.2.1))) fun (x82 : List UInt8) =>
   some ((⟨iE, x82, []⟩ : A8), (BQ ((BQ (a1 + LD.1)) + LD.2.1)), 0, (⟨a0.s, a1⟩ : BH))
  else
   Option.bind (JI N KR a1 a3 LD N ((BQ (a1 + LD.1)), iE, ([] : List UInt8), [], (⟨a0.s, a1⟩ : BH))) fun (y6 : (UInt8 × List UInt8 × List A8 × BH) ⊕ (A8 × Int × Int × BH)) =>
   Sum.elim (fun (y6 : UInt8 × List UInt8 × List A8 × BH) =>
     some ((⟨y6.1, y6.2.1, (List.map AA y6.2.2.1)⟩ : A8), (BQ ((BQ (a1 + LD.1)) + LD.2.1)), 0, y6.2.2.2)
    ) (fun (y6 : A8 × Int × Int × BH) =>
     some (y6.1, y6.2.1, y6.2.2.1, y6.2.2.2)
    ) y6
def MC (KR : BH → Int → Int → Int → Option (A8 × Int × Int × BH)) (a0 : BH) (a1 : Int) (a3 : Int) (N : Nat) (LD : Int × Int × Int) (iM : Int) : Option (A8 × Int × Int × BH) :=
 Option.bind (
   bif (iM == (10 : Int)) then
    some (decide (a3 > (1 : Int)))
   else
    some false
  ) fun (g7 : Bool) =>
 bif g7 then
  MB KR a0 a1 a3 N LD 11
 else
  MB KR a0 a1 a3 N LD iM
def RX (N : Nat) (KR : BH → Int → Int → Int → Option (A8 × Int × Int × BH)) (a0 : BH) (a1 : Int) (a2 : Int) (a3 : Int) : Option (A8 × Int × Int × BH) :=
 bif decide (a3 > (20 : Int)) then
  some ((⟨(0 : UInt8), ([] : List UInt8), []⟩ : A8), 0, 12, (⟨a0.s, a1⟩ : BH))
 else
  Option.bind (kQ a0.s a1 a2) fun (x34 : List UInt8) =>
  Option.bind (sU N x34) fun (LD : Int × Int × Int) =>
  Option.bind (
    bif (LD.2.2 == (0 : Int)) then
     some (decide (LD.2.1 > (BQ ((BQ (a2 - a1)) - LD.1))))
    else
     some false
   ) fun (g10 : Bool) =>
  bif g10 then
   MC KR a0 a1 a3 N LD 10
  else
   MC KR a0 a1 a3 N LD LD.2.2
def KP (N : Nat) : Nat → BH → Int → Int → Int → Option (A8 × Int × Int × BH)
 | 0 => fun _ _ _ _ => none
 | n + 1 => RX N (KP N n)
def UA (N : Nat) (a0 : BH) (a1 : Int) (a2 : Int) (a3 : Int) : Option (A8 × Int × Int × BH) := KP N N a0 a1 a2 a3
def sS (N : Nat) (a0 : List UInt8) : Option (A8 × Int × Int × Int) :=
 Option.bind (UA N (⟨a0, 0⟩ : BH) 0 (a0.length : Int) 1) fun (EC : A8 × Int × Int × BH) =>
 bif (EC.2.2.1 != (0 : Int)) then
  some ((⟨(0 : UInt8), ([] : List UInt8), []⟩ : A8), 0, EC.2.2.2.at_, EC.2.2.1)
 else
  some (EC.1, EC.2.1, 0, 0)
def SI (N : Nat) (a0 : List UInt8) (rec : (Int × Int) → Option (Int)) : (Int × Int) → Option (Int)
 | (lX, eB) =>
  bif decide (eB < (a0.length : Int)) then
   Option.bind (R4 eB a0.length) fun (x25 : Nat) =>
   Option.bind (a0[x25]?) fun (KZ : UInt8) =>
   rec ((iop .or .i64 (tZ lX 8) ((KZ).toNat : Int)), (BQ (eB + (1 : Int))))
  else
   some lX
def MR (N : Nat) (a0 : List UInt8) : Nat → (Int × Int) → Option (Int)
 | 0, _ => none
 | n + 1, x => SI N a0 (MR N a0 n) x
def QU (a0 : List UInt8) (N : Nat) (v4j6 : Int) : Option (Int × Bool) :=
 Option.bind (MR N a0 N (v4j6, 0)) fun (y2 : Int) =>
 Option.bind (VU N y2) fun (x34 : List UInt8) =>
 bif (!(x34 == a0)) then
  some (0, false)
 else
  some (y2, true)
def V7 (N : Nat) (a0 : List UInt8) : Option (Int × Bool) :=
 Option.bind (
   bif (a0 == ([] : List UInt8)) then
    some true
   else
    some (decide ((a0.length : Int) > (8 : Int)))
  ) fun (g4 : Bool) =>
 bif g4 then
  some (0, false)
 else
  Option.bind (CQ a0 (0 : Int)) fun (EC : UInt8) =>
  bif ((((EC &&& (128 : UInt8))).toNat : Int) != (0 : Int)) then
   QU a0 N (-1)
  else
   QU a0 N 0
def XJ (N : Nat) (a0 : List UInt8) (a1 : Int) : Option (List (List UInt8)) :=
 none
def strings_Index (N : Nat) (a0 : List UInt8) (a1 : List UInt8) : Option (Int) :=
 Option.bind (stringslite_Index N a0 a1) fun (x7 : Int) =>
 some x7
def PZ (N : Nat) (a0 : List UInt8) (a1 : List UInt8) (a2 : Int) (SK : Int) (rec : (List UInt8 × Int × List (List UInt8)) → Option (List UInt8 × Int × List (List UInt8))) : (List UInt8 × Int × List (List UInt8)) → Option (List UInt8 × Int × List (List UInt8))
 | (fO, VA, I8) =>
  bif decide (VA < (BQ ((mn SK (BQ ((a0.length : Int) + (1 : Int)))) - (1 : Int)))) then
   Option.bind (strings_Index N fO a1) fun (x39 : Int) =>
   bif decide (x39 < (0 : Int)) then
    some (fO, VA, I8)
   else
    Option.bind (TN fO (BQ (x39 + a2))) fun (iF : List UInt8) =>
    Option.bind (R4 VA I8.length) fun (bL : Nat) =>
    Option.bind (I8[bL]?) fun (pQ : List UInt8) =>
    Option.bind (U0 fO (BQ (x39 + (a1.length : Int)))) fun (x55 : List UInt8) =>
    rec (x55, (BQ (VA + (1 : Int))), (I8.set bL iF))
  else
   some (fO, VA, I8)
def KF (N : Nat) (a0 : List UInt8) (a1 : List UInt8) (a2 : Int) (SK : Int) : Nat → (List UInt8 × Int × List (List UInt8)) → Option (List UInt8 × Int × List (List UInt8))
 | 0, _ => none
 | n + 1, x => PZ N a0 a1 a2 SK (KF N a0 a1 a2 SK n) x
def N9 (a0 : List UInt8) (a1 : List UInt8) (a2 : Int) (N : Nat) (SK : Int) : Option (List (List UInt8)) :=
 Option.bind (mkN 16 (mn SK (BQ ((a0.length : Int) + (1 : Int))))) fun (x31 : Nat) =>
 Option.bind (KF N a0 a1 a2 SK N (a0, 0, (List.replicate x31 ([] : List UInt8)))) fun (y6 : List UInt8 × Int × List (List UInt8)) =>
 Option.bind (R4 y6.2.1 y6.2.2.length) fun (Qb : Nat) =>
 Option.bind (y6.2.2[Qb]?) fun (Bz : List UInt8) =>
 Option.bind (TN (y6.2.2.set Qb y6.1) (BQ (y6.2.1 + (1 : Int)))) fun (wC : List (List UInt8)) =>
 some wC
def strings_genSplit (N : Nat) (a0 : List UInt8) (a1 : List UInt8) (a2 : Int) (a3 : Int) : Option (List (List UInt8)) :=
 bif (a3 == (0 : Int)) then
  some []
 else
  bif (a1 == ([] : List UInt8)) then
   Option.bind (XJ N a0 a3) fun (OV : List (List UInt8)) =>
   some OV
  else
   bif decide (a3 < (0 : Int)) then
    Option.bind (strings_Count N a0 a1) fun (XV : Int) =>
    N9 a0 a1 a2 N (BQ (XV + (1 : Int)))
   else
    N9 a0 a1 a2 N a3
def strings_Split (N : Nat) (a0 : List UInt8) (a1 : List UInt8) : Option (List (List UInt8)) :=
 Option.bind (strings_genSplit N a0 a1 0 (-1)) fun (x7 : List (List UInt8)) =>
 some x7
def XT (N : Nat) (a0 : List UInt8) (IP : List (List UInt8)) (rec : (Int × List Int) → Option ((List Int) ⊕ (AR × Int))) : (Int × List Int) → Option ((List Int) ⊕ (AR × Int))
 | (WW, QX) =>
  bif decide (WW < (IP.length : Int)) then
   Option.bind (CQ IP WW) fun (WO : List UInt8) =>
   Option.bind (NU N WO 10 64) fun (KZ : Int × Bool) =>
   Option.bind (
     bif KZ.2 then
      some true
     else
      bif decide (KZ.1 < (0 : Int)) then
       some true
      else
       some (decide (KZ.1 > (1099511627776 : Int)))
    ) fun (g3 : Bool) =>
   bif g3 then
    some (Sum.inr ((⟨0, 0, 0⟩ : AR), 14))
   else
    Option.bind (R4 WW 3) fun (Jz : Nat) =>
    Option.bind (QX[Jz]?) fun (Bz : Int) =>
    rec ((BQ (WW + (1 : Int))), (QX.set Jz KZ.1))
  else
   some (Sum.inl QX)
def RH (N : Nat) (a0 : List UInt8) (IP : List (List UInt8)) : Nat → (Int × List Int) → Option ((List Int) ⊕ (AR × Int))
 | 0, _ => none
 | n + 1, x => XT N a0 IP (RH N a0 IP n) x
def ZE (N : Nat) (a0 : List UInt8) : Option (AR × Int) :=
 Option.bind (strings_Split N a0 ([46] : List UInt8)) fun (IP : List (List UInt8)) =>
 bif ((IP.length : Int) != (3 : Int)) then
  some ((⟨0, 0, 0⟩ : AR), 14)
 else
  Option.bind (RH N a0 IP N (0, [0, 0, 0])) fun (y8 : (List Int) ⊕ (AR × Int)) =>
  Sum.elim (fun (y8 : List Int) =>
    Option.bind (y8[0]?) fun (pR : Int) =>
    Option.bind (y8[1]?) fun (dV : Int) =>
    Option.bind (y8[2]?) fun (bL : Int) =>
    Option.bind (
      Option.bind (bD N (⟨pR, dV, bL⟩ : AR)) fun (OU : Bool) =>
      bif !OU then
       some true
      else
       Option.bind (YQ N (⟨pR, dV, bL⟩ : AR)) fun (Kh : List UInt8) =>
       some (!(Kh == a0))
     ) fun (g9 : Bool) =>
    bif g9 then
     some ((⟨0, 0, 0⟩ : AR), 14)
    else
     some ((⟨pR, dV, bL⟩ : AR), 0)
   ) (fun (y8 : AR × Int) =>
    some (y8.1, y8.2)
   ) y8
def UW (N : Nat) (a0 : List UInt8) (KZ : A8 × Int × Int × Int) (OU : Int × Bool) (x81 : AR × Int) (DV : AR × Int) (EZ : AR × Int) (rec : Unit → Option (Unit)) : Unit → Option (Unit)
 | () =>
  some ()
def OQ (N : Nat) (a0 : List UInt8) (KZ : A8 × Int × Int × Int) (OU : Int × Bool) (x81 : AR × Int) (DV : AR × Int) (EZ : AR × Int) : Nat → Unit → Option (Unit)
 | 0, _ => none
 | n + 1, x => UW N a0 KZ OU x81 DV EZ (OQ N a0 KZ OU x81 DV EZ n) x
def UV (N : Nat) (a0 : List UInt8) (KZ : A8 × Int × Int × Int) (x93 : List A8) (rec : (Int × Int × Int × Int × Int × Int × Int × Int × Int × Int × Int × Bool × List AP) → Option (Int × Int × Int × Int × Int × Int × Int × Int × Int × Int × Bool × List AP)) : (Int × Int × Int × Int × Int × Int × Int × Int × Int × Int × Int × Bool × List AP) → Option (Int × Int × Int × Int × Int × Int × Int × Int × Int × Int × Bool × List AP)
 | (WY, PN, PM, PL, PK, PI, PH, PG, PE, PD, P9, NY, TV) =>
  bif decide ((BQ (WY + (1 : Int))) < (x93.length : Int)) then
   Option.bind (CQ x93 WY) fun (x105 : A8) =>
   Option.bind (CQ x93 (BQ (WY + (1 : Int)))) fun (nP : A8) =>
   Option.bind (QK 32 TV [(⟨x105.Body, nP.Body⟩ : AP)]) fun (lC : List AP) =>
   rec ((BQ (WY + (2 : Int))), PN, PM, PL, PK, PI, PH, PG, PE, PD, P9, NY, lC)
  else
   some (PN, PM, PL, PK, PI, PH, PG, PE, PD, P9, NY, TV)
def OP (N : Nat) (a0 : List UInt8) (KZ : A8 × Int × Int × Int) (x93 : List A8) : Nat → (Int × Int × Int × Int × Int × Int × Int × Int × Int × Int × Int × Bool × List AP) → Option (Int × Int × Int × Int × Int × Int × Int × Int × Int × Int × Bool × List AP)
 | 0, _ => none
 | n + 1, x => UV N a0 KZ x93 (OP N a0 KZ x93 n) x
def UT (N : Nat) (a0 : List UInt8) (LF : List A8) (IU : Int) (EM : Int) (EL : Int) (EK : Int) (EJ : Int) (EI : Int) (EH : Int) (EG : Int) (EF : Int) (EE : Int) (ED : Int) (DJ : Bool) (DN : List AP) (E9 : List BC) (x151 : List A8) (rec : (Int × Int × List UInt8 × List (List UInt8)) → Option (Int × List UInt8 × List (List UInt8))) : (Int × Int × List UInt8 × List (List UInt8)) → Option (Int × List UInt8 × List (List UInt8))
 | (YZ, P8, P7, TU) =>
  bif decide (YZ < (x151.length : Int)) then
   Option.bind (CQ x151 YZ) fun (pU : A8) =>
   Option.bind (QK 16 TU [pU.Body]) fun (Kl : List (List UInt8)) =>
   rec ((BQ (YZ + (1 : Int))), P8, P7, Kl)
  else
   some (P8, P7, TU)
def OM (N : Nat) (a0 : List UInt8) (LF : List A8) (IU : Int) (EM : Int) (EL : Int) (EK : Int) (EJ : Int) (EI : Int) (EH : Int) (EG : Int) (EF : Int) (EE : Int) (ED : Int) (DJ : Bool) (DN : List AP) (E9 : List BC) (x151 : List A8) : Nat → (Int × Int × List UInt8 × List (List UInt8)) → Option (Int × List UInt8 × List (List UInt8))
 | 0, _ => none
 | n + 1, x => UT N a0 LF IU EM EL EK EJ EI EH EG EF EE ED DJ DN E9 x151 (OM N a0 LF IU EM EL EK EJ EI EH EG EF EE ED DJ DN E9 x151 n) x
def UU (N : Nat) (a0 : List UInt8) (LF : List A8) (rec : (Int × Int × Int × Int × Int × Int × Int × Int × Int × Int × Int × Bool × List AP × List BC) → Option ((Int × Int × Int × Int × Int × Int × Int × Int × Int × Int × Bool × List AP × List BC) ⊕ (AX × Int))) : (Int × Int × Int × Int × Int × Int × Int × Int × Int × Int × Int × Bool × List AP × List BC) → Option ((Int × Int × Int × Int × Int × Int × Int × Int × Int × Int × Bool × List AP × List BC) ⊕ (AX × Int))
 | (IU, EM, EL, EK, EJ, EI, EH, EG, EF, EE, ED, DJ, DN, E9) =>
  bif decide (IU < (LF.length : Int)) then
   Option.bind (CQ LF IU) fun (bM : A8) =>
   Option.bind (U2 CU bM.Kids) fun (Qg : List A8) =>
   bif decide ((Qg.length : Int) < (2 : Int)) then
    some (Sum.inr ((⟨(⟨0, 0, 0⟩ : AR), 0, (⟨0, 0, 0⟩ : AR), (⟨0, 0, 0⟩ : AR), [], false, []⟩ : AX), 14))
   else
    Option.bind (U2 CU bM.Kids) fun (Qf : List A8) =>
    Option.bind (CQ Qf (0 : Int)) fun (tK : A8) =>
    Option.bind (V7 N tK.Body) fun (tJ : Int × Bool) =>
    Option.bind (U2 CU bM.Kids) fun (Qe : List A8) =>
    Option.bind (CQ Qe (1 : Int)) fun (gG : A8) =>
    Option.bind (U2 CU bM.Kids) fun (x150 : List A8) =>
    Option.bind (U0 x150 (2 : Int)) fun (x151 : List A8) =>
    Option.bind (OM N a0 LF IU EM EL EK EJ EI EH EG EF EE ED DJ DN E9 x151 N (0, tJ.1, gG.Body, [])) fun (dU : Int × List UInt8 × List (List UInt8)) =>
    Option.bind (QK 48 E9 [(⟨dU.1, dU.2.1, dU.2.2⟩ : BC)]) fun (Kk : List BC) =>
    rec ((BQ (IU + (1 : Int))), EM, EL, EK, EJ, EI, EH, EG, EF, EE, ED, DJ, DN, Kk)
  else
   some (Sum.inl (EM, EL, EK, EJ, EI, EH, EG, EF, EE, ED, DJ, DN, E9))
def OO (N : Nat) (a0 : List UInt8) (LF : List A8) : Nat → (Int × Int × Int × Int × Int × Int × Int × Int × Int × Int × Int × Bool × List AP × List BC) → Option ((Int × Int × Int × Int × Int × Int × Int × Int × Int × Int × Bool × List AP × List BC) ⊕ (AX × Int))
 | 0, _ => none
 | n + 1, x => UU N a0 LF (OO N a0 LF n) x
def YT (N : Nat) (a0 : List UInt8) : Option (AX × Int) :=
 Option.bind (sS N a0) fun (KZ : A8 × Int × Int × Int) =>
 Option.bind (
   bif (KZ.2.2.2 != (0 : Int)) then
    some true
   else
    bif (KZ.2.1 != (a0.length : Int)) then
     some true
    else
     Option.bind (U2 CU KZ.1.Kids) fun (x41 : List A8) =>
     some ((x41.length : Int) != (6 : Int))
  ) fun (g1 : Bool) =>
 bif g1 then
  some ((⟨(⟨0, 0, 0⟩ : AR), 0, (⟨0, 0, 0⟩ : AR), (⟨0, 0, 0⟩ : AR), [], false, []⟩ : AX), 14)
 else
  Option.bind (U2 CU KZ.1.Kids) fun (iF : List A8) =>
  Option.bind (CQ iF (0 : Int)) fun (bL : A8) =>
  Option.bind (V7 N bL.Body) fun (OU : Int × Bool) =>
  Option.bind (U2 CU KZ.1.Kids) fun (x75 : List A8) =>
  Option.bind (CQ x75 (1 : Int)) fun (Jw : A8) =>
  Option.bind (ZE N Jw.Body) fun (x81 : AR × Int) =>
  bif (x81.2 != (0 : Int)) then
   some ((⟨(⟨0, 0, 0⟩ : AR), 0, (⟨0, 0, 0⟩ : AR), (⟨0, 0, 0⟩ : AR), [], false, []⟩ : AX), 14)
  else
   Option.bind (U2 CU KZ.1.Kids) fun (nQ : List A8) =>
   Option.bind (CQ nQ (2 : Int)) fun (WQ : A8) =>
   Option.bind (ZE N WQ.Body) fun (DV : AR × Int) =>
   bif (DV.2 != (0 : Int)) then
    some ((⟨(⟨0, 0, 0⟩ : AR), 0, (⟨0, 0, 0⟩ : AR), (⟨0, 0, 0⟩ : AR), [], false, []⟩ : AX), 14)
   else
    Option.bind (U2 CU KZ.1.Kids) fun (nO : List A8) =>
    Option.bind (CQ nO (3 : Int)) fun (WP : A8) =>
    Option.bind (ZE N WP.Body) fun (EZ : AR × Int) =>
    bif (EZ.2 != (0 : Int)) then
     some ((⟨(⟨0, 0, 0⟩ : AR), 0, (⟨0, 0, 0⟩ : AR), (⟨0, 0, 0⟩ : AR), [], false, []⟩ : AX), 14)
    else
     Option.bind (OQ N a0 KZ OU x81 DV EZ N ()) fun (y8 : Unit) =>
     Option.bind (U2 CU KZ.1.Kids) fun (x90 : List A8) =>
     Option.bind (CQ x90 (4 : Int)) fun (x91 : A8) =>
     Option.bind (U2 CU x91.Kids) fun (x93 : List A8) =>
     Option.bind (OP N a0 KZ x93 N (0, x81.1.Time, x81.1.Seq, x81.1.Rep, (mx OU.1 (BQ (0 - OU.1))), DV.1.Time, DV.1.Seq, DV.1.Rep, EZ.1.Time, EZ.1.Seq, EZ.1.Rep, decide (OU.1 < (0 : Int)), [])) fun (LC : Int × Int × Int × Int × Int × Int × Int × Int × Int × Int × Bool × List AP) =>
     Option.bind (U2 CU KZ.1.Kids) fun (Qi : List A8) =>
     Option.bind (CQ Qi (5 : Int)) fun (yV : A8) =>
     Option.bind (U2 CU yV.Kids) fun (LF : List A8) =>
     Option.bind (OO N a0 LF N (0, LC.1, LC.2.1, LC.2.2.1, LC.2.2.2.1, LC.2.2.2.2.1, LC.2.2.2.2.2.1, LC.2.2.2.2.2.2.1, LC.2.2.2.2.2.2.2.1, LC.2.2.2.2.2.2.2.2.1, LC.2.2.2.2.2.2.2.2.2.1, LC.2.2.2.2.2.2.2.2.2.2.1, LC.2.2.2.2.2.2.2.2.2.2.2, [])) fun (C8 : (Int × Int × Int × Int × Int × Int × Int × Int × Int × Int × Bool × List AP × List BC) ⊕ (AX × Int)) =>
     Sum.elim (fun (C8 : Int × Int × Int × Int × Int × Int × Int × Int × Int × Int × Bool × List AP × List BC) =>
       Option.bind (M9 N (⟨(⟨C8.1, C8.2.1, C8.2.2.1⟩ : AR), C8.2.2.2.1, (⟨C8.2.2.2.2.1, C8.2.2.2.2.2.1, C8.2.2.2.2.2.2.1⟩ : AR), (⟨C8.2.2.2.2.2.2.2.1, C8.2.2.2.2.2.2.2.2.1, C8.2.2.2.2.2.2.2.2.2.1⟩ : AR), C8.2.2.2.2.2.2.2.2.2.2.2.1, C8.2.2.2.2.2.2.2.2.2.2.1, C8.2.2.2.2.2.2.2.2.2.2.2.2⟩ : AX)) fun (Qd : List UInt8 × Int) =>
       Option.bind (
         bif (Qd.2 != (0 : Int)) then
          some true
         else
          some (!(Qd.1 == a0))
        ) fun (g16 : Bool) =>
       bif g16 then
        some ((⟨(⟨0, 0, 0⟩ : AR), 0, (⟨0, 0, 0⟩ : AR), (⟨0, 0, 0⟩ : AR), [], false, []⟩ : AX), 14)
       else
        some ((⟨(⟨C8.1, C8.2.1, C8.2.2.1⟩ : AR), C8.2.2.2.1, (⟨C8.2.2.2.2.1, C8.2.2.2.2.2.1, C8.2.2.2.2.2.2.1⟩ : AR), (⟨C8.2.2.2.2.2.2.2.1, C8.2.2.2.2.2.2.2.2.1, C8.2.2.2.2.2.2.2.2.2.1⟩ : AR), C8.2.2.2.2.2.2.2.2.2.2.2.1, C8.2.2.2.2.2.2.2.2.2.2.1, C8.2.2.2.2.2.2.2.2.2.2.2.2⟩ : AX), 0)
      ) (fun (C8 : AX × Int) =>
       some (C8.1, C8.2)
      ) C8
def HZ (N : Nat) (a0 : List AP) (a1 : List AP) (rec : Int → Option (Unit ⊕ Bool)) : Int → Option (Unit ⊕ Bool)
 | v5l14 =>
  bif decide (v5l14 < (a0.length : Int)) then
   Option.bind (CQ a0 v5l14) fun (PR : AP) =>
   Option.bind (CQ a1 v5l14) fun (XV : AP) =>
   bif !(PR.Attr == XV.Attr && (PR.Value == XV.Value && true)) then
    some (Sum.inr false)
   else
    rec (BQ (v5l14 + (1 : Int)))
  else
   some (Sum.inl ())
def F4 (N : Nat) (a0 : List AP) (a1 : List AP) : Nat → Int → Option (Unit ⊕ Bool)
 | 0, _ => none
 | n + 1, x => HZ N a0 a1 (F4 N a0 a1 n) x
def KX (N : Nat) (a0 : List AP) (a1 : List AP) : Option (Bool) :=
 bif ((a0.length : Int) != (a1.length : Int)) then
  some false
 else
  Option.bind (F4 N a0 a1 N 0) fun (y4 : Unit ⊕ Bool) =>
  Sum.elim (fun (y4 : Unit) =>
    some true
   ) (fun (y4 : Bool) =>
    some y4
   ) y4
def GD (N : Nat) (a0 : AX) (a1 : AX) (v5l14 : Int) (x69 : BC) (QN : BC) (rec : Int → Option (Unit ⊕ Bool)) : Int → Option (Unit ⊕ Bool)
 | v8l36 =>
  bif decide (v8l36 < (x69.Values.length : Int)) then
   Option.bind (CQ x69.Values v8l36) fun (x107 : List UInt8) =>
   Option.bind (CQ QN.Values v8l36) fun (x112 : List UInt8) =>
   bif (!(x107 == x112)) then
    some (Sum.inr false)
   else
    rec (BQ (v8l36 + (1 : Int)))
  else
   some (Sum.inl ())
def DY (N : Nat) (a0 : AX) (a1 : AX) (v5l14 : Int) (x69 : BC) (QN : BC) : Nat → Int → Option (Unit ⊕ Bool)
 | 0, _ => none
 | n + 1, x => GD N a0 a1 v5l14 x69 QN (DY N a0 a1 v5l14 x69 QN n) x
def GG (N : Nat) (a0 : AX) (a1 : AX) (rec : Int → Option (Unit ⊕ Bool)) : Int → Option (Unit ⊕ Bool)
 | v5l14 =>
  bif decide (v5l14 < (a0.Mods.length : Int)) then
   Option.bind (CQ a0.Mods v5l14) fun (x69 : BC) =>
   Option.bind (CQ a1.Mods v5l14) fun (QN : BC) =>
   Option.bind (
     bif (x69.Kind != QN.Kind) then
      some true
     else
      bif (!(x69.Attr == QN.Attr)) then
       some true
      else
       some ((x69.Values.length : Int) != (QN.Values.length : Int))
    ) fun (g10 : Bool) =>
   bif g10 then
    some (Sum.inr false)
   else
    Option.bind (DY N a0 a1 v5l14 x69 QN N 0) fun (Oi : Unit ⊕ Bool) =>
    Sum.elim (fun (Oi : Unit) =>
      rec (BQ (v5l14 + (1 : Int)))
     ) (fun (Oi : Bool) =>
      some (Sum.inr Oi)
     ) Oi
  else
   some (Sum.inl ())
def DZ (N : Nat) (a0 : AX) (a1 : AX) : Nat → Int → Option (Unit ⊕ Bool)
 | 0, _ => none
 | n + 1, x => GG N a0 a1 (DZ N a0 a1 n) x
def GM (N : Nat) (a0 : AX) (a1 : AX) : Option (Bool) :=
 Option.bind (
   bif !(a0.CSN.Time == a1.CSN.Time && (a0.CSN.Seq == a1.CSN.Seq && (a0.CSN.Rep == a1.CSN.Rep && true))) then
    some true
   else
    bif (a0.Kind != a1.Kind) then
     some true
    else
     bif !(a0.ID.Time == a1.ID.Time && (a0.ID.Seq == a1.ID.Seq && (a0.ID.Rep == a1.ID.Rep && true))) then
      some true
     else
      bif !(a0.Parent.Time == a1.Parent.Time && (a0.Parent.Seq == a1.Parent.Seq && (a0.Parent.Rep == a1.Parent.Rep && true))) then
       some true
      else
       bif !(a0.DelOld == a1.DelOld) then
        some true
       else
        Option.bind (KX N a0.RDN a1.RDN) fun (dV : Bool) =>
        bif !dV then
         some true
        else
         some ((a0.Mods.length : Int) != (a1.Mods.length : Int))
  ) fun (g1 : Bool) =>
 bif g1 then
  some false
 else
  Option.bind (DZ N a0 a1 N 0) fun (pM : Unit ⊕ Bool) =>
  Sum.elim (fun (pM : Unit) =>
    some true
   ) (fun (pM : Bool) =>
    some pM
   ) pM
def UX (N : Nat) (KW : List BC) (rec : (Int × Int × Int × Int × Int × Int × Int × Int × Int × Int × Int × Bool × List AP × List BC) → Option (Int × Int × Int × Int × Int × Int × Int × Int × Int × Int × Bool × List AP × List BC)) : (Int × Int × Int × Int × Int × Int × Int × Int × Int × Int × Int × Bool × List AP × List BC) → Option (Int × Int × Int × Int × Int × Int × Int × Int × Int × Int × Bool × List AP × List BC)
 | (aK, NJ, NI, NH, NG, NF, NE, ND, NC, NB, NA, LQ, PO, H6) =>
  bif decide (aK < (KW.length : Int)) then
   Option.bind (R4 aK H6.length) fun (PR : Nat) =>
   Option.bind (H6[PR]?) fun (x20 : BC) =>
   Option.bind (YS 16 x20.Values) fun (KZ : List (List UInt8)) =>
   Option.bind (R4 aK H6.length) fun (x27 : Nat) =>
   Option.bind (H6[x27]?) fun (VN : BC) =>
   rec ((BQ (aK + (1 : Int))), NJ, NI, NH, NG, NF, NE, ND, NC, NB, NA, LQ, PO, (H6.set x27 (⟨VN.Kind, VN.Attr, KZ⟩ : BC)))
  else
   some (NJ, NI, NH, NG, NF, NE, ND, NC, NB, NA, LQ, PO, H6)
def OT (N : Nat) (KW : List BC) : Nat → (Int × Int × Int × Int × Int × Int × Int × Int × Int × Int × Int × Bool × List AP × List BC) → Option (Int × Int × Int × Int × Int × Int × Int × Int × Int × Int × Bool × List AP × List BC)
 | 0, _ => none
 | n + 1, x => UX N KW (OT N KW n) x
def gB (N : Nat) (a0 : AX) : Option (AX) :=
 Option.bind (YS 32 a0.RDN) fun (x7 : List AP) =>
 Option.bind (YS 48 a0.Mods) fun (KW : List BC) =>
 Option.bind (OT N KW N (0, a0.CSN.Time, a0.CSN.Seq, a0.CSN.Rep, a0.Kind, a0.ID.Time, a0.ID.Seq, a0.ID.Rep, a0.Parent.Time, a0.Parent.Seq, a0.Parent.Rep, a0.DelOld, x7, KW)) fun (y3 : Int × Int × Int × Int × Int × Int × Int × Int × Int × Int × Bool × List AP × List BC) =>
 some (⟨(⟨y3.1, y3.2.1, y3.2.2.1⟩ : AR), y3.2.2.2.1, (⟨y3.2.2.2.2.1, y3.2.2.2.2.2.1, y3.2.2.2.2.2.2.1⟩ : AR), (⟨y3.2.2.2.2.2.2.2.1, y3.2.2.2.2.2.2.2.2.1, y3.2.2.2.2.2.2.2.2.2.1⟩ : AR), y3.2.2.2.2.2.2.2.2.2.2.2.1, y3.2.2.2.2.2.2.2.2.2.2.1, y3.2.2.2.2.2.2.2.2.2.2.2.2⟩ : AX)
def FR (N : Nat) (a0 : List (List UInt8)) (a1 : List (List UInt8)) (rec : Int → Option (Unit ⊕ Bool)) : Int → Option (Unit ⊕ Bool)
 | v13l14 =>
  bif decide (v13l14 < (a0.length : Int)) then
   Option.bind (CQ a0 v13l14) fun (OV : List UInt8) =>
   Option.bind (CQ a1 v13l14) fun (WO : List UInt8) =>
   bif (!(OV == WO)) then
    some (Sum.inr false)
   else
    rec (BQ (v13l14 + (1 : Int)))
  else
   some (Sum.inl ())
def D6 (N : Nat) (a0 : List (List UInt8)) (a1 : List (List UInt8)) : Nat → Int → Option (Unit ⊕ Bool)
 | 0, _ => none
 | n + 1, x => FR N a0 a1 (D6 N a0 a1 n) x
def GR (N : Nat) (a0 : List (List UInt8)) (a1 : List (List UInt8)) : Option (Bool) :=
 bif ((a0.length : Int) != (a1.length : Int)) then
  some false
 else
  Option.bind (D6 N a0 a1 N 0) fun (y4 : Unit ⊕ Bool) =>
  Sum.elim (fun (y4 : Unit) =>
    some true
   ) (fun (y4 : Bool) =>
    some y4
   ) y4
def RI (N : Nat) (a0 : BC) (a1 : BC) : Option (Bool) :=
 Option.bind (
   bif (a0.Kind == a1.Kind) then
    bif (a0.Attr == a1.Attr) then
     Option.bind (GR N a0.Values a1.Values) fun (WO : Bool) =>
     some WO
    else
     some false
   else
    some false
  ) fun (g1 : Bool) =>
 some g1
def BU (N : Nat) (a0 : List BC) (a1 : List BC) (rec : Int → Option (Unit ⊕ Bool)) : Int → Option (Unit ⊕ Bool)
 | v17l14 =>
  bif decide (v17l14 < (a0.length : Int)) then
   Option.bind (CQ a0 v17l14) fun (x20 : BC) =>
   Option.bind (CQ a1 v17l14) fun (x24 : BC) =>
   Option.bind (RI N x20 x24) fun (x29 : Bool) =>
   bif !x29 then
    some (Sum.inr false)
   else
    rec (BQ (v17l14 + (1 : Int)))
  else
   some (Sum.inl ())
def BG (N : Nat) (a0 : List BC) (a1 : List BC) : Nat → Int → Option (Unit ⊕ Bool)
 | 0, _ => none
 | n + 1, x => BU N a0 a1 (BG N a0 a1 n) x
def BZ (N : Nat) (a0 : List BC) (a1 : List BC) : Option (Bool) :=
 bif ((a0.length : Int) != (a1.length : Int)) then
  some false
 else
  Option.bind (BG N a0 a1 N 0) fun (y4 : Unit ⊕ Bool) =>
  Sum.elim (fun (y4 : Unit) =>
    some true
   ) (fun (y4 : Bool) =>
    some y4
   ) y4
def FD (N : Nat) (a0 : List AP) (a1 : List AP) (rec : Int → Option (Unit ⊕ Bool)) : Int → Option (Unit ⊕ Bool)
 | v13l14 =>
  bif decide (v13l14 < (a0.length : Int)) then
   Option.bind (CQ a0 v13l14) fun (OV : AP) =>
   Option.bind (CQ a1 v13l14) fun (WO : AP) =>
   bif !(OV.Attr == WO.Attr && (OV.Value == WO.Value && true)) then
    some (Sum.inr false)
   else
    rec (BQ (v13l14 + (1 : Int)))
  else
   some (Sum.inl ())
def CY (N : Nat) (a0 : List AP) (a1 : List AP) : Nat → Int → Option (Unit ⊕ Bool)
 | 0, _ => none
 | n + 1, x => FD N a0 a1 (CY N a0 a1 n) x
def GJ (N : Nat) (a0 : List AP) (a1 : List AP) : Option (Bool) :=
 bif ((a0.length : Int) != (a1.length : Int)) then
  some false
 else
  Option.bind (CY N a0 a1 N 0) fun (y4 : Unit ⊕ Bool) =>
  Sum.elim (fun (y4 : Unit) =>
    some true
   ) (fun (y4 : Bool) =>
    some y4
   ) y4
def RV (N : Nat) (a0 : AX) (a1 : AX) : Option (Bool) :=
 Option.bind (BZ N a0.Mods a1.Mods) fun (R9 : Bool) =>
 Option.bind (
   bif (a0.CSN.Time == a1.CSN.Time && (a0.CSN.Seq == a1.CSN.Seq && (a0.CSN.Rep == a1.CSN.Rep && true))) then
    bif (a0.Kind == a1.Kind) then
     bif (a0.ID.Time == a1.ID.Time && (a0.ID.Seq == a1.ID.Seq && (a0.ID.Rep == a1.ID.Rep && true))) then
      bif (a0.Parent.Time == a1.Parent.Time && (a0.Parent.Seq == a1.Parent.Seq && (a0.Parent.Rep == a1.Parent.Rep && true))) then
       Option.bind (GJ N a0.RDN a1.RDN) fun (Jz : Bool) =>
       bif Jz then
        bif (a0.DelOld == a1.DelOld) then
         some R9
        else
         some false
       else
        some false
      else
       some false
     else
      some false
    else
     some false
   else
    some false
  ) fun (g1 : Bool) =>
 some g1
def OY (N : Nat)  : Option (Bool) :=
 Option.bind (M9 N (⟨(⟨2, 0, 0⟩ : AR), 2, (⟨1, 0, 0⟩ : AR), (⟨0, 0, 0⟩ : AR), [], false, []⟩ : AX)) fun (N7 : List UInt8 × Int) =>
 Option.bind (YT N N7.1) fun (x20 : AX × Int) =>
 Option.bind (M9 N (⟨(⟨0, 0, 0⟩ : AR), 0, (⟨0, 0, 0⟩ : AR), (⟨0, 0, 0⟩ : AR), [], false, []⟩ : AX)) fun (x25 : List UInt8 × Int) =>
 Option.bind (YT N ([] : List UInt8)) fun (x29 : AX × Int) =>
 Option.bind (
   bif (N7.2 == (0 : Int)) then
    bif (x20.2 == (0 : Int)) then
     Option.bind (GM N (⟨(⟨2, 0, 0⟩ : AR), 2, (⟨1, 0, 0⟩ : AR), (⟨0, 0, 0⟩ : AR), [], false, []⟩ : AX) x20.1) fun (x41 : Bool) =>
     bif x41 then
      bif (x25.2 == (14 : Int)) then
       bif (x29.2 == (14 : Int)) then
        Option.bind (R5 N (⟨(⟨2, 0, 0⟩ : AR), 2, (⟨1, 0, 0⟩ : AR), (⟨0, 0, 0⟩ : AR), [], false, []⟩ : AX)) fun (x53 : Bool) =>
        bif x53 then
         Option.bind (R5 N (⟨(⟨0, 0, 0⟩ : AR), 0, (⟨0, 0, 0⟩ : AR), (⟨0, 0, 0⟩ : AR), [], false, []⟩ : AX)) fun (x57 : Bool) =>
         bif !x57 then
          Option.bind (gB N (⟨(⟨2, 0, 0⟩ : AR), 2, (⟨1, 0, 0⟩ : AR), (⟨0, 0, 0⟩ : AR), [], false, []⟩ : AX)) fun (x63 : AX) =>
          Option.bind (RV N (⟨(⟨2, 0, 0⟩ : AR), 2, (⟨1, 0, 0⟩ : AR), (⟨0, 0, 0⟩ : AR), [], false, []⟩ : AX) x63) fun (x64 : Bool) =>
          some x64
         else
          some false
        else
         some false
       else
        some false
      else
       some false
     else
      some false
    else
     some false
   else
    some false
  ) fun (g1 : Bool) =>
 some g1
def H5 (N : Nat) (a0 : List BC) (v3l6 : Int) (rec : Int → Option (Unit ⊕ Bool)) : Int → Option (Unit ⊕ Bool)
 | v4l26 =>
  Option.bind (CQ a0 v3l6) fun (x30 : BC) =>
  bif decide (v4l26 < (x30.Values.length : Int)) then
   Option.bind (CQ a0 v3l6) fun (x39 : BC) =>
   Option.bind (CQ x39.Values v4l26) fun (x43 : List UInt8) =>
   bif decide ((x43.length : Int) > (80 : Int)) then
    some (Sum.inr false)
   else
    rec (BQ (v4l26 + (1 : Int)))
  else
   some (Sum.inl ())
def ET (N : Nat) (a0 : List BC) (v3l6 : Int) : Nat → Int → Option (Unit ⊕ Bool)
 | 0, _ => none
 | n + 1, x => H5 N a0 v3l6 (ET N a0 v3l6 n) x
def I1 (N : Nat) (a0 : List BC) (rec : Int → Option (Unit ⊕ Bool)) : Int → Option (Unit ⊕ Bool)
 | v3l6 =>
  bif decide (v3l6 < (a0.length : Int)) then
   Option.bind (
     Option.bind (CQ a0 v3l6) fun (MF : BC) =>
     bif decide ((MF.Attr.length : Int) > (30 : Int)) then
      some true
     else
      Option.bind (CQ a0 v3l6) fun (V3 : BC) =>
      some (decide ((V3.Values.length : Int) > (20 : Int)))
    ) fun (g2 : Bool) =>
   bif g2 then
    some (Sum.inr false)
   else
    Option.bind (ET N a0 v3l6 N 0) fun (y7 : Unit ⊕ Bool) =>
    Sum.elim (fun (y7 : Unit) =>
      rec (BQ (v3l6 + (1 : Int)))
     ) (fun (y7 : Bool) =>
      some (Sum.inr y7)
     ) y7
  else
   some (Sum.inl ())
def F5 (N : Nat) (a0 : List BC) : Nat → Int → Option (Unit ⊕ Bool)
 | 0, _ => none
 | n + 1, x => I1 N a0 (F5 N a0 n) x
def NL (N : Nat) (a0 : List BC) : Option (Bool) :=
 Option.bind (F5 N a0 N 0) fun (y8 : Unit ⊕ Bool) =>
 Sum.elim (fun (y8 : Unit) =>
   some (decide ((a0.length : Int) ≤ (14 : Int)))
  ) (fun (y8 : Bool) =>
   some y8
  ) y8
def II (N : Nat) (a0 : List AP) (rec : Int → Option (Unit ⊕ Bool)) : Int → Option (Unit ⊕ Bool)
 | v3l6 =>
  bif decide (v3l6 < (a0.length : Int)) then
   Option.bind (
     Option.bind (CQ a0 v3l6) fun (IP : AP) =>
     bif decide ((IP.Attr.length : Int) > (30 : Int)) then
      some true
     else
      Option.bind (CQ a0 v3l6) fun (x20 : AP) =>
      some (decide ((x20.Value.length : Int) > (80 : Int)))
    ) fun (g2 : Bool) =>
   bif g2 then
    some (Sum.inr false)
   else
    rec (BQ (v3l6 + (1 : Int)))
  else
   some (Sum.inl ())
def FH (N : Nat) (a0 : List AP) : Nat → Int → Option (Unit ⊕ Bool)
 | 0, _ => none
 | n + 1, x => II N a0 (FH N a0 n) x
def OA (N : Nat) (a0 : List AP) : Option (Bool) :=
 Option.bind (FH N a0 N 0) fun (y5 : Unit ⊕ Bool) =>
 Sum.elim (fun (y5 : Unit) =>
   some (decide ((a0.length : Int) ≤ (6 : Int)))
  ) (fun (y5 : Bool) =>
   some y5
  ) y5
def JK (N : Nat) (a0 : AX) : Option (Bool) :=
 Option.bind (
   Option.bind (NL N a0.Mods) fun (x5 : Bool) =>
   bif x5 then
    Option.bind (OA N a0.RDN) fun (x9 : Bool) =>
    some x9
   else
    some false
  ) fun (g1 : Bool) =>
 some g1
def MH (N : Nat) (a0 : AR) : Option (Bool) :=
 Option.bind (
   bif decide (a0.Time ≥ (0 : Int)) then
    bif decide (a0.Time ≤ (1099511627776 : Int)) then
     bif decide (a0.Seq ≥ (0 : Int)) then
      bif decide (a0.Seq ≤ (65535 : Int)) then
       bif decide (a0.Rep ≥ (0 : Int)) then
        some (decide (a0.Rep < (6 : Int)))
       else
        some false
      else
       some false
     else
      some false
    else
     some false
   else
    some false
  ) fun (g1 : Bool) =>
 some g1
def GZ (N : Nat) (a0 : AR) : Option (Bool) :=
 some (a0.Time == (0 : Int) && (a0.Seq == (0 : Int) && (a0.Rep == (0 : Int) && true)))
def L9 (N : Nat) (a0 : AR) (a1 : AR) : Option (Int) :=
 Option.bind (
   bif decide (a0.Time < a1.Time) then
    some true
   else
    bif (a0.Time == a1.Time) then
     bif decide (a0.Seq < a1.Seq) then
      some true
     else
      bif (a0.Seq == a1.Seq) then
       some (decide (a0.Rep < a1.Rep))
      else
       some false
    else
     some false
  ) fun (g1 : Bool) =>
 bif g1 then
  some (-1)
 else
  bif (a0.Time == a1.Time && (a0.Seq == a1.Seq && (a0.Rep == a1.Rep && true))) then
   some 0
  else
   some 1
def IG (N : Nat) (a0 : List UInt8) (rec : Int → Option (Unit ⊕ Bool)) : Int → Option (Unit ⊕ Bool)
 | v3l14 =>
  bif decide (v3l14 < (a0.length : Int)) then
   Option.bind (CQ a0 v3l14) fun (x31 : UInt8) =>
   Option.bind (
     bif decide (((x31).toNat : Int) < (97 : Int)) then
      bif decide (((x31).toNat : Int) < (48 : Int)) then
       some (((x31).toNat : Int) != (45 : Int))
      else
       bif decide (((x31).toNat : Int) > (57 : Int)) then
        some (((x31).toNat : Int) != (45 : Int))
       else
        some false
     else
      bif decide (((x31).toNat : Int) > (122 : Int)) then
       bif decide (((x31).toNat : Int) < (48 : Int)) then
        some (((x31).toNat : Int) != (45 : Int))
       else
        bif decide (((x31).toNat : Int) > (57 : Int)) then
         some (((x31).toNat : Int) != (45 : Int))
        else
         some false
      else
       some false
    ) fun (g7 : Bool) =>
   bif g7 then
    some (Sum.inr false)
   else
    rec (BQ (v3l14 + (1 : Int)))
  else
   some (Sum.inl ())
def FE (N : Nat) (a0 : List UInt8) : Nat → Int → Option (Unit ⊕ Bool)
 | 0, _ => none
 | n + 1, x => IG N a0 (FE N a0 n) x
def LY (N : Nat) (a0 : List UInt8) : Option (Bool) :=
 Option.bind (
   bif decide ((a0.length : Int) < (1 : Int)) then
    some true
   else
    bif decide ((a0.length : Int) > (16 : Int)) then
     some true
    else
     Option.bind (CQ a0 (0 : Int)) fun (N7 : UInt8) =>
     bif decide (((N7).toNat : Int) < (97 : Int)) then
      some true
     else
      Option.bind (CQ a0 (0 : Int)) fun (x20 : UInt8) =>
      some (decide (((x20).toNat : Int) > (122 : Int)))
  ) fun (g1 : Bool) =>
 bif g1 then
  some false
 else
  Option.bind (FE N a0 N 0) fun (C8 : Unit ⊕ Bool) =>
  Sum.elim (fun (C8 : Unit) =>
    some true
   ) (fun (C8 : Bool) =>
    some C8
   ) C8
def IW (N : Nat) (a0 : List AP) (v3l14 : Int) (rec : Int → Option (Unit ⊕ Bool)) : Int → Option (Unit ⊕ Bool)
 | v4l34 =>
  bif decide (v4l34 < v3l14) then
   Option.bind (CQ a0 v4l34) fun (Ki : AP) =>
   Option.bind (CQ a0 v3l14) fun (Kh : AP) =>
   bif (Ki.Attr == Kh.Attr) then
    some (Sum.inr false)
   else
    rec (BQ (v4l34 + (1 : Int)))
  else
   some (Sum.inl ())
def FM (N : Nat) (a0 : List AP) (v3l14 : Int) : Nat → Int → Option (Unit ⊕ Bool)
 | 0, _ => none
 | n + 1, x => IW N a0 v3l14 (FM N a0 v3l14 n) x
def IX (N : Nat) (a0 : List AP) (rec : Int → Option (Unit ⊕ Bool)) : Int → Option (Unit ⊕ Bool)
 | v3l14 =>
  bif decide (v3l14 < (a0.length : Int)) then
   Option.bind (
     Option.bind (CQ a0 v3l14) fun (V3 : AP) =>
     Option.bind (LY N V3.Attr) fun (x24 : Bool) =>
     bif !x24 then
      some true
     else
      Option.bind (CQ a0 v3l14) fun (x29 : AP) =>
      bif decide ((x29.Value.length : Int) < (1 : Int)) then
       some true
      else
       Option.bind (CQ a0 v3l14) fun (x38 : AP) =>
       some (decide ((x38.Value.length : Int) > (60 : Int)))
    ) fun (g5 : Bool) =>
   bif g5 then
    some (Sum.inr false)
   else
    Option.bind (FM N a0 v3l14 N 0) fun (Bq : Unit ⊕ Bool) =>
    Sum.elim (fun (Bq : Unit) =>
      rec (BQ (v3l14 + (1 : Int)))
     ) (fun (Bq : Bool) =>
      some (Sum.inr Bq)
     ) Bq
  else
   some (Sum.inl ())
def FN (N : Nat) (a0 : List AP) : Nat → Int → Option (Unit ⊕ Bool)
 | 0, _ => none
 | n + 1, x => IX N a0 (FN N a0 n) x
def IY (N : Nat) (a0 : List AP) : Option (Bool) :=
 Option.bind (
   bif decide ((a0.length : Int) < (1 : Int)) then
    some true
   else
    some (decide ((a0.length : Int) > (4 : Int)))
  ) fun (g1 : Bool) =>
 bif g1 then
  some false
 else
  Option.bind (FN N a0 N 0) fun (pO : Unit ⊕ Bool) =>
  Sum.elim (fun (pO : Unit) =>
    some true
   ) (fun (pO : Bool) =>
    some pO
   ) pO
def SA (N : Nat)  : Option (List BB) :=
 some [(⟨([97, 99, 105] : List UInt8), 2, false⟩ : BB), (⟨([99] : List UInt8), 1, true⟩ : BB), (⟨([99, 110] : List UInt8), 1, false⟩ : BB), (⟨([100, 99] : List UInt8), 1, false⟩ : BB), (⟨([100, 101, 115, 99, 114, 105, 112, 116, 105, 111, 110] : List UInt8), 1, false⟩ : BB), (⟨([101, 110, 116, 114, 121, 105, 100] : List UInt8), 2, true⟩ : BB), (⟨([109, 97, 105, 108] : List UInt8), 2, false⟩ : BB), (⟨([109, 101, 109, 98, 101, 114] : List UInt8), 5, false⟩ : BB), (⟨([111] : List UInt8), 1, false⟩ : BB), (⟨([111, 117] : List UInt8), 1, false⟩ : BB), (⟨([115, 110] : List UInt8), 1, false⟩ : BB), (⟨([116, 105, 116, 108, 101] : List UInt8), 1, true⟩ : BB), (⟨([117, 105, 100] : List UInt8), 1, false⟩ : BB), (⟨([117, 105, 100, 110, 117, 109, 98, 101, 114] : List UInt8), 3, true⟩ : BB), (⟨([117, 115, 101, 114, 112, 97, 115, 115, 119, 111, 114, 100] : List UInt8), 4, false⟩ : BB)]
def JX (aJ : Int) (rec : (Int × List UInt8) → Option (List UInt8)) (aS : List UInt8) : Option (List UInt8) :=
 rec ((BQ (aJ + (1 : Int))), aS)
def JE (N : Nat) (rec : (Int × List UInt8) → Option (List UInt8)) : (Int × List UInt8) → Option (List UInt8)
 | (aJ, FK) =>
  bif decide (aJ < (FK.length : Int)) then
   Option.bind (
     Option.bind (R4 aJ FK.length) fun (N7 : Nat) =>
     Option.bind (FK[N7]?) fun (Y4 : UInt8) =>
     bif decide (((Y4).toNat : Int) ≥ (65 : Int)) then
      Option.bind (R4 aJ FK.length) fun (V3 : Nat) =>
      Option.bind (FK[V3]?) fun (WO : UInt8) =>
      some (decide (((WO).toNat : Int) ≤ (90 : Int)))
     else
      some false
    ) fun (g2 : Bool) =>
   bif g2 then
    Option.bind (R4 aJ FK.length) fun (x29 : Nat) =>
    Option.bind (FK[x29]?) fun (x30 : UInt8) =>
    Option.bind (R4 aJ FK.length) fun (x32 : Nat) =>
    Option.bind (FK[x32]?) fun (pQ : UInt8) =>
    JX aJ rec (FK.set x32 (x30 + (32 : UInt8)))
   else
    JX aJ rec FK
  else
   some FK
def FC (N : Nat) : Nat → (Int × List UInt8) → Option (List UInt8)
 | 0, _ => none
 | n + 1, x => JE N (FC N n) x
def KI (N : Nat) (a0 : List UInt8) : Option (List UInt8) :=
 Option.bind (FC N N (0, a0)) fun (y6 : List UInt8) =>
 some y6
def JY (N : Nat) (a0 : List UInt8) (x6 : List BB) (rec : Int → Option (Unit ⊕ (BB × Bool))) : Int → Option (Unit ⊕ (BB × Bool))
 | v5l8 =>
  bif decide (v5l8 < (x6.length : Int)) then
   Option.bind (CQ x6 v5l8) fun (N7 : BB) =>
   Option.bind (KI N a0) fun (PR : List UInt8) =>
   bif (N7.Name == PR) then
    Option.bind (CQ x6 v5l8) fun (XV : BB) =>
    some (Sum.inr (XV, true))
   else
    rec (BQ (v5l8 + (1 : Int)))
  else
   some (Sum.inl ())
def G9 (N : Nat) (a0 : List UInt8) (x6 : List BB) : Nat → Int → Option (Unit ⊕ (BB × Bool))
 | 0, _ => none
 | n + 1, x => JY N a0 x6 (G9 N a0 x6 n) x
def L8 (N : Nat) (a0 : List UInt8) : Option (BB × Bool) :=
 Option.bind (SA N) fun (x6 : List BB) =>
 Option.bind (G9 N a0 x6 N 0) fun (y3 : Unit ⊕ (BB × Bool)) =>
 Sum.elim (fun (y3 : Unit) =>
   some ((⟨([] : List UInt8), 0, false⟩ : BB), false)
  ) (fun (y3 : BB × Bool) =>
   some (y3.1, y3.2)
  ) y3
def IZ (N : Nat) (V9 : List UInt8) (rec : Int → Option (Unit ⊕ Bool)) : Int → Option (Unit ⊕ Bool)
 | v4l30 =>
  bif decide (v4l30 < (V9.length : Int)) then
   Option.bind (
     Option.bind (CQ V9 v4l30) fun (x44 : UInt8) =>
     bif decide (((x44).toNat : Int) < (48 : Int)) then
      some true
     else
      Option.bind (CQ V9 v4l30) fun (bL : UInt8) =>
      some (decide (((bL).toNat : Int) > (57 : Int)))
    ) fun (g7 : Bool) =>
   bif g7 then
    some (Sum.inr false)
   else
    rec (BQ (v4l30 + (1 : Int)))
  else
   some (Sum.inl ())
def FO (N : Nat) (V9 : List UInt8) : Nat → Int → Option (Unit ⊕ Bool)
 | 0, _ => none
 | n + 1, x => IZ N V9 (FO N V9 n) x
def IK (N : Nat) (V9 : List UInt8) : Option (Bool) :=
 Option.bind (
   bif decide ((V9.length : Int) < (1 : Int)) then
    some true
   else
    bif decide ((V9.length : Int) > (15 : Int)) then
     some true
    else
     bif decide ((V9.length : Int) > (1 : Int)) then
      Option.bind (CQ V9 (0 : Int)) fun (x32 : UInt8) =>
      some (((x32).toNat : Int) == (48 : Int))
     else
      some false
  ) fun (g1 : Bool) =>
 bif g1 then
  some false
 else
  Option.bind (FO N V9 N 0) fun (LC : Unit ⊕ Bool) =>
  Sum.elim (fun (LC : Unit) =>
    some true
   ) (fun (LC : Bool) =>
    some LC
   ) LC
def MX (N : Nat) (a0 : List UInt8) : Option (Bool) :=
 Option.bind (
   bif decide ((a0.length : Int) > (0 : Int)) then
    Option.bind (CQ a0 (0 : Int)) fun (KW : UInt8) =>
    some (((KW).toNat : Int) == (45 : Int))
   else
    some false
  ) fun (g11 : Bool) =>
 bif g11 then
  Option.bind (U0 a0 (1 : Int)) fun (N7 : List UInt8) =>
  bif (N7 == ([48] : List UInt8)) then
   some false
  else
   IK N N7
 else
  IK N a0
def JA (rec : (Int × Int × List (List UInt8)) → Option (Int × List (List UInt8))) (iK : Int) (bU : Int) (aR : List (List UInt8)) : Option (Int × List (List UInt8)) :=
 rec (iK, (BQ (bU + (1 : Int))), aR)
def MO (N : Nat) (a0 : List UInt8) (a1 : UInt8) (rec : (Int × Int × List (List UInt8)) → Option (Int × List (List UInt8))) : (Int × Int × List (List UInt8)) → Option (Int × List (List UInt8))
 | (G6, K6, LV) =>
  bif decide (K6 < (a0.length : Int)) then
   Option.bind (CQ a0 K6) fun (Y4 : UInt8) =>
   bif (((Y4).toNat : Int) == (92 : Int)) then
    JA rec G6 (BQ (K6 + (1 : Int))) LV
   else
    Option.bind (CQ a0 K6) fun (WO : UInt8) =>
    bif (((WO).toNat : Int) == ((a1).toNat : Int)) then
     Option.bind (kQ a0 G6 K6) fun (x29 : List UInt8) =>
     Option.bind (QK 16 LV [x29]) fun (x31 : List (List UInt8)) =>
     JA rec (BQ (K6 + (1 : Int))) K6 x31
    else
     JA rec G6 K6 LV
  else
   some (G6, LV)
def G8 (N : Nat) (a0 : List UInt8) (a1 : UInt8) : Nat → (Int × Int × List (List UInt8)) → Option (Int × List (List UInt8))
 | 0, _ => none
 | n + 1, x => MO N a0 a1 (G8 N a0 a1 n) x
def KC (N : Nat) (a0 : List UInt8) (a1 : UInt8) : Option (List (List UInt8)) :=
 Option.bind (G8 N a0 a1 N (0, 0, [])) fun (y4 : Int × List (List UInt8)) =>
 Option.bind (U0 a0 y4.1) fun (x37 : List UInt8) =>
 Option.bind (QK 16 y4.2 [x37]) fun (x39 : List (List UInt8)) =>
 some x39
def H7 (N : Nat) (a0 : UInt8) : Option (Bool) :=
 Option.bind (
   bif (((a0).toNat : Int) == (44 : Int)) then
    some true
   else
    bif (((a0).toNat : Int) == (43 : Int)) then
     some true
    else
     bif (((a0).toNat : Int) == (34 : Int)) then
      some true
     else
      bif (((a0).toNat : Int) == (92 : Int)) then
       some true
      else
       bif (((a0).toNat : Int) == (60 : Int)) then
        some true
       else
        bif (((a0).toNat : Int) == (62 : Int)) then
         some true
        else
         some (((a0).toNat : Int) == (59 : Int))
  ) fun (g1 : Bool) =>
 some g1
def GA (N : Nat) (a0 : UInt8) : Option (Int) :=
 Option.bind (
   bif decide (((a0).toNat : Int) ≥ (48 : Int)) then
    some (decide (((a0).toNat : Int) ≤ (57 : Int)))
   else
    some false
  ) fun (g1 : Bool) =>
 bif g1 then
  some (((a0 - (48 : UInt8))).toNat : Int)
 else
  Option.bind (
    bif decide (((a0).toNat : Int) ≥ (97 : Int)) then
     some (decide (((a0).toNat : Int) ≤ (102 : Int)))
    else
     some false
   ) fun (g4 : Bool) =>
  bif g4 then
   some (BQ ((((a0 - (97 : UInt8))).toNat : Int) + (10 : Int)))
  else
   Option.bind (
     bif decide (((a0).toNat : Int) ≥ (65 : Int)) then
      some (decide (((a0).toNat : Int) ≤ (70 : Int)))
     else
      some false
    ) fun (g7 : Bool) =>
   bif g7 then
    some (BQ ((((a0 - (65 : UInt8))).toNat : Int) + (10 : Int)))
   else
    some (-1)
def I5 (rec : (Int × List UInt8) → Option ((List UInt8) ⊕ (List UInt8 × Bool))) (wF : Int) (aP : List UInt8) : Option ((List UInt8) ⊕ (List UInt8 × Bool)) :=
 rec ((BQ (wF + (1 : Int))), aP)
def GV (N : Nat) (a0 : List UInt8) (rec : (Int × List UInt8) → Option ((List UInt8) ⊕ (List UInt8 × Bool))) : (Int × List UInt8) → Option ((List UInt8) ⊕ (List UInt8 × Bool))
 | (v5l8, JJ) =>
  bif decide (v5l8 < (a0.length : Int)) then
   Option.bind (CQ a0 v5l8) fun (N7 : UInt8) =>
   bif (((N7).toNat : Int) != (92 : Int)) then
    Option.bind (
      Option.bind (H7 N N7) fun (PR : Bool) =>
      bif PR then
       some true
      else
       bif (v5l8 == (0 : Int)) then
        bif (((N7).toNat : Int) == (35 : Int)) then
         some true
        else
         bif (((N7).toNat : Int) == (32 : Int)) then
          some true
         else
          bif (v5l8 == (BQ ((a0.length : Int) - (1 : Int)))) then
           some (((N7).toNat : Int) == (32 : Int))
          else
           some false
       else
        bif (v5l8 == (BQ ((a0.length : Int) - (1 : Int)))) then
         some (((N7).toNat : Int) == (32 : Int))
        else
         some false
     ) fun (g3 : Bool) =>
    bif g3 then
     some (Sum.inr (([] : List UInt8), false))
    else
     Option.bind (QK 1 JJ [N7]) fun (sZ : List UInt8) =>
     I5 rec v5l8 sZ
   else
    Option.bind (
      bif decide ((BQ (v5l8 + (1 : Int))) < (a0.length : Int)) then
       Option.bind (CQ a0 (BQ (v5l8 + (1 : Int)))) fun (x57 : UInt8) =>
       Option.bind (H7 N x57) fun (Jy : Bool) =>
       bif Jy then
        some true
       else
        Option.bind (CQ a0 (BQ (v5l8 + (1 : Int)))) fun (x63 : UInt8) =>
        bif (((x63).toNat : Int) == (35 : Int)) then
         some true
        else
         Option.bind (CQ a0 (BQ (v5l8 + (1 : Int)))) fun (x70 : UInt8) =>
         bif (((x70).toNat : Int) == (61 : Int)) then
          some true
         else
          Option.bind (CQ a0 (BQ (v5l8 + (1 : Int)))) fun (x77 : UInt8) =>
          some (((x77).toNat : Int) == (32 : Int))
      else
       some false
     ) fun (g11 : Bool) =>
    bif g11 then
     Option.bind (CQ a0 (BQ (v5l8 + (1 : Int)))) fun (x85 : UInt8) =>
     Option.bind (QK 1 JJ [x85]) fun (x87 : List UInt8) =>
     I5 rec (BQ (v5l8 + (1 : Int))) x87
    else
     Option.bind (
       bif decide ((BQ (v5l8 + (2 : Int))) < (a0.length : Int)) then
        Option.bind (CQ a0 (BQ (v5l8 + (1 : Int)))) fun (x100 : UInt8) =>
        Option.bind (GA N x100) fun (x101 : Int) =>
        bif decide (x101 ≥ (0 : Int)) then
         Option.bind (CQ a0 (BQ (v5l8 + (2 : Int)))) fun (x108 : UInt8) =>
         Option.bind (GA N x108) fun (x109 : Int) =>
         some (decide (x109 ≥ (0 : Int)))
        else
         some false
       else
        some false
      ) fun (g17 : Bool) =>
     bif g17 then
      Option.bind (CQ a0 (BQ (v5l8 + (1 : Int)))) fun (lC : UInt8) =>
      Option.bind (GA N lC) fun (Ca : Int) =>
      Option.bind (CQ a0 (BQ (v5l8 + (2 : Int)))) fun (LF : UInt8) =>
      Option.bind (GA N LF) fun (Km : Int) =>
      Option.bind (QK 1 JJ [(byte (BQ ((BQ ((16 : Int) * Ca)) + Km)))]) fun (Qh : List UInt8) =>
      I5 rec (BQ (v5l8 + (2 : Int))) Qh
     else
      some (Sum.inr (([] : List UInt8), false))
  else
   some (Sum.inl JJ)
def FB (N : Nat) (a0 : List UInt8) : Nat → (Int × List UInt8) → Option ((List UInt8) ⊕ (List UInt8 × Bool))
 | 0, _ => none
 | n + 1, x => GV N a0 (FB N a0 n) x
def MV (N : Nat) (a0 : List UInt8) : Option (List UInt8 × Bool) :=
 Option.bind (FB N a0 N (0, [])) fun (y21 : (List UInt8) ⊕ (List UInt8 × Bool)) =>
 Sum.elim (fun (y21 : List UInt8) =>
   some (y21, true)
  ) (fun (y21 : List UInt8 × Bool) =>
   some (y21.1, y21.2)
  ) y21
def GX (N : Nat) (KW : List (List UInt8)) (G6 : Int) (DR : List AP) (rec : Int → Option (Int)) : Int → Option (Int)
 | v7l23 =>
  Option.bind (
    Option.bind (CQ KW G6) fun (V3 : List UInt8) =>
    bif decide (v7l23 < (V3.length : Int)) then
     Option.bind (CQ KW G6) fun (x28 : List UInt8) =>
     Option.bind (CQ x28 v7l23) fun (x31 : UInt8) =>
     some (((x31).toNat : Int) != (61 : Int))
    else
     some false
   ) fun (g2 : Bool) =>
  bif g2 then
   rec (BQ (v7l23 + (1 : Int)))
  else
   some v7l23
def ER (N : Nat) (KW : List (List UInt8)) (G6 : Int) (DR : List AP) : Nat → Int → Option (Int)
 | 0, _ => none
 | n + 1, x => GX N KW G6 DR (ER N KW G6 DR n) x
def GY (N : Nat) (KW : List (List UInt8)) (rec : (Int × List AP) → Option ((List AP) ⊕ (List AP × Bool))) : (Int × List AP) → Option ((List AP) ⊕ (List AP × Bool))
 | (G6, DR) =>
  bif decide (G6 < (KW.length : Int)) then
   Option.bind (ER N KW G6 DR N 0) fun (y5 : Int) =>
   Option.bind (
     Option.bind (CQ KW G6) fun (x39 : List UInt8) =>
     bif (y5 == (x39.length : Int)) then
      some true
     else
      Option.bind (CQ KW G6) fun (sZ : List UInt8) =>
      Option.bind (KC N sZ (44 : UInt8)) fun (iF : List (List UInt8)) =>
      some (decide ((iF.length : Int) > (1 : Int)))
    ) fun (g6 : Bool) =>
   bif g6 then
    some (Sum.inr ([], false))
   else
    Option.bind (CQ KW G6) fun (x55 : List UInt8) =>
    Option.bind (U0 x55 (BQ (y5 + (1 : Int)))) fun (Kg : List UInt8) =>
    Option.bind (MV N Kg) fun (x60 : List UInt8 × Bool) =>
    bif !x60.2 then
     some (Sum.inr ([], false))
    else
     Option.bind (CQ KW G6) fun (iE : List UInt8) =>
     Option.bind (TN iE y5) fun (x71 : List UInt8) =>
     Option.bind (KI N x71) fun (x72 : List UInt8) =>
     Option.bind (QK 32 DR [(⟨x72, x60.1⟩ : AP)]) fun (x76 : List AP) =>
     rec ((BQ (G6 + (1 : Int))), x76)
  else
   some (Sum.inl DR)
def ES (N : Nat) (KW : List (List UInt8)) : Nat → (Int × List AP) → Option ((List AP) ⊕ (List AP × Bool))
 | 0, _ => none
 | n + 1, x => GY N KW (ES N KW n) x
def KH (N : Nat) (a0 : List UInt8) : Option (List AP × Bool) :=
 Option.bind (KC N a0 (43 : UInt8)) fun (KW : List (List UInt8)) =>
 Option.bind (ES N KW N (0, [])) fun (LC : (List AP) ⊕ (List AP × Bool)) =>
 Sum.elim (fun (LC : List AP) =>
   Option.bind (IY N LC) fun (Jw : Bool) =>
   bif !Jw then
    some ([], false)
   else
    some (LC, true)
  ) (fun (LC : List AP × Bool) =>
   some (LC.1, LC.2)
  ) LC
def KJ (N : Nat) (a0 : List (List AP)) (rec : Int → Option (Unit ⊕ Bool)) : Int → Option (Unit ⊕ Bool)
 | v3l14 =>
  bif decide (v3l14 < (a0.length : Int)) then
   Option.bind (CQ a0 v3l14) fun (N7 : List AP) =>
   Option.bind (IY N N7) fun (EC : Bool) =>
   bif !EC then
    some (Sum.inr false)
   else
    rec (BQ (v3l14 + (1 : Int)))
  else
   some (Sum.inl ())
def GK (N : Nat) (a0 : List (List AP)) : Nat → Int → Option (Unit ⊕ Bool)
 | 0, _ => none
 | n + 1, x => KJ N a0 (GK N a0 n) x
def Q9 (N : Nat) (a0 : List (List AP)) : Option (Bool) :=
 bif decide ((a0.length : Int) > (8 : Int)) then
  some false
 else
  Option.bind (GK N a0 N 0) fun (y4 : Unit ⊕ Bool) =>
  Sum.elim (fun (y4 : Unit) =>
    some true
   ) (fun (y4 : Bool) =>
    some y4
   ) y4
def IV (N : Nat) (IP : List (List UInt8)) (rec : (Int × List (List AP)) → Option ((List (List AP)) ⊕ (List (List AP) × Bool))) : (Int × List (List AP)) → Option ((List (List AP)) ⊕ (List (List AP) × Bool))
 | (LG, TY) =>
  bif decide (LG < (IP.length : Int)) then
   Option.bind (CQ IP LG) fun (WO : List UInt8) =>
   Option.bind (KH N WO) fun (x24 : List AP × Bool) =>
   bif !x24.2 then
    some (Sum.inr ([], false))
   else
    Option.bind (QK 24 TY [x24.1]) fun (x32 : List (List AP)) =>
    rec ((BQ (LG + (1 : Int))), x32)
  else
   some (Sum.inl TY)
def FL (N : Nat) (IP : List (List UInt8)) : Nat → (Int × List (List AP)) → Option ((List (List AP)) ⊕ (List (List AP) × Bool))
 | 0, _ => none
 | n + 1, x => IV N IP (FL N IP n) x
def MW (N : Nat) (a0 : List UInt8) : Option (List (List AP) × Bool) :=
 bif (a0 == ([] : List UInt8)) then
  some ([], true)
 else
  Option.bind (KC N a0 (44 : UInt8)) fun (IP : List (List UInt8)) =>
  Option.bind (FL N IP N (0, [])) fun (y4 : (List (List AP)) ⊕ (List (List AP) × Bool)) =>
  Sum.elim (fun (y4 : List (List AP)) =>
    Option.bind (Q9 N y4) fun (x34 : Bool) =>
    bif !x34 then
     some ([], false)
    else
     some (y4, true)
   ) (fun (y4 : List (List AP) × Bool) =>
    some (y4.1, y4.2)
   ) y4
def J2 (N : Nat) (a1 : List UInt8) (IP : BB × Bool) (rec : (Bool × Bool × Int) → Option (Bool × Bool)) : (Bool × Bool × Int) → Option (Bool × Bool)
 | (wD, pV, XI) =>
  bif decide (XI < (a1.length : Int)) then
   Option.bind (
     bif wD then
      Option.bind (CQ a1 XI) fun (LD : UInt8) =>
      bif decide (((LD).toNat : Int) ≥ (32 : Int)) then
       Option.bind (CQ a1 XI) fun (x41 : UInt8) =>
       some (decide (((x41).toNat : Int) ≤ (126 : Int)))
      else
       some false
     else
      some false
    ) fun (g6 : Bool) =>
   bif pV then
    rec (g6, true, (BQ (XI + (1 : Int))))
   else
    Option.bind (CQ a1 XI) fun (iF : UInt8) =>
    rec (g6, (((iF).toNat : Int) != (32 : Int)), (BQ (XI + (1 : Int))))
  else
   some (wD, pV)
def FP (N : Nat) (a1 : List UInt8) (IP : BB × Bool) : Nat → (Bool × Bool × Int) → Option (Bool × Bool)
 | 0, _ => none
 | n + 1, x => J2 N a1 IP (FP N a1 IP n) x
def EY (Ol : Bool) : Option (Int) :=
 bif !Ol then
  some 17
 else
  some 0
def KL (N : Nat) (a0 : List UInt8) (a1 : List UInt8) : Option (Int) :=
 Option.bind (L8 N a0) fun (IP : BB × Bool) =>
 bif !IP.2 then
  some 16
 else
  Option.bind (
    bif decide ((a1.length : Int) < (1 : Int)) then
     some true
    else
     some (decide ((a1.length : Int) > (60 : Int)))
   ) fun (g2 : Bool) =>
  bif g2 then
   some 17
  else
   Option.bind (FP N a1 IP N (true, false, 0)) fun (LC : Bool × Bool) =>
   bif (IP.1.Syntax == (1 : Int)) then
    bif LC.1 then
     EY LC.2
    else
     EY false
   else
    bif (IP.1.Syntax == (3 : Int)) then
     Option.bind (MX N a1) fun (x62 : Bool) =>
     EY x62
    else
     bif (IP.1.Syntax == (4 : Int)) then
      EY true
     else
      bif (IP.1.Syntax == (5 : Int)) then
       Option.bind (MW N a1) fun (x69 : List (List AP) × Bool) =>
       EY x69.2
      else
       EY LC.1
def JF (N : Nat) (a0 : List AP) (rec : Int → Option (Unit ⊕ Bool)) : Int → Option (Unit ⊕ Bool)
 | v3l14 =>
  bif decide (v3l14 < (a0.length : Int)) then
   Option.bind (
     Option.bind (CQ a0 v3l14) fun (x20 : AP) =>
     bif (x20.Attr == ([101, 110, 116, 114, 121, 105, 100] : List UInt8)) then
      some true
     else
      Option.bind (CQ a0 v3l14) fun (x27 : AP) =>
      Option.bind (CQ a0 v3l14) fun (x32 : AP) =>
      Option.bind (KL N x27.Attr x32.Value) fun (LD : Int) =>
      some (LD != (0 : Int))
    ) fun (g5 : Bool) =>
   bif g5 then
    some (Sum.inr false)
   else
    rec (BQ (v3l14 + (1 : Int)))
  else
   some (Sum.inl ())
def FX (N : Nat) (a0 : List AP) : Nat → Int → Option (Unit ⊕ Bool)
 | 0, _ => none
 | n + 1, x => JF N a0 (FX N a0 n) x
def NZ (N : Nat) (a0 : List AP) : Option (Bool) :=
 Option.bind (
   Option.bind (IY N a0) fun (x5 : Bool) =>
   bif !x5 then
    some true
   else
    some (decide ((a0.length : Int) ≥ (4 : Int)))
  ) fun (g1 : Bool) =>
 bif g1 then
  some false
 else
  Option.bind (FX N a0 N 0) fun (y8 : Unit ⊕ Bool) =>
  Sum.elim (fun (y8 : Unit) =>
    some true
   ) (fun (y8 : Bool) =>
    some y8
   ) y8
def J3 (N : Nat) (a0 : List BC) (a1 : Bool) (v5l6 : Int) (OV : BC) (rec : Int → Option (Unit ⊕ Bool)) : Int → Option (Unit ⊕ Bool)
 | v9l30 =>
  bif decide (v9l30 < (OV.Values.length : Int)) then
   Option.bind (CQ OV.Values v9l30) fun (x87 : List UInt8) =>
   Option.bind (KL N OV.Attr x87) fun (x89 : Int) =>
   bif (x89 != (0 : Int)) then
    some (Sum.inr false)
   else
    rec (BQ (v9l30 + (1 : Int)))
  else
   some (Sum.inl ())
def FQ (N : Nat) (a0 : List BC) (a1 : Bool) (v5l6 : Int) (OV : BC) : Nat → Int → Option (Unit ⊕ Bool)
 | 0, _ => none
 | n + 1, x => J3 N a0 a1 v5l6 OV (FQ N a0 a1 v5l6 OV n) x
def JG (N : Nat) (a0 : List BC) (a1 : Bool) (rec : Int → Option (Unit ⊕ Bool)) : Int → Option (Unit ⊕ Bool)
 | v5l6 =>
  bif decide (v5l6 < (a0.length : Int)) then
   Option.bind (CQ a0 v5l6) fun (OV : BC) =>
   Option.bind (L8 N OV.Attr) fun (XV : BB × Bool) =>
   Option.bind (
     bif !XV.2 then
      some true
     else
      bif (!(XV.1.Name == OV.Attr)) then
       some true
      else
       bif (XV.1.Name == ([101, 110, 116, 114, 121, 105, 100] : List UInt8)) then
        some true
       else
        bif decide (OV.Kind < (1 : Int)) then
         some true
        else
         bif decide (OV.Kind > (3 : Int)) then
          some true
         else
          bif a1 then
           bif (OV.Kind != (1 : Int)) then
            some true
           else
            bif (OV.Kind == (1 : Int)) then
             bif ((OV.Values.length : Int) == (0 : Int)) then
              some true
             else
              some (decide ((OV.Values.length : Int) > (12 : Int)))
            else
             some (decide ((OV.Values.length : Int) > (12 : Int)))
          else
           bif (OV.Kind == (1 : Int)) then
            bif ((OV.Values.length : Int) == (0 : Int)) then
             some true
            else
             some (decide ((OV.Values.length : Int) > (12 : Int)))
           else
            some (decide ((OV.Values.length : Int) > (12 : Int)))
    ) fun (g2 : Bool) =>
   bif g2 then
    some (Sum.inr false)
   else
    Option.bind (FQ N a0 a1 v5l6 OV N 0) fun (pM : Unit ⊕ Bool) =>
    Sum.elim (fun (pM : Unit) =>
      rec (BQ (v5l6 + (1 : Int)))
     ) (fun (pM : Bool) =>
      some (Sum.inr pM)
     ) pM
  else
   some (Sum.inl ())
def FY (N : Nat) (a0 : List BC) (a1 : Bool) : Nat → Int → Option (Unit ⊕ Bool)
 | 0, _ => none
 | n + 1, x => JG N a0 a1 (FY N a0 a1 n) x
def KM (N : Nat) (a0 : List BC) (a1 : Bool) : Option (Bool) :=
 Option.bind (FY N a0 a1 N 0) fun (Oh : Unit ⊕ Bool) =>
 Sum.elim (fun (Oh : Unit) =>
   some (decide ((a0.length : Int) ≤ (8 : Int)))
  ) (fun (Oh : Bool) =>
   some Oh
  ) Oh
def I6 (N : Nat) (a0 : AX) : Option (Bool) :=
 Option.bind (
   Option.bind (MH N (⟨a0.CSN.Time, a0.CSN.Seq, a0.CSN.Rep⟩ : AR)) fun (x8 : Bool) =>
   bif !x8 then
    some true
   else
    Option.bind (GZ N (⟨a0.CSN.Time, a0.CSN.Seq, a0.CSN.Rep⟩ : AR)) fun (MF : Bool) =>
    bif MF then
     some true
    else
     Option.bind (MH N (⟨a0.ID.Time, a0.ID.Seq, a0.ID.Rep⟩ : AR)) fun (OV : Bool) =>
     bif !OV then
      some true
     else
      Option.bind (MH N (⟨a0.Parent.Time, a0.Parent.Seq, a0.Parent.Rep⟩ : AR)) fun (x24 : Bool) =>
      some (!x24)
  ) fun (g1 : Bool) =>
 bif g1 then
  some false
 else
  Option.bind (L9 N (⟨a0.ID.Time, a0.ID.Seq, a0.ID.Rep⟩ : AR) (⟨a0.CSN.Time, a0.CSN.Seq, a0.CSN.Rep⟩ : AR)) fun (x31 : Int) =>
  Option.bind (
    Option.bind (L9 N (⟨a0.Parent.Time, a0.Parent.Seq, a0.Parent.Rep⟩ : AR) (⟨a0.CSN.Time, a0.CSN.Seq, a0.CSN.Rep⟩ : AR)) fun (x37 : Int) =>
    bif decide (x37 < (0 : Int)) then
     Option.bind (NZ N a0.RDN) fun (Jz : Bool) =>
     some Jz
    else
     some false
   ) fun (g6 : Bool) =>
  Option.bind (
    Option.bind (GZ N (⟨a0.Parent.Time, a0.Parent.Seq, a0.Parent.Rep⟩ : AR)) fun (sZ : Bool) =>
    bif sZ then
     some ((a0.RDN.length : Int) == (0 : Int))
    else
     some false
   ) fun (g8 : Bool) =>
  bif (a0.Kind == (1 : Int)) then
   Option.bind (
     bif (a0.ID.Time == a0.CSN.Time && (a0.ID.Seq == a0.CSN.Seq && (a0.ID.Rep == a0.CSN.Rep && true))) then
      bif g6 then
       bif !a0.DelOld then
        Option.bind (KM N a0.Mods true) fun (x73 : Bool) =>
        some x73
       else
        some false
      else
       some false
     else
      some false
    ) fun (g11 : Bool) =>
   some g11
  else
   bif (a0.Kind == (2 : Int)) then
    Option.bind (
      bif decide (x31 < (0 : Int)) then
       Option.bind (GZ N (⟨a0.ID.Time, a0.ID.Seq, a0.ID.Rep⟩ : AR)) fun (x81 : Bool) =>
       bif !x81 then
        bif g8 then
         bif !a0.DelOld then
          some ((a0.Mods.length : Int) == (0 : Int))
         else
          some false
        else
         some false
       else
        some false
      else
       some false
     ) fun (g16 : Bool) =>
    some g16
   else
    bif (a0.Kind == (3 : Int)) then
     Option.bind (
       bif decide (x31 < (0 : Int)) then
        bif g8 then
         bif !a0.DelOld then
          bif decide ((a0.Mods.length : Int) > (0 : Int)) then
           Option.bind (KM N a0.Mods false) fun (x118 : Bool) =>
           some x118
          else
           some false
         else
          some false
        else
         some false
       else
        some false
      ) fun (g22 : Bool) =>
     some g22
    else
     bif (a0.Kind == (4 : Int)) then
      Option.bind (
        bif decide (x31 < (0 : Int)) then
         Option.bind (GZ N (⟨a0.ID.Time, a0.ID.Seq, a0.ID.Rep⟩ : AR)) fun (bM : Bool) =>
         bif !bM then
          bif g6 then
           some ((a0.Mods.length : Int) == (0 : Int))
          else
           some false
         else
          some false
        else
         some false
       ) fun (g28 : Bool) =>
      some g28
     else
      some false
def KS (N : Nat) (a0 : AX) (a1 : AX) : Option (Bool) :=
 Option.bind (OY N) fun (x7 : Bool) =>
 bif !x7 then
  some false
 else
  Option.bind (
    Option.bind (JK N a0) fun (R9 : Bool) =>
    bif !R9 then
     some true
    else
     Option.bind (JK N a1) fun (OB : Bool) =>
     some (!OB)
   ) fun (g2 : Bool) =>
  bif g2 then
   some true
  else
   Option.bind (M9 N a0) fun (PR : List UInt8 × Int) =>
   Option.bind (
     Option.bind (R5 N a0) fun (XV : Bool) =>
     Option.bind (I6 N a0) fun (x25 : Bool) =>
     bif (XV == x25) then
      Option.bind (RV N a0 a1) fun (x30 : Bool) =>
      Option.bind (GM N a0 a1) fun (Kj : Bool) =>
      bif (x30 == Kj) then
       Option.bind (I6 N a0) fun (x40 : Bool) =>
       some ((PR.2 == (14 : Int)) == !x40)
      else
       some false
     else
      some false
    ) fun (g5 : Bool) =>
   some g5
end Go.Gp
end
section
namespace Go.Gp
open Go.Vd
def ZK (x : AP) : Prop := (x.Attr.length ≤ maxLen) ∧ (x.Value.length ≤ maxLen)
def ZJ (x : BC) : Prop := ((IntKind.i64.min ≤ x.Kind ∧ x.Kind ≤ IntKind.i64.max)) ∧ (x.Attr.length ≤ maxLen) ∧ ((x.Values.length ≤ maxLen ∧ ∀ y0 ∈ x.Values, y0.length ≤ maxLen))
def fK (x : AR) : Prop := ((IntKind.i64.min ≤ x.Time ∧ x.Time ≤ IntKind.i64.max)) ∧ ((IntKind.i64.min ≤ x.Seq ∧ x.Seq ≤ IntKind.i64.max)) ∧ ((IntKind.i64.min ≤ x.Rep ∧ x.Rep ≤ IntKind.i64.max))
def TD (x : AX) : Prop := (fK x.CSN) ∧ ((IntKind.i64.min ≤ x.Kind ∧ x.Kind ≤ IntKind.i64.max)) ∧ (fK x.ID) ∧ (fK x.Parent) ∧ ((x.RDN.length ≤ maxLen ∧ ∀ y0 ∈ x.RDN, ZK y0)) ∧ (True) ∧ ((x.Mods.length ≤ maxLen ∧ ∀ y0 ∈ x.Mods, ZJ y0))
end Go.Gp
end
