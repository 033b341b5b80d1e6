/- A part of the proof: functions of the program and what they compute. -/
import Derived.Test.YtlopcglohpfonaaGreatDoorA4
import Derived.Test.YtlopcglohpfonaaGreatDoorProg
import Derived.Test.YtlopcglohpfonaaGreatDoorRows
import Derived.Stop.LaidErr
import Derived.LaidSub
import Derived.Lib.LaidTab
import Derived.Lib.ItoaNum
import Derived.MakeChecks
section
set_option linter.unusedVariables false
namespace Go.Gp
open Go.Vd
structure AQ where
 Time : Int
 Seq : Int
 Rep : Int
deriving DecidableEq
def GH (x : AQ) : PV := .agg [.int .i64 x.Time, .int .i64 x.Seq, .int .i64 x.Rep]
structure AU where
 Attr : List UInt8
 Value : List UInt8
deriving DecidableEq
def AV (x : AU) : PV := .agg [.str x.Attr, .str x.Value]
structure AY where
 Kind : Int
 Attr : List UInt8
 Values : List (List UInt8)
deriving DecidableEq
def AL (x : AY) : PV := .agg [.int .i64 x.Kind, .str x.Attr, .sl 1 (List.map PV.str x.Values)]
structure AR where
 CSN : AQ
 Kind : Int
 ID : AQ
 Parent : AQ
 RDN : List AU
 DelOld : Bool
 Mods : List AY
deriving DecidableEq
def AJ (x : AR) : PV := .agg [.int .i64 x.CSN.Time, .int .i64 x.CSN.Seq, .int .i64 x.CSN.Rep, .int .i64 x.Kind, .int .i64 x.ID.Time, .int .i64 x.ID.Seq, .int .i64 x.ID.Rep, .int .i64 x.Parent.Time, .int .i64 x.Parent.Seq, .int .i64 x.Parent.Rep, .sl 2 (List.map AV x.RDN), .bool x.DelOld, .sl 3 (List.map AL x.Mods)]
structure BI where
 Name : List UInt8
 Syntax : Int
 Single : Bool
deriving DecidableEq
def FB (x : BI) : PV := .agg [.str x.Name, .int .i64 x.Syntax, .bool x.Single]
structure A7 where
 Tag : UInt8
 Body : List UInt8
 Kids : List PV
def A8 (x : A7) : PV := .agg [eb x.Tag, .str x.Body, .sl 3 x.Kids]
def CS : PV → Option A7
 | .agg [.int .u8 n0, .str n1, .sl 3 n2] => if n0 = ((UInt8.ofNat n0.toNat).toNat : Int) then some ⟨UInt8.ofNat n0.toNat, n1, n2⟩ else none
 | _ => none
theorem BS {p : PV} {x : A7} (h : CS p = some x) : p = A8 x := by
 unfold CS at h
 split at h
 ·split at h
  ·rename_i hn
   cases h
   unfold A8 eb
   simp only
   rw [← hn]
  ·cases h
 ·cases h
structure BC where
 s : List UInt8
 at_ : Int
deriving DecidableEq
def BF (x : BC) : PV := .agg [.str x.s, .int .i64 x.at_]
def WP (N : Nat) (a0 : AQ) : Option (Bool) :=
 Option.bind (
   bif decide (a0.Time ≥ (0 : Int)) then
    bif decide (a0.Time ≤ (1099511627776 : Int)) then
     bif decide (a0.Seq ≥ (0 : Int)) then
      bif decide (a0.Seq ≤ (65535 : Int)) then
       bif decide (a0.Rep ≥ (0 : Int)) then
        some (decide (a0.Rep < (6 : Int)))
       else
        some false
      else
       some false
     else
      some false
    else
     some false
   else
    some false
  ) fun (g1 : Bool) =>
 some g1
def Q9 (N : Nat) (a0 : AQ) : Option (Bool) :=
 some (a0.Time == (0 : Int) && (a0.Seq == (0 : Int) && (a0.Rep == (0 : Int) && true)))
def LH (N : Nat) (a0 : Int) : Option (Bool) :=
 some (a0 != a0)
def JU (N : Nat) (a0 : Int) (a1 : Int) : Option (Int) :=
 Option.bind (LH N a0) fun (x8 : Bool) =>
 Option.bind (LH N a1) fun (P5 : Bool) =>
 bif x8 then
  bif P5 then
   some 0
  else
   some (-1)
 else
  bif P5 then
   some 1
  else
   bif decide (a0 < a1) then
    some (-1)
   else
    bif decide (a0 > a1) then
     some 1
    else
     some 0
def cmp_isNaN_int (N : Nat) (a0 : Int) : Option (Bool) :=
 some (a0 != a0)
def cmp_Compare_int (N : Nat) (a0 : Int) (a1 : Int) : Option (Int) :=
 Option.bind (cmp_isNaN_int N a0) fun (x8 : Bool) =>
 Option.bind (cmp_isNaN_int N a1) fun (P5 : Bool) =>
 bif x8 then
  bif P5 then
   some 0
  else
   some (-1)
 else
  bif P5 then
   some 1
  else
   bif decide (a0 < a1) then
    some (-1)
   else
    bif decide (a0 > a1) then
     some 1
    else
     some 0
def OT (N : Nat) (a0 : List Int) (rec : Int → Option (Unit ⊕ Int)) : Int → Option (Unit ⊕ Int)
 | v8l8 =>
  bif decide (v8l8 < (a0.length : Int)) then
   (EM a0 v8l8).bind fun (P5 : Int) =>
   bif (P5 != (0 : Int)) then
    some (Sum.inr P5)
   else
    rec (BX (v8l8 + (1 : Int)))
  else
   some (Sum.inl ())
def LC (N : Nat) (a0 : List Int) : Nat → Int → Option (Unit ⊕ Int)
 | 0, _ => none
 | n + 1, x => OT N a0 (LC N a0 n) x
def TS (N : Nat) (a0 : List Int) : Option (Int) :=
 Option.bind (LC N a0 N 0) fun (y3 : Unit ⊕ Int) =>
 Sum.elim (fun (y3 : Unit) =>
   some 0
  ) (fun (y3 : Int) =>
   some y3
  ) y3
def aA (N : Nat) (a0 : AQ) (a1 : AQ) : Option (Int) :=
 Option.bind (JU N a0.Time a1.Time) fun (x9 : Int) =>
 Option.bind (cmp_Compare_int N a0.Seq a1.Seq) fun (MM : Int) =>
 Option.bind (cmp_Compare_int N a0.Rep a1.Rep) fun (OO : Int) =>
 Option.bind (TS N [x9, MM, OO]) fun (WT : Int) =>
 some WT
def KI (N : Nat) (a0 : AQ) (c0 : AR) : Option (Bool) :=
 Option.bind (aA N a0 (⟨c0.CSN.Time, c0.CSN.Seq, c0.CSN.Rep⟩ : AQ)) fun (x7 : Int) =>
 some (decide (x7 < (0 : Int)))
def O1 (v25l14 : Int) (rec : Int → Option (Unit ⊕ Bool))  : Option (Unit ⊕ Bool) :=
 rec (BX (v25l14 + (1 : Int)))
def O0 (v25l14 : Int) (rec : Int → Option (Unit ⊕ Bool)) (u7 : Bool) : Option (Unit ⊕ Bool) :=
 bif u7 then
  O1 v25l14 rec
 else
  some (Sum.inr false)
def LG (N : Nat) (a0 : List UInt8) (rec : Int → Option (Unit ⊕ Bool)) : Int → Option (Unit ⊕ Bool)
 | v25l14 =>
  bif decide (v25l14 < (a0.length : Int)) then
   (NF v25l14 a0.length).bind fun (x27 : Nat) =>
   (a0[x27]?).bind fun (x28 : UInt8) =>
   Option.bind (
     bif decide (((x28).toNat : Int) ≥ (97 : Int)) then
      some (decide (((x28).toNat : Int) ≤ (122 : Int)))
     else
      some false
    ) fun (g7 : Bool) =>
   bif g7 then
    O1 v25l14 rec
   else
    Option.bind (
      bif decide (((x28).toNat : Int) ≥ (48 : Int)) then
       some (decide (((x28).toNat : Int) ≤ (57 : Int)))
      else
       some false
     ) fun (g11 : Bool) =>
    bif g11 then
     O0 v25l14 rec g11
    else
     O0 v25l14 rec (((x28).toNat : Int) == (45 : Int))
  else
   some (Sum.inl ())
def IM (N : Nat) (a0 : List UInt8) : Nat → Int → Option (Unit ⊕ Bool)
 | 0, _ => none
 | n + 1, x => LG N a0 (IM N a0 n) x
def VC (N : Nat) (a0 : List UInt8) : Option (Bool) :=
 Option.bind (
   bif (a0 == ([] : List UInt8)) then
    some true
   else
    bif decide ((a0.length : Int) > (16 : Int)) then
     some true
    else
     (EM a0 (0 : Int)).bind fun (MM : UInt8) =>
     bif decide (((MM).toNat : Int) < (97 : Int)) then
      some true
     else
      (EM a0 (0 : Int)).bind fun (OO : UInt8) =>
      some (decide (((OO).toNat : Int) > (122 : Int)))
  ) fun (g1 : Bool) =>
 bif g1 then
  some false
 else
  Option.bind (IM N a0 N 0) fun (Y0 : Unit ⊕ Bool) =>
  Sum.elim (fun (Y0 : Unit) =>
    some true
   ) (fun (Y0 : Bool) =>
    some Y0
   ) Y0
def WL (N : Nat) (a0 : AU) (c0 : AU) : Option (Bool) :=
 some (a0.Attr == c0.Attr)
def CE (N : Nat) (a0 : List AU) (GN : AU) (rec : Int → Option (Unit ⊕ Int)) : Int → Option (Unit ⊕ Int)
 | v8l6 =>
  bif decide (v8l6 < (a0.length : Int)) then
   (EM a0 v8l6).bind fun (MM : AU) =>
   Option.bind (WL N MM GN) fun (UA : Bool) =>
   bif UA then
    some (Sum.inr v8l6)
   else
    rec (BX (v8l6 + (1 : Int)))
  else
   some (Sum.inl ())
def BM (N : Nat) (a0 : List AU) (GN : AU) : Nat → Int → Option (Unit ⊕ Int)
 | 0, _ => none
 | n + 1, x => CE N a0 GN (BM N a0 GN n) x
def EE (N : Nat) (a0 : List AU) (GN : AU) : Option (Int) :=
 Option.bind (BM N a0 GN N 0) fun (y3 : Unit ⊕ Int) =>
 Sum.elim (fun (y3 : Unit) =>
   some (-1)
  ) (fun (y3 : Int) =>
   some y3
  ) y3
def CL (N : Nat) (a0 : List AU) (GN : AU) : Option (Bool) :=
 Option.bind (EE N a0 GN) fun (x7 : Int) =>
 some (decide (x7 ≥ (0 : Int)))
def O3 (N : Nat) (a0 : List AU) (rec : Int → Option (Unit ⊕ Bool)) : Int → Option (Unit ⊕ Bool)
 | v7l6 =>
  bif decide (v7l6 < (a0.length : Int)) then
   (EM a0 v7l6).bind fun (P5 : AU) =>
   Option.bind (
     bif decide (v7l6 ≥ (4 : Int)) then
      some true
     else
      Option.bind (VC N P5.Attr) fun (DY : Bool) =>
      bif !DY then
       some true
      else
       bif (P5.Value == ([] : List UInt8)) then
        some true
       else
        some (decide ((P5.Value.length : Int) > (60 : Int)))
    ) fun (g2 : Bool) =>
   bif g2 then
    some (Sum.inr false)
   else
    (QR a0 v7l6).bind fun (x33 : List AU) =>
    Option.bind (CL N x33 (⟨P5.Attr, P5.Value⟩ : AU)) fun (JO : Bool) =>
    bif JO then
     some (Sum.inr false)
    else
     rec (BX (v7l6 + (1 : Int)))
  else
   some (Sum.inl ())
def KG (N : Nat) (a0 : List AU) : Nat → Int → Option (Unit ⊕ Bool)
 | 0, _ => none
 | n + 1, x => O3 N a0 (KG N a0 n) x
def UT (N : Nat) (a0 : List AU) : Option (Bool) :=
 Option.bind (KG N a0 N 0) fun (y8 : Unit ⊕ Bool) =>
 Sum.elim (fun (y8 : Unit) =>
   some (decide ((a0.length : Int) > (0 : Int)))
  ) (fun (y8 : Bool) =>
   some y8
  ) y8
def PI (v10l8 : Int) (rec : (Int × List UInt8) → Option (List UInt8)) (WF : List UInt8) : Option (List UInt8) :=
 rec ((BX (v10l8 + (1 : Int))), WF)
def NZ (N : Nat) (a0 : List UInt8) (rec : (Int × List UInt8) → Option (List UInt8)) : (Int × List UInt8) → Option (List UInt8)
 | (v10l8, F3) =>
  bif decide (v10l8 < (a0.length : Int)) then
   (NF v10l8 F3.length).bind fun (JP : Nat) =>
   (F3[JP]?).bind fun (MM : UInt8) =>
   Option.bind (
     bif decide (((MM).toNat : Int) ≥ (65 : Int)) then
      some (decide (((MM).toNat : Int) ≤ (90 : Int)))
     else
      some false
    ) fun (g2 : Bool) =>
   bif g2 then
    (NF v10l8 F3.length).bind fun (x25 : Nat) =>
    (F3[x25]?).bind fun (tQ : UInt8) =>
    PI v10l8 rec (F3.set x25 (MM + (32 : UInt8)))
   else
    PI v10l8 rec F3
  else
   some F3
def J2 (N : Nat) (a0 : List UInt8) : Nat → (Int × List UInt8) → Option (List UInt8)
 | 0, _ => none
 | n + 1, x => NZ N a0 (J2 N a0 n) x
def SK (N : Nat) (a0 : List UInt8) : Option (List UInt8) :=
 Option.bind (J2 N a0 N (0, a0)) fun (y6 : List UInt8) =>
 some y6
def TF (N : Nat)  : Option (List BI) :=
 some [(⟨([97, 99, 105] : List UInt8), 2, false⟩ : BI), (⟨([99] : List UInt8), 1, true⟩ : BI), (⟨([99, 110] : List UInt8), 1, false⟩ : BI), (⟨([100, 99] : List UInt8), 1, false⟩ : BI), (⟨([100, 101, 115, 99, 114, 105, 112, 116, 105, 111, 110] : List UInt8), 1, false⟩ : BI), (⟨([101, 110, 116, 114, 121, 105, 100] : List UInt8), 2, true⟩ : BI), (⟨([109, 97, 105, 108] : List UInt8), 2, false⟩ : BI), (⟨([109, 101, 109, 98, 101, 114] : List UInt8), 5, false⟩ : BI), (⟨([111] : List UInt8), 1, false⟩ : BI), (⟨([111, 117] : List UInt8), 1, false⟩ : BI), (⟨([115, 110] : List UInt8), 1, false⟩ : BI), (⟨([116, 105, 116, 108, 101] : List UInt8), 1, true⟩ : BI), (⟨([117, 105, 100] : List UInt8), 1, false⟩ : BI), (⟨([117, 105, 100, 110, 117, 109, 98, 101, 114] : List UInt8), 3, true⟩ : BI), (⟨([117, 115, 101, 114, 112, 97, 115, 115, 119, 111, 114, 100] : List UInt8), 4, false⟩ : BI)]
def KN (N : Nat) (x7 : List UInt8) (x8 : List BI) (rec : Int → Option (Unit ⊕ (BI × Bool))) : Int → Option (Unit ⊕ (BI × Bool))
 | v10l8 =>
  bif decide (v10l8 < (x8.length : Int)) then
   (EM x8 v10l8).bind fun (KW : BI) =>
   bif (KW.Name == x7) then
    some (Sum.inr (KW, true))
   else
    rec (BX (v10l8 + (1 : Int)))
  else
   some (Sum.inl ())
def H7 (N : Nat) (x7 : List UInt8) (x8 : List BI) : Nat → Int → Option (Unit ⊕ (BI × Bool))
 | 0, _ => none
 | n + 1, x => KN N x7 x8 (H7 N x7 x8 n) x
def O9 (N : Nat) (a0 : List UInt8) : Option (BI × Bool) :=
 Option.bind (SK N a0) fun (x7 : List UInt8) =>
 Option.bind (TF N) fun (x8 : List BI) =>
 Option.bind (H7 N x7 x8 N 0) fun (y3 : Unit ⊕ (BI × Bool)) =>
 Sum.elim (fun (y3 : Unit) =>
   some ((⟨([] : List UInt8), 0, false⟩ : BI), false)
  ) (fun (y3 : BI × Bool) =>
   some (y3.1, y3.2)
  ) y3
def H6 (N : Nat) (a1 : UInt8) (rec : List UInt8 → Option (List UInt8)) : List UInt8 → Option (List UInt8)
 | v0l4 =>
  Option.bind (
    bif decide ((v0l4.length : Int) > (0 : Int)) then
     (EM v0l4 (BX ((v0l4.length : Int) - (1 : Int)))).bind fun (JP : UInt8) =>
     some (((JP).toNat : Int) == ((a1).toNat : Int))
    else
     some false
   ) fun (g1 : Bool) =>
  bif g1 then
   (QR v0l4 (BX ((v0l4.length : Int) - (1 : Int)))).bind fun (WT : List UInt8) =>
   rec WT
  else
   some v0l4
def ER (N : Nat) (a1 : UInt8) : Nat → List UInt8 → Option (List UInt8)
 | 0, _ => none
 | n + 1, x => H6 N a1 (ER N a1 n) x
def strings_trimRightByte (N : Nat) (a0 : List UInt8) (a1 : UInt8) : Option (List UInt8) :=
 Option.bind (ER N a1 N a0) fun (y4 : List UInt8) =>
 some y4
def I7 (N : Nat) (a1 : UInt8) (rec : List UInt8 → Option (List UInt8)) : List UInt8 → Option (List UInt8)
 | v0l4 =>
  Option.bind (
    bif decide ((v0l4.length : Int) > (0 : Int)) then
     (EM v0l4 (0 : Int)).bind fun (P5 : UInt8) =>
     some (((P5).toNat : Int) == ((a1).toNat : Int))
    else
     some false
   ) fun (g1 : Bool) =>
  bif g1 then
   (U6 v0l4 (1 : Int)).bind fun (Y2 : List UInt8) =>
   rec Y2
  else
   some v0l4
def EW (N : Nat) (a1 : UInt8) : Nat → List UInt8 → Option (List UInt8)
 | 0, _ => none
 | n + 1, x => I7 N a1 (EW N a1 n) x
def strings_trimLeftByte (N : Nat) (a0 : List UInt8) (a1 : UInt8) : Option (List UInt8) :=
 Option.bind (EW N a1 N a0) fun (y4 : List UInt8) =>
 some y4
def P7 (N : Nat) (a0 : List UInt8) (a1 : List UInt8) : Option (List UInt8) :=
 Option.bind (
   bif (a0 == ([] : List UInt8)) then
    some true
   else
    some (a1 == ([] : List UInt8))
  ) fun (g1 : Bool) =>
 bif g1 then
  some a0
 else
  Option.bind (
    bif ((a1.length : Int) == (1 : Int)) then
     (EM a1 (0 : Int)).bind fun (OO : UInt8) =>
     some (decide (((OO).toNat : Int) < (128 : Int)))
    else
     some false
   ) fun (g4 : Bool) =>
  bif g4 then
   (EM a1 (0 : Int)).bind fun (x24 : UInt8) =>
   Option.bind (strings_trimRightByte N a0 x24) fun (x25 : List UInt8) =>
   (EM a1 (0 : Int)).bind fun (x27 : UInt8) =>
   Option.bind (strings_trimLeftByte N x25 x27) fun (x28 : List UInt8) =>
   some x28
  else
   none
def JS (N : Nat) (a0 : List UInt8) (rec : Int → Option (Unit ⊕ Bool)) : Int → Option (Unit ⊕ Bool)
 | v8l6 =>
  bif decide (v8l6 < (a0.length : Int)) then
   (NF v8l6 a0.length).bind fun (P5 : Nat) =>
   (a0[P5]?).bind fun (QJ : UInt8) =>
   Option.bind (
     bif decide (((QJ).toNat : Int) < (32 : Int)) then
      some true
     else
      some (decide (((QJ).toNat : Int) > (126 : Int)))
    ) fun (g2 : Bool) =>
   bif g2 then
    some (Sum.inr false)
   else
    rec (BX (v8l6 + (1 : Int)))
  else
   some (Sum.inl ())
def GJ (N : Nat) (a0 : List UInt8) : Nat → Int → Option (Unit ⊕ Bool)
 | 0, _ => none
 | n + 1, x => JS N a0 (GJ N a0 n) x
def P8 (N : Nat) (a0 : List UInt8) : Option (Bool) :=
 Option.bind (GJ N a0 N 0) fun (y5 : Unit ⊕ Bool) =>
 Sum.elim (fun (y5 : Unit) =>
   some true
  ) (fun (y5 : Bool) =>
   some y5
  ) y5
def EJ (N : Nat) (a0 : List UInt8) (a1 : List UInt8) : Option (Bool) :=
 Option.bind (
   bif decide ((a0.length : Int) ≥ (a1.length : Int)) then
    (QR a0 (a1.length : Int)).bind fun (MM : List UInt8) =>
    some (MM == a1)
   else
    some false
  ) fun (g1 : Bool) =>
 some g1
def FR (N : Nat) (a0 : List UInt8) (a1 : List UInt8) : Option (List UInt8) :=
 Option.bind (EJ N a0 a1) fun (x7 : Bool) =>
 bif x7 then
  (U6 a0 (a1.length : Int)).bind fun (QJ : List UInt8) =>
  some QJ
 else
  some a0
def strings_TrimPrefix (N : Nat) (a0 : List UInt8) (a1 : List UInt8) : Option (List UInt8) :=
 Option.bind (FR N a0 a1) fun (x7 : List UInt8) =>
 some x7
def J5 (N : Nat) (x7 : List UInt8) (rec : Int → Option (Unit ⊕ Bool)) : Int → Option (Unit ⊕ Bool)
 | v27l16 =>
  bif decide (v27l16 < (x7.length : Int)) then
   (NF v27l16 x7.length).bind fun (x29 : Nat) =>
   (x7[x29]?).bind fun (x30 : UInt8) =>
   Option.bind (
     bif decide (((x30).toNat : Int) < (48 : Int)) then
      some true
     else
      some (decide (((x30).toNat : Int) > (57 : Int)))
    ) fun (g7 : Bool) =>
   bif g7 then
    some (Sum.inr false)
   else
    rec (BX (v27l16 + (1 : Int)))
  else
   some (Sum.inl ())
def FC (N : Nat) (x7 : List UInt8) : Nat → Int → Option (Unit ⊕ Bool)
 | 0, _ => none
 | n + 1, x => J5 N x7 (FC N x7 n) x
def P9 (N : Nat) (a0 : List UInt8) : Option (Bool) :=
 Option.bind (strings_TrimPrefix N a0 ([45] : List UInt8)) fun (x7 : List UInt8) =>
 Option.bind (
   bif (x7 == ([] : List UInt8)) then
    some true
   else
    bif decide ((x7.length : Int) > (15 : Int)) then
     some true
    else
     (EM x7 (0 : Int)).bind fun (DY : UInt8) =>
     bif (((DY).toNat : Int) == (48 : Int)) then
      some (!(a0 == ([48] : List UInt8)))
     else
      some false
  ) fun (g1 : Bool) =>
 bif g1 then
  some false
 else
  Option.bind (FC N x7 N 0) fun (OP : Unit ⊕ Bool) =>
  Sum.elim (fun (OP : Unit) =>
    some true
   ) (fun (OP : Bool) =>
    some OP
   ) OP
def Q7 (rec : (Int × Int × List (List UInt8)) → Option (Int × List (List UInt8))) (tX : Int) (oN : Int) (WE : List (List UInt8)) : Option (Int × List (List UInt8)) :=
 rec (tX, (BX (oN + (1 : Int))), WE)
def KR (N : Nat) (a0 : List UInt8) (a1 : UInt8) (rec : (Int × Int × List (List UInt8)) → Option (Int × List (List UInt8))) : (Int × Int × List (List UInt8)) → Option (Int × List (List UInt8))
 | (YX, QQ, J7) =>
  bif decide (QQ < (a0.length : Int)) then
   (EM a0 QQ).bind fun (UA : UInt8) =>
   bif (((UA).toNat : Int) == (92 : Int)) then
    Q7 rec YX (BX (QQ + (1 : Int))) J7
   else
    bif (((UA).toNat : Int) == ((a1).toNat : Int)) then
     (dW a0 YX QQ).bind fun (x28 : List UInt8) =>
     (QP 16 J7 [x28]).bind fun (x30 : List (List UInt8)) =>
     Q7 rec (BX (QQ + (1 : Int))) QQ x30
    else
     Q7 rec YX QQ J7
  else
   some (YX, J7)
def JA (N : Nat) (a0 : List UInt8) (a1 : UInt8) : Nat → (Int × Int × List (List UInt8)) → Option (Int × List (List UInt8))
 | 0, _ => none
 | n + 1, x => KR N a0 a1 (JA N a0 a1 n) x
def bW (N : Nat) (a0 : List UInt8) (a1 : UInt8) : Option (List (List UInt8)) :=
 Option.bind (JA N a0 a1 N (0, 0, [])) fun (y4 : Int × List (List UInt8)) =>
 (U6 a0 y4.1).bind fun (Fh : List UInt8) =>
 (QP 16 y4.2 [Fh]).bind fun (x38 : List (List UInt8)) =>
 some x38
def IL (N : Nat) (a0 : List UInt8) (a1 : List UInt8) : Option (List UInt8 × List UInt8 × Bool) :=
 Option.bind (stringslite_Index N a0 a1) fun (P5 : Int) =>
 bif decide (P5 ≥ (0 : Int)) then
  (QR a0 P5).bind fun (Y2 : List UInt8) =>
  (U6 a0 (BX (P5 + (a1.length : Int)))).bind fun (WT : List UInt8) =>
  some (Y2, WT, true)
 else
  some (a0, ([] : List UInt8), false)
def strings_Cut (N : Nat) (a0 : List UInt8) (a1 : List UInt8) : Option (List UInt8 × List UInt8 × Bool) :=
 Option.bind (IL N a0 a1) fun (x9 : List UInt8 × List UInt8 × Bool) =>
 some (x9.1, x9.2.1, x9.2.2)
def strings_HasPrefix (N : Nat) (a0 : List UInt8) (a1 : List UInt8) : Option (Bool) :=
 Option.bind (EJ N a0 a1) fun (x7 : Bool) =>
 some x7
def Q6 (N : Nat) (a0 : List UInt8) (a1 : Int) : Option (UInt8 × Bool) :=
 bif decide (a1 ≥ (a0.length : Int)) then
  some ((0 : UInt8), false)
 else
  (dW a0 a1 (BX (a1 + (1 : Int)))).bind fun (Y2 : List UInt8) =>
  Option.bind (SK N Y2) fun (UA : List UInt8) =>
  (EM UA (0 : Int)).bind fun (DY : UInt8) =>
  Option.bind (strings_IndexByte N ([48, 49, 50, 51, 52, 53, 54, 55, 56, 57, 97, 98, 99, 100, 101, 102] : List UInt8) DY) fun (ZF : Int) =>
  some ((byte (mx ZF (0 : Int))), decide (ZF ≥ (0 : Int)))
def JI (rec : (Bool × Int × List UInt8) → Option ((Bool × List UInt8) ⊕ (List UInt8 × Bool))) (u6 : Bool) (oO : Int) (WC : List UInt8) : Option ((Bool × List UInt8) ⊕ (List UInt8 × Bool)) :=
 rec (u6, (BX (oO + (1 : Int))), WC)
def IG (N : Nat) (a0 : List UInt8) (rec : (Bool × Int × List UInt8) → Option ((Bool × List UInt8) ⊕ (List UInt8 × Bool))) : (Bool × Int × List UInt8) → Option ((Bool × List UInt8) ⊕ (List UInt8 × Bool))
 | (tY, MP, HV) =>
  bif decide (MP < (a0.length : Int)) then
   (EM a0 MP).bind fun (IR : UInt8) =>
   bif (((IR).toNat : Int) == (92 : Int)) then
    Option.bind (
      bif decide ((BX (MP + (1 : Int))) < (a0.length : Int)) then
       (EM a0 (BX (MP + (1 : Int)))).bind fun (jI : UInt8) =>
       Option.bind (strings_IndexByte N ([44, 43, 34, 92, 60, 62, 59, 35, 61, 32] : List UInt8) jI) fun (x46 : Int) =>
       some (decide (x46 ≥ (0 : Int)))
      else
       some false
     ) fun (g6 : Bool) =>
    bif g6 then
     (EM a0 (BX (MP + (1 : Int)))).bind fun (LQ : UInt8) =>
     (QP 1 HV [LQ]).bind fun (x54 : List UInt8) =>
     JI rec (((IR).toNat : Int) == (32 : Int)) (BX (MP + (1 : Int))) x54
    else
     Option.bind (Q6 N a0 (BX (MP + (1 : Int)))) fun (Ff : UInt8 × Bool) =>
     Option.bind (Q6 N a0 (BX ((BX (MP + (1 : Int))) + (1 : Int)))) fun (jH : UInt8 × Bool) =>
     Option.bind (
       bif !Ff.2 then
        some true
       else
        some (!jH.2)
      ) fun (g9 : Bool) =>
     bif g9 then
      some (Sum.inr (([] : List UInt8), false))
     else
      (QP 1 HV [((uM Ff.1 4) ||| jH.1)]).bind fun (x80 : List UInt8) =>
      JI rec (((IR).toNat : Int) == (32 : Int)) (BX ((BX (MP + (1 : Int))) + (1 : Int))) x80
   else
    Option.bind (strings_IndexByte N ([44, 43, 34, 92, 60, 62, 59] : List UInt8) IR) fun (x85 : Int) =>
    bif decide (x85 ≥ (0 : Int)) then
     some (Sum.inr (([] : List UInt8), false))
    else
     (QP 1 HV [IR]).bind fun (x32 : List UInt8) =>
     JI rec (((IR).toNat : Int) == (32 : Int)) MP x32
  else
   some (Sum.inl (tY, HV))
def FO (N : Nat) (a0 : List UInt8) : Nat → (Bool × Int × List UInt8) → Option ((Bool × List UInt8) ⊕ (List UInt8 × Bool))
 | 0, _ => none
 | n + 1, x => IG N a0 (FO N a0 n) x
def QW (N : Nat) (a0 : List UInt8) : Option (List UInt8 × Bool) :=
 Option.bind (
   Option.bind (strings_HasPrefix N a0 ([35] : List UInt8)) fun (JP : Bool) =>
   bif JP then
    some true
   else
    Option.bind (strings_HasPrefix N a0 ([32] : List UInt8)) fun (UA : Bool) =>
    some UA
  ) fun (g1 : Bool) =>
 bif g1 then
  some (([] : List UInt8), false)
 else
  Option.bind (FO N a0 N (false, 0, [])) fun (y13 : (Bool × List UInt8) ⊕ (List UInt8 × Bool)) =>
  Sum.elim (fun (y13 : Bool × List UInt8) =>
    some (y13.2, !y13.1)
   ) (fun (y13 : List UInt8 × Bool) =>
    some (y13.1, y13.2)
   ) y13
def KS (N : Nat) (JP : List (List UInt8)) (rec : (Int × List AU) → Option ((List AU) ⊕ (List AU × Int))) : (Int × List AU) → Option ((List AU) ⊕ (List AU × Int))
 | (PU, MH) =>
  bif decide (PU < (JP.length : Int)) then
   (EM JP PU).bind fun (DY : List UInt8) =>
   Option.bind (strings_Cut N DY ([61] : List UInt8)) fun (WT : List UInt8 × List UInt8 × Bool) =>
   Option.bind (QW N WT.2.1) fun (x27 : List UInt8 × Bool) =>
   Option.bind (
     bif !WT.2.2 then
      some true
     else
      bif !x27.2 then
       some true
      else
       some (decide ((MH.length : Int) > (4 : Int)))
    ) fun (g2 : Bool) =>
   bif g2 then
    some (Sum.inr ([], 15))
   else
    Option.bind (SK N WT.1) fun (x43 : List UInt8) =>
    (QP 32 MH [(⟨x43, x27.1⟩ : AU)]).bind fun (Y1 : List AU) =>
    rec ((BX (PU + (1 : Int))), Y1)
  else
   some (Sum.inl MH)
def HY (N : Nat) (JP : List (List UInt8)) : Nat → (Int × List AU) → Option ((List AU) ⊕ (List AU × Int))
 | 0, _ => none
 | n + 1, x => KS N JP (HY N JP n) x
def QX (N : Nat) (a0 : List UInt8) : Option (List AU × Int) :=
 Option.bind (bW N a0 (43 : UInt8)) fun (JP : List (List UInt8)) =>
 Option.bind (HY N JP N (0, [])) fun (y6 : (List AU) ⊕ (List AU × Int)) =>
 Sum.elim (fun (y6 : List AU) =>
   Option.bind (UT N y6) fun (x50 : Bool) =>
   bif !x50 then
    some ([], 15)
   else
    some (y6, 0)
  ) (fun (y6 : List AU × Int) =>
   some (y6.1, y6.2)
  ) y6
def NA (N : Nat) (KW : List (List UInt8)) (rec : (Int × List (List AU)) → Option ((List (List AU)) ⊕ (List (List AU) × Int))) : (Int × List (List AU)) → Option ((List (List AU)) ⊕ (List (List AU) × Int))
 | (WA, KD) =>
  bif decide (WA < (KW.length : Int)) then
   (EM KW WA).bind fun (UA : List UInt8) =>
   Option.bind (QX N UA) fun (x20 : List AU × Int) =>
   Option.bind (
     bif (x20.2 != (0 : Int)) then
      some true
     else
      some ((KD.length : Int) == (8 : Int))
    ) fun (g3 : Bool) =>
   bif g3 then
    some (Sum.inr ([], 15))
   else
    (QP 24 KD [x20.1]).bind fun (x33 : List (List AU)) =>
    rec ((BX (WA + (1 : Int))), x33)
  else
   some (Sum.inl KD)
def JB (N : Nat) (KW : List (List UInt8)) : Nat → (Int × List (List AU)) → Option ((List (List AU)) ⊕ (List (List AU) × Int))
 | 0, _ => none
 | n + 1, x => NA N KW (JB N KW n) x
def XQ (N : Nat) (a0 : List UInt8) : Option (List (List AU) × Int) :=
 bif (a0 == ([] : List UInt8)) then
  some ([], 0)
 else
  Option.bind (bW N a0 (44 : UInt8)) fun (KW : List (List UInt8)) =>
  Option.bind (JB N KW N (0, [])) fun (y6 : (List (List AU)) ⊕ (List (List AU) × Int)) =>
  Sum.elim (fun (y6 : List (List AU)) =>
    some (y6, 0)
   ) (fun (y6 : List (List AU) × Int) =>
    some (y6.1, y6.2)
   ) y6
def MR (a1 : List UInt8) (N : Nat)  : Option (Bool) :=
 Option.bind (P8 N a1) fun (x20 : Bool) =>
 some x20
def TE (N : Nat) (a0 : Int) (a1 : List UInt8) : Option (Bool) :=
 bif (a0 == (1 : Int)) then
  Option.bind (P7 N a1 ([32] : List UInt8)) fun (DY : List UInt8) =>
  bif (DY == ([] : List UInt8)) then
   some false
  else
   MR a1 N
 else
  bif (a0 == (2 : Int)) then
   MR a1 N
  else
   bif (a0 == (3 : Int)) then
    Option.bind (P9 N a1) fun (YW : Bool) =>
    some YW
   else
    bif (a0 == (5 : Int)) then
     Option.bind (XQ N a1) fun (x25 : List (List AU) × Int) =>
     some (x25.2 == (0 : Int))
    else
     some true
def MS (N : Nat) (a0 : List UInt8) (a1 : List UInt8) : Option (Int) :=
 Option.bind (O9 N a0) fun (x9 : BI × Bool) =>
 bif !x9.2 then
  some 16
 else
  Option.bind (
    bif (a1 == ([] : List UInt8)) then
     some true
    else
     bif decide ((a1.length : Int) > (60 : Int)) then
      some true
     else
      Option.bind (TE N x9.1.Syntax a1) fun (x27 : Bool) =>
      some (!x27)
   ) fun (g2 : Bool) =>
  bif g2 then
   some 17
  else
   some 0
def QC (N : Nat) (a0 : AU) : Option (Bool) :=
 Option.bind (
   bif (a0.Attr == ([101, 110, 116, 114, 121, 105, 100] : List UInt8)) then
    some true
   else
    Option.bind (MS N a0.Attr a0.Value) fun (QJ : Int) =>
    some (QJ != (0 : Int))
  ) fun (g1 : Bool) =>
 some g1
def BZ (N : Nat) (a0 : List AU) (rec : Int → Option (Unit ⊕ Int)) : Int → Option (Unit ⊕ Int)
 | v8l6 =>
  bif decide (v8l6 < (a0.length : Int)) then
   (EM a0 v8l6).bind fun (MM : AU) =>
   Option.bind (QC N MM) fun (UA : Bool) =>
   bif UA then
    some (Sum.inr v8l6)
   else
    rec (BX (v8l6 + (1 : Int)))
  else
   some (Sum.inl ())
def BK (N : Nat) (a0 : List AU) : Nat → Int → Option (Unit ⊕ Int)
 | 0, _ => none
 | n + 1, x => BZ N a0 (BK N a0 n) x
def DX (N : Nat) (a0 : List AU) : Option (Int) :=
 Option.bind (BK N a0 N 0) fun (y3 : Unit ⊕ Int) =>
 Sum.elim (fun (y3 : Unit) =>
   some (-1)
  ) (fun (y3 : Int) =>
   some y3
  ) y3
def D5 (N : Nat) (a0 : List AU) : Option (Bool) :=
 Option.bind (DX N a0) fun (x7 : Int) =>
 some (decide (x7 ≥ (0 : Int)))
def NB (N : Nat) (a0 : List AU) : Option (Bool) :=
 Option.bind (
   Option.bind (UT N a0) fun (x4 : Bool) =>
   bif !x4 then
    some true
   else
    some (decide ((a0.length : Int) ≥ (4 : Int)))
  ) fun (g1 : Bool) =>
 bif g1 then
  some false
 else
  Option.bind (D5 N a0) fun (KW : Bool) =>
  some (!KW)
def OU (N : Nat) (a0 : List UInt8) (c0 : AY) : Option (Bool) :=
 Option.bind (MS N c0.Attr a0) fun (x7 : Int) =>
 some (x7 != (0 : Int))
def C8 (N : Nat) (a0 : List (List UInt8)) (GN : AY) (rec : Int → Option (Unit ⊕ Int)) : Int → Option (Unit ⊕ Int)
 | v8l6 =>
  bif decide (v8l6 < (a0.length : Int)) then
   (EM a0 v8l6).bind fun (MM : List UInt8) =>
   Option.bind (OU N MM GN) fun (UA : Bool) =>
   bif UA then
    some (Sum.inr v8l6)
   else
    rec (BX (v8l6 + (1 : Int)))
  else
   some (Sum.inl ())
def BL (N : Nat) (a0 : List (List UInt8)) (GN : AY) : Nat → Int → Option (Unit ⊕ Int)
 | 0, _ => none
 | n + 1, x => C8 N a0 GN (BL N a0 GN n) x
def E5 (N : Nat) (a0 : List (List UInt8)) (GN : AY) : Option (Int) :=
 Option.bind (BL N a0 GN N 0) fun (y3 : Unit ⊕ Int) =>
 Sum.elim (fun (y3 : Unit) =>
   some (-1)
  ) (fun (y3 : Int) =>
   some y3
  ) y3
def CB (N : Nat) (a0 : List (List UInt8)) (GN : AY) : Option (Bool) :=
 Option.bind (E5 N a0 GN) fun (x7 : Int) =>
 some (decide (x7 ≥ (0 : Int)))
def JC (N : Nat) (a0 : List AY) (a1 : Int) (rec : Int → Option (Unit ⊕ Bool)) : Int → Option (Unit ⊕ Bool)
 | v11l6 =>
  bif decide (v11l6 < (a0.length : Int)) then
   (EM a0 v11l6).bind fun (JP : AY) =>
   Option.bind (O9 N JP.Attr) fun (ZF : BI × Bool) =>
   Option.bind (
     bif !ZF.2 then
      some true
     else
      bif (!(ZF.1.Name == JP.Attr)) then
       some true
      else
       bif (JP.Attr == ([101, 110, 116, 114, 121, 105, 100] : List UInt8)) then
        some true
       else
        bif decide (JP.Kind < (1 : Int)) then
         some true
        else
         bif decide (JP.Kind > a1) then
          some true
         else
          bif decide ((JP.Values.length : Int) > (12 : Int)) then
           some true
          else
           bif (JP.Kind == (1 : Int)) then
            some ((JP.Values.length : Int) == (0 : Int))
           else
            some false
    ) fun (g2 : Bool) =>
   bif g2 then
    some (Sum.inr false)
   else
    Option.bind (CB N JP.Values (⟨JP.Kind, JP.Attr, JP.Values⟩ : AY)) fun (x66 : Bool) =>
    bif x66 then
     some (Sum.inr false)
    else
     rec (BX (v11l6 + (1 : Int)))
  else
   some (Sum.inl ())
def G7 (N : Nat) (a0 : List AY) (a1 : Int) : Nat → Int → Option (Unit ⊕ Bool)
 | 0, _ => none
 | n + 1, x => JC N a0 a1 (G7 N a0 a1 n) x
def LD (N : Nat) (a0 : List AY) (a1 : Int) : Option (Bool) :=
 Option.bind (G7 N a0 a1 N 0) fun (Dp : Unit ⊕ Bool) =>
 Sum.elim (fun (Dp : Unit) =>
   some (decide ((a0.length : Int) ≤ (8 : Int)))
  ) (fun (Dp : Bool) =>
   some Dp
  ) Dp
def ML (N : Nat) (a0 : AR) : Option (Bool) :=
 Option.bind (
   Option.bind (WP N (⟨a0.CSN.Time, a0.CSN.Seq, a0.CSN.Rep⟩ : AQ)) fun (x7 : Bool) =>
   bif !x7 then
    some true
   else
    Option.bind (Q9 N (⟨a0.CSN.Time, a0.CSN.Seq, a0.CSN.Rep⟩ : AQ)) fun (KW : Bool) =>
    bif KW then
     some true
    else
     Option.bind (WP N (⟨a0.ID.Time, a0.ID.Seq, a0.ID.Rep⟩ : AQ)) fun (DY : Bool) =>
     bif !DY then
      some true
     else
      Option.bind (WP N (⟨a0.Parent.Time, a0.Parent.Seq, a0.Parent.Rep⟩ : AQ)) fun (gQ : Bool) =>
      some (!gQ)
  ) fun (g1 : Bool) =>
 bif g1 then
  some false
 else
  Option.bind (
    Option.bind (Q9 N (⟨a0.Parent.Time, a0.Parent.Seq, a0.Parent.Rep⟩ : AQ)) fun (x29 : Bool) =>
    bif x29 then
     bif ((a0.RDN.length : Int) == (0 : Int)) then
      some (!a0.DelOld)
     else
      some false
    else
     some false
   ) fun (g6 : Bool) =>
  bif (a0.Kind == (1 : Int)) then
   Option.bind (
     bif (a0.ID.Time == a0.CSN.Time && (a0.ID.Seq == a0.CSN.Seq && (a0.ID.Rep == a0.CSN.Rep && true))) then
      Option.bind (KI N (⟨a0.Parent.Time, a0.Parent.Seq, a0.Parent.Rep⟩ : AQ) (⟨(⟨a0.CSN.Time, a0.CSN.Seq, a0.CSN.Rep⟩ : AQ), a0.Kind, (⟨a0.ID.Time, a0.ID.Seq, a0.ID.Rep⟩ : AQ), (⟨a0.Parent.Time, a0.Parent.Seq, a0.Parent.Rep⟩ : AQ), a0.RDN, a0.DelOld, a0.Mods⟩ : AR)) fun (x54 : Bool) =>
      bif x54 then
       Option.bind (NB N a0.RDN) fun (x59 : Bool) =>
       bif x59 then
        Option.bind (LD N a0.Mods 1) fun (x64 : Bool) =>
        bif x64 then
         some (!a0.DelOld)
        else
         some false
       else
        some false
      else
       some false
     else
      some false
    ) fun (g10 : Bool) =>
   some g10
  else
   bif (a0.Kind == (2 : Int)) then
    Option.bind (
      Option.bind (Q9 N (⟨a0.ID.Time, a0.ID.Seq, a0.ID.Rep⟩ : AQ)) fun (x75 : Bool) =>
      bif !x75 then
       Option.bind (KI N (⟨a0.ID.Time, a0.ID.Seq, a0.ID.Rep⟩ : AQ) (⟨(⟨a0.CSN.Time, a0.CSN.Seq, a0.CSN.Rep⟩ : AQ), a0.Kind, (⟨a0.ID.Time, a0.ID.Seq, a0.ID.Rep⟩ : AQ), (⟨a0.Parent.Time, a0.Parent.Seq, a0.Parent.Rep⟩ : AQ), a0.RDN, a0.DelOld, a0.Mods⟩ : AR)) fun (x81 : Bool) =>
       bif x81 then
        bif g6 then
         some ((a0.Mods.length : Int) == (0 : Int))
        else
         some false
       else
        some false
      else
       some false
     ) fun (g16 : Bool) =>
    some g16
   else
    bif (a0.Kind == (3 : Int)) then
     Option.bind (
       Option.bind (KI N (⟨a0.ID.Time, a0.ID.Seq, a0.ID.Rep⟩ : AQ) (⟨(⟨a0.CSN.Time, a0.CSN.Seq, a0.CSN.Rep⟩ : AQ), a0.Kind, (⟨a0.ID.Time, a0.ID.Seq, a0.ID.Rep⟩ : AQ), (⟨a0.Parent.Time, a0.Parent.Seq, a0.Parent.Rep⟩ : AQ), a0.RDN, a0.DelOld, a0.Mods⟩ : AR)) fun (x97 : Bool) =>
       bif x97 then
        bif g6 then
         bif decide ((a0.Mods.length : Int) > (0 : Int)) then
          Option.bind (LD N a0.Mods 3) fun (x110 : Bool) =>
          some x110
         else
          some false
        else
         some false
       else
        some false
      ) fun (g21 : Bool) =>
     some g21
    else
     bif (a0.Kind == (4 : Int)) then
      Option.bind (
        Option.bind (Q9 N (⟨a0.ID.Time, a0.ID.Seq, a0.ID.Rep⟩ : AQ)) fun (lZ : Bool) =>
        bif !lZ then
         Option.bind (KI N (⟨a0.ID.Time, a0.ID.Seq, a0.ID.Rep⟩ : AQ) (⟨(⟨a0.CSN.Time, a0.CSN.Seq, a0.CSN.Rep⟩ : AQ), a0.Kind, (⟨a0.ID.Time, a0.ID.Seq, a0.ID.Rep⟩ : AQ), (⟨a0.Parent.Time, a0.Parent.Seq, a0.Parent.Rep⟩ : AQ), a0.RDN, a0.DelOld, a0.Mods⟩ : AR)) fun (JL : Bool) =>
         bif JL then
          Option.bind (KI N (⟨a0.Parent.Time, a0.Parent.Seq, a0.Parent.Rep⟩ : AQ) (⟨(⟨a0.CSN.Time, a0.CSN.Seq, a0.CSN.Rep⟩ : AQ), a0.Kind, (⟨a0.ID.Time, a0.ID.Seq, a0.ID.Rep⟩ : AQ), (⟨a0.Parent.Time, a0.Parent.Seq, a0.Parent.Rep⟩ : AQ), a0.RDN, a0.DelOld, a0.Mods⟩ : AR)) fun (x128 : Bool) =>
          bif x128 then
           Option.bind (NB N a0.RDN) fun (x133 : Bool) =>
           bif x133 then
            some ((a0.Mods.length : Int) == (0 : Int))
           else
            some false
          else
           some false
         else
          some false
        else
         some false
       ) fun (g26 : Bool) =>
      some g26
     else
      some false
def LV (N : Nat) (a0 : UInt8) (a1 : List UInt8) : Option (A7) :=
 some (⟨a0, a1, []⟩ : A7)
def RA (aI : Int) (H9 : List UInt8) (rec : (Int × List UInt8) → Option (List UInt8)) (Dt : Int) : Option (List UInt8) :=
 bif (aI == Dt) then
  some H9
 else
  (QP 1 [(byte aI)] H9).bind fun (x27 : List UInt8) =>
  rec ((jT aI 8), x27)
def UG (N : Nat) (rec : (Int × List UInt8) → Option (List UInt8)) : (Int × List UInt8) → Option (List UInt8)
 | (aI, H9) =>
  (NF (0 : Int) H9.length).bind fun (MM : Nat) =>
  (H9[MM]?).bind fun (Y2 : UInt8) =>
  bif ((((Y2 &&& (128 : UInt8))).toNat : Int) != (0 : Int)) then
   RA aI H9 rec (-1)
  else
   RA aI H9 rec 0
def P6 (N : Nat) : Nat → (Int × List UInt8) → Option (List UInt8)
 | 0, _ => none
 | n + 1, x => UG N (P6 N n) x
def Y5 (N : Nat) (a0 : Int) : Option (List UInt8) :=
 Option.bind (P6 N N ((jT a0 8), [(byte a0)])) fun (y3 : List UInt8) =>
 some y3
def TA (N : Nat) (a0 : UInt8) (a1 : Int) : Option (A7) :=
 Option.bind (Y5 N a1) fun (x7 : List UInt8) =>
 Option.bind (LV N a0 x7) fun (x8 : A7) =>
 some x8
def PT (N : Nat) (a0 : UInt8) (a1 : List A7) : Option (A7) :=
 some (⟨a0, ([] : List UInt8), (List.map A8 a1)⟩ : A7)
def bZ (N : Nat) (a0 : AQ) : Option (List UInt8) :=
 Option.bind (JR N a0.Time 10) fun (x5 : List UInt8) =>
 (j3 x5 ([46] : List UInt8)).bind fun (x6 : List UInt8) =>
 Option.bind (strconv_Itoa N a0.Seq) fun (x9 : List UInt8) =>
 (j3 x6 x9).bind fun (P5 : List UInt8) =>
 (j3 P5 ([46] : List UInt8)).bind fun (QJ : List UInt8) =>
 Option.bind (strconv_Itoa N a0.Rep) fun (MM : List UInt8) =>
 (j3 QJ MM).bind fun (Y2 : List UInt8) =>
 some Y2
def O5 (N : Nat) (a0 : AQ) : Option (A7) :=
 Option.bind (bZ N a0) fun (x4 : List UInt8) =>
 Option.bind (LV N (4 : UInt8) x4) fun (x5 : A7) =>
 some x5
def XW (N : Nat) (IJ : A7 → Option (Bool)) (a0 : A7) : Option (Bool) :=
 Option.bind (IJ a0) fun (x4 : Bool) =>
 some (!x4)
def EC (N : Nat) (IJ : A7 → Option (Bool)) (a0 : List A7) (rec : Int → Option (Unit ⊕ Int)) : Int → Option (Unit ⊕ Int)
 | v8l6 =>
  bif decide (v8l6 < (a0.length : Int)) then
   (EM a0 v8l6).bind fun (MM : A7) =>
   Option.bind (XW N IJ MM) fun (UA : Bool) =>
   bif UA then
    some (Sum.inr v8l6)
   else
    rec (BX (v8l6 + (1 : Int)))
  else
   some (Sum.inl ())
def BQ (N : Nat) (IJ : A7 → Option (Bool)) (a0 : List A7) : Nat → Int → Option (Unit ⊕ Int)
 | 0, _ => none
 | n + 1, x => EC N IJ a0 (BQ N IJ a0 n) x
def EQ (N : Nat) (IJ : A7 → Option (Bool)) (a0 : List A7) : Option (Int) :=
 Option.bind (BQ N IJ a0 N 0) fun (y3 : Unit ⊕ Int) =>
 Sum.elim (fun (y3 : Unit) =>
   some (-1)
  ) (fun (y3 : Int) =>
   some y3
  ) y3
def EG (N : Nat) (IJ : A7 → Option (Bool)) (a0 : List A7) : Option (Bool) :=
 Option.bind (EQ N IJ a0) fun (x7 : Int) =>
 some (decide (x7 ≥ (0 : Int)))
def XV (N : Nat) (IJ : A7 → Option (Bool)) (a0 : A7) : Option (Bool) :=
 bif ((((a0.Tag &&& (31 : UInt8))).toNat : Int) == (31 : Int)) then
  some false
 else
  bif ((((a0.Tag &&& (32 : UInt8))).toNat : Int) == (0 : Int)) then
   Option.bind (SL CS a0.Kids) fun (MM : List A7) =>
   some ((MM.length : Int) == (0 : Int))
  else
   Option.bind (
     bif (a0.Body == ([] : List UInt8)) then
      Option.bind (SL CS a0.Kids) fun (YW : List A7) =>
      Option.bind (EG N IJ YW) fun (gQ : Bool) =>
      some (!gQ)
     else
      some false
    ) fun (g3 : Bool) =>
   some g3
def NC (N : Nat) : Nat → A7 → Option (Bool)
 | 0 => fun _ => none
 | n + 1 => XV N (NC N n)
def dB (N : Nat) (a0 : A7) : Option (Bool) := NC N N a0
def VS (N : Nat) (IJ : A7 → Option (Int)) (x7 : List A7) (rec : (Int × Int) → Option (Int)) : (Int × Int) → Option (Int)
 | (rD, rC) =>
  bif decide (rC < (x7.length : Int)) then
   (EM x7 rC).bind fun (QJ : A7) =>
   Option.bind (IJ QJ) fun (Y2 : Int) =>
   rec ((mx rD Y2), (BX (rC + (1 : Int))))
  else
   some rD
def R6 (N : Nat) (IJ : A7 → Option (Int)) (x7 : List A7) : Nat → (Int × Int) → Option (Int)
 | 0, _ => none
 | n + 1, x => VS N IJ x7 (R6 N IJ x7 n) x
def dC (N : Nat) (IJ : A7 → Option (Int)) (a0 : A7) : Option (Int) :=
 Option.bind (SL CS a0.Kids) fun (x7 : List A7) =>
 Option.bind (R6 N IJ x7 N (0, 0)) fun (y2 : Int) =>
 some (BX (y2 + (1 : Int)))
def QI (N : Nat) : Nat → A7 → Option (Int)
 | 0 => fun _ => none
 | n + 1 => dC N (QI N n)
def lN (N : Nat) (a0 : A7) : Option (Int) := QI N N a0
def dA (N : Nat) (a0 : Int) : Option (List UInt8) :=
 bif decide (a0 < (128 : Int)) then
  some [(byte a0)]
 else
  bif decide (a0 < (256 : Int)) then
   some [(129 : UInt8), (byte a0)]
  else
   some [(130 : UInt8), (byte (jT a0 8)), (byte a0)]
def UX (N : Nat) (IJ : A7 → Option (List UInt8 × Bool)) (a0 : A7) (JP : List A7) (rec : (Int × List UInt8) → Option ((List UInt8) ⊕ (List UInt8 × Bool))) : (Int × List UInt8) → Option ((List UInt8) ⊕ (List UInt8 × Bool))
 | (PU, MX) =>
  bif decide (PU < (JP.length : Int)) then
   (EM JP PU).bind fun (DY : A7) =>
   Option.bind (IJ DY) fun (WT : List UInt8 × Bool) =>
   Option.bind (
     bif !WT.2 then
      some true
     else
      some (decide ((BX ((MX.length : Int) + (WT.1.length : Int))) > (4000 : Int)))
    ) fun (g2 : Bool) =>
   bif g2 then
    some (Sum.inr (([] : List UInt8), false))
   else
    (QP 1 MX WT.1).bind fun (Fh : List UInt8) =>
    rec ((BX (PU + (1 : Int))), Fh)
  else
   some (Sum.inl MX)
def PM (N : Nat) (IJ : A7 → Option (List UInt8 × Bool)) (a0 : A7) (JP : List A7) : Nat → (Int × List UInt8) → Option ((List UInt8) ⊕ (List UInt8 × Bool))
 | 0, _ => none
 | n + 1, x => UX N IJ a0 JP (PM N IJ a0 JP n) x
def ZB (N : Nat) (IJ : A7 → Option (List UInt8 × Bool)) (a0 : A7) : Option (List UInt8 × Bool) :=
 Option.bind (SL CS a0.Kids) fun (JP : List A7) =>
 Option.bind (PM N IJ a0 JP N (0, a0.Body)) fun (y5 : (List UInt8) ⊕ (List UInt8 × Bool)) =>
 Sum.elim (fun (y5 : List UInt8) =>
   bif decide ((y5.length : Int) > (4000 : Int)) then
    some (([] : List UInt8), false)
   else
    Option.bind (dA N (y5.length : Int)) fun (Y1 : List UInt8) =>
    (j3 [a0.Tag] Y1).bind fun (lW : List UInt8) =>
    (j3 lW y5).bind fun (x51 : List UInt8) =>
    some (x51, true)
  ) (fun (y5 : List UInt8 × Bool) =>
   some (y5.1, y5.2)
  ) y5
def OJ (N : Nat) : Nat → A7 → Option (List UInt8 × Bool)
 | 0 => fun _ => none
 | n + 1 => ZB N (OJ N n)
def gH (N : Nat) (a0 : A7) : Option (List UInt8 × Bool) := OJ N N a0
def gI (N : Nat) (a0 : A7) : Option (List UInt8 × Int) :=
 Option.bind (dB N a0) fun (x7 : Bool) =>
 bif !x7 then
  some (([] : List UInt8), 14)
 else
  Option.bind (lN N a0) fun (P5 : Int) =>
  bif decide (P5 > (20 : Int)) then
   some (([] : List UInt8), 12)
  else
   Option.bind (gH N a0) fun (MM : List UInt8 × Bool) =>
   bif !MM.2 then
    some (([] : List UInt8), 13)
   else
    some (MM.1, 0)
def QF (N : Nat) (a0 : AR) (rec : (Int × List A7) → Option (List A7)) : (Int × List A7) → Option (List A7)
 | (Y9, SG) =>
  bif decide (Y9 < (a0.RDN.length : Int)) then
   (EM a0.RDN Y9).bind fun (x24 : AU) =>
   Option.bind (LV N (4 : UInt8) x24.Attr) fun (x29 : A7) =>
   Option.bind (LV N (4 : UInt8) x24.Value) fun (x32 : A7) =>
   (QP 48 SG [x29, x32]).bind fun (x34 : List A7) =>
   rec ((BX (Y9 + (1 : Int))), x34)
  else
   some SG
def KV (N : Nat) (a0 : AR) : Nat → (Int × List A7) → Option (List A7)
 | 0, _ => none
 | n + 1, x => QF N a0 (KV N a0 n) x
def QD (N : Nat) (a0 : AR) (y3 : List A7) (J3 : Int) (ES : List A7) (x41 : AY) (rec : (Int × List A7) → Option (List A7)) : (Int × List A7) → Option (List A7)
 | (Y6, SF) =>
  bif decide (Y6 < (x41.Values.length : Int)) then
   (EM x41.Values Y6).bind fun (x55 : List UInt8) =>
   Option.bind (LV N (4 : UInt8) x55) fun (x59 : A7) =>
   (QP 48 SF [x59]).bind fun (Fe : List A7) =>
   rec ((BX (Y6 + (1 : Int))), Fe)
  else
   some SF
def KT (N : Nat) (a0 : AR) (y3 : List A7) (J3 : Int) (ES : List A7) (x41 : AY) : Nat → (Int × List A7) → Option (List A7)
 | 0, _ => none
 | n + 1, x => QD N a0 y3 J3 ES x41 (KT N a0 y3 J3 ES x41 n) x
def QE (N : Nat) (a0 : AR) (y3 : List A7) (rec : (Int × List A7) → Option (List A7)) : (Int × List A7) → Option (List A7)
 | (J3, ES) =>
  bif decide (J3 < (a0.Mods.length : Int)) then
   (EM a0.Mods J3).bind fun (x41 : AY) =>
   Option.bind (TA N (2 : UInt8) x41.Kind) fun (jI : A7) =>
   Option.bind (LV N (4 : UInt8) x41.Attr) fun (lW : A7) =>
   Option.bind (KT N a0 y3 J3 ES x41 N (0, [jI, lW])) fun (y6 : List A7) =>
   Option.bind (PT N (48 : UInt8) y6) fun (jH : A7) =>
   (QP 48 ES [jH]).bind fun (x67 : List A7) =>
   rec ((BX (J3 + (1 : Int))), x67)
  else
   some ES
def KU (N : Nat) (a0 : AR) (y3 : List A7) : Nat → (Int × List A7) → Option (List A7)
 | 0, _ => none
 | n + 1, x => QE N a0 y3 (KU N a0 y3 n) x
def NS (a0 : AR) (N : Nat) (y3 : List A7) (y7 : List A7) (uA : Int) : Option (List UInt8 × Int) :=
 Option.bind (TA N (2 : UInt8) uA) fun (x77 : A7) =>
 Option.bind (O5 N (⟨a0.CSN.Time, a0.CSN.Seq, a0.CSN.Rep⟩ : AQ)) fun (x80 : A7) =>
 Option.bind (O5 N (⟨a0.ID.Time, a0.ID.Seq, a0.ID.Rep⟩ : AQ)) fun (x83 : A7) =>
 Option.bind (O5 N (⟨a0.Parent.Time, a0.Parent.Seq, a0.Parent.Rep⟩ : AQ)) fun (x86 : A7) =>
 Option.bind (PT N (48 : UInt8) y3) fun (x88 : A7) =>
 Option.bind (PT N (48 : UInt8) y7) fun (x90 : A7) =>
 Option.bind (PT N (48 : UInt8) [x77, x80, x83, x86, x88, x90]) fun (x92 : A7) =>
 Option.bind (gI N x92) fun (x93 : List UInt8 × Int) =>
 Option.bind (
   bif (x93.2 == (0 : Int)) then
    some (decide ((x93.1.length : Int) > (4000 : Int)))
   else
    some false
  ) fun (g8 : Bool) =>
 bif g8 then
  some (([] : List UInt8), 13)
 else
  some (x93.1, x93.2)
def PL (N : Nat) (a0 : AR) : Option (List UInt8 × Int) :=
 Option.bind (ML N a0) fun (DY : Bool) =>
 bif !DY then
  some (([] : List UInt8), 14)
 else
  Option.bind (KV N a0 N (0, [])) fun (y3 : List A7) =>
  Option.bind (KU N a0 y3 N (0, [])) fun (y7 : List A7) =>
  bif a0.DelOld then
   NS a0 N y3 y7 (BX (0 - a0.Kind))
  else
   NS a0 N y3 y7 a0.Kind
def TT (tZ : Int) (tV : Int) : Option (Int × Int × Int) :=
 bif decide (tZ > (4000 : Int)) then
  some (0, 0, 13)
 else
  some ((BX ((2 : Int) + tV)), tZ, 0)
def UY (N : Nat) (OO : UInt8) (x41 : List UInt8) (rec : (Int × Int) → Option (Int)) : (Int × Int) → Option (Int)
 | (eO, Y7) =>
  bif decide (Y7 < (x41.length : Int)) then
   (NF Y7 x41.length).bind fun (x46 : Nat) =>
   (x41[x46]?).bind fun (Y1 : UInt8) =>
   rec ((iop .or .i64 (mJ eO 8) ((Y1).toNat : Int)), (BX (Y7 + (1 : Int))))
  else
   some eO
def PN (N : Nat) (OO : UInt8) (x41 : List UInt8) : Nat → (Int × Int) → Option (Int)
 | 0, _ => none
 | n + 1, x => UY N OO x41 (PN N OO x41 n) x
def lS (N : Nat) (a0 : List UInt8) : Option (Int × Int × Int) :=
 bif (a0 == ([] : List UInt8)) then
  some (0, 0, 10)
 else
  (EM a0 (0 : Int)).bind fun (KW : UInt8) =>
  bif ((((KW &&& (31 : UInt8))).toNat : Int) == (31 : Int)) then
   some (0, 0, 14)
  else
   bif ((a0.length : Int) == (1 : Int)) then
    some (0, 0, 10)
   else
    (EM a0 (1 : Int)).bind fun (OO : UInt8) =>
    Option.bind (
      bif (((OO).toNat : Int) == (128 : Int)) then
       some true
      else
       some (decide (((OO).toNat : Int) > (132 : Int)))
     ) fun (g5 : Bool) =>
    bif g5 then
     some (0, 0, 11)
    else
     bif decide (((OO).toNat : Int) > (128 : Int)) then
      bif decide ((a0.length : Int) < (BX ((2 : Int) + (BX (((OO).toNat : Int) - (128 : Int)))))) then
       some (0, 0, 10)
      else
       (dW a0 (2 : Int) (BX ((2 : Int) + (BX (((OO).toNat : Int) - (128 : Int)))))).bind fun (x41 : List UInt8) =>
       Option.bind (PN N OO x41 N (0, 0)) fun (y11 : Int) =>
       TT y11 (BX (((OO).toNat : Int) - (128 : Int)))
     else
      TT ((OO).toNat : Int) 0
def LF (N : Nat) (IJ : BC → Int → Int → Int → Option (A7 × Int × Int × BC)) (a1 : Int) (a3 : Int) (JO : Int × Int × Int) (rec : (Int × UInt8 × List UInt8 × List A7 × BC) → Option ((UInt8 × List UInt8 × List A7 × BC) ⊕ (A7 × Int × Int × BC))) : (Int × UInt8 × List UInt8 × List A7 × BC) → Option ((UInt8 × List UInt8 × List A7 × BC) ⊕ (A7 × Int × Int × BC))
 | (mD, J9, J8, Q3, PY) =>
  bif decide (mD < (BX ((BX (a1 + JO.1)) + JO.2.1))) then
   Option.bind (IJ PY mD (BX ((BX (a1 + JO.1)) + JO.2.1)) (BX (a3 + (1 : Int)))) fun (x102 : A7 × Int × Int × BC) =>
   bif (x102.2.2.1 != (0 : Int)) then
    some (Sum.inr ((⟨(0 : UInt8), ([] : List UInt8), []⟩ : A7), 0, x102.2.2.1, x102.2.2.2))
   else
    (QP 48 Q3 [x102.1]).bind fun (x114 : List A7) =>
    rec (x102.2.1, J9, J8, x114, x102.2.2.2)
  else
   some (Sum.inl (J9, J8, Q3, PY))
def GY (N : Nat) (IJ : BC → Int → Int → Int → Option (A7 × Int × Int × BC)) (a1 : Int) (a3 : Int) (JO : Int × Int × Int) : Nat → (Int × UInt8 × List UInt8 × List A7 × BC) → Option ((UInt8 × List UInt8 × List A7 × BC) ⊕ (A7 × Int × Int × BC))
 | 0, _ => none
 | n + 1, x => LF N IJ a1 a3 JO (GY N IJ a1 a3 JO n) x
def JD (IJ : BC → Int → Int → Int → Option (A7 × Int × Int × BC)) (a0 : BC) (a1 : Int) (a3 : Int) (N : Nat) (JO : Int × Int × Int) (gY : Int) : Option (A7 × Int × Int × BC) :=
 bif (gY != (0 : Int)) then
  some ((⟨(0 : UInt8), ([] : List UInt8), []⟩ : A7), 0, gY, (⟨a0.s, a1⟩ : BC))
 else
  (EM a0.s a1).bind fun (gN : UInt8) =>
  bif ((((gN &&& (32 : UInt8))).toNat : Int) == (0 : Int)) then
   (dW a0.s (BX (a1 + JO.1)) (BX ((BX (a1 + JO.1)) + JO.2.1))).bind fun (x82 : List UInt8) =>
   some ((⟨gN, x82, []⟩ : A7), (BX ((BX (a1 + JO.1)) + JO.2.1)), 0, (⟨a0.s, a1⟩ : BC))
  else
   Option.bind (GY N IJ a1 a3 JO N ((BX (a1 + JO.1)), gN, ([] : List UInt8), [], (⟨a0.s, a1⟩ : BC))) fun (y6 : (UInt8 × List UInt8 × List A7 × BC) ⊕ (A7 × Int × Int × BC)) =>
   Sum.elim (fun (y6 : UInt8 × List UInt8 × List A7 × BC) =>
     some ((⟨y6.1, y6.2.1, (List.map A8 y6.2.2.1)⟩ : A7), (BX ((BX (a1 + JO.1)) + JO.2.1)), 0, y6.2.2.2)
    ) (fun (y6 : A7 × Int × Int × BC) =>
     some (y6.1, y6.2.1, y6.2.2.1, y6.2.2.2)
    ) y6
def JE (IJ : BC → Int → Int → Int → Option (A7 × Int × Int × BC)) (a0 : BC) (a1 : Int) (a3 : Int) (N : Nat) (JO : Int × Int × Int) (aJ : Int) : Option (A7 × Int × Int × BC) :=
 Option.bind (
   bif (aJ == (10 : Int)) then
    some (decide (a3 > (1 : Int)))
   else
    some false
  ) fun (g7 : Bool) =>
 bif g7 then
  JD IJ a0 a1 a3 N JO 11
 else
  JD IJ a0 a1 a3 N JO aJ
def OI (N : Nat) (IJ : BC → Int → Int → Int → Option (A7 × Int × Int × BC)) (a0 : BC) (a1 : Int) (a2 : Int) (a3 : Int) : Option (A7 × Int × Int × BC) :=
 bif decide (a3 > (20 : Int)) then
  some ((⟨(0 : UInt8), ([] : List UInt8), []⟩ : A7), 0, 12, (⟨a0.s, a1⟩ : BC))
 else
  (dW a0.s a1 a2).bind fun (x34 : List UInt8) =>
  Option.bind (lS N x34) fun (JO : Int × Int × Int) =>
  Option.bind (
    bif (JO.2.2 == (0 : Int)) then
     some (decide (JO.2.1 > (BX ((BX (a2 - a1)) - JO.1))))
    else
     some false
   ) fun (g10 : Bool) =>
  bif g10 then
   JE IJ a0 a1 a3 N JO 10
  else
   JE IJ a0 a1 a3 N JO JO.2.2
def II (N : Nat) : Nat → BC → Int → Int → Int → Option (A7 × Int × Int × BC)
 | 0 => fun _ _ _ _ => none
 | n + 1 => OI N (II N n)
def QH (N : Nat) (a0 : BC) (a1 : Int) (a2 : Int) (a3 : Int) : Option (A7 × Int × Int × BC) := II N N a0 a1 a2 a3
def lQ (N : Nat) (a0 : List UInt8) : Option (A7 × Int × Int × Int) :=
 Option.bind (QH N (⟨a0, 0⟩ : BC) 0 (a0.length : Int) 1) fun (DY : A7 × Int × Int × BC) =>
 bif (DY.2.2.1 != (0 : Int)) then
  some ((⟨(0 : UInt8), ([] : List UInt8), []⟩ : A7), 0, DY.2.2.2.at_, DY.2.2.1)
 else
  some (DY.1, DY.2.1, 0, 0)
def OV (N : Nat) (a0 : List UInt8) (rec : (Int × Int) → Option (Int)) : (Int × Int) → Option (Int)
 | (eP, Y8) =>
  bif decide (Y8 < (a0.length : Int)) then
   (NF Y8 a0.length).bind fun (x25 : Nat) =>
   (a0[x25]?).bind fun (IR : UInt8) =>
   rec ((iop .or .i64 (mJ eP 8) ((IR).toNat : Int)), (BX (Y8 + (1 : Int))))
  else
   some eP
def JQ (N : Nat) (a0 : List UInt8) : Nat → (Int × Int) → Option (Int)
 | 0, _ => none
 | n + 1, x => OV N a0 (JQ N a0 n) x
def NL (a0 : List UInt8) (N : Nat) (v4j6 : Int) : Option (Int × Bool) :=
 Option.bind (JQ N a0 N (v4j6, 0)) fun (y2 : Int) =>
 Option.bind (Y5 N y2) fun (x34 : List UInt8) =>
 bif (!(x34 == a0)) then
  some (0, false)
 else
  some (y2, true)
def R9 (N : Nat) (a0 : List UInt8) : Option (Int × Bool) :=
 Option.bind (
   bif (a0 == ([] : List UInt8)) then
    some true
   else
    some (decide ((a0.length : Int) > (8 : Int)))
  ) fun (g4 : Bool) =>
 bif g4 then
  some (0, false)
 else
  (EM a0 (0 : Int)).bind fun (DY : UInt8) =>
  bif ((((DY &&& (128 : UInt8))).toNat : Int) != (0 : Int)) then
   NL a0 N (-1)
  else
   NL a0 N 0
def TY (N : Nat) (a0 : List UInt8) (a1 : Int) : Option (List (List UInt8)) :=
 none
def strings_Index (N : Nat) (a0 : List UInt8) (a1 : List UInt8) : Option (Int) :=
 Option.bind (stringslite_Index N a0 a1) fun (x7 : Int) =>
 some x7
def MQ (N : Nat) (a0 : List UInt8) (a1 : List UInt8) (a2 : Int) (OW : Int) (rec : (List UInt8 × Int × List (List UInt8)) → Option (List UInt8 × Int × List (List UInt8))) : (List UInt8 × Int × List (List UInt8)) → Option (List UInt8 × Int × List (List UInt8))
 | (YY, RB, G6) =>
  bif decide (RB < (BX ((mn OW (BX ((a0.length : Int) + (1 : Int)))) - (1 : Int)))) then
   Option.bind (strings_Index N YY a1) fun (x39 : Int) =>
   bif decide (x39 < (0 : Int)) then
    some (YY, RB, G6)
   else
    (QR YY (BX (x39 + a2))).bind fun (lW : List UInt8) =>
    (NF RB G6.length).bind fun (ZE : Nat) =>
    (G6[ZE]?).bind fun (tQ : List UInt8) =>
    (U6 YY (BX (x39 + (a1.length : Int)))).bind fun (x55 : List UInt8) =>
    rec (x55, (BX (RB + (1 : Int))), (G6.set ZE lW))
  else
   some (YY, RB, G6)
def IE (N : Nat) (a0 : List UInt8) (a1 : List UInt8) (a2 : Int) (OW : Int) : Nat → (List UInt8 × Int × List (List UInt8)) → Option (List UInt8 × Int × List (List UInt8))
 | 0, _ => none
 | n + 1, x => MQ N a0 a1 a2 OW (IE N a0 a1 a2 OW n) x
def JX (a0 : List UInt8) (a1 : List UInt8) (a2 : Int) (N : Nat) (OW : Int) : Option (List (List UInt8)) :=
 Option.bind (mkN 16 (mn OW (BX ((a0.length : Int) + (1 : Int))))) fun (x31 : Nat) =>
 Option.bind (IE N a0 a1 a2 OW N (a0, 0, (List.replicate x31 ([] : List UInt8)))) fun (y6 : List UInt8 × Int × List (List UInt8)) =>
 (NF y6.2.1 y6.2.2.length).bind fun (Fe : Nat) =>
 (y6.2.2[Fe]?).bind fun (tO : List UInt8) =>
 (QR (y6.2.2.set Fe y6.1) (BX (y6.2.1 + (1 : Int)))).bind fun (jH : List (List UInt8)) =>
 some jH
def strings_genSplit (N : Nat) (a0 : List UInt8) (a1 : List UInt8) (a2 : Int) (a3 : Int) : Option (List (List UInt8)) :=
 bif (a3 == (0 : Int)) then
  some []
 else
  bif (a1 == ([] : List UInt8)) then
   Option.bind (TY N a0 a3) fun (ZF : List (List UInt8)) =>
   some ZF
  else
   bif decide (a3 < (0 : Int)) then
    Option.bind (strings_Count N a0 a1) fun (gQ : Int) =>
    JX a0 a1 a2 N (BX (gQ + (1 : Int)))
   else
    JX a0 a1 a2 N a3
def strings_Split (N : Nat) (a0 : List UInt8) (a1 : List UInt8) : Option (List (List UInt8)) :=
 Option.bind (strings_genSplit N a0 a1 0 (-1)) fun (x7 : List (List UInt8)) =>
 some x7
def U8 (N : Nat) (a0 : List UInt8) (KW : List (List UInt8)) (rec : (Int × List Int) → Option ((List Int) ⊕ (AQ × Int))) : (Int × List Int) → Option ((List Int) ⊕ (AQ × Int))
 | (TB, NR) =>
  bif decide (TB < (KW.length : Int)) then
   (EM KW TB).bind fun (YW : List UInt8) =>
   Option.bind (KM N YW 10 64) fun (IR : Int × Bool) =>
   Option.bind (
     bif IR.2 then
      some true
     else
      bif decide (IR.1 < (0 : Int)) then
       some true
      else
       some (decide (IR.1 > (1099511627776 : Int)))
    ) fun (g3 : Bool) =>
   bif g3 then
    some (Sum.inr ((⟨0, 0, 0⟩ : AQ), 14))
   else
    (NF TB 3).bind fun (Fg : Nat) =>
    (NR[Fg]?).bind fun (tO : Int) =>
    rec ((BX (TB + (1 : Int))), (NR.set Fg IR.1))
  else
   some (Sum.inl NR)
def O4 (N : Nat) (a0 : List UInt8) (KW : List (List UInt8)) : Nat → (Int × List Int) → Option ((List Int) ⊕ (AQ × Int))
 | 0, _ => none
 | n + 1, x => U8 N a0 KW (O4 N a0 KW n) x
def VD (N : Nat) (a0 : List UInt8) : Option (AQ × Int) :=
 Option.bind (strings_Split N a0 ([46] : List UInt8)) fun (KW : List (List UInt8)) =>
 bif ((KW.length : Int) != (3 : Int)) then
  some ((⟨0, 0, 0⟩ : AQ), 14)
 else
  Option.bind (O4 N a0 KW N (0, [0, 0, 0])) fun (y8 : (List Int) ⊕ (AQ × Int)) =>
  Sum.elim (fun (y8 : List Int) =>
    (y8[0]?).bind fun (jI : Int) =>
    (y8[1]?).bind fun (Y1 : Int) =>
    (y8[2]?).bind fun (ZE : Int) =>
    Option.bind (
      Option.bind (WP N (⟨jI, Y1, ZE⟩ : AQ)) fun (LQ : Bool) =>
      bif !LQ then
       some true
      else
       Option.bind (bZ N (⟨jI, Y1, ZE⟩ : AQ)) fun (x56 : List UInt8) =>
       some (!(x56 == a0))
     ) fun (g9 : Bool) =>
    bif g9 then
     some ((⟨0, 0, 0⟩ : AQ), 14)
    else
     some ((⟨jI, Y1, ZE⟩ : AQ), 0)
   ) (fun (y8 : AQ × Int) =>
    some (y8.1, y8.2)
   ) y8
def R4 (N : Nat) (a0 : List UInt8) (IR : A7 × Int × Int × Int) (LQ : Int × Bool) (x81 : AQ × Int) (CZ : AQ × Int) (EF : AQ × Int) (rec : Unit → Option (Unit)) : Unit → Option (Unit)
 | () =>
  some ()
def LP (N : Nat) (a0 : List UInt8) (IR : A7 × Int × Int × Int) (LQ : Int × Bool) (x81 : AQ × Int) (CZ : AQ × Int) (EF : AQ × Int) : Nat → Unit → Option (Unit)
 | 0, _ => none
 | n + 1, x => R4 N a0 IR LQ x81 CZ EF (LP N a0 IR LQ x81 CZ EF n) x
def R3 (N : Nat) (a0 : List UInt8) (IR : A7 × Int × Int × Int) (x93 : List A7) (rec : (Int × Int × Int × Int × Int × Int × Int × Int × Int × Int × Int × Bool × List AU) → Option (Int × Int × Int × Int × Int × Int × Int × Int × Int × Int × Bool × List AU)) : (Int × Int × Int × Int × Int × Int × Int × Int × Int × Int × Int × Bool × List AU) → Option (Int × Int × Int × Int × Int × Int × Int × Int × Int × Int × Bool × List AU)
 | (TC, MF, ME, MC, MB, M9, M8, M7, M6, M5, M4, KO, Q0) =>
  bif decide ((BX (TC + (1 : Int))) < (x93.length : Int)) then
   (EM x93 TC).bind fun (x105 : A7) =>
   (EM x93 (BX (TC + (1 : Int)))).bind fun (gU : A7) =>
   (QP 32 Q0 [(⟨x105.Body, gU.Body⟩ : AU)]).bind fun (lZ : List AU) =>
   rec ((BX (TC + (2 : Int))), MF, ME, MC, MB, M9, M8, M7, M6, M5, M4, KO, lZ)
  else
   some (MF, ME, MC, MB, M9, M8, M7, M6, M5, M4, KO, Q0)
def LM (N : Nat) (a0 : List UInt8) (IR : A7 × Int × Int × Int) (x93 : List A7) : Nat → (Int × Int × Int × Int × Int × Int × Int × Int × Int × Int × Int × Bool × List AU) → Option (Int × Int × Int × Int × Int × Int × Int × Int × Int × Int × Bool × List AU)
 | 0, _ => none
 | n + 1, x => R3 N a0 IR x93 (LM N a0 IR x93 n) x
def QY (N : Nat) (a0 : List UInt8) (JL : List A7) (GG : Int) (DV : Int) (DU : Int) (DT : Int) (DR : Int) (DN : Int) (DL : Int) (DK : Int) (DJ : Int) (DI : Int) (DF : Int) (CU : Bool) (CV : List AU) (DC : List AY) (x151 : List A7) (rec : (Int × Int × List UInt8 × List (List UInt8)) → Option (Int × List UInt8 × List (List UInt8))) : (Int × Int × List UInt8 × List (List UInt8)) → Option (Int × List UInt8 × List (List UInt8))
 | (V4, M3, M0, PZ) =>
  bif decide (V4 < (x151.length : Int)) then
   (EM x151 V4).bind fun (jJ : A7) =>
   (QP 16 PZ [jJ.Body]).bind fun (Aa : List (List UInt8)) =>
   rec ((BX (V4 + (1 : Int))), M3, M0, Aa)
  else
   some (M3, M0, PZ)
def LJ (N : Nat) (a0 : List UInt8) (JL : List A7) (GG : Int) (DV : Int) (DU : Int) (DT : Int) (DR : Int) (DN : Int) (DL : Int) (DK : Int) (DJ : Int) (DI : Int) (DF : Int) (CU : Bool) (CV : List AU) (DC : List AY) (x151 : List A7) : Nat → (Int × Int × List UInt8 × List (List UInt8)) → Option (Int × List UInt8 × List (List UInt8))
 | 0, _ => none
 | n + 1, x => QY N a0 JL GG DV DU DT DR DN DL DK DJ DI DF CU CV DC x151 (LJ N a0 JL GG DV DU DT DR DN DL DK DJ DI DF CU CV DC x151 n) x
def QZ (N : Nat) (a0 : List UInt8) (JL : List A7) (rec : (Int × Int × Int × Int × Int × Int × Int × Int × Int × Int × Int × Bool × List AU × List AY) → Option ((Int × Int × Int × Int × Int × Int × Int × Int × Int × Int × Bool × List AU × List AY) ⊕ (AR × Int))) : (Int × Int × Int × Int × Int × Int × Int × Int × Int × Int × Int × Bool × List AU × List AY) → Option ((Int × Int × Int × Int × Int × Int × Int × Int × Int × Int × Bool × List AU × List AY) ⊕ (AR × Int))
 | (GG, DV, DU, DT, DR, DN, DL, DK, DJ, DI, DF, CU, CV, DC) =>
  bif decide (GG < (JL.length : Int)) then
   (EM JL GG).bind fun (aC : A7) =>
   Option.bind (SL CS aC.Kids) fun (Fs : List A7) =>
   bif decide ((Fs.length : Int) < (2 : Int)) then
    some (Sum.inr ((⟨(⟨0, 0, 0⟩ : AQ), 0, (⟨0, 0, 0⟩ : AQ), (⟨0, 0, 0⟩ : AQ), [], false, []⟩ : AR), 14))
   else
    Option.bind (SL CS aC.Kids) fun (Fq : List A7) =>
    (EM Fq (0 : Int)).bind fun (lY : A7) =>
    Option.bind (R9 N lY.Body) fun (lX : Int × Bool) =>
    Option.bind (SL CS aC.Kids) fun (Fp : List A7) =>
    (EM Fp (1 : Int)).bind fun (ZG : A7) =>
    Option.bind (SL CS aC.Kids) fun (x150 : List A7) =>
    (U6 x150 (2 : Int)).bind fun (x151 : List A7) =>
    Option.bind (LJ N a0 JL GG DV DU DT DR DN DL DK DJ DI DF CU CV DC x151 N (0, lX.1, ZG.Body, [])) fun (Y0 : Int × List UInt8 × List (List UInt8)) =>
    (QP 48 DC [(⟨Y0.1, Y0.2.1, Y0.2.2⟩ : AY)]).bind fun (zZ : List AY) =>
    rec ((BX (GG + (1 : Int))), DV, DU, DT, DR, DN, DL, DK, DJ, DI, DF, CU, CV, zZ)
  else
   some (Sum.inl (DV, DU, DT, DR, DN, DL, DK, DJ, DI, DF, CU, CV, DC))
def LK (N : Nat) (a0 : List UInt8) (JL : List A7) : Nat → (Int × Int × Int × Int × Int × Int × Int × Int × Int × Int × Int × Bool × List AU × List AY) → Option ((Int × Int × Int × Int × Int × Int × Int × Int × Int × Int × Bool × List AU × List AY) ⊕ (AR × Int))
 | 0, _ => none
 | n + 1, x => QZ N a0 JL (LK N a0 JL n) x
def UW (N : Nat) (a0 : List UInt8) : Option (AR × Int) :=
 Option.bind (lQ N a0) fun (IR : A7 × Int × Int × Int) =>
 Option.bind (
   bif (IR.2.2.2 != (0 : Int)) then
    some true
   else
    bif (IR.2.1 != (a0.length : Int)) then
     some true
    else
     Option.bind (SL CS IR.1.Kids) fun (x41 : List A7) =>
     some ((x41.length : Int) != (6 : Int))
  ) fun (g1 : Bool) =>
 bif g1 then
  some ((⟨(⟨0, 0, 0⟩ : AQ), 0, (⟨0, 0, 0⟩ : AQ), (⟨0, 0, 0⟩ : AQ), [], false, []⟩ : AR), 14)
 else
  Option.bind (SL CS IR.1.Kids) fun (lW : List A7) =>
  (EM lW (0 : Int)).bind fun (ZE : A7) =>
  Option.bind (R9 N ZE.Body) fun (LQ : Int × Bool) =>
  Option.bind (SL CS IR.1.Kids) fun (x75 : List A7) =>
  (EM x75 (1 : Int)).bind fun (Fb : A7) =>
  Option.bind (VD N Fb.Body) fun (x81 : AQ × Int) =>
  bif (x81.2 != (0 : Int)) then
   some ((⟨(⟨0, 0, 0⟩ : AQ), 0, (⟨0, 0, 0⟩ : AQ), (⟨0, 0, 0⟩ : AQ), [], false, []⟩ : AR), 14)
  else
   Option.bind (SL CS IR.1.Kids) fun (gV : List A7) =>
   (EM gV (2 : Int)).bind fun (SY : A7) =>
   Option.bind (VD N SY.Body) fun (CZ : AQ × Int) =>
   bif (CZ.2 != (0 : Int)) then
    some ((⟨(⟨0, 0, 0⟩ : AQ), 0, (⟨0, 0, 0⟩ : AQ), (⟨0, 0, 0⟩ : AQ), [], false, []⟩ : AR), 14)
   else
    Option.bind (SL CS IR.1.Kids) fun (gT : List A7) =>
    (EM gT (3 : Int)).bind fun (SX : A7) =>
    Option.bind (VD N SX.Body) fun (EF : AQ × Int) =>
    bif (EF.2 != (0 : Int)) then
     some ((⟨(⟨0, 0, 0⟩ : AQ), 0, (⟨0, 0, 0⟩ : AQ), (⟨0, 0, 0⟩ : AQ), [], false, []⟩ : AR), 14)
    else
     Option.bind (LP N a0 IR LQ x81 CZ EF N ()) fun (y8 : Unit) =>
     Option.bind (SL CS IR.1.Kids) fun (x90 : List A7) =>
     (EM x90 (4 : Int)).bind fun (x91 : A7) =>
     Option.bind (SL CS x91.Kids) fun (x93 : List A7) =>
     Option.bind (LM N a0 IR x93 N (0, x81.1.Time, x81.1.Seq, x81.1.Rep, (mx LQ.1 (BX (0 - LQ.1))), CZ.1.Time, CZ.1.Seq, CZ.1.Rep, EF.1.Time, EF.1.Seq, EF.1.Rep, decide (LQ.1 < (0 : Int)), [])) fun (OP : Int × Int × Int × Int × Int × Int × Int × Int × Int × Int × Bool × List AU) =>
     Option.bind (SL CS IR.1.Kids) fun (Fu : List A7) =>
     (EM Fu (5 : Int)).bind fun (rA : A7) =>
     Option.bind (SL CS rA.Kids) fun (JL : List A7) =>
     Option.bind (LK N a0 JL N (0, OP.1, OP.2.1, OP.2.2.1, OP.2.2.2.1, OP.2.2.2.2.1, OP.2.2.2.2.2.1, OP.2.2.2.2.2.2.1, OP.2.2.2.2.2.2.2.1, OP.2.2.2.2.2.2.2.2.1, OP.2.2.2.2.2.2.2.2.2.1, OP.2.2.2.2.2.2.2.2.2.2.1, OP.2.2.2.2.2.2.2.2.2.2.2, [])) fun (BP : (Int × Int × Int × Int × Int × Int × Int × Int × Int × Int × Bool × List AU × List AY) ⊕ (AR × Int)) =>
     Sum.elim (fun (BP : Int × Int × Int × Int × Int × Int × Int × Int × Int × Int × Bool × List AU × List AY) =>
       Option.bind (PL N (⟨(⟨BP.1, BP.2.1, BP.2.2.1⟩ : AQ), BP.2.2.2.1, (⟨BP.2.2.2.2.1, BP.2.2.2.2.2.1, BP.2.2.2.2.2.2.1⟩ : AQ), (⟨BP.2.2.2.2.2.2.2.1, BP.2.2.2.2.2.2.2.2.1, BP.2.2.2.2.2.2.2.2.2.1⟩ : AQ), BP.2.2.2.2.2.2.2.2.2.2.2.1, BP.2.2.2.2.2.2.2.2.2.2.1, BP.2.2.2.2.2.2.2.2.2.2.2.2⟩ : AR)) fun (Fj : List UInt8 × Int) =>
       Option.bind (
         bif (Fj.2 != (0 : Int)) then
          some true
         else
          some (!(Fj.1 == a0))
        ) fun (g16 : Bool) =>
       bif g16 then
        some ((⟨(⟨0, 0, 0⟩ : AQ), 0, (⟨0, 0, 0⟩ : AQ), (⟨0, 0, 0⟩ : AQ), [], false, []⟩ : AR), 14)
       else
        some ((⟨(⟨BP.1, BP.2.1, BP.2.2.1⟩ : AQ), BP.2.2.2.1, (⟨BP.2.2.2.2.1, BP.2.2.2.2.2.1, BP.2.2.2.2.2.2.1⟩ : AQ), (⟨BP.2.2.2.2.2.2.2.1, BP.2.2.2.2.2.2.2.2.1, BP.2.2.2.2.2.2.2.2.2.1⟩ : AQ), BP.2.2.2.2.2.2.2.2.2.2.2.1, BP.2.2.2.2.2.2.2.2.2.2.1, BP.2.2.2.2.2.2.2.2.2.2.2.2⟩ : AR), 0)
      ) (fun (BP : AR × Int) =>
       some (BP.1, BP.2)
      ) BP
def FU (N : Nat) (a0 : List AU) (a1 : List AU) (rec : Int → Option (Unit ⊕ Bool)) : Int → Option (Unit ⊕ Bool)
 | v5l14 =>
  bif decide (v5l14 < (a0.length : Int)) then
   (EM a0 v5l14).bind fun (OO : AU) =>
   (EM a1 v5l14).bind fun (gQ : AU) =>
   bif !(OO.Attr == gQ.Attr && (OO.Value == gQ.Value && true)) then
    some (Sum.inr false)
   else
    rec (BX (v5l14 + (1 : Int)))
  else
   some (Sum.inl ())
def EH (N : Nat) (a0 : List AU) (a1 : List AU) : Nat → Int → Option (Unit ⊕ Bool)
 | 0, _ => none
 | n + 1, x => FU N a0 a1 (EH N a0 a1 n) x
def IQ (N : Nat) (a0 : List AU) (a1 : List AU) : Option (Bool) :=
 bif ((a0.length : Int) != (a1.length : Int)) then
  some false
 else
  Option.bind (EH N a0 a1 N 0) fun (y4 : Unit ⊕ Bool) =>
  Sum.elim (fun (y4 : Unit) =>
    some true
   ) (fun (y4 : Bool) =>
    some y4
   ) y4
def IY (N : Nat) (a0 : AR) (a1 : AR) (v5l14 : Int) (x69 : AY) (NE : AY) (rec : Int → Option (Unit ⊕ Bool)) : Int → Option (Unit ⊕ Bool)
 | v8l36 =>
  bif decide (v8l36 < (x69.Values.length : Int)) then
   (EM x69.Values v8l36).bind fun (x107 : List UInt8) =>
   (EM NE.Values v8l36).bind fun (x112 : List UInt8) =>
   bif (!(x107 == x112)) then
    some (Sum.inr false)
   else
    rec (BX (v8l36 + (1 : Int)))
  else
   some (Sum.inl ())
def FD (N : Nat) (a0 : AR) (a1 : AR) (v5l14 : Int) (x69 : AY) (NE : AY) : Nat → Int → Option (Unit ⊕ Bool)
 | 0, _ => none
 | n + 1, x => IY N a0 a1 v5l14 x69 NE (FD N a0 a1 v5l14 x69 NE n) x
def IZ (N : Nat) (a0 : AR) (a1 : AR) (rec : Int → Option (Unit ⊕ Bool)) : Int → Option (Unit ⊕ Bool)
 | v5l14 =>
  bif decide (v5l14 < (a0.Mods.length : Int)) then
   (EM a0.Mods v5l14).bind fun (x69 : AY) =>
   (EM a1.Mods v5l14).bind fun (NE : AY) =>
   Option.bind (
     bif (x69.Kind != NE.Kind) then
      some true
     else
      bif (!(x69.Attr == NE.Attr)) then
       some true
      else
       some ((x69.Values.length : Int) != (NE.Values.length : Int))
    ) fun (g10 : Bool) =>
   bif g10 then
    some (Sum.inr false)
   else
    Option.bind (FD N a0 a1 v5l14 x69 NE N 0) fun (Dn : Unit ⊕ Bool) =>
    Sum.elim (fun (Dn : Unit) =>
      rec (BX (v5l14 + (1 : Int)))
     ) (fun (Dn : Bool) =>
      some (Sum.inr Dn)
     ) Dn
  else
   some (Sum.inl ())
def FE (N : Nat) (a0 : AR) (a1 : AR) : Nat → Int → Option (Unit ⊕ Bool)
 | 0, _ => none
 | n + 1, x => IZ N a0 a1 (FE N a0 a1 n) x
def MI (N : Nat) (a0 : AR) (a1 : AR) : Option (Bool) :=
 Option.bind (
   bif !(a0.CSN.Time == a1.CSN.Time && (a0.CSN.Seq == a1.CSN.Seq && (a0.CSN.Rep == a1.CSN.Rep && true))) then
    some true
   else
    bif (a0.Kind != a1.Kind) then
     some true
    else
     bif !(a0.ID.Time == a1.ID.Time && (a0.ID.Seq == a1.ID.Seq && (a0.ID.Rep == a1.ID.Rep && true))) then
      some true
     else
      bif !(a0.Parent.Time == a1.Parent.Time && (a0.Parent.Seq == a1.Parent.Seq && (a0.Parent.Rep == a1.Parent.Rep && true))) then
       some true
      else
       bif !(a0.DelOld == a1.DelOld) then
        some true
       else
        Option.bind (IQ N a0.RDN a1.RDN) fun (Y1 : Bool) =>
        bif !Y1 then
         some true
        else
         some ((a0.Mods.length : Int) != (a1.Mods.length : Int))
  ) fun (g1 : Bool) =>
 bif g1 then
  some false
 else
  Option.bind (FE N a0 a1 N 0) fun (Dm : Unit ⊕ Bool) =>
  Sum.elim (fun (Dm : Unit) =>
    some true
   ) (fun (Dm : Bool) =>
    some Dm
   ) Dm
def JV (N : Nat) (QJ : List AY) (rec : (Int × Int × Int × Int × Int × Int × Int × Int × Int × Int × Int × Bool × List AU × List AY) → Option (Int × Int × Int × Int × Int × Int × Int × Int × Int × Int × Bool × List AU × List AY)) : (Int × Int × Int × Int × Int × Int × Int × Int × Int × Int × Int × Bool × List AU × List AY) → Option (Int × Int × Int × Int × Int × Int × Int × Int × Int × Int × Bool × List AU × List AY)
 | (W9, KC, KA, K9, K8, K7, K6, K5, K4, K3, JZ, J6, MG, FN) =>
  bif decide (W9 < (QJ.length : Int)) then
   (NF W9 FN.length).bind fun (OO : Nat) =>
   (FN[OO]?).bind fun (x20 : AY) =>
   Option.bind (L8 16 x20.Values) fun (IR : List (List UInt8)) =>
   (NF W9 FN.length).bind fun (x27 : Nat) =>
   (FN[x27]?).bind fun (RQ : AY) =>
   rec ((BX (W9 + (1 : Int))), KC, KA, K9, K8, K7, K6, K5, K4, K3, JZ, J6, MG, (FN.set x27 (⟨RQ.Kind, RQ.Attr, IR⟩ : AY)))
  else
   some (KC, KA, K9, K8, K7, K6, K5, K4, K3, JZ, J6, MG, FN)
def GK (N : Nat) (QJ : List AY) : Nat → (Int × Int × Int × Int × Int × Int × Int × Int × Int × Int × Int × Bool × List AU × List AY) → Option (Int × Int × Int × Int × Int × Int × Int × Int × Int × Int × Bool × List AU × List AY)
 | 0, _ => none
 | n + 1, x => JV N QJ (GK N QJ n) x
def OH (N : Nat) (a0 : AR) : Option (AR) :=
 Option.bind (L8 32 a0.RDN) fun (x7 : List AU) =>
 Option.bind (L8 48 a0.Mods) fun (QJ : List AY) =>
 Option.bind (GK N QJ N (0, a0.CSN.Time, a0.CSN.Seq, a0.CSN.Rep, a0.Kind, a0.ID.Time, a0.ID.Seq, a0.ID.Rep, a0.Parent.Time, a0.Parent.Seq, a0.Parent.Rep, a0.DelOld, x7, QJ)) fun (y3 : Int × Int × Int × Int × Int × Int × Int × Int × Int × Int × Bool × List AU × List AY) =>
 some (⟨(⟨y3.1, y3.2.1, y3.2.2.1⟩ : AQ), y3.2.2.2.1, (⟨y3.2.2.2.2.1, y3.2.2.2.2.2.1, y3.2.2.2.2.2.2.1⟩ : AQ), (⟨y3.2.2.2.2.2.2.2.1, y3.2.2.2.2.2.2.2.2.1, y3.2.2.2.2.2.2.2.2.2.1⟩ : AQ), y3.2.2.2.2.2.2.2.2.2.2.2.1, y3.2.2.2.2.2.2.2.2.2.2.1, y3.2.2.2.2.2.2.2.2.2.2.2.2⟩ : AR)
def ET (N : Nat) (a0 : List (List UInt8)) (a1 : List (List UInt8)) (rec : Int → Option (Unit ⊕ Bool)) : Int → Option (Unit ⊕ Bool)
 | v13l14 =>
  bif decide (v13l14 < (a0.length : Int)) then
   (EM a0 v13l14).bind fun (ZF : List UInt8) =>
   (EM a1 v13l14).bind fun (YW : List UInt8) =>
   bif (!(ZF == YW)) then
    some (Sum.inr false)
   else
    rec (BX (v13l14 + (1 : Int)))
  else
   some (Sum.inl ())
def CP (N : Nat) (a0 : List (List UInt8)) (a1 : List (List UInt8)) : Nat → Int → Option (Unit ⊕ Bool)
 | 0, _ => none
 | n + 1, x => ET N a0 a1 (CP N a0 a1 n) x
def FI (N : Nat) (a0 : List (List UInt8)) (a1 : List (List UInt8)) : Option (Bool) :=
 bif ((a0.length : Int) != (a1.length : Int)) then
  some false
 else
  Option.bind (CP N a0 a1 N 0) fun (y4 : Unit ⊕ Bool) =>
  Sum.elim (fun (y4 : Unit) =>
    some true
   ) (fun (y4 : Bool) =>
    some y4
   ) y4
def O6 (N : Nat) (a0 : AY) (a1 : AY) : Option (Bool) :=
 Option.bind (
   bif (a0.Kind == a1.Kind) then
    bif (a0.Attr == a1.Attr) then
     Option.bind (FI N a0.Values a1.Values) fun (YW : Bool) =>
     some YW
    else
     some false
   else
    some false
  ) fun (g1 : Bool) =>
 some g1
def BN (N : Nat) (a0 : List AY) (a1 : List AY) (rec : Int → Option (Unit ⊕ Bool)) : Int → Option (Unit ⊕ Bool)
 | v17l14 =>
  bif decide (v17l14 < (a0.length : Int)) then
   (EM a0 v17l14).bind fun (x20 : AY) =>
   (EM a1 v17l14).bind fun (x24 : AY) =>
   Option.bind (O6 N x20 x24) fun (x29 : Bool) =>
   bif !x29 then
    some (Sum.inr false)
   else
    rec (BX (v17l14 + (1 : Int)))
  else
   some (Sum.inl ())
def BB (N : Nat) (a0 : List AY) (a1 : List AY) : Nat → Int → Option (Unit ⊕ Bool)
 | 0, _ => none
 | n + 1, x => BN N a0 a1 (BB N a0 a1 n) x
def BO (N : Nat) (a0 : List AY) (a1 : List AY) : Option (Bool) :=
 bif ((a0.length : Int) != (a1.length : Int)) then
  some false
 else
  Option.bind (BB N a0 a1 N 0) fun (y4 : Unit ⊕ Bool) =>
  Sum.elim (fun (y4 : Unit) =>
    some true
   ) (fun (y4 : Bool) =>
    some y4
   ) y4
def EN (N : Nat) (a0 : List AU) (a1 : List AU) (rec : Int → Option (Unit ⊕ Bool)) : Int → Option (Unit ⊕ Bool)
 | v13l14 =>
  bif decide (v13l14 < (a0.length : Int)) then
   (EM a0 v13l14).bind fun (ZF : AU) =>
   (EM a1 v13l14).bind fun (YW : AU) =>
   bif !(ZF.Attr == YW.Attr && (ZF.Value == YW.Value && true)) then
    some (Sum.inr false)
   else
    rec (BX (v13l14 + (1 : Int)))
  else
   some (Sum.inl ())
def CG (N : Nat) (a0 : List AU) (a1 : List AU) : Nat → Int → Option (Unit ⊕ Bool)
 | 0, _ => none
 | n + 1, x => EN N a0 a1 (CG N a0 a1 n) x
def F7 (N : Nat) (a0 : List AU) (a1 : List AU) : Option (Bool) :=
 bif ((a0.length : Int) != (a1.length : Int)) then
  some false
 else
  Option.bind (CG N a0 a1 N 0) fun (y4 : Unit ⊕ Bool) =>
  Sum.elim (fun (y4 : Unit) =>
    some true
   ) (fun (y4 : Bool) =>
    some y4
   ) y4
def OG (N : Nat) (a0 : AR) (a1 : AR) : Option (Bool) :=
 Option.bind (BO N a0.Mods a1.Mods) fun (P5 : Bool) =>
 Option.bind (
   bif (a0.CSN.Time == a1.CSN.Time && (a0.CSN.Seq == a1.CSN.Seq && (a0.CSN.Rep == a1.CSN.Rep && true))) then
    bif (a0.Kind == a1.Kind) then
     bif (a0.ID.Time == a1.ID.Time && (a0.ID.Seq == a1.ID.Seq && (a0.ID.Rep == a1.ID.Rep && true))) then
      bif (a0.Parent.Time == a1.Parent.Time && (a0.Parent.Seq == a1.Parent.Seq && (a0.Parent.Rep == a1.Parent.Rep && true))) then
       Option.bind (F7 N a0.RDN a1.RDN) fun (Fg : Bool) =>
       bif Fg then
        bif (a0.DelOld == a1.DelOld) then
         some P5
        else
         some false
       else
        some false
      else
       some false
     else
      some false
    else
     some false
   else
    some false
  ) fun (g1 : Bool) =>
 some g1
def LW (N : Nat)  : Option (Bool) :=
 Option.bind (PL N (⟨(⟨2, 0, 0⟩ : AQ), 2, (⟨1, 0, 0⟩ : AQ), (⟨0, 0, 0⟩ : AQ), [], false, []⟩ : AR)) fun (Y2 : List UInt8 × Int) =>
 Option.bind (UW N Y2.1) fun (x20 : AR × Int) =>
 Option.bind (PL N (⟨(⟨0, 0, 0⟩ : AQ), 0, (⟨0, 0, 0⟩ : AQ), (⟨0, 0, 0⟩ : AQ), [], false, []⟩ : AR)) fun (x25 : List UInt8 × Int) =>
 Option.bind (UW N ([] : List UInt8)) fun (x29 : AR × Int) =>
 Option.bind (
   bif (Y2.2 == (0 : Int)) then
    bif (x20.2 == (0 : Int)) then
     Option.bind (MI N (⟨(⟨2, 0, 0⟩ : AQ), 2, (⟨1, 0, 0⟩ : AQ), (⟨0, 0, 0⟩ : AQ), [], false, []⟩ : AR) x20.1) fun (x41 : Bool) =>
     bif x41 then
      bif (x25.2 == (14 : Int)) then
       bif (x29.2 == (14 : Int)) then
        Option.bind (ML N (⟨(⟨2, 0, 0⟩ : AQ), 2, (⟨1, 0, 0⟩ : AQ), (⟨0, 0, 0⟩ : AQ), [], false, []⟩ : AR)) fun (x53 : Bool) =>
        bif x53 then
         Option.bind (ML N (⟨(⟨0, 0, 0⟩ : AQ), 0, (⟨0, 0, 0⟩ : AQ), (⟨0, 0, 0⟩ : AQ), [], false, []⟩ : AR)) fun (x57 : Bool) =>
         bif !x57 then
          Option.bind (OH N (⟨(⟨2, 0, 0⟩ : AQ), 2, (⟨1, 0, 0⟩ : AQ), (⟨0, 0, 0⟩ : AQ), [], false, []⟩ : AR)) fun (x63 : AR) =>
          Option.bind (OG N (⟨(⟨2, 0, 0⟩ : AQ), 2, (⟨1, 0, 0⟩ : AQ), (⟨0, 0, 0⟩ : AQ), [], false, []⟩ : AR) x63) fun (x64 : Bool) =>
          some x64
         else
          some false
        else
         some false
       else
        some false
      else
       some false
     else
      some false
    else
     some false
   else
    some false
  ) fun (g1 : Bool) =>
 some g1
def FK (N : Nat) (a0 : List AY) (v3l6 : Int) (rec : Int → Option (Unit ⊕ Bool)) : Int → Option (Unit ⊕ Bool)
 | v4l26 =>
  (EM a0 v3l6).bind fun (x30 : AY) =>
  bif decide (v4l26 < (x30.Values.length : Int)) then
   (EM a0 v3l6).bind fun (x39 : AY) =>
   (EM x39.Values v4l26).bind fun (x43 : List UInt8) =>
   bif decide ((x43.length : Int) > (80 : Int)) then
    some (Sum.inr false)
   else
    rec (BX (v4l26 + (1 : Int)))
  else
   some (Sum.inl ())
def E9 (N : Nat) (a0 : List AY) (v3l6 : Int) : Nat → Int → Option (Unit ⊕ Bool)
 | 0, _ => none
 | n + 1, x => FK N a0 v3l6 (E9 N a0 v3l6 n) x
def FV (N : Nat) (a0 : List AY) (rec : Int → Option (Unit ⊕ Bool)) : Int → Option (Unit ⊕ Bool)
 | v3l6 =>
  bif decide (v3l6 < (a0.length : Int)) then
   Option.bind (
     (EM a0 v3l6).bind fun (JP : AY) =>
     bif decide ((JP.Attr.length : Int) > (30 : Int)) then
      some true
     else
      (EM a0 v3l6).bind fun (WT : AY) =>
      some (decide ((WT.Values.length : Int) > (20 : Int)))
    ) fun (g2 : Bool) =>
   bif g2 then
    some (Sum.inr false)
   else
    Option.bind (E9 N a0 v3l6 N 0) fun (y7 : Unit ⊕ Bool) =>
    Sum.elim (fun (y7 : Unit) =>
      rec (BX (v3l6 + (1 : Int)))
     ) (fun (y7 : Bool) =>
      some (Sum.inr y7)
     ) y7
  else
   some (Sum.inl ())
def EI (N : Nat) (a0 : List AY) : Nat → Int → Option (Unit ⊕ Bool)
 | 0, _ => none
 | n + 1, x => FV N a0 (EI N a0 n) x
def KE (N : Nat) (a0 : List AY) : Option (Bool) :=
 Option.bind (EI N a0 N 0) fun (y8 : Unit ⊕ Bool) =>
 Sum.elim (fun (y8 : Unit) =>
   some (decide ((a0.length : Int) ≤ (14 : Int)))
  ) (fun (y8 : Bool) =>
   some y8
  ) y8
def G8 (N : Nat) (a0 : List AU) (rec : Int → Option (Unit ⊕ Bool)) : Int → Option (Unit ⊕ Bool)
 | v3l6 =>
  bif decide (v3l6 < (a0.length : Int)) then
   Option.bind (
     (EM a0 v3l6).bind fun (KW : AU) =>
     bif decide ((KW.Attr.length : Int) > (30 : Int)) then
      some true
     else
      (EM a0 v3l6).bind fun (x20 : AU) =>
      some (decide ((x20.Value.length : Int) > (80 : Int)))
    ) fun (g2 : Bool) =>
   bif g2 then
    some (Sum.inr false)
   else
    rec (BX (v3l6 + (1 : Int)))
  else
   some (Sum.inl ())
def EO (N : Nat) (a0 : List AU) : Nat → Int → Option (Unit ⊕ Bool)
 | 0, _ => none
 | n + 1, x => G8 N a0 (EO N a0 n) x
def KZ (N : Nat) (a0 : List AU) : Option (Bool) :=
 Option.bind (EO N a0 N 0) fun (y5 : Unit ⊕ Bool) =>
 Sum.elim (fun (y5 : Unit) =>
   some (decide ((a0.length : Int) ≤ (6 : Int)))
  ) (fun (y5 : Bool) =>
   some y5
  ) y5
def IV (N : Nat) (a0 : AR) : Option (Bool) :=
 Option.bind (
   Option.bind (KE N a0.Mods) fun (x5 : Bool) =>
   bif x5 then
    Option.bind (KZ N a0.RDN) fun (x9 : Bool) =>
    some x9
   else
    some false
  ) fun (g1 : Bool) =>
 some g1
end Go.Gp
end
section
namespace Go.Gp
open Go.Vd
def VH (x : AU) : Prop := (x.Attr.length ≤ maxLen) ∧ (x.Value.length ≤ maxLen)
def VG (x : AY) : Prop := ((IntKind.i64.min ≤ x.Kind ∧ x.Kind ≤ IntKind.i64.max)) ∧ (x.Attr.length ≤ maxLen) ∧ ((x.Values.length ≤ maxLen ∧ ∀ y0 ∈ x.Values, y0.length ≤ maxLen))
def YT (x : AQ) : Prop := ((IntKind.i64.min ≤ x.Time ∧ x.Time ≤ IntKind.i64.max)) ∧ ((IntKind.i64.min ≤ x.Seq ∧ x.Seq ≤ IntKind.i64.max)) ∧ ((IntKind.i64.min ≤ x.Rep ∧ x.Rep ≤ IntKind.i64.max))
def TU (x : AR) : Prop := (YT x.CSN) ∧ ((IntKind.i64.min ≤ x.Kind ∧ x.Kind ≤ IntKind.i64.max)) ∧ (YT x.ID) ∧ (YT x.Parent) ∧ ((x.RDN.length ≤ maxLen ∧ ∀ y0 ∈ x.RDN, VH y0)) ∧ (True) ∧ ((x.Mods.length ≤ maxLen ∧ ∀ y0 ∈ x.Mods, VG y0))
end Go.Gp
end
section
namespace Go.Gp
open Go.Vd Go.Proofs
theorem mixed : Tryz.prog.follows .mixedOrders = true := by kernel_rfl
theorem var_stays {P : Program} {w w' : World} {n : String} {g : Nat} {x : Array Value} (hg : P.globalNamed n = some g) (hb : w'.heap[g]? = w.heap[g]?) (h : w.var? P n = some x) : w'.var? P n = some x := by
 unfold World.var? at h ⊢
 rw [hg, Option.bind_some] at h ⊢
 rw [hb]; exact h
theorem gX {P : Program} {w : World} {n : String} {g : Nat} {x : Array Value} (hg : P.globalNamed n = some g) (h : w.var? P n = some x) : g < w.heap.size := by
 unfold World.var? at h
 rw [hg, Option.bind_some] at h
 cases hh : w.heap[g]? with
 | none => simp [hh] at h
 | some b => exact (Array.getElem?_eq_some_iff.1 hh).1
theorem gS : Tryz.prog.globalNamed "strconv.ErrSyntax" = some 0 := by kernel_rfl
theorem gR : Tryz.prog.globalNamed "strconv.ErrRange" = some 1 := by kernel_rfl
theorem gP : Tryz.prog.globalNamed "internal/strconv.uint64pow10" = some 2 := by kernel_rfl
structure Laid (w : World) : Prop where
 tab : Lib.TabIs Tryz.prog w "internal/strconv.uint64pow10" .u64 Lib.pow10Tab
 syn : ∃ tp p, w.var? Tryz.prog "strconv.ErrSyntax" = some #[.iface tp p]
 ran : ∃ tp p, w.var? Tryz.prog "strconv.ErrRange" = some #[.iface tp p]
instance : BA where
 B b := b = 0 ∨ b = 1 ∨ b = 2
 ok := Laid
 stable w w' h k := ⟨var_stays gP (h 2 (by simp)) k.tab, by obtain ⟨tp, p, k⟩ := k.syn; exact ⟨tp, p, var_stays gS (h 0 (by simp)) k⟩, by obtain ⟨tp, p, k⟩ := k.ran; exact ⟨tp, p, var_stays gR (h 1 (by simp)) k⟩⟩
 low w b k hb := by
  obtain ⟨k1, ⟨_, _, k2⟩, ⟨_, _, k3⟩⟩ := k
  rcases hb with rfl | rfl | rfl
  ·exact gX gS k2
  ·exact gX gR k3
  ·exact gX gP k1
end Go.Gp
end
section
namespace Go.Gp
open Go.Vd Go.Proofs Go.Proofs.YtlopcglohpfonaaGreatDoor
set_option maxRecDepth 100000
theorem star : "*" ++ "errors.errorString" = "*errors.errorString" := by decide
theorem uR (u : TypeId) (h : Tryz.prog.typeName? 3 u = some "*errors.errorString") : u = 178 :=
 typeName_ptr_named (nm := "errors.errorString") (by rw [star]; kernel_rfl) (by kernel_rfl) (by decide) u (by rw [star]; exact h)
theorem gSt : (Tryz.prog.globals[0]?).map (·.type) = some 104 := by kernel_rfl
theorem gRt : (Tryz.prog.globals[1]?).map (·.type) = some 104 := by kernel_rfl
theorem gPt : (Tryz.prog.globals[2]?).map (·.type) = some 168 := by kernel_rfl
theorem c180 : Tryz.prog.cellsOf 180 = 1 := by kernel_rfl
theorem c9 : Tryz.prog.cellsOf 9 = 1 := by kernel_rfl
theorem c137 : Tryz.prog.cellsOf 137 = 1 := by kernel_rfl
theorem c168 : Tryz.prog.cellsOf 168 = 20 := by kernel_rfl
theorem rowsP : (Rows.changeTellsRow.laid.all fun x => x.2.handleName?.isNone) = true := by kernel_rfl
theorem Ck (W : World) (hL : laidMetH Tryz.prog Rows.changeTellsRow.laid W) : BA.ok W := by
 rw [MakeChecks.laidMetH_plain _ _ _ rowsP] at hL
 refine (show Laid W from ⟨?_, ?_, ?_⟩)
 ·exact Lib.tabIs_of_head gP gPt Tryz.underlying168 Tryz.underlying137 c137 c168 hL.tail.tail
 ·obtain ⟨a0, s0, hv0, -, -, -⟩ := laid_sentinel hL.tail.tail.tail.tail.tail gS gSt Tryz.underlying104 uR Tryz.underlying178 Tryz.underlying180 rfl rfl Tryz.underlying9 c180 c9
  exact ⟨_, _, hv0⟩
 ·obtain ⟨a0, s0, hv0, -, -, -⟩ := laid_sentinel hL.tail.tail.tail.tail gR gRt Tryz.underlying104 uR Tryz.underlying178 Tryz.underlying180 rfl rfl Tryz.underlying9 c180 c9
  exact ⟨_, _, hv0⟩
end Go.Gp
end
