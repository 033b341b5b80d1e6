/- A part of the proof: functions of the program and what they compute. -/
import Derived.Test.YtlopcglohpfonaaGreatDoorA4
section
set_option linter.unusedVariables false
namespace Go.Gp
open Go.Vd
structure AP where
 Time : Int
 Seq : Int
 Rep : Int
deriving DecidableEq
def F7 (x : AP) : PV := .agg [.int .i64 x.Time, .int .i64 x.Seq, .int .i64 x.Rep]
structure AL where
 Attr : List UInt8
 Value : List UInt8
deriving DecidableEq
def AV (x : AL) : PV := .agg [.str x.Attr, .str x.Value]
structure BD where
 Kind : Int
 Attr : List UInt8
 Values : List (List UInt8)
deriving DecidableEq
def AU (x : BD) : PV := .agg [.int .i64 x.Kind, .str x.Attr, .sl 1 (List.map PV.str x.Values)]
structure AX where
 CSN : AP
 Kind : Int
 ID : AP
 Parent : AP
 RDN : List AL
 DelOld : Bool
 Mods : List BD
deriving DecidableEq
def AR (x : AX) : PV := .agg [.int .i64 x.CSN.Time, .int .i64 x.CSN.Seq, .int .i64 x.CSN.Rep, .int .i64 x.Kind, .int .i64 x.ID.Time, .int .i64 x.ID.Seq, .int .i64 x.ID.Rep, .int .i64 x.Parent.Time, .int .i64 x.Parent.Seq, .int .i64 x.Parent.Rep, .sl 2 (List.map AV x.RDN), .bool x.DelOld, .sl 3 (List.map AU x.Mods)]
structure BB where
 Name : List UInt8
 Syntax : Int
 Single : Bool
deriving DecidableEq
def CG (x : BB) : PV := .agg [.str x.Name, .int .i64 x.Syntax, .bool x.Single]
structure A7 where
 Tag : UInt8
 Body : List UInt8
 Kids : List PV
def A9 (x : A7) : PV := .agg [eb x.Tag, .str x.Body, .sl 3 x.Kids]
def CL : PV → Option A7
 | .agg [.int .u8 n0, .str n1, .sl 3 n2] => if n0 = ((UInt8.ofNat n0.toNat).toNat : Int) then some ⟨UInt8.ofNat n0.toNat, n1, n2⟩ else none
 | _ => none
theorem CJ {p : PV} {x : A7} (h : CL p = some x) : p = A9 x := by
 unfold CL at h
 split at h
 ·split at h
  ·rename_i hn
   cases h
   unfold A9 eb
   simp only
   rw [← hn]
  ·cases h
 ·cases h
theorem TE (x : A7) : CL (A9 x) = some x := by
 unfold CL A9 eb
 simp
structure BG where
 s : List UInt8
 at_ : Int
deriving DecidableEq
def BH (x : BG) : PV := .agg [.str x.s, .int .i64 x.at_]
def bP (N : Nat) (a0 : AP) : Option (Bool) :=
 Option.bind (
   bif decide (a0.Time ≥ (0 : Int)) then
    bif decide (a0.Time ≤ (1099511627776 : Int)) then
     bif decide (a0.Seq ≥ (0 : Int)) then
      bif decide (a0.Seq ≤ (65535 : Int)) then
       bif decide (a0.Rep ≥ (0 : Int)) then
        some (decide (a0.Rep < (6 : Int)))
       else
        some false
      else
       some false
     else
      some false
    else
     some false
   else
    some false
  ) fun (g1 : Bool) =>
 some g1
def UL (N : Nat) (a0 : AP) : Option (Bool) :=
 some (a0.Time == (0 : Int) && (a0.Seq == (0 : Int) && (a0.Rep == (0 : Int) && true)))
def PL (N : Nat) (a0 : Int) : Option (Bool) :=
 some (a0 != a0)
def NR (N : Nat) (a0 : Int) (a1 : Int) : Option (Int) :=
 Option.bind (PL N a0) fun (x8 : Bool) =>
 Option.bind (PL N a1) fun (SX : Bool) =>
 bif x8 then
  bif SX then
   some 0
  else
   some (-1)
 else
  bif SX then
   some 1
  else
   bif decide (a0 < a1) then
    some (-1)
   else
    bif decide (a0 > a1) then
     some 1
    else
     some 0
def cmp_isNaN_int (N : Nat) (a0 : Int) : Option (Bool) :=
 some (a0 != a0)
def cmp_Compare_int (N : Nat) (a0 : Int) (a1 : Int) : Option (Int) :=
 Option.bind (cmp_isNaN_int N a0) fun (x8 : Bool) =>
 Option.bind (cmp_isNaN_int N a1) fun (SX : Bool) =>
 bif x8 then
  bif SX then
   some 0
  else
   some (-1)
 else
  bif SX then
   some 1
  else
   bif decide (a0 < a1) then
    some (-1)
   else
    bif decide (a0 > a1) then
     some 1
    else
     some 0
def TF (N : Nat) (a0 : List Int) (rec : Int → Option (Unit ⊕ Int)) : Int → Option (Unit ⊕ Int)
 | v8l8 =>
  bif decide (v8l8 < (a0.length : Int)) then
   (CE a0 v8l8).bind fun (SX : Int) =>
   bif (SX != (0 : Int)) then
    some (Sum.inr SX)
   else
    rec (BM (v8l8 + (1 : Int)))
  else
   some (Sum.inl ())
def PG (N : Nat) (a0 : List Int) : Nat → Int → Option (Unit ⊕ Int)
 | 0, _ => none
 | n + 1, x => TF N a0 (PG N a0 n) x
def XP (N : Nat) (a0 : List Int) : Option (Int) :=
 Option.bind (PG N a0 N 0) fun (y3 : Unit ⊕ Int) =>
 Sum.elim (fun (y3 : Unit) =>
   some 0
  ) (fun (y3 : Int) =>
   some y3
  ) y3
def j5 (N : Nat) (a0 : AP) (a1 : AP) : Option (Int) :=
 Option.bind (NR N a0.Time a1.Time) fun (x9 : Int) =>
 Option.bind (cmp_Compare_int N a0.Seq a1.Seq) fun (PO : Int) =>
 Option.bind (cmp_Compare_int N a0.Rep a1.Rep) fun (QG : Int) =>
 Option.bind (XP N [x9, PO, QG]) fun (VF : Int) =>
 some VF
def OD (N : Nat) (a0 : AP) (c0 : AX) : Option (Bool) :=
 Option.bind (j5 N a0 (⟨c0.CSN.Time, c0.CSN.Seq, c0.CSN.Rep⟩ : AP)) fun (x7 : Int) =>
 some (decide (x7 < (0 : Int)))
def SF (v25l14 : Int) (rec : Int → Option (Unit ⊕ Bool))  : Option (Unit ⊕ Bool) :=
 rec (BM (v25l14 + (1 : Int)))
def SE (v25l14 : Int) (rec : Int → Option (Unit ⊕ Bool)) (Dx : Bool) : Option (Unit ⊕ Bool) :=
 bif Dx then
  SF v25l14 rec
 else
  some (Sum.inr false)
def PK (N : Nat) (a0 : List UInt8) (rec : Int → Option (Unit ⊕ Bool)) : Int → Option (Unit ⊕ Bool)
 | v25l14 =>
  bif decide (v25l14 < (a0.length : Int)) then
   (OV v25l14 a0.length).bind fun (x27 : Nat) =>
   (a0[x27]?).bind fun (x28 : UInt8) =>
   Option.bind (
     bif decide (((x28).toNat : Int) ≥ (97 : Int)) then
      some (decide (((x28).toNat : Int) ≤ (122 : Int)))
     else
      some false
    ) fun (g7 : Bool) =>
   bif g7 then
    SF v25l14 rec
   else
    Option.bind (
      bif decide (((x28).toNat : Int) ≥ (48 : Int)) then
       some (decide (((x28).toNat : Int) ≤ (57 : Int)))
      else
       some false
     ) fun (g11 : Bool) =>
    bif g11 then
     SE v25l14 rec g11
    else
     SE v25l14 rec (((x28).toNat : Int) == (45 : Int))
  else
   some (Sum.inl ())
def LJ (N : Nat) (a0 : List UInt8) : Nat → Int → Option (Unit ⊕ Bool)
 | 0, _ => none
 | n + 1, x => PK N a0 (LJ N a0 n) x
def ZN (N : Nat) (a0 : List UInt8) : Option (Bool) :=
 Option.bind (
   bif (a0 == ([] : List UInt8)) then
    some true
   else
    bif decide ((a0.length : Int) > (16 : Int)) then
     some true
    else
     (CE a0 (0 : Int)).bind fun (PO : UInt8) =>
     bif decide (((PO).toNat : Int) < (97 : Int)) then
      some true
     else
      (CE a0 (0 : Int)).bind fun (QG : UInt8) =>
      some (decide (((QG).toNat : Int) > (122 : Int)))
  ) fun (g1 : Bool) =>
 bif g1 then
  some false
 else
  Option.bind (LJ N a0 N 0) fun (eT : Unit ⊕ Bool) =>
  Sum.elim (fun (eT : Unit) =>
    some true
   ) (fun (eT : Bool) =>
    some eT
   ) eT
def bM (N : Nat) (a0 : AL) (c0 : AL) : Option (Bool) :=
 some (a0.Attr == c0.Attr)
def CV (N : Nat) (a0 : List AL) (JM : AL) (rec : Int → Option (Unit ⊕ Int)) : Int → Option (Unit ⊕ Int)
 | v8l6 =>
  bif decide (v8l6 < (a0.length : Int)) then
   (CE a0 v8l6).bind fun (PO : AL) =>
   Option.bind (bM N PO JM) fun (YH : Bool) =>
   bif YH then
    some (Sum.inr v8l6)
   else
    rec (BM (v8l6 + (1 : Int)))
  else
   some (Sum.inl ())
def BP (N : Nat) (a0 : List AL) (JM : AL) : Nat → Int → Option (Unit ⊕ Int)
 | 0, _ => none
 | n + 1, x => CV N a0 JM (BP N a0 JM n) x
def EX (N : Nat) (a0 : List AL) (JM : AL) : Option (Int) :=
 Option.bind (BP N a0 JM N 0) fun (y3 : Unit ⊕ Int) =>
 Sum.elim (fun (y3 : Unit) =>
   some (-1)
  ) (fun (y3 : Int) =>
   some y3
  ) y3
def CX (N : Nat) (a0 : List AL) (JM : AL) : Option (Bool) :=
 Option.bind (EX N a0 JM) fun (x7 : Int) =>
 some (decide (x7 ≥ (0 : Int)))
def SG (N : Nat) (a0 : List AL) (rec : Int → Option (Unit ⊕ Bool)) : Int → Option (Unit ⊕ Bool)
 | v7l6 =>
  bif decide (v7l6 < (a0.length : Int)) then
   (CE a0 v7l6).bind fun (SX : AL) =>
   Option.bind (
     bif decide (v7l6 ≥ (4 : Int)) then
      some true
     else
      Option.bind (ZN N SX.Attr) fun (E9 : Bool) =>
      bif !E9 then
       some true
      else
       bif (SX.Value == ([] : List UInt8)) then
        some true
       else
        some (decide ((SX.Value.length : Int) > (60 : Int)))
    ) fun (g2 : Bool) =>
   bif g2 then
    some (Sum.inr false)
   else
    (U3 a0 v7l6).bind fun (x33 : List AL) =>
    Option.bind (CX N x33 (⟨SX.Attr, SX.Value⟩ : AL)) fun (LM : Bool) =>
    bif LM then
     some (Sum.inr false)
    else
     rec (BM (v7l6 + (1 : Int)))
  else
   some (Sum.inl ())
def OB (N : Nat) (a0 : List AL) : Nat → Int → Option (Unit ⊕ Bool)
 | 0, _ => none
 | n + 1, x => SG N a0 (OB N a0 n) x
def Z0 (N : Nat) (a0 : List AL) : Option (Bool) :=
 Option.bind (OB N a0 N 0) fun (y8 : Unit ⊕ Bool) =>
 Sum.elim (fun (y8 : Unit) =>
   some (decide ((a0.length : Int) > (0 : Int)))
  ) (fun (y8 : Bool) =>
   some y8
  ) y8
def TR (v10l8 : Int) (rec : (Int × List UInt8) → Option (List UInt8)) (bD : List UInt8) : Option (List UInt8) :=
 rec ((BM (v10l8 + (1 : Int))), bD)
def SC (N : Nat) (a0 : List UInt8) (rec : (Int × List UInt8) → Option (List UInt8)) : (Int × List UInt8) → Option (List UInt8)
 | (v10l8, G7) =>
  bif decide (v10l8 < (a0.length : Int)) then
   (OV v10l8 G7.length).bind fun (MX : Nat) =>
   (G7[MX]?).bind fun (PO : UInt8) =>
   Option.bind (
     bif decide (((PO).toNat : Int) ≥ (65 : Int)) then
      some (decide (((PO).toNat : Int) ≤ (90 : Int)))
     else
      some false
    ) fun (g2 : Bool) =>
   bif g2 then
    (OV v10l8 G7.length).bind fun (x25 : Nat) =>
    (G7[x25]?).bind fun (qZ : UInt8) =>
    TR v10l8 rec (G7.set x25 (PO + (32 : UInt8)))
   else
    TR v10l8 rec G7
  else
   some G7
def MB (N : Nat) (a0 : List UInt8) : Nat → (Int × List UInt8) → Option (List UInt8)
 | 0, _ => none
 | n + 1, x => SC N a0 (MB N a0 n) x
def WS (N : Nat) (a0 : List UInt8) : Option (List UInt8) :=
 Option.bind (MB N a0 N (0, a0)) fun (y6 : List UInt8) =>
 some y6
def XC (N : Nat)  : Option (List BB) :=
 some [(⟨([97, 99, 105] : List UInt8), 2, false⟩ : BB), (⟨([99] : List UInt8), 1, true⟩ : BB), (⟨([99, 110] : List UInt8), 1, false⟩ : BB), (⟨([100, 99] : List UInt8), 1, false⟩ : BB), (⟨([100, 101, 115, 99, 114, 105, 112, 116, 105, 111, 110] : List UInt8), 1, false⟩ : BB), (⟨([101, 110, 116, 114, 121, 105, 100] : List UInt8), 2, true⟩ : BB), (⟨([109, 97, 105, 108] : List UInt8), 2, false⟩ : BB), (⟨([109, 101, 109, 98, 101, 114] : List UInt8), 5, false⟩ : BB), (⟨([111] : List UInt8), 1, false⟩ : BB), (⟨([111, 117] : List UInt8), 1, false⟩ : BB), (⟨([115, 110] : List UInt8), 1, false⟩ : BB), (⟨([116, 105, 116, 108, 101] : List UInt8), 1, true⟩ : BB), (⟨([117, 105, 100] : List UInt8), 1, false⟩ : BB), (⟨([117, 105, 100, 110, 117, 109, 98, 101, 114] : List UInt8), 3, true⟩ : BB), (⟨([117, 115, 101, 114, 112, 97, 115, 115, 119, 111, 114, 100] : List UInt8), 4, false⟩ : BB)]
def OL (N : Nat) (x7 : List UInt8) (x8 : List BB) (rec : Int → Option (Unit ⊕ (BB × Bool))) : Int → Option (Unit ⊕ (BB × Bool))
 | v10l8 =>
  bif decide (v10l8 < (x8.length : Int)) then
   (CE x8 v10l8).bind fun (IP : BB) =>
   bif (IP.Name == x7) then
    some (Sum.inr (IP, true))
   else
    rec (BM (v10l8 + (1 : Int)))
  else
   some (Sum.inl ())
def K4 (N : Nat) (x7 : List UInt8) (x8 : List BB) : Nat → Int → Option (Unit ⊕ (BB × Bool))
 | 0, _ => none
 | n + 1, x => OL N x7 x8 (K4 N x7 x8 n) x
def SL (N : Nat) (a0 : List UInt8) : Option (BB × Bool) :=
 Option.bind (WS N a0) fun (x7 : List UInt8) =>
 Option.bind (XC N) fun (x8 : List BB) =>
 Option.bind (K4 N x7 x8 N 0) fun (y3 : Unit ⊕ (BB × Bool)) =>
 Sum.elim (fun (y3 : Unit) =>
   some ((⟨([] : List UInt8), 0, false⟩ : BB), false)
  ) (fun (y3 : BB × Bool) =>
   some (y3.1, y3.2)
  ) y3
def K3 (N : Nat) (a1 : UInt8) (rec : List UInt8 → Option (List UInt8)) : List UInt8 → Option (List UInt8)
 | v0l4 =>
  Option.bind (
    bif decide ((v0l4.length : Int) > (0 : Int)) then
     (CE v0l4 (BM ((v0l4.length : Int) - (1 : Int)))).bind fun (MX : UInt8) =>
     some (((MX).toNat : Int) == ((a1).toNat : Int))
    else
     some false
   ) fun (g1 : Bool) =>
  bif g1 then
   (U3 v0l4 (BM ((v0l4.length : Int) - (1 : Int)))).bind fun (VF : List UInt8) =>
   rec VF
  else
   some v0l4
def FJ (N : Nat) (a1 : UInt8) : Nat → List UInt8 → Option (List UInt8)
 | 0, _ => none
 | n + 1, x => K3 N a1 (FJ N a1 n) x
def strings_trimRightByte (N : Nat) (a0 : List UInt8) (a1 : UInt8) : Option (List UInt8) :=
 Option.bind (FJ N a1 N a0) fun (y4 : List UInt8) =>
 some y4
def KO (N : Nat) (a1 : UInt8) (rec : List UInt8 → Option (List UInt8)) : List UInt8 → Option (List UInt8)
 | v0l4 =>
  Option.bind (
    bif decide ((v0l4.length : Int) > (0 : Int)) then
     (CE v0l4 (0 : Int)).bind fun (SX : UInt8) =>
     some (((SX).toNat : Int) == ((a1).toNat : Int))
    else
     some false
   ) fun (g1 : Bool) =>
  bif g1 then
   (UH v0l4 (1 : Int)).bind fun (NK : List UInt8) =>
   rec NK
  else
   some v0l4
def FU (N : Nat) (a1 : UInt8) : Nat → List UInt8 → Option (List UInt8)
 | 0, _ => none
 | n + 1, x => KO N a1 (FU N a1 n) x
def strings_trimLeftByte (N : Nat) (a0 : List UInt8) (a1 : UInt8) : Option (List UInt8) :=
 Option.bind (FU N a1 N a0) fun (y4 : List UInt8) =>
 some y4
def TK (N : Nat) (a0 : List UInt8) (a1 : List UInt8) : Option (List UInt8) :=
 Option.bind (
   bif (a0 == ([] : List UInt8)) then
    some true
   else
    some (a1 == ([] : List UInt8))
  ) fun (g1 : Bool) =>
 bif g1 then
  some a0
 else
  Option.bind (
    bif ((a1.length : Int) == (1 : Int)) then
     (CE a1 (0 : Int)).bind fun (QG : UInt8) =>
     some (decide (((QG).toNat : Int) < (128 : Int)))
    else
     some false
   ) fun (g4 : Bool) =>
  bif g4 then
   (CE a1 (0 : Int)).bind fun (x24 : UInt8) =>
   Option.bind (strings_trimRightByte N a0 x24) fun (x25 : List UInt8) =>
   (CE a1 (0 : Int)).bind fun (x27 : UInt8) =>
   Option.bind (strings_trimLeftByte N x25 x27) fun (x28 : List UInt8) =>
   some x28
  else
   none
def NL (N : Nat) (a0 : List UInt8) (rec : Int → Option (Unit ⊕ Bool)) : Int → Option (Unit ⊕ Bool)
 | v8l6 =>
  bif decide (v8l6 < (a0.length : Int)) then
   (OV v8l6 a0.length).bind fun (SX : Nat) =>
   (a0[SX]?).bind fun (LK : UInt8) =>
   Option.bind (
     bif decide (((LK).toNat : Int) < (32 : Int)) then
      some true
     else
      some (decide (((LK).toNat : Int) > (126 : Int)))
    ) fun (g2 : Bool) =>
   bif g2 then
    some (Sum.inr false)
   else
    rec (BM (v8l6 + (1 : Int)))
  else
   some (Sum.inl ())
def JF (N : Nat) (a0 : List UInt8) : Nat → Int → Option (Unit ⊕ Bool)
 | 0, _ => none
 | n + 1, x => NL N a0 (JF N a0 n) x
def TL (N : Nat) (a0 : List UInt8) : Option (Bool) :=
 Option.bind (JF N a0 N 0) fun (y5 : Unit ⊕ Bool) =>
 Sum.elim (fun (y5 : Unit) =>
   some true
  ) (fun (y5 : Bool) =>
   some y5
  ) y5
def F6 (N : Nat) (a0 : List UInt8) (a1 : List UInt8) : Option (Bool) :=
 Option.bind (
   bif decide ((a0.length : Int) ≥ (a1.length : Int)) then
    (U3 a0 (a1.length : Int)).bind fun (PO : List UInt8) =>
    some (PO == a1)
   else
    some false
  ) fun (g1 : Bool) =>
 some g1
def I8 (N : Nat) (a0 : List UInt8) (a1 : List UInt8) : Option (List UInt8) :=
 Option.bind (F6 N a0 a1) fun (x7 : Bool) =>
 bif x7 then
  (UH a0 (a1.length : Int)).bind fun (LK : List UInt8) =>
  some LK
 else
  some a0
def strings_TrimPrefix (N : Nat) (a0 : List UInt8) (a1 : List UInt8) : Option (List UInt8) :=
 Option.bind (I8 N a0 a1) fun (x7 : List UInt8) =>
 some x7
def MF (N : Nat) (x7 : List UInt8) (rec : Int → Option (Unit ⊕ Bool)) : Int → Option (Unit ⊕ Bool)
 | v27l16 =>
  bif decide (v27l16 < (x7.length : Int)) then
   (OV v27l16 x7.length).bind fun (x29 : Nat) =>
   (x7[x29]?).bind fun (x30 : UInt8) =>
   Option.bind (
     bif decide (((x30).toNat : Int) < (48 : Int)) then
      some true
     else
      some (decide (((x30).toNat : Int) > (57 : Int)))
    ) fun (g7 : Bool) =>
   bif g7 then
    some (Sum.inr false)
   else
    rec (BM (v27l16 + (1 : Int)))
  else
   some (Sum.inl ())
def GV (N : Nat) (x7 : List UInt8) : Nat → Int → Option (Unit ⊕ Bool)
 | 0, _ => none
 | n + 1, x => MF N x7 (GV N x7 n) x
def TM (N : Nat) (a0 : List UInt8) : Option (Bool) :=
 Option.bind (strings_TrimPrefix N a0 ([45] : List UInt8)) fun (x7 : List UInt8) =>
 Option.bind (
   bif (x7 == ([] : List UInt8)) then
    some true
   else
    bif decide ((x7.length : Int) > (15 : Int)) then
     some true
    else
     (CE x7 (0 : Int)).bind fun (E9 : UInt8) =>
     bif (((E9).toNat : Int) == (48 : Int)) then
      some (!(a0 == ([48] : List UInt8)))
     else
      some false
  ) fun (g1 : Bool) =>
 bif g1 then
  some false
 else
  Option.bind (GV N x7 N 0) fun (M7 : Unit ⊕ Bool) =>
  Sum.elim (fun (M7 : Unit) =>
    some true
   ) (fun (M7 : Bool) =>
    some M7
   ) M7
def RZ (rec : (Int × Int × List (List UInt8)) → Option (Int × List (List UInt8))) (jH : Int) (dD : Int) (bA : List (List UInt8)) : Option (Int × List (List UInt8)) :=
 rec (jH, (BM (dD + (1 : Int))), bA)
def MM (N : Nat) (a0 : List UInt8) (a1 : UInt8) (rec : (Int × Int × List (List UInt8)) → Option (Int × List (List UInt8))) : (Int × Int × List (List UInt8)) → Option (Int × List (List UInt8))
 | (GD, KM, MH) =>
  bif decide (KM < (a0.length : Int)) then
   (CE a0 KM).bind fun (YH : UInt8) =>
   bif (((YH).toNat : Int) == (92 : Int)) then
    RZ rec GD (BM (KM + (1 : Int))) MH
   else
    bif (((YH).toNat : Int) == ((a1).toNat : Int)) then
     (lS a0 GD KM).bind fun (x28 : List UInt8) =>
     (RD 16 MH [x28]).bind fun (x30 : List (List UInt8)) =>
     RZ rec (BM (KM + (1 : Int))) KM x30
    else
     RZ rec GD KM MH
  else
   some (GD, MH)
def JG (N : Nat) (a0 : List UInt8) (a1 : UInt8) : Nat → (Int × Int × List (List UInt8)) → Option (Int × List (List UInt8))
 | 0, _ => none
 | n + 1, x => MM N a0 a1 (JG N a0 a1 n) x
def gF (N : Nat) (a0 : List UInt8) (a1 : UInt8) : Option (List (List UInt8)) :=
 Option.bind (JG N a0 a1 N (0, 0, [])) fun (y4 : Int × List (List UInt8)) =>
 (UH a0 y4.1).bind fun (Rs : List UInt8) =>
 (RD 16 y4.2 [Rs]).bind fun (x38 : List (List UInt8)) =>
 some x38
def LH (N : Nat) (a0 : List UInt8) (a1 : List UInt8) : Option (List UInt8 × List UInt8 × Bool) :=
 Option.bind (stringslite_Index N a0 a1) fun (SX : Int) =>
 bif decide (SX ≥ (0 : Int)) then
  (U3 a0 SX).bind fun (NK : List UInt8) =>
  (UH a0 (BM (SX + (a1.length : Int)))).bind fun (VF : List UInt8) =>
  some (NK, VF, true)
 else
  some (a0, ([] : List UInt8), false)
def strings_Cut (N : Nat) (a0 : List UInt8) (a1 : List UInt8) : Option (List UInt8 × List UInt8 × Bool) :=
 Option.bind (LH N a0 a1) fun (x9 : List UInt8 × List UInt8 × Bool) =>
 some (x9.1, x9.2.1, x9.2.2)
def strings_HasPrefix (N : Nat) (a0 : List UInt8) (a1 : List UInt8) : Option (Bool) :=
 Option.bind (F6 N a0 a1) fun (x7 : Bool) =>
 some x7
def UI (N : Nat) (a0 : List UInt8) (a1 : Int) : Option (UInt8 × Bool) :=
 bif decide (a1 ≥ (a0.length : Int)) then
  some ((0 : UInt8), false)
 else
  (lS a0 a1 (BM (a1 + (1 : Int)))).bind fun (NK : List UInt8) =>
  Option.bind (WS N NK) fun (YH : List UInt8) =>
  (CE YH (0 : Int)).bind fun (E9 : UInt8) =>
  Option.bind (strings_IndexByte N ([48, 49, 50, 51, 52, 53, 54, 55, 56, 57, 97, 98, 99, 100, 101, 102] : List UInt8) E9) fun (PN : Int) =>
  some ((byte (mx PN (0 : Int))), decide (PN ≥ (0 : Int)))
def N8 (rec : (Bool × Int × List UInt8) → Option ((Bool × List UInt8) ⊕ (List UInt8 × Bool))) (Dw : Bool) (xN : Int) (aY : List UInt8) : Option ((Bool × List UInt8) ⊕ (List UInt8 × Bool)) :=
 rec (Dw, (BM (xN + (1 : Int))), aY)
def LA (N : Nat) (a0 : List UInt8) (rec : (Bool × Int × List UInt8) → Option ((Bool × List UInt8) ⊕ (List UInt8 × Bool))) : (Bool × Int × List UInt8) → Option ((Bool × List UInt8) ⊕ (List UInt8 × Bool))
 | (Du, M9, K7) =>
  bif decide (M9 < (a0.length : Int)) then
   (CE a0 M9).bind fun (LV : UInt8) =>
   bif (((LV).toNat : Int) == (92 : Int)) then
    Option.bind (
      bif decide ((BM (M9 + (1 : Int))) < (a0.length : Int)) then
       (CE a0 (BM (M9 + (1 : Int)))).bind fun (r9 : UInt8) =>
       Option.bind (strings_IndexByte N ([44, 43, 34, 92, 60, 62, 59, 35, 61, 32] : List UInt8) r9) fun (uN : Int) =>
       some (decide (uN ≥ (0 : Int)))
      else
       some false
     ) fun (g6 : Bool) =>
    bif g6 then
     (CE a0 (BM (M9 + (1 : Int)))).bind fun (OJ : UInt8) =>
     (RD 1 K7 [OJ]).bind fun (x54 : List UInt8) =>
     N8 rec (((LV).toNat : Int) == (32 : Int)) (BM (M9 + (1 : Int))) x54
    else
     Option.bind (UI N a0 (BM (M9 + (1 : Int)))) fun (Ad : UInt8 × Bool) =>
     Option.bind (UI N a0 (BM ((BM (M9 + (1 : Int))) + (1 : Int)))) fun (xK : UInt8 × Bool) =>
     Option.bind (
       bif !Ad.2 then
        some true
       else
        some (!xK.2)
      ) fun (g9 : Bool) =>
     bif g9 then
      some (Sum.inr (([] : List UInt8), false))
     else
      (RD 1 K7 [((Au Ad.1 4) ||| xK.1)]).bind fun (x80 : List UInt8) =>
      N8 rec (((LV).toNat : Int) == (32 : Int)) (BM ((BM (M9 + (1 : Int))) + (1 : Int))) x80
   else
    Option.bind (strings_IndexByte N ([44, 43, 34, 92, 60, 62, 59] : List UInt8) LV) fun (x85 : Int) =>
    bif decide (x85 ≥ (0 : Int)) then
     some (Sum.inr (([] : List UInt8), false))
    else
     (RD 1 K7 [LV]).bind fun (x32 : List UInt8) =>
     N8 rec (((LV).toNat : Int) == (32 : Int)) M9 x32
  else
   some (Sum.inl (Du, K7))
def I4 (N : Nat) (a0 : List UInt8) : Nat → (Bool × Int × List UInt8) → Option ((Bool × List UInt8) ⊕ (List UInt8 × Bool))
 | 0, _ => none
 | n + 1, x => LA N a0 (I4 N a0 n) x
def V9 (N : Nat) (a0 : List UInt8) : Option (List UInt8 × Bool) :=
 Option.bind (
   Option.bind (strings_HasPrefix N a0 ([35] : List UInt8)) fun (MX : Bool) =>
   bif MX then
    some true
   else
    Option.bind (strings_HasPrefix N a0 ([32] : List UInt8)) fun (YH : Bool) =>
    some YH
  ) fun (g1 : Bool) =>
 bif g1 then
  some (([] : List UInt8), false)
 else
  Option.bind (I4 N a0 N (false, 0, [])) fun (y13 : (Bool × List UInt8) ⊕ (List UInt8 × Bool)) =>
  Sum.elim (fun (y13 : Bool × List UInt8) =>
    some (y13.2, !y13.1)
   ) (fun (y13 : List UInt8 × Bool) =>
    some (y13.1, y13.2)
   ) y13
def OU (N : Nat) (MX : List (List UInt8)) (rec : (Int × List AL) → Option ((List AL) ⊕ (List AL × Int))) : (Int × List AL) → Option ((List AL) ⊕ (List AL × Int))
 | (U2, QD) =>
  bif decide (U2 < (MX.length : Int)) then
   (CE MX U2).bind fun (E9 : List UInt8) =>
   Option.bind (strings_Cut N E9 ([61] : List UInt8)) fun (VF : List UInt8 × List UInt8 × Bool) =>
   Option.bind (V9 N VF.2.1) fun (x27 : List UInt8 × Bool) =>
   Option.bind (
     bif !VF.2.2 then
      some true
     else
      bif !x27.2 then
       some true
      else
       some (decide ((QD.length : Int) > (4 : Int)))
    ) fun (g2 : Bool) =>
   bif g2 then
    some (Sum.inr ([], 15))
   else
    Option.bind (WS N VF.1) fun (x43 : List UInt8) =>
    (RD 32 QD [(⟨x43, x27.1⟩ : AL)]).bind fun (bY : List AL) =>
    rec ((BM (U2 + (1 : Int))), bY)
  else
   some (Sum.inl QD)
def K9 (N : Nat) (MX : List (List UInt8)) : Nat → (Int × List AL) → Option ((List AL) ⊕ (List AL × Int))
 | 0, _ => none
 | n + 1, x => OU N MX (K9 N MX n) x
def VA (N : Nat) (a0 : List UInt8) : Option (List AL × Int) :=
 Option.bind (gF N a0 (43 : UInt8)) fun (MX : List (List UInt8)) =>
 Option.bind (K9 N MX N (0, [])) fun (y6 : (List AL) ⊕ (List AL × Int)) =>
 Sum.elim (fun (y6 : List AL) =>
   Option.bind (Z0 N y6) fun (x50 : Bool) =>
   bif !x50 then
    some ([], 15)
   else
    some (y6, 0)
  ) (fun (y6 : List AL × Int) =>
   some (y6.1, y6.2)
  ) y6
def R4 (N : Nat) (IP : List (List UInt8)) (rec : (Int × List (List AL)) → Option ((List (List AL)) ⊕ (List (List AL) × Int))) : (Int × List (List AL)) → Option ((List (List AL)) ⊕ (List (List AL) × Int))
 | (aU, O8) =>
  bif decide (aU < (IP.length : Int)) then
   (CE IP aU).bind fun (YH : List UInt8) =>
   Option.bind (VA N YH) fun (x20 : List AL × Int) =>
   Option.bind (
     bif (x20.2 != (0 : Int)) then
      some true
     else
      some ((O8.length : Int) == (8 : Int))
    ) fun (g3 : Bool) =>
   bif g3 then
    some (Sum.inr ([], 15))
   else
    (RD 24 O8 [x20.1]).bind fun (x33 : List (List AL)) =>
    rec ((BM (aU + (1 : Int))), x33)
  else
   some (Sum.inl O8)
def MN (N : Nat) (IP : List (List UInt8)) : Nat → (Int × List (List AL)) → Option ((List (List AL)) ⊕ (List (List AL) × Int))
 | 0, _ => none
 | n + 1, x => R4 N IP (MN N IP n) x
def dY (N : Nat) (a0 : List UInt8) : Option (List (List AL) × Int) :=
 bif (a0 == ([] : List UInt8)) then
  some ([], 0)
 else
  Option.bind (gF N a0 (44 : UInt8)) fun (IP : List (List UInt8)) =>
  Option.bind (MN N IP N (0, [])) fun (y6 : (List (List AL)) ⊕ (List (List AL) × Int)) =>
  Sum.elim (fun (y6 : List (List AL)) =>
    some (y6, 0)
   ) (fun (y6 : List (List AL) × Int) =>
    some (y6.1, y6.2)
   ) y6
def QO (a1 : List UInt8) (N : Nat)  : Option (Bool) :=
 Option.bind (TL N a1) fun (x20 : Bool) =>
 some x20
def XB (N : Nat) (a0 : Int) (a1 : List UInt8) : Option (Bool) :=
 bif (a0 == (1 : Int)) then
  Option.bind (TK N a1 ([32] : List UInt8)) fun (E9 : List UInt8) =>
  bif (E9 == ([] : List UInt8)) then
   some false
  else
   QO a1 N
 else
  bif (a0 == (2 : Int)) then
   QO a1 N
  else
   bif (a0 == (3 : Int)) then
    Option.bind (TM N a1) fun (WY : Bool) =>
    some WY
   else
    bif (a0 == (5 : Int)) then
     Option.bind (dY N a1) fun (x25 : List (List AL) × Int) =>
     some (x25.2 == (0 : Int))
    else
     some true
def QP (N : Nat) (a0 : List UInt8) (a1 : List UInt8) : Option (Int) :=
 Option.bind (SL N a0) fun (x9 : BB × Bool) =>
 bif !x9.2 then
  some 16
 else
  Option.bind (
    bif (a1 == ([] : List UInt8)) then
     some true
    else
     bif decide ((a1.length : Int) > (60 : Int)) then
      some true
     else
      Option.bind (XB N x9.1.Syntax a1) fun (x27 : Bool) =>
      some (!x27)
   ) fun (g2 : Bool) =>
  bif g2 then
   some 17
  else
   some 0
def UO (N : Nat) (a0 : AL) : Option (Bool) :=
 Option.bind (
   bif (a0.Attr == ([101, 110, 116, 114, 121, 105, 100] : List UInt8)) then
    some true
   else
    Option.bind (QP N a0.Attr a0.Value) fun (LK : Int) =>
    some (LK != (0 : Int))
  ) fun (g1 : Bool) =>
 some g1
def CP (N : Nat) (a0 : List AL) (rec : Int → Option (Unit ⊕ Int)) : Int → Option (Unit ⊕ Int)
 | v8l6 =>
  bif decide (v8l6 < (a0.length : Int)) then
   (CE a0 v8l6).bind fun (PO : AL) =>
   Option.bind (UO N PO) fun (YH : Bool) =>
   bif YH then
    some (Sum.inr v8l6)
   else
    rec (BM (v8l6 + (1 : Int)))
  else
   some (Sum.inl ())
def BL (N : Nat) (a0 : List AL) : Nat → Int → Option (Unit ⊕ Int)
 | 0, _ => none
 | n + 1, x => CP N a0 (BL N a0 n) x
def EK (N : Nat) (a0 : List AL) : Option (Int) :=
 Option.bind (BL N a0 N 0) fun (y3 : Unit ⊕ Int) =>
 Sum.elim (fun (y3 : Unit) =>
   some (-1)
  ) (fun (y3 : Int) =>
   some y3
  ) y3
def DT (N : Nat) (a0 : List AL) : Option (Bool) :=
 Option.bind (EK N a0) fun (x7 : Int) =>
 some (decide (x7 ≥ (0 : Int)))
def R7 (N : Nat) (a0 : List AL) : Option (Bool) :=
 Option.bind (
   Option.bind (Z0 N a0) fun (x4 : Bool) =>
   bif !x4 then
    some true
   else
    some (decide ((a0.length : Int) ≥ (4 : Int)))
  ) fun (g1 : Bool) =>
 bif g1 then
  some false
 else
  Option.bind (DT N a0) fun (IP : Bool) =>
  some (!IP)
def TG (N : Nat) (a0 : List UInt8) (c0 : BD) : Option (Bool) :=
 Option.bind (QP N c0.Attr a0) fun (x7 : Int) =>
 some (x7 != (0 : Int))
def CQ (N : Nat) (a0 : List (List UInt8)) (JM : BD) (rec : Int → Option (Unit ⊕ Int)) : Int → Option (Unit ⊕ Int)
 | v8l6 =>
  bif decide (v8l6 < (a0.length : Int)) then
   (CE a0 v8l6).bind fun (PO : List UInt8) =>
   Option.bind (TG N PO JM) fun (YH : Bool) =>
   bif YH then
    some (Sum.inr v8l6)
   else
    rec (BM (v8l6 + (1 : Int)))
  else
   some (Sum.inl ())
def BN (N : Nat) (a0 : List (List UInt8)) (JM : BD) : Nat → Int → Option (Unit ⊕ Int)
 | 0, _ => none
 | n + 1, x => CQ N a0 JM (BN N a0 JM n) x
def EO (N : Nat) (a0 : List (List UInt8)) (JM : BD) : Option (Int) :=
 Option.bind (BN N a0 JM N 0) fun (y3 : Unit ⊕ Int) =>
 Sum.elim (fun (y3 : Unit) =>
   some (-1)
  ) (fun (y3 : Int) =>
   some y3
  ) y3
def CR (N : Nat) (a0 : List (List UInt8)) (JM : BD) : Option (Bool) :=
 Option.bind (EO N a0 JM) fun (x7 : Int) =>
 some (decide (x7 ≥ (0 : Int)))
def MQ (N : Nat) (a0 : List BD) (a1 : Int) (rec : Int → Option (Unit ⊕ Bool)) : Int → Option (Unit ⊕ Bool)
 | v11l6 =>
  bif decide (v11l6 < (a0.length : Int)) then
   (CE a0 v11l6).bind fun (MX : BD) =>
   Option.bind (SL N MX.Attr) fun (PN : BB × Bool) =>
   Option.bind (
     bif !PN.2 then
      some true
     else
      bif (!(PN.1.Name == MX.Attr)) then
       some true
      else
       bif (MX.Attr == ([101, 110, 116, 114, 121, 105, 100] : List UInt8)) then
        some true
       else
        bif decide (MX.Kind < (1 : Int)) then
         some true
        else
         bif decide (MX.Kind > a1) then
          some true
         else
          bif decide ((MX.Values.length : Int) > (12 : Int)) then
           some true
          else
           bif (MX.Kind == (1 : Int)) then
            some ((MX.Values.length : Int) == (0 : Int))
           else
            some false
    ) fun (g2 : Bool) =>
   bif g2 then
    some (Sum.inr false)
   else
    Option.bind (CR N MX.Values (⟨MX.Kind, MX.Attr, MX.Values⟩ : BD)) fun (x66 : Bool) =>
    bif x66 then
     some (Sum.inr false)
    else
     rec (BM (v11l6 + (1 : Int)))
  else
   some (Sum.inl ())
def IJ (N : Nat) (a0 : List BD) (a1 : Int) : Nat → Int → Option (Unit ⊕ Bool)
 | 0, _ => none
 | n + 1, x => MQ N a0 a1 (IJ N a0 a1 n) x
def PH (N : Nat) (a0 : List BD) (a1 : Int) : Option (Bool) :=
 Option.bind (IJ N a0 a1 N 0) fun (qY : Unit ⊕ Bool) =>
 Sum.elim (fun (qY : Unit) =>
   some (decide ((a0.length : Int) ≤ (8 : Int)))
  ) (fun (qY : Bool) =>
   some qY
  ) qY
def TW (N : Nat) (a0 : AX) : Option (Bool) :=
 Option.bind (
   Option.bind (bP N (⟨a0.CSN.Time, a0.CSN.Seq, a0.CSN.Rep⟩ : AP)) fun (x7 : Bool) =>
   bif !x7 then
    some true
   else
    Option.bind (UL N (⟨a0.CSN.Time, a0.CSN.Seq, a0.CSN.Rep⟩ : AP)) fun (IP : Bool) =>
    bif IP then
     some true
    else
     Option.bind (bP N (⟨a0.ID.Time, a0.ID.Seq, a0.ID.Rep⟩ : AP)) fun (E9 : Bool) =>
     bif !E9 then
      some true
     else
      Option.bind (bP N (⟨a0.Parent.Time, a0.Parent.Seq, a0.Parent.Rep⟩ : AP)) fun (XY : Bool) =>
      some (!XY)
  ) fun (g1 : Bool) =>
 bif g1 then
  some false
 else
  Option.bind (
    Option.bind (UL N (⟨a0.Parent.Time, a0.Parent.Seq, a0.Parent.Rep⟩ : AP)) fun (x29 : Bool) =>
    bif x29 then
     bif ((a0.RDN.length : Int) == (0 : Int)) then
      some (!a0.DelOld)
     else
      some false
    else
     some false
   ) fun (g6 : Bool) =>
  bif (a0.Kind == (1 : Int)) then
   Option.bind (
     bif (a0.ID.Time == a0.CSN.Time && (a0.ID.Seq == a0.CSN.Seq && (a0.ID.Rep == a0.CSN.Rep && true))) then
      Option.bind (OD N (⟨a0.Parent.Time, a0.Parent.Seq, a0.Parent.Rep⟩ : AP) (⟨(⟨a0.CSN.Time, a0.CSN.Seq, a0.CSN.Rep⟩ : AP), a0.Kind, (⟨a0.ID.Time, a0.ID.Seq, a0.ID.Rep⟩ : AP), (⟨a0.Parent.Time, a0.Parent.Seq, a0.Parent.Rep⟩ : AP), a0.RDN, a0.DelOld, a0.Mods⟩ : AX)) fun (x54 : Bool) =>
      bif x54 then
       Option.bind (R7 N a0.RDN) fun (Lt : Bool) =>
       bif Lt then
        Option.bind (PH N a0.Mods 1) fun (x64 : Bool) =>
        bif x64 then
         some (!a0.DelOld)
        else
         some false
       else
        some false
      else
       some false
     else
      some false
    ) fun (g10 : Bool) =>
   some g10
  else
   bif (a0.Kind == (2 : Int)) then
    Option.bind (
      Option.bind (UL N (⟨a0.ID.Time, a0.ID.Seq, a0.ID.Rep⟩ : AP)) fun (x75 : Bool) =>
      bif !x75 then
       Option.bind (OD N (⟨a0.ID.Time, a0.ID.Seq, a0.ID.Rep⟩ : AP) (⟨(⟨a0.CSN.Time, a0.CSN.Seq, a0.CSN.Rep⟩ : AP), a0.Kind, (⟨a0.ID.Time, a0.ID.Seq, a0.ID.Rep⟩ : AP), (⟨a0.Parent.Time, a0.Parent.Seq, a0.Parent.Rep⟩ : AP), a0.RDN, a0.DelOld, a0.Mods⟩ : AX)) fun (x81 : Bool) =>
       bif x81 then
        bif g6 then
         some ((a0.Mods.length : Int) == (0 : Int))
        else
         some false
       else
        some false
      else
       some false
     ) fun (g16 : Bool) =>
    some g16
   else
    bif (a0.Kind == (3 : Int)) then
     Option.bind (
       Option.bind (OD N (⟨a0.ID.Time, a0.ID.Seq, a0.ID.Rep⟩ : AP) (⟨(⟨a0.CSN.Time, a0.CSN.Seq, a0.CSN.Rep⟩ : AP), a0.Kind, (⟨a0.ID.Time, a0.ID.Seq, a0.ID.Rep⟩ : AP), (⟨a0.Parent.Time, a0.Parent.Seq, a0.Parent.Rep⟩ : AP), a0.RDN, a0.DelOld, a0.Mods⟩ : AX)) fun (x97 : Bool) =>
       bif x97 then
        bif g6 then
         bif decide ((a0.Mods.length : Int) > (0 : Int)) then
          Option.bind (PH N a0.Mods 3) fun (x110 : Bool) =>
          some x110
         else
          some false
        else
         some false
       else
        some false
      ) fun (g21 : Bool) =>
     some g21
    else
     bif (a0.Kind == (4 : Int)) then
      Option.bind (
        Option.bind (UL N (⟨a0.ID.Time, a0.ID.Seq, a0.ID.Rep⟩ : AP)) fun (mM : Bool) =>
        bif !mM then
         Option.bind (OD N (⟨a0.ID.Time, a0.ID.Seq, a0.ID.Rep⟩ : AP) (⟨(⟨a0.CSN.Time, a0.CSN.Seq, a0.CSN.Rep⟩ : AP), a0.Kind, (⟨a0.ID.Time, a0.ID.Seq, a0.ID.Rep⟩ : AP), (⟨a0.Parent.Time, a0.Parent.Seq, a0.Parent.Rep⟩ : AP), a0.RDN, a0.DelOld, a0.Mods⟩ : AX)) fun (M8 : Bool) =>
         bif M8 then
          Option.bind (OD N (⟨a0.Parent.Time, a0.Parent.Seq, a0.Parent.Rep⟩ : AP) (⟨(⟨a0.CSN.Time, a0.CSN.Seq, a0.CSN.Rep⟩ : AP), a0.Kind, (⟨a0.ID.Time, a0.ID.Seq, a0.ID.Rep⟩ : AP), (⟨a0.Parent.Time, a0.Parent.Seq, a0.Parent.Rep⟩ : AP), a0.RDN, a0.DelOld, a0.Mods⟩ : AX)) fun (x128 : Bool) =>
          bif x128 then
           Option.bind (R7 N a0.RDN) fun (x133 : Bool) =>
           bif x133 then
            some ((a0.Mods.length : Int) == (0 : Int))
           else
            some false
          else
           some false
         else
          some false
        else
         some false
       ) fun (g26 : Bool) =>
      some g26
     else
      some false
def JE (N : Nat) (a0 : UInt8) (a1 : List UInt8) : Option (A7) :=
 some (⟨a0, a1, []⟩ : A7)
def P8 (jI : Int) (K6 : List UInt8) (rec : (Int × List UInt8) → Option (List UInt8)) (Qe : Int) : Option (List UInt8) :=
 bif (jI == Qe) then
  some K6
 else
  (RD 1 [(byte jI)] K6).bind fun (x27 : List UInt8) =>
  rec ((jO jI 8), x27)
def QN (N : Nat) (rec : (Int × List UInt8) → Option (List UInt8)) : (Int × List UInt8) → Option (List UInt8)
 | (jI, K6) =>
  (OV (0 : Int) K6.length).bind fun (PO : Nat) =>
  (K6[PO]?).bind fun (NK : UInt8) =>
  bif ((((NK &&& (128 : UInt8))).toNat : Int) != (0 : Int)) then
   P8 jI K6 rec (-1)
  else
   P8 jI K6 rec 0
def GQ (N : Nat) : Nat → (Int × List UInt8) → Option (List UInt8)
 | 0, _ => none
 | n + 1, x => QN N (GQ N n) x
def RP (N : Nat) (a0 : Int) : Option (List UInt8) :=
 Option.bind (GQ N N ((jO a0 8), [(byte a0)])) fun (y3 : List UInt8) =>
 some y3
def QM (N : Nat) (a0 : UInt8) (a1 : Int) : Option (A7) :=
 Option.bind (RP N a1) fun (x7 : List UInt8) =>
 Option.bind (JE N a0 x7) fun (x8 : A7) =>
 some x8
def PQ (N : Nat) (a0 : UInt8) (a1 : List A7) : Option (A7) :=
 some (⟨a0, ([] : List UInt8), (List.map A9 a1)⟩ : A7)
def Z6 (N : Nat) (a0 : AP) : Option (List UInt8) :=
 Option.bind (KV N a0.Time 10) fun (x5 : List UInt8) =>
 (bT x5 ([46] : List UInt8)).bind fun (x6 : List UInt8) =>
 Option.bind (strconv_Itoa N a0.Seq) fun (x9 : List UInt8) =>
 (bT x6 x9).bind fun (SX : List UInt8) =>
 (bT SX ([46] : List UInt8)).bind fun (LK : List UInt8) =>
 Option.bind (strconv_Itoa N a0.Rep) fun (PO : List UInt8) =>
 (bT LK PO).bind fun (NK : List UInt8) =>
 some NK
def NE (N : Nat) (a0 : AP) : Option (A7) :=
 Option.bind (Z6 N a0) fun (x4 : List UInt8) =>
 Option.bind (JE N (4 : UInt8) x4) fun (x5 : A7) =>
 some x5
def XU (N : Nat) (LD : A7 → Option (Bool)) (a0 : A7) : Option (Bool) :=
 Option.bind (LD a0) fun (x4 : Bool) =>
 some (!x4)
def C9 (N : Nat) (LD : A7 → Option (Bool)) (a0 : List A7) (rec : Int → Option (Unit ⊕ Int)) : Int → Option (Unit ⊕ Int)
 | v8l6 =>
  bif decide (v8l6 < (a0.length : Int)) then
   (CE a0 v8l6).bind fun (PO : A7) =>
   Option.bind (XU N LD PO) fun (YH : Bool) =>
   bif YH then
    some (Sum.inr v8l6)
   else
    rec (BM (v8l6 + (1 : Int)))
  else
   some (Sum.inl ())
def BI (N : Nat) (LD : A7 → Option (Bool)) (a0 : List A7) : Nat → Int → Option (Unit ⊕ Int)
 | 0, _ => none
 | n + 1, x => C9 N LD a0 (BI N LD a0 n) x
def DC (N : Nat) (LD : A7 → Option (Bool)) (a0 : List A7) : Option (Int) :=
 Option.bind (BI N LD a0 N 0) fun (y3 : Unit ⊕ Int) =>
 Sum.elim (fun (y3 : Unit) =>
   some (-1)
  ) (fun (y3 : Int) =>
   some y3
  ) y3
def D6 (N : Nat) (LD : A7 → Option (Bool)) (a0 : List A7) : Option (Bool) :=
 Option.bind (DC N LD a0) fun (x7 : Int) =>
 some (decide (x7 ≥ (0 : Int)))
def R8 (N : Nat) (LD : A7 → Option (Bool)) (a0 : A7) : Option (Bool) :=
 bif ((((a0.Tag &&& (31 : UInt8))).toNat : Int) == (31 : Int)) then
  some false
 else
  bif ((((a0.Tag &&& (32 : UInt8))).toNat : Int) == (0 : Int)) then
   Option.bind (TS CL a0.Kids) fun (PO : List A7) =>
   some ((PO.length : Int) == (0 : Int))
  else
   Option.bind (
     bif (a0.Body == ([] : List UInt8)) then
      Option.bind (TS CL a0.Kids) fun (WY : List A7) =>
      Option.bind (D6 N LD WY) fun (XY : Bool) =>
      some (!XY)
     else
      some false
    ) fun (g3 : Bool) =>
   some g3
def LC (N : Nat) : Nat → A7 → Option (Bool)
 | 0 => fun _ => none
 | n + 1 => R8 N (LC N n)
def bW (N : Nat) (a0 : A7) : Option (Bool) := LC N N a0
def SH (N : Nat) (LD : A7 → Option (Int)) (x7 : List A7) (rec : (Int × Int) → Option (Int)) : (Int × Int) → Option (Int)
 | (Ak, Aj) =>
  bif decide (Aj < (x7.length : Int)) then
   (CE x7 Aj).bind fun (LK : A7) =>
   Option.bind (LD LK) fun (NK : Int) =>
   rec ((mx Ak NK), (BM (Aj + (1 : Int))))
  else
   some Ak
def OH (N : Nat) (LD : A7 → Option (Int)) (x7 : List A7) : Nat → (Int × Int) → Option (Int)
 | 0, _ => none
 | n + 1, x => SH N LD x7 (OH N LD x7 n) x
def XV (N : Nat) (LD : A7 → Option (Int)) (a0 : A7) : Option (Int) :=
 Option.bind (TS CL a0.Kids) fun (x7 : List A7) =>
 Option.bind (OH N LD x7 N (0, 0)) fun (y2 : Int) =>
 some (BM (y2 + (1 : Int)))
def PU (N : Nat) : Nat → A7 → Option (Int)
 | 0 => fun _ => none
 | n + 1 => XV N (PU N n)
def mD (N : Nat) (a0 : A7) : Option (Int) := PU N N a0
def XT (N : Nat) (a0 : Int) : Option (List UInt8) :=
 bif decide (a0 < (128 : Int)) then
  some [(byte a0)]
 else
  bif decide (a0 < (256 : Int)) then
   some [(129 : UInt8), (byte a0)]
  else
   some [(130 : UInt8), (byte (jO a0 8)), (byte a0)]
def R9 (N : Nat) (LD : A7 → Option (List UInt8 × Bool)) (a0 : A7) (MX : List A7) (rec : (Int × List UInt8) → Option ((List UInt8) ⊕ (List UInt8 × Bool))) : (Int × List UInt8) → Option ((List UInt8) ⊕ (List UInt8 × Bool))
 | (U2, QU) =>
  bif decide (U2 < (MX.length : Int)) then
   (CE MX U2).bind fun (E9 : A7) =>
   Option.bind (LD E9) fun (VF : List UInt8 × Bool) =>
   Option.bind (
     bif !VF.2 then
      some true
     else
      some (decide ((BM ((QU.length : Int) + (VF.1.length : Int))) > (4000 : Int)))
    ) fun (g2 : Bool) =>
   bif g2 then
    some (Sum.inr (([] : List UInt8), false))
   else
    (RD 1 QU VF.1).bind fun (Rs : List UInt8) =>
    rec ((BM (U2 + (1 : Int))), Rs)
  else
   some (Sum.inl QU)
def MV (N : Nat) (LD : A7 → Option (List UInt8 × Bool)) (a0 : A7) (MX : List A7) : Nat → (Int × List UInt8) → Option ((List UInt8) ⊕ (List UInt8 × Bool))
 | 0, _ => none
 | n + 1, x => R9 N LD a0 MX (MV N LD a0 MX n) x
def VE (N : Nat) (LD : A7 → Option (List UInt8 × Bool)) (a0 : A7) : Option (List UInt8 × Bool) :=
 Option.bind (TS CL a0.Kids) fun (MX : List A7) =>
 Option.bind (MV N LD a0 MX N (0, a0.Body)) fun (y5 : (List UInt8) ⊕ (List UInt8 × Bool)) =>
 Sum.elim (fun (y5 : List UInt8) =>
   bif decide ((y5.length : Int) > (4000 : Int)) then
    some (([] : List UInt8), false)
   else
    Option.bind (XT N (y5.length : Int)) fun (bY : List UInt8) =>
    (bT [a0.Tag] bY).bind fun (gL : List UInt8) =>
    (bT gL y5).bind fun (Lv : List UInt8) =>
    some (Lv, true)
  ) (fun (y5 : List UInt8 × Bool) =>
   some (y5.1, y5.2)
  ) y5
def OI (N : Nat) : Nat → A7 → Option (List UInt8 × Bool)
 | 0 => fun _ => none
 | n + 1 => VE N (OI N n)
def gJ (N : Nat) (a0 : A7) : Option (List UInt8 × Bool) := OI N N a0
def ZT (N : Nat) (a0 : A7) : Option (List UInt8 × Int) :=
 Option.bind (bW N a0) fun (x7 : Bool) =>
 bif !x7 then
  some (([] : List UInt8), 14)
 else
  Option.bind (mD N a0) fun (SX : Int) =>
  bif decide (SX > (20 : Int)) then
   some (([] : List UInt8), 12)
  else
   Option.bind (gJ N a0) fun (PO : List UInt8 × Bool) =>
   bif !PO.2 then
    some (([] : List UInt8), 13)
   else
    some (PO.1, 0)
def MU (N : Nat) (a0 : AX) (rec : (Int × List A7) → Option (List A7)) : (Int × List A7) → Option (List A7)
 | (fB, WP) =>
  bif decide (fB < (a0.RDN.length : Int)) then
   (CE a0.RDN fB).bind fun (x24 : AL) =>
   Option.bind (JE N (4 : UInt8) x24.Attr) fun (x29 : A7) =>
   Option.bind (JE N (4 : UInt8) x24.Value) fun (x32 : A7) =>
   (RD 48 WP [x29, x32]).bind fun (x34 : List A7) =>
   rec ((BM (fB + (1 : Int))), x34)
  else
   some WP
def IM (N : Nat) (a0 : AX) : Nat → (Int × List A7) → Option (List A7)
 | 0, _ => none
 | n + 1, x => MU N a0 (IM N a0 n) x
def MR (N : Nat) (a0 : AX) (y3 : List A7) (MC : Int) (FK : List A7) (x41 : BD) (rec : (Int × List A7) → Option (List A7)) : (Int × List A7) → Option (List A7)
 | (eY, WO) =>
  bif decide (eY < (x41.Values.length : Int)) then
   (CE x41.Values eY).bind fun (x55 : List UInt8) =>
   Option.bind (JE N (4 : UInt8) x55) fun (Lt : A7) =>
   (RD 48 WO [Lt]).bind fun (Rq : List A7) =>
   rec ((BM (eY + (1 : Int))), Rq)
  else
   some WO
def IK (N : Nat) (a0 : AX) (y3 : List A7) (MC : Int) (FK : List A7) (x41 : BD) : Nat → (Int × List A7) → Option (List A7)
 | 0, _ => none
 | n + 1, x => MR N a0 y3 MC FK x41 (IK N a0 y3 MC FK x41 n) x
def MS (N : Nat) (a0 : AX) (y3 : List A7) (rec : (Int × List A7) → Option (List A7)) : (Int × List A7) → Option (List A7)
 | (MC, FK) =>
  bif decide (MC < (a0.Mods.length : Int)) then
   (CE a0.Mods MC).bind fun (x41 : BD) =>
   Option.bind (QM N (2 : UInt8) x41.Kind) fun (r9 : A7) =>
   Option.bind (JE N (4 : UInt8) x41.Attr) fun (gL : A7) =>
   Option.bind (IK N a0 y3 MC FK x41 N (0, [r9, gL])) fun (y6 : List A7) =>
   Option.bind (PQ N (48 : UInt8) y6) fun (xK : A7) =>
   (RD 48 FK [xK]).bind fun (x67 : List A7) =>
   rec ((BM (MC + (1 : Int))), x67)
  else
   some FK
def IL (N : Nat) (a0 : AX) (y3 : List A7) : Nat → (Int × List A7) → Option (List A7)
 | 0, _ => none
 | n + 1, x => MS N a0 y3 (IL N a0 y3 n) x
def M6 (a0 : AX) (N : Nat) (y3 : List A7) (y7 : List A7) (Dy : Int) : Option (List UInt8 × Int) :=
 Option.bind (QM N (2 : UInt8) Dy) fun (x77 : A7) =>
 Option.bind (NE N (⟨a0.CSN.Time, a0.CSN.Seq, a0.CSN.Rep⟩ : AP)) fun (x80 : A7) =>
 Option.bind (NE N (⟨a0.ID.Time, a0.ID.Seq, a0.ID.Rep⟩ : AP)) fun (x83 : A7) =>
 Option.bind (NE N (⟨a0.Parent.Time, a0.Parent.Seq, a0.Parent.Rep⟩ : AP)) fun (x86 : A7) =>
 Option.bind (PQ N (48 : UInt8) y3) fun (x88 : A7) =>
 Option.bind (PQ N (48 : UInt8) y7) fun (x90 : A7) =>
 Option.bind (PQ N (48 : UInt8) [x77, x80, x83, x86, x88, x90]) fun (x92 : A7) =>
 Option.bind (ZT N x92) fun (x93 : List UInt8 × Int) =>
 Option.bind (
   bif (x93.2 == (0 : Int)) then
    some (decide ((x93.1.length : Int) > (4000 : Int)))
   else
    some false
  ) fun (g8 : Bool) =>
 bif g8 then
  some (([] : List UInt8), 13)
 else
  some (x93.1, x93.2)
def JW (N : Nat) (a0 : AX) : Option (List UInt8 × Int) :=
 Option.bind (TW N a0) fun (E9 : Bool) =>
 bif !E9 then
  some (([] : List UInt8), 14)
 else
  Option.bind (IM N a0 N (0, [])) fun (y3 : List A7) =>
  Option.bind (IL N a0 y3 N (0, [])) fun (y7 : List A7) =>
  bif a0.DelOld then
   M6 a0 N y3 y7 (BM (0 - a0.Kind))
  else
   M6 a0 N y3 y7 a0.Kind
def RB (Dv : Int) (Dt : Int) : Option (Int × Int × Int) :=
 bif decide (Dv > (4000 : Int)) then
  some (0, 0, 13)
 else
  some ((BM ((2 : Int) + Dt)), Dv, 0)
def RA (N : Nat) (QG : UInt8) (x41 : List UInt8) (rec : (Int × Int) → Option (Int)) : (Int × Int) → Option (Int)
 | (nI, eZ) =>
  bif decide (eZ < (x41.length : Int)) then
   (OV eZ x41.length).bind fun (uN : Nat) =>
   (x41[uN]?).bind fun (bY : UInt8) =>
   rec ((Ll .or .i64 (jQ nI 8) ((bY).toNat : Int)), (BM (eZ + (1 : Int))))
  else
   some nI
def MW (N : Nat) (QG : UInt8) (x41 : List UInt8) : Nat → (Int × Int) → Option (Int)
 | 0, _ => none
 | n + 1, x => RA N QG x41 (MW N QG x41 n) x
def Z9 (N : Nat) (a0 : List UInt8) : Option (Int × Int × Int) :=
 bif (a0 == ([] : List UInt8)) then
  some (0, 0, 10)
 else
  (CE a0 (0 : Int)).bind fun (IP : UInt8) =>
  bif ((((IP &&& (31 : UInt8))).toNat : Int) == (31 : Int)) then
   some (0, 0, 14)
  else
   bif ((a0.length : Int) == (1 : Int)) then
    some (0, 0, 10)
   else
    (CE a0 (1 : Int)).bind fun (QG : UInt8) =>
    Option.bind (
      bif (((QG).toNat : Int) == (128 : Int)) then
       some true
      else
       some (decide (((QG).toNat : Int) > (132 : Int)))
     ) fun (g5 : Bool) =>
    bif g5 then
     some (0, 0, 11)
    else
     bif decide (((QG).toNat : Int) > (128 : Int)) then
      bif decide ((a0.length : Int) < (BM ((2 : Int) + (BM (((QG).toNat : Int) - (128 : Int)))))) then
       some (0, 0, 10)
      else
       (lS a0 (2 : Int) (BM ((2 : Int) + (BM (((QG).toNat : Int) - (128 : Int)))))).bind fun (x41 : List UInt8) =>
       Option.bind (MW N QG x41 N (0, 0)) fun (Dj : Int) =>
       RB Dj (BM (((QG).toNat : Int) - (128 : Int)))
     else
      RB ((QG).toNat : Int) 0
def IU (N : Nat) (LD : BG → Int → Int → Int → Option (A7 × Int × Int × BG)) (a1 : Int) (a3 : Int) (LM : Int × Int × Int) (rec : (Int × UInt8 × List UInt8 × List A7 × BG) → Option ((UInt8 × List UInt8 × List A7 × BG) ⊕ (A7 × Int × Int × BG))) : (Int × UInt8 × List UInt8 × List A7 × BG) → Option ((UInt8 × List UInt8 × List A7 × BG) ⊕ (A7 × Int × Int × BG))
 | (uV, MK, MJ, UB, U8) =>
  bif decide (uV < (BM ((BM (a1 + LM.1)) + LM.2.1))) then
   Option.bind (LD U8 uV (BM ((BM (a1 + LM.1)) + LM.2.1)) (BM (a3 + (1 : Int)))) fun (x102 : A7 × Int × Int × BG) =>
   bif (x102.2.2.1 != (0 : Int)) then
    some (Sum.inr ((⟨(0 : UInt8), ([] : List UInt8), []⟩ : A7), 0, x102.2.2.1, x102.2.2.2))
   else
    (RD 48 UB [x102.1]).bind fun (x114 : List A7) =>
    rec (x102.2.1, MK, MJ, x114, x102.2.2.2)
  else
   some (Sum.inl (MK, MJ, UB, U8))
def FH (N : Nat) (LD : BG → Int → Int → Int → Option (A7 × Int × Int × BG)) (a1 : Int) (a3 : Int) (LM : Int × Int × Int) : Nat → (Int × UInt8 × List UInt8 × List A7 × BG) → Option ((UInt8 × List UInt8 × List A7 × BG) ⊕ (A7 × Int × Int × BG))
 | 0, _ => none
 | n + 1, x => IU N LD a1 a3 LM (FH N LD a1 a3 LM n) x
def G8 (LD : BG → Int → Int → Int → Option (A7 × Int × Int × BG)) (a0 : BG) (a1 : Int) (a3 : Int) (N : Nat) (LM : Int × Int × Int) (p8 : Int) : Option (A7 × Int × Int × BG) :=
 bif (p8 != (0 : Int)) then
  some ((⟨(0 : UInt8), ([] : List UInt8), []⟩ : A7), 0, p8, (⟨a0.s, a1⟩ : BG))
 else
  (CE a0.s a1).bind fun (jC : UInt8) =>
  bif ((((jC &&& (32 : UInt8))).toNat : Int) == (0 : Int)) then
   (lS a0.s (BM (a1 + LM.1)) (BM ((BM (a1 + LM.1)) + LM.2.1))).bind fun (x82 : List UInt8) =>
   some ((⟨jC, x82, []⟩ : A7), (BM ((BM (a1 + LM.1)) + LM.2.1)), 0, (⟨a0.s, a1⟩ : BG))
  else
   Option.bind (FH N LD a1 a3 LM N ((BM (a1 + LM.1)), jC, ([] : List UInt8), [], (⟨a0.s, a1⟩ : BG))) fun (y6 : (UInt8 × List UInt8 × List A7 × BG) ⊕ (A7 × Int × Int × BG)) =>
   Sum.elim (fun (y6 : UInt8 × List UInt8 × List A7 × BG) =>
     some ((⟨y6.1, y6.2.1, (List.map A9 y6.2.2.1)⟩ : A7), (BM ((BM (a1 + LM.1)) + LM.2.1)), 0, y6.2.2.2)
    ) (fun (y6 : A7 × Int × Int × BG) =>
     some (y6.1, y6.2.1, y6.2.2.1, y6.2.2.2)
    ) y6
def G9 (LD : BG → Int → Int → Int → Option (A7 × Int × Int × BG)) (a0 : BG) (a1 : Int) (a3 : Int) (N : Nat) (LM : Int × Int × Int) (jJ : Int) : Option (A7 × Int × Int × BG) :=
 Option.bind (
   bif (jJ == (10 : Int)) then
    some (decide (a3 > (1 : Int)))
   else
    some false
  ) fun (g7 : Bool) =>
 bif g7 then
  G8 LD a0 a1 a3 N LM 11
 else
  G8 LD a0 a1 a3 N LM jJ
def LB (N : Nat) (LD : BG → Int → Int → Int → Option (A7 × Int × Int × BG)) (a0 : BG) (a1 : Int) (a2 : Int) (a3 : Int) : Option (A7 × Int × Int × BG) :=
 bif decide (a3 > (20 : Int)) then
  some ((⟨(0 : UInt8), ([] : List UInt8), []⟩ : A7), 0, 12, (⟨a0.s, a1⟩ : BG))
 else
  (lS a0.s a1 a2).bind fun (x34 : List UInt8) =>
  Option.bind (Z9 N x34) fun (LM : Int × Int × Int) =>
  Option.bind (
    bif (LM.2.2 == (0 : Int)) then
     some (decide (LM.2.1 > (BM ((BM (a2 - a1)) - LM.1))))
    else
     some false
   ) fun (g10 : Bool) =>
  bif g10 then
   G9 LD a0 a1 a3 N LM 10
  else
   G9 LD a0 a1 a3 N LM LM.2.2
def DX (N : Nat) : Nat → BG → Int → Int → Int → Option (A7 × Int × Int × BG)
 | 0 => fun _ _ _ _ => none
 | n + 1 => LB N (DX N n)
def PT (N : Nat) (a0 : BG) (a1 : Int) (a2 : Int) (a3 : Int) : Option (A7 × Int × Int × BG) := DX N N a0 a1 a2 a3
def eG (N : Nat) (a0 : List UInt8) : Option (A7 × Int × Int × Int) :=
 Option.bind (PT N (⟨a0, 0⟩ : BG) 0 (a0.length : Int) 1) fun (E9 : A7 × Int × Int × BG) =>
 bif (E9.2.2.1 != (0 : Int)) then
  some ((⟨(0 : UInt8), ([] : List UInt8), []⟩ : A7), 0, E9.2.2.2.at_, E9.2.2.1)
 else
  some (E9.1, E9.2.1, 0, 0)
def LP (N : Nat) (a0 : List UInt8) (rec : (Int × Int) → Option (Int)) : (Int × Int) → Option (Int)
 | (nJ, fA) =>
  bif decide (fA < (a0.length : Int)) then
   (OV fA a0.length).bind fun (x25 : Nat) =>
   (a0[x25]?).bind fun (LV : UInt8) =>
   rec ((Ll .or .i64 (jQ nJ 8) ((LV).toNat : Int)), (BM (fA + (1 : Int))))
  else
   some nJ
def GZ (N : Nat) (a0 : List UInt8) : Nat → (Int × Int) → Option (Int)
 | 0, _ => none
 | n + 1, x => LP N a0 (GZ N a0 n) x
def LW (a0 : List UInt8) (N : Nat) (v4j6 : Int) : Option (Int × Bool) :=
 Option.bind (GZ N a0 N (v4j6, 0)) fun (y2 : Int) =>
 Option.bind (RP N y2) fun (x34 : List UInt8) =>
 bif (!(x34 == a0)) then
  some (0, false)
 else
  some (y2, true)
def P7 (N : Nat) (a0 : List UInt8) : Option (Int × Bool) :=
 Option.bind (
   bif (a0 == ([] : List UInt8)) then
    some true
   else
    some (decide ((a0.length : Int) > (8 : Int)))
  ) fun (g4 : Bool) =>
 bif g4 then
  some (0, false)
 else
  (CE a0 (0 : Int)).bind fun (E9 : UInt8) =>
  bif ((((E9 &&& (128 : UInt8))).toNat : Int) != (0 : Int)) then
   LW a0 N (-1)
  else
   LW a0 N 0
def Y0 (N : Nat) (a0 : List UInt8) (a1 : Int) : Option (List (List UInt8)) :=
 none
def strings_Index (N : Nat) (a0 : List UInt8) (a1 : List UInt8) : Option (Int) :=
 Option.bind (stringslite_Index N a0 a1) fun (x7 : Int) =>
 some x7
def JO (N : Nat) (a0 : List UInt8) (a1 : List UInt8) (a2 : Int) (TH : Int) (rec : (List UInt8 × Int × List (List UInt8)) → Option (List UInt8 × Int × List (List UInt8))) : (List UInt8 × Int × List (List UInt8)) → Option (List UInt8 × Int × List (List UInt8))
 | (gM, VL, II) =>
  bif decide (VL < (BM ((mn TH (BM ((a0.length : Int) + (1 : Int)))) - (1 : Int)))) then
   Option.bind (strings_Index N gM a1) fun (x39 : Int) =>
   bif decide (x39 < (0 : Int)) then
    some (gM, VL, II)
   else
    (U3 gM (BM (x39 + a2))).bind fun (gL : List UInt8) =>
    (OV VL II.length).bind fun (Y7 : Nat) =>
    (II[Y7]?).bind fun (qZ : List UInt8) =>
    (UH gM (BM (x39 + (a1.length : Int)))).bind fun (x55 : List UInt8) =>
    rec (x55, (BM (VL + (1 : Int))), (II.set Y7 gL))
  else
   some (gM, VL, II)
def FX (N : Nat) (a0 : List UInt8) (a1 : List UInt8) (a2 : Int) (TH : Int) : Nat → (List UInt8 × Int × List (List UInt8)) → Option (List UInt8 × Int × List (List UInt8))
 | 0, _ => none
 | n + 1, x => JO N a0 a1 a2 TH (FX N a0 a1 a2 TH n) x
def IW (a0 : List UInt8) (a1 : List UInt8) (a2 : Int) (N : Nat) (TH : Int) : Option (List (List UInt8)) :=
 Option.bind (mkN 16 (mn TH (BM ((a0.length : Int) + (1 : Int))))) fun (x31 : Nat) =>
 Option.bind (FX N a0 a1 a2 TH N (a0, 0, (List.replicate x31 ([] : List UInt8)))) fun (y6 : List UInt8 × Int × List (List UInt8)) =>
 (OV y6.2.1 y6.2.2.length).bind fun (Rq : Nat) =>
 (y6.2.2[Rq]?).bind fun (Dp : List UInt8) =>
 (U3 (y6.2.2.set Rq y6.1) (BM (y6.2.1 + (1 : Int)))).bind fun (xK : List (List UInt8)) =>
 some xK
def strings_genSplit (N : Nat) (a0 : List UInt8) (a1 : List UInt8) (a2 : Int) (a3 : Int) : Option (List (List UInt8)) :=
 bif (a3 == (0 : Int)) then
  some []
 else
  bif (a1 == ([] : List UInt8)) then
   Option.bind (Y0 N a0 a3) fun (PN : List (List UInt8)) =>
   some PN
  else
   bif decide (a3 < (0 : Int)) then
    Option.bind (strings_Count N a0 a1) fun (XY : Int) =>
    IW a0 a1 a2 N (BM (XY + (1 : Int)))
   else
    IW a0 a1 a2 N a3
def strings_Split (N : Nat) (a0 : List UInt8) (a1 : List UInt8) : Option (List (List UInt8)) :=
 Option.bind (strings_genSplit N a0 a1 0 (-1)) fun (x7 : List (List UInt8)) =>
 some x7
def N9 (N : Nat) (a0 : List UInt8) (IP : List (List UInt8)) (rec : (Int × List Int) → Option ((List Int) ⊕ (AP × Int))) : (Int × List Int) → Option ((List Int) ⊕ (AP × Int))
 | (X8, RV) =>
  bif decide (X8 < (IP.length : Int)) then
   (CE IP X8).bind fun (WY : List UInt8) =>
   Option.bind (LX N WY 10 64) fun (LV : Int × Bool) =>
   Option.bind (
     bif LV.2 then
      some true
     else
      bif decide (LV.1 < (0 : Int)) then
       some true
      else
       some (decide (LV.1 > (1099511627776 : Int)))
    ) fun (g3 : Bool) =>
   bif g3 then
    some (Sum.inr ((⟨0, 0, 0⟩ : AP), 14))
   else
    (OV X8 3).bind fun (Li : Nat) =>
    (RV[Li]?).bind fun (Dp : Int) =>
    rec ((BM (X8 + (1 : Int))), (RV.set Li LV.1))
  else
   some (Sum.inl RV)
def JX (N : Nat) (a0 : List UInt8) (IP : List (List UInt8)) : Nat → (Int × List Int) → Option ((List Int) ⊕ (AP × Int))
 | 0, _ => none
 | n + 1, x => N9 N a0 IP (JX N a0 IP n) x
def ND (N : Nat) (a0 : List UInt8) : Option (AP × Int) :=
 Option.bind (strings_Split N a0 ([46] : List UInt8)) fun (IP : List (List UInt8)) =>
 bif ((IP.length : Int) != (3 : Int)) then
  some ((⟨0, 0, 0⟩ : AP), 14)
 else
  Option.bind (JX N a0 IP N (0, [0, 0, 0])) fun (y8 : (List Int) ⊕ (AP × Int)) =>
  Sum.elim (fun (y8 : List Int) =>
    (y8[0]?).bind fun (r9 : Int) =>
    (y8[1]?).bind fun (bY : Int) =>
    (y8[2]?).bind fun (Y7 : Int) =>
    Option.bind (
      Option.bind (bP N (⟨r9, bY, Y7⟩ : AP)) fun (OJ : Bool) =>
      bif !OJ then
       some true
      else
       Option.bind (Z6 N (⟨r9, bY, Y7⟩ : AP)) fun (Lu : List UInt8) =>
       some (!(Lu == a0))
     ) fun (g9 : Bool) =>
    bif g9 then
     some ((⟨0, 0, 0⟩ : AP), 14)
    else
     some ((⟨r9, bY, Y7⟩ : AP), 0)
   ) (fun (y8 : AP × Int) =>
    some (y8.1, y8.2)
   ) y8
def VB (N : Nat) (a0 : List UInt8) (LV : A7 × Int × Int × Int) (OJ : Int × Bool) (x81 : AP × Int) (DR : AP × Int) (EZ : AP × Int) (rec : Unit → Option (Unit)) : Unit → Option (Unit)
 | () =>
  some ()
def NB (N : Nat) (a0 : List UInt8) (LV : A7 × Int × Int × Int) (OJ : Int × Bool) (x81 : AP × Int) (DR : AP × Int) (EZ : AP × Int) : Nat → Unit → Option (Unit)
 | 0, _ => none
 | n + 1, x => VB N a0 LV OJ x81 DR EZ (NB N a0 LV OJ x81 DR EZ n) x
def R6 (N : Nat) (a0 : List UInt8) (LV : A7 × Int × Int × Int) (x93 : List A7) (rec : (Int × Int × Int × Int × Int × Int × Int × Int × Int × Int × Int × Bool × List AL) → Option (Int × Int × Int × Int × Int × Int × Int × Int × Int × Int × Bool × List AL)) : (Int × Int × Int × Int × Int × Int × Int × Int × Int × Int × Int × Bool × List AL) → Option (Int × Int × Int × Int × Int × Int × Int × Int × Int × Int × Bool × List AL)
 | (X9, QB, QA, Q9, Q8, Q7, Q6, Q5, Q4, Q3, Q0, OM, UA) =>
  bif decide ((BM (X9 + (1 : Int))) < (x93.length : Int)) then
   (CE x93 X9).bind fun (x105 : A7) =>
   (CE x93 (BM (X9 + (1 : Int)))).bind fun (oU : A7) =>
   (RD 32 UA [(⟨x105.Body, oU.Body⟩ : AL)]).bind fun (mM : List AL) =>
   rec ((BM (X9 + (2 : Int))), QB, QA, Q9, Q8, Q7, Q6, Q5, Q4, Q3, Q0, OM, mM)
  else
   some (QB, QA, Q9, Q8, Q7, Q6, Q5, Q4, Q3, Q0, OM, UA)
def JI (N : Nat) (a0 : List UInt8) (LV : A7 × Int × Int × Int) (x93 : List A7) : Nat → (Int × Int × Int × Int × Int × Int × Int × Int × Int × Int × Int × Bool × List AL) → Option (Int × Int × Int × Int × Int × Int × Int × Int × Int × Int × Bool × List AL)
 | 0, _ => none
 | n + 1, x => R6 N a0 LV x93 (JI N a0 LV x93 n) x
def NS (N : Nat) (a0 : List UInt8) (M8 : List A7) (J5 : Int) (EJ : Int) (EI : Int) (EH : Int) (EG : Int) (EF : Int) (EE : Int) (ED : Int) (EC : Int) (EB : Int) (EA : Int) (DD : Bool) (DI : List AL) (E5 : List BD) (x151 : List A7) (rec : (Int × Int × List UInt8 × List (List UInt8)) → Option (Int × List UInt8 × List (List UInt8))) : (Int × Int × List UInt8 × List (List UInt8)) → Option (Int × List UInt8 × List (List UInt8))
 | (ZF, PZ, PY, U9) =>
  bif decide (ZF < (x151.length : Int)) then
   (CE x151 ZF).bind fun (rA : A7) =>
   (RD 16 U9 [rA.Body]).bind fun (Ma : List (List UInt8)) =>
   rec ((BM (ZF + (1 : Int))), PZ, PY, Ma)
  else
   some (PZ, PY, U9)
def JH (N : Nat) (a0 : List UInt8) (M8 : List A7) (J5 : Int) (EJ : Int) (EI : Int) (EH : Int) (EG : Int) (EF : Int) (EE : Int) (ED : Int) (EC : Int) (EB : Int) (EA : Int) (DD : Bool) (DI : List AL) (E5 : List BD) (x151 : List A7) : Nat → (Int × Int × List UInt8 × List (List UInt8)) → Option (Int × List UInt8 × List (List UInt8))
 | 0, _ => none
 | n + 1, x => NS N a0 M8 J5 EJ EI EH EG EF EE ED EC EB EA DD DI E5 x151 (JH N a0 M8 J5 EJ EI EH EG EF EE ED EC EB EA DD DI E5 x151 n) x
def NT (N : Nat) (a0 : List UInt8) (M8 : List A7) (rec : (Int × Int × Int × Int × Int × Int × Int × Int × Int × Int × Int × Bool × List AL × List BD) → Option ((Int × Int × Int × Int × Int × Int × Int × Int × Int × Int × Bool × List AL × List BD) ⊕ (AX × Int))) : (Int × Int × Int × Int × Int × Int × Int × Int × Int × Int × Int × Bool × List AL × List BD) → Option ((Int × Int × Int × Int × Int × Int × Int × Int × Int × Int × Bool × List AL × List BD) ⊕ (AX × Int))
 | (J5, EJ, EI, EH, EG, EF, EE, ED, EC, EB, EA, DD, DI, E5) =>
  bif decide (J5 < (M8.length : Int)) then
   (CE M8 J5).bind fun (bZ : A7) =>
   Option.bind (TS CL bZ.Kids) fun (Rw : List A7) =>
   bif decide ((Rw.length : Int) < (2 : Int)) then
    some (Sum.inr ((⟨(⟨0, 0, 0⟩ : AP), 0, (⟨0, 0, 0⟩ : AP), (⟨0, 0, 0⟩ : AP), [], false, []⟩ : AX), 14))
   else
    Option.bind (TS CL bZ.Kids) fun (Rv : List A7) =>
    (CE Rv (0 : Int)).bind fun (uR : A7) =>
    Option.bind (P7 N uR.Body) fun (uQ : Int × Bool) =>
    Option.bind (TS CL bZ.Kids) fun (Ru : List A7) =>
    (CE Ru (1 : Int)).bind fun (iE : A7) =>
    Option.bind (TS CL bZ.Kids) fun (x150 : List A7) =>
    (UH x150 (2 : Int)).bind fun (x151 : List A7) =>
    Option.bind (JH N a0 M8 J5 EJ EI EH EG EF EE ED EC EB EA DD DI E5 x151 N (0, uQ.1, iE.Body, [])) fun (eT : Int × List UInt8 × List (List UInt8)) =>
    (RD 48 E5 [(⟨eT.1, eT.2.1, eT.2.2⟩ : BD)]).bind fun (Lx : List BD) =>
    rec ((BM (J5 + (1 : Int))), EJ, EI, EH, EG, EF, EE, ED, EC, EB, EA, DD, DI, Lx)
  else
   some (Sum.inl (EJ, EI, EH, EG, EF, EE, ED, EC, EB, EA, DD, DI, E5))
def I5 (N : Nat) (a0 : List UInt8) (M8 : List A7) : Nat → (Int × Int × Int × Int × Int × Int × Int × Int × Int × Int × Int × Bool × List AL × List BD) → Option ((Int × Int × Int × Int × Int × Int × Int × Int × Int × Int × Bool × List AL × List BD) ⊕ (AX × Int))
 | 0, _ => none
 | n + 1, x => NT N a0 M8 (I5 N a0 M8 n) x
def OC (N : Nat) (a0 : List UInt8) : Option (AX × Int) :=
 Option.bind (eG N a0) fun (LV : A7 × Int × Int × Int) =>
 Option.bind (
   bif (LV.2.2.2 != (0 : Int)) then
    some true
   else
    bif (LV.2.1 != (a0.length : Int)) then
     some true
    else
     Option.bind (TS CL LV.1.Kids) fun (x41 : List A7) =>
     some ((x41.length : Int) != (6 : Int))
  ) fun (g1 : Bool) =>
 bif g1 then
  some ((⟨(⟨0, 0, 0⟩ : AP), 0, (⟨0, 0, 0⟩ : AP), (⟨0, 0, 0⟩ : AP), [], false, []⟩ : AX), 14)
 else
  Option.bind (TS CL LV.1.Kids) fun (gL : List A7) =>
  (CE gL (0 : Int)).bind fun (Y7 : A7) =>
  Option.bind (P7 N Y7.Body) fun (OJ : Int × Bool) =>
  Option.bind (TS CL LV.1.Kids) fun (x75 : List A7) =>
  (CE x75 (1 : Int)).bind fun (Lh : A7) =>
  Option.bind (ND N Lh.Body) fun (x81 : AP × Int) =>
  bif (x81.2 != (0 : Int)) then
   some ((⟨(⟨0, 0, 0⟩ : AP), 0, (⟨0, 0, 0⟩ : AP), (⟨0, 0, 0⟩ : AP), [], false, []⟩ : AX), 14)
  else
   Option.bind (TS CL LV.1.Kids) fun (oV : List A7) =>
   (CE oV (2 : Int)).bind fun (X0 : A7) =>
   Option.bind (ND N X0.Body) fun (DR : AP × Int) =>
   bif (DR.2 != (0 : Int)) then
    some ((⟨(⟨0, 0, 0⟩ : AP), 0, (⟨0, 0, 0⟩ : AP), (⟨0, 0, 0⟩ : AP), [], false, []⟩ : AX), 14)
   else
    Option.bind (TS CL LV.1.Kids) fun (oQ : List A7) =>
    (CE oQ (3 : Int)).bind fun (WZ : A7) =>
    Option.bind (ND N WZ.Body) fun (EZ : AP × Int) =>
    bif (EZ.2 != (0 : Int)) then
     some ((⟨(⟨0, 0, 0⟩ : AP), 0, (⟨0, 0, 0⟩ : AP), (⟨0, 0, 0⟩ : AP), [], false, []⟩ : AX), 14)
    else
     Option.bind (NB N a0 LV OJ x81 DR EZ N ()) fun (y8 : Unit) =>
     Option.bind (TS CL LV.1.Kids) fun (x90 : List A7) =>
     (CE x90 (4 : Int)).bind fun (x91 : A7) =>
     Option.bind (TS CL x91.Kids) fun (x93 : List A7) =>
     Option.bind (JI N a0 LV x93 N (0, x81.1.Time, x81.1.Seq, x81.1.Rep, (mx OJ.1 (BM (0 - OJ.1))), DR.1.Time, DR.1.Seq, DR.1.Rep, EZ.1.Time, EZ.1.Seq, EZ.1.Rep, decide (OJ.1 < (0 : Int)), [])) fun (M7 : Int × Int × Int × Int × Int × Int × Int × Int × Int × Int × Bool × List AL) =>
     Option.bind (TS CL LV.1.Kids) fun (Ry : List A7) =>
     (CE Ry (5 : Int)).bind fun (Ae : A7) =>
     Option.bind (TS CL Ae.Kids) fun (M8 : List A7) =>
     Option.bind (I5 N a0 M8 N (0, M7.1, M7.2.1, M7.2.2.1, M7.2.2.2.1, M7.2.2.2.2.1, M7.2.2.2.2.2.1, M7.2.2.2.2.2.2.1, M7.2.2.2.2.2.2.2.1, M7.2.2.2.2.2.2.2.2.1, M7.2.2.2.2.2.2.2.2.2.1, M7.2.2.2.2.2.2.2.2.2.2.1, M7.2.2.2.2.2.2.2.2.2.2.2, [])) fun (BX : (Int × Int × Int × Int × Int × Int × Int × Int × Int × Int × Bool × List AL × List BD) ⊕ (AX × Int)) =>
     Sum.elim (fun (BX : Int × Int × Int × Int × Int × Int × Int × Int × Int × Int × Bool × List AL × List BD) =>
       Option.bind (JW N (⟨(⟨BX.1, BX.2.1, BX.2.2.1⟩ : AP), BX.2.2.2.1, (⟨BX.2.2.2.2.1, BX.2.2.2.2.2.1, BX.2.2.2.2.2.2.1⟩ : AP), (⟨BX.2.2.2.2.2.2.2.1, BX.2.2.2.2.2.2.2.2.1, BX.2.2.2.2.2.2.2.2.2.1⟩ : AP), BX.2.2.2.2.2.2.2.2.2.2.2.1, BX.2.2.2.2.2.2.2.2.2.2.1, BX.2.2.2.2.2.2.2.2.2.2.2.2⟩ : AX)) fun (Rt : List UInt8 × Int) =>
       Option.bind (
         bif (Rt.2 != (0 : Int)) then
          some true
         else
          some (!(Rt.1 == a0))
        ) fun (g16 : Bool) =>
       bif g16 then
        some ((⟨(⟨0, 0, 0⟩ : AP), 0, (⟨0, 0, 0⟩ : AP), (⟨0, 0, 0⟩ : AP), [], false, []⟩ : AX), 14)
       else
        some ((⟨(⟨BX.1, BX.2.1, BX.2.2.1⟩ : AP), BX.2.2.2.1, (⟨BX.2.2.2.2.1, BX.2.2.2.2.2.1, BX.2.2.2.2.2.2.1⟩ : AP), (⟨BX.2.2.2.2.2.2.2.1, BX.2.2.2.2.2.2.2.2.1, BX.2.2.2.2.2.2.2.2.2.1⟩ : AP), BX.2.2.2.2.2.2.2.2.2.2.2.1, BX.2.2.2.2.2.2.2.2.2.2.1, BX.2.2.2.2.2.2.2.2.2.2.2.2⟩ : AX), 0)
      ) (fun (BX : AX × Int) =>
       some (BX.1, BX.2)
      ) BX
def I9 (N : Nat) (a0 : List AL) (a1 : List AL) (rec : Int → Option (Unit ⊕ Bool)) : Int → Option (Unit ⊕ Bool)
 | v5l14 =>
  bif decide (v5l14 < (a0.length : Int)) then
   (CE a0 v5l14).bind fun (QG : AL) =>
   (CE a1 v5l14).bind fun (XY : AL) =>
   bif !(QG.Attr == XY.Attr && (QG.Value == XY.Value && true)) then
    some (Sum.inr false)
   else
    rec (BM (v5l14 + (1 : Int)))
  else
   some (Sum.inl ())
def F4 (N : Nat) (a0 : List AL) (a1 : List AL) : Nat → Int → Option (Unit ⊕ Bool)
 | 0, _ => none
 | n + 1, x => I9 N a0 a1 (F4 N a0 a1 n) x
def LU (N : Nat) (a0 : List AL) (a1 : List AL) : Option (Bool) :=
 bif ((a0.length : Int) != (a1.length : Int)) then
  some false
 else
  Option.bind (F4 N a0 a1 N 0) fun (y4 : Unit ⊕ Bool) =>
  Sum.elim (fun (y4 : Unit) =>
    some true
   ) (fun (y4 : Bool) =>
    some y4
   ) y4
def GL (N : Nat) (a0 : AX) (a1 : AX) (v5l14 : Int) (x69 : BD) (RH : BD) (rec : Int → Option (Unit ⊕ Bool)) : Int → Option (Unit ⊕ Bool)
 | v8l36 =>
  bif decide (v8l36 < (x69.Values.length : Int)) then
   (CE x69.Values v8l36).bind fun (x107 : List UInt8) =>
   (CE RH.Values v8l36).bind fun (x112 : List UInt8) =>
   bif (!(x107 == x112)) then
    some (Sum.inr false)
   else
    rec (BM (v8l36 + (1 : Int)))
  else
   some (Sum.inl ())
def DU (N : Nat) (a0 : AX) (a1 : AX) (v5l14 : Int) (x69 : BD) (RH : BD) : Nat → Int → Option (Unit ⊕ Bool)
 | 0, _ => none
 | n + 1, x => GL N a0 a1 v5l14 x69 RH (DU N a0 a1 v5l14 x69 RH n) x
def GM (N : Nat) (a0 : AX) (a1 : AX) (rec : Int → Option (Unit ⊕ Bool)) : Int → Option (Unit ⊕ Bool)
 | v5l14 =>
  bif decide (v5l14 < (a0.Mods.length : Int)) then
   (CE a0.Mods v5l14).bind fun (x69 : BD) =>
   (CE a1.Mods v5l14).bind fun (RH : BD) =>
   Option.bind (
     bif (x69.Kind != RH.Kind) then
      some true
     else
      bif (!(x69.Attr == RH.Attr)) then
       some true
      else
       some ((x69.Values.length : Int) != (RH.Values.length : Int))
    ) fun (g10 : Bool) =>
   bif g10 then
    some (Sum.inr false)
   else
    Option.bind (DU N a0 a1 v5l14 x69 RH N 0) fun (Qb : Unit ⊕ Bool) =>
    Sum.elim (fun (Qb : Unit) =>
      rec (BM (v5l14 + (1 : Int)))
     ) (fun (Qb : Bool) =>
      some (Sum.inr Qb)
     ) Qb
  else
   some (Sum.inl ())
def DV (N : Nat) (a0 : AX) (a1 : AX) : Nat → Int → Option (Unit ⊕ Bool)
 | 0, _ => none
 | n + 1, x => GM N a0 a1 (DV N a0 a1 n) x
def GX (N : Nat) (a0 : AX) (a1 : AX) : Option (Bool) :=
 Option.bind (
   bif !(a0.CSN.Time == a1.CSN.Time && (a0.CSN.Seq == a1.CSN.Seq && (a0.CSN.Rep == a1.CSN.Rep && true))) then
    some true
   else
    bif (a0.Kind != a1.Kind) then
     some true
    else
     bif !(a0.ID.Time == a1.ID.Time && (a0.ID.Seq == a1.ID.Seq && (a0.ID.Rep == a1.ID.Rep && true))) then
      some true
     else
      bif !(a0.Parent.Time == a1.Parent.Time && (a0.Parent.Seq == a1.Parent.Seq && (a0.Parent.Rep == a1.Parent.Rep && true))) then
       some true
      else
       bif !(a0.DelOld == a1.DelOld) then
        some true
       else
        Option.bind (LU N a0.RDN a1.RDN) fun (bY : Bool) =>
        bif !bY then
         some true
        else
         some ((a0.Mods.length : Int) != (a1.Mods.length : Int))
  ) fun (g1 : Bool) =>
 bif g1 then
  some false
 else
  Option.bind (DV N a0 a1 N 0) fun (qX : Unit ⊕ Bool) =>
  Sum.elim (fun (qX : Unit) =>
    some true
   ) (fun (qX : Bool) =>
    some qX
   ) qX
def VC (N : Nat) (LK : List BD) (rec : (Int × Int × Int × Int × Int × Int × Int × Int × Int × Int × Int × Bool × List AL × List BD) → Option (Int × Int × Int × Int × Int × Int × Int × Int × Int × Int × Bool × List AL × List BD)) : (Int × Int × Int × Int × Int × Int × Int × Int × Int × Int × Int × Bool × List AL × List BD) → Option (Int × Int × Int × Int × Int × Int × Int × Int × Int × Int × Bool × List AL × List BD)
 | (aT, O7, O6, O5, O4, O3, O1, O0, NZ, NY, NW, MG, QC, HZ) =>
  bif decide (aT < (LK.length : Int)) then
   (OV aT HZ.length).bind fun (QG : Nat) =>
   (HZ[QG]?).bind fun (x20 : BD) =>
   Option.bind (Z8 16 x20.Values) fun (LV : List (List UInt8)) =>
   (OV aT HZ.length).bind fun (x27 : Nat) =>
   (HZ[x27]?).bind fun (VX : BD) =>
   rec ((BM (aT + (1 : Int))), O7, O6, O5, O4, O3, O1, O0, NZ, NY, NW, MG, QC, (HZ.set x27 (⟨VX.Kind, VX.Attr, LV⟩ : BD)))
  else
   some (O7, O6, O5, O4, O3, O1, O0, NZ, NY, NW, MG, QC, HZ)
def PM (N : Nat) (LK : List BD) : Nat → (Int × Int × Int × Int × Int × Int × Int × Int × Int × Int × Int × Bool × List AL × List BD) → Option (Int × Int × Int × Int × Int × Int × Int × Int × Int × Int × Bool × List AL × List BD)
 | 0, _ => none
 | n + 1, x => VC N LK (PM N LK n) x
def iB (N : Nat) (a0 : AX) : Option (AX) :=
 Option.bind (Z8 32 a0.RDN) fun (x7 : List AL) =>
 Option.bind (Z8 48 a0.Mods) fun (LK : List BD) =>
 Option.bind (PM N LK N (0, a0.CSN.Time, a0.CSN.Seq, a0.CSN.Rep, a0.Kind, a0.ID.Time, a0.ID.Seq, a0.ID.Rep, a0.Parent.Time, a0.Parent.Seq, a0.Parent.Rep, a0.DelOld, x7, LK)) fun (y3 : Int × Int × Int × Int × Int × Int × Int × Int × Int × Int × Bool × List AL × List BD) =>
 some (⟨(⟨y3.1, y3.2.1, y3.2.2.1⟩ : AP), y3.2.2.2.1, (⟨y3.2.2.2.2.1, y3.2.2.2.2.2.1, y3.2.2.2.2.2.2.1⟩ : AP), (⟨y3.2.2.2.2.2.2.2.1, y3.2.2.2.2.2.2.2.2.1, y3.2.2.2.2.2.2.2.2.2.1⟩ : AP), y3.2.2.2.2.2.2.2.2.2.2.2.1, y3.2.2.2.2.2.2.2.2.2.2.1, y3.2.2.2.2.2.2.2.2.2.2.2.2⟩ : AX)
def KW (N : Nat) (a0 : List (List UInt8)) (a1 : List (List UInt8)) (rec : Int → Option (Unit ⊕ Bool)) : Int → Option (Unit ⊕ Bool)
 | v13l14 =>
  bif decide (v13l14 < (a0.length : Int)) then
   (CE a0 v13l14).bind fun (PN : List UInt8) =>
   (CE a1 v13l14).bind fun (WY : List UInt8) =>
   bif (!(PN == WY)) then
    some (Sum.inr false)
   else
    rec (BM (v13l14 + (1 : Int)))
  else
   some (Sum.inl ())
def G6 (N : Nat) (a0 : List (List UInt8)) (a1 : List (List UInt8)) : Nat → Int → Option (Unit ⊕ Bool)
 | 0, _ => none
 | n + 1, x => KW N a0 a1 (G6 N a0 a1 n) x
def NV (N : Nat) (a0 : List (List UInt8)) (a1 : List (List UInt8)) : Option (Bool) :=
 bif ((a0.length : Int) != (a1.length : Int)) then
  some false
 else
  Option.bind (G6 N a0 a1 N 0) fun (y4 : Unit ⊕ Bool) =>
  Sum.elim (fun (y4 : Unit) =>
    some true
   ) (fun (y4 : Bool) =>
    some y4
   ) y4
def aL (N : Nat) (a0 : BD) (a1 : BD) : Option (Bool) :=
 Option.bind (
   bif (a0.Kind == a1.Kind) then
    bif (a0.Attr == a1.Attr) then
     Option.bind (NV N a0.Values a1.Values) fun (WY : Bool) =>
     some WY
    else
     some false
   else
    some false
  ) fun (g1 : Bool) =>
 some g1
def DN (N : Nat) (a0 : List BD) (a1 : List BD) (rec : Int → Option (Unit ⊕ Bool)) : Int → Option (Unit ⊕ Bool)
 | v17l14 =>
  bif decide (v17l14 < (a0.length : Int)) then
   (CE a0 v17l14).bind fun (x20 : BD) =>
   (CE a1 v17l14).bind fun (x24 : BD) =>
   Option.bind (aL N x20 x24) fun (x29 : Bool) =>
   bif !x29 then
    some (Sum.inr false)
   else
    rec (BM (v17l14 + (1 : Int)))
  else
   some (Sum.inl ())
def BS (N : Nat) (a0 : List BD) (a1 : List BD) : Nat → Int → Option (Unit ⊕ Bool)
 | 0, _ => none
 | n + 1, x => DN N a0 a1 (BS N a0 a1 n) x
def EM (N : Nat) (a0 : List BD) (a1 : List BD) : Option (Bool) :=
 bif ((a0.length : Int) != (a1.length : Int)) then
  some false
 else
  Option.bind (BS N a0 a1 N 0) fun (y4 : Unit ⊕ Bool) =>
  Sum.elim (fun (y4 : Unit) =>
    some true
   ) (fun (y4 : Bool) =>
    some y4
   ) y4
def FC (N : Nat) (a0 : List AL) (a1 : List AL) (rec : Int → Option (Unit ⊕ Bool)) : Int → Option (Unit ⊕ Bool)
 | v13l14 =>
  bif decide (v13l14 < (a0.length : Int)) then
   (CE a0 v13l14).bind fun (PN : AL) =>
   (CE a1 v13l14).bind fun (WY : AL) =>
   bif !(PN.Attr == WY.Attr && (PN.Value == WY.Value && true)) then
    some (Sum.inr false)
   else
    rec (BM (v13l14 + (1 : Int)))
  else
   some (Sum.inl ())
def CW (N : Nat) (a0 : List AL) (a1 : List AL) : Nat → Int → Option (Unit ⊕ Bool)
 | 0, _ => none
 | n + 1, x => FC N a0 a1 (CW N a0 a1 n) x
def GR (N : Nat) (a0 : List AL) (a1 : List AL) : Option (Bool) :=
 bif ((a0.length : Int) != (a1.length : Int)) then
  some false
 else
  Option.bind (CW N a0 a1 N 0) fun (y4 : Unit ⊕ Bool) =>
  Sum.elim (fun (y4 : Unit) =>
    some true
   ) (fun (y4 : Bool) =>
    some y4
   ) y4
def iA (N : Nat) (a0 : AX) (a1 : AX) : Option (Bool) :=
 Option.bind (EM N a0.Mods a1.Mods) fun (SX : Bool) =>
 Option.bind (
   bif (a0.CSN.Time == a1.CSN.Time && (a0.CSN.Seq == a1.CSN.Seq && (a0.CSN.Rep == a1.CSN.Rep && true))) then
    bif (a0.Kind == a1.Kind) then
     bif (a0.ID.Time == a1.ID.Time && (a0.ID.Seq == a1.ID.Seq && (a0.ID.Rep == a1.ID.Rep && true))) then
      bif (a0.Parent.Time == a1.Parent.Time && (a0.Parent.Seq == a1.Parent.Seq && (a0.Parent.Rep == a1.Parent.Rep && true))) then
       Option.bind (GR N a0.RDN a1.RDN) fun (Li : Bool) =>
       bif Li then
        bif (a0.DelOld == a1.DelOld) then
         some SX
        else
         some false
       else
        some false
      else
       some false
     else
      some false
    else
     some false
   else
    some false
  ) fun (g1 : Bool) =>
 some g1
def PS (N : Nat)  : Option (Bool) :=
 Option.bind (JW N (⟨(⟨2, 0, 0⟩ : AP), 2, (⟨1, 0, 0⟩ : AP), (⟨0, 0, 0⟩ : AP), [], false, []⟩ : AX)) fun (NK : List UInt8 × Int) =>
 Option.bind (OC N NK.1) fun (x20 : AX × Int) =>
 Option.bind (JW N (⟨(⟨0, 0, 0⟩ : AP), 0, (⟨0, 0, 0⟩ : AP), (⟨0, 0, 0⟩ : AP), [], false, []⟩ : AX)) fun (x25 : List UInt8 × Int) =>
 Option.bind (OC N ([] : List UInt8)) fun (x29 : AX × Int) =>
 Option.bind (
   bif (NK.2 == (0 : Int)) then
    bif (x20.2 == (0 : Int)) then
     Option.bind (GX N (⟨(⟨2, 0, 0⟩ : AP), 2, (⟨1, 0, 0⟩ : AP), (⟨0, 0, 0⟩ : AP), [], false, []⟩ : AX) x20.1) fun (x41 : Bool) =>
     bif x41 then
      bif (x25.2 == (14 : Int)) then
       bif (x29.2 == (14 : Int)) then
        Option.bind (TW N (⟨(⟨2, 0, 0⟩ : AP), 2, (⟨1, 0, 0⟩ : AP), (⟨0, 0, 0⟩ : AP), [], false, []⟩ : AX)) fun (x53 : Bool) =>
        bif x53 then
         Option.bind (TW N (⟨(⟨0, 0, 0⟩ : AP), 0, (⟨0, 0, 0⟩ : AP), (⟨0, 0, 0⟩ : AP), [], false, []⟩ : AX)) fun (x57 : Bool) =>
         bif !x57 then
          Option.bind (iB N (⟨(⟨2, 0, 0⟩ : AP), 2, (⟨1, 0, 0⟩ : AP), (⟨0, 0, 0⟩ : AP), [], false, []⟩ : AX)) fun (x63 : AX) =>
          Option.bind (iA N (⟨(⟨2, 0, 0⟩ : AP), 2, (⟨1, 0, 0⟩ : AP), (⟨0, 0, 0⟩ : AP), [], false, []⟩ : AX) x63) fun (x64 : Bool) =>
          some x64
         else
          some false
        else
         some false
       else
        some false
      else
       some false
     else
      some false
    else
     some false
   else
    some false
  ) fun (g1 : Bool) =>
 some g1
def HY (N : Nat) (a0 : List BD) (v3l6 : Int) (rec : Int → Option (Unit ⊕ Bool)) : Int → Option (Unit ⊕ Bool)
 | v4l26 =>
  (CE a0 v3l6).bind fun (x30 : BD) =>
  bif decide (v4l26 < (x30.Values.length : Int)) then
   (CE a0 v3l6).bind fun (x39 : BD) =>
   (CE x39.Values v4l26).bind fun (x43 : List UInt8) =>
   bif decide ((x43.length : Int) > (80 : Int)) then
    some (Sum.inr false)
   else
    rec (BM (v4l26 + (1 : Int)))
  else
   some (Sum.inl ())
def ES (N : Nat) (a0 : List BD) (v3l6 : Int) : Nat → Int → Option (Unit ⊕ Bool)
 | 0, _ => none
 | n + 1, x => HY N a0 v3l6 (ES N a0 v3l6 n) x
def IA (N : Nat) (a0 : List BD) (rec : Int → Option (Unit ⊕ Bool)) : Int → Option (Unit ⊕ Bool)
 | v3l6 =>
  bif decide (v3l6 < (a0.length : Int)) then
   Option.bind (
     (CE a0 v3l6).bind fun (MX : BD) =>
     bif decide ((MX.Attr.length : Int) > (30 : Int)) then
      some true
     else
      (CE a0 v3l6).bind fun (VF : BD) =>
      some (decide ((VF.Values.length : Int) > (20 : Int)))
    ) fun (g2 : Bool) =>
   bif g2 then
    some (Sum.inr false)
   else
    Option.bind (ES N a0 v3l6 N 0) fun (y7 : Unit ⊕ Bool) =>
    Sum.elim (fun (y7 : Unit) =>
      rec (BM (v3l6 + (1 : Int)))
     ) (fun (y7 : Bool) =>
      some (Sum.inr y7)
     ) y7
  else
   some (Sum.inl ())
def F5 (N : Nat) (a0 : List BD) : Nat → Int → Option (Unit ⊕ Bool)
 | 0, _ => none
 | n + 1, x => IA N a0 (F5 N a0 n) x
def O9 (N : Nat) (a0 : List BD) : Option (Bool) :=
 Option.bind (F5 N a0 N 0) fun (y8 : Unit ⊕ Bool) =>
 Sum.elim (fun (y8 : Unit) =>
   some (decide ((a0.length : Int) ≤ (14 : Int)))
  ) (fun (y8 : Bool) =>
   some y8
  ) y8
def IR (N : Nat) (a0 : List AL) (rec : Int → Option (Unit ⊕ Bool)) : Int → Option (Unit ⊕ Bool)
 | v3l6 =>
  bif decide (v3l6 < (a0.length : Int)) then
   Option.bind (
     (CE a0 v3l6).bind fun (IP : AL) =>
     bif decide ((IP.Attr.length : Int) > (30 : Int)) then
      some true
     else
      (CE a0 v3l6).bind fun (x20 : AL) =>
      some (decide ((x20.Value.length : Int) > (80 : Int)))
    ) fun (g2 : Bool) =>
   bif g2 then
    some (Sum.inr false)
   else
    rec (BM (v3l6 + (1 : Int)))
  else
   some (Sum.inl ())
def FE (N : Nat) (a0 : List AL) : Nat → Int → Option (Unit ⊕ Bool)
 | 0, _ => none
 | n + 1, x => IR N a0 (FE N a0 n) x
def P5 (N : Nat) (a0 : List AL) : Option (Bool) :=
 Option.bind (FE N a0 N 0) fun (y5 : Unit ⊕ Bool) =>
 Sum.elim (fun (y5 : Unit) =>
   some (decide ((a0.length : Int) ≤ (6 : Int)))
  ) (fun (y5 : Bool) =>
   some y5
  ) y5
def M4 (N : Nat) (a0 : AX) : Option (Bool) :=
 Option.bind (
   Option.bind (O9 N a0.Mods) fun (x5 : Bool) =>
   bif x5 then
    Option.bind (P5 N a0.RDN) fun (x9 : Bool) =>
    some x9
   else
    some false
  ) fun (g1 : Bool) =>
 some g1
def N7 (N : Nat) (a0 : AP) : Option (Bool) :=
 Option.bind (
   bif decide (a0.Time ≥ (0 : Int)) then
    bif decide (a0.Time ≤ (1099511627776 : Int)) then
     bif decide (a0.Seq ≥ (0 : Int)) then
      bif decide (a0.Seq ≤ (65535 : Int)) then
       bif decide (a0.Rep ≥ (0 : Int)) then
        some (decide (a0.Rep < (6 : Int)))
       else
        some false
      else
       some false
     else
      some false
    else
     some false
   else
    some false
  ) fun (g1 : Bool) =>
 some g1
def HV (N : Nat) (a0 : AP) : Option (Bool) :=
 some (a0.Time == (0 : Int) && (a0.Seq == (0 : Int) && (a0.Rep == (0 : Int) && true)))
def M3 (N : Nat) (a0 : AP) (a1 : AP) : Option (Int) :=
 Option.bind (
   bif decide (a0.Time < a1.Time) then
    some true
   else
    bif (a0.Time == a1.Time) then
     bif decide (a0.Seq < a1.Seq) then
      some true
     else
      bif (a0.Seq == a1.Seq) then
       some (decide (a0.Rep < a1.Rep))
      else
       some false
    else
     some false
  ) fun (g1 : Bool) =>
 bif g1 then
  some (-1)
 else
  bif (a0.Time == a1.Time && (a0.Seq == a1.Seq && (a0.Rep == a1.Rep && true))) then
   some 0
  else
   some 1
def IQ (N : Nat) (a0 : List UInt8) (rec : Int → Option (Unit ⊕ Bool)) : Int → Option (Unit ⊕ Bool)
 | v3l14 =>
  bif decide (v3l14 < (a0.length : Int)) then
   (CE a0 v3l14).bind fun (x31 : UInt8) =>
   Option.bind (
     bif decide (((x31).toNat : Int) < (97 : Int)) then
      bif decide (((x31).toNat : Int) < (48 : Int)) then
       some (((x31).toNat : Int) != (45 : Int))
      else
       bif decide (((x31).toNat : Int) > (57 : Int)) then
        some (((x31).toNat : Int) != (45 : Int))
       else
        some false
     else
      bif decide (((x31).toNat : Int) > (122 : Int)) then
       bif decide (((x31).toNat : Int) < (48 : Int)) then
        some (((x31).toNat : Int) != (45 : Int))
       else
        bif decide (((x31).toNat : Int) > (57 : Int)) then
         some (((x31).toNat : Int) != (45 : Int))
        else
         some false
      else
       some false
    ) fun (g7 : Bool) =>
   bif g7 then
    some (Sum.inr false)
   else
    rec (BM (v3l14 + (1 : Int)))
  else
   some (Sum.inl ())
def FD (N : Nat) (a0 : List UInt8) : Nat → Int → Option (Unit ⊕ Bool)
 | 0, _ => none
 | n + 1, x => IQ N a0 (FD N a0 n) x
def ML (N : Nat) (a0 : List UInt8) : Option (Bool) :=
 Option.bind (
   bif decide ((a0.length : Int) < (1 : Int)) then
    some true
   else
    bif decide ((a0.length : Int) > (16 : Int)) then
     some true
    else
     (CE a0 (0 : Int)).bind fun (NK : UInt8) =>
     bif decide (((NK).toNat : Int) < (97 : Int)) then
      some true
     else
      (CE a0 (0 : Int)).bind fun (x20 : UInt8) =>
      some (decide (((x20).toNat : Int) > (122 : Int)))
  ) fun (g1 : Bool) =>
 bif g1 then
  some false
 else
  Option.bind (FD N a0 N 0) fun (BX : Unit ⊕ Bool) =>
  Sum.elim (fun (BX : Unit) =>
    some true
   ) (fun (BX : Bool) =>
    some BX
   ) BX
def J7 (N : Nat) (a0 : List AL) (v3l14 : Int) (rec : Int → Option (Unit ⊕ Bool)) : Int → Option (Unit ⊕ Bool)
 | v4l34 =>
  bif decide (v4l34 < v3l14) then
   (CE a0 v4l34).bind fun (Lv : AL) =>
   (CE a0 v3l14).bind fun (Lu : AL) =>
   bif (Lv.Attr == Lu.Attr) then
    some (Sum.inr false)
   else
    rec (BM (v4l34 + (1 : Int)))
  else
   some (Sum.inl ())
def FO (N : Nat) (a0 : List AL) (v3l14 : Int) : Nat → Int → Option (Unit ⊕ Bool)
 | 0, _ => none
 | n + 1, x => J7 N a0 v3l14 (FO N a0 v3l14 n) x
def J8 (N : Nat) (a0 : List AL) (rec : Int → Option (Unit ⊕ Bool)) : Int → Option (Unit ⊕ Bool)
 | v3l14 =>
  bif decide (v3l14 < (a0.length : Int)) then
   Option.bind (
     (CE a0 v3l14).bind fun (VF : AL) =>
     Option.bind (ML N VF.Attr) fun (x24 : Bool) =>
     bif !x24 then
      some true
     else
      (CE a0 v3l14).bind fun (x29 : AL) =>
      bif decide ((x29.Value.length : Int) < (1 : Int)) then
       some true
      else
       (CE a0 v3l14).bind fun (x38 : AL) =>
       some (decide ((x38.Value.length : Int) > (60 : Int)))
    ) fun (g5 : Bool) =>
   bif g5 then
    some (Sum.inr false)
   else
    Option.bind (FO N a0 v3l14 N 0) fun (Dj : Unit ⊕ Bool) =>
    Sum.elim (fun (Dj : Unit) =>
      rec (BM (v3l14 + (1 : Int)))
     ) (fun (Dj : Bool) =>
      some (Sum.inr Dj)
     ) Dj
  else
   some (Sum.inl ())
def FP (N : Nat) (a0 : List AL) : Nat → Int → Option (Unit ⊕ Bool)
 | 0, _ => none
 | n + 1, x => J8 N a0 (FP N a0 n) x
def J9 (N : Nat) (a0 : List AL) : Option (Bool) :=
 Option.bind (
   bif decide ((a0.length : Int) < (1 : Int)) then
    some true
   else
    some (decide ((a0.length : Int) > (4 : Int)))
  ) fun (g1 : Bool) =>
 bif g1 then
  some false
 else
  Option.bind (FP N a0 N 0) fun (qY : Unit ⊕ Bool) =>
  Sum.elim (fun (qY : Unit) =>
    some true
   ) (fun (qY : Bool) =>
    some qY
   ) qY
def TB (N : Nat)  : Option (List BB) :=
 some [(⟨([97, 99, 105] : List UInt8), 2, false⟩ : BB), (⟨([99] : List UInt8), 1, true⟩ : BB), (⟨([99, 110] : List UInt8), 1, false⟩ : BB), (⟨([100, 99] : List UInt8), 1, false⟩ : BB), (⟨([100, 101, 115, 99, 114, 105, 112, 116, 105, 111, 110] : List UInt8), 1, false⟩ : BB), (⟨([101, 110, 116, 114, 121, 105, 100] : List UInt8), 2, true⟩ : BB), (⟨([109, 97, 105, 108] : List UInt8), 2, false⟩ : BB), (⟨([109, 101, 109, 98, 101, 114] : List UInt8), 5, false⟩ : BB), (⟨([111] : List UInt8), 1, false⟩ : BB), (⟨([111, 117] : List UInt8), 1, false⟩ : BB), (⟨([115, 110] : List UInt8), 1, false⟩ : BB), (⟨([116, 105, 116, 108, 101] : List UInt8), 1, true⟩ : BB), (⟨([117, 105, 100] : List UInt8), 1, false⟩ : BB), (⟨([117, 105, 100, 110, 117, 109, 98, 101, 114] : List UInt8), 3, true⟩ : BB), (⟨([117, 115, 101, 114, 112, 97, 115, 115, 119, 111, 114, 100] : List UInt8), 4, false⟩ : BB)]
def KE (aS : Int) (rec : (Int × List UInt8) → Option (List UInt8)) (bC : List UInt8) : Option (List UInt8) :=
 rec ((BM (aS + (1 : Int))), bC)
def JR (N : Nat) (rec : (Int × List UInt8) → Option (List UInt8)) : (Int × List UInt8) → Option (List UInt8)
 | (aS, FL) =>
  bif decide (aS < (FL.length : Int)) then
   Option.bind (
     (OV aS FL.length).bind fun (NK : Nat) =>
     (FL[NK]?).bind fun (YH : UInt8) =>
     bif decide (((YH).toNat : Int) ≥ (65 : Int)) then
      (OV aS FL.length).bind fun (VF : Nat) =>
      (FL[VF]?).bind fun (WY : UInt8) =>
      some (decide (((WY).toNat : Int) ≤ (90 : Int)))
     else
      some false
    ) fun (g2 : Bool) =>
   bif g2 then
    (OV aS FL.length).bind fun (x29 : Nat) =>
    (FL[x29]?).bind fun (x30 : UInt8) =>
    (OV aS FL.length).bind fun (x32 : Nat) =>
    (FL[x32]?).bind fun (qZ : UInt8) =>
    KE aS rec (FL.set x32 (x30 + (32 : UInt8)))
   else
    KE aS rec FL
  else
   some FL
def FB (N : Nat) : Nat → (Int × List UInt8) → Option (List UInt8)
 | 0, _ => none
 | n + 1, x => JR N (FB N n) x
def KY (N : Nat) (a0 : List UInt8) : Option (List UInt8) :=
 Option.bind (FB N N (0, a0)) fun (y6 : List UInt8) =>
 some y6
def KF (N : Nat) (a0 : List UInt8) (x6 : List BB) (rec : Int → Option (Unit ⊕ (BB × Bool))) : Int → Option (Unit ⊕ (BB × Bool))
 | v5l8 =>
  bif decide (v5l8 < (x6.length : Int)) then
   (CE x6 v5l8).bind fun (NK : BB) =>
   Option.bind (KY N a0) fun (QG : List UInt8) =>
   bif (NK.Name == QG) then
    (CE x6 v5l8).bind fun (XY : BB) =>
    some (Sum.inr (XY, true))
   else
    rec (BM (v5l8 + (1 : Int)))
  else
   some (Sum.inl ())
def GJ (N : Nat) (a0 : List UInt8) (x6 : List BB) : Nat → Int → Option (Unit ⊕ (BB × Bool))
 | 0, _ => none
 | n + 1, x => KF N a0 x6 (GJ N a0 x6 n) x
def M0 (N : Nat) (a0 : List UInt8) : Option (BB × Bool) :=
 Option.bind (TB N) fun (x6 : List BB) =>
 Option.bind (GJ N a0 x6 N 0) fun (y3 : Unit ⊕ (BB × Bool)) =>
 Sum.elim (fun (y3 : Unit) =>
   some ((⟨([] : List UInt8), 0, false⟩ : BB), false)
  ) (fun (y3 : BB × Bool) =>
   some (y3.1, y3.2)
  ) y3
def JA (N : Nat) (VK : List UInt8) (rec : Int → Option (Unit ⊕ Bool)) : Int → Option (Unit ⊕ Bool)
 | v4l30 =>
  bif decide (v4l30 < (VK.length : Int)) then
   Option.bind (
     (CE VK v4l30).bind fun (x44 : UInt8) =>
     bif decide (((x44).toNat : Int) < (48 : Int)) then
      some true
     else
      (CE VK v4l30).bind fun (Y7 : UInt8) =>
      some (decide (((Y7).toNat : Int) > (57 : Int)))
    ) fun (g7 : Bool) =>
   bif g7 then
    some (Sum.inr false)
   else
    rec (BM (v4l30 + (1 : Int)))
  else
   some (Sum.inl ())
def FQ (N : Nat) (VK : List UInt8) : Nat → Int → Option (Unit ⊕ Bool)
 | 0, _ => none
 | n + 1, x => JA N VK (FQ N VK n) x
def IY (N : Nat) (VK : List UInt8) : Option (Bool) :=
 Option.bind (
   bif decide ((VK.length : Int) < (1 : Int)) then
    some true
   else
    bif decide ((VK.length : Int) > (15 : Int)) then
     some true
    else
     bif decide ((VK.length : Int) > (1 : Int)) then
      (CE VK (0 : Int)).bind fun (x32 : UInt8) =>
      some (((x32).toNat : Int) == (48 : Int))
     else
      some false
  ) fun (g1 : Bool) =>
 bif g1 then
  some false
 else
  Option.bind (FQ N VK N 0) fun (M7 : Unit ⊕ Bool) =>
  Sum.elim (fun (M7 : Unit) =>
    some true
   ) (fun (M7 : Bool) =>
    some M7
   ) M7
def NQ (N : Nat) (a0 : List UInt8) : Option (Bool) :=
 Option.bind (
   bif decide ((a0.length : Int) > (0 : Int)) then
    (CE a0 (0 : Int)).bind fun (LK : UInt8) =>
    some (((LK).toNat : Int) == (45 : Int))
   else
    some false
  ) fun (g11 : Bool) =>
 bif g11 then
  (UH a0 (1 : Int)).bind fun (NK : List UInt8) =>
  bif (NK == ([48] : List UInt8)) then
   some false
  else
   IY N NK
 else
  IY N a0
def JL (rec : (Int × Int × List (List UInt8)) → Option (Int × List (List UInt8))) (jH : Int) (dD : Int) (bB : List (List UInt8)) : Option (Int × List (List UInt8)) :=
 rec (jH, (BM (dD + (1 : Int))), bB)
def NI (N : Nat) (a0 : List UInt8) (a1 : UInt8) (rec : (Int × Int × List (List UInt8)) → Option (Int × List (List UInt8))) : (Int × Int × List (List UInt8)) → Option (Int × List (List UInt8))
 | (GD, KM, MI) =>
  bif decide (KM < (a0.length : Int)) then
   (CE a0 KM).bind fun (YH : UInt8) =>
   bif (((YH).toNat : Int) == (92 : Int)) then
    JL rec GD (BM (KM + (1 : Int))) MI
   else
    (CE a0 KM).bind fun (WY : UInt8) =>
    bif (((WY).toNat : Int) == ((a1).toNat : Int)) then
     (lS a0 GD KM).bind fun (x29 : List UInt8) =>
     (RD 16 MI [x29]).bind fun (x31 : List (List UInt8)) =>
     JL rec (BM (KM + (1 : Int))) KM x31
    else
     JL rec GD KM MI
  else
   some (GD, MI)
def GI (N : Nat) (a0 : List UInt8) (a1 : UInt8) : Nat → (Int × Int × List (List UInt8)) → Option (Int × List (List UInt8))
 | 0, _ => none
 | n + 1, x => NI N a0 a1 (GI N a0 a1 n) x
def KS (N : Nat) (a0 : List UInt8) (a1 : UInt8) : Option (List (List UInt8)) :=
 Option.bind (GI N a0 a1 N (0, 0, [])) fun (y4 : Int × List (List UInt8)) =>
 (UH a0 y4.1).bind fun (x37 : List UInt8) =>
 (RD 16 y4.2 [x37]).bind fun (x39 : List (List UInt8)) =>
 some x39
def I1 (N : Nat) (a0 : UInt8) : Option (Bool) :=
 Option.bind (
   bif (((a0).toNat : Int) == (44 : Int)) then
    some true
   else
    bif (((a0).toNat : Int) == (43 : Int)) then
     some true
    else
     bif (((a0).toNat : Int) == (34 : Int)) then
      some true
     else
      bif (((a0).toNat : Int) == (92 : Int)) then
       some true
      else
       bif (((a0).toNat : Int) == (60 : Int)) then
        some true
       else
        bif (((a0).toNat : Int) == (62 : Int)) then
         some true
        else
         some (((a0).toNat : Int) == (59 : Int))
  ) fun (g1 : Bool) =>
 some g1
def GK (N : Nat) (a0 : UInt8) : Option (Int) :=
 Option.bind (
   bif decide (((a0).toNat : Int) ≥ (48 : Int)) then
    some (decide (((a0).toNat : Int) ≤ (57 : Int)))
   else
    some false
  ) fun (g1 : Bool) =>
 bif g1 then
  some (((a0 - (48 : UInt8))).toNat : Int)
 else
  Option.bind (
    bif decide (((a0).toNat : Int) ≥ (97 : Int)) then
     some (decide (((a0).toNat : Int) ≤ (102 : Int)))
    else
     some false
   ) fun (g4 : Bool) =>
  bif g4 then
   some (BM ((((a0 - (97 : UInt8))).toNat : Int) + (10 : Int)))
  else
   Option.bind (
     bif decide (((a0).toNat : Int) ≥ (65 : Int)) then
      some (decide (((a0).toNat : Int) ≤ (70 : Int)))
     else
      some false
    ) fun (g7 : Bool) =>
   bif g7 then
    some (BM ((((a0 - (65 : UInt8))).toNat : Int) + (10 : Int)))
   else
    some (-1)
def IE (rec : (Int × List UInt8) → Option ((List UInt8) ⊕ (List UInt8 × Bool))) (xO : Int) (aZ : List UInt8) : Option ((List UInt8) ⊕ (List UInt8 × Bool)) :=
 rec ((BM (xO + (1 : Int))), aZ)
def H7 (N : Nat) (a0 : List UInt8) (rec : (Int × List UInt8) → Option ((List UInt8) ⊕ (List UInt8 × Bool))) : (Int × List UInt8) → Option ((List UInt8) ⊕ (List UInt8 × Bool))
 | (v5l8, JY) =>
  bif decide (v5l8 < (a0.length : Int)) then
   (CE a0 v5l8).bind fun (NK : UInt8) =>
   bif (((NK).toNat : Int) != (92 : Int)) then
    Option.bind (
      Option.bind (I1 N NK) fun (QG : Bool) =>
      bif QG then
       some true
      else
       bif (v5l8 == (0 : Int)) then
        bif (((NK).toNat : Int) == (35 : Int)) then
         some true
        else
         bif (((NK).toNat : Int) == (32 : Int)) then
          some true
         else
          bif (v5l8 == (BM ((a0.length : Int) - (1 : Int)))) then
           some (((NK).toNat : Int) == (32 : Int))
          else
           some false
       else
        bif (v5l8 == (BM ((a0.length : Int) - (1 : Int)))) then
         some (((NK).toNat : Int) == (32 : Int))
        else
         some false
     ) fun (g3 : Bool) =>
    bif g3 then
     some (Sum.inr (([] : List UInt8), false))
    else
     (RD 1 JY [NK]).bind fun (uN : List UInt8) =>
     IE rec v5l8 uN
   else
    Option.bind (
      bif decide ((BM (v5l8 + (1 : Int))) < (a0.length : Int)) then
       (CE a0 (BM (v5l8 + (1 : Int)))).bind fun (x57 : UInt8) =>
       Option.bind (I1 N x57) fun (Ad : Bool) =>
       bif Ad then
        some true
       else
        (CE a0 (BM (v5l8 + (1 : Int)))).bind fun (x63 : UInt8) =>
        bif (((x63).toNat : Int) == (35 : Int)) then
         some true
        else
         (CE a0 (BM (v5l8 + (1 : Int)))).bind fun (x70 : UInt8) =>
         bif (((x70).toNat : Int) == (61 : Int)) then
          some true
         else
          (CE a0 (BM (v5l8 + (1 : Int)))).bind fun (x77 : UInt8) =>
          some (((x77).toNat : Int) == (32 : Int))
      else
       some false
     ) fun (g11 : Bool) =>
    bif g11 then
     (CE a0 (BM (v5l8 + (1 : Int)))).bind fun (x85 : UInt8) =>
     (RD 1 JY [x85]).bind fun (x87 : List UInt8) =>
     IE rec (BM (v5l8 + (1 : Int))) x87
    else
     Option.bind (
       bif decide ((BM (v5l8 + (2 : Int))) < (a0.length : Int)) then
        (CE a0 (BM (v5l8 + (1 : Int)))).bind fun (x100 : UInt8) =>
        Option.bind (GK N x100) fun (x101 : Int) =>
        bif decide (x101 ≥ (0 : Int)) then
         (CE a0 (BM (v5l8 + (2 : Int)))).bind fun (x108 : UInt8) =>
         Option.bind (GK N x108) fun (x109 : Int) =>
         some (decide (x109 ≥ (0 : Int)))
        else
         some false
       else
        some false
      ) fun (g17 : Bool) =>
     bif g17 then
      (CE a0 (BM (v5l8 + (1 : Int)))).bind fun (mM : UInt8) =>
      Option.bind (GK N mM) fun (Dq : Int) =>
      (CE a0 (BM (v5l8 + (2 : Int)))).bind fun (M8 : UInt8) =>
      Option.bind (GK N M8) fun (Mc : Int) =>
      (RD 1 JY [(byte (BM ((BM ((16 : Int) * Dq)) + Mc)))]).bind fun (Rx : List UInt8) =>
      IE rec (BM (v5l8 + (2 : Int))) Rx
     else
      some (Sum.inr (([] : List UInt8), false))
  else
   some (Sum.inl JY)
def F9 (N : Nat) (a0 : List UInt8) : Nat → (Int × List UInt8) → Option ((List UInt8) ⊕ (List UInt8 × Bool))
 | 0, _ => none
 | n + 1, x => H7 N a0 (F9 N a0 n) x
def NN (N : Nat) (a0 : List UInt8) : Option (List UInt8 × Bool) :=
 Option.bind (F9 N a0 N (0, [])) fun (y21 : (List UInt8) ⊕ (List UInt8 × Bool)) =>
 Sum.elim (fun (y21 : List UInt8) =>
   some (y21, true)
  ) (fun (y21 : List UInt8 × Bool) =>
   some (y21.1, y21.2)
  ) y21
def H8 (N : Nat) (LK : List (List UInt8)) (GD : Int) (DJ : List AL) (rec : Int → Option (Int)) : Int → Option (Int)
 | v7l23 =>
  Option.bind (
    (CE LK GD).bind fun (VF : List UInt8) =>
    bif decide (v7l23 < (VF.length : Int)) then
     (CE LK GD).bind fun (x28 : List UInt8) =>
     (CE x28 v7l23).bind fun (x31 : UInt8) =>
     some (((x31).toNat : Int) != (61 : Int))
    else
     some false
   ) fun (g2 : Bool) =>
  bif g2 then
   rec (BM (v7l23 + (1 : Int)))
  else
   some v7l23
def EQ (N : Nat) (LK : List (List UInt8)) (GD : Int) (DJ : List AL) : Nat → Int → Option (Int)
 | 0, _ => none
 | n + 1, x => H8 N LK GD DJ (EQ N LK GD DJ n) x
def H9 (N : Nat) (LK : List (List UInt8)) (rec : (Int × List AL) → Option ((List AL) ⊕ (List AL × Bool))) : (Int × List AL) → Option ((List AL) ⊕ (List AL × Bool))
 | (GD, DJ) =>
  bif decide (GD < (LK.length : Int)) then
   Option.bind (EQ N LK GD DJ N 0) fun (y5 : Int) =>
   Option.bind (
     (CE LK GD).bind fun (x39 : List UInt8) =>
     bif (y5 == (x39.length : Int)) then
      some true
     else
      (CE LK GD).bind fun (uN : List UInt8) =>
      Option.bind (KS N uN (44 : UInt8)) fun (gL : List (List UInt8)) =>
      some (decide ((gL.length : Int) > (1 : Int)))
    ) fun (g6 : Bool) =>
   bif g6 then
    some (Sum.inr ([], false))
   else
    (CE LK GD).bind fun (x55 : List UInt8) =>
    (UH x55 (BM (y5 + (1 : Int)))).bind fun (Lt : List UInt8) =>
    Option.bind (NN N Lt) fun (x60 : List UInt8 × Bool) =>
    bif !x60.2 then
     some (Sum.inr ([], false))
    else
     (CE LK GD).bind fun (jC : List UInt8) =>
     (U3 jC y5).bind fun (x71 : List UInt8) =>
     Option.bind (KY N x71) fun (x72 : List UInt8) =>
     (RD 32 DJ [(⟨x72, x60.1⟩ : AL)]).bind fun (x76 : List AL) =>
     rec ((BM (GD + (1 : Int))), x76)
  else
   some (Sum.inl DJ)
def ER (N : Nat) (LK : List (List UInt8)) : Nat → (Int × List AL) → Option ((List AL) ⊕ (List AL × Bool))
 | 0, _ => none
 | n + 1, x => H9 N LK (ER N LK n) x
def KX (N : Nat) (a0 : List UInt8) : Option (List AL × Bool) :=
 Option.bind (KS N a0 (43 : UInt8)) fun (LK : List (List UInt8)) =>
 Option.bind (ER N LK N (0, [])) fun (M7 : (List AL) ⊕ (List AL × Bool)) =>
 Sum.elim (fun (M7 : List AL) =>
   Option.bind (J9 N M7) fun (Lh : Bool) =>
   bif !Lh then
    some ([], false)
   else
    some (M7, true)
  ) (fun (M7 : List AL × Bool) =>
   some (M7.1, M7.2)
  ) M7
def KZ (N : Nat) (a0 : List (List AL)) (rec : Int → Option (Unit ⊕ Bool)) : Int → Option (Unit ⊕ Bool)
 | v3l14 =>
  bif decide (v3l14 < (a0.length : Int)) then
   (CE a0 v3l14).bind fun (NK : List AL) =>
   Option.bind (J9 N NK) fun (E9 : Bool) =>
   bif !E9 then
    some (Sum.inr false)
   else
    rec (BM (v3l14 + (1 : Int)))
  else
   some (Sum.inl ())
def GU (N : Nat) (a0 : List (List AL)) : Nat → Int → Option (Unit ⊕ Bool)
 | 0, _ => none
 | n + 1, x => KZ N a0 (GU N a0 n) x
def QV (N : Nat) (a0 : List (List AL)) : Option (Bool) :=
 bif decide ((a0.length : Int) > (8 : Int)) then
  some false
 else
  Option.bind (GU N a0 N 0) fun (y4 : Unit ⊕ Bool) =>
  Sum.elim (fun (y4 : Unit) =>
    some true
   ) (fun (y4 : Bool) =>
    some y4
   ) y4
def J6 (N : Nat) (IP : List (List UInt8)) (rec : (Int × List (List AL)) → Option ((List (List AL)) ⊕ (List (List AL) × Bool))) : (Int × List (List AL)) → Option ((List (List AL)) ⊕ (List (List AL) × Bool))
 | (M9, UC) =>
  bif decide (M9 < (IP.length : Int)) then
   (CE IP M9).bind fun (WY : List UInt8) =>
   Option.bind (KX N WY) fun (x24 : List AL × Bool) =>
   bif !x24.2 then
    some (Sum.inr ([], false))
   else
    (RD 24 UC [x24.1]).bind fun (x32 : List (List AL)) =>
    rec ((BM (M9 + (1 : Int))), x32)
  else
   some (Sum.inl UC)
def FN (N : Nat) (IP : List (List UInt8)) : Nat → (Int × List (List AL)) → Option ((List (List AL)) ⊕ (List (List AL) × Bool))
 | 0, _ => none
 | n + 1, x => J6 N IP (FN N IP n) x
def NP (N : Nat) (a0 : List UInt8) : Option (List (List AL) × Bool) :=
 bif (a0 == ([] : List UInt8)) then
  some ([], true)
 else
  Option.bind (KS N a0 (44 : UInt8)) fun (IP : List (List UInt8)) =>
  Option.bind (FN N IP N (0, [])) fun (y4 : (List (List AL)) ⊕ (List (List AL) × Bool)) =>
  Sum.elim (fun (y4 : List (List AL)) =>
    Option.bind (QV N y4) fun (x34 : Bool) =>
    bif !x34 then
     some ([], false)
    else
     some (y4, true)
   ) (fun (y4 : List (List AL) × Bool) =>
    some (y4.1, y4.2)
   ) y4
def JB (N : Nat) (a1 : List UInt8) (IP : BB × Bool) (rec : (Bool × Bool × Int) → Option (Bool × Bool)) : (Bool × Bool × Int) → Option (Bool × Bool)
 | (xM, rC, XZ) =>
  bif decide (XZ < (a1.length : Int)) then
   Option.bind (
     bif xM then
      (CE a1 XZ).bind fun (LM : UInt8) =>
      bif decide (((LM).toNat : Int) ≥ (32 : Int)) then
       (CE a1 XZ).bind fun (x41 : UInt8) =>
       some (decide (((x41).toNat : Int) ≤ (126 : Int)))
      else
       some false
     else
      some false
    ) fun (g6 : Bool) =>
   bif rC then
    rec (g6, true, (BM (XZ + (1 : Int))))
   else
    (CE a1 XZ).bind fun (gL : UInt8) =>
    rec (g6, (((gL).toNat : Int) != (32 : Int)), (BM (XZ + (1 : Int))))
  else
   some (xM, rC)
def FR (N : Nat) (a1 : List UInt8) (IP : BB × Bool) : Nat → (Bool × Bool × Int) → Option (Bool × Bool)
 | 0, _ => none
 | n + 1, x => JB N a1 IP (FR N a1 IP n) x
def EY (Qd : Bool) : Option (Int) :=
 bif !Qd then
  some 17
 else
  some 0
def L6 (N : Nat) (a0 : List UInt8) (a1 : List UInt8) : Option (Int) :=
 Option.bind (M0 N a0) fun (IP : BB × Bool) =>
 bif !IP.2 then
  some 16
 else
  Option.bind (
    bif decide ((a1.length : Int) < (1 : Int)) then
     some true
    else
     some (decide ((a1.length : Int) > (60 : Int)))
   ) fun (g2 : Bool) =>
  bif g2 then
   some 17
  else
   Option.bind (FR N a1 IP N (true, false, 0)) fun (M7 : Bool × Bool) =>
   bif (IP.1.Syntax == (1 : Int)) then
    bif M7.1 then
     EY M7.2
    else
     EY false
   else
    bif (IP.1.Syntax == (3 : Int)) then
     Option.bind (NQ N a1) fun (x62 : Bool) =>
     EY x62
    else
     bif (IP.1.Syntax == (4 : Int)) then
      EY true
     else
      bif (IP.1.Syntax == (5 : Int)) then
       Option.bind (NP N a1) fun (x69 : List (List AL) × Bool) =>
       EY x69.2
      else
       EY M7.1
def JS (N : Nat) (a0 : List AL) (rec : Int → Option (Unit ⊕ Bool)) : Int → Option (Unit ⊕ Bool)
 | v3l14 =>
  bif decide (v3l14 < (a0.length : Int)) then
   Option.bind (
     (CE a0 v3l14).bind fun (x20 : AL) =>
     bif (x20.Attr == ([101, 110, 116, 114, 121, 105, 100] : List UInt8)) then
      some true
     else
      (CE a0 v3l14).bind fun (x27 : AL) =>
      (CE a0 v3l14).bind fun (x32 : AL) =>
      Option.bind (L6 N x27.Attr x32.Value) fun (LM : Int) =>
      some (LM != (0 : Int))
    ) fun (g5 : Bool) =>
   bif g5 then
    some (Sum.inr false)
   else
    rec (BM (v3l14 + (1 : Int)))
  else
   some (Sum.inl ())
def FY (N : Nat) (a0 : List AL) : Nat → Int → Option (Unit ⊕ Bool)
 | 0, _ => none
 | n + 1, x => JS N a0 (FY N a0 n) x
def OO (N : Nat) (a0 : List AL) : Option (Bool) :=
 Option.bind (
   Option.bind (J9 N a0) fun (x5 : Bool) =>
   bif !x5 then
    some true
   else
    some (decide ((a0.length : Int) ≥ (4 : Int)))
  ) fun (g1 : Bool) =>
 bif g1 then
  some false
 else
  Option.bind (FY N a0 N 0) fun (y8 : Unit ⊕ Bool) =>
  Sum.elim (fun (y8 : Unit) =>
    some true
   ) (fun (y8 : Bool) =>
    some y8
   ) y8
def JC (N : Nat) (a0 : List BD) (a1 : Bool) (v5l6 : Int) (PN : BD) (rec : Int → Option (Unit ⊕ Bool)) : Int → Option (Unit ⊕ Bool)
 | v9l30 =>
  bif decide (v9l30 < (PN.Values.length : Int)) then
   (CE PN.Values v9l30).bind fun (x87 : List UInt8) =>
   Option.bind (L6 N PN.Attr x87) fun (x89 : Int) =>
   bif (x89 != (0 : Int)) then
    some (Sum.inr false)
   else
    rec (BM (v9l30 + (1 : Int)))
  else
   some (Sum.inl ())
def FT (N : Nat) (a0 : List BD) (a1 : Bool) (v5l6 : Int) (PN : BD) : Nat → Int → Option (Unit ⊕ Bool)
 | 0, _ => none
 | n + 1, x => JC N a0 a1 v5l6 PN (FT N a0 a1 v5l6 PN n) x
def JU (N : Nat) (a0 : List BD) (a1 : Bool) (rec : Int → Option (Unit ⊕ Bool)) : Int → Option (Unit ⊕ Bool)
 | v5l6 =>
  bif decide (v5l6 < (a0.length : Int)) then
   (CE a0 v5l6).bind fun (PN : BD) =>
   Option.bind (M0 N PN.Attr) fun (XY : BB × Bool) =>
   Option.bind (
     bif !XY.2 then
      some true
     else
      bif (!(XY.1.Name == PN.Attr)) then
       some true
      else
       bif (XY.1.Name == ([101, 110, 116, 114, 121, 105, 100] : List UInt8)) then
        some true
       else
        bif decide (PN.Kind < (1 : Int)) then
         some true
        else
         bif decide (PN.Kind > (3 : Int)) then
          some true
         else
          bif a1 then
           bif (PN.Kind != (1 : Int)) then
            some true
           else
            bif (PN.Kind == (1 : Int)) then
             bif ((PN.Values.length : Int) == (0 : Int)) then
              some true
             else
              some (decide ((PN.Values.length : Int) > (12 : Int)))
            else
             some (decide ((PN.Values.length : Int) > (12 : Int)))
          else
           bif (PN.Kind == (1 : Int)) then
            bif ((PN.Values.length : Int) == (0 : Int)) then
             some true
            else
             some (decide ((PN.Values.length : Int) > (12 : Int)))
           else
            some (decide ((PN.Values.length : Int) > (12 : Int)))
    ) fun (g2 : Bool) =>
   bif g2 then
    some (Sum.inr false)
   else
    Option.bind (FT N a0 a1 v5l6 PN N 0) fun (qX : Unit ⊕ Bool) =>
    Sum.elim (fun (qX : Unit) =>
      rec (BM (v5l6 + (1 : Int)))
     ) (fun (qX : Bool) =>
      some (Sum.inr qX)
     ) qX
  else
   some (Sum.inl ())
def FZ (N : Nat) (a0 : List BD) (a1 : Bool) : Nat → Int → Option (Unit ⊕ Bool)
 | 0, _ => none
 | n + 1, x => JU N a0 a1 (FZ N a0 a1 n) x
def L8 (N : Nat) (a0 : List BD) (a1 : Bool) : Option (Bool) :=
 Option.bind (FZ N a0 a1 N 0) fun (Qa : Unit ⊕ Bool) =>
 Sum.elim (fun (Qa : Unit) =>
   some (decide ((a0.length : Int) ≤ (8 : Int)))
  ) (fun (Qa : Bool) =>
   some Qa
  ) Qa
def KG (N : Nat) (a0 : AX) : Option (Bool) :=
 Option.bind (
   Option.bind (N7 N (⟨a0.CSN.Time, a0.CSN.Seq, a0.CSN.Rep⟩ : AP)) fun (x8 : Bool) =>
   bif !x8 then
    some true
   else
    Option.bind (HV N (⟨a0.CSN.Time, a0.CSN.Seq, a0.CSN.Rep⟩ : AP)) fun (MX : Bool) =>
    bif MX then
     some true
    else
     Option.bind (N7 N (⟨a0.ID.Time, a0.ID.Seq, a0.ID.Rep⟩ : AP)) fun (PN : Bool) =>
     bif !PN then
      some true
     else
      Option.bind (N7 N (⟨a0.Parent.Time, a0.Parent.Seq, a0.Parent.Rep⟩ : AP)) fun (x24 : Bool) =>
      some (!x24)
  ) fun (g1 : Bool) =>
 bif g1 then
  some false
 else
  Option.bind (M3 N (⟨a0.ID.Time, a0.ID.Seq, a0.ID.Rep⟩ : AP) (⟨a0.CSN.Time, a0.CSN.Seq, a0.CSN.Rep⟩ : AP)) fun (x31 : Int) =>
  Option.bind (
    Option.bind (M3 N (⟨a0.Parent.Time, a0.Parent.Seq, a0.Parent.Rep⟩ : AP) (⟨a0.CSN.Time, a0.CSN.Seq, a0.CSN.Rep⟩ : AP)) fun (x37 : Int) =>
    bif decide (x37 < (0 : Int)) then
     Option.bind (OO N a0.RDN) fun (Li : Bool) =>
     some Li
    else
     some false
   ) fun (g6 : Bool) =>
  Option.bind (
    Option.bind (HV N (⟨a0.Parent.Time, a0.Parent.Seq, a0.Parent.Rep⟩ : AP)) fun (uN : Bool) =>
    bif uN then
     some ((a0.RDN.length : Int) == (0 : Int))
    else
     some false
   ) fun (g8 : Bool) =>
  bif (a0.Kind == (1 : Int)) then
   Option.bind (
     bif (a0.ID.Time == a0.CSN.Time && (a0.ID.Seq == a0.CSN.Seq && (a0.ID.Rep == a0.CSN.Rep && true))) then
      bif g6 then
       bif !a0.DelOld then
        Option.bind (L8 N a0.Mods true) fun (x73 : Bool) =>
        some x73
       else
        some false
      else
       some false
     else
      some false
    ) fun (g11 : Bool) =>
   some g11
  else
   bif (a0.Kind == (2 : Int)) then
    Option.bind (
      bif decide (x31 < (0 : Int)) then
       Option.bind (HV N (⟨a0.ID.Time, a0.ID.Seq, a0.ID.Rep⟩ : AP)) fun (x81 : Bool) =>
       bif !x81 then
        bif g8 then
         bif !a0.DelOld then
          some ((a0.Mods.length : Int) == (0 : Int))
         else
          some false
        else
         some false
       else
        some false
      else
       some false
     ) fun (g16 : Bool) =>
    some g16
   else
    bif (a0.Kind == (3 : Int)) then
     Option.bind (
       bif decide (x31 < (0 : Int)) then
        bif g8 then
         bif !a0.DelOld then
          bif decide ((a0.Mods.length : Int) > (0 : Int)) then
           Option.bind (L8 N a0.Mods false) fun (x118 : Bool) =>
           some x118
          else
           some false
         else
          some false
        else
         some false
       else
        some false
      ) fun (g22 : Bool) =>
     some g22
    else
     bif (a0.Kind == (4 : Int)) then
      Option.bind (
        bif decide (x31 < (0 : Int)) then
         Option.bind (HV N (⟨a0.ID.Time, a0.ID.Seq, a0.ID.Rep⟩ : AP)) fun (bZ : Bool) =>
         bif !bZ then
          bif g6 then
           some ((a0.Mods.length : Int) == (0 : Int))
          else
           some false
         else
          some false
        else
         some false
       ) fun (g28 : Bool) =>
      some g28
     else
      some false
def K8 (N : Nat) (a0 : List UInt8) : Option (Bool) :=
 Option.bind (OC N a0) fun (x9 : AX × Int) =>
 bif (x9.2 != (0 : Int)) then
  Option.bind (
    bif (x9.2 == (14 : Int)) then
     Option.bind (GX N x9.1 (⟨(⟨0, 0, 0⟩ : AP), 0, (⟨0, 0, 0⟩ : AP), (⟨0, 0, 0⟩ : AP), [], false, []⟩ : AX)) fun (QG : Bool) =>
     some QG
    else
     some false
   ) fun (g2 : Bool) =>
  some g2
 else
  Option.bind (JW N x9.1) fun (XY : List UInt8 × Int) =>
  Option.bind (
    bif (XY.2 == (0 : Int)) then
     bif (XY.1 == a0) then
      Option.bind (KG N x9.1) fun (LM : Bool) =>
      some LM
     else
      some false
    else
     some false
   ) fun (g4 : Bool) =>
  some g4
def FI (a3 : List UInt8) (N : Nat)  : Option (Bool) :=
 Option.bind (K8 N a3) fun (Ad : Bool) =>
 some Ad
def LF (N : Nat) (a0 : AX) (a1 : Int) (a2 : UInt8) (a3 : List UInt8) : Option (Bool) :=
 Option.bind (PS N) fun (IP : Bool) =>
 bif !IP then
  some false
 else
  Option.bind (
    Option.bind (M4 N a0) fun (NK : Bool) =>
    bif !NK then
     some true
    else
     some (decide ((a3.length : Int) > (600 : Int)))
   ) fun (g2 : Bool) =>
  bif g2 then
   some true
  else
   Option.bind (JW N a0) fun (x24 : List UInt8 × Int) =>
   Option.bind (
     bif (x24.2 == (0 : Int)) then
      some (decide ((x24.1.length : Int) > (0 : Int)))
     else
      some false
    ) fun (g5 : Bool) =>
   bif g5 then
    (nz (x24.1.length : Int)).bind fun (x41 : Unit) =>
    (nz (x24.1.length : Int)).bind fun (bY : Unit) =>
    (OV (Int.tmod (BM a1) (x24.1.length : Int)) x24.1.length).bind fun (gL : Nat) =>
    (x24.1[gL]?).bind fun (Y7 : UInt8) =>
    (OV (Int.tmod (BM a1) (x24.1.length : Int)) x24.1.length).bind fun (OJ : Nat) =>
    (x24.1[OJ]?).bind fun (x9007 : UInt8) =>
    Option.bind (K8 N (x24.1.set OJ (Y7 ^^^ a2))) fun (x55 : Bool) =>
    bif !x55 then
     some false
    else
     FI a3 N
   else
    FI a3 N
end Go.Gp
end
section
namespace Go.Gp
open Go.Vd
def ZV (x : AL) : Prop := (x.Attr.length ≤ maxLen) ∧ (x.Value.length ≤ maxLen)
def ZU (x : BD) : Prop := ((IntKind.i64.min ≤ x.Kind ∧ x.Kind ≤ IntKind.i64.max)) ∧ (x.Attr.length ≤ maxLen) ∧ ((x.Values.length ≤ maxLen ∧ ∀ y0 ∈ x.Values, y0.length ≤ maxLen))
def gK (x : AP) : Prop := ((IntKind.i64.min ≤ x.Time ∧ x.Time ≤ IntKind.i64.max)) ∧ ((IntKind.i64.min ≤ x.Seq ∧ x.Seq ≤ IntKind.i64.max)) ∧ ((IntKind.i64.min ≤ x.Rep ∧ x.Rep ≤ IntKind.i64.max))
def XW (x : AX) : Prop := (gK x.CSN) ∧ ((IntKind.i64.min ≤ x.Kind ∧ x.Kind ≤ IntKind.i64.max)) ∧ (gK x.ID) ∧ (gK x.Parent) ∧ ((x.RDN.length ≤ maxLen ∧ ∀ y0 ∈ x.RDN, ZV y0)) ∧ (True) ∧ ((x.Mods.length ≤ maxLen ∧ ∀ y0 ∈ x.Mods, ZU y0))
end Go.Gp
end
