/- A part of the proof: functions of the program and what they compute. -/
import Derived.Test.YtbndinjjpafmjaaDoorA5
import Derived.Test.YtbndinjjpafmjaaDoorA4
import Derived.Test.YtbndinjjpafmjaaDoorProg
section
set_option linter.unusedVariables false
namespace Go.Gp
open Go.Vd
structure api_Type where
  Name : List UInt8
  Syntax : Int
  Single : Bool
deriving DecidableEq
def e_api_Type (x : api_Type) : PV := .agg [.str x.Name, .int .i64 x.Syntax, .bool x.Single]
structure api_AVA where
  Attr : List UInt8
  Value : List UInt8
deriving DecidableEq
def e_api_AVA (x : api_AVA) : PV := .agg [.str x.Attr, .str x.Value]
def dn_Lower_j15 (v10l8 : Int) (rec : (Int × List UInt8) → Option (List UInt8)) (r7j15 : List UInt8) : Option (List UInt8) :=
  rec ((w64 (v10l8 + (1 : Int))), r7j15)
def dn_Lower_l8_b (N : Nat) (a0 : List UInt8) (rec : (Int × List UInt8) → Option (List UInt8)) : (Int × List UInt8) → Option (List UInt8)
  | (v10l8, r7l8) =>
    bif decide (v10l8 < (a0.length : Int)) then
      Option.bind (chkI v10l8 r7l8.length) fun (x13 : Nat) =>
      Option.bind (r7l8[x13]?) fun (x14 : UInt8) =>
      Option.bind (
          bif decide (((x14).toNat : Int) ≥ (65 : Int)) then
            some (decide (((x14).toNat : Int) ≤ (90 : Int)))
          else
            some false
        ) fun (g2 : Bool) =>
      bif g2 then
        Option.bind (chkI v10l8 r7l8.length) fun (x25 : Nat) =>
        Option.bind (r7l8[x25]?) fun (x9004 : UInt8) =>
        dn_Lower_j15 v10l8 rec (r7l8.set x25 (x14 + (32 : UInt8)))
      else
        dn_Lower_j15 v10l8 rec r7l8
    else
      some r7l8
def dn_Lower_l8 (N : Nat) (a0 : List UInt8) : Nat → (Int × List UInt8) → Option (List UInt8)
  | 0, _ => none
  | n + 1, x => dn_Lower_l8_b N a0 (dn_Lower_l8 N a0 n) x
def dn_Lower (N : Nat) (a0 : List UInt8) : Option (List UInt8) :=
  Option.bind (dn_Lower_l8 N a0 N (0, a0)) fun (y6 : List UInt8) =>
  some y6
def schema_All (N : Nat)  : Option (List api_Type) :=
  some [(⟨([97, 99, 105] : List UInt8), 2, false⟩ : api_Type), (⟨([99] : List UInt8), 1, true⟩ : api_Type), (⟨([99, 110] : List UInt8), 1, false⟩ : api_Type), (⟨([100, 99] : List UInt8), 1, false⟩ : api_Type), (⟨([100, 101, 115, 99, 114, 105, 112, 116, 105, 111, 110] : List UInt8), 1, false⟩ : api_Type), (⟨([101, 110, 116, 114, 121, 105, 100] : List UInt8), 2, true⟩ : api_Type), (⟨([109, 97, 105, 108] : List UInt8), 2, false⟩ : api_Type), (⟨([109, 101, 109, 98, 101, 114] : List UInt8), 5, false⟩ : api_Type), (⟨([111] : List UInt8), 1, false⟩ : api_Type), (⟨([111, 117] : List UInt8), 1, false⟩ : api_Type), (⟨([115, 110] : List UInt8), 1, false⟩ : api_Type), (⟨([116, 105, 116, 108, 101] : List UInt8), 1, true⟩ : api_Type), (⟨([117, 105, 100] : List UInt8), 1, false⟩ : api_Type), (⟨([117, 105, 100, 110, 117, 109, 98, 101, 114] : List UInt8), 3, true⟩ : api_Type), (⟨([117, 115, 101, 114, 112, 97, 115, 115, 119, 111, 114, 100] : List UInt8), 4, false⟩ : api_Type)]
def schema_Find_l8_b (N : Nat) (x7 : List UInt8) (x8 : List api_Type) (rec : Int → Option (Unit ⊕ (api_Type × Bool))) : Int → Option (Unit ⊕ (api_Type × Bool))
  | v10l8 =>
    bif decide (v10l8 < (x8.length : Int)) then
      Option.bind (idxL x8 v10l8) fun (x12 : api_Type) =>
      bif (x12.Name == x7) then
        some (Sum.inr (x12, true))
      else
        rec (w64 (v10l8 + (1 : Int)))
    else
      some (Sum.inl ())
def schema_Find_l8 (N : Nat) (x7 : List UInt8) (x8 : List api_Type) : Nat → Int → Option (Unit ⊕ (api_Type × Bool))
  | 0, _ => none
  | n + 1, x => schema_Find_l8_b N x7 x8 (schema_Find_l8 N x7 x8 n) x
def schema_Find (N : Nat) (a0 : List UInt8) : Option (api_Type × Bool) :=
  Option.bind (dn_Lower N a0) fun (x7 : List UInt8) =>
  Option.bind (schema_All N) fun (x8 : List api_Type) =>
  Option.bind (schema_Find_l8 N x7 x8 N 0) fun (y3 : Unit ⊕ (api_Type × Bool)) =>
  Sum.elim (fun (y3 : Unit) =>
      some ((⟨([] : List UInt8), 0, false⟩ : api_Type), false)
    ) (fun (y3 : api_Type × Bool) =>
      some (y3.1, y3.2)
    ) y3
def strings_trimRightByte_l4_b (N : Nat) (a1 : UInt8) (rec : List UInt8 → Option (List UInt8)) : List UInt8 → Option (List UInt8)
  | v0l4 =>
    Option.bind (
        bif decide ((v0l4.length : Int) > (0 : Int)) then
          Option.bind (idxL v0l4 (w64 ((v0l4.length : Int) - (1 : Int)))) fun (x13 : UInt8) =>
          some (((x13).toNat : Int) == ((a1).toNat : Int))
        else
          some false
      ) fun (g1 : Bool) =>
    bif g1 then
      Option.bind (takeL v0l4 (w64 ((v0l4.length : Int) - (1 : Int)))) fun (x21 : List UInt8) =>
      rec x21
    else
      some v0l4
def strings_trimRightByte_l4 (N : Nat) (a1 : UInt8) : Nat → List UInt8 → Option (List UInt8)
  | 0, _ => none
  | n + 1, x => strings_trimRightByte_l4_b N a1 (strings_trimRightByte_l4 N a1 n) x
def strings_trimRightByte (N : Nat) (a0 : List UInt8) (a1 : UInt8) : Option (List UInt8) :=
  Option.bind (strings_trimRightByte_l4 N a1 N a0) fun (y4 : List UInt8) =>
  some y4
def strings_trimLeftByte_l4_b (N : Nat) (a1 : UInt8) (rec : List UInt8 → Option (List UInt8)) : List UInt8 → Option (List UInt8)
  | v0l4 =>
    Option.bind (
        bif decide ((v0l4.length : Int) > (0 : Int)) then
          Option.bind (idxL v0l4 (0 : Int)) fun (x10 : UInt8) =>
          some (((x10).toNat : Int) == ((a1).toNat : Int))
        else
          some false
      ) fun (g1 : Bool) =>
    bif g1 then
      Option.bind (dropL v0l4 (1 : Int)) fun (x15 : List UInt8) =>
      rec x15
    else
      some v0l4
def strings_trimLeftByte_l4 (N : Nat) (a1 : UInt8) : Nat → List UInt8 → Option (List UInt8)
  | 0, _ => none
  | n + 1, x => strings_trimLeftByte_l4_b N a1 (strings_trimLeftByte_l4 N a1 n) x
def strings_trimLeftByte (N : Nat) (a0 : List UInt8) (a1 : UInt8) : Option (List UInt8) :=
  Option.bind (strings_trimLeftByte_l4 N a1 N a0) fun (y4 : List UInt8) =>
  some y4
def strings_Trim (N : Nat) (a0 : List UInt8) (a1 : List UInt8) : Option (List UInt8) :=
  Option.bind (
      bif (a0 == ([] : List UInt8)) then
        some true
      else
        some (a1 == ([] : List UInt8))
    ) fun (g1 : Bool) =>
  bif g1 then
    some a0
  else
    Option.bind (
        bif ((a1.length : Int) == (1 : Int)) then
          Option.bind (idxL a1 (0 : Int)) fun (x19 : UInt8) =>
          some (decide (((x19).toNat : Int) < (128 : Int)))
        else
          some false
      ) fun (g4 : Bool) =>
    bif g4 then
      Option.bind (idxL a1 (0 : Int)) fun (x24 : UInt8) =>
      Option.bind (strings_trimRightByte N a0 x24) fun (x25 : List UInt8) =>
      Option.bind (idxL a1 (0 : Int)) fun (x27 : UInt8) =>
      Option.bind (strings_trimLeftByte N x25 x27) fun (x28 : List UInt8) =>
      some x28
    else
      none
def schema_plain_l6_b (N : Nat) (a0 : List UInt8) (rec : Int → Option (Unit ⊕ Bool)) : Int → Option (Unit ⊕ Bool)
  | v8l6 =>
    bif decide (v8l6 < (a0.length : Int)) then
      Option.bind (chkI v8l6 a0.length) fun (x10 : Nat) =>
      Option.bind (a0[x10]?) fun (x11 : UInt8) =>
      Option.bind (
          bif decide (((x11).toNat : Int) < (32 : Int)) then
            some true
          else
            some (decide (((x11).toNat : Int) > (126 : Int)))
        ) fun (g2 : Bool) =>
      bif g2 then
        some (Sum.inr false)
      else
        rec (w64 (v8l6 + (1 : Int)))
    else
      some (Sum.inl ())
def schema_plain_l6 (N : Nat) (a0 : List UInt8) : Nat → Int → Option (Unit ⊕ Bool)
  | 0, _ => none
  | n + 1, x => schema_plain_l6_b N a0 (schema_plain_l6 N a0 n) x
def schema_plain (N : Nat) (a0 : List UInt8) : Option (Bool) :=
  Option.bind (schema_plain_l6 N a0 N 0) fun (y5 : Unit ⊕ Bool) =>
  Sum.elim (fun (y5 : Unit) =>
      some true
    ) (fun (y5 : Bool) =>
      some y5
    ) y5
def internal_stringslite_HasPrefix (N : Nat) (a0 : List UInt8) (a1 : List UInt8) : Option (Bool) :=
  Option.bind (
      bif decide ((a0.length : Int) ≥ (a1.length : Int)) then
        Option.bind (takeL a0 (a1.length : Int)) fun (x14 : List UInt8) =>
        some (x14 == a1)
      else
        some false
    ) fun (g1 : Bool) =>
  some g1
def internal_stringslite_TrimPrefix (N : Nat) (a0 : List UInt8) (a1 : List UInt8) : Option (List UInt8) :=
  Option.bind (internal_stringslite_HasPrefix N a0 a1) fun (x7 : Bool) =>
  bif x7 then
    Option.bind (dropL a0 (a1.length : Int)) fun (x11 : List UInt8) =>
    some x11
  else
    some a0
def strings_TrimPrefix (N : Nat) (a0 : List UInt8) (a1 : List UInt8) : Option (List UInt8) :=
  Option.bind (internal_stringslite_TrimPrefix N a0 a1) fun (x7 : List UInt8) =>
  some x7
def schema_IsInt_l16_b (N : Nat) (x7 : List UInt8) (rec : Int → Option (Unit ⊕ Bool)) : Int → Option (Unit ⊕ Bool)
  | v27l16 =>
    bif decide (v27l16 < (x7.length : Int)) then
      Option.bind (chkI v27l16 x7.length) fun (x29 : Nat) =>
      Option.bind (x7[x29]?) fun (x30 : UInt8) =>
      Option.bind (
          bif decide (((x30).toNat : Int) < (48 : Int)) then
            some true
          else
            some (decide (((x30).toNat : Int) > (57 : Int)))
        ) fun (g7 : Bool) =>
      bif g7 then
        some (Sum.inr false)
      else
        rec (w64 (v27l16 + (1 : Int)))
    else
      some (Sum.inl ())
def schema_IsInt_l16 (N : Nat) (x7 : List UInt8) : Nat → Int → Option (Unit ⊕ Bool)
  | 0, _ => none
  | n + 1, x => schema_IsInt_l16_b N x7 (schema_IsInt_l16 N x7 n) x
def schema_IsInt (N : Nat) (a0 : List UInt8) : Option (Bool) :=
  Option.bind (strings_TrimPrefix N a0 ([45] : List UInt8)) fun (x7 : List UInt8) =>
  Option.bind (
      bif (x7 == ([] : List UInt8)) then
        some true
      else
        bif decide ((x7.length : Int) > (15 : Int)) then
          some true
        else
          Option.bind (idxL x7 (0 : Int)) fun (x17 : UInt8) =>
          bif (((x17).toNat : Int) == (48 : Int)) then
            some (!(a0 == ([48] : List UInt8)))
          else
            some false
    ) fun (g1 : Bool) =>
  bif g1 then
    some false
  else
    Option.bind (schema_IsInt_l16 N x7 N 0) fun (y10 : Unit ⊕ Bool) =>
    Sum.elim (fun (y10 : Unit) =>
        some true
      ) (fun (y10 : Bool) =>
        some y10
      ) y10
def dn_cut_j17 (rec : (Int × Int × List (List UInt8)) → Option (Int × List (List UInt8))) (v6j17 : Int) (v7j17 : Int) (r1005j17 : List (List UInt8)) : Option (Int × List (List UInt8)) :=
  rec (v6j17, (w64 (v7j17 + (1 : Int))), r1005j17)
def dn_cut_l10_b (N : Nat) (a0 : List UInt8) (a1 : UInt8) (rec : (Int × Int × List (List UInt8)) → Option (Int × List (List UInt8))) : (Int × Int × List (List UInt8)) → Option (Int × List (List UInt8))
  | (v6l10, v7l10, r1005l10) =>
    bif decide (v7l10 < (a0.length : Int)) then
      Option.bind (idxL a0 v7l10) fun (x16 : UInt8) =>
      bif (((x16).toNat : Int) == (92 : Int)) then
        dn_cut_j17 rec v6l10 (w64 (v7l10 + (1 : Int))) r1005l10
      else
        bif (((x16).toNat : Int) == ((a1).toNat : Int)) then
          Option.bind (cutL a0 v6l10 v7l10) fun (x28 : List UInt8) =>
          Option.bind (appL 16 r1005l10 [x28]) fun (x30 : List (List UInt8)) =>
          dn_cut_j17 rec (w64 (v7l10 + (1 : Int))) v7l10 x30
        else
          dn_cut_j17 rec v6l10 v7l10 r1005l10
    else
      some (v6l10, r1005l10)
def dn_cut_l10 (N : Nat) (a0 : List UInt8) (a1 : UInt8) : Nat → (Int × Int × List (List UInt8)) → Option (Int × List (List UInt8))
  | 0, _ => none
  | n + 1, x => dn_cut_l10_b N a0 a1 (dn_cut_l10 N a0 a1 n) x
def dn_cut (N : Nat) (a0 : List UInt8) (a1 : UInt8) : Option (List (List UInt8)) :=
  Option.bind (dn_cut_l10 N a0 a1 N (0, 0, [])) fun (y4 : Int × List (List UInt8)) =>
  Option.bind (dropL a0 y4.1) fun (x36 : List UInt8) =>
  Option.bind (appL 16 y4.2 [x36]) fun (x38 : List (List UInt8)) =>
  some x38
def internal_stringslite_Cut (N : Nat) (a0 : List UInt8) (a1 : List UInt8) : Option (List UInt8 × List UInt8 × Bool) :=
  Option.bind (stringslite_Index N a0 a1) fun (x10 : Int) =>
  bif decide (x10 ≥ (0 : Int)) then
    Option.bind (takeL a0 x10) fun (x15 : List UInt8) =>
    Option.bind (dropL a0 (w64 (x10 + (a1.length : Int)))) fun (x21 : List UInt8) =>
    some (x15, x21, true)
  else
    some (a0, ([] : List UInt8), false)
def strings_Cut (N : Nat) (a0 : List UInt8) (a1 : List UInt8) : Option (List UInt8 × List UInt8 × Bool) :=
  Option.bind (internal_stringslite_Cut N a0 a1) fun (x9 : List UInt8 × List UInt8 × Bool) =>
  some (x9.1, x9.2.1, x9.2.2)
def strings_HasPrefix (N : Nat) (a0 : List UInt8) (a1 : List UInt8) : Option (Bool) :=
  Option.bind (internal_stringslite_HasPrefix N a0 a1) fun (x7 : Bool) =>
  some x7
def dn_digit (N : Nat) (a0 : List UInt8) (a1 : Int) : Option (UInt8 × Bool) :=
  bif decide (a1 ≥ (a0.length : Int)) then
    some ((0 : UInt8), false)
  else
    Option.bind (cutL a0 a1 (w64 (a1 + (1 : Int)))) fun (x15 : List UInt8) =>
    Option.bind (dn_Lower N x15) fun (x16 : List UInt8) =>
    Option.bind (idxL x16 (0 : Int)) fun (x17 : UInt8) =>
    Option.bind (strings_IndexByte N ([48, 49, 50, 51, 52, 53, 54, 55, 56, 57, 97, 98, 99, 100, 101, 102] : List UInt8) x17) fun (x18 : Int) =>
    some ((byte (mx x18 (0 : Int))), decide (x18 ≥ (0 : Int)))
def dn_unescape_j25 (rec : (Bool × Int × List UInt8) → Option ((Bool × List UInt8) ⊕ (List UInt8 × Bool))) (v5j25 : Bool) (v6j25 : Int) (r1004j25 : List UInt8) : Option ((Bool × List UInt8) ⊕ (List UInt8 × Bool)) :=
  rec (v5j25, (w64 (v6j25 + (1 : Int))), r1004j25)
def dn_unescape_l18_b (N : Nat) (a0 : List UInt8) (rec : (Bool × Int × List UInt8) → Option ((Bool × List UInt8) ⊕ (List UInt8 × Bool))) : (Bool × Int × List UInt8) → Option ((Bool × List UInt8) ⊕ (List UInt8 × Bool))
  | (v5l18, v6l18, r1004l18) =>
    bif decide (v6l18 < (a0.length : Int)) then
      Option.bind (idxL a0 v6l18) fun (x26 : UInt8) =>
      bif (((x26).toNat : Int) == (92 : Int)) then
        Option.bind (
            bif decide ((w64 (v6l18 + (1 : Int))) < (a0.length : Int)) then
              Option.bind (idxL a0 (w64 (v6l18 + (1 : Int)))) fun (x45 : UInt8) =>
              Option.bind (strings_IndexByte N ([44, 43, 34, 92, 60, 62, 59, 35, 61, 32] : List UInt8) x45) fun (x46 : Int) =>
              some (decide (x46 ≥ (0 : Int)))
            else
              some false
          ) fun (g6 : Bool) =>
        bif g6 then
          Option.bind (idxL a0 (w64 (v6l18 + (1 : Int)))) fun (x52 : UInt8) =>
          Option.bind (appL 1 r1004l18 [x52]) fun (x54 : List UInt8) =>
          dn_unescape_j25 rec (((x26).toNat : Int) == (32 : Int)) (w64 (v6l18 + (1 : Int))) x54
        else
          Option.bind (dn_digit N a0 (w64 (v6l18 + (1 : Int)))) fun (x58 : UInt8 × Bool) =>
          Option.bind (dn_digit N a0 (w64 ((w64 (v6l18 + (1 : Int))) + (1 : Int)))) fun (x65 : UInt8 × Bool) =>
          Option.bind (
              bif !x58.2 then
                some true
              else
                some (!x65.2)
            ) fun (g9 : Bool) =>
          bif g9 then
            some (Sum.inr (([] : List UInt8), false))
          else
            Option.bind (appL 1 r1004l18 [((shlB x58.1 4) ||| x65.1)]) fun (x80 : List UInt8) =>
            dn_unescape_j25 rec (((x26).toNat : Int) == (32 : Int)) (w64 ((w64 (v6l18 + (1 : Int))) + (1 : Int))) x80
      else
        Option.bind (strings_IndexByte N ([44, 43, 34, 92, 60, 62, 59] : List UInt8) x26) fun (x85 : Int) =>
        bif decide (x85 ≥ (0 : Int)) then
          some (Sum.inr (([] : List UInt8), false))
        else
          Option.bind (appL 1 r1004l18 [x26]) fun (x32 : List UInt8) =>
          dn_unescape_j25 rec (((x26).toNat : Int) == (32 : Int)) v6l18 x32
    else
      some (Sum.inl (v5l18, r1004l18))
def dn_unescape_l18 (N : Nat) (a0 : List UInt8) : Nat → (Bool × Int × List UInt8) → Option ((Bool × List UInt8) ⊕ (List UInt8 × Bool))
  | 0, _ => none
  | n + 1, x => dn_unescape_l18_b N a0 (dn_unescape_l18 N a0 n) x
def dn_unescape (N : Nat) (a0 : List UInt8) : Option (List UInt8 × Bool) :=
  Option.bind (
      Option.bind (strings_HasPrefix N a0 ([35] : List UInt8)) fun (x13 : Bool) =>
      bif x13 then
        some true
      else
        Option.bind (strings_HasPrefix N a0 ([32] : List UInt8)) fun (x16 : Bool) =>
        some x16
    ) fun (g1 : Bool) =>
  bif g1 then
    some (([] : List UInt8), false)
  else
    Option.bind (dn_unescape_l18 N a0 N (false, 0, [])) fun (y13 : (Bool × List UInt8) ⊕ (List UInt8 × Bool)) =>
    Sum.elim (fun (y13 : Bool × List UInt8) =>
        some (y13.2, !y13.1)
      ) (fun (y13 : List UInt8 × Bool) =>
        some (y13.1, y13.2)
      ) y13
def dn_IsType_j28 (v25l14 : Int) (rec : Int → Option (Unit ⊕ Bool))  : Option (Unit ⊕ Bool) :=
  rec (w64 (v25l14 + (1 : Int)))
def dn_IsType_j38 (v25l14 : Int) (rec : Int → Option (Unit ⊕ Bool)) (v36j38 : Bool) : Option (Unit ⊕ Bool) :=
  bif v36j38 then
    dn_IsType_j28 v25l14 rec
  else
    some (Sum.inr false)
def dn_IsType_l14_b (N : Nat) (a0 : List UInt8) (rec : Int → Option (Unit ⊕ Bool)) : Int → Option (Unit ⊕ Bool)
  | v25l14 =>
    bif decide (v25l14 < (a0.length : Int)) then
      Option.bind (chkI v25l14 a0.length) fun (x27 : Nat) =>
      Option.bind (a0[x27]?) fun (x28 : UInt8) =>
      Option.bind (
          bif decide (((x28).toNat : Int) ≥ (97 : Int)) then
            some (decide (((x28).toNat : Int) ≤ (122 : Int)))
          else
            some false
        ) fun (g7 : Bool) =>
      bif g7 then
        dn_IsType_j28 v25l14 rec
      else
        Option.bind (
            bif decide (((x28).toNat : Int) ≥ (48 : Int)) then
              some (decide (((x28).toNat : Int) ≤ (57 : Int)))
            else
              some false
          ) fun (g11 : Bool) =>
        bif g11 then
          dn_IsType_j38 v25l14 rec g11
        else
          dn_IsType_j38 v25l14 rec (((x28).toNat : Int) == (45 : Int))
    else
      some (Sum.inl ())
def dn_IsType_l14 (N : Nat) (a0 : List UInt8) : Nat → Int → Option (Unit ⊕ Bool)
  | 0, _ => none
  | n + 1, x => dn_IsType_l14_b N a0 (dn_IsType_l14 N a0 n) x
def dn_IsType (N : Nat) (a0 : List UInt8) : Option (Bool) :=
  Option.bind (
      bif (a0 == ([] : List UInt8)) then
        some true
      else
        bif decide ((a0.length : Int) > (16 : Int)) then
          some true
        else
          Option.bind (idxL a0 (0 : Int)) fun (x14 : UInt8) =>
          bif decide (((x14).toNat : Int) < (97 : Int)) then
            some true
          else
            Option.bind (idxL a0 (0 : Int)) fun (x19 : UInt8) =>
            some (decide (((x19).toNat : Int) > (122 : Int)))
    ) fun (g1 : Bool) =>
  bif g1 then
    some false
  else
    Option.bind (dn_IsType_l14 N a0 N 0) fun (y14 : Unit ⊕ Bool) =>
    Sum.elim (fun (y14 : Unit) =>
        some true
      ) (fun (y14 : Bool) =>
        some y14
      ) y14
def dn_IsRDN_1 (N : Nat) (a0 : api_AVA) (c0 : api_AVA) : Option (Bool) :=
  some (a0.Attr == c0.Attr)
def slices_IndexFunc_api_RDN_api_AVA_c_dn_IsRDN_1_l6_b (N : Nat) (a0 : List api_AVA) (a1_0 : api_AVA) (rec : Int → Option (Unit ⊕ Int)) : Int → Option (Unit ⊕ Int)
  | v8l6 =>
    bif decide (v8l6 < (a0.length : Int)) then
      Option.bind (idxL a0 v8l6) fun (x14 : api_AVA) =>
      Option.bind (dn_IsRDN_1 N x14 a1_0) fun (x16 : Bool) =>
      bif x16 then
        some (Sum.inr v8l6)
      else
        rec (w64 (v8l6 + (1 : Int)))
    else
      some (Sum.inl ())
def slices_IndexFunc_api_RDN_api_AVA_c_dn_IsRDN_1_l6 (N : Nat) (a0 : List api_AVA) (a1_0 : api_AVA) : Nat → Int → Option (Unit ⊕ Int)
  | 0, _ => none
  | n + 1, x => slices_IndexFunc_api_RDN_api_AVA_c_dn_IsRDN_1_l6_b N a0 a1_0 (slices_IndexFunc_api_RDN_api_AVA_c_dn_IsRDN_1_l6 N a0 a1_0 n) x
def slices_IndexFunc_api_RDN_api_AVA_c_dn_IsRDN_1 (N : Nat) (a0 : List api_AVA) (a1_0 : api_AVA) : Option (Int) :=
  Option.bind (slices_IndexFunc_api_RDN_api_AVA_c_dn_IsRDN_1_l6 N a0 a1_0 N 0) fun (y3 : Unit ⊕ Int) =>
  Sum.elim (fun (y3 : Unit) =>
      some (-1)
    ) (fun (y3 : Int) =>
      some y3
    ) y3
def slices_ContainsFunc_api_RDN_api_AVA_c_dn_IsRDN_1 (N : Nat) (a0 : List api_AVA) (a1_0 : api_AVA) : Option (Bool) :=
  Option.bind (slices_IndexFunc_api_RDN_api_AVA_c_dn_IsRDN_1 N a0 a1_0) fun (x7 : Int) =>
  some (decide (x7 ≥ (0 : Int)))
def dn_IsRDN_l6_b (N : Nat) (a0 : List api_AVA) (rec : Int → Option (Unit ⊕ Bool)) : Int → Option (Unit ⊕ Bool)
  | v7l6 =>
    bif decide (v7l6 < (a0.length : Int)) then
      Option.bind (idxL a0 v7l6) fun (x10 : api_AVA) =>
      Option.bind (
          bif decide (v7l6 ≥ (4 : Int)) then
            some true
          else
            Option.bind (dn_IsType N x10.Attr) fun (x17 : Bool) =>
            bif !x17 then
              some true
            else
              bif (x10.Value == ([] : List UInt8)) then
                some true
              else
                some (decide ((x10.Value.length : Int) > (60 : Int)))
        ) fun (g2 : Bool) =>
      bif g2 then
        some (Sum.inr false)
      else
        Option.bind (takeL a0 v7l6) fun (x33 : List api_AVA) =>
        Option.bind (slices_ContainsFunc_api_RDN_api_AVA_c_dn_IsRDN_1 N x33 (⟨x10.Attr, x10.Value⟩ : api_AVA)) fun (x35 : Bool) =>
        bif x35 then
          some (Sum.inr false)
        else
          rec (w64 (v7l6 + (1 : Int)))
    else
      some (Sum.inl ())
def dn_IsRDN_l6 (N : Nat) (a0 : List api_AVA) : Nat → Int → Option (Unit ⊕ Bool)
  | 0, _ => none
  | n + 1, x => dn_IsRDN_l6_b N a0 (dn_IsRDN_l6 N a0 n) x
def dn_IsRDN (N : Nat) (a0 : List api_AVA) : Option (Bool) :=
  Option.bind (dn_IsRDN_l6 N a0 N 0) fun (y8 : Unit ⊕ Bool) =>
  Sum.elim (fun (y8 : Unit) =>
      some (decide ((a0.length : Int) > (0 : Int)))
    ) (fun (y8 : Bool) =>
      some y8
    ) y8
def dn_ParseRDN_l8_b (N : Nat) (x13 : List (List UInt8)) (rec : (Int × List api_AVA) → Option ((List api_AVA) ⊕ (List api_AVA × Int))) : (Int × List api_AVA) → Option ((List api_AVA) ⊕ (List api_AVA × Int))
  | (v15l8, r1004l8) =>
    bif decide (v15l8 < (x13.length : Int)) then
      Option.bind (idxL x13 v15l8) fun (x17 : List UInt8) =>
      Option.bind (strings_Cut N x17 ([61] : List UInt8)) fun (x21 : List UInt8 × List UInt8 × Bool) =>
      Option.bind (dn_unescape N x21.2.1) fun (x27 : List UInt8 × Bool) =>
      Option.bind (
          bif !x21.2.2 then
            some true
          else
            bif !x27.2 then
              some true
            else
              some (decide ((r1004l8.length : Int) > (4 : Int)))
        ) fun (g2 : Bool) =>
      bif g2 then
        some (Sum.inr ([], 15))
      else
        Option.bind (dn_Lower N x21.1) fun (x43 : List UInt8) =>
        Option.bind (appL 32 r1004l8 [(⟨x43, x27.1⟩ : api_AVA)]) fun (x47 : List api_AVA) =>
        rec ((w64 (v15l8 + (1 : Int))), x47)
    else
      some (Sum.inl r1004l8)
def dn_ParseRDN_l8 (N : Nat) (x13 : List (List UInt8)) : Nat → (Int × List api_AVA) → Option ((List api_AVA) ⊕ (List api_AVA × Int))
  | 0, _ => none
  | n + 1, x => dn_ParseRDN_l8_b N x13 (dn_ParseRDN_l8 N x13 n) x
def dn_ParseRDN (N : Nat) (a0 : List UInt8) : Option (List api_AVA × Int) :=
  Option.bind (dn_cut N a0 (43 : UInt8)) fun (x13 : List (List UInt8)) =>
  Option.bind (dn_ParseRDN_l8 N x13 N (0, [])) fun (y6 : (List api_AVA) ⊕ (List api_AVA × Int)) =>
  Sum.elim (fun (y6 : List api_AVA) =>
      Option.bind (dn_IsRDN N y6) fun (x50 : Bool) =>
      bif !x50 then
        some ([], 15)
      else
        some (y6, 0)
    ) (fun (y6 : List api_AVA × Int) =>
      some (y6.1, y6.2)
    ) y6
def dn_Parse_l16_b (N : Nat) (x12 : List (List UInt8)) (rec : (Int × List (List api_AVA)) → Option ((List (List api_AVA)) ⊕ (List (List api_AVA) × Int))) : (Int × List (List api_AVA)) → Option ((List (List api_AVA)) ⊕ (List (List api_AVA) × Int))
  | (v14l16, r1004l16) =>
    bif decide (v14l16 < (x12.length : Int)) then
      Option.bind (idxL x12 v14l16) fun (x16 : List UInt8) =>
      Option.bind (dn_ParseRDN N x16) fun (x20 : List api_AVA × Int) =>
      Option.bind (
          bif (x20.2 != (0 : Int)) then
            some true
          else
            some ((r1004l16.length : Int) == (8 : Int))
        ) fun (g3 : Bool) =>
      bif g3 then
        some (Sum.inr ([], 15))
      else
        Option.bind (appL 24 r1004l16 [x20.1]) fun (x33 : List (List api_AVA)) =>
        rec ((w64 (v14l16 + (1 : Int))), x33)
    else
      some (Sum.inl r1004l16)
def dn_Parse_l16 (N : Nat) (x12 : List (List UInt8)) : Nat → (Int × List (List api_AVA)) → Option ((List (List api_AVA)) ⊕ (List (List api_AVA) × Int))
  | 0, _ => none
  | n + 1, x => dn_Parse_l16_b N x12 (dn_Parse_l16 N x12 n) x
def dn_Parse (N : Nat) (a0 : List UInt8) : Option (List (List api_AVA) × Int) :=
  bif (a0 == ([] : List UInt8)) then
    some ([], 0)
  else
    Option.bind (dn_cut N a0 (44 : UInt8)) fun (x12 : List (List UInt8)) =>
    Option.bind (dn_Parse_l16 N x12 N (0, [])) fun (y6 : (List (List api_AVA)) ⊕ (List (List api_AVA) × Int)) =>
    Sum.elim (fun (y6 : List (List api_AVA)) =>
        some (y6, 0)
      ) (fun (y6 : List (List api_AVA) × Int) =>
        some (y6.1, y6.2)
      ) y6
def schema_may_j10 (a1 : List UInt8) (N : Nat)  : Option (Bool) :=
  Option.bind (schema_plain N a1) fun (x20 : Bool) =>
  some x20
def schema_may (N : Nat) (a0 : Int) (a1 : List UInt8) : Option (Bool) :=
  bif (a0 == (1 : Int)) then
    Option.bind (strings_Trim N a1 ([32] : List UInt8)) fun (x17 : List UInt8) =>
    bif (x17 == ([] : List UInt8)) then
      some false
    else
      schema_may_j10 a1 N
  else
    bif (a0 == (2 : Int)) then
      schema_may_j10 a1 N
    else
      bif (a0 == (3 : Int)) then
        Option.bind (schema_IsInt N a1) fun (x22 : Bool) =>
        some x22
      else
        bif (a0 == (5 : Int)) then
          Option.bind (dn_Parse N a1) fun (x25 : List (List api_AVA) × Int) =>
          some (x25.2 == (0 : Int))
        else
          some true
def schema_Check (N : Nat) (a0 : List UInt8) (a1 : List UInt8) : Option (Int) :=
  Option.bind (schema_Find N a0) fun (x9 : api_Type × Bool) =>
  bif !x9.2 then
    some 16
  else
    Option.bind (
        bif (a1 == ([] : List UInt8)) then
          some true
        else
          bif decide ((a1.length : Int) > (60 : Int)) then
            some true
          else
            Option.bind (schema_may N x9.1.Syntax a1) fun (x27 : Bool) =>
            some (!x27)
      ) fun (g2 : Bool) =>
    bif g2 then
      some 17
    else
      some 0
def prefectlaw5_known (N : Nat)  : Option (Bool) :=
  Option.bind (schema_Find N ([85, 105, 100, 78, 117, 109, 98, 101, 114] : List UInt8)) fun (x6 : api_Type × Bool) =>
  Option.bind (schema_Find N ([120] : List UInt8)) fun (x10 : api_Type × Bool) =>
  Option.bind (
      bif x6.2 then
        bif (x6.1.Name == ([117, 105, 100, 110, 117, 109, 98, 101, 114] : List UInt8) && (x6.1.Syntax == (3 : Int) && (x6.1.Single == true && true))) then
          bif !x10.2 then
            Option.bind (schema_All N) fun (x24 : List api_Type) =>
            bif ((x24.length : Int) == (15 : Int)) then
              Option.bind (schema_Check N ([117, 105, 100, 110, 117, 109, 98, 101, 114] : List UInt8) ([48, 55] : List UInt8)) fun (x29 : Int) =>
              bif (x29 == (17 : Int)) then
                Option.bind (schema_Check N ([99, 110] : List UInt8) ([97] : List UInt8)) fun (x33 : Int) =>
                bif (x33 == (0 : Int)) then
                  Option.bind (schema_Check N ([120] : List UInt8) ([97] : List UInt8)) fun (x37 : Int) =>
                  bif (x37 == (16 : Int)) then
                    Option.bind (schema_IsInt N ([45, 53] : List UInt8)) fun (x41 : Bool) =>
                    some x41
                  else
                    some false
                else
                  some false
              else
                some false
            else
              some false
          else
            some false
        else
          some false
      else
        some false
    ) fun (g1 : Bool) =>
  some g1
def prefectref4_All (N : Nat)  : Option (List api_Type) :=
  some [(⟨([97, 99, 105] : List UInt8), 2, false⟩ : api_Type), (⟨([99] : List UInt8), 1, true⟩ : api_Type), (⟨([99, 110] : List UInt8), 1, false⟩ : api_Type), (⟨([100, 99] : List UInt8), 1, false⟩ : api_Type), (⟨([100, 101, 115, 99, 114, 105, 112, 116, 105, 111, 110] : List UInt8), 1, false⟩ : api_Type), (⟨([101, 110, 116, 114, 121, 105, 100] : List UInt8), 2, true⟩ : api_Type), (⟨([109, 97, 105, 108] : List UInt8), 2, false⟩ : api_Type), (⟨([109, 101, 109, 98, 101, 114] : List UInt8), 5, false⟩ : api_Type), (⟨([111] : List UInt8), 1, false⟩ : api_Type), (⟨([111, 117] : List UInt8), 1, false⟩ : api_Type), (⟨([115, 110] : List UInt8), 1, false⟩ : api_Type), (⟨([116, 105, 116, 108, 101] : List UInt8), 1, true⟩ : api_Type), (⟨([117, 105, 100] : List UInt8), 1, false⟩ : api_Type), (⟨([117, 105, 100, 110, 117, 109, 98, 101, 114] : List UInt8), 3, true⟩ : api_Type), (⟨([117, 115, 101, 114, 112, 97, 115, 115, 119, 111, 114, 100] : List UInt8), 4, false⟩ : api_Type)]
def prefectref4_Lower_j15 (v4l8 : Int) (rec : (Int × List UInt8) → Option (List UInt8)) (r6j15 : List UInt8) : Option (List UInt8) :=
  rec ((w64 (v4l8 + (1 : Int))), r6j15)
def prefectref4_Lower_l8_b (N : Nat) (rec : (Int × List UInt8) → Option (List UInt8)) : (Int × List UInt8) → Option (List UInt8)
  | (v4l8, r6l8) =>
    bif decide (v4l8 < (r6l8.length : Int)) then
      Option.bind (
          Option.bind (chkI v4l8 r6l8.length) fun (x15 : Nat) =>
          Option.bind (r6l8[x15]?) fun (x16 : UInt8) =>
          bif decide (((x16).toNat : Int) ≥ (65 : Int)) then
            Option.bind (chkI v4l8 r6l8.length) fun (x21 : Nat) =>
            Option.bind (r6l8[x21]?) fun (x22 : UInt8) =>
            some (decide (((x22).toNat : Int) ≤ (90 : Int)))
          else
            some false
        ) fun (g2 : Bool) =>
      bif g2 then
        Option.bind (chkI v4l8 r6l8.length) fun (x29 : Nat) =>
        Option.bind (r6l8[x29]?) fun (x30 : UInt8) =>
        Option.bind (chkI v4l8 r6l8.length) fun (x32 : Nat) =>
        Option.bind (r6l8[x32]?) fun (x9004 : UInt8) =>
        prefectref4_Lower_j15 v4l8 rec (r6l8.set x32 (x30 + (32 : UInt8)))
      else
        prefectref4_Lower_j15 v4l8 rec r6l8
    else
      some r6l8
def prefectref4_Lower_l8 (N : Nat) : Nat → (Int × List UInt8) → Option (List UInt8)
  | 0, _ => none
  | n + 1, x => prefectref4_Lower_l8_b N (prefectref4_Lower_l8 N n) x
def prefectref4_Lower (N : Nat) (a0 : List UInt8) : Option (List UInt8) :=
  Option.bind (prefectref4_Lower_l8 N N (0, a0)) fun (y6 : List UInt8) =>
  some y6
def prefectref4_Find_l8_b (N : Nat) (a0 : List UInt8) (x6 : List api_Type) (rec : Int → Option (Unit ⊕ (api_Type × Bool))) : Int → Option (Unit ⊕ (api_Type × Bool))
  | v5l8 =>
    bif decide (v5l8 < (x6.length : Int)) then
      Option.bind (idxL x6 v5l8) fun (x15 : api_Type) =>
      Option.bind (prefectref4_Lower N a0) fun (x19 : List UInt8) =>
      bif (x15.Name == x19) then
        Option.bind (idxL x6 v5l8) fun (x23 : api_Type) =>
        some (Sum.inr (x23, true))
      else
        rec (w64 (v5l8 + (1 : Int)))
    else
      some (Sum.inl ())
def prefectref4_Find_l8 (N : Nat) (a0 : List UInt8) (x6 : List api_Type) : Nat → Int → Option (Unit ⊕ (api_Type × Bool))
  | 0, _ => none
  | n + 1, x => prefectref4_Find_l8_b N a0 x6 (prefectref4_Find_l8 N a0 x6 n) x
def prefectref4_Find (N : Nat) (a0 : List UInt8) : Option (api_Type × Bool) :=
  Option.bind (prefectref4_All N) fun (x6 : List api_Type) =>
  Option.bind (prefectref4_Find_l8 N a0 x6 N 0) fun (y3 : Unit ⊕ (api_Type × Bool)) =>
  Sum.elim (fun (y3 : Unit) =>
      some ((⟨([] : List UInt8), 0, false⟩ : api_Type), false)
    ) (fun (y3 : api_Type × Bool) =>
      some (y3.1, y3.2)
    ) y3
def prefectref4_IsInt_l30_b (N : Nat) (v3j4 : List UInt8) (rec : Int → Option (Unit ⊕ Bool)) : Int → Option (Unit ⊕ Bool)
  | v4l30 =>
    bif decide (v4l30 < (v3j4.length : Int)) then
      Option.bind (
          Option.bind (idxL v3j4 v4l30) fun (x44 : UInt8) =>
          bif decide (((x44).toNat : Int) < (48 : Int)) then
            some true
          else
            Option.bind (idxL v3j4 v4l30) fun (x49 : UInt8) =>
            some (decide (((x49).toNat : Int) > (57 : Int)))
        ) fun (g7 : Bool) =>
      bif g7 then
        some (Sum.inr false)
      else
        rec (w64 (v4l30 + (1 : Int)))
    else
      some (Sum.inl ())
def prefectref4_IsInt_l30 (N : Nat) (v3j4 : List UInt8) : Nat → Int → Option (Unit ⊕ Bool)
  | 0, _ => none
  | n + 1, x => prefectref4_IsInt_l30_b N v3j4 (prefectref4_IsInt_l30 N v3j4 n) x
def prefectref4_IsInt_j4 (N : Nat) (v3j4 : List UInt8) : Option (Bool) :=
  Option.bind (
      bif decide ((v3j4.length : Int) < (1 : Int)) then
        some true
      else
        bif decide ((v3j4.length : Int) > (15 : Int)) then
          some true
        else
          bif decide ((v3j4.length : Int) > (1 : Int)) then
            Option.bind (idxL v3j4 (0 : Int)) fun (x32 : UInt8) =>
            some (((x32).toNat : Int) == (48 : Int))
          else
            some false
    ) fun (g1 : Bool) =>
  bif g1 then
    some false
  else
    Option.bind (prefectref4_IsInt_l30 N v3j4 N 0) fun (y10 : Unit ⊕ Bool) =>
    Sum.elim (fun (y10 : Unit) =>
        some true
      ) (fun (y10 : Bool) =>
        some y10
      ) y10
def prefectref4_IsInt (N : Nat) (a0 : List UInt8) : Option (Bool) :=
  Option.bind (
      bif decide ((a0.length : Int) > (0 : Int)) then
        Option.bind (idxL a0 (0 : Int)) fun (x11 : UInt8) =>
        some (((x11).toNat : Int) == (45 : Int))
      else
        some false
    ) fun (g11 : Bool) =>
  bif g11 then
    Option.bind (dropL a0 (1 : Int)) fun (x15 : List UInt8) =>
    bif (x15 == ([48] : List UInt8)) then
      some false
    else
      prefectref4_IsInt_j4 N x15
  else
    prefectref4_IsInt_j4 N a0
def prefectref4_cut_j17 (rec : (Int × Int × List (List UInt8)) → Option (Int × List (List UInt8))) (v6j17 : Int) (v7j17 : Int) (r1005j17 : List (List UInt8)) : Option (Int × List (List UInt8)) :=
  rec (v6j17, (w64 (v7j17 + (1 : Int))), r1005j17)
def prefectref4_cut_l10_b (N : Nat) (a0 : List UInt8) (a1 : UInt8) (rec : (Int × Int × List (List UInt8)) → Option (Int × List (List UInt8))) : (Int × Int × List (List UInt8)) → Option (Int × List (List UInt8))
  | (v6l10, v7l10, r1005l10) =>
    bif decide (v7l10 < (a0.length : Int)) then
      Option.bind (idxL a0 v7l10) fun (x16 : UInt8) =>
      bif (((x16).toNat : Int) == (92 : Int)) then
        prefectref4_cut_j17 rec v6l10 (w64 (v7l10 + (1 : Int))) r1005l10
      else
        Option.bind (idxL a0 v7l10) fun (x22 : UInt8) =>
        bif (((x22).toNat : Int) == ((a1).toNat : Int)) then
          Option.bind (cutL a0 v6l10 v7l10) fun (x29 : List UInt8) =>
          Option.bind (appL 16 r1005l10 [x29]) fun (x31 : List (List UInt8)) =>
          prefectref4_cut_j17 rec (w64 (v7l10 + (1 : Int))) v7l10 x31
        else
          prefectref4_cut_j17 rec v6l10 v7l10 r1005l10
    else
      some (v6l10, r1005l10)
def prefectref4_cut_l10 (N : Nat) (a0 : List UInt8) (a1 : UInt8) : Nat → (Int × Int × List (List UInt8)) → Option (Int × List (List UInt8))
  | 0, _ => none
  | n + 1, x => prefectref4_cut_l10_b N a0 a1 (prefectref4_cut_l10 N a0 a1 n) x
def prefectref4_cut (N : Nat) (a0 : List UInt8) (a1 : UInt8) : Option (List (List UInt8)) :=
  Option.bind (prefectref4_cut_l10 N a0 a1 N (0, 0, [])) fun (y4 : Int × List (List UInt8)) =>
  Option.bind (dropL a0 y4.1) fun (x37 : List UInt8) =>
  Option.bind (appL 16 y4.2 [x37]) fun (x39 : List (List UInt8)) =>
  some x39
def prefectref4_special (N : Nat) (a0 : UInt8) : Option (Bool) :=
  Option.bind (
      bif (((a0).toNat : Int) == (44 : Int)) then
        some true
      else
        bif (((a0).toNat : Int) == (43 : Int)) then
          some true
        else
          bif (((a0).toNat : Int) == (34 : Int)) then
            some true
          else
            bif (((a0).toNat : Int) == (92 : Int)) then
              some true
            else
              bif (((a0).toNat : Int) == (60 : Int)) then
                some true
              else
                bif (((a0).toNat : Int) == (62 : Int)) then
                  some true
                else
                  some (((a0).toNat : Int) == (59 : Int))
    ) fun (g1 : Bool) =>
  some g1
def prefectref4_digit (N : Nat) (a0 : UInt8) : Option (Int) :=
  Option.bind (
      bif decide (((a0).toNat : Int) ≥ (48 : Int)) then
        some (decide (((a0).toNat : Int) ≤ (57 : Int)))
      else
        some false
    ) fun (g1 : Bool) =>
  bif g1 then
    some (((a0 - (48 : UInt8))).toNat : Int)
  else
    Option.bind (
        bif decide (((a0).toNat : Int) ≥ (97 : Int)) then
          some (decide (((a0).toNat : Int) ≤ (102 : Int)))
        else
          some false
      ) fun (g4 : Bool) =>
    bif g4 then
      some (w64 ((((a0 - (97 : UInt8))).toNat : Int) + (10 : Int)))
    else
      Option.bind (
          bif decide (((a0).toNat : Int) ≥ (65 : Int)) then
            some (decide (((a0).toNat : Int) ≤ (70 : Int)))
          else
            some false
        ) fun (g7 : Bool) =>
      bif g7 then
        some (w64 ((((a0 - (65 : UInt8))).toNat : Int) + (10 : Int)))
      else
        some (-1)
def prefectref4_plain_j15 (rec : (Int × List UInt8) → Option ((List UInt8) ⊕ (List UInt8 × Bool))) (v5j15 : Int) (r1004j15 : List UInt8) : Option ((List UInt8) ⊕ (List UInt8 × Bool)) :=
  rec ((w64 (v5j15 + (1 : Int))), r1004j15)
def prefectref4_plain_l8_b (N : Nat) (a0 : List UInt8) (rec : (Int × List UInt8) → Option ((List UInt8) ⊕ (List UInt8 × Bool))) : (Int × List UInt8) → Option ((List UInt8) ⊕ (List UInt8 × Bool))
  | (v5l8, r1004l8) =>
    bif decide (v5l8 < (a0.length : Int)) then
      Option.bind (idxL a0 v5l8) fun (x15 : UInt8) =>
      bif (((x15).toNat : Int) != (92 : Int)) then
        Option.bind (
            Option.bind (prefectref4_special N x15) fun (x19 : Bool) =>
            bif x19 then
              some true
            else
              bif (v5l8 == (0 : Int)) then
                bif (((x15).toNat : Int) == (35 : Int)) then
                  some true
                else
                  bif (((x15).toNat : Int) == (32 : Int)) then
                    some true
                  else
                    bif (v5l8 == (w64 ((a0.length : Int) - (1 : Int)))) then
                      some (((x15).toNat : Int) == (32 : Int))
                    else
                      some false
              else
                bif (v5l8 == (w64 ((a0.length : Int) - (1 : Int)))) then
                  some (((x15).toNat : Int) == (32 : Int))
                else
                  some false
          ) fun (g3 : Bool) =>
        bif g3 then
          some (Sum.inr (([] : List UInt8), false))
        else
          Option.bind (appL 1 r1004l8 [x15]) fun (x46 : List UInt8) =>
          prefectref4_plain_j15 rec v5l8 x46
      else
        Option.bind (
            bif decide ((w64 (v5l8 + (1 : Int))) < (a0.length : Int)) then
              Option.bind (idxL a0 (w64 (v5l8 + (1 : Int)))) fun (x57 : UInt8) =>
              Option.bind (prefectref4_special N x57) fun (x58 : Bool) =>
              bif x58 then
                some true
              else
                Option.bind (idxL a0 (w64 (v5l8 + (1 : Int)))) fun (x63 : UInt8) =>
                bif (((x63).toNat : Int) == (35 : Int)) then
                  some true
                else
                  Option.bind (idxL a0 (w64 (v5l8 + (1 : Int)))) fun (x70 : UInt8) =>
                  bif (((x70).toNat : Int) == (61 : Int)) then
                    some true
                  else
                    Option.bind (idxL a0 (w64 (v5l8 + (1 : Int)))) fun (x77 : UInt8) =>
                    some (((x77).toNat : Int) == (32 : Int))
            else
              some false
          ) fun (g11 : Bool) =>
        bif g11 then
          Option.bind (idxL a0 (w64 (v5l8 + (1 : Int)))) fun (x85 : UInt8) =>
          Option.bind (appL 1 r1004l8 [x85]) fun (x87 : List UInt8) =>
          prefectref4_plain_j15 rec (w64 (v5l8 + (1 : Int))) x87
        else
          Option.bind (
              bif decide ((w64 (v5l8 + (2 : Int))) < (a0.length : Int)) then
                Option.bind (idxL a0 (w64 (v5l8 + (1 : Int)))) fun (x100 : UInt8) =>
                Option.bind (prefectref4_digit N x100) fun (x101 : Int) =>
                bif decide (x101 ≥ (0 : Int)) then
                  Option.bind (idxL a0 (w64 (v5l8 + (2 : Int)))) fun (x108 : UInt8) =>
                  Option.bind (prefectref4_digit N x108) fun (x109 : Int) =>
                  some (decide (x109 ≥ (0 : Int)))
                else
                  some false
              else
                some false
            ) fun (g17 : Bool) =>
          bif g17 then
            Option.bind (idxL a0 (w64 (v5l8 + (1 : Int)))) fun (x116 : UInt8) =>
            Option.bind (prefectref4_digit N x116) fun (x117 : Int) =>
            Option.bind (idxL a0 (w64 (v5l8 + (2 : Int)))) fun (x122 : UInt8) =>
            Option.bind (prefectref4_digit N x122) fun (x123 : Int) =>
            Option.bind (appL 1 r1004l8 [(byte (w64 ((w64 ((16 : Int) * x117)) + x123)))]) fun (x127 : List UInt8) =>
            prefectref4_plain_j15 rec (w64 (v5l8 + (2 : Int))) x127
          else
            some (Sum.inr (([] : List UInt8), false))
    else
      some (Sum.inl r1004l8)
def prefectref4_plain_l8 (N : Nat) (a0 : List UInt8) : Nat → (Int × List UInt8) → Option ((List UInt8) ⊕ (List UInt8 × Bool))
  | 0, _ => none
  | n + 1, x => prefectref4_plain_l8_b N a0 (prefectref4_plain_l8 N a0 n) x
def prefectref4_plain (N : Nat) (a0 : List UInt8) : Option (List UInt8 × Bool) :=
  Option.bind (prefectref4_plain_l8 N a0 N (0, [])) fun (y21 : (List UInt8) ⊕ (List UInt8 × Bool)) =>
  Sum.elim (fun (y21 : List UInt8) =>
      some (y21, true)
    ) (fun (y21 : List UInt8 × Bool) =>
      some (y21.1, y21.2)
    ) y21
def prefectref4_IsType_l14_b (N : Nat) (a0 : List UInt8) (rec : Int → Option (Unit ⊕ Bool)) : Int → Option (Unit ⊕ Bool)
  | v3l14 =>
    bif decide (v3l14 < (a0.length : Int)) then
      Option.bind (idxL a0 v3l14) fun (x31 : UInt8) =>
      Option.bind (
          bif decide (((x31).toNat : Int) < (97 : Int)) then
            bif decide (((x31).toNat : Int) < (48 : Int)) then
              some (((x31).toNat : Int) != (45 : Int))
            else
              bif decide (((x31).toNat : Int) > (57 : Int)) then
                some (((x31).toNat : Int) != (45 : Int))
              else
                some false
          else
            bif decide (((x31).toNat : Int) > (122 : Int)) then
              bif decide (((x31).toNat : Int) < (48 : Int)) then
                some (((x31).toNat : Int) != (45 : Int))
              else
                bif decide (((x31).toNat : Int) > (57 : Int)) then
                  some (((x31).toNat : Int) != (45 : Int))
                else
                  some false
            else
              some false
        ) fun (g7 : Bool) =>
      bif g7 then
        some (Sum.inr false)
      else
        rec (w64 (v3l14 + (1 : Int)))
    else
      some (Sum.inl ())
def prefectref4_IsType_l14 (N : Nat) (a0 : List UInt8) : Nat → Int → Option (Unit ⊕ Bool)
  | 0, _ => none
  | n + 1, x => prefectref4_IsType_l14_b N a0 (prefectref4_IsType_l14 N a0 n) x
def prefectref4_IsType (N : Nat) (a0 : List UInt8) : Option (Bool) :=
  Option.bind (
      bif decide ((a0.length : Int) < (1 : Int)) then
        some true
      else
        bif decide ((a0.length : Int) > (16 : Int)) then
          some true
        else
          Option.bind (idxL a0 (0 : Int)) fun (x15 : UInt8) =>
          bif decide (((x15).toNat : Int) < (97 : Int)) then
            some true
          else
            Option.bind (idxL a0 (0 : Int)) fun (x20 : UInt8) =>
            some (decide (((x20).toNat : Int) > (122 : Int)))
    ) fun (g1 : Bool) =>
  bif g1 then
    some false
  else
    Option.bind (prefectref4_IsType_l14 N a0 N 0) fun (y15 : Unit ⊕ Bool) =>
    Sum.elim (fun (y15 : Unit) =>
        some true
      ) (fun (y15 : Bool) =>
        some y15
      ) y15
def prefectref4_IsRDN_l34_b (N : Nat) (a0 : List api_AVA) (v3l14 : Int) (rec : Int → Option (Unit ⊕ Bool)) : Int → Option (Unit ⊕ Bool)
  | v4l34 =>
    bif decide (v4l34 < v3l14) then
      Option.bind (idxL a0 v4l34) fun (x51 : api_AVA) =>
      Option.bind (idxL a0 v3l14) fun (x56 : api_AVA) =>
      bif (x51.Attr == x56.Attr) then
        some (Sum.inr false)
      else
        rec (w64 (v4l34 + (1 : Int)))
    else
      some (Sum.inl ())
def prefectref4_IsRDN_l34 (N : Nat) (a0 : List api_AVA) (v3l14 : Int) : Nat → Int → Option (Unit ⊕ Bool)
  | 0, _ => none
  | n + 1, x => prefectref4_IsRDN_l34_b N a0 v3l14 (prefectref4_IsRDN_l34 N a0 v3l14 n) x
def prefectref4_IsRDN_l14_b (N : Nat) (a0 : List api_AVA) (rec : Int → Option (Unit ⊕ Bool)) : Int → Option (Unit ⊕ Bool)
  | v3l14 =>
    bif decide (v3l14 < (a0.length : Int)) then
      Option.bind (
          Option.bind (idxL a0 v3l14) fun (x21 : api_AVA) =>
          Option.bind (prefectref4_IsType N x21.Attr) fun (x24 : Bool) =>
          bif !x24 then
            some true
          else
            Option.bind (idxL a0 v3l14) fun (x29 : api_AVA) =>
            bif decide ((x29.Value.length : Int) < (1 : Int)) then
              some true
            else
              Option.bind (idxL a0 v3l14) fun (x38 : api_AVA) =>
              some (decide ((x38.Value.length : Int) > (60 : Int)))
        ) fun (g5 : Bool) =>
      bif g5 then
        some (Sum.inr false)
      else
        Option.bind (prefectref4_IsRDN_l34 N a0 v3l14 N 0) fun (y11 : Unit ⊕ Bool) =>
        Sum.elim (fun (y11 : Unit) =>
            rec (w64 (v3l14 + (1 : Int)))
          ) (fun (y11 : Bool) =>
            some (Sum.inr y11)
          ) y11
    else
      some (Sum.inl ())
def prefectref4_IsRDN_l14 (N : Nat) (a0 : List api_AVA) : Nat → Int → Option (Unit ⊕ Bool)
  | 0, _ => none
  | n + 1, x => prefectref4_IsRDN_l14_b N a0 (prefectref4_IsRDN_l14 N a0 n) x
def prefectref4_IsRDN (N : Nat) (a0 : List api_AVA) : Option (Bool) :=
  Option.bind (
      bif decide ((a0.length : Int) < (1 : Int)) then
        some true
      else
        some (decide ((a0.length : Int) > (4 : Int)))
    ) fun (g1 : Bool) =>
  bif g1 then
    some false
  else
    Option.bind (prefectref4_IsRDN_l14 N a0 N 0) fun (y12 : Unit ⊕ Bool) =>
    Sum.elim (fun (y12 : Unit) =>
        some true
      ) (fun (y12 : Bool) =>
        some y12
      ) y12
def prefectref4_ParseRDN_l23_b (N : Nat) (x11 : List (List UInt8)) (v6l10 : Int) (r1004l10 : List api_AVA) (rec : Int → Option (Int)) : Int → Option (Int)
  | v7l23 =>
    Option.bind (
        Option.bind (idxL x11 v6l10) fun (x21 : List UInt8) =>
        bif decide (v7l23 < (x21.length : Int)) then
          Option.bind (idxL x11 v6l10) fun (x28 : List UInt8) =>
          Option.bind (idxL x28 v7l23) fun (x31 : UInt8) =>
          some (((x31).toNat : Int) != (61 : Int))
        else
          some false
      ) fun (g2 : Bool) =>
    bif g2 then
      rec (w64 (v7l23 + (1 : Int)))
    else
      some v7l23
def prefectref4_ParseRDN_l23 (N : Nat) (x11 : List (List UInt8)) (v6l10 : Int) (r1004l10 : List api_AVA) : Nat → Int → Option (Int)
  | 0, _ => none
  | n + 1, x => prefectref4_ParseRDN_l23_b N x11 v6l10 r1004l10 (prefectref4_ParseRDN_l23 N x11 v6l10 r1004l10 n) x
def prefectref4_ParseRDN_l10_b (N : Nat) (x11 : List (List UInt8)) (rec : (Int × List api_AVA) → Option ((List api_AVA) ⊕ (List api_AVA × Bool))) : (Int × List api_AVA) → Option ((List api_AVA) ⊕ (List api_AVA × Bool))
  | (v6l10, r1004l10) =>
    bif decide (v6l10 < (x11.length : Int)) then
      Option.bind (prefectref4_ParseRDN_l23 N x11 v6l10 r1004l10 N 0) fun (y5 : Int) =>
      Option.bind (
          Option.bind (idxL x11 v6l10) fun (x39 : List UInt8) =>
          bif (y5 == (x39.length : Int)) then
            some true
          else
            Option.bind (idxL x11 v6l10) fun (x46 : List UInt8) =>
            Option.bind (prefectref4_cut N x46 (44 : UInt8)) fun (x48 : List (List UInt8)) =>
            some (decide ((x48.length : Int) > (1 : Int)))
        ) fun (g6 : Bool) =>
      bif g6 then
        some (Sum.inr ([], false))
      else
        Option.bind (idxL x11 v6l10) fun (x55 : List UInt8) =>
        Option.bind (dropL x55 (w64 (y5 + (1 : Int)))) fun (x59 : List UInt8) =>
        Option.bind (prefectref4_plain N x59) fun (x60 : List UInt8 × Bool) =>
        bif !x60.2 then
          some (Sum.inr ([], false))
        else
          Option.bind (idxL x11 v6l10) fun (x68 : List UInt8) =>
          Option.bind (takeL x68 y5) fun (x71 : List UInt8) =>
          Option.bind (prefectref4_Lower N x71) fun (x72 : List UInt8) =>
          Option.bind (appL 32 r1004l10 [(⟨x72, x60.1⟩ : api_AVA)]) fun (x76 : List api_AVA) =>
          rec ((w64 (v6l10 + (1 : Int))), x76)
    else
      some (Sum.inl r1004l10)
def prefectref4_ParseRDN_l10 (N : Nat) (x11 : List (List UInt8)) : Nat → (Int × List api_AVA) → Option ((List api_AVA) ⊕ (List api_AVA × Bool))
  | 0, _ => none
  | n + 1, x => prefectref4_ParseRDN_l10_b N x11 (prefectref4_ParseRDN_l10 N x11 n) x
def prefectref4_ParseRDN (N : Nat) (a0 : List UInt8) : Option (List api_AVA × Bool) :=
  Option.bind (prefectref4_cut N a0 (43 : UInt8)) fun (x11 : List (List UInt8)) =>
  Option.bind (prefectref4_ParseRDN_l10 N x11 N (0, [])) fun (y10 : (List api_AVA) ⊕ (List api_AVA × Bool)) =>
  Sum.elim (fun (y10 : List api_AVA) =>
      Option.bind (prefectref4_IsRDN N y10) fun (x78 : Bool) =>
      bif !x78 then
        some ([], false)
      else
        some (y10, true)
    ) (fun (y10 : List api_AVA × Bool) =>
      some (y10.1, y10.2)
    ) y10
def prefectref4_Is_l14_b (N : Nat) (a0 : List (List api_AVA)) (rec : Int → Option (Unit ⊕ Bool)) : Int → Option (Unit ⊕ Bool)
  | v3l14 =>
    bif decide (v3l14 < (a0.length : Int)) then
      Option.bind (idxL a0 v3l14) fun (x15 : List api_AVA) =>
      Option.bind (prefectref4_IsRDN N x15) fun (x17 : Bool) =>
      bif !x17 then
        some (Sum.inr false)
      else
        rec (w64 (v3l14 + (1 : Int)))
    else
      some (Sum.inl ())
def prefectref4_Is_l14 (N : Nat) (a0 : List (List api_AVA)) : Nat → Int → Option (Unit ⊕ Bool)
  | 0, _ => none
  | n + 1, x => prefectref4_Is_l14_b N a0 (prefectref4_Is_l14 N a0 n) x
def prefectref4_Is (N : Nat) (a0 : List (List api_AVA)) : Option (Bool) :=
  bif decide ((a0.length : Int) > (8 : Int)) then
    some false
  else
    Option.bind (prefectref4_Is_l14 N a0 N 0) fun (y4 : Unit ⊕ Bool) =>
    Sum.elim (fun (y4 : Unit) =>
        some true
      ) (fun (y4 : Bool) =>
        some y4
      ) y4
def prefectref4_Parse_l18_b (N : Nat) (x12 : List (List UInt8)) (rec : (Int × List (List api_AVA)) → Option ((List (List api_AVA)) ⊕ (List (List api_AVA) × Bool))) : (Int × List (List api_AVA)) → Option ((List (List api_AVA)) ⊕ (List (List api_AVA) × Bool))
  | (v6l18, r1004l18) =>
    bif decide (v6l18 < (x12.length : Int)) then
      Option.bind (idxL x12 v6l18) fun (x22 : List UInt8) =>
      Option.bind (prefectref4_ParseRDN N x22) fun (x24 : List api_AVA × Bool) =>
      bif !x24.2 then
        some (Sum.inr ([], false))
      else
        Option.bind (appL 24 r1004l18 [x24.1]) fun (x32 : List (List api_AVA)) =>
        rec ((w64 (v6l18 + (1 : Int))), x32)
    else
      some (Sum.inl r1004l18)
def prefectref4_Parse_l18 (N : Nat) (x12 : List (List UInt8)) : Nat → (Int × List (List api_AVA)) → Option ((List (List api_AVA)) ⊕ (List (List api_AVA) × Bool))
  | 0, _ => none
  | n + 1, x => prefectref4_Parse_l18_b N x12 (prefectref4_Parse_l18 N x12 n) x
def prefectref4_Parse (N : Nat) (a0 : List UInt8) : Option (List (List api_AVA) × Bool) :=
  bif (a0 == ([] : List UInt8)) then
    some ([], true)
  else
    Option.bind (prefectref4_cut N a0 (44 : UInt8)) fun (x12 : List (List UInt8)) =>
    Option.bind (prefectref4_Parse_l18 N x12 N (0, [])) fun (y4 : (List (List api_AVA)) ⊕ (List (List api_AVA) × Bool)) =>
    Sum.elim (fun (y4 : List (List api_AVA)) =>
        Option.bind (prefectref4_Is N y4) fun (x34 : Bool) =>
        bif !x34 then
          some ([], false)
        else
          some (y4, true)
      ) (fun (y4 : List (List api_AVA) × Bool) =>
        some (y4.1, y4.2)
      ) y4
def prefectref4_Check_l28_b (N : Nat) (a1 : List UInt8) (x12 : api_Type × Bool) (rec : (Bool × Bool × Int) → Option (Bool × Bool)) : (Bool × Bool × Int) → Option (Bool × Bool)
  | (v7l28, v8l28, v9l28) =>
    bif decide (v9l28 < (a1.length : Int)) then
      Option.bind (
          bif v7l28 then
            Option.bind (idxL a1 v9l28) fun (x35 : UInt8) =>
            bif decide (((x35).toNat : Int) ≥ (32 : Int)) then
              Option.bind (idxL a1 v9l28) fun (x41 : UInt8) =>
              some (decide (((x41).toNat : Int) ≤ (126 : Int)))
            else
              some false
          else
            some false
        ) fun (g6 : Bool) =>
      bif v8l28 then
        rec (g6, true, (w64 (v9l28 + (1 : Int))))
      else
        Option.bind (idxL a1 v9l28) fun (x48 : UInt8) =>
        rec (g6, (((x48).toNat : Int) != (32 : Int)), (w64 (v9l28 + (1 : Int))))
    else
      some (v7l28, v8l28)
def prefectref4_Check_l28 (N : Nat) (a1 : List UInt8) (x12 : api_Type × Bool) : Nat → (Bool × Bool × Int) → Option (Bool × Bool)
  | 0, _ => none
  | n + 1, x => prefectref4_Check_l28_b N a1 x12 (prefectref4_Check_l28 N a1 x12 n) x
def prefectref4_Check_j41 (v7j41 : Bool) : Option (Int) :=
  bif !v7j41 then
    some 17
  else
    some 0
def prefectref4_Check (N : Nat) (a0 : List UInt8) (a1 : List UInt8) : Option (Int) :=
  Option.bind (prefectref4_Find N a0) fun (x12 : api_Type × Bool) =>
  bif !x12.2 then
    some 16
  else
    Option.bind (
        bif decide ((a1.length : Int) < (1 : Int)) then
          some true
        else
          some (decide ((a1.length : Int) > (60 : Int)))
      ) fun (g2 : Bool) =>
    bif g2 then
      some 17
    else
      Option.bind (prefectref4_Check_l28 N a1 x12 N (true, false, 0)) fun (y10 : Bool × Bool) =>
      bif (x12.1.Syntax == (1 : Int)) then
        bif y10.1 then
          prefectref4_Check_j41 y10.2
        else
          prefectref4_Check_j41 false
      else
        bif (x12.1.Syntax == (3 : Int)) then
          Option.bind (prefectref4_IsInt N a1) fun (x62 : Bool) =>
          prefectref4_Check_j41 x62
        else
          bif (x12.1.Syntax == (4 : Int)) then
            prefectref4_Check_j41 true
          else
            bif (x12.1.Syntax == (5 : Int)) then
              Option.bind (prefectref4_Parse N a1) fun (x69 : List (List api_AVA) × Bool) =>
              prefectref4_Check_j41 x69.2
            else
              prefectref4_Check_j41 y10.1
def prefectlaw5_SchemaTells (N : Nat) (a0 : List UInt8) (a1 : List UInt8) : Option (Bool) :=
  Option.bind (prefectlaw5_known N) fun (x9 : Bool) =>
  bif !x9 then
    some false
  else
    Option.bind (
        bif decide ((a0.length : Int) > (40 : Int)) then
          some true
        else
          some (decide ((a1.length : Int) > (100 : Int)))
      ) fun (g2 : Bool) =>
    bif g2 then
      some true
    else
      Option.bind (schema_Find N a0) fun (x21 : api_Type × Bool) =>
      Option.bind (prefectref4_Find N a0) fun (x26 : api_Type × Bool) =>
      Option.bind (
          bif (x21.1.Name == x26.1.Name && (x21.1.Syntax == x26.1.Syntax && (x21.1.Single == x26.1.Single && true))) then
            bif (x21.2 == x26.2) then
              Option.bind (schema_Check N a0 a1) fun (x40 : Int) =>
              Option.bind (prefectref4_Check N a0 a1) fun (x43 : Int) =>
              bif (x40 == x43) then
                Option.bind (schema_IsInt N a1) fun (x48 : Bool) =>
                Option.bind (prefectref4_IsInt N a1) fun (x50 : Bool) =>
                some (x48 == x50)
              else
                some false
            else
              some false
          else
            some false
        ) fun (g5 : Bool) =>
      some g5
def prefectlaw5_SchemaAll_l32_b (N : Nat) (a0 : UInt8) (a1 : Int) (a2 : List UInt8) (x20 : List api_Type) (x21 : List api_Type) (rec : Int → Option (Unit ⊕ Bool)) : Int → Option (Unit ⊕ Bool)
  | v9l32 =>
    bif decide (v9l32 < (x20.length : Int)) then
      Option.bind (idxL x20 v9l32) fun (x35 : api_Type) =>
      Option.bind (idxL x21 v9l32) fun (x39 : api_Type) =>
      bif !(x35.Name == x39.Name && (x35.Syntax == x39.Syntax && (x35.Single == x39.Single && true))) then
        some (Sum.inr false)
      else
        rec (w64 (v9l32 + (1 : Int)))
    else
      some (Sum.inl ())
def prefectlaw5_SchemaAll_l32 (N : Nat) (a0 : UInt8) (a1 : Int) (a2 : List UInt8) (x20 : List api_Type) (x21 : List api_Type) : Nat → Int → Option (Unit ⊕ Bool)
  | 0, _ => none
  | n + 1, x => prefectlaw5_SchemaAll_l32_b N a0 a1 a2 x20 x21 (prefectlaw5_SchemaAll_l32 N a0 a1 a2 x20 x21 n) x
def prefectlaw5_SchemaAll_j64 (v12l57 : Int) (rec : (Int × List UInt8) → Option (List UInt8)) (r52j64 : List UInt8) : Option (List UInt8) :=
  rec ((w64 (v12l57 + (1 : Int))), r52j64)
def prefectlaw5_SchemaAll_l57_b (N : Nat) (a1 : Int) (a2 : List UInt8) (x48 : api_Type) (rec : (Int × List UInt8) → Option (List UInt8)) : (Int × List UInt8) → Option (List UInt8)
  | (v12l57, r52l57) =>
    bif decide (v12l57 < (r52l57.length : Int)) then
      Option.bind (
          Option.bind (nn (IntKind.u64.wrap v12l57)) fun (x62 : Unit) =>
          bif ((iop .and .u16 (shrK .u16 a1 (IntKind.u64.wrap v12l57)) (1 : Int)) == (1 : Int)) then
            Option.bind (chkI v12l57 r52l57.length) fun (x68 : Nat) =>
            Option.bind (r52l57[x68]?) fun (x69 : UInt8) =>
            bif decide (((x69).toNat : Int) ≥ (97 : Int)) then
              Option.bind (chkI v12l57 r52l57.length) fun (x75 : Nat) =>
              Option.bind (r52l57[x75]?) fun (x76 : UInt8) =>
              some (decide (((x76).toNat : Int) ≤ (122 : Int)))
            else
              some false
          else
            some false
        ) fun (g8 : Bool) =>
      bif g8 then
        Option.bind (chkI v12l57 r52l57.length) fun (x83 : Nat) =>
        Option.bind (r52l57[x83]?) fun (x84 : UInt8) =>
        Option.bind (chkI v12l57 r52l57.length) fun (x86 : Nat) =>
        Option.bind (r52l57[x86]?) fun (x9011 : UInt8) =>
        prefectlaw5_SchemaAll_j64 v12l57 rec (r52l57.set x86 (x84 - (32 : UInt8)))
      else
        prefectlaw5_SchemaAll_j64 v12l57 rec r52l57
    else
      some r52l57
def prefectlaw5_SchemaAll_l57 (N : Nat) (a1 : Int) (a2 : List UInt8) (x48 : api_Type) : Nat → (Int × List UInt8) → Option (List UInt8)
  | 0, _ => none
  | n + 1, x => prefectlaw5_SchemaAll_l57_b N a1 a2 x48 (prefectlaw5_SchemaAll_l57 N a1 a2 x48 n) x
def prefectlaw5_SchemaAll (N : Nat) (a0 : UInt8) (a1 : Int) (a2 : List UInt8) : Option (Bool) :=
  Option.bind (prefectlaw5_known N) fun (x15 : Bool) =>
  bif !x15 then
    some false
  else
    bif decide ((a2.length : Int) > (100 : Int)) then
      some true
    else
      Option.bind (schema_All N) fun (x20 : List api_Type) =>
      Option.bind (prefectref4_All N) fun (x21 : List api_Type) =>
      bif ((x20.length : Int) != (x21.length : Int)) then
        some false
      else
        Option.bind (prefectlaw5_SchemaAll_l32 N a0 a1 a2 x20 x21 N 0) fun (y6 : Unit ⊕ Bool) =>
        Sum.elim (fun (y6 : Unit) =>
            Option.bind (nz (x21.length : Int)) fun (x47 : Unit) =>
            Option.bind (idxL x21 (Int.tmod ((a0).toNat : Int) (x21.length : Int))) fun (x48 : api_Type) =>
            Option.bind (prefectlaw5_SchemaAll_l57 N a1 a2 x48 N (0, x48.Name)) fun (y13 : List UInt8) =>
            Option.bind (schema_Find N y13) fun (x90 : api_Type × Bool) =>
            Option.bind (
                bif x90.2 then
                  bif (x90.1.Name == x48.Name && (x90.1.Syntax == x48.Syntax && (x90.1.Single == x48.Single && true))) then
                    Option.bind (schema_Check N y13 a2) fun (x103 : Int) =>
                    Option.bind (prefectref4_Check N x48.Name a2) fun (x107 : Int) =>
                    some (x103 == x107)
                  else
                    some false
                else
                  some false
              ) fun (g14 : Bool) =>
            some g14
          ) (fun (y6 : Bool) =>
            some y6
          ) y6
def prefectlaw5_SchemaKinds_l28_b (N : Nat) (a1 : Int) (rec : (List UInt8 × Int) → Option (List UInt8)) : (List UInt8 × Int) → Option (List UInt8)
  | (v7l28, v8l28) =>
    Option.bind (catS [(byte (w64 ((48 : Int) + (Int.tmod v8l28 (10 : Int)))))] v7l28) fun (x52 : List UInt8) =>
    bif decide (v8l28 < (10 : Int)) then
      some x52
    else
      rec (x52, (w64 (Int.tdiv v8l28 (10 : Int))))
def prefectlaw5_SchemaKinds_l28 (N : Nat) (a1 : Int) : Nat → (List UInt8 × Int) → Option (List UInt8)
  | 0, _ => none
  | n + 1, x => prefectlaw5_SchemaKinds_l28_b N a1 (prefectlaw5_SchemaKinds_l28 N a1 n) x
def prefectlaw5_SchemaKinds (N : Nat) (a0 : UInt8) (a1 : Int) : Option (Bool) :=
  Option.bind (prefectlaw5_known N) fun (x9 : Bool) =>
  bif !x9 then
    some false
  else
    Option.bind (
        bif decide (((a0).toNat : Int) ≥ (32 : Int)) then
          some (decide (((a0).toNat : Int) ≤ (126 : Int)))
        else
          some false
      ) fun (g2 : Bool) =>
    Option.bind (
        Option.bind (schema_Check N ([109, 97, 105, 108] : List UInt8) [a0]) fun (x21 : Int) =>
        bif !((x21 == (0 : Int)) == g2) then
          some true
        else
          Option.bind (schema_Check N ([99, 110] : List UInt8) [a0]) fun (x27 : Int) =>
          bif g2 then
            bif !((x27 == (0 : Int)) == (((a0).toNat : Int) != (32 : Int))) then
              some true
            else
              Option.bind (schema_Check N ([117, 115, 101, 114, 112, 97, 115, 115, 119, 111, 114, 100] : List UInt8) [a0]) fun (x38 : Int) =>
              some (x38 != (0 : Int))
          else
            bif !((x27 == (0 : Int)) == false) then
              some true
            else
              Option.bind (schema_Check N ([117, 115, 101, 114, 112, 97, 115, 115, 119, 111, 114, 100] : List UInt8) [a0]) fun (x38 : Int) =>
              some (x38 != (0 : Int))
      ) fun (g4 : Bool) =>
    bif g4 then
      some false
    else
      Option.bind (prefectlaw5_SchemaKinds_l28 N a1 N (([] : List UInt8), (w64 a1))) fun (y11 : List UInt8) =>
      Option.bind (
          Option.bind (schema_Check N ([117, 105, 100, 110, 117, 109, 98, 101, 114] : List UInt8) y11) fun (x56 : Int) =>
          bif (x56 == (0 : Int)) then
            Option.bind (catS ([45] : List UInt8) y11) fun (x60 : List UInt8) =>
            Option.bind (schema_Check N ([117, 105, 100, 110, 117, 109, 98, 101, 114] : List UInt8) x60) fun (x61 : Int) =>
            bif ((x61 == (0 : Int)) == (a1 != (0 : Int))) then
              Option.bind (catS ([48] : List UInt8) y11) fun (x69 : List UInt8) =>
              Option.bind (schema_Check N ([117, 105, 100, 110, 117, 109, 98, 101, 114] : List UInt8) x69) fun (x70 : Int) =>
              bif (x70 == (17 : Int)) then
                Option.bind (catS ([99, 110, 61] : List UInt8) y11) fun (x75 : List UInt8) =>
                Option.bind (schema_Check N ([109, 101, 109, 98, 101, 114] : List UInt8) x75) fun (x76 : Int) =>
                bif (x76 == (0 : Int)) then
                  Option.bind (schema_Check N ([109, 101, 109, 98, 101, 114] : List UInt8) y11) fun (x81 : Int) =>
                  bif (x81 == (17 : Int)) then
                    Option.bind (schema_Check N ([99, 110] : List UInt8) ([] : List UInt8)) fun (x85 : Int) =>
                    some (x85 == (17 : Int))
                  else
                    some false
                else
                  some false
              else
                some false
            else
              some false
          else
            some false
        ) fun (g12 : Bool) =>
      some g12
end Go.Gp
end
section
namespace Go.Gp
open Go.Vd
end Go.Gp
end
section
namespace Go.Gp
open Go.Vd Go.Proofs
theorem mixed : Tryd.prog.follows .mixedOrders = true := by kernel_rfl
end Go.Gp
end
