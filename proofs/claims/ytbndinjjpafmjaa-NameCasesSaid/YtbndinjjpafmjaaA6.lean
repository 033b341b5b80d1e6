/- A part of the proof: functions of the program and what they compute. -/
import Derived.Test.YtbndinjjpafmjaaA5
import Derived.Test.YtbndinjjpafmjaaA4
import Derived.Test.YtbndinjjpafmjaaProg
section
set_option linter.unusedVariables false
namespace Go.Gp
open Go.Vd
structure api_AVA where
  Attr : List UInt8
  Value : List UInt8
deriving DecidableEq
def e_api_AVA (x : api_AVA) : PV := .agg [.str x.Attr, .str x.Value]
def dn_cut_j17 (rec : (Int × Int × List (List UInt8)) → Option (Int × List (List UInt8))) (v6j17 : Int) (v7j17 : Int) (r1005j17 : List (List UInt8)) : Option (Int × List (List UInt8)) :=
  rec (v6j17, (w64 (v7j17 + (1 : Int))), r1005j17)
def dn_cut_l10_b (N : Nat) (a0 : List UInt8) (a1 : UInt8) (rec : (Int × Int × List (List UInt8)) → Option (Int × List (List UInt8))) : (Int × Int × List (List UInt8)) → Option (Int × List (List UInt8))
  | (v6l10, v7l10, r1005l10) =>
    bif decide (v7l10 < (a0.length : Int)) then
      Option.bind (idxL a0 v7l10) fun (x16 : UInt8) =>
      bif (((x16).toNat : Int) == (92 : Int)) then
        dn_cut_j17 rec v6l10 (w64 (v7l10 + (1 : Int))) r1005l10
      else
        bif (((x16).toNat : Int) == ((a1).toNat : Int)) then
          Option.bind (cutL a0 v6l10 v7l10) fun (x28 : List UInt8) =>
          Option.bind (appL 16 r1005l10 [x28]) fun (x30 : List (List UInt8)) =>
          dn_cut_j17 rec (w64 (v7l10 + (1 : Int))) v7l10 x30
        else
          dn_cut_j17 rec v6l10 v7l10 r1005l10
    else
      some (v6l10, r1005l10)
def dn_cut_l10 (N : Nat) (a0 : List UInt8) (a1 : UInt8) : Nat → (Int × Int × List (List UInt8)) → Option (Int × List (List UInt8))
  | 0, _ => none
  | n + 1, x => dn_cut_l10_b N a0 a1 (dn_cut_l10 N a0 a1 n) x
def dn_cut (N : Nat) (a0 : List UInt8) (a1 : UInt8) : Option (List (List UInt8)) :=
  Option.bind (dn_cut_l10 N a0 a1 N (0, 0, [])) fun (y4 : Int × List (List UInt8)) =>
  Option.bind (dropL a0 y4.1) fun (x36 : List UInt8) =>
  Option.bind (appL 16 y4.2 [x36]) fun (x38 : List (List UInt8)) =>
  some x38
def internal_stringslite_Cut (N : Nat) (a0 : List UInt8) (a1 : List UInt8) : Option (List UInt8 × List UInt8 × Bool) :=
  Option.bind (stringslite_Index N a0 a1) fun (x10 : Int) =>
  bif decide (x10 ≥ (0 : Int)) then
    Option.bind (takeL a0 x10) fun (x15 : List UInt8) =>
    Option.bind (dropL a0 (w64 (x10 + (a1.length : Int)))) fun (x21 : List UInt8) =>
    some (x15, x21, true)
  else
    some (a0, ([] : List UInt8), false)
def strings_Cut (N : Nat) (a0 : List UInt8) (a1 : List UInt8) : Option (List UInt8 × List UInt8 × Bool) :=
  Option.bind (internal_stringslite_Cut N a0 a1) fun (x9 : List UInt8 × List UInt8 × Bool) =>
  some (x9.1, x9.2.1, x9.2.2)
def internal_stringslite_HasPrefix (N : Nat) (a0 : List UInt8) (a1 : List UInt8) : Option (Bool) :=
  Option.bind (
      bif decide ((a0.length : Int) ≥ (a1.length : Int)) then
        Option.bind (takeL a0 (a1.length : Int)) fun (x14 : List UInt8) =>
        some (x14 == a1)
      else
        some false
    ) fun (g1 : Bool) =>
  some g1
def strings_HasPrefix (N : Nat) (a0 : List UInt8) (a1 : List UInt8) : Option (Bool) :=
  Option.bind (internal_stringslite_HasPrefix N a0 a1) fun (x7 : Bool) =>
  some x7
def dn_Lower_j15 (v10l8 : Int) (rec : (Int × List UInt8) → Option (List UInt8)) (r7j15 : List UInt8) : Option (List UInt8) :=
  rec ((w64 (v10l8 + (1 : Int))), r7j15)
def dn_Lower_l8_b (N : Nat) (a0 : List UInt8) (rec : (Int × List UInt8) → Option (List UInt8)) : (Int × List UInt8) → Option (List UInt8)
  | (v10l8, r7l8) =>
    bif decide (v10l8 < (a0.length : Int)) then
      Option.bind (chkI v10l8 r7l8.length) fun (x13 : Nat) =>
      Option.bind (r7l8[x13]?) fun (x14 : UInt8) =>
      Option.bind (
          bif decide (((x14).toNat : Int) ≥ (65 : Int)) then
            some (decide (((x14).toNat : Int) ≤ (90 : Int)))
          else
            some false
        ) fun (g2 : Bool) =>
      bif g2 then
        Option.bind (chkI v10l8 r7l8.length) fun (x25 : Nat) =>
        Option.bind (r7l8[x25]?) fun (x9004 : UInt8) =>
        dn_Lower_j15 v10l8 rec (r7l8.set x25 (x14 + (32 : UInt8)))
      else
        dn_Lower_j15 v10l8 rec r7l8
    else
      some r7l8
def dn_Lower_l8 (N : Nat) (a0 : List UInt8) : Nat → (Int × List UInt8) → Option (List UInt8)
  | 0, _ => none
  | n + 1, x => dn_Lower_l8_b N a0 (dn_Lower_l8 N a0 n) x
def dn_Lower (N : Nat) (a0 : List UInt8) : Option (List UInt8) :=
  Option.bind (dn_Lower_l8 N a0 N (0, a0)) fun (y6 : List UInt8) =>
  some y6
def dn_digit (N : Nat) (a0 : List UInt8) (a1 : Int) : Option (UInt8 × Bool) :=
  bif decide (a1 ≥ (a0.length : Int)) then
    some ((0 : UInt8), false)
  else
    Option.bind (cutL a0 a1 (w64 (a1 + (1 : Int)))) fun (x15 : List UInt8) =>
    Option.bind (dn_Lower N x15) fun (x16 : List UInt8) =>
    Option.bind (idxL x16 (0 : Int)) fun (x17 : UInt8) =>
    Option.bind (strings_IndexByte N ([48, 49, 50, 51, 52, 53, 54, 55, 56, 57, 97, 98, 99, 100, 101, 102] : List UInt8) x17) fun (x18 : Int) =>
    some ((byte (mx x18 (0 : Int))), decide (x18 ≥ (0 : Int)))
def dn_unescape_j25 (rec : (Bool × Int × List UInt8) → Option ((Bool × List UInt8) ⊕ (List UInt8 × Bool))) (v5j25 : Bool) (v6j25 : Int) (r1004j25 : List UInt8) : Option ((Bool × List UInt8) ⊕ (List UInt8 × Bool)) :=
  rec (v5j25, (w64 (v6j25 + (1 : Int))), r1004j25)
def dn_unescape_l18_b (N : Nat) (a0 : List UInt8) (rec : (Bool × Int × List UInt8) → Option ((Bool × List UInt8) ⊕ (List UInt8 × Bool))) : (Bool × Int × List UInt8) → Option ((Bool × List UInt8) ⊕ (List UInt8 × Bool))
  | (v5l18, v6l18, r1004l18) =>
    bif decide (v6l18 < (a0.length : Int)) then
      Option.bind (idxL a0 v6l18) fun (x26 : UInt8) =>
      bif (((x26).toNat : Int) == (92 : Int)) then
        Option.bind (
            bif decide ((w64 (v6l18 + (1 : Int))) < (a0.length : Int)) then
              Option.bind (idxL a0 (w64 (v6l18 + (1 : Int)))) fun (x45 : UInt8) =>
              Option.bind (strings_IndexByte N ([44, 43, 34, 92, 60, 62, 59, 35, 61, 32] : List UInt8) x45) fun (x46 : Int) =>
              some (decide (x46 ≥ (0 : Int)))
            else
              some false
          ) fun (g6 : Bool) =>
        bif g6 then
          Option.bind (idxL a0 (w64 (v6l18 + (1 : Int)))) fun (x52 : UInt8) =>
          Option.bind (appL 1 r1004l18 [x52]) fun (x54 : List UInt8) =>
          dn_unescape_j25 rec (((x26).toNat : Int) == (32 : Int)) (w64 (v6l18 + (1 : Int))) x54
        else
          Option.bind (dn_digit N a0 (w64 (v6l18 + (1 : Int)))) fun (x58 : UInt8 × Bool) =>
          Option.bind (dn_digit N a0 (w64 ((w64 (v6l18 + (1 : Int))) + (1 : Int)))) fun (x65 : UInt8 × Bool) =>
          Option.bind (
              bif !x58.2 then
                some true
              else
                some (!x65.2)
            ) fun (g9 : Bool) =>
          bif g9 then
            some (Sum.inr (([] : List UInt8), false))
          else
            Option.bind (appL 1 r1004l18 [((shlB x58.1 4) ||| x65.1)]) fun (x80 : List UInt8) =>
            dn_unescape_j25 rec (((x26).toNat : Int) == (32 : Int)) (w64 ((w64 (v6l18 + (1 : Int))) + (1 : Int))) x80
      else
        Option.bind (strings_IndexByte N ([44, 43, 34, 92, 60, 62, 59] : List UInt8) x26) fun (x85 : Int) =>
        bif decide (x85 ≥ (0 : Int)) then
          some (Sum.inr (([] : List UInt8), false))
        else
          Option.bind (appL 1 r1004l18 [x26]) fun (x32 : List UInt8) =>
          dn_unescape_j25 rec (((x26).toNat : Int) == (32 : Int)) v6l18 x32
    else
      some (Sum.inl (v5l18, r1004l18))
def dn_unescape_l18 (N : Nat) (a0 : List UInt8) : Nat → (Bool × Int × List UInt8) → Option ((Bool × List UInt8) ⊕ (List UInt8 × Bool))
  | 0, _ => none
  | n + 1, x => dn_unescape_l18_b N a0 (dn_unescape_l18 N a0 n) x
def dn_unescape (N : Nat) (a0 : List UInt8) : Option (List UInt8 × Bool) :=
  Option.bind (
      Option.bind (strings_HasPrefix N a0 ([35] : List UInt8)) fun (x13 : Bool) =>
      bif x13 then
        some true
      else
        Option.bind (strings_HasPrefix N a0 ([32] : List UInt8)) fun (x16 : Bool) =>
        some x16
    ) fun (g1 : Bool) =>
  bif g1 then
    some (([] : List UInt8), false)
  else
    Option.bind (dn_unescape_l18 N a0 N (false, 0, [])) fun (y13 : (Bool × List UInt8) ⊕ (List UInt8 × Bool)) =>
    Sum.elim (fun (y13 : Bool × List UInt8) =>
        some (y13.2, !y13.1)
      ) (fun (y13 : List UInt8 × Bool) =>
        some (y13.1, y13.2)
      ) y13
def dn_IsType_j28 (v25l14 : Int) (rec : Int → Option (Unit ⊕ Bool))  : Option (Unit ⊕ Bool) :=
  rec (w64 (v25l14 + (1 : Int)))
def dn_IsType_j38 (v25l14 : Int) (rec : Int → Option (Unit ⊕ Bool)) (v36j38 : Bool) : Option (Unit ⊕ Bool) :=
  bif v36j38 then
    dn_IsType_j28 v25l14 rec
  else
    some (Sum.inr false)
def dn_IsType_l14_b (N : Nat) (a0 : List UInt8) (rec : Int → Option (Unit ⊕ Bool)) : Int → Option (Unit ⊕ Bool)
  | v25l14 =>
    bif decide (v25l14 < (a0.length : Int)) then
      Option.bind (chkI v25l14 a0.length) fun (x27 : Nat) =>
      Option.bind (a0[x27]?) fun (x28 : UInt8) =>
      Option.bind (
          bif decide (((x28).toNat : Int) ≥ (97 : Int)) then
            some (decide (((x28).toNat : Int) ≤ (122 : Int)))
          else
            some false
        ) fun (g7 : Bool) =>
      bif g7 then
        dn_IsType_j28 v25l14 rec
      else
        Option.bind (
            bif decide (((x28).toNat : Int) ≥ (48 : Int)) then
              some (decide (((x28).toNat : Int) ≤ (57 : Int)))
            else
              some false
          ) fun (g11 : Bool) =>
        bif g11 then
          dn_IsType_j38 v25l14 rec g11
        else
          dn_IsType_j38 v25l14 rec (((x28).toNat : Int) == (45 : Int))
    else
      some (Sum.inl ())
def dn_IsType_l14 (N : Nat) (a0 : List UInt8) : Nat → Int → Option (Unit ⊕ Bool)
  | 0, _ => none
  | n + 1, x => dn_IsType_l14_b N a0 (dn_IsType_l14 N a0 n) x
def dn_IsType (N : Nat) (a0 : List UInt8) : Option (Bool) :=
  Option.bind (
      bif (a0 == ([] : List UInt8)) then
        some true
      else
        bif decide ((a0.length : Int) > (16 : Int)) then
          some true
        else
          Option.bind (idxL a0 (0 : Int)) fun (x14 : UInt8) =>
          bif decide (((x14).toNat : Int) < (97 : Int)) then
            some true
          else
            Option.bind (idxL a0 (0 : Int)) fun (x19 : UInt8) =>
            some (decide (((x19).toNat : Int) > (122 : Int)))
    ) fun (g1 : Bool) =>
  bif g1 then
    some false
  else
    Option.bind (dn_IsType_l14 N a0 N 0) fun (y14 : Unit ⊕ Bool) =>
    Sum.elim (fun (y14 : Unit) =>
        some true
      ) (fun (y14 : Bool) =>
        some y14
      ) y14
def dn_IsRDN_1 (N : Nat) (a0 : api_AVA) (c0 : api_AVA) : Option (Bool) :=
  some (a0.Attr == c0.Attr)
def slices_IndexFunc_api_RDN_api_AVA_c38_l6_b (N : Nat) (a0 : List api_AVA) (a1_0 : api_AVA) (rec : Int → Option (Unit ⊕ Int)) : Int → Option (Unit ⊕ Int)
  | v8l6 =>
    bif decide (v8l6 < (a0.length : Int)) then
      Option.bind (idxL a0 v8l6) fun (x14 : api_AVA) =>
      Option.bind (dn_IsRDN_1 N x14 a1_0) fun (x16 : Bool) =>
      bif x16 then
        some (Sum.inr v8l6)
      else
        rec (w64 (v8l6 + (1 : Int)))
    else
      some (Sum.inl ())
def slices_IndexFunc_api_RDN_api_AVA_c38_l6 (N : Nat) (a0 : List api_AVA) (a1_0 : api_AVA) : Nat → Int → Option (Unit ⊕ Int)
  | 0, _ => none
  | n + 1, x => slices_IndexFunc_api_RDN_api_AVA_c38_l6_b N a0 a1_0 (slices_IndexFunc_api_RDN_api_AVA_c38_l6 N a0 a1_0 n) x
def slices_IndexFunc_api_RDN_api_AVA_c38 (N : Nat) (a0 : List api_AVA) (a1_0 : api_AVA) : Option (Int) :=
  Option.bind (slices_IndexFunc_api_RDN_api_AVA_c38_l6 N a0 a1_0 N 0) fun (y3 : Unit ⊕ Int) =>
  Sum.elim (fun (y3 : Unit) =>
      some (-1)
    ) (fun (y3 : Int) =>
      some y3
    ) y3
def slices_ContainsFunc_api_RDN_api_AVA_c38 (N : Nat) (a0 : List api_AVA) (a1_0 : api_AVA) : Option (Bool) :=
  Option.bind (slices_IndexFunc_api_RDN_api_AVA_c38 N a0 a1_0) fun (x7 : Int) =>
  some (decide (x7 ≥ (0 : Int)))
def dn_IsRDN_l6_b (N : Nat) (a0 : List api_AVA) (rec : Int → Option (Unit ⊕ Bool)) : Int → Option (Unit ⊕ Bool)
  | v7l6 =>
    bif decide (v7l6 < (a0.length : Int)) then
      Option.bind (idxL a0 v7l6) fun (x10 : api_AVA) =>
      Option.bind (
          bif decide (v7l6 ≥ (4 : Int)) then
            some true
          else
            Option.bind (dn_IsType N x10.Attr) fun (x17 : Bool) =>
            bif !x17 then
              some true
            else
              bif (x10.Value == ([] : List UInt8)) then
                some true
              else
                some (decide ((x10.Value.length : Int) > (60 : Int)))
        ) fun (g2 : Bool) =>
      bif g2 then
        some (Sum.inr false)
      else
        Option.bind (takeL a0 v7l6) fun (x33 : List api_AVA) =>
        Option.bind (slices_ContainsFunc_api_RDN_api_AVA_c38 N x33 (⟨x10.Attr, x10.Value⟩ : api_AVA)) fun (x35 : Bool) =>
        bif x35 then
          some (Sum.inr false)
        else
          rec (w64 (v7l6 + (1 : Int)))
    else
      some (Sum.inl ())
def dn_IsRDN_l6 (N : Nat) (a0 : List api_AVA) : Nat → Int → Option (Unit ⊕ Bool)
  | 0, _ => none
  | n + 1, x => dn_IsRDN_l6_b N a0 (dn_IsRDN_l6 N a0 n) x
def dn_IsRDN (N : Nat) (a0 : List api_AVA) : Option (Bool) :=
  Option.bind (dn_IsRDN_l6 N a0 N 0) fun (y8 : Unit ⊕ Bool) =>
  Sum.elim (fun (y8 : Unit) =>
      some (decide ((a0.length : Int) > (0 : Int)))
    ) (fun (y8 : Bool) =>
      some y8
    ) y8
def dn_ParseRDN_l8_b (N : Nat) (x13 : List (List UInt8)) (rec : (Int × List api_AVA) → Option ((List api_AVA) ⊕ (List api_AVA × Int))) : (Int × List api_AVA) → Option ((List api_AVA) ⊕ (List api_AVA × Int))
  | (v15l8, r1004l8) =>
    bif decide (v15l8 < (x13.length : Int)) then
      Option.bind (idxL x13 v15l8) fun (x17 : List UInt8) =>
      Option.bind (strings_Cut N x17 ([61] : List UInt8)) fun (x21 : List UInt8 × List UInt8 × Bool) =>
      Option.bind (dn_unescape N x21.2.1) fun (x27 : List UInt8 × Bool) =>
      Option.bind (
          bif !x21.2.2 then
            some true
          else
            bif !x27.2 then
              some true
            else
              some (decide ((r1004l8.length : Int) > (4 : Int)))
        ) fun (g2 : Bool) =>
      bif g2 then
        some (Sum.inr ([], 15))
      else
        Option.bind (dn_Lower N x21.1) fun (x43 : List UInt8) =>
        Option.bind (appL 32 r1004l8 [(⟨x43, x27.1⟩ : api_AVA)]) fun (x47 : List api_AVA) =>
        rec ((w64 (v15l8 + (1 : Int))), x47)
    else
      some (Sum.inl r1004l8)
def dn_ParseRDN_l8 (N : Nat) (x13 : List (List UInt8)) : Nat → (Int × List api_AVA) → Option ((List api_AVA) ⊕ (List api_AVA × Int))
  | 0, _ => none
  | n + 1, x => dn_ParseRDN_l8_b N x13 (dn_ParseRDN_l8 N x13 n) x
def dn_ParseRDN (N : Nat) (a0 : List UInt8) : Option (List api_AVA × Int) :=
  Option.bind (dn_cut N a0 (43 : UInt8)) fun (x13 : List (List UInt8)) =>
  Option.bind (dn_ParseRDN_l8 N x13 N (0, [])) fun (y6 : (List api_AVA) ⊕ (List api_AVA × Int)) =>
  Sum.elim (fun (y6 : List api_AVA) =>
      Option.bind (dn_IsRDN N y6) fun (x50 : Bool) =>
      bif !x50 then
        some ([], 15)
      else
        some (y6, 0)
    ) (fun (y6 : List api_AVA × Int) =>
      some (y6.1, y6.2)
    ) y6
def dn_Parse_l16_b (N : Nat) (x12 : List (List UInt8)) (rec : (Int × List (List api_AVA)) → Option ((List (List api_AVA)) ⊕ (List (List api_AVA) × Int))) : (Int × List (List api_AVA)) → Option ((List (List api_AVA)) ⊕ (List (List api_AVA) × Int))
  | (v14l16, r1004l16) =>
    bif decide (v14l16 < (x12.length : Int)) then
      Option.bind (idxL x12 v14l16) fun (x16 : List UInt8) =>
      Option.bind (dn_ParseRDN N x16) fun (x20 : List api_AVA × Int) =>
      Option.bind (
          bif (x20.2 != (0 : Int)) then
            some true
          else
            some ((r1004l16.length : Int) == (8 : Int))
        ) fun (g3 : Bool) =>
      bif g3 then
        some (Sum.inr ([], 15))
      else
        Option.bind (appL 24 r1004l16 [x20.1]) fun (x33 : List (List api_AVA)) =>
        rec ((w64 (v14l16 + (1 : Int))), x33)
    else
      some (Sum.inl r1004l16)
def dn_Parse_l16 (N : Nat) (x12 : List (List UInt8)) : Nat → (Int × List (List api_AVA)) → Option ((List (List api_AVA)) ⊕ (List (List api_AVA) × Int))
  | 0, _ => none
  | n + 1, x => dn_Parse_l16_b N x12 (dn_Parse_l16 N x12 n) x
def dn_Parse (N : Nat) (a0 : List UInt8) : Option (List (List api_AVA) × Int) :=
  bif (a0 == ([] : List UInt8)) then
    some ([], 0)
  else
    Option.bind (dn_cut N a0 (44 : UInt8)) fun (x12 : List (List UInt8)) =>
    Option.bind (dn_Parse_l16 N x12 N (0, [])) fun (y6 : (List (List api_AVA)) ⊕ (List (List api_AVA) × Int)) =>
    Sum.elim (fun (y6 : List (List api_AVA)) =>
        some (y6, 0)
      ) (fun (y6 : List (List api_AVA) × Int) =>
        some (y6.1, y6.2)
      ) y6
def dn_Is_1 (N : Nat) (a0 : List api_AVA) : Option (Bool) :=
  Option.bind (dn_IsRDN N a0) fun (x4 : Bool) =>
  some (!x4)
def slices_IndexFunc_api_DN_api_RDN_c36_l6_b (N : Nat) (a0 : List (List api_AVA)) (rec : Int → Option (Unit ⊕ Int)) : Int → Option (Unit ⊕ Int)
  | v8l6 =>
    bif decide (v8l6 < (a0.length : Int)) then
      Option.bind (idxL a0 v8l6) fun (x14 : List api_AVA) =>
      Option.bind (dn_Is_1 N x14) fun (x16 : Bool) =>
      bif x16 then
        some (Sum.inr v8l6)
      else
        rec (w64 (v8l6 + (1 : Int)))
    else
      some (Sum.inl ())
def slices_IndexFunc_api_DN_api_RDN_c36_l6 (N : Nat) (a0 : List (List api_AVA)) : Nat → Int → Option (Unit ⊕ Int)
  | 0, _ => none
  | n + 1, x => slices_IndexFunc_api_DN_api_RDN_c36_l6_b N a0 (slices_IndexFunc_api_DN_api_RDN_c36_l6 N a0 n) x
def slices_IndexFunc_api_DN_api_RDN_c36 (N : Nat) (a0 : List (List api_AVA)) : Option (Int) :=
  Option.bind (slices_IndexFunc_api_DN_api_RDN_c36_l6 N a0 N 0) fun (y3 : Unit ⊕ Int) =>
  Sum.elim (fun (y3 : Unit) =>
      some (-1)
    ) (fun (y3 : Int) =>
      some y3
    ) y3
def slices_ContainsFunc_api_DN_api_RDN_c36 (N : Nat) (a0 : List (List api_AVA)) : Option (Bool) :=
  Option.bind (slices_IndexFunc_api_DN_api_RDN_c36 N a0) fun (x7 : Int) =>
  some (decide (x7 ≥ (0 : Int)))
def dn_Is (N : Nat) (a0 : List (List api_AVA)) : Option (Bool) :=
  Option.bind (
      bif decide ((a0.length : Int) ≤ (8 : Int)) then
        Option.bind (slices_ContainsFunc_api_DN_api_RDN_c36 N a0) fun (x8 : Bool) =>
        some (!x8)
      else
        some false
    ) fun (g1 : Bool) =>
  some g1
def dn_Escape_j15p (v9l8 : Int) (rec : (Int × List UInt8) → Option (List UInt8)) (r6000002j15 : List UInt8) : Option (List UInt8) :=
  rec ((w64 (v9l8 + (1 : Int))), r6000002j15)
def dn_Escape_j20 (v9l8 : Int) (rec : (Int × List UInt8) → Option (List UInt8)) (x13 : UInt8) (r6000001j20 : List UInt8) : Option (List UInt8) :=
  Option.bind (appL 1 r6000001j20 [x13]) fun (x55 : List UInt8) =>
  dn_Escape_j15p v9l8 rec x55
def dn_Escape_j33 (v9l8 : Int) (r6000001l8 : List UInt8) (rec : (Int × List UInt8) → Option (List UInt8)) (x13 : UInt8) (v21j33 : Bool) : Option (List UInt8) :=
  bif v21j33 then
    Option.bind (appL 1 r6000001l8 [(92 : UInt8)]) fun (x53 : List UInt8) =>
    dn_Escape_j20 v9l8 rec x13 x53
  else
    dn_Escape_j20 v9l8 rec x13 r6000001l8
def dn_Escape_l8_b (N : Nat) (a0 : List UInt8) (rec : (Int × List UInt8) → Option (List UInt8)) : (Int × List UInt8) → Option (List UInt8)
  | (v9l8, r6000001l8) =>
    bif decide (v9l8 < (a0.length : Int)) then
      Option.bind (chkI v9l8 a0.length) fun (x12 : Nat) =>
      Option.bind (a0[x12]?) fun (x13 : UInt8) =>
      Option.bind (
          bif decide (((x13).toNat : Int) < (32 : Int)) then
            some true
          else
            some (decide (((x13).toNat : Int) > (126 : Int)))
        ) fun (g3 : Bool) =>
      bif g3 then
        Option.bind (appL 1 r6000001l8 [(92 : UInt8)]) fun (x44 : List UInt8) =>
        Option.bind (idxL ([48, 49, 50, 51, 52, 53, 54, 55, 56, 57, 97, 98, 99, 100, 101, 102] : List UInt8) (((shrB x13 4)).toNat : Int)) fun (x47 : UInt8) =>
        Option.bind (appL 1 x44 [x47]) fun (x48 : List UInt8) =>
        Option.bind (idxL ([48, 49, 50, 51, 52, 53, 54, 55, 56, 57, 97, 98, 99, 100, 101, 102] : List UInt8) (((x13 &&& (15 : UInt8))).toNat : Int)) fun (x51 : UInt8) =>
        Option.bind (appL 1 x48 [x51]) fun (x52 : List UInt8) =>
        dn_Escape_j15p v9l8 rec x52
      else
        Option.bind (strings_IndexByte N ([44, 43, 34, 92, 60, 62, 59] : List UInt8) x13) fun (x23 : Int) =>
        bif decide (x23 ≥ (0 : Int)) then
          dn_Escape_j33 v9l8 r6000001l8 rec x13 (decide (x23 ≥ (0 : Int)))
        else
          Option.bind (
              bif (v9l8 == (0 : Int)) then
                bif (((x13).toNat : Int) == (35 : Int)) then
                  some true
                else
                  some (((x13).toNat : Int) == (32 : Int))
              else
                some false
            ) fun (g8 : Bool) =>
          bif g8 then
            dn_Escape_j33 v9l8 r6000001l8 rec x13 g8
          else
            bif (v9l8 == (w64 ((a0.length : Int) - (1 : Int)))) then
              dn_Escape_j33 v9l8 r6000001l8 rec x13 (((x13).toNat : Int) == (32 : Int))
            else
              dn_Escape_j33 v9l8 r6000001l8 rec x13 false
    else
      some r6000001l8
def dn_Escape_l8 (N : Nat) (a0 : List UInt8) : Nat → (Int × List UInt8) → Option (List UInt8)
  | 0, _ => none
  | n + 1, x => dn_Escape_l8_b N a0 (dn_Escape_l8 N a0 n) x
def dn_Escape_j15 (a0 : List UInt8) (N : Nat) (r6000001j15 : List UInt8) : Option (List UInt8) :=
  Option.bind (dn_Escape_l8 N a0 N (1, r6000001j15)) fun (y13 : List UInt8) =>
  Option.bind (bldS y13) fun (x57 : List UInt8) =>
  some x57
def dn_Escape_j33p (a0 : List UInt8) (N : Nat) (x13 : UInt8) (v21j33 : Bool) : Option (List UInt8) :=
  bif v21j33 then
    Option.bind (appL 1 ([] : List UInt8) [(92 : UInt8)]) fun (x53 : List UInt8) =>
    Option.bind (appL 1 x53 [x13]) fun (x55 : List UInt8) =>
    dn_Escape_j15 a0 N x55
  else
    Option.bind (appL 1 ([] : List UInt8) [x13]) fun (x55 : List UInt8) =>
    dn_Escape_j15 a0 N x55
def dn_Escape (N : Nat) (a0 : List UInt8) : Option (List UInt8) :=
  bif decide ((0 : Int) < (a0.length : Int)) then
    Option.bind (chkI (0 : Int) a0.length) fun (x12 : Nat) =>
    Option.bind (a0[x12]?) fun (x13 : UInt8) =>
    Option.bind (
        bif decide (((x13).toNat : Int) < (32 : Int)) then
          some true
        else
          some (decide (((x13).toNat : Int) > (126 : Int)))
      ) fun (g14 : Bool) =>
    bif g14 then
      Option.bind (appL 1 ([] : List UInt8) [(92 : UInt8)]) fun (x44 : List UInt8) =>
      Option.bind (idxL ([48, 49, 50, 51, 52, 53, 54, 55, 56, 57, 97, 98, 99, 100, 101, 102] : List UInt8) (((shrB x13 4)).toNat : Int)) fun (x47 : UInt8) =>
      Option.bind (appL 1 x44 [x47]) fun (x48 : List UInt8) =>
      Option.bind (idxL ([48, 49, 50, 51, 52, 53, 54, 55, 56, 57, 97, 98, 99, 100, 101, 102] : List UInt8) (((x13 &&& (15 : UInt8))).toNat : Int)) fun (x51 : UInt8) =>
      Option.bind (appL 1 x48 [x51]) fun (x52 : List UInt8) =>
      dn_Escape_j15 a0 N x52
    else
      Option.bind (strings_IndexByte N ([44, 43, 34, 92, 60, 62, 59] : List UInt8) x13) fun (x23 : Int) =>
      bif decide (x23 ≥ (0 : Int)) then
        dn_Escape_j33p a0 N x13 (decide (x23 ≥ (0 : Int)))
      else
        Option.bind (
            bif (((x13).toNat : Int) == (35 : Int)) then
              some true
            else
              some (((x13).toNat : Int) == (32 : Int))
          ) fun (g19 : Bool) =>
        bif g19 then
          dn_Escape_j33p a0 N x13 g19
        else
          bif ((0 : Int) == (w64 ((a0.length : Int) - (1 : Int)))) then
            dn_Escape_j33p a0 N x13 (((x13).toNat : Int) == (32 : Int))
          else
            dn_Escape_j33p a0 N x13 false
  else
    some ([] : List UInt8)
def dn_Join_l8_b (N : Nat) (a0 : List api_AVA) (rec : (Int × List (List UInt8)) → Option (List (List UInt8))) : (Int × List (List UInt8)) → Option (List (List UInt8))
  | (v8l8, r1003l8) =>
    bif decide (v8l8 < (a0.length : Int)) then
      Option.bind (idxL a0 v8l8) fun (x10 : api_AVA) =>
      Option.bind (catS x10.Attr ([61] : List UInt8)) fun (x15 : List UInt8) =>
      Option.bind (dn_Escape N x10.Value) fun (x18 : List UInt8) =>
      Option.bind (catS x15 x18) fun (x19 : List UInt8) =>
      Option.bind (appL 16 r1003l8 [x19]) fun (x21 : List (List UInt8)) =>
      rec ((w64 (v8l8 + (1 : Int))), x21)
    else
      some r1003l8
def dn_Join_l8 (N : Nat) (a0 : List api_AVA) : Nat → (Int × List (List UInt8)) → Option (List (List UInt8))
  | 0, _ => none
  | n + 1, x => dn_Join_l8_b N a0 (dn_Join_l8 N a0 n) x
def dn_Join (N : Nat) (a0 : List api_AVA) : Option (List UInt8) :=
  Option.bind (dn_Join_l8 N a0 N (0, [])) fun (y2 : List (List UInt8)) =>
  Option.bind (strings_Join N y2 ([43] : List UInt8)) fun (x24 : List UInt8) =>
  some x24
def dn_Print_l16_b (N : Nat) (a0 : List (List api_AVA)) (rec : (Int × List (List UInt8)) → Option (List (List UInt8))) : (Int × List (List UInt8)) → Option (List (List UInt8))
  | (v11l16, r1003l16) =>
    bif decide (v11l16 < (a0.length : Int)) then
      Option.bind (idxL a0 v11l16) fun (x13 : List api_AVA) =>
      Option.bind (dn_Join N x13) fun (x17 : List UInt8) =>
      Option.bind (appL 16 r1003l16 [x17]) fun (x19 : List (List UInt8)) =>
      rec ((w64 (v11l16 + (1 : Int))), x19)
    else
      some r1003l16
def dn_Print_l16 (N : Nat) (a0 : List (List api_AVA)) : Nat → (Int × List (List UInt8)) → Option (List (List UInt8))
  | 0, _ => none
  | n + 1, x => dn_Print_l16_b N a0 (dn_Print_l16 N a0 n) x
def dn_Print (N : Nat) (a0 : List (List api_AVA)) : Option (List UInt8) :=
  Option.bind (dn_Is N a0) fun (x7 : Bool) =>
  bif !x7 then
    some ([] : List UInt8)
  else
    Option.bind (dn_Print_l16 N a0 N (0, [])) fun (y3 : List (List UInt8)) =>
    Option.bind (strings_Join N y3 ([44] : List UInt8)) fun (x22 : List UInt8) =>
    some x22
def dn_PrintRDN (N : Nat) (a0 : List api_AVA) : Option (List UInt8) :=
  Option.bind (dn_IsRDN N a0) fun (x4 : Bool) =>
  bif !x4 then
    some ([] : List UInt8)
  else
    Option.bind (dn_Join N a0) fun (x7 : List UInt8) =>
    some x7
def prefectlaw4_known (N : Nat)  : Option (Bool) :=
  Option.bind (dn_Parse N ([67, 78, 61, 97, 92, 44, 32, 98, 44, 111, 117, 61, 120, 43, 117, 105, 100, 61, 92, 99, 51, 121] : List UInt8)) fun (x8 : List (List api_AVA) × Int) =>
  Option.bind (dn_Parse N ([99, 110, 61, 32, 97] : List UInt8)) fun (x12 : List (List api_AVA) × Int) =>
  Option.bind (dn_ParseRDN N ([99, 110, 61, 97] : List UInt8)) fun (x16 : List api_AVA × Int) =>
  Option.bind (
      bif (x8.2 == (0 : Int)) then
        bif ((x8.1.length : Int) == (2 : Int)) then
          Option.bind (idxL x8.1 (0 : Int)) fun (x28 : List api_AVA) =>
          bif ((x28.length : Int) == (1 : Int)) then
            Option.bind (idxL x8.1 (0 : Int)) fun (x35 : List api_AVA) =>
            Option.bind (idxL x35 (0 : Int)) fun (x37 : api_AVA) =>
            bif (x37.Attr == ([99, 110] : List UInt8) && (x37.Value == ([97, 44, 32, 98] : List UInt8) && true)) then
              Option.bind (idxL x8.1 (1 : Int)) fun (x44 : List api_AVA) =>
              bif ((x44.length : Int) == (2 : Int)) then
                Option.bind (idxL x8.1 (1 : Int)) fun (x51 : List api_AVA) =>
                Option.bind (idxL x51 (1 : Int)) fun (x53 : api_AVA) =>
                bif (x53.Value == ([195, 121] : List UInt8)) then
                  bif (x12.2 == (15 : Int)) then
                    bif (x16.2 == (0 : Int)) then
                      bif ((x16.1.length : Int) == (1 : Int)) then
                        Option.bind (dn_Print N x8.1) fun (x73 : List UInt8) =>
                        bif (x73 == ([99, 110, 61, 97, 92, 44, 32, 98, 44, 111, 117, 61, 120, 43, 117, 105, 100, 61, 92, 99, 51, 121] : List UInt8)) then
                          Option.bind (dn_PrintRDN N x16.1) fun (x78 : List UInt8) =>
                          bif (x78 == ([99, 110, 61, 97] : List UInt8)) then
                            Option.bind (dn_Is N x8.1) fun (x83 : Bool) =>
                            bif x83 then
                              Option.bind (dn_IsRDN N x16.1) fun (x87 : Bool) =>
                              bif x87 then
                                Option.bind (dn_IsRDN N []) fun (x90 : Bool) =>
                                bif !x90 then
                                  Option.bind (dn_IsType N ([99, 110] : List UInt8)) fun (x94 : Bool) =>
                                  bif x94 then
                                    Option.bind (dn_Lower N ([97, 66] : List UInt8)) fun (x97 : List UInt8) =>
                                    some (x97 == ([97, 98] : List UInt8))
                                  else
                                    some false
                                else
                                  some false
                              else
                                some false
                            else
                              some false
                          else
                            some false
                        else
                          some false
                      else
                        some false
                    else
                      some false
                  else
                    some false
                else
                  some false
              else
                some false
            else
              some false
          else
            some false
        else
          some false
      else
        some false
    ) fun (g1 : Bool) =>
  some g1
def prefectlaw4_fewRDN_l6_b (N : Nat) (a0 : List api_AVA) (rec : Int → Option (Unit ⊕ Bool)) : Int → Option (Unit ⊕ Bool)
  | v3l6 =>
    bif decide (v3l6 < (a0.length : Int)) then
      Option.bind (
          Option.bind (idxL a0 v3l6) fun (x12 : api_AVA) =>
          bif decide ((x12.Attr.length : Int) > (30 : Int)) then
            some true
          else
            Option.bind (idxL a0 v3l6) fun (x20 : api_AVA) =>
            some (decide ((x20.Value.length : Int) > (80 : Int)))
        ) fun (g2 : Bool) =>
      bif g2 then
        some (Sum.inr false)
      else
        rec (w64 (v3l6 + (1 : Int)))
    else
      some (Sum.inl ())
def prefectlaw4_fewRDN_l6 (N : Nat) (a0 : List api_AVA) : Nat → Int → Option (Unit ⊕ Bool)
  | 0, _ => none
  | n + 1, x => prefectlaw4_fewRDN_l6_b N a0 (prefectlaw4_fewRDN_l6 N a0 n) x
def prefectlaw4_fewRDN (N : Nat) (a0 : List api_AVA) : Option (Bool) :=
  Option.bind (prefectlaw4_fewRDN_l6 N a0 N 0) fun (y5 : Unit ⊕ Bool) =>
  Sum.elim (fun (y5 : Unit) =>
      some (decide ((a0.length : Int) ≤ (6 : Int)))
    ) (fun (y5 : Bool) =>
      some y5
    ) y5
def prefectlaw4_few_l6_b (N : Nat) (a0 : List (List api_AVA)) (rec : Int → Option (Unit ⊕ Bool)) : Int → Option (Unit ⊕ Bool)
  | v3l6 =>
    bif decide (v3l6 < (a0.length : Int)) then
      Option.bind (idxL a0 v3l6) fun (x12 : List api_AVA) =>
      Option.bind (prefectlaw4_fewRDN N x12) fun (x14 : Bool) =>
      bif !x14 then
        some (Sum.inr false)
      else
        rec (w64 (v3l6 + (1 : Int)))
    else
      some (Sum.inl ())
def prefectlaw4_few_l6 (N : Nat) (a0 : List (List api_AVA)) : Nat → Int → Option (Unit ⊕ Bool)
  | 0, _ => none
  | n + 1, x => prefectlaw4_few_l6_b N a0 (prefectlaw4_few_l6 N a0 n) x
def prefectlaw4_few (N : Nat) (a0 : List (List api_AVA)) : Option (Bool) :=
  Option.bind (prefectlaw4_few_l6 N a0 N 0) fun (y3 : Unit ⊕ Bool) =>
  Sum.elim (fun (y3 : Unit) =>
      some (decide ((a0.length : Int) ≤ (12 : Int)))
    ) (fun (y3 : Bool) =>
      some y3
    ) y3
def prefectref4_IsType_l14_b (N : Nat) (a0 : List UInt8) (rec : Int → Option (Unit ⊕ Bool)) : Int → Option (Unit ⊕ Bool)
  | v3l14 =>
    bif decide (v3l14 < (a0.length : Int)) then
      Option.bind (idxL a0 v3l14) fun (x31 : UInt8) =>
      Option.bind (
          bif decide (((x31).toNat : Int) < (97 : Int)) then
            bif decide (((x31).toNat : Int) < (48 : Int)) then
              some (((x31).toNat : Int) != (45 : Int))
            else
              bif decide (((x31).toNat : Int) > (57 : Int)) then
                some (((x31).toNat : Int) != (45 : Int))
              else
                some false
          else
            bif decide (((x31).toNat : Int) > (122 : Int)) then
              bif decide (((x31).toNat : Int) < (48 : Int)) then
                some (((x31).toNat : Int) != (45 : Int))
              else
                bif decide (((x31).toNat : Int) > (57 : Int)) then
                  some (((x31).toNat : Int) != (45 : Int))
                else
                  some false
            else
              some false
        ) fun (g7 : Bool) =>
      bif g7 then
        some (Sum.inr false)
      else
        rec (w64 (v3l14 + (1 : Int)))
    else
      some (Sum.inl ())
def prefectref4_IsType_l14 (N : Nat) (a0 : List UInt8) : Nat → Int → Option (Unit ⊕ Bool)
  | 0, _ => none
  | n + 1, x => prefectref4_IsType_l14_b N a0 (prefectref4_IsType_l14 N a0 n) x
def prefectref4_IsType (N : Nat) (a0 : List UInt8) : Option (Bool) :=
  Option.bind (
      bif decide ((a0.length : Int) < (1 : Int)) then
        some true
      else
        bif decide ((a0.length : Int) > (16 : Int)) then
          some true
        else
          Option.bind (idxL a0 (0 : Int)) fun (x15 : UInt8) =>
          bif decide (((x15).toNat : Int) < (97 : Int)) then
            some true
          else
            Option.bind (idxL a0 (0 : Int)) fun (x20 : UInt8) =>
            some (decide (((x20).toNat : Int) > (122 : Int)))
    ) fun (g1 : Bool) =>
  bif g1 then
    some false
  else
    Option.bind (prefectref4_IsType_l14 N a0 N 0) fun (y15 : Unit ⊕ Bool) =>
    Sum.elim (fun (y15 : Unit) =>
        some true
      ) (fun (y15 : Bool) =>
        some y15
      ) y15
def prefectref4_IsRDN_l34_b (N : Nat) (a0 : List api_AVA) (v3l14 : Int) (rec : Int → Option (Unit ⊕ Bool)) : Int → Option (Unit ⊕ Bool)
  | v4l34 =>
    bif decide (v4l34 < v3l14) then
      Option.bind (idxL a0 v4l34) fun (x51 : api_AVA) =>
      Option.bind (idxL a0 v3l14) fun (x56 : api_AVA) =>
      bif (x51.Attr == x56.Attr) then
        some (Sum.inr false)
      else
        rec (w64 (v4l34 + (1 : Int)))
    else
      some (Sum.inl ())
def prefectref4_IsRDN_l34 (N : Nat) (a0 : List api_AVA) (v3l14 : Int) : Nat → Int → Option (Unit ⊕ Bool)
  | 0, _ => none
  | n + 1, x => prefectref4_IsRDN_l34_b N a0 v3l14 (prefectref4_IsRDN_l34 N a0 v3l14 n) x
def prefectref4_IsRDN_l14_b (N : Nat) (a0 : List api_AVA) (rec : Int → Option (Unit ⊕ Bool)) : Int → Option (Unit ⊕ Bool)
  | v3l14 =>
    bif decide (v3l14 < (a0.length : Int)) then
      Option.bind (
          Option.bind (idxL a0 v3l14) fun (x21 : api_AVA) =>
          Option.bind (prefectref4_IsType N x21.Attr) fun (x24 : Bool) =>
          bif !x24 then
            some true
          else
            Option.bind (idxL a0 v3l14) fun (x29 : api_AVA) =>
            bif decide ((x29.Value.length : Int) < (1 : Int)) then
              some true
            else
              Option.bind (idxL a0 v3l14) fun (x38 : api_AVA) =>
              some (decide ((x38.Value.length : Int) > (60 : Int)))
        ) fun (g5 : Bool) =>
      bif g5 then
        some (Sum.inr false)
      else
        Option.bind (prefectref4_IsRDN_l34 N a0 v3l14 N 0) fun (y11 : Unit ⊕ Bool) =>
        Sum.elim (fun (y11 : Unit) =>
            rec (w64 (v3l14 + (1 : Int)))
          ) (fun (y11 : Bool) =>
            some (Sum.inr y11)
          ) y11
    else
      some (Sum.inl ())
def prefectref4_IsRDN_l14 (N : Nat) (a0 : List api_AVA) : Nat → Int → Option (Unit ⊕ Bool)
  | 0, _ => none
  | n + 1, x => prefectref4_IsRDN_l14_b N a0 (prefectref4_IsRDN_l14 N a0 n) x
def prefectref4_IsRDN (N : Nat) (a0 : List api_AVA) : Option (Bool) :=
  Option.bind (
      bif decide ((a0.length : Int) < (1 : Int)) then
        some true
      else
        some (decide ((a0.length : Int) > (4 : Int)))
    ) fun (g1 : Bool) =>
  bif g1 then
    some false
  else
    Option.bind (prefectref4_IsRDN_l14 N a0 N 0) fun (y12 : Unit ⊕ Bool) =>
    Sum.elim (fun (y12 : Unit) =>
        some true
      ) (fun (y12 : Bool) =>
        some y12
      ) y12
def prefectref4_Is_l14_b (N : Nat) (a0 : List (List api_AVA)) (rec : Int → Option (Unit ⊕ Bool)) : Int → Option (Unit ⊕ Bool)
  | v3l14 =>
    bif decide (v3l14 < (a0.length : Int)) then
      Option.bind (idxL a0 v3l14) fun (x15 : List api_AVA) =>
      Option.bind (prefectref4_IsRDN N x15) fun (x17 : Bool) =>
      bif !x17 then
        some (Sum.inr false)
      else
        rec (w64 (v3l14 + (1 : Int)))
    else
      some (Sum.inl ())
def prefectref4_Is_l14 (N : Nat) (a0 : List (List api_AVA)) : Nat → Int → Option (Unit ⊕ Bool)
  | 0, _ => none
  | n + 1, x => prefectref4_Is_l14_b N a0 (prefectref4_Is_l14 N a0 n) x
def prefectref4_Is (N : Nat) (a0 : List (List api_AVA)) : Option (Bool) :=
  bif decide ((a0.length : Int) > (8 : Int)) then
    some false
  else
    Option.bind (prefectref4_Is_l14 N a0 N 0) fun (y4 : Unit ⊕ Bool) =>
    Sum.elim (fun (y4 : Unit) =>
        some true
      ) (fun (y4 : Bool) =>
        some y4
      ) y4
def prefectref4_special (N : Nat) (a0 : UInt8) : Option (Bool) :=
  Option.bind (
      bif (((a0).toNat : Int) == (44 : Int)) then
        some true
      else
        bif (((a0).toNat : Int) == (43 : Int)) then
          some true
        else
          bif (((a0).toNat : Int) == (34 : Int)) then
            some true
          else
            bif (((a0).toNat : Int) == (92 : Int)) then
              some true
            else
              bif (((a0).toNat : Int) == (60 : Int)) then
                some true
              else
                bif (((a0).toNat : Int) == (62 : Int)) then
                  some true
                else
                  some (((a0).toNat : Int) == (59 : Int))
    ) fun (g1 : Bool) =>
  some g1
def prefectref4_hex (N : Nat) (a0 : UInt8) : Option (List UInt8) :=
  Option.bind (cutL ([48, 49, 50, 51, 52, 53, 54, 55, 56, 57, 97, 98, 99, 100, 101, 102] : List UInt8) (((shrB a0 4)).toNat : Int) ((((shrB a0 4) + (1 : UInt8))).toNat : Int)) fun (x8 : List UInt8) =>
  Option.bind (cutL ([48, 49, 50, 51, 52, 53, 54, 55, 56, 57, 97, 98, 99, 100, 101, 102] : List UInt8) (((a0 &&& (15 : UInt8))).toNat : Int) ((((a0 &&& (15 : UInt8)) + (1 : UInt8))).toNat : Int)) fun (x14 : List UInt8) =>
  Option.bind (catS x8 x14) fun (x15 : List UInt8) =>
  some x15
def prefectref4_value_j15 (v4l8 : Int) (rec : (List UInt8 × Int) → Option (List UInt8)) (v3j15 : List UInt8) : Option (List UInt8) :=
  rec (v3j15, (w64 (v4l8 + (1 : Int))))
def prefectref4_value_l8_b (N : Nat) (a0 : List UInt8) (rec : (List UInt8 × Int) → Option (List UInt8)) : (List UInt8 × Int) → Option (List UInt8)
  | (v3l8, v4l8) =>
    bif decide (v4l8 < (a0.length : Int)) then
      Option.bind (idxL a0 v4l8) fun (x14 : UInt8) =>
      Option.bind (
          Option.bind (prefectref4_special N x14) fun (x24 : Bool) =>
          bif x24 then
            some true
          else
            bif (v4l8 == (0 : Int)) then
              bif (((x14).toNat : Int) == (35 : Int)) then
                some true
              else
                bif (((x14).toNat : Int) == (32 : Int)) then
                  some true
                else
                  bif (v4l8 == (w64 ((a0.length : Int) - (1 : Int)))) then
                    some (((x14).toNat : Int) == (32 : Int))
                  else
                    some false
            else
              bif (v4l8 == (w64 ((a0.length : Int) - (1 : Int)))) then
                some (((x14).toNat : Int) == (32 : Int))
              else
                some false
        ) fun (g2 : Bool) =>
      bif g2 then
        Option.bind (catS v3l8 ([92] : List UInt8)) fun (x49 : List UInt8) =>
        Option.bind (cutL a0 v4l8 (w64 (v4l8 + (1 : Int)))) fun (x54 : List UInt8) =>
        Option.bind (catS x49 x54) fun (x55 : List UInt8) =>
        prefectref4_value_j15 v4l8 rec x55
      else
        Option.bind (
            bif decide (((x14).toNat : Int) < (32 : Int)) then
              some true
            else
              some (decide (((x14).toNat : Int) > (126 : Int)))
          ) fun (g10 : Bool) =>
        bif g10 then
          Option.bind (catS v3l8 ([92] : List UInt8)) fun (x64 : List UInt8) =>
          Option.bind (prefectref4_hex N x14) fun (x66 : List UInt8) =>
          Option.bind (catS x64 x66) fun (x67 : List UInt8) =>
          prefectref4_value_j15 v4l8 rec x67
        else
          Option.bind (cutL a0 v4l8 (w64 (v4l8 + (1 : Int)))) fun (x20 : List UInt8) =>
          Option.bind (catS v3l8 x20) fun (x21 : List UInt8) =>
          prefectref4_value_j15 v4l8 rec x21
    else
      some v3l8
def prefectref4_value_l8 (N : Nat) (a0 : List UInt8) : Nat → (List UInt8 × Int) → Option (List UInt8)
  | 0, _ => none
  | n + 1, x => prefectref4_value_l8_b N a0 (prefectref4_value_l8 N a0 n) x
def prefectref4_value (N : Nat) (a0 : List UInt8) : Option (List UInt8) :=
  Option.bind (prefectref4_value_l8 N a0 N (([] : List UInt8), 0)) fun (y13 : List UInt8) =>
  some y13
def prefectref4_PrintRDN_j17 (a0 : List api_AVA) (N : Nat) (v4l8 : Int) (rec : (List UInt8 × Int) → Option (List UInt8)) (v3j17 : List UInt8) : Option (List UInt8) :=
  Option.bind (idxL a0 v4l8) fun (x18 : api_AVA) =>
  Option.bind (catS v3j17 x18.Attr) fun (x21 : List UInt8) =>
  Option.bind (catS x21 ([61] : List UInt8)) fun (x22 : List UInt8) =>
  Option.bind (idxL a0 v4l8) fun (x25 : api_AVA) =>
  Option.bind (prefectref4_value N x25.Value) fun (x28 : List UInt8) =>
  Option.bind (catS x22 x28) fun (x29 : List UInt8) =>
  rec (x29, (w64 (v4l8 + (1 : Int))))
def prefectref4_PrintRDN_l8_b (N : Nat) (a0 : List api_AVA) (rec : (List UInt8 × Int) → Option (List UInt8)) : (List UInt8 × Int) → Option (List UInt8)
  | (v3l8, v4l8) =>
    bif decide (v4l8 < (a0.length : Int)) then
      bif decide (v4l8 > (0 : Int)) then
        Option.bind (catS v3l8 ([43] : List UInt8)) fun (x14 : List UInt8) =>
        prefectref4_PrintRDN_j17 a0 N v4l8 rec x14
      else
        prefectref4_PrintRDN_j17 a0 N v4l8 rec v3l8
    else
      some v3l8
def prefectref4_PrintRDN_l8 (N : Nat) (a0 : List api_AVA) : Nat → (List UInt8 × Int) → Option (List UInt8)
  | 0, _ => none
  | n + 1, x => prefectref4_PrintRDN_l8_b N a0 (prefectref4_PrintRDN_l8 N a0 n) x
def prefectref4_PrintRDN (N : Nat) (a0 : List api_AVA) : Option (List UInt8) :=
  Option.bind (prefectref4_PrintRDN_l8 N a0 N (([] : List UInt8), 0)) fun (y3 : List UInt8) =>
  some y3
def prefectref4_Print_j17 (a0 : List (List api_AVA)) (N : Nat) (v4l8 : Int) (rec : (List UInt8 × Int) → Option (List UInt8)) (v3j17 : List UInt8) : Option (List UInt8) :=
  Option.bind (idxL a0 v4l8) fun (x18 : List api_AVA) =>
  Option.bind (prefectref4_PrintRDN N x18) fun (x20 : List UInt8) =>
  Option.bind (catS v3j17 x20) fun (x21 : List UInt8) =>
  rec (x21, (w64 (v4l8 + (1 : Int))))
def prefectref4_Print_l8_b (N : Nat) (a0 : List (List api_AVA)) (rec : (List UInt8 × Int) → Option (List UInt8)) : (List UInt8 × Int) → Option (List UInt8)
  | (v3l8, v4l8) =>
    bif decide (v4l8 < (a0.length : Int)) then
      bif decide (v4l8 > (0 : Int)) then
        Option.bind (catS v3l8 ([44] : List UInt8)) fun (x14 : List UInt8) =>
        prefectref4_Print_j17 a0 N v4l8 rec x14
      else
        prefectref4_Print_j17 a0 N v4l8 rec v3l8
    else
      some v3l8
def prefectref4_Print_l8 (N : Nat) (a0 : List (List api_AVA)) : Nat → (List UInt8 × Int) → Option (List UInt8)
  | 0, _ => none
  | n + 1, x => prefectref4_Print_l8_b N a0 (prefectref4_Print_l8 N a0 n) x
def prefectref4_Print (N : Nat) (a0 : List (List api_AVA)) : Option (List UInt8) :=
  Option.bind (prefectref4_Print_l8 N a0 N (([] : List UInt8), 0)) fun (y3 : List UInt8) =>
  some y3
def prefectref4_cut_j17 (rec : (Int × Int × List (List UInt8)) → Option (Int × List (List UInt8))) (v6j17 : Int) (v7j17 : Int) (r1005j17 : List (List UInt8)) : Option (Int × List (List UInt8)) :=
  rec (v6j17, (w64 (v7j17 + (1 : Int))), r1005j17)
def prefectref4_cut_l10_b (N : Nat) (a0 : List UInt8) (a1 : UInt8) (rec : (Int × Int × List (List UInt8)) → Option (Int × List (List UInt8))) : (Int × Int × List (List UInt8)) → Option (Int × List (List UInt8))
  | (v6l10, v7l10, r1005l10) =>
    bif decide (v7l10 < (a0.length : Int)) then
      Option.bind (idxL a0 v7l10) fun (x16 : UInt8) =>
      bif (((x16).toNat : Int) == (92 : Int)) then
        prefectref4_cut_j17 rec v6l10 (w64 (v7l10 + (1 : Int))) r1005l10
      else
        Option.bind (idxL a0 v7l10) fun (x22 : UInt8) =>
        bif (((x22).toNat : Int) == ((a1).toNat : Int)) then
          Option.bind (cutL a0 v6l10 v7l10) fun (x29 : List UInt8) =>
          Option.bind (appL 16 r1005l10 [x29]) fun (x31 : List (List UInt8)) =>
          prefectref4_cut_j17 rec (w64 (v7l10 + (1 : Int))) v7l10 x31
        else
          prefectref4_cut_j17 rec v6l10 v7l10 r1005l10
    else
      some (v6l10, r1005l10)
def prefectref4_cut_l10 (N : Nat) (a0 : List UInt8) (a1 : UInt8) : Nat → (Int × Int × List (List UInt8)) → Option (Int × List (List UInt8))
  | 0, _ => none
  | n + 1, x => prefectref4_cut_l10_b N a0 a1 (prefectref4_cut_l10 N a0 a1 n) x
def prefectref4_cut (N : Nat) (a0 : List UInt8) (a1 : UInt8) : Option (List (List UInt8)) :=
  Option.bind (prefectref4_cut_l10 N a0 a1 N (0, 0, [])) fun (y4 : Int × List (List UInt8)) =>
  Option.bind (dropL a0 y4.1) fun (x37 : List UInt8) =>
  Option.bind (appL 16 y4.2 [x37]) fun (x39 : List (List UInt8)) =>
  some x39
def prefectref4_digit (N : Nat) (a0 : UInt8) : Option (Int) :=
  Option.bind (
      bif decide (((a0).toNat : Int) ≥ (48 : Int)) then
        some (decide (((a0).toNat : Int) ≤ (57 : Int)))
      else
        some false
    ) fun (g1 : Bool) =>
  bif g1 then
    some (((a0 - (48 : UInt8))).toNat : Int)
  else
    Option.bind (
        bif decide (((a0).toNat : Int) ≥ (97 : Int)) then
          some (decide (((a0).toNat : Int) ≤ (102 : Int)))
        else
          some false
      ) fun (g4 : Bool) =>
    bif g4 then
      some (w64 ((((a0 - (97 : UInt8))).toNat : Int) + (10 : Int)))
    else
      Option.bind (
          bif decide (((a0).toNat : Int) ≥ (65 : Int)) then
            some (decide (((a0).toNat : Int) ≤ (70 : Int)))
          else
            some false
        ) fun (g7 : Bool) =>
      bif g7 then
        some (w64 ((((a0 - (65 : UInt8))).toNat : Int) + (10 : Int)))
      else
        some (-1)
def prefectref4_plain_j15 (rec : (Int × List UInt8) → Option ((List UInt8) ⊕ (List UInt8 × Bool))) (v5j15 : Int) (r1004j15 : List UInt8) : Option ((List UInt8) ⊕ (List UInt8 × Bool)) :=
  rec ((w64 (v5j15 + (1 : Int))), r1004j15)
def prefectref4_plain_l8_b (N : Nat) (a0 : List UInt8) (rec : (Int × List UInt8) → Option ((List UInt8) ⊕ (List UInt8 × Bool))) : (Int × List UInt8) → Option ((List UInt8) ⊕ (List UInt8 × Bool))
  | (v5l8, r1004l8) =>
    bif decide (v5l8 < (a0.length : Int)) then
      Option.bind (idxL a0 v5l8) fun (x15 : UInt8) =>
      bif (((x15).toNat : Int) != (92 : Int)) then
        Option.bind (
            Option.bind (prefectref4_special N x15) fun (x19 : Bool) =>
            bif x19 then
              some true
            else
              bif (v5l8 == (0 : Int)) then
                bif (((x15).toNat : Int) == (35 : Int)) then
                  some true
                else
                  bif (((x15).toNat : Int) == (32 : Int)) then
                    some true
                  else
                    bif (v5l8 == (w64 ((a0.length : Int) - (1 : Int)))) then
                      some (((x15).toNat : Int) == (32 : Int))
                    else
                      some false
              else
                bif (v5l8 == (w64 ((a0.length : Int) - (1 : Int)))) then
                  some (((x15).toNat : Int) == (32 : Int))
                else
                  some false
          ) fun (g3 : Bool) =>
        bif g3 then
          some (Sum.inr (([] : List UInt8), false))
        else
          Option.bind (appL 1 r1004l8 [x15]) fun (x46 : List UInt8) =>
          prefectref4_plain_j15 rec v5l8 x46
      else
        Option.bind (
            bif decide ((w64 (v5l8 + (1 : Int))) < (a0.length : Int)) then
              Option.bind (idxL a0 (w64 (v5l8 + (1 : Int)))) fun (x57 : UInt8) =>
              Option.bind (prefectref4_special N x57) fun (x58 : Bool) =>
              bif x58 then
                some true
              else
                Option.bind (idxL a0 (w64 (v5l8 + (1 : Int)))) fun (x63 : UInt8) =>
                bif (((x63).toNat : Int) == (35 : Int)) then
                  some true
                else
                  Option.bind (idxL a0 (w64 (v5l8 + (1 : Int)))) fun (x70 : UInt8) =>
                  bif (((x70).toNat : Int) == (61 : Int)) then
                    some true
                  else
                    Option.bind (idxL a0 (w64 (v5l8 + (1 : Int)))) fun (x77 : UInt8) =>
                    some (((x77).toNat : Int) == (32 : Int))
            else
              some false
          ) fun (g11 : Bool) =>
        bif g11 then
          Option.bind (idxL a0 (w64 (v5l8 + (1 : Int)))) fun (x85 : UInt8) =>
          Option.bind (appL 1 r1004l8 [x85]) fun (x87 : List UInt8) =>
          prefectref4_plain_j15 rec (w64 (v5l8 + (1 : Int))) x87
        else
          Option.bind (
              bif decide ((w64 (v5l8 + (2 : Int))) < (a0.length : Int)) then
                Option.bind (idxL a0 (w64 (v5l8 + (1 : Int)))) fun (x100 : UInt8) =>
                Option.bind (prefectref4_digit N x100) fun (x101 : Int) =>
                bif decide (x101 ≥ (0 : Int)) then
                  Option.bind (idxL a0 (w64 (v5l8 + (2 : Int)))) fun (x108 : UInt8) =>
                  Option.bind (prefectref4_digit N x108) fun (x109 : Int) =>
                  some (decide (x109 ≥ (0 : Int)))
                else
                  some false
              else
                some false
            ) fun (g17 : Bool) =>
          bif g17 then
            Option.bind (idxL a0 (w64 (v5l8 + (1 : Int)))) fun (x116 : UInt8) =>
            Option.bind (prefectref4_digit N x116) fun (x117 : Int) =>
            Option.bind (idxL a0 (w64 (v5l8 + (2 : Int)))) fun (x122 : UInt8) =>
            Option.bind (prefectref4_digit N x122) fun (x123 : Int) =>
            Option.bind (appL 1 r1004l8 [(byte (w64 ((w64 ((16 : Int) * x117)) + x123)))]) fun (x127 : List UInt8) =>
            prefectref4_plain_j15 rec (w64 (v5l8 + (2 : Int))) x127
          else
            some (Sum.inr (([] : List UInt8), false))
    else
      some (Sum.inl r1004l8)
def prefectref4_plain_l8 (N : Nat) (a0 : List UInt8) : Nat → (Int × List UInt8) → Option ((List UInt8) ⊕ (List UInt8 × Bool))
  | 0, _ => none
  | n + 1, x => prefectref4_plain_l8_b N a0 (prefectref4_plain_l8 N a0 n) x
def prefectref4_plain (N : Nat) (a0 : List UInt8) : Option (List UInt8 × Bool) :=
  Option.bind (prefectref4_plain_l8 N a0 N (0, [])) fun (y21 : (List UInt8) ⊕ (List UInt8 × Bool)) =>
  Sum.elim (fun (y21 : List UInt8) =>
      some (y21, true)
    ) (fun (y21 : List UInt8 × Bool) =>
      some (y21.1, y21.2)
    ) y21
def prefectref4_Lower_j15 (v4l8 : Int) (rec : (Int × List UInt8) → Option (List UInt8)) (r6j15 : List UInt8) : Option (List UInt8) :=
  rec ((w64 (v4l8 + (1 : Int))), r6j15)
def prefectref4_Lower_l8_b (N : Nat) (rec : (Int × List UInt8) → Option (List UInt8)) : (Int × List UInt8) → Option (List UInt8)
  | (v4l8, r6l8) =>
    bif decide (v4l8 < (r6l8.length : Int)) then
      Option.bind (
          Option.bind (chkI v4l8 r6l8.length) fun (x15 : Nat) =>
          Option.bind (r6l8[x15]?) fun (x16 : UInt8) =>
          bif decide (((x16).toNat : Int) ≥ (65 : Int)) then
            Option.bind (chkI v4l8 r6l8.length) fun (x21 : Nat) =>
            Option.bind (r6l8[x21]?) fun (x22 : UInt8) =>
            some (decide (((x22).toNat : Int) ≤ (90 : Int)))
          else
            some false
        ) fun (g2 : Bool) =>
      bif g2 then
        Option.bind (chkI v4l8 r6l8.length) fun (x29 : Nat) =>
        Option.bind (r6l8[x29]?) fun (x30 : UInt8) =>
        Option.bind (chkI v4l8 r6l8.length) fun (x32 : Nat) =>
        Option.bind (r6l8[x32]?) fun (x9004 : UInt8) =>
        prefectref4_Lower_j15 v4l8 rec (r6l8.set x32 (x30 + (32 : UInt8)))
      else
        prefectref4_Lower_j15 v4l8 rec r6l8
    else
      some r6l8
def prefectref4_Lower_l8 (N : Nat) : Nat → (Int × List UInt8) → Option (List UInt8)
  | 0, _ => none
  | n + 1, x => prefectref4_Lower_l8_b N (prefectref4_Lower_l8 N n) x
def prefectref4_Lower (N : Nat) (a0 : List UInt8) : Option (List UInt8) :=
  Option.bind (prefectref4_Lower_l8 N N (0, a0)) fun (y6 : List UInt8) =>
  some y6
def prefectref4_ParseRDN_l23_b (N : Nat) (x11 : List (List UInt8)) (v6l10 : Int) (r1004l10 : List api_AVA) (rec : Int → Option (Int)) : Int → Option (Int)
  | v7l23 =>
    Option.bind (
        Option.bind (idxL x11 v6l10) fun (x21 : List UInt8) =>
        bif decide (v7l23 < (x21.length : Int)) then
          Option.bind (idxL x11 v6l10) fun (x28 : List UInt8) =>
          Option.bind (idxL x28 v7l23) fun (x31 : UInt8) =>
          some (((x31).toNat : Int) != (61 : Int))
        else
          some false
      ) fun (g2 : Bool) =>
    bif g2 then
      rec (w64 (v7l23 + (1 : Int)))
    else
      some v7l23
def prefectref4_ParseRDN_l23 (N : Nat) (x11 : List (List UInt8)) (v6l10 : Int) (r1004l10 : List api_AVA) : Nat → Int → Option (Int)
  | 0, _ => none
  | n + 1, x => prefectref4_ParseRDN_l23_b N x11 v6l10 r1004l10 (prefectref4_ParseRDN_l23 N x11 v6l10 r1004l10 n) x
def prefectref4_ParseRDN_l10_b (N : Nat) (x11 : List (List UInt8)) (rec : (Int × List api_AVA) → Option ((List api_AVA) ⊕ (List api_AVA × Bool))) : (Int × List api_AVA) → Option ((List api_AVA) ⊕ (List api_AVA × Bool))
  | (v6l10, r1004l10) =>
    bif decide (v6l10 < (x11.length : Int)) then
      Option.bind (prefectref4_ParseRDN_l23 N x11 v6l10 r1004l10 N 0) fun (y5 : Int) =>
      Option.bind (
          Option.bind (idxL x11 v6l10) fun (x39 : List UInt8) =>
          bif (y5 == (x39.length : Int)) then
            some true
          else
            Option.bind (idxL x11 v6l10) fun (x46 : List UInt8) =>
            Option.bind (prefectref4_cut N x46 (44 : UInt8)) fun (x48 : List (List UInt8)) =>
            some (decide ((x48.length : Int) > (1 : Int)))
        ) fun (g6 : Bool) =>
      bif g6 then
        some (Sum.inr ([], false))
      else
        Option.bind (idxL x11 v6l10) fun (x55 : List UInt8) =>
        Option.bind (dropL x55 (w64 (y5 + (1 : Int)))) fun (x59 : List UInt8) =>
        Option.bind (prefectref4_plain N x59) fun (x60 : List UInt8 × Bool) =>
        bif !x60.2 then
          some (Sum.inr ([], false))
        else
          Option.bind (idxL x11 v6l10) fun (x68 : List UInt8) =>
          Option.bind (takeL x68 y5) fun (x71 : List UInt8) =>
          Option.bind (prefectref4_Lower N x71) fun (x72 : List UInt8) =>
          Option.bind (appL 32 r1004l10 [(⟨x72, x60.1⟩ : api_AVA)]) fun (x76 : List api_AVA) =>
          rec ((w64 (v6l10 + (1 : Int))), x76)
    else
      some (Sum.inl r1004l10)
def prefectref4_ParseRDN_l10 (N : Nat) (x11 : List (List UInt8)) : Nat → (Int × List api_AVA) → Option ((List api_AVA) ⊕ (List api_AVA × Bool))
  | 0, _ => none
  | n + 1, x => prefectref4_ParseRDN_l10_b N x11 (prefectref4_ParseRDN_l10 N x11 n) x
def prefectref4_ParseRDN (N : Nat) (a0 : List UInt8) : Option (List api_AVA × Bool) :=
  Option.bind (prefectref4_cut N a0 (43 : UInt8)) fun (x11 : List (List UInt8)) =>
  Option.bind (prefectref4_ParseRDN_l10 N x11 N (0, [])) fun (y10 : (List api_AVA) ⊕ (List api_AVA × Bool)) =>
  Sum.elim (fun (y10 : List api_AVA) =>
      Option.bind (prefectref4_IsRDN N y10) fun (x78 : Bool) =>
      bif !x78 then
        some ([], false)
      else
        some (y10, true)
    ) (fun (y10 : List api_AVA × Bool) =>
      some (y10.1, y10.2)
    ) y10
def prefectref4_Parse_l18_b (N : Nat) (x12 : List (List UInt8)) (rec : (Int × List (List api_AVA)) → Option ((List (List api_AVA)) ⊕ (List (List api_AVA) × Bool))) : (Int × List (List api_AVA)) → Option ((List (List api_AVA)) ⊕ (List (List api_AVA) × Bool))
  | (v6l18, r1004l18) =>
    bif decide (v6l18 < (x12.length : Int)) then
      Option.bind (idxL x12 v6l18) fun (x22 : List UInt8) =>
      Option.bind (prefectref4_ParseRDN N x22) fun (x24 : List api_AVA × Bool) =>
      bif !x24.2 then
        some (Sum.inr ([], false))
      else
        Option.bind (appL 24 r1004l18 [x24.1]) fun (x32 : List (List api_AVA)) =>
        rec ((w64 (v6l18 + (1 : Int))), x32)
    else
      some (Sum.inl r1004l18)
def prefectref4_Parse_l18 (N : Nat) (x12 : List (List UInt8)) : Nat → (Int × List (List api_AVA)) → Option ((List (List api_AVA)) ⊕ (List (List api_AVA) × Bool))
  | 0, _ => none
  | n + 1, x => prefectref4_Parse_l18_b N x12 (prefectref4_Parse_l18 N x12 n) x
def prefectref4_Parse (N : Nat) (a0 : List UInt8) : Option (List (List api_AVA) × Bool) :=
  bif (a0 == ([] : List UInt8)) then
    some ([], true)
  else
    Option.bind (prefectref4_cut N a0 (44 : UInt8)) fun (x12 : List (List UInt8)) =>
    Option.bind (prefectref4_Parse_l18 N x12 N (0, [])) fun (y4 : (List (List api_AVA)) ⊕ (List (List api_AVA) × Bool)) =>
    Sum.elim (fun (y4 : List (List api_AVA)) =>
        Option.bind (prefectref4_Is N y4) fun (x34 : Bool) =>
        bif !x34 then
          some ([], false)
        else
          some (y4, true)
      ) (fun (y4 : List (List api_AVA) × Bool) =>
        some (y4.1, y4.2)
      ) y4
def prefectref4_SameRDN_l14_b (N : Nat) (a0 : List api_AVA) (a1 : List api_AVA) (rec : Int → Option (Unit ⊕ Bool)) : Int → Option (Unit ⊕ Bool)
  | v5l14 =>
    bif decide (v5l14 < (a0.length : Int)) then
      Option.bind (idxL a0 v5l14) fun (x19 : api_AVA) =>
      Option.bind (idxL a1 v5l14) fun (x23 : api_AVA) =>
      bif !(x19.Attr == x23.Attr && (x19.Value == x23.Value && true)) then
        some (Sum.inr false)
      else
        rec (w64 (v5l14 + (1 : Int)))
    else
      some (Sum.inl ())
def prefectref4_SameRDN_l14 (N : Nat) (a0 : List api_AVA) (a1 : List api_AVA) : Nat → Int → Option (Unit ⊕ Bool)
  | 0, _ => none
  | n + 1, x => prefectref4_SameRDN_l14_b N a0 a1 (prefectref4_SameRDN_l14 N a0 a1 n) x
def prefectref4_SameRDN (N : Nat) (a0 : List api_AVA) (a1 : List api_AVA) : Option (Bool) :=
  bif ((a0.length : Int) != (a1.length : Int)) then
    some false
  else
    Option.bind (prefectref4_SameRDN_l14 N a0 a1 N 0) fun (y4 : Unit ⊕ Bool) =>
    Sum.elim (fun (y4 : Unit) =>
        some true
      ) (fun (y4 : Bool) =>
        some y4
      ) y4
def prefectlaw4_same_l14_b (N : Nat) (a0 : List (List api_AVA)) (a1 : List (List api_AVA)) (rec : Int → Option (Unit ⊕ Bool)) : Int → Option (Unit ⊕ Bool)
  | v5l14 =>
    bif decide (v5l14 < (a0.length : Int)) then
      Option.bind (idxL a0 v5l14) fun (x19 : List api_AVA) =>
      Option.bind (idxL a1 v5l14) fun (x23 : List api_AVA) =>
      Option.bind (prefectref4_SameRDN N x19 x23) fun (x25 : Bool) =>
      bif !x25 then
        some (Sum.inr false)
      else
        rec (w64 (v5l14 + (1 : Int)))
    else
      some (Sum.inl ())
def prefectlaw4_same_l14 (N : Nat) (a0 : List (List api_AVA)) (a1 : List (List api_AVA)) : Nat → Int → Option (Unit ⊕ Bool)
  | 0, _ => none
  | n + 1, x => prefectlaw4_same_l14_b N a0 a1 (prefectlaw4_same_l14 N a0 a1 n) x
def prefectlaw4_same (N : Nat) (a0 : List (List api_AVA)) (a1 : List (List api_AVA)) : Option (Bool) :=
  bif ((a0.length : Int) != (a1.length : Int)) then
    some false
  else
    Option.bind (prefectlaw4_same_l14 N a0 a1 N 0) fun (y4 : Unit ⊕ Bool) =>
    Sum.elim (fun (y4 : Unit) =>
        some true
      ) (fun (y4 : Bool) =>
        some y4
      ) y4
def prefectlaw4_NameTells_j26 (a0 : List (List api_AVA)) (a1 : List api_AVA) (a2 : List UInt8) (N : Nat) (v7j20 : List UInt8) (v8j26 : List UInt8) : Option (Bool) :=
  Option.bind (dn_Parse N a2) fun (x42 : List (List api_AVA) × Int) =>
  Option.bind (prefectref4_Parse N a2) fun (x47 : List (List api_AVA) × Bool) =>
  Option.bind (dn_ParseRDN N a2) fun (x52 : List api_AVA × Int) =>
  Option.bind (prefectref4_ParseRDN N a2) fun (x57 : List api_AVA × Bool) =>
  Option.bind (
      bif !((x42.2 == (0 : Int)) == x47.2) then
        some true
      else
        bif !((x52.2 == (0 : Int)) == x57.2) then
          some true
        else
          Option.bind (prefectlaw4_same N x42.1 x47.1) fun (x73 : Bool) =>
          bif !x73 then
            some true
          else
            Option.bind (prefectref4_SameRDN N x52.1 x57.1) fun (x79 : Bool) =>
            bif !x79 then
              some true
            else
              bif (x42.2 != (0 : Int)) then
                bif (x42.2 != (15 : Int)) then
                  some true
                else
                  bif (x52.2 != (0 : Int)) then
                    some (x52.2 != (15 : Int))
                  else
                    some false
              else
                bif (x52.2 != (0 : Int)) then
                  some (x52.2 != (15 : Int))
                else
                  some false
    ) fun (g6 : Bool) =>
  bif g6 then
    some false
  else
    Option.bind (
        Option.bind (dn_Is N a0) fun (x99 : Bool) =>
        Option.bind (prefectref4_Is N a0) fun (x101 : Bool) =>
        bif (x99 == x101) then
          Option.bind (dn_IsRDN N a1) fun (x105 : Bool) =>
          Option.bind (prefectref4_IsRDN N a1) fun (x107 : Bool) =>
          bif (x105 == x107) then
            Option.bind (dn_Print N a0) fun (x112 : List UInt8) =>
            bif (x112 == v7j20) then
              Option.bind (dn_PrintRDN N a1) fun (x118 : List UInt8) =>
              bif (x118 == v8j26) then
                Option.bind (dn_IsType N a2) fun (x124 : Bool) =>
                Option.bind (prefectref4_IsType N a2) fun (x126 : Bool) =>
                bif (x124 == x126) then
                  Option.bind (dn_Lower N a2) fun (x131 : List UInt8) =>
                  Option.bind (prefectref4_Lower N a2) fun (x133 : List UInt8) =>
                  some (x131 == x133)
                else
                  some false
              else
                some false
            else
              some false
          else
            some false
        else
          some false
      ) fun (g16 : Bool) =>
    some g16
def prefectlaw4_NameTells_j20 (a0 : List (List api_AVA)) (a1 : List api_AVA) (a2 : List UInt8) (N : Nat) (v7j20 : List UInt8) : Option (Bool) :=
  Option.bind (prefectref4_IsRDN N a1) fun (x37 : Bool) =>
  bif x37 then
    Option.bind (prefectref4_PrintRDN N a1) fun (x39 : List UInt8) =>
    prefectlaw4_NameTells_j26 a0 a1 a2 N v7j20 x39
  else
    prefectlaw4_NameTells_j26 a0 a1 a2 N v7j20 ([] : List UInt8)
def prefectlaw4_NameTells (N : Nat) (a0 : List (List api_AVA)) (a1 : List api_AVA) (a2 : List UInt8) : Option (Bool) :=
  Option.bind (prefectlaw4_known N) fun (x17 : Bool) =>
  bif !x17 then
    some false
  else
    Option.bind (
        Option.bind (prefectlaw4_few N a0) fun (x20 : Bool) =>
        bif !x20 then
          some true
        else
          Option.bind (prefectlaw4_fewRDN N a1) fun (x24 : Bool) =>
          bif !x24 then
            some true
          else
            some (decide ((a2.length : Int) > (400 : Int)))
      ) fun (g2 : Bool) =>
    bif g2 then
      some true
    else
      Option.bind (prefectref4_Is N a0) fun (x33 : Bool) =>
      bif x33 then
        Option.bind (prefectref4_Print N a0) fun (x35 : List UInt8) =>
        prefectlaw4_NameTells_j20 a0 a1 a2 N x35
      else
        prefectlaw4_NameTells_j20 a0 a1 a2 N ([] : List UInt8)
def prefectlaw4_NameBack (N : Nat) (a0 : List (List api_AVA)) (a1 : List (List api_AVA)) : Option (Bool) :=
  Option.bind (prefectlaw4_known N) fun (x10 : Bool) =>
  bif !x10 then
    some false
  else
    Option.bind (
        Option.bind (prefectlaw4_few N a0) fun (x13 : Bool) =>
        bif !x13 then
          some true
        else
          Option.bind (prefectlaw4_few N a1) fun (x17 : Bool) =>
          bif !x17 then
            some true
          else
            Option.bind (dn_Is N a0) fun (x22 : Bool) =>
            bif !x22 then
              some true
            else
              Option.bind (dn_Is N a1) fun (x27 : Bool) =>
              some (!x27)
      ) fun (g2 : Bool) =>
    bif g2 then
      some true
    else
      Option.bind (dn_Print N a0) fun (x31 : List UInt8) =>
      Option.bind (dn_Parse N x31) fun (x34 : List (List api_AVA) × Int) =>
      Option.bind (
          bif (x34.2 != (0 : Int)) then
            some true
          else
            Option.bind (prefectlaw4_same N x34.1 a0) fun (x42 : Bool) =>
            bif !x42 then
              some true
            else
              some (!((x31 == ([] : List UInt8)) == ((a0.length : Int) == (0 : Int))))
        ) fun (g7 : Bool) =>
      bif g7 then
        some false
      else
        Option.bind (
            bif ((a0.length : Int) == (0 : Int)) then
              some true
            else
              some ((a1.length : Int) == (0 : Int))
          ) fun (g11 : Bool) =>
        bif g11 then
          some true
        else
          Option.bind (catS x31 ([44] : List UInt8)) fun (x63 : List UInt8) =>
          Option.bind (dn_Print N a1) fun (x65 : List UInt8) =>
          Option.bind (catS x63 x65) fun (x66 : List UInt8) =>
          Option.bind (dn_Parse N x66) fun (x67 : List (List api_AVA) × Int) =>
          bif decide ((w64 ((a0.length : Int) + (a1.length : Int))) > (8 : Int)) then
            some (x67.2 == (15 : Int))
          else
            Option.bind (
                bif (x67.2 == (0 : Int)) then
                  Option.bind (takeL x67.1 (a0.length : Int)) fun (x84 : List (List api_AVA)) =>
                  Option.bind (prefectlaw4_same N x84 a0) fun (x86 : Bool) =>
                  bif x86 then
                    Option.bind (dropL x67.1 (a0.length : Int)) fun (x92 : List (List api_AVA)) =>
                    Option.bind (prefectlaw4_same N x92 a1) fun (x94 : Bool) =>
                    some x94
                  else
                    some false
                else
                  some false
              ) fun (g15 : Bool) =>
            some g15
def prefectlaw4_NameBytes_l22_b (N : Nat) (a0 : UInt8) (a1 : UInt8) (a2 : UInt8) (x29 : List (List api_AVA) × Int) (rec : (List UInt8 × Int) → Option (List UInt8)) : (List UInt8 × Int) → Option (List UInt8)
  | (v11l22, v12l22) =>
    bif decide (v12l22 < (3 : Int)) then
      Option.bind (catS v11l22 ([92] : List UInt8)) fun (x37 : List UInt8) =>
      Option.bind (idxL [a0, a1, a2] v12l22) fun (x40 : UInt8) =>
      Option.bind (idxL [a0, a1, a2] v12l22) fun (x44 : UInt8) =>
      Option.bind (cutL ([48, 49, 50, 51, 52, 53, 54, 55, 56, 57, 65, 66, 67, 68, 69, 70] : List UInt8) (((shrB x40 4)).toNat : Int) ((((shrB x44 4) + (1 : UInt8))).toNat : Int)) fun (x47 : List UInt8) =>
      Option.bind (catS x37 x47) fun (x48 : List UInt8) =>
      Option.bind (idxL [a0, a1, a2] v12l22) fun (x51 : UInt8) =>
      Option.bind (idxL [a0, a1, a2] v12l22) fun (x55 : UInt8) =>
      Option.bind (cutL ([48, 49, 50, 51, 52, 53, 54, 55, 56, 57, 97, 98, 99, 100, 101, 102] : List UInt8) (((x51 &&& (15 : UInt8))).toNat : Int) ((((x55 &&& (15 : UInt8)) + (1 : UInt8))).toNat : Int)) fun (x58 : List UInt8) =>
      Option.bind (catS x48 x58) fun (x59 : List UInt8) =>
      rec (x59, (w64 (v12l22 + (1 : Int))))
    else
      some v11l22
def prefectlaw4_NameBytes_l22 (N : Nat) (a0 : UInt8) (a1 : UInt8) (a2 : UInt8) (x29 : List (List api_AVA) × Int) : Nat → (List UInt8 × Int) → Option (List UInt8)
  | 0, _ => none
  | n + 1, x => prefectlaw4_NameBytes_l22_b N a0 a1 a2 x29 (prefectlaw4_NameBytes_l22 N a0 a1 a2 x29 n) x
def prefectlaw4_NameBytes (N : Nat) (a0 : UInt8) (a1 : UInt8) (a2 : UInt8) : Option (Bool) :=
  Option.bind (prefectlaw4_known N) fun (x15 : Bool) =>
  bif !x15 then
    some false
  else
    Option.bind (dn_Print N [[(⟨([99, 110] : List UInt8), [a0, a1, a2]⟩ : api_AVA)]]) fun (x28 : List UInt8) =>
    Option.bind (dn_Parse N x28) fun (x29 : List (List api_AVA) × Int) =>
    Option.bind (prefectlaw4_NameBytes_l22 N a0 a1 a2 x29 N (([99, 110, 61] : List UInt8), 0)) fun (y3 : List UInt8) =>
    Option.bind (dn_Parse N y3) fun (x62 : List (List api_AVA) × Int) =>
    Option.bind (
        bif (x29.2 == (0 : Int)) then
          Option.bind (prefectlaw4_same N x29.1 [[(⟨([99, 110] : List UInt8), [a0, a1, a2]⟩ : api_AVA)]]) fun (x70 : Bool) =>
          bif x70 then
            bif (x62.2 == (0 : Int)) then
              Option.bind (prefectlaw4_same N x62.1 [[(⟨([99, 110] : List UInt8), [a0, a1, a2]⟩ : api_AVA)]]) fun (x79 : Bool) =>
              some x79
            else
              some false
          else
            some false
        else
          some false
      ) fun (g4 : Bool) =>
    some g4
def prefectlaw4_NameCases (N : Nat) (a0 : UInt8) (a1 : UInt8) (a2 : UInt8) : Option (Bool) :=
  Option.bind (prefectlaw4_known N) fun (x16 : Bool) =>
  bif !x16 then
    some false
  else
    Option.bind (catS [((65 : UInt8) + (a0 % (26 : UInt8))), ((48 : UInt8) + (a1 % (10 : UInt8))), (45 : UInt8)] ([61] : List UInt8)) fun (x44 : List UInt8) =>
    Option.bind (catS x44 [((65 : UInt8) + (a2 % (26 : UInt8))), ((97 : UInt8) + (a2 % (26 : UInt8)))]) fun (x46 : List UInt8) =>
    Option.bind (dn_Parse N x46) fun (x47 : List (List api_AVA) × Int) =>
    Option.bind (catS [((97 : UInt8) + (a0 % (26 : UInt8))), ((48 : UInt8) + (a1 % (10 : UInt8))), (45 : UInt8)] ([61] : List UInt8)) fun (x52 : List UInt8) =>
    Option.bind (catS x52 [((65 : UInt8) + (a2 % (26 : UInt8))), ((97 : UInt8) + (a2 % (26 : UInt8)))]) fun (x54 : List UInt8) =>
    Option.bind (catS x54 ([44] : List UInt8)) fun (x55 : List UInt8) =>
    Option.bind (catS x55 [((65 : UInt8) + (a0 % (26 : UInt8))), ((48 : UInt8) + (a1 % (10 : UInt8))), (45 : UInt8)]) fun (x57 : List UInt8) =>
    Option.bind (catS x57 ([61] : List UInt8)) fun (x58 : List UInt8) =>
    Option.bind (catS x58 [((65 : UInt8) + (a2 % (26 : UInt8))), ((97 : UInt8) + (a2 % (26 : UInt8)))]) fun (x60 : List UInt8) =>
    Option.bind (dn_Parse N x60) fun (x61 : List (List api_AVA) × Int) =>
    Option.bind (catS [((97 : UInt8) + (a0 % (26 : UInt8))), ((48 : UInt8) + (a1 % (10 : UInt8))), (45 : UInt8)] ([61] : List UInt8)) fun (x66 : List UInt8) =>
    Option.bind (catS x66 [((65 : UInt8) + (a2 % (26 : UInt8))), ((97 : UInt8) + (a2 % (26 : UInt8)))]) fun (x68 : List UInt8) =>
    Option.bind (catS x68 ([43] : List UInt8)) fun (x69 : List UInt8) =>
    Option.bind (catS x69 [((65 : UInt8) + (a0 % (26 : UInt8))), ((48 : UInt8) + (a1 % (10 : UInt8))), (45 : UInt8)]) fun (x71 : List UInt8) =>
    Option.bind (catS x71 ([61] : List UInt8)) fun (x72 : List UInt8) =>
    Option.bind (catS x72 [((65 : UInt8) + (a2 % (26 : UInt8))), ((97 : UInt8) + (a2 % (26 : UInt8)))]) fun (x74 : List UInt8) =>
    Option.bind (dn_Parse N x74) fun (x75 : List (List api_AVA) × Int) =>
    Option.bind (
        bif (x47.2 == (0 : Int)) then
          bif ((x47.1.length : Int) == (1 : Int)) then
            Option.bind (idxL x47.1 (0 : Int)) fun (x87 : List api_AVA) =>
            bif ((x87.length : Int) == (1 : Int)) then
              Option.bind (idxL x47.1 (0 : Int)) fun (x94 : List api_AVA) =>
              Option.bind (idxL x94 (0 : Int)) fun (x96 : api_AVA) =>
              bif (x96.Attr == [((97 : UInt8) + (a0 % (26 : UInt8))), ((48 : UInt8) + (a1 % (10 : UInt8))), (45 : UInt8)] && (x96.Value == [((65 : UInt8) + (a2 % (26 : UInt8))), ((97 : UInt8) + (a2 % (26 : UInt8)))] && true)) then
                bif (x61.2 == (0 : Int)) then
                  bif ((x61.1.length : Int) == (2 : Int)) then
                    bif (x75.2 == (15 : Int)) then
                      Option.bind (dn_Print N x47.1) fun (x118 : List UInt8) =>
                      Option.bind (catS [((97 : UInt8) + (a0 % (26 : UInt8))), ((48 : UInt8) + (a1 % (10 : UInt8))), (45 : UInt8)] ([61] : List UInt8)) fun (x120 : List UInt8) =>
                      Option.bind (catS x120 [((65 : UInt8) + (a2 % (26 : UInt8))), ((97 : UInt8) + (a2 % (26 : UInt8)))]) fun (x122 : List UInt8) =>
                      bif (x118 == x122) then
                        Option.bind (dn_IsType N [((97 : UInt8) + (a0 % (26 : UInt8))), ((48 : UInt8) + (a1 % (10 : UInt8))), (45 : UInt8)]) fun (x127 : Bool) =>
                        bif x127 then
                          Option.bind (dn_IsType N [((65 : UInt8) + (a0 % (26 : UInt8))), ((48 : UInt8) + (a1 % (10 : UInt8))), (45 : UInt8)]) fun (x131 : Bool) =>
                          bif !x131 then
                            Option.bind (dn_Lower N [((65 : UInt8) + (a0 % (26 : UInt8))), ((48 : UInt8) + (a1 % (10 : UInt8))), (45 : UInt8)]) fun (x136 : List UInt8) =>
                            some (x136 == [((97 : UInt8) + (a0 % (26 : UInt8))), ((48 : UInt8) + (a1 % (10 : UInt8))), (45 : UInt8)])
                          else
                            some false
                        else
                          some false
                      else
                        some false
                    else
                      some false
                  else
                    some false
                else
                  some false
              else
                some false
            else
              some false
          else
            some false
        else
          some false
      ) fun (g2 : Bool) =>
    some g2
def prefectlaw4_NameBounds_l18_b (N : Nat) (a0 : UInt8) (a1 : UInt8) (a2 : UInt8) (rec : (List UInt8 × Int) → Option (List UInt8)) : (List UInt8 × Int) → Option (List UInt8)
  | (v10l18, v11l18) =>
    bif decide (v11l18 < (w64 ((60 : Int) + (((a2 % (2 : UInt8))).toNat : Int)))) then
      Option.bind (catS v10l18 ([120] : List UInt8)) fun (x45 : List UInt8) =>
      rec (x45, (w64 (v11l18 + (1 : Int))))
    else
      some v10l18
def prefectlaw4_NameBounds_l18 (N : Nat) (a0 : UInt8) (a1 : UInt8) (a2 : UInt8) : Nat → (List UInt8 × Int) → Option (List UInt8)
  | 0, _ => none
  | n + 1, x => prefectlaw4_NameBounds_l18_b N a0 a1 a2 (prefectlaw4_NameBounds_l18 N a0 a1 a2 n) x
def prefectlaw4_NameBounds_l35_b (N : Nat) (a0 : UInt8) (a1 : UInt8) (a2 : UInt8) (y3 : List UInt8) (rec : (List UInt8 × Int) → Option (List UInt8)) : (List UInt8 × Int) → Option (List UInt8)
  | (v12l35, v13l35) =>
    bif decide (v13l35 < (w64 ((8 : Int) + (((a0 % (2 : UInt8))).toNat : Int)))) then
      Option.bind (catS v12l35 ([44, 111, 117, 61, 121] : List UInt8)) fun (x53 : List UInt8) =>
      rec (x53, (w64 (v13l35 + (1 : Int))))
    else
      some v12l35
def prefectlaw4_NameBounds_l35 (N : Nat) (a0 : UInt8) (a1 : UInt8) (a2 : UInt8) (y3 : List UInt8) : Nat → (List UInt8 × Int) → Option (List UInt8)
  | 0, _ => none
  | n + 1, x => prefectlaw4_NameBounds_l35_b N a0 a1 a2 y3 (prefectlaw4_NameBounds_l35 N a0 a1 a2 y3 n) x
def prefectlaw4_NameBounds_j61 (v15l52 : Int) (rec : (List UInt8 × Int) → Option (List UInt8)) (v14j61 : List UInt8) : Option (List UInt8) :=
  Option.bind (catS v14j61 [((97 : UInt8) + (byte v15l52))]) fun (x69 : List UInt8) =>
  Option.bind (catS x69 ([61, 118] : List UInt8)) fun (x70 : List UInt8) =>
  rec (x70, (w64 (v15l52 + (1 : Int))))
def prefectlaw4_NameBounds_l52_b (N : Nat) (a0 : UInt8) (a1 : UInt8) (a2 : UInt8) (y3 : List UInt8) (y5 : List UInt8) (rec : (List UInt8 × Int) → Option (List UInt8)) : (List UInt8 × Int) → Option (List UInt8)
  | (v14l52, v15l52) =>
    bif decide (v15l52 < (w64 ((4 : Int) + (((a1 % (2 : UInt8))).toNat : Int)))) then
      bif decide (v15l52 > (0 : Int)) then
        Option.bind (catS v14l52 ([43] : List UInt8)) fun (x62 : List UInt8) =>
        prefectlaw4_NameBounds_j61 v15l52 rec x62
      else
        prefectlaw4_NameBounds_j61 v15l52 rec v14l52
    else
      some v14l52
def prefectlaw4_NameBounds_l52 (N : Nat) (a0 : UInt8) (a1 : UInt8) (a2 : UInt8) (y3 : List UInt8) (y5 : List UInt8) : Nat → (List UInt8 × Int) → Option (List UInt8)
  | 0, _ => none
  | n + 1, x => prefectlaw4_NameBounds_l52_b N a0 a1 a2 y3 y5 (prefectlaw4_NameBounds_l52 N a0 a1 a2 y3 y5 n) x
def prefectlaw4_NameBounds (N : Nat) (a0 : UInt8) (a1 : UInt8) (a2 : UInt8) : Option (Bool) :=
  Option.bind (prefectlaw4_known N) fun (x22 : Bool) =>
  bif !x22 then
    some false
  else
    Option.bind (mkN 1 (0 : Int)) fun (x36 : Nat) =>
    Option.bind (catS ([99, 110, 61] : List UInt8) (List.replicate x36 (0 : UInt8))) fun (x38 : List UInt8) =>
    Option.bind (prefectlaw4_NameBounds_l18 N a0 a1 a2 N (x38, 0)) fun (y3 : List UInt8) =>
    Option.bind (prefectlaw4_NameBounds_l35 N a0 a1 a2 y3 N (y3, 1)) fun (y5 : List UInt8) =>
    Option.bind (prefectlaw4_NameBounds_l52 N a0 a1 a2 y3 y5 N (([] : List UInt8), 0)) fun (y8 : List UInt8) =>
    Option.bind (dn_Parse N y5) fun (x73 : List (List api_AVA) × Int) =>
    Option.bind (dn_ParseRDN N y8) fun (x78 : List api_AVA × Int) =>
    Option.bind (dn_ParseRDN N y3) fun (x83 : List api_AVA × Int) =>
    Option.bind (
        bif decide ((w64 ((8 : Int) + (((a0 % (2 : UInt8))).toNat : Int))) ≤ (8 : Int)) then
          bif ((x73.2 == (0 : Int)) == decide ((w64 ((60 : Int) + (((a2 % (2 : UInt8))).toNat : Int))) ≤ (60 : Int))) then
            bif ((x78.2 == (0 : Int)) == decide ((w64 ((4 : Int) + (((a1 % (2 : UInt8))).toNat : Int))) ≤ (4 : Int))) then
              some ((x83.2 == (0 : Int)) == decide ((w64 ((60 : Int) + (((a2 % (2 : UInt8))).toNat : Int))) ≤ (60 : Int)))
            else
              some false
          else
            some false
        else
          bif ((x73.2 == (0 : Int)) == false) then
            bif ((x78.2 == (0 : Int)) == decide ((w64 ((4 : Int) + (((a1 % (2 : UInt8))).toNat : Int))) ≤ (4 : Int))) then
              some ((x83.2 == (0 : Int)) == decide ((w64 ((60 : Int) + (((a2 % (2 : UInt8))).toNat : Int))) ≤ (60 : Int)))
            else
              some false
          else
            some false
      ) fun (g9 : Bool) =>
    some g9
end Go.Gp
end
section
namespace Go.Gp
open Go.Vd
def b_api_AVA (x : api_AVA) : Prop := (x.Attr.length ≤ maxLen) ∧ (x.Value.length ≤ maxLen)
end Go.Gp
end
section
namespace Go.Gp
open Go.Vd Go.Proofs
theorem mixed : Try.prog.follows .mixedOrders = true := by kernel_rfl
end Go.Gp
end
