/- A part of the proof: functions of the program and what they compute. -/
import Derived.Test.YtbndinjjpafmjaaDoorA4
import Derived.Test.YtbndinjjpafmjaaDoorProg
section
set_option linter.unusedVariables false
namespace Go.Gp
open Go.Vd
structure api_Rule where
  Deny : Bool
  Rights : List UInt8
  Sub : Bool
  Who : List UInt8
  Attrs : List (List UInt8)
deriving DecidableEq
def e_api_Rule (x : api_Rule) : PV := .agg [.bool x.Deny, .str x.Rights, .bool x.Sub, .str x.Who, .sl 1 (List.map PV.str x.Attrs)]
structure api_Type where
  Name : List UInt8
  Syntax : Int
  Single : Bool
deriving DecidableEq
def e_api_Type (x : api_Type) : PV := .agg [.str x.Name, .int .i64 x.Syntax, .bool x.Single]
structure api_AVA where
  Attr : List UInt8
  Value : List UInt8
deriving DecidableEq
def e_api_AVA (x : api_AVA) : PV := .agg [.str x.Attr, .str x.Value]
def strings_explode (N : Nat) (a0 : List UInt8) (a1 : Int) : Option (List (List UInt8)) :=
  none
def strings_Index (N : Nat) (a0 : List UInt8) (a1 : List UInt8) : Option (Int) :=
  Option.bind (stringslite_Index N a0 a1) fun (x7 : Int) =>
  some x7
def strings_genSplit_l34_b (N : Nat) (a0 : List UInt8) (a1 : List UInt8) (a2 : Int) (v3j18 : Int) (rec : (List UInt8 × Int × List (List UInt8)) → Option (List UInt8 × Int × List (List UInt8))) : (List UInt8 × Int × List (List UInt8)) → Option (List UInt8 × Int × List (List UInt8))
  | (v0l34, v10l34, r31l34) =>
    bif decide (v10l34 < (w64 ((mn v3j18 (w64 ((a0.length : Int) + (1 : Int)))) - (1 : Int)))) then
      Option.bind (strings_Index N v0l34 a1) fun (x39 : Int) =>
      bif decide (x39 < (0 : Int)) then
        some (v0l34, v10l34, r31l34)
      else
        Option.bind (takeL v0l34 (w64 (x39 + a2))) fun (x48 : List UInt8) =>
        Option.bind (chkI v10l34 r31l34.length) fun (x49 : Nat) =>
        Option.bind (r31l34[x49]?) fun (x9004 : List UInt8) =>
        Option.bind (dropL v0l34 (w64 (x39 + (a1.length : Int)))) fun (x55 : List UInt8) =>
        rec (x55, (w64 (v10l34 + (1 : Int))), (r31l34.set x49 x48))
    else
      some (v0l34, v10l34, r31l34)
def strings_genSplit_l34 (N : Nat) (a0 : List UInt8) (a1 : List UInt8) (a2 : Int) (v3j18 : Int) : Nat → (List UInt8 × Int × List (List UInt8)) → Option (List UInt8 × Int × List (List UInt8))
  | 0, _ => none
  | n + 1, x => strings_genSplit_l34_b N a0 a1 a2 v3j18 (strings_genSplit_l34 N a0 a1 a2 v3j18 n) x
def strings_genSplit_j18 (a0 : List UInt8) (a1 : List UInt8) (a2 : Int) (N : Nat) (v3j18 : Int) : Option (List (List UInt8)) :=
  Option.bind (mkN 16 (mn v3j18 (w64 ((a0.length : Int) + (1 : Int))))) fun (x31 : Nat) =>
  Option.bind (strings_genSplit_l34 N a0 a1 a2 v3j18 N (a0, 0, (List.replicate x31 ([] : List UInt8)))) fun (y6 : List UInt8 × Int × List (List UInt8)) =>
  Option.bind (chkI y6.2.1 y6.2.2.length) fun (x61 : Nat) =>
  Option.bind (y6.2.2[x61]?) fun (x9006 : List UInt8) =>
  Option.bind (takeL (y6.2.2.set x61 y6.1) (w64 (y6.2.1 + (1 : Int)))) fun (x65 : List (List UInt8)) =>
  some x65
def strings_genSplit (N : Nat) (a0 : List UInt8) (a1 : List UInt8) (a2 : Int) (a3 : Int) : Option (List (List UInt8)) :=
  bif (a3 == (0 : Int)) then
    some []
  else
    bif (a1 == ([] : List UInt8)) then
      Option.bind (strings_explode N a0 a3) fun (x18 : List (List UInt8)) =>
      some x18
    else
      bif decide (a3 < (0 : Int)) then
        Option.bind (strings_Count N a0 a1) fun (x23 : Int) =>
        strings_genSplit_j18 a0 a1 a2 N (w64 (x23 + (1 : Int)))
      else
        strings_genSplit_j18 a0 a1 a2 N a3
def strings_SplitN (N : Nat) (a0 : List UInt8) (a1 : List UInt8) (a2 : Int) : Option (List (List UInt8)) :=
  Option.bind (strings_genSplit N a0 a1 0 a2) fun (x10 : List (List UInt8)) =>
  some x10
def strings_Split (N : Nat) (a0 : List UInt8) (a1 : List UInt8) : Option (List (List UInt8)) :=
  Option.bind (strings_genSplit N a0 a1 0 (-1)) fun (x7 : List (List UInt8)) =>
  some x7
def dn_Lower_j15 (v10l8 : Int) (rec : (Int × List UInt8) → Option (List UInt8)) (r7j15 : List UInt8) : Option (List UInt8) :=
  rec ((w64 (v10l8 + (1 : Int))), r7j15)
def dn_Lower_l8_b (N : Nat) (a0 : List UInt8) (rec : (Int × List UInt8) → Option (List UInt8)) : (Int × List UInt8) → Option (List UInt8)
  | (v10l8, r7l8) =>
    bif decide (v10l8 < (a0.length : Int)) then
      Option.bind (chkI v10l8 r7l8.length) fun (x13 : Nat) =>
      Option.bind (r7l8[x13]?) fun (x14 : UInt8) =>
      Option.bind (
          bif decide (((x14).toNat : Int) ≥ (65 : Int)) then
            some (decide (((x14).toNat : Int) ≤ (90 : Int)))
          else
            some false
        ) fun (g2 : Bool) =>
      bif g2 then
        Option.bind (chkI v10l8 r7l8.length) fun (x25 : Nat) =>
        Option.bind (r7l8[x25]?) fun (x9004 : UInt8) =>
        dn_Lower_j15 v10l8 rec (r7l8.set x25 (x14 + (32 : UInt8)))
      else
        dn_Lower_j15 v10l8 rec r7l8
    else
      some r7l8
def dn_Lower_l8 (N : Nat) (a0 : List UInt8) : Nat → (Int × List UInt8) → Option (List UInt8)
  | 0, _ => none
  | n + 1, x => dn_Lower_l8_b N a0 (dn_Lower_l8 N a0 n) x
def dn_Lower (N : Nat) (a0 : List UInt8) : Option (List UInt8) :=
  Option.bind (dn_Lower_l8 N a0 N (0, a0)) fun (y6 : List UInt8) =>
  some y6
def schema_All (N : Nat)  : Option (List api_Type) :=
  some [(⟨([97, 99, 105] : List UInt8), 2, false⟩ : api_Type), (⟨([99] : List UInt8), 1, true⟩ : api_Type), (⟨([99, 110] : List UInt8), 1, false⟩ : api_Type), (⟨([100, 99] : List UInt8), 1, false⟩ : api_Type), (⟨([100, 101, 115, 99, 114, 105, 112, 116, 105, 111, 110] : List UInt8), 1, false⟩ : api_Type), (⟨([101, 110, 116, 114, 121, 105, 100] : List UInt8), 2, true⟩ : api_Type), (⟨([109, 97, 105, 108] : List UInt8), 2, false⟩ : api_Type), (⟨([109, 101, 109, 98, 101, 114] : List UInt8), 5, false⟩ : api_Type), (⟨([111] : List UInt8), 1, false⟩ : api_Type), (⟨([111, 117] : List UInt8), 1, false⟩ : api_Type), (⟨([115, 110] : List UInt8), 1, false⟩ : api_Type), (⟨([116, 105, 116, 108, 101] : List UInt8), 1, true⟩ : api_Type), (⟨([117, 105, 100] : List UInt8), 1, false⟩ : api_Type), (⟨([117, 105, 100, 110, 117, 109, 98, 101, 114] : List UInt8), 3, true⟩ : api_Type), (⟨([117, 115, 101, 114, 112, 97, 115, 115, 119, 111, 114, 100] : List UInt8), 4, false⟩ : api_Type)]
def schema_Find_l8_b (N : Nat) (x7 : List UInt8) (x8 : List api_Type) (rec : Int → Option (Unit ⊕ (api_Type × Bool))) : Int → Option (Unit ⊕ (api_Type × Bool))
  | v10l8 =>
    bif decide (v10l8 < (x8.length : Int)) then
      Option.bind (idxL x8 v10l8) fun (x12 : api_Type) =>
      bif (x12.Name == x7) then
        some (Sum.inr (x12, true))
      else
        rec (w64 (v10l8 + (1 : Int)))
    else
      some (Sum.inl ())
def schema_Find_l8 (N : Nat) (x7 : List UInt8) (x8 : List api_Type) : Nat → Int → Option (Unit ⊕ (api_Type × Bool))
  | 0, _ => none
  | n + 1, x => schema_Find_l8_b N x7 x8 (schema_Find_l8 N x7 x8 n) x
def schema_Find (N : Nat) (a0 : List UInt8) : Option (api_Type × Bool) :=
  Option.bind (dn_Lower N a0) fun (x7 : List UInt8) =>
  Option.bind (schema_All N) fun (x8 : List api_Type) =>
  Option.bind (schema_Find_l8 N x7 x8 N 0) fun (y3 : Unit ⊕ (api_Type × Bool)) =>
  Sum.elim (fun (y3 : Unit) =>
      some ((⟨([] : List UInt8), 0, false⟩ : api_Type), false)
    ) (fun (y3 : api_Type × Bool) =>
      some (y3.1, y3.2)
    ) y3
def aci_isRights_l8_b (N : Nat) (a0 : List UInt8) (rec : (Int × Int) → Option (Int ⊕ Bool)) : (Int × Int) → Option (Int ⊕ Bool)
  | (v3l8, v8l8) =>
    bif decide (v8l8 < (a0.length : Int)) then
      Option.bind (idxL a0 v8l8) fun (x13 : UInt8) =>
      Option.bind (strings_IndexByte N ([114, 115, 99, 119, 97, 100] : List UInt8) x13) fun (x14 : Int) =>
      bif decide (x14 ≤ v3l8) then
        some (Sum.inr false)
      else
        rec (x14, (w64 (v8l8 + (1 : Int))))
    else
      some (Sum.inl v3l8)
def aci_isRights_l8 (N : Nat) (a0 : List UInt8) : Nat → (Int × Int) → Option (Int ⊕ Bool)
  | 0, _ => none
  | n + 1, x => aci_isRights_l8_b N a0 (aci_isRights_l8 N a0 n) x
def aci_isRights (N : Nat) (a0 : List UInt8) : Option (Bool) :=
  Option.bind (aci_isRights_l8 N a0 N ((-1), 0)) fun (y3 : Int ⊕ Bool) =>
  Sum.elim (fun (y3 : Int) =>
      some (decide (y3 ≥ (0 : Int)))
    ) (fun (y3 : Bool) =>
      some y3
    ) y3
def internal_stringslite_HasPrefix (N : Nat) (a0 : List UInt8) (a1 : List UInt8) : Option (Bool) :=
  Option.bind (
      bif decide ((a0.length : Int) ≥ (a1.length : Int)) then
        Option.bind (takeL a0 (a1.length : Int)) fun (x14 : List UInt8) =>
        some (x14 == a1)
      else
        some false
    ) fun (g1 : Bool) =>
  some g1
def internal_stringslite_CutPrefix (N : Nat) (a0 : List UInt8) (a1 : List UInt8) : Option (List UInt8 × Bool) :=
  Option.bind (internal_stringslite_HasPrefix N a0 a1) fun (x8 : Bool) =>
  bif !x8 then
    some (a0, false)
  else
    Option.bind (dropL a0 (a1.length : Int)) fun (x14 : List UInt8) =>
    some (x14, true)
def strings_CutPrefix (N : Nat) (a0 : List UInt8) (a1 : List UInt8) : Option (List UInt8 × Bool) :=
  Option.bind (internal_stringslite_CutPrefix N a0 a1) fun (x8 : List UInt8 × Bool) =>
  some (x8.1, x8.2)
def dn_cut_j17 (rec : (Int × Int × List (List UInt8)) → Option (Int × List (List UInt8))) (v6j17 : Int) (v7j17 : Int) (r1005j17 : List (List UInt8)) : Option (Int × List (List UInt8)) :=
  rec (v6j17, (w64 (v7j17 + (1 : Int))), r1005j17)
def dn_cut_l10_b (N : Nat) (a0 : List UInt8) (a1 : UInt8) (rec : (Int × Int × List (List UInt8)) → Option (Int × List (List UInt8))) : (Int × Int × List (List UInt8)) → Option (Int × List (List UInt8))
  | (v6l10, v7l10, r1005l10) =>
    bif decide (v7l10 < (a0.length : Int)) then
      Option.bind (idxL a0 v7l10) fun (x16 : UInt8) =>
      bif (((x16).toNat : Int) == (92 : Int)) then
        dn_cut_j17 rec v6l10 (w64 (v7l10 + (1 : Int))) r1005l10
      else
        bif (((x16).toNat : Int) == ((a1).toNat : Int)) then
          Option.bind (cutL a0 v6l10 v7l10) fun (x28 : List UInt8) =>
          Option.bind (appL 16 r1005l10 [x28]) fun (x30 : List (List UInt8)) =>
          dn_cut_j17 rec (w64 (v7l10 + (1 : Int))) v7l10 x30
        else
          dn_cut_j17 rec v6l10 v7l10 r1005l10
    else
      some (v6l10, r1005l10)
def dn_cut_l10 (N : Nat) (a0 : List UInt8) (a1 : UInt8) : Nat → (Int × Int × List (List UInt8)) → Option (Int × List (List UInt8))
  | 0, _ => none
  | n + 1, x => dn_cut_l10_b N a0 a1 (dn_cut_l10 N a0 a1 n) x
def dn_cut (N : Nat) (a0 : List UInt8) (a1 : UInt8) : Option (List (List UInt8)) :=
  Option.bind (dn_cut_l10 N a0 a1 N (0, 0, [])) fun (y4 : Int × List (List UInt8)) =>
  Option.bind (dropL a0 y4.1) fun (x36 : List UInt8) =>
  Option.bind (appL 16 y4.2 [x36]) fun (x38 : List (List UInt8)) =>
  some x38
def internal_stringslite_Cut (N : Nat) (a0 : List UInt8) (a1 : List UInt8) : Option (List UInt8 × List UInt8 × Bool) :=
  Option.bind (stringslite_Index N a0 a1) fun (x10 : Int) =>
  bif decide (x10 ≥ (0 : Int)) then
    Option.bind (takeL a0 x10) fun (x15 : List UInt8) =>
    Option.bind (dropL a0 (w64 (x10 + (a1.length : Int)))) fun (x21 : List UInt8) =>
    some (x15, x21, true)
  else
    some (a0, ([] : List UInt8), false)
def strings_Cut (N : Nat) (a0 : List UInt8) (a1 : List UInt8) : Option (List UInt8 × List UInt8 × Bool) :=
  Option.bind (internal_stringslite_Cut N a0 a1) fun (x9 : List UInt8 × List UInt8 × Bool) =>
  some (x9.1, x9.2.1, x9.2.2)
def strings_HasPrefix (N : Nat) (a0 : List UInt8) (a1 : List UInt8) : Option (Bool) :=
  Option.bind (internal_stringslite_HasPrefix N a0 a1) fun (x7 : Bool) =>
  some x7
def dn_digit (N : Nat) (a0 : List UInt8) (a1 : Int) : Option (UInt8 × Bool) :=
  bif decide (a1 ≥ (a0.length : Int)) then
    some ((0 : UInt8), false)
  else
    Option.bind (cutL a0 a1 (w64 (a1 + (1 : Int)))) fun (x15 : List UInt8) =>
    Option.bind (dn_Lower N x15) fun (x16 : List UInt8) =>
    Option.bind (idxL x16 (0 : Int)) fun (x17 : UInt8) =>
    Option.bind (strings_IndexByte N ([48, 49, 50, 51, 52, 53, 54, 55, 56, 57, 97, 98, 99, 100, 101, 102] : List UInt8) x17) fun (x18 : Int) =>
    some ((byte (mx x18 (0 : Int))), decide (x18 ≥ (0 : Int)))
def dn_unescape_j25 (rec : (Bool × Int × List UInt8) → Option ((Bool × List UInt8) ⊕ (List UInt8 × Bool))) (v5j25 : Bool) (v6j25 : Int) (r1004j25 : List UInt8) : Option ((Bool × List UInt8) ⊕ (List UInt8 × Bool)) :=
  rec (v5j25, (w64 (v6j25 + (1 : Int))), r1004j25)
def dn_unescape_l18_b (N : Nat) (a0 : List UInt8) (rec : (Bool × Int × List UInt8) → Option ((Bool × List UInt8) ⊕ (List UInt8 × Bool))) : (Bool × Int × List UInt8) → Option ((Bool × List UInt8) ⊕ (List UInt8 × Bool))
  | (v5l18, v6l18, r1004l18) =>
    bif decide (v6l18 < (a0.length : Int)) then
      Option.bind (idxL a0 v6l18) fun (x26 : UInt8) =>
      bif (((x26).toNat : Int) == (92 : Int)) then
        Option.bind (
            bif decide ((w64 (v6l18 + (1 : Int))) < (a0.length : Int)) then
              Option.bind (idxL a0 (w64 (v6l18 + (1 : Int)))) fun (x45 : UInt8) =>
              Option.bind (strings_IndexByte N ([44, 43, 34, 92, 60, 62, 59, 35, 61, 32] : List UInt8) x45) fun (x46 : Int) =>
              some (decide (x46 ≥ (0 : Int)))
            else
              some false
          ) fun (g6 : Bool) =>
        bif g6 then
          Option.bind (idxL a0 (w64 (v6l18 + (1 : Int)))) fun (x52 : UInt8) =>
          Option.bind (appL 1 r1004l18 [x52]) fun (x54 : List UInt8) =>
          dn_unescape_j25 rec (((x26).toNat : Int) == (32 : Int)) (w64 (v6l18 + (1 : Int))) x54
        else
          Option.bind (dn_digit N a0 (w64 (v6l18 + (1 : Int)))) fun (x58 : UInt8 × Bool) =>
          Option.bind (dn_digit N a0 (w64 ((w64 (v6l18 + (1 : Int))) + (1 : Int)))) fun (x65 : UInt8 × Bool) =>
          Option.bind (
              bif !x58.2 then
                some true
              else
                some (!x65.2)
            ) fun (g9 : Bool) =>
          bif g9 then
            some (Sum.inr (([] : List UInt8), false))
          else
            Option.bind (appL 1 r1004l18 [((shlB x58.1 4) ||| x65.1)]) fun (x80 : List UInt8) =>
            dn_unescape_j25 rec (((x26).toNat : Int) == (32 : Int)) (w64 ((w64 (v6l18 + (1 : Int))) + (1 : Int))) x80
      else
        Option.bind (strings_IndexByte N ([44, 43, 34, 92, 60, 62, 59] : List UInt8) x26) fun (x85 : Int) =>
        bif decide (x85 ≥ (0 : Int)) then
          some (Sum.inr (([] : List UInt8), false))
        else
          Option.bind (appL 1 r1004l18 [x26]) fun (x32 : List UInt8) =>
          dn_unescape_j25 rec (((x26).toNat : Int) == (32 : Int)) v6l18 x32
    else
      some (Sum.inl (v5l18, r1004l18))
def dn_unescape_l18 (N : Nat) (a0 : List UInt8) : Nat → (Bool × Int × List UInt8) → Option ((Bool × List UInt8) ⊕ (List UInt8 × Bool))
  | 0, _ => none
  | n + 1, x => dn_unescape_l18_b N a0 (dn_unescape_l18 N a0 n) x
def dn_unescape (N : Nat) (a0 : List UInt8) : Option (List UInt8 × Bool) :=
  Option.bind (
      Option.bind (strings_HasPrefix N a0 ([35] : List UInt8)) fun (x13 : Bool) =>
      bif x13 then
        some true
      else
        Option.bind (strings_HasPrefix N a0 ([32] : List UInt8)) fun (x16 : Bool) =>
        some x16
    ) fun (g1 : Bool) =>
  bif g1 then
    some (([] : List UInt8), false)
  else
    Option.bind (dn_unescape_l18 N a0 N (false, 0, [])) fun (y13 : (Bool × List UInt8) ⊕ (List UInt8 × Bool)) =>
    Sum.elim (fun (y13 : Bool × List UInt8) =>
        some (y13.2, !y13.1)
      ) (fun (y13 : List UInt8 × Bool) =>
        some (y13.1, y13.2)
      ) y13
def dn_IsType_j28 (v25l14 : Int) (rec : Int → Option (Unit ⊕ Bool))  : Option (Unit ⊕ Bool) :=
  rec (w64 (v25l14 + (1 : Int)))
def dn_IsType_j38 (v25l14 : Int) (rec : Int → Option (Unit ⊕ Bool)) (v36j38 : Bool) : Option (Unit ⊕ Bool) :=
  bif v36j38 then
    dn_IsType_j28 v25l14 rec
  else
    some (Sum.inr false)
def dn_IsType_l14_b (N : Nat) (a0 : List UInt8) (rec : Int → Option (Unit ⊕ Bool)) : Int → Option (Unit ⊕ Bool)
  | v25l14 =>
    bif decide (v25l14 < (a0.length : Int)) then
      Option.bind (chkI v25l14 a0.length) fun (x27 : Nat) =>
      Option.bind (a0[x27]?) fun (x28 : UInt8) =>
      Option.bind (
          bif decide (((x28).toNat : Int) ≥ (97 : Int)) then
            some (decide (((x28).toNat : Int) ≤ (122 : Int)))
          else
            some false
        ) fun (g7 : Bool) =>
      bif g7 then
        dn_IsType_j28 v25l14 rec
      else
        Option.bind (
            bif decide (((x28).toNat : Int) ≥ (48 : Int)) then
              some (decide (((x28).toNat : Int) ≤ (57 : Int)))
            else
              some false
          ) fun (g11 : Bool) =>
        bif g11 then
          dn_IsType_j38 v25l14 rec g11
        else
          dn_IsType_j38 v25l14 rec (((x28).toNat : Int) == (45 : Int))
    else
      some (Sum.inl ())
def dn_IsType_l14 (N : Nat) (a0 : List UInt8) : Nat → Int → Option (Unit ⊕ Bool)
  | 0, _ => none
  | n + 1, x => dn_IsType_l14_b N a0 (dn_IsType_l14 N a0 n) x
def dn_IsType (N : Nat) (a0 : List UInt8) : Option (Bool) :=
  Option.bind (
      bif (a0 == ([] : List UInt8)) then
        some true
      else
        bif decide ((a0.length : Int) > (16 : Int)) then
          some true
        else
          Option.bind (idxL a0 (0 : Int)) fun (x14 : UInt8) =>
          bif decide (((x14).toNat : Int) < (97 : Int)) then
            some true
          else
            Option.bind (idxL a0 (0 : Int)) fun (x19 : UInt8) =>
            some (decide (((x19).toNat : Int) > (122 : Int)))
    ) fun (g1 : Bool) =>
  bif g1 then
    some false
  else
    Option.bind (dn_IsType_l14 N a0 N 0) fun (y14 : Unit ⊕ Bool) =>
    Sum.elim (fun (y14 : Unit) =>
        some true
      ) (fun (y14 : Bool) =>
        some y14
      ) y14
def dn_IsRDN_1 (N : Nat) (a0 : api_AVA) (c0 : api_AVA) : Option (Bool) :=
  some (a0.Attr == c0.Attr)
def slices_IndexFunc_api_RDN_api_AVA_c_dn_IsRDN_1_l6_b (N : Nat) (a0 : List api_AVA) (a1_0 : api_AVA) (rec : Int → Option (Unit ⊕ Int)) : Int → Option (Unit ⊕ Int)
  | v8l6 =>
    bif decide (v8l6 < (a0.length : Int)) then
      Option.bind (idxL a0 v8l6) fun (x14 : api_AVA) =>
      Option.bind (dn_IsRDN_1 N x14 a1_0) fun (x16 : Bool) =>
      bif x16 then
        some (Sum.inr v8l6)
      else
        rec (w64 (v8l6 + (1 : Int)))
    else
      some (Sum.inl ())
def slices_IndexFunc_api_RDN_api_AVA_c_dn_IsRDN_1_l6 (N : Nat) (a0 : List api_AVA) (a1_0 : api_AVA) : Nat → Int → Option (Unit ⊕ Int)
  | 0, _ => none
  | n + 1, x => slices_IndexFunc_api_RDN_api_AVA_c_dn_IsRDN_1_l6_b N a0 a1_0 (slices_IndexFunc_api_RDN_api_AVA_c_dn_IsRDN_1_l6 N a0 a1_0 n) x
def slices_IndexFunc_api_RDN_api_AVA_c_dn_IsRDN_1 (N : Nat) (a0 : List api_AVA) (a1_0 : api_AVA) : Option (Int) :=
  Option.bind (slices_IndexFunc_api_RDN_api_AVA_c_dn_IsRDN_1_l6 N a0 a1_0 N 0) fun (y3 : Unit ⊕ Int) =>
  Sum.elim (fun (y3 : Unit) =>
      some (-1)
    ) (fun (y3 : Int) =>
      some y3
    ) y3
def slices_ContainsFunc_api_RDN_api_AVA_c_dn_IsRDN_1 (N : Nat) (a0 : List api_AVA) (a1_0 : api_AVA) : Option (Bool) :=
  Option.bind (slices_IndexFunc_api_RDN_api_AVA_c_dn_IsRDN_1 N a0 a1_0) fun (x7 : Int) =>
  some (decide (x7 ≥ (0 : Int)))
def dn_IsRDN_l6_b (N : Nat) (a0 : List api_AVA) (rec : Int → Option (Unit ⊕ Bool)) : Int → Option (Unit ⊕ Bool)
  | v7l6 =>
    bif decide (v7l6 < (a0.length : Int)) then
      Option.bind (idxL a0 v7l6) fun (x10 : api_AVA) =>
      Option.bind (
          bif decide (v7l6 ≥ (4 : Int)) then
            some true
          else
            Option.bind (dn_IsType N x10.Attr) fun (x17 : Bool) =>
            bif !x17 then
              some true
            else
              bif (x10.Value == ([] : List UInt8)) then
                some true
              else
                some (decide ((x10.Value.length : Int) > (60 : Int)))
        ) fun (g2 : Bool) =>
      bif g2 then
        some (Sum.inr false)
      else
        Option.bind (takeL a0 v7l6) fun (x33 : List api_AVA) =>
        Option.bind (slices_ContainsFunc_api_RDN_api_AVA_c_dn_IsRDN_1 N x33 (⟨x10.Attr, x10.Value⟩ : api_AVA)) fun (x35 : Bool) =>
        bif x35 then
          some (Sum.inr false)
        else
          rec (w64 (v7l6 + (1 : Int)))
    else
      some (Sum.inl ())
def dn_IsRDN_l6 (N : Nat) (a0 : List api_AVA) : Nat → Int → Option (Unit ⊕ Bool)
  | 0, _ => none
  | n + 1, x => dn_IsRDN_l6_b N a0 (dn_IsRDN_l6 N a0 n) x
def dn_IsRDN (N : Nat) (a0 : List api_AVA) : Option (Bool) :=
  Option.bind (dn_IsRDN_l6 N a0 N 0) fun (y8 : Unit ⊕ Bool) =>
  Sum.elim (fun (y8 : Unit) =>
      some (decide ((a0.length : Int) > (0 : Int)))
    ) (fun (y8 : Bool) =>
      some y8
    ) y8
def dn_ParseRDN_l8_b (N : Nat) (x13 : List (List UInt8)) (rec : (Int × List api_AVA) → Option ((List api_AVA) ⊕ (List api_AVA × Int))) : (Int × List api_AVA) → Option ((List api_AVA) ⊕ (List api_AVA × Int))
  | (v15l8, r1004l8) =>
    bif decide (v15l8 < (x13.length : Int)) then
      Option.bind (idxL x13 v15l8) fun (x17 : List UInt8) =>
      Option.bind (strings_Cut N x17 ([61] : List UInt8)) fun (x21 : List UInt8 × List UInt8 × Bool) =>
      Option.bind (dn_unescape N x21.2.1) fun (x27 : List UInt8 × Bool) =>
      Option.bind (
          bif !x21.2.2 then
            some true
          else
            bif !x27.2 then
              some true
            else
              some (decide ((r1004l8.length : Int) > (4 : Int)))
        ) fun (g2 : Bool) =>
      bif g2 then
        some (Sum.inr ([], 15))
      else
        Option.bind (dn_Lower N x21.1) fun (x43 : List UInt8) =>
        Option.bind (appL 32 r1004l8 [(⟨x43, x27.1⟩ : api_AVA)]) fun (x47 : List api_AVA) =>
        rec ((w64 (v15l8 + (1 : Int))), x47)
    else
      some (Sum.inl r1004l8)
def dn_ParseRDN_l8 (N : Nat) (x13 : List (List UInt8)) : Nat → (Int × List api_AVA) → Option ((List api_AVA) ⊕ (List api_AVA × Int))
  | 0, _ => none
  | n + 1, x => dn_ParseRDN_l8_b N x13 (dn_ParseRDN_l8 N x13 n) x
def dn_ParseRDN (N : Nat) (a0 : List UInt8) : Option (List api_AVA × Int) :=
  Option.bind (dn_cut N a0 (43 : UInt8)) fun (x13 : List (List UInt8)) =>
  Option.bind (dn_ParseRDN_l8 N x13 N (0, [])) fun (y6 : (List api_AVA) ⊕ (List api_AVA × Int)) =>
  Sum.elim (fun (y6 : List api_AVA) =>
      Option.bind (dn_IsRDN N y6) fun (x50 : Bool) =>
      bif !x50 then
        some ([], 15)
      else
        some (y6, 0)
    ) (fun (y6 : List api_AVA × Int) =>
      some (y6.1, y6.2)
    ) y6
def dn_Parse_l16_b (N : Nat) (x12 : List (List UInt8)) (rec : (Int × List (List api_AVA)) → Option ((List (List api_AVA)) ⊕ (List (List api_AVA) × Int))) : (Int × List (List api_AVA)) → Option ((List (List api_AVA)) ⊕ (List (List api_AVA) × Int))
  | (v14l16, r1004l16) =>
    bif decide (v14l16 < (x12.length : Int)) then
      Option.bind (idxL x12 v14l16) fun (x16 : List UInt8) =>
      Option.bind (dn_ParseRDN N x16) fun (x20 : List api_AVA × Int) =>
      Option.bind (
          bif (x20.2 != (0 : Int)) then
            some true
          else
            some ((r1004l16.length : Int) == (8 : Int))
        ) fun (g3 : Bool) =>
      bif g3 then
        some (Sum.inr ([], 15))
      else
        Option.bind (appL 24 r1004l16 [x20.1]) fun (x33 : List (List api_AVA)) =>
        rec ((w64 (v14l16 + (1 : Int))), x33)
    else
      some (Sum.inl r1004l16)
def dn_Parse_l16 (N : Nat) (x12 : List (List UInt8)) : Nat → (Int × List (List api_AVA)) → Option ((List (List api_AVA)) ⊕ (List (List api_AVA) × Int))
  | 0, _ => none
  | n + 1, x => dn_Parse_l16_b N x12 (dn_Parse_l16 N x12 n) x
def dn_Parse (N : Nat) (a0 : List UInt8) : Option (List (List api_AVA) × Int) :=
  bif (a0 == ([] : List UInt8)) then
    some ([], 0)
  else
    Option.bind (dn_cut N a0 (44 : UInt8)) fun (x12 : List (List UInt8)) =>
    Option.bind (dn_Parse_l16 N x12 N (0, [])) fun (y6 : (List (List api_AVA)) ⊕ (List (List api_AVA) × Int)) =>
    Sum.elim (fun (y6 : List (List api_AVA)) =>
        some (y6, 0)
      ) (fun (y6 : List (List api_AVA) × Int) =>
        some (y6.1, y6.2)
      ) y6
def dn_Is_1 (N : Nat) (a0 : List api_AVA) : Option (Bool) :=
  Option.bind (dn_IsRDN N a0) fun (x4 : Bool) =>
  some (!x4)
def slices_IndexFunc_api_DN_api_RDN_c_dn_Is_1_l6_b (N : Nat) (a0 : List (List api_AVA)) (rec : Int → Option (Unit ⊕ Int)) : Int → Option (Unit ⊕ Int)
  | v8l6 =>
    bif decide (v8l6 < (a0.length : Int)) then
      Option.bind (idxL a0 v8l6) fun (x14 : List api_AVA) =>
      Option.bind (dn_Is_1 N x14) fun (x16 : Bool) =>
      bif x16 then
        some (Sum.inr v8l6)
      else
        rec (w64 (v8l6 + (1 : Int)))
    else
      some (Sum.inl ())
def slices_IndexFunc_api_DN_api_RDN_c_dn_Is_1_l6 (N : Nat) (a0 : List (List api_AVA)) : Nat → Int → Option (Unit ⊕ Int)
  | 0, _ => none
  | n + 1, x => slices_IndexFunc_api_DN_api_RDN_c_dn_Is_1_l6_b N a0 (slices_IndexFunc_api_DN_api_RDN_c_dn_Is_1_l6 N a0 n) x
def slices_IndexFunc_api_DN_api_RDN_c_dn_Is_1 (N : Nat) (a0 : List (List api_AVA)) : Option (Int) :=
  Option.bind (slices_IndexFunc_api_DN_api_RDN_c_dn_Is_1_l6 N a0 N 0) fun (y3 : Unit ⊕ Int) =>
  Sum.elim (fun (y3 : Unit) =>
      some (-1)
    ) (fun (y3 : Int) =>
      some y3
    ) y3
def slices_ContainsFunc_api_DN_api_RDN_c_dn_Is_1 (N : Nat) (a0 : List (List api_AVA)) : Option (Bool) :=
  Option.bind (slices_IndexFunc_api_DN_api_RDN_c_dn_Is_1 N a0) fun (x7 : Int) =>
  some (decide (x7 ≥ (0 : Int)))
def dn_Is (N : Nat) (a0 : List (List api_AVA)) : Option (Bool) :=
  Option.bind (
      bif decide ((a0.length : Int) ≤ (8 : Int)) then
        Option.bind (slices_ContainsFunc_api_DN_api_RDN_c_dn_Is_1 N a0) fun (x8 : Bool) =>
        some (!x8)
      else
        some false
    ) fun (g1 : Bool) =>
  some g1
def dn_Escape_j15p (v9l8 : Int) (rec : (Int × List UInt8) → Option (List UInt8)) (r6000002j15 : List UInt8) : Option (List UInt8) :=
  rec ((w64 (v9l8 + (1 : Int))), r6000002j15)
def dn_Escape_j20 (v9l8 : Int) (rec : (Int × List UInt8) → Option (List UInt8)) (x13 : UInt8) (r6000001j20 : List UInt8) : Option (List UInt8) :=
  Option.bind (appL 1 r6000001j20 [x13]) fun (x55 : List UInt8) =>
  dn_Escape_j15p v9l8 rec x55
def dn_Escape_j33 (v9l8 : Int) (r6000001l8 : List UInt8) (rec : (Int × List UInt8) → Option (List UInt8)) (x13 : UInt8) (v21j33 : Bool) : Option (List UInt8) :=
  bif v21j33 then
    Option.bind (appL 1 r6000001l8 [(92 : UInt8)]) fun (x53 : List UInt8) =>
    dn_Escape_j20 v9l8 rec x13 x53
  else
    dn_Escape_j20 v9l8 rec x13 r6000001l8
def dn_Escape_l8_b (N : Nat) (a0 : List UInt8) (rec : (Int × List UInt8) → Option (List UInt8)) : (Int × List UInt8) → Option (List UInt8)
  | (v9l8, r6000001l8) =>
    bif decide (v9l8 < (a0.length : Int)) then
      Option.bind (chkI v9l8 a0.length) fun (x12 : Nat) =>
      Option.bind (a0[x12]?) fun (x13 : UInt8) =>
      Option.bind (
          bif decide (((x13).toNat : Int) < (32 : Int)) then
            some true
          else
            some (decide (((x13).toNat : Int) > (126 : Int)))
        ) fun (g3 : Bool) =>
      bif g3 then
        Option.bind (appL 1 r6000001l8 [(92 : UInt8)]) fun (x44 : List UInt8) =>
        Option.bind (idxL ([48, 49, 50, 51, 52, 53, 54, 55, 56, 57, 97, 98, 99, 100, 101, 102] : List UInt8) (((shrB x13 4)).toNat : Int)) fun (x47 : UInt8) =>
        Option.bind (appL 1 x44 [x47]) fun (x48 : List UInt8) =>
        Option.bind (idxL ([48, 49, 50, 51, 52, 53, 54, 55, 56, 57, 97, 98, 99, 100, 101, 102] : List UInt8) (((x13 &&& (15 : UInt8))).toNat : Int)) fun (x51 : UInt8) =>
        Option.bind (appL 1 x48 [x51]) fun (x52 : List UInt8) =>
        dn_Escape_j15p v9l8 rec x52
      else
        Option.bind (strings_IndexByte N ([44, 43, 34, 92, 60, 62, 59] : List UInt8) x13) fun (x23 : Int) =>
        bif decide (x23 ≥ (0 : Int)) then
          dn_Escape_j33 v9l8 r6000001l8 rec x13 (decide (x23 ≥ (0 : Int)))
        else
          Option.bind (
              bif (v9l8 == (0 : Int)) then
                bif (((x13).toNat : Int) == (35 : Int)) then
                  some true
                else
                  some (((x13).toNat : Int) == (32 : Int))
              else
                some false
            ) fun (g8 : Bool) =>
          bif g8 then
            dn_Escape_j33 v9l8 r6000001l8 rec x13 g8
          else
            bif (v9l8 == (w64 ((a0.length : Int) - (1 : Int)))) then
              dn_Escape_j33 v9l8 r6000001l8 rec x13 (((x13).toNat : Int) == (32 : Int))
            else
              dn_Escape_j33 v9l8 r6000001l8 rec x13 false
    else
      some r6000001l8
def dn_Escape_l8 (N : Nat) (a0 : List UInt8) : Nat → (Int × List UInt8) → Option (List UInt8)
  | 0, _ => none
  | n + 1, x => dn_Escape_l8_b N a0 (dn_Escape_l8 N a0 n) x
def dn_Escape_j15 (a0 : List UInt8) (N : Nat) (r6000001j15 : List UInt8) : Option (List UInt8) :=
  Option.bind (dn_Escape_l8 N a0 N (1, r6000001j15)) fun (y13 : List UInt8) =>
  Option.bind (bldS y13) fun (x57 : List UInt8) =>
  some x57
def dn_Escape_j33p (a0 : List UInt8) (N : Nat) (x13 : UInt8) (v21j33 : Bool) : Option (List UInt8) :=
  bif v21j33 then
    Option.bind (appL 1 ([] : List UInt8) [(92 : UInt8)]) fun (x53 : List UInt8) =>
    Option.bind (appL 1 x53 [x13]) fun (x55 : List UInt8) =>
    dn_Escape_j15 a0 N x55
  else
    Option.bind (appL 1 ([] : List UInt8) [x13]) fun (x55 : List UInt8) =>
    dn_Escape_j15 a0 N x55
def dn_Escape (N : Nat) (a0 : List UInt8) : Option (List UInt8) :=
  bif decide ((0 : Int) < (a0.length : Int)) then
    Option.bind (chkI (0 : Int) a0.length) fun (x12 : Nat) =>
    Option.bind (a0[x12]?) fun (x13 : UInt8) =>
    Option.bind (
        bif decide (((x13).toNat : Int) < (32 : Int)) then
          some true
        else
          some (decide (((x13).toNat : Int) > (126 : Int)))
      ) fun (g14 : Bool) =>
    bif g14 then
      Option.bind (appL 1 ([] : List UInt8) [(92 : UInt8)]) fun (x44 : List UInt8) =>
      Option.bind (idxL ([48, 49, 50, 51, 52, 53, 54, 55, 56, 57, 97, 98, 99, 100, 101, 102] : List UInt8) (((shrB x13 4)).toNat : Int)) fun (x47 : UInt8) =>
      Option.bind (appL 1 x44 [x47]) fun (x48 : List UInt8) =>
      Option.bind (idxL ([48, 49, 50, 51, 52, 53, 54, 55, 56, 57, 97, 98, 99, 100, 101, 102] : List UInt8) (((x13 &&& (15 : UInt8))).toNat : Int)) fun (x51 : UInt8) =>
      Option.bind (appL 1 x48 [x51]) fun (x52 : List UInt8) =>
      dn_Escape_j15 a0 N x52
    else
      Option.bind (strings_IndexByte N ([44, 43, 34, 92, 60, 62, 59] : List UInt8) x13) fun (x23 : Int) =>
      bif decide (x23 ≥ (0 : Int)) then
        dn_Escape_j33p a0 N x13 (decide (x23 ≥ (0 : Int)))
      else
        Option.bind (
            bif (((x13).toNat : Int) == (35 : Int)) then
              some true
            else
              some (((x13).toNat : Int) == (32 : Int))
          ) fun (g19 : Bool) =>
        bif g19 then
          dn_Escape_j33p a0 N x13 g19
        else
          bif ((0 : Int) == (w64 ((a0.length : Int) - (1 : Int)))) then
            dn_Escape_j33p a0 N x13 (((x13).toNat : Int) == (32 : Int))
          else
            dn_Escape_j33p a0 N x13 false
  else
    some ([] : List UInt8)
def dn_Join_l8_b (N : Nat) (a0 : List api_AVA) (rec : (Int × List (List UInt8)) → Option (List (List UInt8))) : (Int × List (List UInt8)) → Option (List (List UInt8))
  | (v8l8, r1003l8) =>
    bif decide (v8l8 < (a0.length : Int)) then
      Option.bind (idxL a0 v8l8) fun (x10 : api_AVA) =>
      Option.bind (catS x10.Attr ([61] : List UInt8)) fun (x15 : List UInt8) =>
      Option.bind (dn_Escape N x10.Value) fun (x18 : List UInt8) =>
      Option.bind (catS x15 x18) fun (x19 : List UInt8) =>
      Option.bind (appL 16 r1003l8 [x19]) fun (x21 : List (List UInt8)) =>
      rec ((w64 (v8l8 + (1 : Int))), x21)
    else
      some r1003l8
def dn_Join_l8 (N : Nat) (a0 : List api_AVA) : Nat → (Int × List (List UInt8)) → Option (List (List UInt8))
  | 0, _ => none
  | n + 1, x => dn_Join_l8_b N a0 (dn_Join_l8 N a0 n) x
def dn_Join (N : Nat) (a0 : List api_AVA) : Option (List UInt8) :=
  Option.bind (dn_Join_l8 N a0 N (0, [])) fun (y2 : List (List UInt8)) =>
  Option.bind (strings_Join N y2 ([43] : List UInt8)) fun (x24 : List UInt8) =>
  some x24
def dn_Print_l16_b (N : Nat) (a0 : List (List api_AVA)) (rec : (Int × List (List UInt8)) → Option (List (List UInt8))) : (Int × List (List UInt8)) → Option (List (List UInt8))
  | (v11l16, r1003l16) =>
    bif decide (v11l16 < (a0.length : Int)) then
      Option.bind (idxL a0 v11l16) fun (x13 : List api_AVA) =>
      Option.bind (dn_Join N x13) fun (x17 : List UInt8) =>
      Option.bind (appL 16 r1003l16 [x17]) fun (x19 : List (List UInt8)) =>
      rec ((w64 (v11l16 + (1 : Int))), x19)
    else
      some r1003l16
def dn_Print_l16 (N : Nat) (a0 : List (List api_AVA)) : Nat → (Int × List (List UInt8)) → Option (List (List UInt8))
  | 0, _ => none
  | n + 1, x => dn_Print_l16_b N a0 (dn_Print_l16 N a0 n) x
def dn_Print (N : Nat) (a0 : List (List api_AVA)) : Option (List UInt8) :=
  Option.bind (dn_Is N a0) fun (x7 : Bool) =>
  bif !x7 then
    some ([] : List UInt8)
  else
    Option.bind (dn_Print_l16 N a0 N (0, [])) fun (y3 : List (List UInt8)) =>
    Option.bind (strings_Join N y3 ([44] : List UInt8)) fun (x22 : List UInt8) =>
    some x22
def aci_isWho_j4  : Option (Bool) :=
  some true
def aci_isWho (N : Nat) (a0 : List UInt8) : Option (Bool) :=
  bif (a0 == ([97, 110, 121] : List UInt8)) then
    aci_isWho_j4
  else
    bif (a0 == ([115, 101, 108, 102] : List UInt8)) then
      aci_isWho_j4
    else
      Option.bind (strings_CutPrefix N a0 ([100, 110, 58] : List UInt8)) fun (x15 : List UInt8 × Bool) =>
      Option.bind (dn_Parse N x15.1) fun (x20 : List (List api_AVA) × Int) =>
      Option.bind (
          bif x15.2 then
            bif (!(x15.1 == ([] : List UInt8))) then
              bif (x20.2 == (0 : Int)) then
                Option.bind (dn_Print N x20.1) fun (x34 : List UInt8) =>
                some (x34 == x15.1)
              else
                some false
            else
              some false
          else
            some false
        ) fun (g3 : Bool) =>
      some g3
def aci_Is_l6_b (N : Nat) (a0 : api_Rule) (rec : Int → Option (Unit ⊕ Bool)) : Int → Option (Unit ⊕ Bool)
  | v10l6 =>
    bif decide (v10l6 < (a0.Attrs.length : Int)) then
      Option.bind (idxL a0.Attrs v10l6) fun (x13 : List UInt8) =>
      Option.bind (schema_Find N x13) fun (x17 : api_Type × Bool) =>
      Option.bind (
          bif !x17.2 then
            some true
          else
            bif (!(x17.1.Name == x13)) then
              some true
            else
              bif decide (v10l6 > (0 : Int)) then
                Option.bind (idxL a0.Attrs (w64 (v10l6 - (1 : Int)))) fun (x37 : List UInt8) =>
                some (Op.bytesLess x13 x37 || x13 == x37)
              else
                some false
        ) fun (g2 : Bool) =>
      bif g2 then
        some (Sum.inr false)
      else
        rec (w64 (v10l6 + (1 : Int)))
    else
      some (Sum.inl ())
def aci_Is_l6 (N : Nat) (a0 : api_Rule) : Nat → Int → Option (Unit ⊕ Bool)
  | 0, _ => none
  | n + 1, x => aci_Is_l6_b N a0 (aci_Is_l6 N a0 n) x
def aci_Is (N : Nat) (a0 : api_Rule) : Option (Bool) :=
  Option.bind (aci_Is_l6 N a0 N 0) fun (y7 : Unit ⊕ Bool) =>
  Sum.elim (fun (y7 : Unit) =>
      Option.bind (
          Option.bind (aci_isRights N a0.Rights) fun (x45 : Bool) =>
          bif x45 then
            Option.bind (aci_isWho N a0.Who) fun (x49 : Bool) =>
            some x49
          else
            some false
        ) fun (g8 : Bool) =>
      some g8
    ) (fun (y7 : Bool) =>
      some y7
    ) y7
def aci_Print_j24 (N : Nat) (r3_0j24 : List UInt8) (r3_1j24 : List UInt8) (r3_2j24 : List UInt8) (r3_3j24 : List UInt8) (r3_4j24 : List UInt8) : Option (List UInt8) :=
  Option.bind (strings_Join N [r3_0j24, r3_1j24, r3_2j24, r3_3j24, r3_4j24] ([32] : List UInt8)) fun (x27 : List UInt8) =>
  some x27
def aci_Print_j18 (a0 : api_Rule) (N : Nat) (r3_0j18 : List UInt8) (r3_1j18 : List UInt8) (r3_2j18 : List UInt8) (r3_3j18 : List UInt8) (r3_4j18 : List UInt8) : Option (List UInt8) :=
  bif decide ((a0.Attrs.length : Int) > (0 : Int)) then
    Option.bind (strings_Join N a0.Attrs ([44] : List UInt8)) fun (x24 : List UInt8) =>
    aci_Print_j24 N r3_0j18 r3_1j18 r3_2j18 x24 r3_4j18
  else
    aci_Print_j24 N r3_0j18 r3_1j18 r3_2j18 r3_3j18 r3_4j18
def aci_Print_j12 (a0 : api_Rule) (N : Nat) (r3_0j12 : List UInt8) (r3_1j12 : List UInt8) (r3_2j12 : List UInt8) (r3_3j12 : List UInt8) (r3_4j12 : List UInt8) : Option (List UInt8) :=
  bif a0.Sub then
    aci_Print_j18 a0 N r3_0j12 r3_1j12 ([115, 117, 98] : List UInt8) r3_3j12 r3_4j12
  else
    aci_Print_j18 a0 N r3_0j12 r3_1j12 r3_2j12 r3_3j12 r3_4j12
def aci_Print (N : Nat) (a0 : api_Rule) : Option (List UInt8) :=
  Option.bind (aci_Is N a0) fun (x5 : Bool) =>
  bif !x5 then
    some ([] : List UInt8)
  else
    bif a0.Deny then
      aci_Print_j12 a0 N ([100, 101, 110, 121] : List UInt8) a0.Rights ([98, 97, 115, 101] : List UInt8) ([42] : List UInt8) a0.Who
    else
      aci_Print_j12 a0 N ([103, 114, 97, 110, 116] : List UInt8) a0.Rights ([98, 97, 115, 101] : List UInt8) ([42] : List UInt8) a0.Who
def aci_Parse_j14 (a0 : List UInt8) (N : Nat) (r5j14 : api_Rule) : Option (api_Rule × Int) :=
  Option.bind (aci_Print N r5j14) fun (x37 : List UInt8) =>
  bif (!(x37 == a0)) then
    some ((⟨false, ([] : List UInt8), false, ([] : List UInt8), []⟩ : api_Rule), 20)
  else
    some (r5j14, 0)
def aci_Parse (N : Nat) (a0 : List UInt8) : Option (api_Rule × Int) :=
  Option.bind (strings_SplitN N a0 ([32] : List UInt8) 5) fun (x7 : List (List UInt8)) =>
  bif ((x7.length : Int) != (5 : Int)) then
    some ((⟨false, ([] : List UInt8), false, ([] : List UInt8), []⟩ : api_Rule), 20)
  else
    Option.bind (idxL x7 (0 : Int)) fun (x13 : List UInt8) =>
    Option.bind (idxL x7 (1 : Int)) fun (x17 : List UInt8) =>
    Option.bind (idxL x7 (2 : Int)) fun (x20 : List UInt8) =>
    Option.bind (idxL x7 (4 : Int)) fun (x24 : List UInt8) =>
    Option.bind (idxL x7 (3 : Int)) fun (x28 : List UInt8) =>
    bif (!(x28 == ([42] : List UInt8))) then
      Option.bind (idxL x7 (3 : Int)) fun (x32 : List UInt8) =>
      Option.bind (strings_Split N x32 ([44] : List UInt8)) fun (x34 : List (List UInt8)) =>
      aci_Parse_j14 a0 N (⟨(x13 == ([100, 101, 110, 121] : List UInt8)), x17, (x20 == ([115, 117, 98] : List UInt8)), x24, x34⟩ : api_Rule)
    else
      aci_Parse_j14 a0 N (⟨(x13 == ([100, 101, 110, 121] : List UInt8)), x17, (x20 == ([115, 117, 98] : List UInt8)), x24, []⟩ : api_Rule)
def slices_Equal_string_string_l14_b (N : Nat) (a0 : List (List UInt8)) (a1 : List (List UInt8)) (rec : Int → Option (Unit ⊕ Bool)) : Int → Option (Unit ⊕ Bool)
  | v13l14 =>
    bif decide (v13l14 < (a0.length : Int)) then
      Option.bind (idxL a0 v13l14) fun (x18 : List UInt8) =>
      Option.bind (idxL a1 v13l14) fun (x22 : List UInt8) =>
      bif (!(x18 == x22)) then
        some (Sum.inr false)
      else
        rec (w64 (v13l14 + (1 : Int)))
    else
      some (Sum.inl ())
def slices_Equal_string_string_l14 (N : Nat) (a0 : List (List UInt8)) (a1 : List (List UInt8)) : Nat → Int → Option (Unit ⊕ Bool)
  | 0, _ => none
  | n + 1, x => slices_Equal_string_string_l14_b N a0 a1 (slices_Equal_string_string_l14 N a0 a1 n) x
def slices_Equal_string_string (N : Nat) (a0 : List (List UInt8)) (a1 : List (List UInt8)) : Option (Bool) :=
  bif ((a0.length : Int) != (a1.length : Int)) then
    some false
  else
    Option.bind (slices_Equal_string_string_l14 N a0 a1 N 0) fun (y4 : Unit ⊕ Bool) =>
    Sum.elim (fun (y4 : Unit) =>
        some true
      ) (fun (y4 : Bool) =>
        some y4
      ) y4
def aci_Same (N : Nat) (a0 : api_Rule) (a1 : api_Rule) : Option (Bool) :=
  Option.bind (
      bif (a0.Deny == a1.Deny) then
        bif (a0.Rights == a1.Rights) then
          bif (a0.Sub == a1.Sub) then
            bif (a0.Who == a1.Who) then
              Option.bind (slices_Equal_string_string N a0.Attrs a1.Attrs) fun (x36 : Bool) =>
              some x36
            else
              some false
          else
            some false
        else
          some false
      else
        some false
    ) fun (g1 : Bool) =>
  some g1
def prefectlaw18_known (N : Nat)  : Option (Bool) :=
  Option.bind (aci_Parse N ([103, 114, 97, 110, 116, 32, 114, 115, 32, 115, 117, 98, 32, 99, 110, 44, 115, 110, 32, 100, 110, 58, 99, 110, 61, 97, 32, 98] : List UInt8)) fun (x6 : api_Rule × Int) =>
  Option.bind (aci_Parse N ([103, 114, 97, 110, 116, 32, 115, 114, 32, 115, 117, 98, 32, 42, 32, 97, 110, 121] : List UInt8)) fun (x10 : api_Rule × Int) =>
  Option.bind (
      bif (x6.2 == (0 : Int)) then
        bif !x6.1.Deny then
          bif (x6.1.Rights == ([114, 115] : List UInt8)) then
            bif x6.1.Sub then
              bif ((x6.1.Attrs.length : Int) == (2 : Int)) then
                bif (x6.1.Who == ([100, 110, 58, 99, 110, 61, 97, 32, 98] : List UInt8)) then
                  bif (x10.2 == (20 : Int)) then
                    Option.bind (aci_Print N x6.1) fun (x46 : List UInt8) =>
                    bif (x46 == ([103, 114, 97, 110, 116, 32, 114, 115, 32, 115, 117, 98, 32, 99, 110, 44, 115, 110, 32, 100, 110, 58, 99, 110, 61, 97, 32, 98] : List UInt8)) then
                      Option.bind (aci_Is N x6.1) fun (x51 : Bool) =>
                      bif x51 then
                        Option.bind (aci_Is N (⟨false, ([] : List UInt8), false, ([] : List UInt8), []⟩ : api_Rule)) fun (x55 : Bool) =>
                        bif !x55 then
                          Option.bind (aci_Same N x6.1 x6.1) fun (x61 : Bool) =>
                          some x61
                        else
                          some false
                      else
                        some false
                    else
                      some false
                  else
                    some false
                else
                  some false
              else
                some false
            else
              some false
          else
            some false
        else
          some false
      else
        some false
    ) fun (g1 : Bool) =>
  some g1
def prefectlaw18_fewRule_l6_b (N : Nat) (a0 : api_Rule) (rec : Int → Option (Unit ⊕ Bool)) : Int → Option (Unit ⊕ Bool)
  | v3l6 =>
    bif decide (v3l6 < (a0.Attrs.length : Int)) then
      Option.bind (idxL a0.Attrs v3l6) fun (x14 : List UInt8) =>
      bif decide ((x14.length : Int) > (30 : Int)) then
        some (Sum.inr false)
      else
        rec (w64 (v3l6 + (1 : Int)))
    else
      some (Sum.inl ())
def prefectlaw18_fewRule_l6 (N : Nat) (a0 : api_Rule) : Nat → Int → Option (Unit ⊕ Bool)
  | 0, _ => none
  | n + 1, x => prefectlaw18_fewRule_l6_b N a0 (prefectlaw18_fewRule_l6 N a0 n) x
def prefectlaw18_fewRule (N : Nat) (a0 : api_Rule) : Option (Bool) :=
  Option.bind (prefectlaw18_fewRule_l6 N a0 N 0) fun (y3 : Unit ⊕ Bool) =>
  Sum.elim (fun (y3 : Unit) =>
      Option.bind (
          bif decide ((a0.Attrs.length : Int) ≤ (20 : Int)) then
            bif decide ((a0.Rights.length : Int) ≤ (20 : Int)) then
              some (decide ((a0.Who.length : Int) ≤ (200 : Int)))
            else
              some false
          else
            some false
        ) fun (g4 : Bool) =>
      some g4
    ) (fun (y3 : Bool) =>
      some y3
    ) y3
def prefectref17_SameRule_l14_b (N : Nat) (a0 : api_Rule) (a1 : api_Rule) (rec : Int → Option (Unit ⊕ Bool)) : Int → Option (Unit ⊕ Bool)
  | v5l14 =>
    bif decide (v5l14 < (a0.Attrs.length : Int)) then
      Option.bind (idxL a0.Attrs v5l14) fun (x51 : List UInt8) =>
      Option.bind (idxL a1.Attrs v5l14) fun (x56 : List UInt8) =>
      bif (!(x51 == x56)) then
        some (Sum.inr false)
      else
        rec (w64 (v5l14 + (1 : Int)))
    else
      some (Sum.inl ())
def prefectref17_SameRule_l14 (N : Nat) (a0 : api_Rule) (a1 : api_Rule) : Nat → Int → Option (Unit ⊕ Bool)
  | 0, _ => none
  | n + 1, x => prefectref17_SameRule_l14_b N a0 a1 (prefectref17_SameRule_l14 N a0 a1 n) x
def prefectref17_SameRule (N : Nat) (a0 : api_Rule) (a1 : api_Rule) : Option (Bool) :=
  Option.bind (
      bif !(a0.Deny == a1.Deny) then
        some true
      else
        bif (!(a0.Rights == a1.Rights)) then
          some true
        else
          bif !(a0.Sub == a1.Sub) then
            some true
          else
            bif (!(a0.Who == a1.Who)) then
              some true
            else
              some ((a0.Attrs.length : Int) != (a1.Attrs.length : Int))
    ) fun (g1 : Bool) =>
  bif g1 then
    some false
  else
    Option.bind (prefectref17_SameRule_l14 N a0 a1 N 0) fun (y9 : Unit ⊕ Bool) =>
    Sum.elim (fun (y9 : Unit) =>
        some true
      ) (fun (y9 : Bool) =>
        some y9
      ) y9
def prefectlaw18_RuleBack (N : Nat) (a0 : api_Rule) (a1 : UInt8) : Option (Bool) :=
  Option.bind (prefectlaw18_known N) fun (x15 : Bool) =>
  bif !x15 then
    some false
  else
    Option.bind (
        Option.bind (prefectlaw18_fewRule N a0) fun (x18 : Bool) =>
        bif !x18 then
          some true
        else
          Option.bind (aci_Is N a0) fun (x22 : Bool) =>
          some (!x22)
      ) fun (g2 : Bool) =>
    bif g2 then
      some true
    else
      Option.bind (aci_Print N a0) fun (x26 : List UInt8) =>
      Option.bind (aci_Parse N x26) fun (x29 : api_Rule × Int) =>
      Option.bind (
          bif (x29.2 != (0 : Int)) then
            some true
          else
            Option.bind (prefectref17_SameRule N x29.1 a0) fun (x37 : Bool) =>
            bif !x37 then
              some true
            else
              some (decide ((x26.length : Int) < (12 : Int)))
        ) fun (g5 : Bool) =>
      bif g5 then
        some false
      else
        Option.bind (takeL x26 (Int.tmod ((a1).toNat : Int) (6 : Int))) fun (x51 : List UInt8) =>
        Option.bind (catS x51 ([32] : List UInt8)) fun (x52 : List UInt8) =>
        Option.bind (dropL x26 (Int.tmod ((a1).toNat : Int) (6 : Int))) fun (x55 : List UInt8) =>
        Option.bind (catS x52 x55) fun (x56 : List UInt8) =>
        Option.bind (aci_Parse N x56) fun (x57 : api_Rule × Int) =>
        Option.bind (dropL x26 (5 : Int)) fun (x62 : List UInt8) =>
        Option.bind (aci_Parse N x62) fun (x63 : api_Rule × Int) =>
        Option.bind (aci_Parse N ([] : List UInt8)) fun (x67 : api_Rule × Int) =>
        Option.bind (
            bif (x57.2 == (20 : Int)) then
              bif (x63.2 == (20 : Int)) then
                some (x67.2 == (20 : Int))
              else
                some false
            else
              some false
          ) fun (g9 : Bool) =>
        some g9
end Go.Gp
end
section
namespace Go.Gp
open Go.Vd
def b_api_Rule (x : api_Rule) : Prop := (True) ∧ (x.Rights.length ≤ maxLen) ∧ (True) ∧ (x.Who.length ≤ maxLen) ∧ ((x.Attrs.length ≤ maxLen ∧ ∀ y0 ∈ x.Attrs, y0.length ≤ maxLen))
end Go.Gp
end
section
namespace Go.Gp
open Go.Vd Go.Proofs
theorem mixed : Tryd.prog.follows .mixedOrders = true := by kernel_rfl
instance : Glob := ⟨fun _ => False, fun _ => True, fun _ _ _ _ => trivial, fun _ _ _ h => h.elim⟩
theorem glob_ok (W : Go.World) : Glob.ok W := trivial
end Go.Gp
end
