/- A part of the proof: functions of the program and what they compute. -/
import Derived.Test.YtgjeiamilppafaaDoorA4
import Derived.Test.YtgjeiamilppafaaDoorProg
import Derived.Test.YtgjeiamilppafaaDoorRows
import Derived.Stop.LaidErr
import Derived.LaidSub
import Derived.Lib.LaidTab
import Derived.Lib.ItoaNum
import Derived.MakeChecks
section
set_option linter.unusedVariables false
namespace Go.Gp
open Go.Vd
structure api_CSN where
  Time : Int
  Seq : Int
  Rep : Int
deriving DecidableEq
def e_api_CSN (x : api_CSN) : PV := .agg [.int .i64 x.Time, .int .i64 x.Seq, .int .i64 x.Rep]
structure csn_Gen where
  last : api_CSN
deriving DecidableEq
def e_csn_Gen (x : csn_Gen) : PV := .agg [.int .i64 x.last.Time, .int .i64 x.last.Seq, .int .i64 x.last.Rep]
def csn_New_n0 (N : Nat) (a0 : Int) : Option (csn_Gen) :=
  some (⟨(⟨0, 0, (mn (mx a0 (0 : Int)) (5 : Int))⟩ : api_CSN)⟩ : csn_Gen)
def csn_Gen_Next_o0_j6 (a0 : csn_Gen) (r30406j6 : api_CSN) : Option (api_CSN × Int × csn_Gen) :=
  bif decide (r30406j6.Time > (1099511627776 : Int)) then
    some ((⟨0, 0, 0⟩ : api_CSN), 19, a0)
  else
    some (r30406j6, 0, (⟨(⟨r30406j6.Time, r30406j6.Seq, r30406j6.Rep⟩ : api_CSN)⟩ : csn_Gen))
def csn_Gen_Next_o0_j8 (a0 : csn_Gen) (v1j8 : Int) : Option (api_CSN × Int × csn_Gen) :=
  csn_Gen_Next_o0_j6 a0 (⟨v1j8, 0, a0.last.Rep⟩ : api_CSN)
def csn_Gen_Next_o0 (N : Nat) (a0 : csn_Gen) (a1 : Int) : Option (api_CSN × Int × csn_Gen) :=
  Option.bind (
      bif decide (a1 ≤ a0.last.Time) then
        some (decide ((w64 (a0.last.Seq + (1 : Int))) > (65535 : Int)))
      else
        some false
    ) fun (g2 : Bool) =>
  bif g2 then
    csn_Gen_Next_o0_j8 a0 (w64 (a0.last.Time + (1 : Int)))
  else
    bif decide (a1 > a0.last.Time) then
      csn_Gen_Next_o0_j8 a0 a1
    else
      csn_Gen_Next_o0_j6 a0 (⟨a0.last.Time, (w64 (a0.last.Seq + (1 : Int))), a0.last.Rep⟩ : api_CSN)
def csn_Is (N : Nat) (a0 : api_CSN) : Option (Bool) :=
  Option.bind (
      bif decide (a0.Time ≥ (0 : Int)) then
        bif decide (a0.Time ≤ (1099511627776 : Int)) then
          bif decide (a0.Seq ≥ (0 : Int)) then
            bif decide (a0.Seq ≤ (65535 : Int)) then
              bif decide (a0.Rep ≥ (0 : Int)) then
                some (decide (a0.Rep < (6 : Int)))
              else
                some false
            else
              some false
          else
            some false
        else
          some false
      else
        some false
    ) fun (g1 : Bool) =>
  some g1
def cmp_isNaN_int64 (N : Nat) (a0 : Int) : Option (Bool) :=
  some (a0 != a0)
def cmp_Compare_int64 (N : Nat) (a0 : Int) (a1 : Int) : Option (Int) :=
  Option.bind (cmp_isNaN_int64 N a0) fun (x8 : Bool) =>
  Option.bind (cmp_isNaN_int64 N a1) fun (x10 : Bool) =>
  bif x8 then
    bif x10 then
      some 0
    else
      some (-1)
  else
    bif x10 then
      some 1
    else
      bif decide (a0 < a1) then
        some (-1)
      else
        bif decide (a0 > a1) then
          some 1
        else
          some 0
def cmp_isNaN_int (N : Nat) (a0 : Int) : Option (Bool) :=
  some (a0 != a0)
def cmp_Compare_int (N : Nat) (a0 : Int) (a1 : Int) : Option (Int) :=
  Option.bind (cmp_isNaN_int N a0) fun (x8 : Bool) =>
  Option.bind (cmp_isNaN_int N a1) fun (x10 : Bool) =>
  bif x8 then
    bif x10 then
      some 0
    else
      some (-1)
  else
    bif x10 then
      some 1
    else
      bif decide (a0 < a1) then
        some (-1)
      else
        bif decide (a0 > a1) then
          some 1
        else
          some 0
def cmp_Or_int_l8_b (N : Nat) (a0 : List Int) (rec : Int → Option (Unit ⊕ Int)) : Int → Option (Unit ⊕ Int)
  | v8l8 =>
    bif decide (v8l8 < (a0.length : Int)) then
      Option.bind (idxL a0 v8l8) fun (x10 : Int) =>
      bif (x10 != (0 : Int)) then
        some (Sum.inr x10)
      else
        rec (w64 (v8l8 + (1 : Int)))
    else
      some (Sum.inl ())
def cmp_Or_int_l8 (N : Nat) (a0 : List Int) : Nat → Int → Option (Unit ⊕ Int)
  | 0, _ => none
  | n + 1, x => cmp_Or_int_l8_b N a0 (cmp_Or_int_l8 N a0 n) x
def cmp_Or_int (N : Nat) (a0 : List Int) : Option (Int) :=
  Option.bind (cmp_Or_int_l8 N a0 N 0) fun (y3 : Unit ⊕ Int) =>
  Sum.elim (fun (y3 : Unit) =>
      some 0
    ) (fun (y3 : Int) =>
      some y3
    ) y3
def csn_Cmp (N : Nat) (a0 : api_CSN) (a1 : api_CSN) : Option (Int) :=
  Option.bind (cmp_Compare_int64 N a0.Time a1.Time) fun (x9 : Int) =>
  Option.bind (cmp_Compare_int N a0.Seq a1.Seq) fun (x14 : Int) =>
  Option.bind (cmp_Compare_int N a0.Rep a1.Rep) fun (x19 : Int) =>
  Option.bind (cmp_Or_int N [x9, x14, x19]) fun (x21 : Int) =>
  some x21
def csn_Gen_See_o0 (N : Nat) (a0 : csn_Gen) (a1 : api_CSN) : Option (csn_Gen) :=
  Option.bind (
      Option.bind (csn_Is N a1) fun (x16 : Bool) =>
      bif x16 then
        Option.bind (csn_Cmp N (⟨a1.Time, a1.Seq, a0.last.Rep⟩ : api_CSN) (⟨a0.last.Time, a0.last.Seq, a0.last.Rep⟩ : api_CSN)) fun (x23 : Int) =>
        some (decide (x23 > (0 : Int)))
      else
        some false
    ) fun (g1 : Bool) =>
  bif g1 then
    some (⟨(⟨a1.Time, a1.Seq, a0.last.Rep⟩ : api_CSN)⟩ : csn_Gen)
  else
    some a0
def strings_explode (N : Nat) (a0 : List UInt8) (a1 : Int) : Option (List (List UInt8)) :=
  none
def strings_Index (N : Nat) (a0 : List UInt8) (a1 : List UInt8) : Option (Int) :=
  Option.bind (stringslite_Index N a0 a1) fun (x7 : Int) =>
  some x7
def strings_genSplit_l34_b (N : Nat) (a0 : List UInt8) (a1 : List UInt8) (a2 : Int) (v3j18 : Int) (rec : (List UInt8 × Int × List (List UInt8)) → Option (List UInt8 × Int × List (List UInt8))) : (List UInt8 × Int × List (List UInt8)) → Option (List UInt8 × Int × List (List UInt8))
  | (v0l34, v10l34, r51231l34) =>
    bif decide (v10l34 < (w64 ((mn v3j18 (w64 ((a0.length : Int) + (1 : Int)))) - (1 : Int)))) then
      Option.bind (strings_Index N v0l34 a1) fun (x39 : Int) =>
      bif decide (x39 < (0 : Int)) then
        some (v0l34, v10l34, r51231l34)
      else
        Option.bind (takeL v0l34 (w64 (x39 + a2))) fun (x48 : List UInt8) =>
        Option.bind (chkI v10l34 r51231l34.length) fun (x49 : Nat) =>
        Option.bind (r51231l34[x49]?) fun (x9004 : List UInt8) =>
        Option.bind (dropL v0l34 (w64 (x39 + (a1.length : Int)))) fun (x55 : List UInt8) =>
        rec (x55, (w64 (v10l34 + (1 : Int))), (r51231l34.set x49 x48))
    else
      some (v0l34, v10l34, r51231l34)
def strings_genSplit_l34 (N : Nat) (a0 : List UInt8) (a1 : List UInt8) (a2 : Int) (v3j18 : Int) : Nat → (List UInt8 × Int × List (List UInt8)) → Option (List UInt8 × Int × List (List UInt8))
  | 0, _ => none
  | n + 1, x => strings_genSplit_l34_b N a0 a1 a2 v3j18 (strings_genSplit_l34 N a0 a1 a2 v3j18 n) x
def strings_genSplit_j18 (a0 : List UInt8) (a1 : List UInt8) (a2 : Int) (N : Nat) (v3j18 : Int) : Option (List (List UInt8)) :=
  Option.bind (mkN 16 (mn v3j18 (w64 ((a0.length : Int) + (1 : Int))))) fun (x31 : Nat) =>
  Option.bind (strings_genSplit_l34 N a0 a1 a2 v3j18 N (a0, 0, (List.replicate x31 ([] : List UInt8)))) fun (y6 : List UInt8 × Int × List (List UInt8)) =>
  Option.bind (chkI y6.2.1 y6.2.2.length) fun (x61 : Nat) =>
  Option.bind (y6.2.2[x61]?) fun (x9006 : List UInt8) =>
  Option.bind (takeL (y6.2.2.set x61 y6.1) (w64 (y6.2.1 + (1 : Int)))) fun (x65 : List (List UInt8)) =>
  some x65
def strings_genSplit (N : Nat) (a0 : List UInt8) (a1 : List UInt8) (a2 : Int) (a3 : Int) : Option (List (List UInt8)) :=
  bif (a3 == (0 : Int)) then
    some []
  else
    bif (a1 == ([] : List UInt8)) then
      Option.bind (strings_explode N a0 a3) fun (x18 : List (List UInt8)) =>
      some x18
    else
      bif decide (a3 < (0 : Int)) then
        Option.bind (strings_Count N a0 a1) fun (x23 : Int) =>
        strings_genSplit_j18 a0 a1 a2 N (w64 (x23 + (1 : Int)))
      else
        strings_genSplit_j18 a0 a1 a2 N a3
def strings_Split (N : Nat) (a0 : List UInt8) (a1 : List UInt8) : Option (List (List UInt8)) :=
  Option.bind (strings_genSplit N a0 a1 0 (-1)) fun (x7 : List (List UInt8)) =>
  some x7
def csn_Text (N : Nat) (a0 : api_CSN) : Option (List UInt8) :=
  Option.bind (strconv_FormatInt N a0.Time 10) fun (x5 : List UInt8) =>
  Option.bind (catS x5 ([46] : List UInt8)) fun (x6 : List UInt8) =>
  Option.bind (strconv_Itoa N a0.Seq) fun (x9 : List UInt8) =>
  Option.bind (catS x6 x9) fun (x10 : List UInt8) =>
  Option.bind (catS x10 ([46] : List UInt8)) fun (x11 : List UInt8) =>
  Option.bind (strconv_Itoa N a0.Rep) fun (x14 : List UInt8) =>
  Option.bind (catS x11 x14) fun (x15 : List UInt8) =>
  some x15
def csn_Parse_l18_b (N : Nat) (a0 : List UInt8) (x12 : List (List UInt8)) (rec : (Int × List Int) → Option ((List Int) ⊕ (api_CSN × Int))) : (Int × List Int) → Option ((List Int) ⊕ (api_CSN × Int))
  | (v19l18, r12805l18) =>
    bif decide (v19l18 < (x12.length : Int)) then
      Option.bind (idxL x12 v19l18) fun (x22 : List UInt8) =>
      Option.bind (strconv_ParseInt N x22 10 64) fun (x26 : Int × Bool) =>
      Option.bind (
          bif x26.2 then
            some true
          else
            bif decide (x26.1 < (0 : Int)) then
              some true
            else
              some (decide (x26.1 > (1099511627776 : Int)))
        ) fun (g3 : Bool) =>
      bif g3 then
        some (Sum.inr ((⟨0, 0, 0⟩ : api_CSN), 14))
      else
        Option.bind (chkI v19l18 3) fun (x42 : Nat) =>
        Option.bind (r12805l18[x42]?) fun (x9006 : Int) =>
        rec ((w64 (v19l18 + (1 : Int))), (r12805l18.set x42 x26.1))
    else
      some (Sum.inl r12805l18)
def csn_Parse_l18 (N : Nat) (a0 : List UInt8) (x12 : List (List UInt8)) : Nat → (Int × List Int) → Option ((List Int) ⊕ (api_CSN × Int))
  | 0, _ => none
  | n + 1, x => csn_Parse_l18_b N a0 x12 (csn_Parse_l18 N a0 x12 n) x
def csn_Parse (N : Nat) (a0 : List UInt8) : Option (api_CSN × Int) :=
  Option.bind (strings_Split N a0 ([46] : List UInt8)) fun (x12 : List (List UInt8)) =>
  bif ((x12.length : Int) != (3 : Int)) then
    some ((⟨0, 0, 0⟩ : api_CSN), 14)
  else
    Option.bind (csn_Parse_l18 N a0 x12 N (0, [0, 0, 0])) fun (y8 : (List Int) ⊕ (api_CSN × Int)) =>
    Sum.elim (fun (y8 : List Int) =>
        Option.bind (y8[0]?) fun (x45 : Int) =>
        Option.bind (y8[1]?) fun (x47 : Int) =>
        Option.bind (y8[2]?) fun (x49 : Int) =>
        Option.bind (
            Option.bind (csn_Is N (⟨x45, x47, x49⟩ : api_CSN)) fun (x52 : Bool) =>
            bif !x52 then
              some true
            else
              Option.bind (csn_Text N (⟨x45, x47, x49⟩ : api_CSN)) fun (x56 : List UInt8) =>
              some (!(x56 == a0))
          ) fun (g9 : Bool) =>
        bif g9 then
          some ((⟨0, 0, 0⟩ : api_CSN), 14)
        else
          some ((⟨x45, x47, x49⟩ : api_CSN), 0)
      ) (fun (y8 : api_CSN × Int) =>
        some (y8.1, y8.2)
      ) y8
def csn_Zero (N : Nat) (a0 : api_CSN) : Option (Bool) :=
  some (a0.Time == (0 : Int) && (a0.Seq == (0 : Int) && (a0.Rep == (0 : Int) && true)))
def csn_Gen_Last (N : Nat) (a0 : csn_Gen) : Option (api_CSN) :=
  some (⟨a0.last.Time, a0.last.Seq, a0.last.Rep⟩ : api_CSN)
def prefectlaw10_known (N : Nat)  : Option (Bool) :=
  Option.bind (csn_New_n0 N 2) fun (x14 : csn_Gen) =>
  Option.bind (csn_Gen_Next_o0 N x14 5) fun (x19 : api_CSN × Int × csn_Gen) =>
  Option.bind (csn_Gen_Next_o0 N x19.2.2 3) fun (x24 : api_CSN × Int × csn_Gen) =>
  Option.bind (csn_Gen_See_o0 N x24.2.2 (⟨9, 4, 0⟩ : api_CSN)) fun (x29 : csn_Gen) =>
  Option.bind (csn_Gen_Next_o0 N x29 1) fun (x32 : api_CSN × Int × csn_Gen) =>
  Option.bind (csn_Gen_Next_o0 N x32.2.2 1099511627777) fun (x37 : api_CSN × Int × csn_Gen) =>
  Option.bind (csn_Parse N ([57, 46, 53, 46, 50] : List UInt8)) fun (x41 : api_CSN × Int) =>
  Option.bind (csn_Parse N ([57, 46, 48, 53, 46, 50] : List UInt8)) fun (x45 : api_CSN × Int) =>
  Option.bind (
      bif (x19.2.1 == (0 : Int)) then
        bif (x19.1.Time == (5 : Int) && (x19.1.Seq == (0 : Int) && (x19.1.Rep == (2 : Int) && true))) then
          bif (x24.2.1 == (0 : Int)) then
            bif (x24.1.Time == (5 : Int) && (x24.1.Seq == (1 : Int) && (x24.1.Rep == (2 : Int) && true))) then
              bif (x32.2.1 == (0 : Int)) then
                bif (x32.1.Time == (9 : Int) && (x32.1.Seq == (5 : Int) && (x32.1.Rep == (2 : Int) && true))) then
                  bif (x37.2.1 == (19 : Int)) then
                    bif (x41.2 == (0 : Int)) then
                      bif (x41.1.Time == x32.1.Time && (x41.1.Seq == x32.1.Seq && (x41.1.Rep == x32.1.Rep && true))) then
                        bif (x45.2 == (14 : Int)) then
                          Option.bind (csn_Text N x32.1) fun (x92 : List UInt8) =>
                          bif (x92 == ([57, 46, 53, 46, 50] : List UInt8)) then
                            Option.bind (csn_Cmp N x19.1 x24.1) fun (x98 : Int) =>
                            bif (x98 == (-1 : Int)) then
                              Option.bind (csn_Is N x32.1) fun (x103 : Bool) =>
                              bif x103 then
                                Option.bind (csn_Zero N (⟨0, 0, 0⟩ : api_CSN)) fun (x107 : Bool) =>
                                bif x107 then
                                  Option.bind (csn_Gen_Last N x37.2.2) fun (x111 : api_CSN) =>
                                  some (x111.Time == x32.1.Time && (x111.Seq == x32.1.Seq && (x111.Rep == x32.1.Rep && true)))
                                else
                                  some false
                              else
                                some false
                            else
                              some false
                          else
                            some false
                        else
                          some false
                      else
                        some false
                    else
                      some false
                  else
                    some false
                else
                  some false
              else
                some false
            else
              some false
          else
            some false
        else
          some false
      else
        some false
    ) fun (g1 : Bool) =>
  some g1
def prefectref10_Is (N : Nat) (a0 : api_CSN) : Option (Bool) :=
  Option.bind (
      bif decide (a0.Time ≥ (0 : Int)) then
        bif decide (a0.Time ≤ (1099511627776 : Int)) then
          bif decide (a0.Seq ≥ (0 : Int)) then
            bif decide (a0.Seq ≤ (65535 : Int)) then
              bif decide (a0.Rep ≥ (0 : Int)) then
                some (decide (a0.Rep < (6 : Int)))
              else
                some false
            else
              some false
          else
            some false
        else
          some false
      else
        some false
    ) fun (g1 : Bool) =>
  some g1
def prefectref10_Num_l15_b (N : Nat) (v4j6 : List UInt8) (rec : (Int × List UInt8) → Option (List UInt8)) : (Int × List UInt8) → Option (List UInt8)
  | (v3l15, v5l15) =>
    Option.bind (catS [(byte (IntKind.u64.wrap ((48 : Int) + (Int.tmod v3l15 (10 : Int)))))] v5l15) fun (x19 : List UInt8) =>
    bif ((IntKind.u64.wrap (Int.tdiv v3l15 (10 : Int))) == (0 : Int)) then
      Option.bind (catS v4j6 x19) fun (x26 : List UInt8) =>
      some x26
    else
      rec ((IntKind.u64.wrap (Int.tdiv v3l15 (10 : Int))), x19)
def prefectref10_Num_l15 (N : Nat) (v4j6 : List UInt8) : Nat → (Int × List UInt8) → Option (List UInt8)
  | 0, _ => none
  | n + 1, x => prefectref10_Num_l15_b N v4j6 (prefectref10_Num_l15 N v4j6 n) x
def prefectref10_Num_j6 (N : Nat) (v3j6 : Int) (v4j6 : List UInt8) : Option (List UInt8) :=
  Option.bind (prefectref10_Num_l15 N v4j6 N (v3j6, ([] : List UInt8))) fun (y2 : List UInt8) =>
  some y2
def prefectref10_Num (N : Nat) (a0 : Int) : Option (List UInt8) :=
  bif decide (a0 < (0 : Int)) then
    prefectref10_Num_j6 N (IntKind.u64.wrap (0 - (IntKind.u64.wrap a0))) ([45] : List UInt8)
  else
    prefectref10_Num_j6 N (IntKind.u64.wrap a0) ([] : List UInt8)
def prefectref10_Text (N : Nat) (a0 : api_CSN) : Option (List UInt8) :=
  Option.bind (prefectref10_Num N a0.Time) fun (x5 : List UInt8) =>
  Option.bind (catS x5 ([46] : List UInt8)) fun (x6 : List UInt8) =>
  Option.bind (prefectref10_Num N a0.Seq) fun (x9 : List UInt8) =>
  Option.bind (catS x6 x9) fun (x10 : List UInt8) =>
  Option.bind (catS x10 ([46] : List UInt8)) fun (x11 : List UInt8) =>
  Option.bind (prefectref10_Num N a0.Rep) fun (x14 : List UInt8) =>
  Option.bind (catS x11 x14) fun (x15 : List UInt8) =>
  some x15
def prefectref10_Zero (N : Nat) (a0 : api_CSN) : Option (Bool) :=
  some (a0.Time == (0 : Int) && (a0.Seq == (0 : Int) && (a0.Rep == (0 : Int) && true)))
def prefectref10_Cmp (N : Nat) (a0 : api_CSN) (a1 : api_CSN) : Option (Int) :=
  Option.bind (
      bif decide (a0.Time < a1.Time) then
        some true
      else
        bif (a0.Time == a1.Time) then
          bif decide (a0.Seq < a1.Seq) then
            some true
          else
            bif (a0.Seq == a1.Seq) then
              some (decide (a0.Rep < a1.Rep))
            else
              some false
        else
          some false
    ) fun (g1 : Bool) =>
  bif g1 then
    some (-1)
  else
    bif (a0.Time == a1.Time && (a0.Seq == a1.Seq && (a0.Rep == a1.Rep && true))) then
      some 0
    else
      some 1
def prefectlaw10_CsnTells (N : Nat) (a0 : api_CSN) (a1 : api_CSN) (a2 : List UInt8) : Option (Bool) :=
  Option.bind (prefectlaw10_known N) fun (x12 : Bool) =>
  bif !x12 then
    some false
  else
    bif decide ((a2.length : Int) > (80 : Int)) then
      some true
    else
      Option.bind (csn_Parse N a2) fun (x19 : api_CSN × Int) =>
      Option.bind (
          bif (x19.2 != (0 : Int)) then
            bif (x19.2 != (14 : Int)) then
              some true
            else
              bif !(x19.1.Time == (0 : Int) && (x19.1.Seq == (0 : Int) && (x19.1.Rep == (0 : Int) && true))) then
                some true
              else
                bif (x19.2 == (0 : Int)) then
                  Option.bind (prefectref10_Is N x19.1) fun (x38 : Bool) =>
                  bif !x38 then
                    some true
                  else
                    Option.bind (prefectref10_Text N x19.1) fun (x42 : List UInt8) =>
                    some (!(x42 == a2))
                else
                  some false
          else
            bif (x19.2 == (0 : Int)) then
              Option.bind (prefectref10_Is N x19.1) fun (x38 : Bool) =>
              bif !x38 then
                some true
              else
                Option.bind (prefectref10_Text N x19.1) fun (x42 : List UInt8) =>
                some (!(x42 == a2))
            else
              some false
        ) fun (g3 : Bool) =>
      bif g3 then
        some false
      else
        Option.bind (prefectref10_Text N a0) fun (x50 : List UInt8) =>
        Option.bind (csn_Parse N x50) fun (x51 : api_CSN × Int) =>
        Option.bind (prefectref10_Is N a0) fun (x55 : Bool) =>
        Option.bind (
            Option.bind (csn_Is N a0) fun (x57 : Bool) =>
            bif (x57 == x55) then
              Option.bind (csn_Zero N a0) fun (x62 : Bool) =>
              Option.bind (prefectref10_Zero N a0) fun (x64 : Bool) =>
              bif (x62 == x64) then
                Option.bind (csn_Cmp N a0 a1) fun (x70 : Int) =>
                Option.bind (prefectref10_Cmp N a0 a1) fun (x73 : Int) =>
                bif (x70 == x73) then
                  Option.bind (csn_Text N a0) fun (x78 : List UInt8) =>
                  Option.bind (prefectref10_Text N a0) fun (x80 : List UInt8) =>
                  bif (x78 == x80) then
                    bif ((x51.2 == (0 : Int)) == x55) then
                      bif !x55 then
                        some true
                      else
                        some (x51.1.Time == a0.Time && (x51.1.Seq == a0.Seq && (x51.1.Rep == a0.Rep && true)))
                    else
                      some false
                  else
                    some false
                else
                  some false
              else
                some false
            else
              some false
          ) fun (g12 : Bool) =>
        some g12
end Go.Gp
end
section
namespace Go.Gp
open Go.Vd
def b_api_CSN (x : api_CSN) : Prop := ((IntKind.i64.min ≤ x.Time ∧ x.Time ≤ IntKind.i64.max)) ∧ ((IntKind.i64.min ≤ x.Seq ∧ x.Seq ≤ IntKind.i64.max)) ∧ ((IntKind.i64.min ≤ x.Rep ∧ x.Rep ≤ IntKind.i64.max))
end Go.Gp
end
section
namespace Go.Gp
open Go.Vd Go.Proofs
theorem mixed : Tryd.prog.follows .mixedOrders = true := by kernel_rfl
theorem var_stays {P : Program} {w w' : World} {n : String} {g : Nat} {x : Array Value} (hg : P.globalNamed n = some g) (hb : w'.heap[g]? = w.heap[g]?) (h : w.var? P n = some x) : w'.var? P n = some x := by
  unfold World.var? at h ⊢
  rw [hg, Option.bind_some] at h ⊢
  rw [hb]; exact h
theorem var_low {P : Program} {w : World} {n : String} {g : Nat} {x : Array Value} (hg : P.globalNamed n = some g) (h : w.var? P n = some x) : g < w.heap.size := by
  unfold World.var? at h
  rw [hg, Option.bind_some] at h
  cases hh : w.heap[g]? with
  | none => simp [hh] at h
  | some b => exact (Array.getElem?_eq_some_iff.1 hh).1
theorem gS : Tryd.prog.globalNamed "strconv.ErrSyntax" = some 0 := by kernel_rfl
theorem gR : Tryd.prog.globalNamed "strconv.ErrRange" = some 1 := by kernel_rfl
theorem gP : Tryd.prog.globalNamed "internal/strconv.uint64pow10" = some 2 := by kernel_rfl
structure Laid (w : World) : Prop where
  tab : Lib.TabIs Tryd.prog w "internal/strconv.uint64pow10" .u64 Lib.pow10Tab
  syn : ∃ tp p, w.var? Tryd.prog "strconv.ErrSyntax" = some #[.iface tp p]
  ran : ∃ tp p, w.var? Tryd.prog "strconv.ErrRange" = some #[.iface tp p]
instance : Glob where
  B b := b = 0 ∨ b = 1 ∨ b = 2
  ok := Laid
  stable w w' h k := ⟨var_stays gP (h 2 (by simp)) k.tab, by obtain ⟨tp, p, k⟩ := k.syn; exact ⟨tp, p, var_stays gS (h 0 (by simp)) k⟩, by obtain ⟨tp, p, k⟩ := k.ran; exact ⟨tp, p, var_stays gR (h 1 (by simp)) k⟩⟩
  low w b k hb := by
    obtain ⟨k1, ⟨_, _, k2⟩, ⟨_, _, k3⟩⟩ := k
    rcases hb with rfl | rfl | rfl
    · exact var_low gS k2
    · exact var_low gR k3
    · exact var_low gP k1
end Go.Gp
end
section
namespace Go.Gp
open Go.Vd Go.Proofs Go.Proofs.YtgjeiamilppafaaDoor
set_option maxRecDepth 100000
theorem star : "*" ++ "errors.errorString" = "*errors.errorString" := by decide
theorem row103 (u : TypeId) (h : Tryd.prog.typeName? 3 u = some "*errors.errorString") : u = 103 :=
  typeName_ptr_named (nm := "errors.errorString") (by rw [star]; kernel_rfl) (by kernel_rfl) (by decide) u (by rw [star]; exact h)
theorem gSt : (Tryd.prog.globals[0]?).map (·.type) = some 54 := by kernel_rfl
theorem gRt : (Tryd.prog.globals[1]?).map (·.type) = some 54 := by kernel_rfl
theorem gPt : (Tryd.prog.globals[2]?).map (·.type) = some 98 := by kernel_rfl
theorem c105 : Tryd.prog.cellsOf 105 = 1 := by kernel_rfl
theorem c9 : Tryd.prog.cellsOf 9 = 1 := by kernel_rfl
theorem c67 : Tryd.prog.cellsOf 67 = 1 := by kernel_rfl
theorem c98 : Tryd.prog.cellsOf 98 = 20 := by kernel_rfl
theorem rowsP : (Rows.csnTellsRow.laid.all fun x => x.2.handleName?.isNone) = true := by kernel_rfl
theorem glob_ok (W : World) (hL : laidMetH Tryd.prog Rows.csnTellsRow.laid W) : Glob.ok W := by
  rw [MakeChecks.laidMetH_plain _ _ _ rowsP] at hL
  refine (show Laid W from ⟨?_, ?_, ?_⟩)
  · exact Lib.tabIs_of_head gP gPt Tryd.underlying98 Tryd.underlying67 c67 c98 hL.tail.tail
  · obtain ⟨a0, s0, hv0, -, -, -⟩ := laid_sentinel hL.tail.tail.tail.tail.tail gS gSt Tryd.underlying54 row103 Tryd.underlying103 Tryd.underlying105 rfl rfl Tryd.underlying9 c105 c9
    exact ⟨_, _, hv0⟩
  · obtain ⟨a0, s0, hv0, -, -, -⟩ := laid_sentinel hL.tail.tail.tail.tail gR gRt Tryd.underlying54 row103 Tryd.underlying103 Tryd.underlying105 rfl rfl Tryd.underlying9 c105 c9
    exact ⟨_, _, hv0⟩
end Go.Gp
end
