/- A part of the proof: functions of the program and what they compute. -/
import Derived.Test.YtlopcglohpfonaaGreatDoorA5
import Derived.Test.YtlopcglohpfonaaGreatDoorA8
import Derived.Test.YtlopcglohpfonaaGreatDoorA4
import Derived.Test.YtlopcglohpfonaaGreatDoorA7
import Derived.Test.YtlopcglohpfonaaGreatDoorA11
section
set_option linter.unusedVariables false
set_option linter.unusedSimpArgs false
set_option maxRecDepth 4000
set_option maxHeartbeats 4000000
namespace Go.Gp
open Go.Vd Go.RowKit Go.Proofs
def kM : IC := (.seq (.seq (.reg [jm 8 7, jm 9 0, jS 10 9, jb .lss 11 8 10]) (.cond (.t 11) .skip (.exit 0))) (.seq (.block 1 (.seq (.reg [jm 14 0, jm 15 7, jn 16 (.idxs (.t 14) (.t 15))]) (.block 2 (.seq (.reg [jn 18 (.bin .eql (.t 16) (.c (.int .u8 92))), jm 17 18]) (.cond (.t 17) (.reg [jm 19 7, ju .add 20 19 1, jm 7 20]) (.seq (.reg [jm 22 1, jb .eql 23 16 22, jm 21 23]) (.cond (.t 21) (.seq (.reg [jm 24 5, jm 25 0, jm 26 6, jm 27 7, jn 28 (.slcs (.t 25) (some (.t 26)) (some (.t 27))), jn 29 (.bsl 1 [(.t 28)]), jn 30 (.app 9 1 16 (.t 24) (.t 29)), jm 5 30]) (.reg [jm 31 7, ju .add 32 31 1, jm 6 32])) .skip))))))) (.reg [jm 12 7, ju .add 13 12 1, jm 7 13])))
def k120 : IC := (.seq (.reg [jc 4 .nl]) (.seq (.reg [jc 5 .nl]) (.seq (.reg [jc 6 (j6 0)]) (.seq (.seq (.reg [jc 7 (j6 0)]) (.block 0 (.loop kM))) (.seq (.reg [jm 33 5, jm 34 0, jm 35 6, jn 36 (.slcs (.t 34) (some (.t 35)) none), jn 37 (.bsl 1 [(.t 36)]), jn 38 (.app 9 1 16 (.t 33) (.t 37)), jm 4 38]) .ret)))))
theorem Bu : BV Tryz.prog Tryz.f120 = some ⟨39, k120, [(.tmp 4)]⟩ := by kernel_rfl
theorem gW (N : Nat) (a0 : List UInt8) (a1 : UInt8) : ∀ (n : Nat) (x : Int × Int × List (List UInt8)) (y : Int × List (List UInt8)), JA N a0 a1 n x = some y → WX Tryz.prog (fun _ => false) (.loop kM) ((fun (x : Int × Int × List (List UInt8)) => ⟨AX [(0, .str a0), (1, eb a1), (5, .slr 192805 0 x.2.2.length), (6, j6 x.1), (7, j6 x.2.1)], AX [(192805, ⟨1, true, List.map PV.str x.2.2⟩)]⟩) x) ((fun y e s => e = .exit 0 ∧ s = ⟨AX [(0, .str a0), (5, .slr 192805 0 y.2.length), (6, j6 y.1)], AX [(192805, ⟨1, true, List.map PV.str y.2⟩)]⟩ : (Int × List (List UInt8)) → Xt → St → Prop) y) := by
 refine F5 _ _ (JA N a0 a1) (KR N a0 a1) (fun _ => rfl) (fun _ _ => rfl) ?_
 rintro rec ⟨YX, QQ, J7⟩ y h
 iterate 2 refine AA ?_
 refine AB ?_
 iterate 4 refine wq rfl ?_
 refine EP h rfl (fun c1 h => ?_) (fun c1 h => ?_)
 refine BH ?_
 refine RP (fun (x : Int × Int × List (List UInt8)) => ⟨AX [(0, .str a0), (1, eb a1), (5, .slr 192805 0 x.2.2.length), (6, j6 x.1), (7, j6 x.2.1)], AX [(192805, ⟨1, true, List.map PV.str x.2.2⟩)]⟩) (fun x => Q7 rec x.1 x.2.1 x.2.2 = some y) ?_ ?_
 rintro ⟨tX, oN, WE⟩ h
 refine AB ?_
 refine wq rfl ?_
 refine AZ (p := j6 (BX (oN + (1 : Int)))) rfl rfl ?_
 refine wq rfl ?_
 exact ⟨(tX, (BX (oN + (1 : Int))), WE), (cq rfl), h⟩
 refine CJ (AA (AB ?_))
 iterate 2 refine wq rfl ?_
 obtain ⟨UA, hx16, h⟩ := AP h
 refine AZ rfl (OB hx16 rfl rfl) ?_
 refine CJ (AA (AB ?_))
 refine AZ (p := .bool (((UA).toNat : Int) == (92 : Int))) rfl rfl ?_
 refine wq rfl ?_
 refine EP h rfl (fun c2 h => ?_) (fun c2 h => ?_)
 refine AB ?_
 refine wq rfl ?_
 refine AZ (p := j6 (BX (QQ + (1 : Int)))) rfl rfl ?_
 refine wq rfl ?_
 exact ⟨(YX, (BX (QQ + (1 : Int))), J7), (cq rfl), h⟩
 refine AA (AB ?_)
 refine wq rfl ?_
 refine AZ (p := .bool (((UA).toNat : Int) == ((a1).toNat : Int))) rfl rfl ?_
 refine wq rfl ?_
 refine EP h rfl (fun c3 h => ?_) (fun c3 h => ?_)
 refine AA (AB ?_)
 iterate 4 refine wq rfl ?_
 obtain ⟨x28, hx28, h⟩ := AP h
 refine AZ rfl (kD hx28 rfl rfl rfl) ?_
 refine CW rfl (UE 192029 rfl rfl rfl) ?_
 obtain ⟨x30, xA, h⟩ := AP h
 refine VU (f := PV.str) 192030 xA rfl rfl rfl rfl rfl (LY rfl (BU (f := PV.str) (l := [x28]))) rfl rfl rfl rfl ?_
 refine wq rfl ?_
 refine AB ?_
 refine wq rfl ?_
 refine AZ (p := j6 (BX (QQ + (1 : Int)))) rfl rfl ?_
 refine wq rfl ?_
 exact ⟨((BX (QQ + (1 : Int))), QQ, x30), (C9.trans (rename 192030 192805 rfl rfl) (cq rfl)), h⟩
 refine BH ?_
 exact ⟨(YX, QQ, J7), (cq rfl), h⟩
 cases AO h
 exact D9 (st1 := ⟨AX [(0, .str a0), (5, .slr 192805 0 J7.length), (6, j6 YX)], AX [(192805, ⟨1, true, List.map PV.str J7⟩)]⟩) (cq rfl) ⟨rfl, rfl⟩
theorem aP (N : Nat) (a0 : List UInt8) (a1 : UInt8) (r : List (List UInt8)) (h : bW N a0 a1 = some r) : Sat Tryz.prog 120 AC [.str a0, eb a1] (.sl 1 (List.map PV.str r)) AC := by
 refine EL mixed Tryz.func120 Bu (rs := [.sl 1 (List.map PV.str r)]) rfl rfl ?_
 refine AA (AB ?_)
 refine wq rfl ?_
 refine AA (AB ?_)
 refine wq rfl ?_
 refine AA (AB ?_)
 refine wq rfl ?_
 iterate 2 refine AA ?_
 refine AB ?_
 refine wq rfl ?_
 refine CJ ?_
 obtain ⟨y4, hy4, h⟩ := AP h
 refine PQ (gW N a0 a1 N _ _ hy4) (C9.trans (fC 5 192805 1 true rfl rfl rfl) (cq rfl)) ?_
 rintro e s ⟨rfl, rfl⟩
 refine AA (AB ?_)
 iterate 3 refine wq rfl ?_
 obtain ⟨Fh, Kg, h⟩ := AP h
 refine AZ rfl (bB Kg rfl rfl) ?_
 refine CW rfl (UE 192037 rfl rfl rfl) ?_
 obtain ⟨x38, hx38, h⟩ := AP h
 refine VU (f := PV.str) 192038 hx38 rfl rfl rfl rfl rfl (LY rfl (BU (f := PV.str) (l := [Fh]))) rfl rfl rfl rfl ?_
 refine wq rfl ?_
 obtain rfl := AO h
 refine EX (st1 := ⟨AX [(4, .sl 1 (List.map PV.str x38))], AX []⟩) (C9.trans (Vd.freeze 192038 _ rfl rfl rfl) (C9.trans (L6 4 (GQ (congrArg (PV.sl 1) (BU (f := PV.str) (l := x38)))) rfl) (cq rfl))) ?_
 exact ⟨nofun, rfl, rfl⟩
end Go.Gp
end
section
set_option linter.unusedVariables false
set_option linter.unusedSimpArgs false
namespace Go.Gp
open Go.Vd Go.RowKit Go.Proofs
theorem JM (N : Nat) (s : List UInt8) (c : UInt8) (r : Int) (h : strings_IndexByte N s c = some r) : Sat Tryz.prog 156 AC [.str s, eb c] (.int .i64 r) AC := by
 cases h
 refine aO (vs := [.string ⟨s.toArray⟩, .int .u8 (c.toNat : Int)]) rfl rfl fun w => ?_
 have h := Tryz.strings_IndexByte ⟨s.toArray⟩ (c.toNat : Int) w
 have e : ((c.toNat : Int)).toNat.toUInt8 = c := by simp
 rw [e] at h
 exact h
theorem NJ (N : Nat) (s p : List UInt8) (r : Int) (h : stringslite_Index N s p = some r) : Sat Tryz.prog 126 AC [.str s, .str p] (.int .i64 r) AC := by
 obtain ⟨c, rfl, rfl⟩ := UB h
 exact aO (vs := [.string ⟨s.toArray⟩, .string ⟨#[c]⟩]) rfl rfl fun w => Tryz.stringslite_Index_one ⟨s.toArray⟩ c w
theorem XB (N : Nat) (s p : List UInt8) (r : Int) (h : strings_Count N s p = some r) : Sat Tryz.prog 101 AC [.str s, .str p] (.int .i64 r) AC := by
 obtain ⟨c, rfl, rfl⟩ := X8 h
 exact aO (vs := [.string ⟨s.toArray⟩, .string ⟨#[c]⟩]) rfl rfl fun w => Tryz.strings_Count_one ⟨s.toArray⟩ c w
theorem UC (N : Nat) (n b : Int) (r : List UInt8) (h : JR N n b = some r) : Sat Tryz.prog 70 AC [.int .i64 n, .int .i64 b] (.str r) AC :=
 Al (fun n h0 h1 w hw => Tryz.strconv_FormatInt_10 n h0 h1 w (show Laid w from hw).tab) h
theorem RZ (N : Nat) (n : Int) (r : List UInt8) (h : strconv_Itoa N n = some r) : Sat Tryz.prog 71 AC [.int .i64 n] (.str r) AC :=
 uO (fun n h0 h1 w hw => Tryz.strconv_Itoa n h0 h1 w (show Laid w from hw).tab) h
theorem UI (N : Nat) (s : List UInt8) (b k : Int) (r : Int × Bool) (h : KM N s b k = some r) : Sat Tryz.prog 66 AC [.str s, .int .i64 b, .int .i64 k] (.tup [.int .i64 r.1, eErr 140 r.2]) AC := by
 refine uN (fun s v hs hv w => Tryz.strconv_ParseInt_10_at64_ok s (by omega) v hv w) (fun s hs hv w hw => ?_) (fun s hs hv w hw => ?_) h
 ·obtain ⟨tp, p, hk⟩ := (show Laid w from hw).syn
  refine (Tryz.strconv_ParseInt_10_at64_syntax_var s hs hv tp p w hk).mono ?_
  rintro e w' ⟨N, h1, _, _, h2⟩
  exact ⟨N, h1, h2⟩
 ·obtain ⟨tp, p, hk⟩ := (show Laid w from hw).ran
  refine (Tryz.strconv_ParseInt_10_at64_range_var s hs hv tp p w hk).mono ?_
  rintro e w' ⟨N, h1, _, _, h2⟩
  exact ⟨N, h1, h2⟩
end Go.Gp
end
section
set_option linter.unusedVariables false
set_option linter.unusedSimpArgs false
set_option maxRecDepth 4000
set_option maxHeartbeats 4000000
namespace Go.Gp
open Go.Vd Go.RowKit Go.Proofs
def k154 : IC := (.seq (.reg [jc 4 (.str []), jc 5 (.str []), jc 6 (.bool false)]) (.seq (.seq (.reg [jm 8 0, jm 9 1, jn 10 (.call 126 [(.t 8), (.t 9)]), jm 7 10]) (.seq (.reg [jm 11 7, ju .geq 12 11 0]) (.cond (.t 12) (.seq (.regd 12 [jm 13 0, jm 14 7, jn 15 (.slcs (.t 13) none (some (.t 14))), jm 16 0, jm 17 7, jm 18 1, jS 19 18, jb .add 20 17 19, jn 21 (.slcs (.t 16) (some (.t 20)) none), jm 4 15, jm 5 21, jc 6 (.bool true)]) .ret) .skip))) (.seq (.reg [jm 22 0, jm 4 22, jc 5 (.str []), jc 6 (.bool false)]) .ret)))
theorem Bn : BV Tryz.prog Tryz.f154 = some ⟨23, k154, [(.tmp 4), (.tmp 5), (.tmp 6)]⟩ := by kernel_rfl
theorem OQ (N : Nat) (a0 : List UInt8) (a1 : List UInt8) (r : List UInt8 × List UInt8 × Bool) (h : IL N a0 a1 = some r) : Sat Tryz.prog 154 AC [.str a0, .str a1] (.tup [.str r.1, .str r.2.1, .bool r.2.2]) AC := by
 refine EL mixed Tryz.func154 Bn (rs := [.str r.1, .str r.2.1, .bool r.2.2]) rfl rfl ?_
 refine AA (AB ?_)
 iterate 3 refine wq rfl ?_
 iterate 2 refine AA ?_
 refine AB ?_
 iterate 2 refine wq rfl ?_
 obtain ⟨P5, TR, h⟩ := AP h
 refine CW rfl (CX (NJ N _ _ _ TR) rfl (.cons A9 (.cons A9 .nil)) rfl rfl rfl) ?_
 refine wq rfl ?_
 refine AA (AB ?_)
 iterate 2 refine wq rfl ?_
 refine EP h rfl (fun c1 h => ?_) (fun c1 h => ?_)
 refine AA (NG ?_)
 iterate 2 refine dq rfl ?_
 obtain ⟨Y2, YL, h⟩ := AP h
 refine JF rfl (iH YL rfl rfl) ?_
 iterate 4 refine dq rfl ?_
 refine JF (p := j6 (BX (P5 + (a1.length : Int)))) rfl rfl ?_
 obtain ⟨WT, bM, h⟩ := AP h
 refine JF rfl (bB bM rfl rfl) ?_
 iterate 3 refine dq rfl ?_
 cases AO h
 refine BR ?_
 exact ⟨nofun, rfl, rfl⟩
 refine BH (AA (AB ?_))
 iterate 4 refine wq rfl ?_
 cases AO h
 refine BR ?_
 exact ⟨nofun, rfl, rfl⟩
def k140 : IC := (.seq (.reg [jc 4 (.str []), jc 5 (.str []), jc 6 (.bool false)]) (.seq (.reg [jm 7 0, jm 8 1, jn 9 (.call 154 [(.t 7), (.t 8)]), je 10 0 9, je 11 1 9, je 12 2 9, jm 4 10, jm 5 11, jm 6 12]) .ret))
theorem Bq : BV Tryz.prog Tryz.f140 = some ⟨13, k140, [(.tmp 4), (.tmp 5), (.tmp 6)]⟩ := by kernel_rfl
theorem ZL (N : Nat) (a0 : List UInt8) (a1 : List UInt8) (r : List UInt8 × List UInt8 × Bool) (h : strings_Cut N a0 a1 = some r) : Sat Tryz.prog 140 AC [.str a0, .str a1] (.tup [.str r.1, .str r.2.1, .bool r.2.2]) AC := by
 refine EL mixed Tryz.func140 Bq (rs := [.str r.1, .str r.2.1, .bool r.2.2]) rfl rfl ?_
 refine AA (AB ?_)
 iterate 3 refine wq rfl ?_
 refine AA (AB ?_)
 iterate 2 refine wq rfl ?_
 obtain ⟨x9, Ch, h⟩ := AP h
 refine CW rfl (CX (OQ N _ _ _ Ch) rfl (.cons A9 (.cons A9 .nil)) rfl rfl rfl) ?_
 iterate 6 refine wq rfl ?_
 cases AO h
 refine BR ?_
 exact ⟨nofun, rfl, rfl⟩
def k155 : IC := (.seq (.reg [jc 4 (.bool false)]) (.seq (.reg [jm 5 0, jm 6 1, jn 7 (.call 153 [(.t 5), (.t 6)]), jm 4 7]) .ret))
theorem Bl : BV Tryz.prog Tryz.f155 = some ⟨8, k155, [(.tmp 4)]⟩ := by kernel_rfl
theorem NK (N : Nat) (a0 : List UInt8) (a1 : List UInt8) (r : Bool) (h : strings_HasPrefix N a0 a1 = some r) : Sat Tryz.prog 155 AC [.str a0, .str a1] (.bool r) AC := by
 refine EL mixed Tryz.func155 Bl (rs := [.bool r]) rfl rfl ?_
 refine AA (AB ?_)
 refine wq rfl ?_
 refine AA (AB ?_)
 iterate 2 refine wq rfl ?_
 obtain ⟨x7, hx7, h⟩ := AP h
 refine CW rfl (CX (H8 N _ _ _ hx7) rfl (.cons A9 (.cons A9 .nil)) rfl rfl rfl) ?_
 refine wq rfl ?_
 obtain rfl := AO h
 refine BR ?_
 exact ⟨nofun, rfl, rfl⟩
def k157 : IC := (.seq (.reg [jc 4 (.int .u8 0), jc 5 (.bool false)]) (.seq (.seq (.reg [jm 7 1, jm 8 0, jS 9 8, jb .geq 10 7 9]) (.cond (.t 10) (.seq (.reg [jc 4 (.int .u8 0), jc 5 (.bool false)]) .ret) .skip)) (.seq (.reg [jm 11 0, jm 12 1, jm 13 1, ju .add 14 13 1, jn 15 (.slcs (.t 11) (some (.t 12)) (some (.t 14))), jn 16 (.call 78 [(.t 15)]), jn 17 (.idxs (.t 16) (ji 0)), jn 18 (.call 156 [(.c (.str [48, 49, 50, 51, 52, 53, 54, 55, 56, 57, 97, 98, 99, 100, 101, 102])), (.t 17)]), jm 6 18]) (.seq (.reg [jm 19 6, jn 20 (.mm true (.t 19) [(ji 0)]), jn 21 (.cvi .u8 (.t 20)), jm 22 6, ju .geq 23 22 0, jm 4 21, jm 5 23]) .ret))))
theorem Bj : BV Tryz.prog Tryz.f157 = some ⟨24, k157, [(.tmp 4), (.tmp 5)]⟩ := by kernel_rfl
theorem XC (N : Nat) (a0 : List UInt8) (a1 : Int) (r : UInt8 × Bool) (h : Q6 N a0 a1 = some r) : Sat Tryz.prog 157 AC [.str a0, j6 a1] (.tup [eb r.1, .bool r.2]) AC := by
 refine EL mixed Tryz.func157 Bj (rs := [eb r.1, .bool r.2]) rfl rfl ?_
 refine AA (AB ?_)
 iterate 2 refine wq rfl ?_
 iterate 2 refine AA ?_
 refine AB ?_
 iterate 4 refine wq rfl ?_
 refine EP h rfl (fun c1 h => ?_) (fun c1 h => ?_)
 refine AA (AB ?_)
 iterate 2 refine wq rfl ?_
 cases AO h
 refine BR ?_
 exact ⟨nofun, rfl, rfl⟩
 refine BH (AA (AB ?_))
 iterate 3 refine wq rfl ?_
 refine AZ (p := j6 (BX (a1 + (1 : Int)))) rfl rfl ?_
 obtain ⟨Y2, YL, h⟩ := AP h
 refine AZ rfl (kD YL rfl rfl rfl) ?_
 obtain ⟨UA, hx16, h⟩ := AP h
 refine CW rfl (CX (TJ N _ _ hx16) rfl (.cons A9 .nil) rfl rfl rfl) ?_
 obtain ⟨DY, TQ, h⟩ := AP h
 refine AZ rfl (OB TQ rfl rfl) ?_
 obtain ⟨ZF, iU, h⟩ := AP h
 refine CW rfl (CX (JM N _ _ _ iU) rfl (.cons A9 (.cons A9 .nil)) rfl rfl rfl) ?_
 refine wq rfl ?_
 refine AA (AB ?_)
 refine wq rfl ?_
 refine AZ (p := j6 (mx ZF (0 : Int))) rfl rfl ?_
 refine AZ rfl (WG rfl) ?_
 iterate 4 refine wq rfl ?_
 cases AO h
 refine BR ?_
 exact ⟨nofun, rfl, rfl⟩
def kL : IC := (.seq (.seq (.reg [jm 18 6, jm 19 0, jS 20 19, jb .lss 21 18 20]) (.cond (.t 21) .skip (.exit 0))) (.seq (.block 1 (.seq (.reg [jm 24 0, jm 25 6, jn 26 (.idxs (.t 24) (.t 25)), jm 7 26]) (.seq (.reg [jm 27 7, jn 28 (.bin .eql (.t 27) (.c (.int .u8 32))), jm 5 28]) (.block 2 (.seq (.reg [jm 34 7, jn 35 (.bin .eql (.t 34) (.c (.int .u8 92))), jm 33 35]) (.cond (.t 33) (.seq (.reg [jm 36 6, ju .add 37 36 1, jm 6 37]) (.seq (.seq (.reg [jm 38 6, jm 39 0, jS 40 39, jb .lss 41 38 40, jm 42 41, jt 42 43 (.mov (.t 0)), jt 42 44 (.mov (.t 6)), jt 42 45 (.idxs (.t 43) (.t 44)), jt 42 46 (.call 156 [(.c (.str [44, 43, 34, 92, 60, 62, 59, 35, 61, 32])), (.t 45)]), jt 42 47 (.bin .geq (.t 46) (ji 0)), jp 48 42 47]) (.cond (.t 48) (.seq (.reg [jm 49 4, jm 50 0, jm 51 6, jn 52 (.idxs (.t 50) (.t 51)), jn 53 (.bsl 1 [(.t 52)]), jn 54 (.app 5 1 1 (.t 49) (.t 53)), jm 4 54]) (.exit 1)) .skip)) (.seq (.reg [jm 56 0, jm 57 6, jn 58 (.call 157 [(.t 56), (.t 57)]), jm 55 58, je 59 0 55, je 60 1 55, jm 8 59, jm 9 60]) (.seq (.reg [jm 62 0, jm 63 6, ju .add 64 63 1, jn 65 (.call 157 [(.t 62), (.t 64)]), jm 61 65, je 66 0 61, je 67 1 61, jm 10 66, jm 11 67]) (.seq (.seq (.reg [jm 68 9, jn 69 (.un .not (.t 68)), jm 70 69, jf 70 71 (.mov (.t 11)), jf 70 72 (.un .not (.t 71)), jo 73 70 72]) (.cond (.t 73) (.seq (.reg [jc 2 (.str []), jc 3 (.bool false)]) .ret) .skip)) (.seq (.reg [jm 74 4, jm 75 8, jn 76 (.bin .shl (.t 75) (.c (.int .u64 4))), jm 77 10, jb .or 78 76 77, jn 79 (.bsl 1 [(.t 78)]), jn 80 (.app 5 1 1 (.t 74) (.t 79)), jm 4 80]) (.reg [jm 81 6, ju .add 82 81 1, jm 6 82]))))))) (.seq (.reg [jm 84 7, jn 85 (.call 156 [(.c (.str [44, 43, 34, 92, 60, 62, 59])), (.t 84)]), ju .geq 86 85 0, jm 83 86]) (.cond (.t 83) (.seq (.reg [jc 2 (.str []), jc 3 (.bool false)]) .ret) (.reg [jm 29 4, jm 30 7, jn 31 (.bsl 1 [(.t 30)]), jn 32 (.app 5 1 1 (.t 29) (.t 31)), jm 4 32]))))))))) (.reg [jm 22 6, ju .add 23 22 1, jm 6 23])))
def k141 : IC := (.seq (.reg [jc 2 (.str []), jc 3 (.bool false)]) (.seq (.seq (.reg [jm 12 0, jn 13 (.call 155 [(.t 12), (.c (.str [35]))]), jm 14 13, jf 14 15 (.mov (.t 0)), jf 14 16 (.call 155 [(.t 15), (.c (.str [32]))]), jo 17 14 16]) (.cond (.t 17) (.seq (.reg [jc 2 (.str []), jc 3 (.bool false)]) .ret) .skip)) (.seq (.reg [jc 4 .nl]) (.seq (.reg [jc 5 (.bool false)]) (.seq (.seq (.reg [jc 6 (j6 0)]) (.block 0 (.loop kL))) (.seq (.reg [jm 87 4, jn 88 (.cvb (.t 87)), jm 89 5, jn 90 (.un .not (.t 89)), jm 2 88, jm 3 90]) .ret))))))
theorem Bp : BV Tryz.prog Tryz.f141 = some ⟨91, k141, [(.tmp 2), (.tmp 3)]⟩ := by kernel_rfl
theorem WW (N : Nat) (a0 : List UInt8) : ∀ (n : Nat) (x : Bool × Int × List UInt8) (y : (Bool × List UInt8) ⊕ (List UInt8 × Bool)), FO N a0 n x = some y → WX Tryz.prog (fun _ => false) (.loop kL) ((fun (x : Bool × Int × List UInt8) => ⟨AX [(0, .str a0), (4, .slr 226404 0 x.2.2.length), (5, .bool x.1), (6, j6 x.2.1)], AX [(226404, ⟨1, true, List.map eb x.2.2⟩)]⟩) x) ((Sum.elim (fun y e s => e = .exit 0 ∧ s = ⟨AX [(4, .slr 226404 0 y.2.length), (5, .bool y.1)], AX [(226404, ⟨1, true, List.map eb y.2⟩)]⟩) (fun y e s => e = .ret ∧ s = ⟨AX [(2, .str y.1), (3, .bool y.2)], AX []⟩) : ((Bool × List UInt8) ⊕ (List UInt8 × Bool)) → Xt → St → Prop) y) := by
 refine F5 _ _ (FO N a0) (IG N a0) (fun _ => rfl) (fun _ _ => rfl) ?_
 rintro rec ⟨tY, MP, HV⟩ y h
 iterate 2 refine AA ?_
 refine AB ?_
 iterate 4 refine wq rfl ?_
 refine EP h rfl (fun c4 h => ?_) (fun c4 h => ?_)
 refine BH ?_
 refine RP (fun (x : Bool × Int × List UInt8) => ⟨AX [(0, .str a0), (4, .slr 226404 0 x.2.2.length), (5, .bool x.1), (6, j6 x.2.1)], AX [(226404, ⟨1, true, List.map eb x.2.2⟩)]⟩) (fun x => JI rec x.1 x.2.1 x.2.2 = some y) ?_ ?_
 rintro ⟨u6, oO, WC⟩ h
 refine AB ?_
 refine wq rfl ?_
 refine AZ (p := j6 (BX (oO + (1 : Int)))) rfl rfl ?_
 refine wq rfl ?_
 exact ⟨(u6, (BX (oO + (1 : Int))), WC), (cq rfl), h⟩
 refine CJ (AA (AB ?_))
 iterate 2 refine wq rfl ?_
 obtain ⟨IR, iT, h⟩ := AP h
 refine AZ rfl (OB iT rfl rfl) ?_
 refine wq rfl ?_
 refine AA (AB ?_)
 refine wq rfl ?_
 refine AZ (p := .bool (((IR).toNat : Int) == (32 : Int))) rfl rfl ?_
 refine wq rfl ?_
 refine CJ (AA (AB ?_))
 refine wq rfl ?_
 refine AZ (p := .bool (((IR).toNat : Int) == (92 : Int))) rfl rfl ?_
 refine wq rfl ?_
 refine EP h rfl (fun c5 h => ?_) (fun c5 h => ?_)
 refine AA (AB ?_)
 refine wq rfl ?_
 refine AZ (p := j6 (BX (MP + (1 : Int)))) rfl rfl ?_
 refine wq rfl ?_
 refine AA ?_
 obtain ⟨g6, hg6, h⟩ := AP h
 refine GZ ⟨AX [(0, .str a0), (4, .slr 226404 0 HV.length), (5, .bool (((IR).toNat : Int) == (32 : Int))), (6, j6 (BX (MP + (1 : Int)))), (48, .bool g6)], AX [(226404, ⟨1, true, List.map eb HV⟩)]⟩ ?_ ?_
 have h := hg6
 refine AB ?_
 iterate 5 refine wq rfl ?_
 rcases CY h with ⟨c7, h⟩ | ⟨c7, h⟩
 iterate 2 refine AZ (gy rfl c7) rfl ?_
 obtain ⟨jI, wZ, h⟩ := AP h
 refine AZ (gy rfl c7) (OB wZ rfl rfl) ?_
 obtain ⟨x46, Kc, h⟩ := AP h
 refine CW (gy rfl c7) (CX (JM N _ _ _ Kc) rfl (.cons A9 (.cons A9 .nil)) rfl rfl rfl) ?_
 refine AZ (gy rfl c7) rfl ?_
 refine AZ rfl (BG c7 rfl rfl) ?_
 cases AO h
 exact cq rfl
 iterate 5 refine D7 (gn rfl c7) ?_
 refine AZ rfl (BD c7 rfl rfl) ?_
 obtain rfl := AO h
 exact cq rfl
 clear hg6
 refine EP h rfl (fun c8 h => ?_) (fun c8 h => ?_)
 refine AA (AB ?_)
 iterate 3 refine wq rfl ?_
 obtain ⟨LQ, wX, h⟩ := AP h
 refine AZ rfl (OB wX rfl rfl) ?_
 refine CW rfl (UE 225653 rfl rfl rfl) ?_
 obtain ⟨x54, Kb, h⟩ := AP h
 refine VU (f := eb) 225654 Kb rfl rfl rfl rfl rfl (LY rfl (BU (f := eb) (l := [LQ]))) rfl rfl rfl rfl ?_
 refine wq rfl ?_
 refine NI ?_
 exact ⟨((((IR).toNat : Int) == (32 : Int)), (BX (MP + (1 : Int))), x54), (C9.trans (rename 225654 226404 rfl rfl) (cq rfl)), h⟩
 refine BH (AA (AB ?_))
 iterate 2 refine wq rfl ?_
 obtain ⟨Ff, hx58, h⟩ := AP h
 refine CW rfl (CX (XC N _ _ _ hx58) rfl (.cons A9 (.cons A9 .nil)) rfl rfl rfl) ?_
 iterate 5 refine wq rfl ?_
 refine AA (AB ?_)
 iterate 2 refine wq rfl ?_
 refine AZ (p := j6 (BX ((BX (MP + (1 : Int))) + (1 : Int)))) rfl rfl ?_
 obtain ⟨jH, kV, h⟩ := AP h
 refine CW rfl (CX (XC N _ _ _ kV) rfl (.cons A9 (.cons A9 .nil)) rfl rfl rfl) ?_
 iterate 5 refine wq rfl ?_
 refine AA ?_
 obtain ⟨g9, hg9, h⟩ := AP h
 refine GZ ⟨AX [(0, .str a0), (4, .slr 226404 0 HV.length), (5, .bool (((IR).toNat : Int) == (32 : Int))), (6, j6 (BX (MP + (1 : Int)))), (8, eb Ff.1), (10, eb jH.1), (73, .bool g9)], AX [(226404, ⟨1, true, List.map eb HV⟩)]⟩ ?_ ?_
 have h := hg9
 refine AB ?_
 iterate 3 refine wq rfl ?_
 rcases CY h with ⟨c10, h⟩ | ⟨c10, h⟩
 iterate 2 refine D7 (gn rfl c10) ?_
 refine AZ rfl (BG c10 rfl rfl) ?_
 obtain rfl := AO h
 exact cq rfl
 iterate 2 refine AZ (gy rfl c10) rfl ?_
 refine AZ rfl (BD c10 rfl rfl) ?_
 cases AO h
 exact cq rfl
 clear hg9
 refine EP h rfl (fun c11 h => ?_) (fun c11 h => ?_)
 refine AA (AB ?_)
 iterate 2 refine wq rfl ?_
 cases AO h
 exact EX (st1 := ⟨AX [(2, .str ([] : List UInt8)), (3, .bool false)], AX []⟩) (cq rfl) ⟨rfl, rfl⟩
 refine BH (AA (AB ?_))
 iterate 2 refine wq rfl ?_
 refine AZ rfl (Ar (a := Ff.1) (by decide) rfl rfl) ?_
 refine wq rfl ?_
 refine AZ rfl (Gc (a := (uM Ff.1 4)) (b := jH.1) rfl rfl) ?_
 refine CW rfl (UE 225679 rfl rfl rfl) ?_
 obtain ⟨x80, Js, h⟩ := AP h
 refine VU (f := eb) 225680 Js rfl rfl rfl rfl rfl (LY rfl (BU (f := eb) (l := [((uM Ff.1 4) ||| jH.1)]))) rfl rfl rfl rfl ?_
 refine wq rfl ?_
 refine AB ?_
 refine wq rfl ?_
 refine AZ (p := j6 (BX ((BX (MP + (1 : Int))) + (1 : Int)))) rfl rfl ?_
 refine wq rfl ?_
 exact ⟨((((IR).toNat : Int) == (32 : Int)), (BX ((BX (MP + (1 : Int))) + (1 : Int))), x80), (C9.trans (rename 225680 226404 rfl rfl) (cq rfl)), h⟩
 refine AA (AB ?_)
 refine wq rfl ?_
 obtain ⟨x85, hx85, h⟩ := AP h
 refine CW rfl (CX (JM N _ _ _ hx85) rfl (.cons A9 (.cons A9 .nil)) rfl rfl rfl) ?_
 iterate 2 refine wq rfl ?_
 refine EP h rfl (fun c12 h => ?_) (fun c12 h => ?_)
 refine AA (AB ?_)
 iterate 2 refine wq rfl ?_
 cases AO h
 exact EX (st1 := ⟨AX [(2, .str ([] : List UInt8)), (3, .bool false)], AX []⟩) (cq rfl) ⟨rfl, rfl⟩
 refine AB ?_
 iterate 2 refine wq rfl ?_
 refine CW rfl (UE 225631 rfl rfl rfl) ?_
 obtain ⟨x32, hx32, h⟩ := AP h
 refine VU (f := eb) 225632 hx32 rfl rfl rfl rfl rfl (LY rfl (BU (f := eb) (l := [IR]))) rfl rfl rfl rfl ?_
 refine wq rfl ?_
 exact ⟨((((IR).toNat : Int) == (32 : Int)), MP, x32), (C9.trans (rename 225632 226404 rfl rfl) (cq rfl)), h⟩
 cases AO h
 exact D9 (st1 := ⟨AX [(4, .slr 226404 0 HV.length), (5, .bool tY)], AX [(226404, ⟨1, true, List.map eb HV⟩)]⟩) (cq rfl) ⟨rfl, rfl⟩
theorem ZM (N : Nat) (a0 : List UInt8) (r : List UInt8 × Bool) (h : QW N a0 = some r) : Sat Tryz.prog 141 AC [.str a0] (.tup [.str r.1, .bool r.2]) AC := by
 refine EL mixed Tryz.func141 Bp (rs := [.str r.1, .bool r.2]) rfl rfl ?_
 refine AA (AB ?_)
 iterate 2 refine wq rfl ?_
 refine AA ?_
 obtain ⟨g1, hg1, h⟩ := AP h
 refine GZ ⟨AX [(0, .str a0), (17, .bool g1)], AX []⟩ ?_ ?_
 have h := hg1
 refine AB ?_
 refine wq rfl ?_
 obtain ⟨JP, YM, h⟩ := AP h
 refine CW rfl (CX (NK N _ _ _ YM) rfl (.cons A9 (.cons A9 .nil)) rfl rfl rfl) ?_
 refine wq rfl ?_
 rcases CY h with ⟨c2, h⟩ | ⟨c2, h⟩
 iterate 2 refine D7 (gn rfl c2) ?_
 refine AZ rfl (BG c2 rfl rfl) ?_
 obtain rfl := AO h
 exact cq rfl
 refine AZ (gy rfl c2) rfl ?_
 obtain ⟨UA, hx16, h⟩ := AP h
 refine CW (gy rfl c2) (CX (NK N _ _ _ hx16) rfl (.cons A9 (.cons A9 .nil)) rfl rfl rfl) ?_
 refine AZ rfl (BD c2 rfl rfl) ?_
 obtain rfl := AO h
 exact cq rfl
 clear hg1
 refine EP h rfl (fun c3 h => ?_) (fun c3 h => ?_)
 refine AA (AB ?_)
 iterate 2 refine wq rfl ?_
 cases AO h
 refine BR ?_
 exact ⟨nofun, rfl, rfl⟩
 refine BH (AA (AB ?_))
 refine wq rfl ?_
 refine AA (AB ?_)
 refine wq rfl ?_
 iterate 2 refine AA ?_
 refine AB ?_
 refine wq rfl ?_
 refine CJ ?_
 obtain ⟨y13, hy13, h⟩ := AP h
 refine PQ (WW N a0 N _ _ hy13) (C9.trans (fC 4 226404 1 true rfl rfl rfl) (cq rfl)) ?_
 clear hy13
 rcases y13 with y13 | y13
 rintro e s ⟨rfl, rfl⟩
 refine AA (AB ?_)
 refine wq rfl ?_
 refine AZ rfl (UK (l := y13.2) rfl rfl (BU (f := eb) (l := y13.2))) ?_
 iterate 4 refine wq rfl ?_
 cases AO h
 refine BR ?_
 exact ⟨nofun, rfl, rfl⟩
 rintro e s ⟨rfl, rfl⟩
 cases AO h
 exact ⟨nofun, rfl, rfl⟩
def qJ : IC := (.seq (.reg [jb .lss 16 15 14]) (.seq (.cond (.t 16) .skip (.exit 0)) (.seq (.block 1 (.seq (.reg [jx 17 1 13 15, jl 18 1 17, jm 6 18]) (.seq (.reg [jm 20 6, jn 21 (.call 140 [(.t 20), (.c (.str [61]))]), jm 19 21, je 22 0 19, je 23 1 19, je 24 2 19, jm 7 22, jm 8 23, jm 9 24]) (.seq (.reg [jm 26 8, jn 27 (.call 141 [(.t 26)]), jm 25 27, je 28 0 25, je 29 1 25, jm 10 28, jm 11 29]) (.seq (.seq (.reg [jm 30 9, jn 31 (.un .not (.t 30)), jm 32 31, jf 32 33 (.mov (.t 11)), jf 32 34 (.un .not (.t 33)), jo 35 32 34, jm 36 35, jf 36 37 (.mov (.t 4)), jf 36 38 (.len false (.t 37)), jf 36 39 (.bin .gtr (.t 38) (ji 4)), jo 40 36 39]) (.cond (.t 40) (.seq (.reg [jc 2 .nl, jc 3 (j6 15)]) .ret) .skip)) (.reg [jm 41 4, jm 42 7, jn 43 (.call 78 [(.t 42)]), jm 44 10, jn 45 (.build [(.str []), (.str [])] [(0, (1, (.t 43))), (1, (1, (.t 44)))]), jn 46 (.bsl 2 [(.t 45)]), jn 47 (.app 41 2 32 (.t 41) (.t 46)), jm 4 47])))))) (.reg [ju .add 48 15 1, jm 15 48]))))
def k121 : IC := (.seq (.reg [jc 2 .nl, jc 3 (j6 0)]) (.seq (.reg [jc 4 .nl]) (.seq (.seq (.reg [jm 12 0, jn 13 (.call 120 [(.t 12), (.c (.int .u8 43))]), jL 14 13, jc 15 (j6 0)]) (.block 0 (.loop qJ))) (.seq (.seq (.reg [jm 49 4, jn 50 (.call 54 [(.t 49)]), jn 51 (.un .not (.t 50))]) (.cond (.t 51) (.seq (.reg [jc 2 .nl, jc 3 (j6 15)]) .ret) .skip)) (.seq (.reg [jm 52 4, jm 2 52, jc 3 (j6 0)]) .ret)))))
theorem Bt : BV Tryz.prog Tryz.f121 = some ⟨53, k121, [(.tmp 2), (.tmp 3)]⟩ := by kernel_rfl
theorem Y4 (N : Nat) (JP : List (List UInt8)) : ∀ (n : Nat) (x : Int × List AU) (y : (List AU) ⊕ (List AU × Int)), HY N JP n x = some y → WX Tryz.prog (fun _ => false) (.loop qJ) ((fun (x : Int × List AU) => ⟨AX [(4, .slr 194404 0 x.2.length), (13, .sl 1 (List.map PV.str JP)), (14, j6 (JP.length : Int)), (15, j6 x.1)], AX [(194404, ⟨2, true, List.map AV x.2⟩)]⟩) x) ((Sum.elim (fun y e s => e = .exit 0 ∧ s = ⟨AX [(4, .slr 194404 0 y.length)], AX [(194404, ⟨2, true, List.map AV y⟩)]⟩) (fun y e s => e = .ret ∧ s = ⟨AX [(2, .sl 2 (List.map AV y.1)), (3, j6 y.2)], AX []⟩) : ((List AU) ⊕ (List AU × Int)) → Xt → St → Prop) y) := by
 refine F5 _ _ (HY N JP) (KS N JP) (fun _ => rfl) (fun _ _ => rfl) ?_
 rintro rec ⟨PU, MH⟩ y h
 refine AA (AB ?_)
 refine wq rfl ?_
 refine AA ?_
 refine EP h rfl (fun c1 h => ?_) (fun c1 h => ?_)
 refine BH (AA (CJ (AA (AB ?_))))
 obtain ⟨DY, TQ, h⟩ := AP h
 refine AZ rfl (EU (cs := [.str DY]) TQ rfl rfl rfl) ?_
 iterate 2 refine wq rfl ?_
 refine AA (AB ?_)
 refine wq rfl ?_
 obtain ⟨WT, bM, h⟩ := AP h
 refine CW rfl (CX (ZL N _ _ _ bM) rfl (.cons A9 (.cons A9 .nil)) rfl rfl rfl) ?_
 iterate 7 refine wq rfl ?_
 refine AA (AB ?_)
 refine wq rfl ?_
 obtain ⟨x27, hx27, h⟩ := AP h
 refine CW rfl (CX (ZM N _ _ hx27) rfl (.cons A9 .nil) rfl rfl rfl) ?_
 iterate 5 refine wq rfl ?_
 refine AA ?_
 obtain ⟨g2, hg2, h⟩ := AP h
 refine GZ ⟨AX [(4, .slr 194404 0 MH.length), (7, .str WT.1), (10, .str x27.1), (13, .sl 1 (List.map PV.str JP)), (14, j6 (JP.length : Int)), (15, j6 PU), (40, .bool g2)], AX [(194404, ⟨2, true, List.map AV MH⟩)]⟩ ?_ ?_
 have h := hg2
 refine AB ?_
 iterate 3 refine wq rfl ?_
 rcases CY h with ⟨c3, h⟩ | ⟨c3, h⟩
 iterate 2 refine D7 (gn rfl c3) ?_
 refine AZ rfl (BG c3 rfl rfl) ?_
 refine wq rfl ?_
 iterate 3 refine D7 rfl ?_
 refine wq rfl ?_
 obtain rfl := AO h
 exact cq rfl
 iterate 2 refine AZ (gy rfl c3) rfl ?_
 refine AZ rfl (BD c3 rfl rfl) ?_
 refine wq rfl ?_
 rcases CY h with ⟨c4, h⟩ | ⟨c4, h⟩
 iterate 3 refine D7 (gn rfl c4) ?_
 refine AZ rfl (BG c4 rfl rfl) ?_
 obtain rfl := AO h
 exact cq rfl
 iterate 3 refine AZ (gy rfl c4) rfl ?_
 refine AZ rfl (BD c4 rfl rfl) ?_
 cases AO h
 exact cq rfl
 clear hg2
 refine EP h rfl (fun c5 h => ?_) (fun c5 h => ?_)
 refine AA (AB ?_)
 iterate 2 refine wq rfl ?_
 cases AO h
 exact EX (st1 := ⟨AX [(2, .sl 2 (List.map AV [])), (3, j6 15)], AX []⟩) (C9.trans (L6 2 (FH 2) rfl) (cq rfl)) ⟨rfl, rfl⟩
 refine BH (AB ?_)
 iterate 2 refine wq rfl ?_
 obtain ⟨x43, Ke, h⟩ := AP h
 refine CW rfl (CX (TJ N _ _ Ke) rfl (.cons A9 .nil) rfl rfl rfl) ?_
 refine wq rfl ?_
 refine AZ (p := .agg [.str x43, .str x27.1]) rfl rfl ?_
 refine CW rfl (UE 193646 rfl rfl rfl) ?_
 obtain ⟨Y1, iR, h⟩ := AP h
 refine VU (f := AV) 193647 iR rfl rfl rfl rfl rfl (LY rfl (BU (f := AV) (l := [(⟨x43, x27.1⟩ : AU)]))) rfl rfl rfl rfl ?_
 refine wq rfl ?_
 refine AB ?_
 refine AZ (p := j6 (BX (PU + (1 : Int)))) rfl rfl ?_
 refine wq rfl ?_
 exact ⟨((BX (PU + (1 : Int))), Y1), (C9.trans (rename 193647 194404 rfl rfl) (cq rfl)), h⟩
 obtain rfl := AO h
 exact D9 (st1 := ⟨AX [(4, .slr 194404 0 MH.length)], AX [(194404, ⟨2, true, List.map AV MH⟩)]⟩) (cq rfl) ⟨rfl, rfl⟩
theorem ZN (N : Nat) (a0 : List UInt8) (r : List AU × Int) (h : QX N a0 = some r) : Sat Tryz.prog 121 AC [.str a0] (.tup [.sl 2 (List.map AV r.1), j6 r.2]) AC := by
 refine EL mixed Tryz.func121 Bt (rs := [.sl 2 (List.map AV r.1), j6 r.2]) rfl rfl ?_
 refine AA (AB ?_)
 iterate 2 refine wq rfl ?_
 refine AA (AB ?_)
 refine wq rfl ?_
 iterate 2 refine AA ?_
 refine AB ?_
 refine wq rfl ?_
 obtain ⟨JP, YM, h⟩ := AP h
 refine CW rfl (CX (aP N _ _ _ YM) rfl (.cons A9 (.cons A9 .nil)) rfl rfl rfl) ?_
 refine AZ rfl (CO rfl) ?_
 refine wq rfl ?_
 refine CJ ?_
 obtain ⟨y6, qP, h⟩ := AP h
 refine PQ (Y4 N JP N _ _ qP) (C9.trans (fC 4 194404 2 true rfl rfl rfl) (cq rfl)) ?_
 clear qP
 rcases y6 with y6 | y6
 rintro e s ⟨rfl, rfl⟩
 iterate 2 refine AA ?_
 refine AB ?_
 refine wq rfl ?_
 obtain ⟨x50, hx50, h⟩ := AP h
 refine CW rfl (CX (XD N _ _ hx50) rfl (.cons (aB rfl (BU (f := AV) (l := y6))) .nil) rfl rfl rfl) ?_
 refine wq rfl ?_
 refine EP h rfl (fun c7 h => ?_) (fun c7 h => ?_)
 refine AA (AB ?_)
 iterate 2 refine wq rfl ?_
 cases AO h
 refine EX (st1 := ⟨AX [(2, .sl 2 (List.map AV [])), (3, j6 15)], AX []⟩) (C9.trans (L6 2 (FH 2) rfl) (cq rfl)) ?_
 exact ⟨nofun, rfl, rfl⟩
 refine BH (AA (AB ?_))
 iterate 3 refine wq rfl ?_
 cases AO h
 refine EX (st1 := ⟨AX [(2, .sl 2 (List.map AV y6)), (3, j6 0)], AX []⟩) (C9.trans (Vd.freeze 194404 _ rfl rfl rfl) (C9.trans (L6 2 (GQ (congrArg (PV.sl 2) (BU (f := AV) (l := y6)))) rfl) (cq rfl))) ?_
 exact ⟨nofun, rfl, rfl⟩
 rintro e s ⟨rfl, rfl⟩
 cases AO h
 exact ⟨nofun, rfl, rfl⟩
def pR : IC := (.seq (.reg [jb .lss 15 14 13]) (.seq (.cond (.t 15) .skip (.exit 0)) (.seq (.block 1 (.seq (.reg [jx 16 1 12 14, jl 17 1 16, jm 6 17]) (.seq (.reg [jm 19 6, jn 20 (.call 121 [(.t 19)]), jm 18 20, je 21 0 18, je 22 1 18, jm 7 21, jm 8 22]) (.seq (.seq (.reg [jm 23 8, ju .neq 24 23 0, jm 25 24, jf 25 26 (.mov (.t 4)), jf 25 27 (.len false (.t 26)), jf 25 28 (.bin .eql (.t 27) (ji 8)), jo 29 25 28]) (.cond (.t 29) (.seq (.reg [jc 2 .nl, jc 3 (j6 15)]) .ret) .skip)) (.reg [jm 30 4, jm 31 7, jn 32 (.bsl 1 [(.t 31)]), jn 33 (.app 25 1 24 (.t 30) (.t 32)), jm 4 33]))))) (.reg [ju .add 34 14 1, jm 14 34]))))
def k96 : IC := (.seq (.reg [jc 2 .nl, jc 3 (j6 0)]) (.seq (.seq (.reg [jm 9 0, jn 10 (.bin .eql (.t 9) (.c (.str [])))]) (.cond (.t 10) (.seq (.reg [jc 2 .nl, jc 3 (j6 0)]) .ret) .skip)) (.seq (.reg [jc 4 .nl]) (.seq (.seq (.reg [jm 11 0, jn 12 (.call 120 [(.t 11), (.c (.int .u8 44))]), jL 13 12, jc 14 (j6 0)]) (.block 0 (.loop pR))) (.seq (.reg [jm 35 4, jm 2 35, jc 3 (j6 0)]) .ret)))))
theorem Gl : BV Tryz.prog Tryz.f96 = some ⟨36, k96, [(.tmp 2), (.tmp 3)]⟩ := by kernel_rfl
theorem aF (N : Nat) (KW : List (List UInt8)) : ∀ (n : Nat) (x : Int × List (List AU)) (y : (List (List AU)) ⊕ (List (List AU) × Int)), JB N KW n x = some y → WX Tryz.prog (fun _ => false) (.loop pR) ((fun (x : Int × List (List AU)) => ⟨AX [(4, .slr 154404 0 x.2.length), (12, .sl 1 (List.map PV.str KW)), (13, j6 (KW.length : Int)), (14, j6 x.1)], AX [(154404, ⟨1, true, List.map (es 2 AV) x.2⟩)]⟩) x) ((Sum.elim (fun y e s => e = .exit 0 ∧ s = ⟨AX [(4, .slr 154404 0 y.length)], AX [(154404, ⟨1, true, List.map (es 2 AV) y⟩)]⟩) (fun y e s => e = .ret ∧ s = ⟨AX [(2, .sl 1 (List.map (es 2 AV) y.1)), (3, j6 y.2)], AX []⟩) : ((List (List AU)) ⊕ (List (List AU) × Int)) → Xt → St → Prop) y) := by
 refine F5 _ _ (JB N KW) (NA N KW) (fun _ => rfl) (fun _ _ => rfl) ?_
 rintro rec ⟨WA, KD⟩ y h
 refine AA (AB ?_)
 refine wq rfl ?_
 refine AA ?_
 refine EP h rfl (fun c2 h => ?_) (fun c2 h => ?_)
 refine BH (AA (CJ (AA (AB ?_))))
 obtain ⟨UA, hx16, h⟩ := AP h
 refine AZ rfl (EU (cs := [.str UA]) hx16 rfl rfl rfl) ?_
 iterate 2 refine wq rfl ?_
 refine AA (AB ?_)
 refine wq rfl ?_
 obtain ⟨x20, bN, h⟩ := AP h
 refine CW rfl (CX (ZN N _ _ bN) rfl (.cons A9 .nil) rfl rfl rfl) ?_
 iterate 5 refine wq rfl ?_
 refine AA ?_
 obtain ⟨g3, hg3, h⟩ := AP h
 refine GZ ⟨AX [(4, .slr 154404 0 KD.length), (7, .sl 2 (List.map AV x20.1)), (12, .sl 1 (List.map PV.str KW)), (13, j6 (KW.length : Int)), (14, j6 WA), (29, .bool g3)], AX [(154404, ⟨1, true, List.map (es 2 AV) KD⟩)]⟩ ?_ ?_
 have h := hg3
 refine AB ?_
 iterate 3 refine wq rfl ?_
 rcases CY h with ⟨c4, h⟩ | ⟨c4, h⟩
 iterate 3 refine D7 (gn rfl c4) ?_
 refine AZ rfl (BG c4 rfl rfl) ?_
 obtain rfl := AO h
 exact cq rfl
 iterate 3 refine AZ (gy rfl c4) rfl ?_
 refine AZ rfl (BD c4 rfl rfl) ?_
 cases AO h
 exact cq rfl
 clear hg3
 refine EP h rfl (fun c5 h => ?_) (fun c5 h => ?_)
 refine AA (AB ?_)
 iterate 2 refine wq rfl ?_
 cases AO h
 exact EX (st1 := ⟨AX [(2, .sl 1 (List.map (es 2 AV) [])), (3, j6 15)], AX []⟩) (C9.trans (L6 2 (FH 1) rfl) (cq rfl)) ⟨rfl, rfl⟩
 refine BH (AB ?_)
 iterate 2 refine wq rfl ?_
 refine CW rfl (UE 153632 rfl rfl rfl) ?_
 obtain ⟨x33, Ki, h⟩ := AP h
 refine VU (f := (es 2 AV)) 153633 Ki rfl rfl rfl rfl rfl (LY rfl (BU (f := (es 2 AV)) (l := [x20.1]))) rfl rfl rfl rfl ?_
 refine wq rfl ?_
 refine AB ?_
 refine AZ (p := j6 (BX (WA + (1 : Int)))) rfl rfl ?_
 refine wq rfl ?_
 exact ⟨((BX (WA + (1 : Int))), x33), (C9.trans (rename 153633 154404 rfl rfl) (cq rfl)), h⟩
 obtain rfl := AO h
 exact D9 (st1 := ⟨AX [(4, .slr 154404 0 KD.length)], AX [(154404, ⟨1, true, List.map (es 2 AV) KD⟩)]⟩) (cq rfl) ⟨rfl, rfl⟩
theorem iB (N : Nat) (a0 : List UInt8) (r : List (List AU) × Int) (h : XQ N a0 = some r) : Sat Tryz.prog 96 AC [.str a0] (.tup [.sl 1 (List.map (es 2 AV) r.1), j6 r.2]) AC := by
 refine EL mixed Tryz.func96 Gl (rs := [.sl 1 (List.map (es 2 AV) r.1), j6 r.2]) rfl rfl ?_
 refine AA (AB ?_)
 iterate 2 refine wq rfl ?_
 iterate 2 refine AA ?_
 refine AB ?_
 iterate 2 refine wq rfl ?_
 refine EP h rfl (fun c1 h => ?_) (fun c1 h => ?_)
 refine AA (AB ?_)
 iterate 2 refine wq rfl ?_
 cases AO h
 refine EX (st1 := ⟨AX [(2, .sl 1 (List.map (es 2 AV) [])), (3, j6 0)], AX []⟩) (C9.trans (L6 2 (FH 1) rfl) (cq rfl)) ?_
 exact ⟨nofun, rfl, rfl⟩
 refine BH (AA (AB ?_))
 refine wq rfl ?_
 iterate 2 refine AA ?_
 refine AB ?_
 refine wq rfl ?_
 obtain ⟨KW, YN, h⟩ := AP h
 refine CW rfl (CX (aP N _ _ _ YN) rfl (.cons A9 (.cons A9 .nil)) rfl rfl rfl) ?_
 refine AZ rfl (CO rfl) ?_
 refine wq rfl ?_
 refine CJ ?_
 obtain ⟨y6, qP, h⟩ := AP h
 refine PQ (aF N KW N _ _ qP) (C9.trans (fC 4 154404 1 true rfl rfl rfl) (cq rfl)) ?_
 clear qP
 rcases y6 with y6 | y6
 rintro e s ⟨rfl, rfl⟩
 refine AA (AB ?_)
 iterate 3 refine wq rfl ?_
 cases AO h
 refine EX (st1 := ⟨AX [(2, .sl 1 (List.map (es 2 AV) y6)), (3, j6 0)], AX []⟩) (C9.trans (Vd.freeze 154404 _ rfl rfl rfl) (C9.trans (L6 2 (GQ (congrArg (PV.sl 1) (BU (f := (es 2 AV)) (l := y6)))) rfl) (cq rfl))) ?_
 exact ⟨nofun, rfl, rfl⟩
 rintro e s ⟨rfl, rfl⟩
 cases AO h
 exact ⟨nofun, rfl, rfl⟩
def k77 : IC := (.seq (.reg [jc 4 (.bool false)]) (.seq (.seq (.reg [jm 7 0]) (.block 0 (.seq (.block 4 (.seq (.block 3 (.seq (.block 2 (.seq (.block 1 (.seq (.seq (.seq (.reg [ju .eql 9 7 1, jm 8 9]) (.cond (.t 8) (.exit 1) .skip)) (.seq (.seq (.reg [ju .eql 11 7 2, jm 10 11]) (.cond (.t 10) (.exit 2) .skip)) (.seq (.seq (.reg [ju .eql 13 7 3, jm 12 13]) (.cond (.t 12) (.exit 3) .skip)) (.seq (.reg [ju .eql 15 7 5, jm 14 15]) (.cond (.t 14) (.exit 4) .skip))))) (.exit 0))) (.seq (.reg [jm 16 1, jn 17 (.call 93 [(.t 16), (.c (.str [32]))]), jn 18 (.bin .eql (.t 17) (.c (.str [])))]) (.cond (.t 18) (.seq (.reg [jc 4 (.bool false)]) .ret) .skip)))) (.seq (.seq (.reg [jm 19 1, jn 20 (.call 94 [(.t 19)]), jm 4 20]) .ret) (.exit 0)))) (.seq (.seq (.reg [jm 21 1, jn 22 (.call 95 [(.t 21)]), jm 4 22]) .ret) (.exit 0)))) (.seq (.seq (.reg [jm 24 1, jn 25 (.call 96 [(.t 24)]), jm 23 25, je 26 0 23, je 27 1 23, jm 5 26, jm 6 27]) (.seq (.reg [jm 28 6, ju .eql 29 28 0, jm 4 29]) .ret)) (.exit 0))))) (.seq (.reg [jc 4 (.bool true)]) .ret)))
theorem Gx : BV Tryz.prog Tryz.f77 = some ⟨30, k77, [(.tmp 4)]⟩ := by kernel_rfl
theorem aL (N : Nat) (a0 : Int) (a1 : List UInt8) (r : Bool) (h : TE N a0 a1 = some r) : Sat Tryz.prog 77 AC [j6 a0, .str a1] (.bool r) AC := by
 refine EL mixed Tryz.func77 Gx (rs := [.bool r]) rfl rfl ?_
 refine AA (AB ?_)
 refine wq rfl ?_
 iterate 2 refine AA ?_
 refine AB ?_
 refine wq rfl ?_
 refine CJ (AA (CJ (AA (CJ ?_))))
 refine RP (fun (x : Unit) => ⟨AX [(1, .str a1)], AX []⟩) (fun x => MR a1 N = some r) ?_ ?_
 rintro ⟨⟩ h
 iterate 2 refine AA ?_
 refine AB ?_
 refine wq rfl ?_
 obtain ⟨x20, bN, h⟩ := AP h
 refine CW rfl (CX (YD N _ _ bN) rfl (.cons A9 .nil) rfl rfl rfl) ?_
 refine wq rfl ?_
 obtain rfl := AO h
 refine BR ?_
 exact ⟨nofun, rfl, rfl⟩
 refine CJ (AA (CJ ?_))
 iterate 3 refine AA ?_
 refine AB ?_
 iterate 2 refine wq rfl ?_
 refine EP h rfl (fun c1 h => ?_) (fun c1 h => ?_)
 refine NI ?_
 refine AA (AB ?_)
 refine wq rfl ?_
 obtain ⟨DY, TQ, h⟩ := AP h
 refine CW rfl (CX (YC N _ _ _ TQ) rfl (.cons A9 (.cons A9 .nil)) rfl rfl rfl) ?_
 refine wq rfl ?_
 refine EP h rfl (fun c2 h => ?_) (fun c2 h => ?_)
 refine AA (AB ?_)
 refine wq rfl ?_
 obtain rfl := AO h
 refine BR ?_
 exact ⟨nofun, rfl, rfl⟩
 refine BH ?_
 exact ⟨(), (cq rfl), h⟩
 refine BH ?_
 iterate 2 refine AA ?_
 refine AB ?_
 iterate 2 refine wq rfl ?_
 refine EP h rfl (fun c3 h => ?_) (fun c3 h => ?_)
 refine NI ?_
 exact ⟨(), (cq rfl), h⟩
 refine BH ?_
 iterate 2 refine AA ?_
 refine AB ?_
 iterate 2 refine wq rfl ?_
 refine EP h rfl (fun c4 h => ?_) (fun c4 h => ?_)
 refine NI ?_
 iterate 2 refine AA ?_
 refine AB ?_
 refine wq rfl ?_
 obtain ⟨YW, bL, h⟩ := AP h
 refine CW rfl (CX (YE N _ _ bL) rfl (.cons A9 .nil) rfl rfl rfl) ?_
 refine wq rfl ?_
 obtain rfl := AO h
 refine BR ?_
 exact ⟨nofun, rfl, rfl⟩
 refine BH (AA (AB ?_))
 iterate 2 refine wq rfl ?_
 refine EP h rfl (fun c5 h => ?_) (fun c5 h => ?_)
 refine NI ?_
 iterate 2 refine AA ?_
 refine AB ?_
 refine wq rfl ?_
 obtain ⟨x25, hx25, h⟩ := AP h
 refine CW rfl (CX (iB N _ _ hx25) rfl (.cons A9 .nil) rfl rfl rfl) ?_
 iterate 5 refine wq rfl ?_
 refine AA (AB ?_)
 iterate 3 refine wq rfl ?_
 cases AO h
 refine BR ?_
 exact ⟨nofun, rfl, rfl⟩
 refine BH ?_
 refine NI ?_
 refine AA (AB ?_)
 refine wq rfl ?_
 obtain rfl := AO h
 refine BR ?_
 exact ⟨nofun, rfl, rfl⟩
def k57 : IC := (.seq (.reg [jc 4 (j6 0)]) (.seq (.reg [jm 8 0, jn 9 (.call 58 [(.t 8)]), jm 7 9, je 10 0 7, je 11 1 7, jn 5 (.box 90 (.c (.agg [(.str []), (j6 0), (.bool false)]))), js 3 5 10, jm 6 11]) (.seq (.block 0 (.seq (.reg [jm 13 6, jn 14 (.un .not (.t 13)), jm 12 14]) (.cond (.t 12) (.seq (.reg [jc 4 (j6 16)]) .ret) (.seq (.reg [jm 16 1, jn 17 (.bin .eql (.t 16) (.c (.str []))), jm 18 17, jf 18 19 (.mov (.t 1)), jf 18 20 (.len true (.t 19)), jf 18 21 (.bin .gtr (.t 20) (ji 60)), jo 22 18 21, jm 23 22, jf 23 24 (.fda 1 (.t 5)), jf 23 25 (.load 1 false (.t 24)), jf 23 26 (.mov (.t 1)), jf 23 27 (.call 77 [(.t 25), (.t 26)]), jf 23 28 (.un .not (.t 27)), jo 29 23 28, jm 15 29]) (.cond (.t 15) (.seq (.reg [jc 4 (j6 17)]) .ret) .skip))))) (.seq (.reg [jc 4 (j6 0)]) .ret))))
theorem Hu : BV Tryz.prog Tryz.f57 = some ⟨30, k57, [(.tmp 4)]⟩ := by kernel_rfl
theorem S9 (N : Nat) (a0 : List UInt8) (a1 : List UInt8) (r : Int) (h : MS N a0 a1 = some r) : Sat Tryz.prog 57 AC [.str a0, .str a1] (j6 r) AC := by
 refine EL mixed Tryz.func57 Hu (rs := [j6 r]) rfl rfl ?_
 refine AA (AB ?_)
 refine wq rfl ?_
 refine AA (AB ?_)
 refine wq rfl ?_
 obtain ⟨x9, Ch, h⟩ := AP h
 refine CW rfl (CX (U0 N _ _ Ch) rfl (.cons A9 .nil) rfl rfl rfl) ?_
 iterate 3 refine wq rfl ?_
 refine CW rfl (F8 91205 rfl rfl rfl rfl rfl) ?_
 refine ED (e' := FB x9.1) rfl rfl rfl rfl rfl rfl rfl rfl nofun rfl ?_
 refine wq rfl ?_
 refine AA (CJ (AA (AB ?_)))
 iterate 3 refine wq rfl ?_
 refine EP h rfl (fun c1 h => ?_) (fun c1 h => ?_)
 refine AA (AB ?_)
 refine wq rfl ?_
 obtain rfl := AO h
 refine BR ?_
 exact ⟨nofun, rfl, rfl⟩
 obtain ⟨g2, hg2, h⟩ := AP h
 refine GZ ⟨AX [(15, .bool g2)], AX []⟩ ?_ ?_
 have h := hg2
 refine AB ?_
 iterate 3 refine wq rfl ?_
 rcases CY h with ⟨c3, h⟩ | ⟨c3, h⟩
 iterate 3 refine D7 (gn rfl c3) ?_
 refine AZ rfl (BG c3 rfl rfl) ?_
 refine wq rfl ?_
 iterate 5 refine D7 rfl ?_
 iterate 2 refine wq rfl ?_
 obtain rfl := AO h
 exact cq rfl
 iterate 3 refine AZ (gy rfl c3) rfl ?_
 refine AZ rfl (BD c3 rfl rfl) ?_
 refine wq rfl ?_
 rcases CY h with ⟨c4, h⟩ | ⟨c4, h⟩
 iterate 5 refine D7 (gn rfl c4) ?_
 refine AZ rfl (BG c4 rfl rfl) ?_
 refine wq rfl ?_
 obtain rfl := AO h
 exact cq rfl
 iterate 3 refine AZ (gy rfl c4) rfl ?_
 obtain ⟨x27, hx27, h⟩ := AP h
 refine CW (gy rfl c4) (CX (aL N _ _ _ hx27) rfl (.cons A9 (.cons A9 .nil)) rfl rfl rfl) ?_
 refine AZ (gy rfl c4) rfl ?_
 refine AZ rfl (BD c4 rfl rfl) ?_
 refine wq rfl ?_
 cases AO h
 exact cq rfl
 clear hg2
 refine EP h rfl (fun c5 h => ?_) (fun c5 h => ?_)
 refine AA (AB ?_)
 refine wq rfl ?_
 obtain rfl := AO h
 refine BR ?_
 exact ⟨nofun, rfl, rfl⟩
 refine BH (AA (AB ?_))
 refine wq rfl ?_
 obtain rfl := AO h
 refine BR ?_
 exact ⟨nofun, rfl, rfl⟩
def k56 : IC := (.seq (.reg [jn 1 (.box 41 (.t 0)), jc 2 (.bool false)]) (.seq (.reg [ja 3 0 1, jl 4 1 3, jn 5 (.bin .eql (.t 4) (.c (.str [101, 110, 116, 114, 121, 105, 100]))), jm 6 5, jf 6 7 (.fda 0 (.t 1)), jf 6 8 (.load 1 false (.t 7)), jf 6 9 (.fda 1 (.t 1)), jf 6 10 (.load 1 false (.t 9)), jf 6 11 (.call 57 [(.t 8), (.t 10)]), jf 6 12 (.bin .neq (.t 11) (ji 0)), jo 13 6 12, jm 2 13]) .ret))
theorem Hw : BV Tryz.prog Tryz.f56 = some ⟨14, k56, [(.tmp 2)]⟩ := by kernel_rfl
theorem WB (N : Nat) (a0 : AU) (r : Bool) (h : QC N a0 = some r) : Sat Tryz.prog 56 AC [AV a0] (.bool r) AC := by
 refine EL mixed Tryz.func56 Hw (rs := [.bool r]) rfl rfl ?_
 refine AA (AB ?_)
 refine CW rfl (F8 89601 rfl rfl rfl rfl rfl) ?_
 refine wq rfl ?_
 obtain ⟨g1, hg1, h⟩ := AP h
 refine GZ ⟨AX [(2, .bool g1)], AX []⟩ ?_ ?_
 have h := hg1
 refine AB ?_
 iterate 4 refine wq rfl ?_
 rcases CY h with ⟨c2, h⟩ | ⟨c2, h⟩
 iterate 6 refine D7 (gn rfl c2) ?_
 refine AZ rfl (BG c2 rfl rfl) ?_
 refine wq rfl ?_
 obtain rfl := AO h
 exact cq rfl
 iterate 4 refine AZ (gy rfl c2) rfl ?_
 obtain ⟨QJ, WH, h⟩ := AP h
 refine CW (gy rfl c2) (CX (S9 N _ _ _ WH) rfl (.cons A9 (.cons A9 .nil)) rfl rfl rfl) ?_
 refine AZ (gy rfl c2) rfl ?_
 refine AZ rfl (BD c2 rfl rfl) ?_
 refine wq rfl ?_
 cases AO h
 exact cq rfl
 clear hg1
 obtain rfl := AO h
 refine BR ?_
 exact ⟨nofun, rfl, rfl⟩
def fK : IC := (.seq (.reg [jb .lss 9 8 7]) (.seq (.cond (.t 9) .skip (.exit 0)) (.seq (.block 1 (.seq (.reg [jm 10 8, jm 5 10]) (.seq (.reg [jm 11 1, jm 12 0, jm 13 5, jx 14 2 12 13, jg 15 2 14, jn 16 (.calv (.t 11) [(.t 15)])]) (.cond (.t 16) (.seq (.reg [jm 17 5, jm 4 17]) .ret) .skip)))) (.reg [ju .add 18 8 1, jm 8 18]))))
def Gz : IC := (.seq (.reg [jc 4 (j6 0)]) (.seq (.seq (.reg [jm 6 0, jL 7 6, jc 8 (j6 0)]) (.block 0 (.loop fK))) (.seq (.reg [jc 4 (j6 (-1))]) .ret)))
theorem rU : BV Tryz.prog Tryz.f76 = some ⟨19, Gz, [(.tmp 4)]⟩ := by kernel_rfl
theorem GI (N : Nat) (a0 : List AU) : ∀ (n : Nat) (x : Int) (y : Unit ⊕ Int), BK N a0 n x = some y → WX Tryz.prog (fun _ => false) (.loop fK) ((fun (x : Int) => ⟨AX [(0, .sl 2 (List.map AV a0)), (1, .clo 56 []), (7, j6 (a0.length : Int)), (8, j6 x)], AX []⟩) x) ((Sum.elim (fun y e s => e = .exit 0 ∧ s = ⟨AX [], AX []⟩) (fun y e s => e = .ret ∧ s = ⟨AX [(4, j6 y)], AX []⟩) : (Unit ⊕ Int) → Xt → St → Prop) y) := by
 refine F5 _ _ (BK N a0) (BZ N a0) (fun _ => rfl) (fun _ _ => rfl) ?_
 rintro rec v8l6 y h
 refine AA (AB ?_)
 refine wq rfl ?_
 refine AA ?_
 refine EP h rfl (fun c1 h => ?_) (fun c1 h => ?_)
 refine BH (AA (CJ (AA (AB ?_))))
 iterate 2 refine wq rfl ?_
 refine AA (AB ?_)
 iterate 3 refine wq rfl ?_
 obtain ⟨MM, Q5, h⟩ := AP h
 refine AZ rfl (EU (cs := [.str MM.Attr, .str MM.Value]) Q5 rfl rfl rfl) ?_
 refine AZ (p := AV MM) rfl rfl ?_
 obtain ⟨UA, hx16, h⟩ := AP h
 refine CW rfl (VP (WB N _ _ hx16) rfl rfl rfl (.cons A9 .nil) rfl rfl rfl) ?_
 refine EP h rfl (fun c2 h => ?_) (fun c2 h => ?_)
 refine AA (AB ?_)
 iterate 2 refine wq rfl ?_
 obtain rfl := AO h
 exact EX (st1 := ⟨AX [(4, j6 v8l6)], AX []⟩) (cq rfl) ⟨rfl, rfl⟩
 refine BH (AB ?_)
 refine AZ (p := j6 (BX (v8l6 + (1 : Int)))) rfl rfl ?_
 refine wq rfl ?_
 exact ⟨(BX (v8l6 + (1 : Int))), (cq rfl), h⟩
 cases AO h
 exact D9 (st1 := ⟨AX [], AX []⟩) (cq rfl) ⟨rfl, rfl⟩
theorem GM (N : Nat) (a0 : List AU) (r : Int) (h : DX N a0 = some r) : Sat Tryz.prog 76 AC [.sl 2 (List.map AV a0), .clo 56 []] (j6 r) AC := by
 refine EL mixed Tryz.func76 rU (rs := [j6 r]) rfl rfl ?_
 refine AA (AB ?_)
 refine wq rfl ?_
 iterate 2 refine AA ?_
 refine AB ?_
 refine wq rfl ?_
 refine AZ rfl (CO rfl) ?_
 refine wq rfl ?_
 refine CJ ?_
 obtain ⟨y3, hy3, h⟩ := AP h
 refine PQ (GI N a0 N _ _ hy3) (cq rfl) ?_
 clear hy3
 rcases y3 with y3 | y3
 rintro e s ⟨rfl, rfl⟩
 refine AA (AB ?_)
 refine wq rfl ?_
 cases AO h
 refine BR ?_
 exact ⟨nofun, rfl, rfl⟩
 rintro e s ⟨rfl, rfl⟩
 obtain rfl := AO h
 exact ⟨nofun, rfl, rfl⟩
def Hz : IC := (.seq (.reg [jc 4 (.bool false)]) (.seq (.reg [jm 5 0, jm 6 1, jn 7 (.call 76 [(.t 5), (.t 6)]), ju .geq 8 7 0, jm 4 8]) .ret))
theorem rY : BV Tryz.prog Tryz.f55 = some ⟨9, Hz, [(.tmp 4)]⟩ := by kernel_rfl
theorem G9 (N : Nat) (a0 : List AU) (r : Bool) (h : D5 N a0 = some r) : Sat Tryz.prog 55 AC [.sl 2 (List.map AV a0), .clo 56 []] (.bool r) AC := by
 refine EL mixed Tryz.func55 rY (rs := [.bool r]) rfl rfl ?_
 refine AA (AB ?_)
 refine wq rfl ?_
 refine AA (AB ?_)
 iterate 2 refine wq rfl ?_
 obtain ⟨x7, hx7, h⟩ := AP h
 refine CW rfl (CX (GM N _ _ hx7) rfl (.cons A9 (.cons A9 .nil)) rfl rfl rfl) ?_
 iterate 2 refine wq rfl ?_
 cases AO h
 refine BR ?_
 exact ⟨nofun, rfl, rfl⟩
def k28 : IC := (.seq (.reg [jc 2 (.bool false)]) (.seq (.seq (.reg [jm 3 0, jn 4 (.call 54 [(.t 3)]), jn 5 (.un .not (.t 4)), jm 6 5, jf 6 7 (.mov (.t 0)), jf 6 8 (.len false (.t 7)), jf 6 9 (.bin .geq (.t 8) (ji 4)), jo 10 6 9]) (.cond (.t 10) (.seq (.reg [jc 2 (.bool false)]) .ret) .skip)) (.seq (.reg [jm 11 0, jn 12 (.call 55 [(.t 11), (.c (.clo 56 []))]), jn 13 (.un .not (.t 12)), jm 2 13]) .ret)))
theorem Iz : BV Tryz.prog Tryz.f28 = some ⟨14, k28, [(.tmp 2)]⟩ := by kernel_rfl
theorem SE (N : Nat) (a0 : List AU) (r : Bool) (h : NB N a0 = some r) : Sat Tryz.prog 28 AC [.sl 2 (List.map AV a0)] (.bool r) AC := by
 refine EL mixed Tryz.func28 Iz (rs := [.bool r]) rfl rfl ?_
 refine AA (AB ?_)
 refine wq rfl ?_
 refine AA ?_
 obtain ⟨g1, hg1, h⟩ := AP h
 refine GZ ⟨AX [(0, .sl 2 (List.map AV a0)), (10, .bool g1)], AX []⟩ ?_ ?_
 have h := hg1
 refine AB ?_
 refine wq rfl ?_
 obtain ⟨x4, hx4, h⟩ := AP h
 refine CW rfl (CX (XD N _ _ hx4) rfl (.cons A9 .nil) rfl rfl rfl) ?_
 iterate 2 refine wq rfl ?_
 rcases CY h with ⟨c2, h⟩ | ⟨c2, h⟩
 iterate 3 refine D7 (gn rfl c2) ?_
 refine AZ rfl (BG c2 rfl rfl) ?_
 obtain rfl := AO h
 exact cq rfl
 refine AZ (gy rfl c2) rfl ?_
 refine AZ (gy rfl c2) (CO rfl) ?_
 refine AZ (gy rfl c2) rfl ?_
 refine AZ rfl (BD c2 rfl rfl) ?_
 cases AO h
 exact cq rfl
 clear hg1
 refine EP h rfl (fun c3 h => ?_) (fun c3 h => ?_)
 refine AA (AB ?_)
 refine wq rfl ?_
 obtain rfl := AO h
 refine BR ?_
 exact ⟨nofun, rfl, rfl⟩
 refine BH (AA (AB ?_))
 refine wq rfl ?_
 obtain ⟨KW, YN, h⟩ := AP h
 refine CW rfl (CX (G9 N _ _ YN) rfl (.cons A9 (.cons A9 .nil)) rfl rfl rfl) ?_
 iterate 2 refine wq rfl ?_
 cases AO h
 refine BR ?_
 exact ⟨nofun, rfl, rfl⟩
def k60 : IC := (.seq (.reg [jc 3 (.bool false)]) (.seq (.reg [ja 4 1 1, jl 5 1 4, jm 6 0, jn 7 (.call 57 [(.t 5), (.t 6)]), ju .neq 8 7 0, jm 3 8]) .ret))
theorem Hq : BV Tryz.prog Tryz.f60 = some ⟨9, k60, [(.tmp 3)]⟩ := by kernel_rfl
theorem VL (N : Nat) (a0 : List UInt8) (c0 : AY) (r : Bool) (h : OU N a0 c0 = some r) : Sat Tryz.prog 60 AC [.str a0, .ep [j6 c0.Kind, .str c0.Attr, .sl 1 (List.map PV.str c0.Values)]] (.bool r) AC := by
 refine EL mixed Tryz.func60 Hq (rs := [.bool r]) rfl rfl ?_
 refine AA (AB ?_)
 refine wq rfl ?_
 refine AA (AB ?_)
 refine AZ (p := .ep [.str c0.Attr, .sl 1 (List.map PV.str c0.Values)]) rfl rfl ?_
 iterate 2 refine wq rfl ?_
 obtain ⟨x7, hx7, h⟩ := AP h
 refine CW rfl (CX (S9 N _ _ _ hx7) rfl (.cons A9 (.cons A9 .nil)) rfl rfl rfl) ?_
 iterate 2 refine wq rfl ?_
 cases AO h
 refine BR ?_
 exact ⟨nofun, rfl, rfl⟩
def fI : IC := (.seq (.reg [jb .lss 9 8 7]) (.seq (.cond (.t 9) .skip (.exit 0)) (.seq (.block 1 (.seq (.reg [jm 10 8, jm 5 10]) (.seq (.reg [jm 11 1, jm 12 0, jm 13 5, jx 14 1 12 13, jl 15 1 14, jn 16 (.calv (.t 11) [(.t 15)])]) (.cond (.t 16) (.seq (.reg [jm 17 5, jm 4 17]) .ret) .skip)))) (.reg [ju .add 18 8 1, jm 8 18]))))
def Gu : IC := (.seq (.reg [jc 4 (j6 0)]) (.seq (.seq (.reg [jm 6 0, jL 7 6, jc 8 (j6 0)]) (.block 0 (.loop fI))) (.seq (.reg [jc 4 (j6 (-1))]) .ret)))
theorem rR : BV Tryz.prog Tryz.f80 = some ⟨19, Gu, [(.tmp 4)]⟩ := by kernel_rfl
theorem GL (N : Nat) (a0 : List (List UInt8)) (GN : AY) : ∀ (n : Nat) (x : Int) (y : Unit ⊕ Int), BL N a0 GN n x = some y → WX Tryz.prog (fun _ => false) (.loop fI) ((fun (x : Int) => ⟨AX [(0, .sl 1 (List.map PV.str a0)), (1, .clo 60 [.ep [j6 GN.Kind, .str GN.Attr, .sl 1 (List.map PV.str GN.Values)]]), (7, j6 (a0.length : Int)), (8, j6 x)], AX []⟩) x) ((Sum.elim (fun y e s => e = .exit 0 ∧ s = ⟨AX [], AX []⟩) (fun y e s => e = .ret ∧ s = ⟨AX [(4, j6 y)], AX []⟩) : (Unit ⊕ Int) → Xt → St → Prop) y) := by
 refine F5 _ _ (BL N a0 GN) (C8 N a0 GN) (fun _ => rfl) (fun _ _ => rfl) ?_
 rintro rec v8l6 y h
 refine AA (AB ?_)
 refine wq rfl ?_
 refine AA ?_
 refine EP h rfl (fun c1 h => ?_) (fun c1 h => ?_)
 refine BH (AA (CJ (AA (AB ?_))))
 iterate 2 refine wq rfl ?_
 refine AA (AB ?_)
 iterate 3 refine wq rfl ?_
 obtain ⟨MM, Q5, h⟩ := AP h
 refine AZ rfl (EU (cs := [.str MM]) Q5 rfl rfl rfl) ?_
 refine wq rfl ?_
 obtain ⟨UA, hx16, h⟩ := AP h
 refine CW rfl (VP (VL N _ _ _ hx16) rfl rfl rfl (.cons A9 (.cons A9 .nil)) rfl rfl rfl) ?_
 refine EP h rfl (fun c2 h => ?_) (fun c2 h => ?_)
 refine AA (AB ?_)
 iterate 2 refine wq rfl ?_
 obtain rfl := AO h
 exact EX (st1 := ⟨AX [(4, j6 v8l6)], AX []⟩) (cq rfl) ⟨rfl, rfl⟩
 refine BH (AB ?_)
 refine AZ (p := j6 (BX (v8l6 + (1 : Int)))) rfl rfl ?_
 refine wq rfl ?_
 exact ⟨(BX (v8l6 + (1 : Int))), (cq rfl), h⟩
 cases AO h
 exact D9 (st1 := ⟨AX [], AX []⟩) (cq rfl) ⟨rfl, rfl⟩
theorem GR (N : Nat) (a0 : List (List UInt8)) (GN : AY) (r : Int) (h : E5 N a0 GN = some r) : Sat Tryz.prog 80 AC [.sl 1 (List.map PV.str a0), .clo 60 [.ep [j6 GN.Kind, .str GN.Attr, .sl 1 (List.map PV.str GN.Values)]]] (j6 r) AC := by
 refine EL mixed Tryz.func80 rR (rs := [j6 r]) rfl rfl ?_
 refine AA (AB ?_)
 refine wq rfl ?_
 iterate 2 refine AA ?_
 refine AB ?_
 refine wq rfl ?_
 refine AZ rfl (CO rfl) ?_
 refine wq rfl ?_
 refine CJ ?_
 obtain ⟨y3, hy3, h⟩ := AP h
 refine PQ (GL N a0 GN N _ _ hy3) (cq rfl) ?_
 clear hy3
 rcases y3 with y3 | y3
 rintro e s ⟨rfl, rfl⟩
 refine AA (AB ?_)
 refine wq rfl ?_
 cases AO h
 refine BR ?_
 exact ⟨nofun, rfl, rfl⟩
 rintro e s ⟨rfl, rfl⟩
 obtain rfl := AO h
 exact ⟨nofun, rfl, rfl⟩
def Hr : IC := (.seq (.reg [jc 4 (.bool false)]) (.seq (.reg [jm 5 0, jm 6 1, jn 7 (.call 80 [(.t 5), (.t 6)]), ju .geq 8 7 0, jm 4 8]) .ret))
theorem rW : BV Tryz.prog Tryz.f59 = some ⟨9, Hr, [(.tmp 4)]⟩ := by kernel_rfl
theorem GD (N : Nat) (a0 : List (List UInt8)) (GN : AY) (r : Bool) (h : CB N a0 GN = some r) : Sat Tryz.prog 59 AC [.sl 1 (List.map PV.str a0), .clo 60 [.ep [j6 GN.Kind, .str GN.Attr, .sl 1 (List.map PV.str GN.Values)]]] (.bool r) AC := by
 refine EL mixed Tryz.func59 rW (rs := [.bool r]) rfl rfl ?_
 refine AA (AB ?_)
 refine wq rfl ?_
 refine AA (AB ?_)
 iterate 2 refine wq rfl ?_
 obtain ⟨x7, hx7, h⟩ := AP h
 refine CW rfl (CX (GR N _ _ _ hx7) rfl (.cons A9 (.cons A9 .nil)) rfl rfl rfl) ?_
 iterate 2 refine wq rfl ?_
 cases AO h
 refine BR ?_
 exact ⟨nofun, rfl, rfl⟩
def wH : IC := (.seq (.reg [jb .lss 12 11 10]) (.seq (.cond (.t 12) .skip (.exit 0)) (.seq (.block 1 (.seq (.reg [jx 13 3 9 11, jg 14 3 13, jn 6 (.box 44 (.c (.agg [(j6 0), (.str []), .nl]))), js 3 6 14]) (.seq (.reg [ja 16 1 6, jl 17 1 16, jn 18 (.call 58 [(.t 17)]), jm 15 18, je 19 0 15, je 20 1 15, jn 7 (.box 90 (.c (.agg [(.str []), (j6 0), (.bool false)]))), js 3 7 19, jm 8 20]) (.seq (.seq (.reg [jm 21 8, jn 22 (.un .not (.t 21)), jm 23 22, jf 23 24 (.fda 0 (.t 7)), jf 23 25 (.load 1 false (.t 24)), jf 23 26 (.fda 1 (.t 6)), jf 23 27 (.load 1 false (.t 26)), jf 23 28 (.bin .neq (.t 25) (.t 27)), jo 29 23 28, jm 30 29, jf 30 31 (.fda 1 (.t 6)), jf 30 32 (.load 1 false (.t 31)), jf 30 33 (.bin .eql (.t 32) (.c (.str [101, 110, 116, 114, 121, 105, 100]))), jo 34 30 33, jm 35 34, jf 35 36 (.fda 0 (.t 6)), jf 35 37 (.load 1 false (.t 36)), jf 35 38 (.bin .lss (.t 37) (ji 1)), jo 39 35 38, jm 40 39, jf 40 41 (.fda 0 (.t 6)), jf 40 42 (.load 1 false (.t 41)), jf 40 43 (.mov (.t 1)), jf 40 44 (.bin .gtr (.t 42) (.t 43)), jo 45 40 44, jm 46 45, jf 46 47 (.fda 2 (.t 6)), jf 46 48 (.load 1 false (.t 47)), jf 46 49 (.len false (.t 48)), jf 46 50 (.bin .gtr (.t 49) (ji 12)), jo 51 46 50, jm 52 51, jf 52 53 (.fda 0 (.t 6)), jf 52 54 (.load 1 false (.t 53)), jf 52 55 (.bin .eql (.t 54) (ji 1)), jf 52 56 (.mov (.t 55)), jt 56 57 (.fda 2 (.t 6)), jt 56 58 (.load 1 false (.t 57)), jt 56 59 (.len false (.t 58)), jt 56 60 (.bin .eql (.t 59) (ji 0)), jf 52 61 (.pick (.t 56) (.t 60) jA), jo 62 52 61]) (.cond (.t 62) (.seq (.reg [jc 4 (.bool false)]) .ret) .skip)) (.seq (.reg [ja 63 2 6, jl 64 1 63, jn 65 (.mkf 60 [(.t 6)]), jn 66 (.call 59 [(.t 64), (.t 65)])]) (.cond (.t 66) (.seq (.reg [jc 4 (.bool false)]) .ret) .skip)))))) (.reg [ju .add 67 11 1, jm 11 67]))))
def k29 : IC := (.seq (.reg [jc 4 (.bool false)]) (.seq (.seq (.reg [jm 9 0, jL 10 9, jc 11 (j6 0)]) (.block 0 (.loop wH))) (.seq (.reg [jm 68 0, jL 69 68, ju .leq 70 69 8, jm 4 70]) .ret)))
theorem Iy : BV Tryz.prog Tryz.f29 = some ⟨71, k29, [(.tmp 4)]⟩ := by kernel_rfl
theorem VW (N : Nat) (a0 : List AY) (a1 : Int) : ∀ (n : Nat) (x : Int) (y : Unit ⊕ Bool), G7 N a0 a1 n x = some y → WX Tryz.prog (fun _ => false) (.loop wH) ((fun (x : Int) => ⟨AX [(0, .sl 3 (List.map AL a0)), (1, j6 a1), (9, .sl 3 (List.map AL a0)), (10, j6 (a0.length : Int)), (11, j6 x)], AX []⟩) x) ((Sum.elim (fun y e s => e = .exit 0 ∧ s = ⟨AX [(0, .sl 3 (List.map AL a0))], AX []⟩) (fun y e s => e = .ret ∧ s = ⟨AX [(4, .bool y)], AX []⟩) : (Unit ⊕ Bool) → Xt → St → Prop) y) := by
 refine F5 _ _ (G7 N a0 a1) (JC N a0 a1) (fun _ => rfl) (fun _ _ => rfl) ?_
 rintro rec v11l6 y h
 refine AA (AB ?_)
 refine wq rfl ?_
 refine AA ?_
 refine EP h rfl (fun c1 h => ?_) (fun c1 h => ?_)
 refine BH (AA (CJ (AA (AB ?_))))
 obtain ⟨JP, YM, h⟩ := AP h
 refine AZ rfl (EU (cs := [j6 JP.Kind, .str JP.Attr, .sl 1 (List.map PV.str JP.Values)]) YM rfl rfl rfl) ?_
 refine AZ (p := AL JP) rfl rfl ?_
 refine CW rfl (F8 46406 rfl rfl rfl rfl rfl) ?_
 refine ED (e' := AL JP) rfl rfl rfl rfl rfl rfl rfl rfl nofun rfl ?_
 refine AA (AB ?_)
 iterate 2 refine wq rfl ?_
 obtain ⟨ZF, iU, h⟩ := AP h
 refine CW rfl (CX (U0 N _ _ iU) rfl (.cons A9 .nil) rfl rfl rfl) ?_
 iterate 3 refine wq rfl ?_
 refine CW rfl (F8 46407 rfl rfl rfl rfl rfl) ?_
 refine ED (e' := FB ZF.1) rfl rfl rfl rfl rfl rfl rfl rfl nofun rfl ?_
 refine wq rfl ?_
 refine AA ?_
 obtain ⟨g2, hg2, h⟩ := AP h
 refine GZ ⟨AX [(0, .sl 3 (List.map AL a0)), (1, j6 a1), (6, .ptr 46406 0 0), (9, .sl 3 (List.map AL a0)), (10, j6 (a0.length : Int)), (11, j6 v11l6), (62, .bool g2)], AX [(46406, ⟨3, false, [AL JP]⟩)]⟩ ?_ ?_
 have h := hg2
 refine AB ?_
 iterate 3 refine wq rfl ?_
 rcases CY h with ⟨c3, h⟩ | ⟨c3, h⟩
 iterate 5 refine D7 (gn rfl c3) ?_
 refine AZ rfl (BG c3 rfl rfl) ?_
 refine wq rfl ?_
 iterate 3 refine D7 rfl ?_
 iterate 2 refine wq rfl ?_
 iterate 3 refine D7 rfl ?_
 iterate 2 refine wq rfl ?_
 iterate 4 refine D7 rfl ?_
 iterate 2 refine wq rfl ?_
 iterate 4 refine D7 rfl ?_
 iterate 2 refine wq rfl ?_
 iterate 4 refine D7 rfl ?_
 iterate 4 refine D7 (gu rfl) ?_
 refine D7 rfl ?_
 refine wq rfl ?_
 obtain rfl := AO h
 exact cq rfl
 iterate 5 refine AZ (gy rfl c3) rfl ?_
 refine AZ rfl (BD c3 rfl rfl) ?_
 refine wq rfl ?_
 rcases CY h with ⟨c4, h⟩ | ⟨c4, h⟩
 iterate 3 refine D7 (gn rfl c4) ?_
 refine AZ rfl (BG c4 rfl rfl) ?_
 refine wq rfl ?_
 iterate 3 refine D7 rfl ?_
 iterate 2 refine wq rfl ?_
 iterate 4 refine D7 rfl ?_
 iterate 2 refine wq rfl ?_
 iterate 4 refine D7 rfl ?_
 iterate 2 refine wq rfl ?_
 iterate 4 refine D7 rfl ?_
 iterate 4 refine D7 (gu rfl) ?_
 refine D7 rfl ?_
 refine wq rfl ?_
 obtain rfl := AO h
 exact cq rfl
 iterate 3 refine AZ (gy rfl c4) rfl ?_
 refine AZ rfl (BD c4 rfl rfl) ?_
 refine wq rfl ?_
 rcases CY h with ⟨c5, h⟩ | ⟨c5, h⟩
 iterate 3 refine D7 (gn rfl c5) ?_
 refine AZ rfl (BG c5 rfl rfl) ?_
 refine wq rfl ?_
 iterate 4 refine D7 rfl ?_
 iterate 2 refine wq rfl ?_
 iterate 4 refine D7 rfl ?_
 iterate 2 refine wq rfl ?_
 iterate 4 refine D7 rfl ?_
 iterate 4 refine D7 (gu rfl) ?_
 refine D7 rfl ?_
 refine wq rfl ?_
 obtain rfl := AO h
 exact cq rfl
 iterate 3 refine AZ (gy rfl c5) rfl ?_
 refine AZ rfl (BD c5 rfl rfl) ?_
 refine wq rfl ?_
 rcases CY h with ⟨c6, h⟩ | ⟨c6, h⟩
 iterate 4 refine D7 (gn rfl c6) ?_
 refine AZ rfl (BG c6 rfl rfl) ?_
 refine wq rfl ?_
 iterate 4 refine D7 rfl ?_
 iterate 2 refine wq rfl ?_
 iterate 4 refine D7 rfl ?_
 iterate 4 refine D7 (gu rfl) ?_
 refine D7 rfl ?_
 refine wq rfl ?_
 obtain rfl := AO h
 exact cq rfl
 iterate 4 refine AZ (gy rfl c6) rfl ?_
 refine AZ rfl (BD c6 rfl rfl) ?_
 refine wq rfl ?_
 rcases CY h with ⟨c7, h⟩ | ⟨c7, h⟩
 iterate 4 refine D7 (gn rfl c7) ?_
 refine AZ rfl (BG c7 rfl rfl) ?_
 refine wq rfl ?_
 iterate 4 refine D7 rfl ?_
 iterate 4 refine D7 (gu rfl) ?_
 refine D7 rfl ?_
 refine wq rfl ?_
 obtain rfl := AO h
 exact cq rfl
 iterate 2 refine AZ (gy rfl c7) rfl ?_
 refine AZ (gy rfl c7) (CO rfl) ?_
 refine AZ (gy rfl c7) rfl ?_
 refine AZ rfl (BD c7 rfl rfl) ?_
 refine wq rfl ?_
 rcases CY h with ⟨c8, h⟩ | ⟨c8, h⟩
 iterate 4 refine D7 (gn rfl c8) ?_
 iterate 4 refine D7 (gu rfl) ?_
 refine D7 (gn rfl c8) ?_
 refine AZ rfl (BG c8 rfl rfl) ?_
 obtain rfl := AO h
 exact cq rfl
 iterate 4 refine AZ (gy rfl c8) rfl ?_
 rcases CY h with ⟨c9, h⟩ | ⟨c9, h⟩
 iterate 2 refine AZ (gy rfl c9) rfl ?_
 refine AZ (gy rfl c9) (CO rfl) ?_
 refine AZ (gy rfl c9) rfl ?_
 refine AZ (gy rfl c8) (BG c9 rfl rfl) ?_
 refine AZ rfl (BD c8 rfl rfl) ?_
 cases AO h
 exact cq rfl
 iterate 4 refine D7 (gn rfl c9) ?_
 refine AZ (gy rfl c8) (BD c9 rfl rfl) ?_
 refine AZ rfl (BD c8 rfl rfl) ?_
 obtain rfl := AO h
 exact cq rfl
 clear hg2
 refine EP h rfl (fun c10 h => ?_) (fun c10 h => ?_)
 refine AA (AB ?_)
 refine wq rfl ?_
 obtain rfl := AO h
 exact EX (st1 := ⟨AX [(4, .bool false)], AX []⟩) (cq rfl) ⟨rfl, rfl⟩
 refine BH (AA (AB ?_))
 iterate 3 refine wq rfl ?_
 refine wn (R5 46406 rfl rfl rfl) ?_
 obtain ⟨x66, hx66, h⟩ := AP h
 refine CW rfl (CX (GD N _ _ _ hx66) rfl (.cons A9 (.cons A9 .nil)) rfl rfl rfl) ?_
 refine EP h rfl (fun c11 h => ?_) (fun c11 h => ?_)
 refine AA (AB ?_)
 refine wq rfl ?_
 obtain rfl := AO h
 exact EX (st1 := ⟨AX [(4, .bool false)], AX []⟩) (cq rfl) ⟨rfl, rfl⟩
 refine BH (AB ?_)
 refine AZ (p := j6 (BX (v11l6 + (1 : Int)))) rfl rfl ?_
 refine wq rfl ?_
 exact ⟨(BX (v11l6 + (1 : Int))), (cq rfl), h⟩
 cases AO h
 exact D9 (st1 := ⟨AX [(0, .sl 3 (List.map AL a0))], AX []⟩) (cq rfl) ⟨rfl, rfl⟩
theorem QU (N : Nat) (a0 : List AY) (a1 : Int) (r : Bool) (h : LD N a0 a1 = some r) : Sat Tryz.prog 29 AC [.sl 3 (List.map AL a0), j6 a1] (.bool r) AC := by
 refine EL mixed Tryz.func29 Iy (rs := [.bool r]) rfl rfl ?_
 refine AA (AB ?_)
 refine wq rfl ?_
 iterate 2 refine AA ?_
 refine AB ?_
 refine wq rfl ?_
 refine AZ rfl (CO rfl) ?_
 refine wq rfl ?_
 refine CJ ?_
 obtain ⟨Dp, hy12, h⟩ := AP h
 refine PQ (VW N a0 a1 N _ _ hy12) (cq rfl) ?_
 clear hy12
 rcases Dp with Dp | Dp
 rintro e s ⟨rfl, rfl⟩
 refine AA (AB ?_)
 refine wq rfl ?_
 refine AZ rfl (CO rfl) ?_
 iterate 2 refine wq rfl ?_
 cases AO h
 refine BR ?_
 exact ⟨nofun, rfl, rfl⟩
 rintro e s ⟨rfl, rfl⟩
 obtain rfl := AO h
 exact ⟨nofun, rfl, rfl⟩
def k10 : IC := (.seq (.reg [jn 1 (.box 28 (.t 0)), jc 2 (.bool false)]) (.seq (.seq (.reg [ja 5 0 1, jg 6 3 5, jn 7 (.call 24 [(.t 6)]), jn 8 (.un .not (.t 7)), jm 9 8, jf 9 10 (.fda 0 (.t 1)), jf 9 11 (.load 3 true (.t 10)), jf 9 12 (.call 25 [(.t 11)]), jo 13 9 12, jm 14 13, jf 14 15 (.fda 4 (.t 1)), jf 14 16 (.load 3 true (.t 15)), jf 14 17 (.call 24 [(.t 16)]), jf 14 18 (.un .not (.t 17)), jo 19 14 18, jm 20 19, jf 20 21 (.fda 7 (.t 1)), jf 20 22 (.load 3 true (.t 21)), jf 20 23 (.call 24 [(.t 22)]), jf 20 24 (.un .not (.t 23)), jo 25 20 24]) (.cond (.t 25) (.seq (.reg [jc 2 (.bool false)]) .ret) .skip)) (.seq (.reg [jn 26 (.mkf 26 [(.t 1)]), jm 3 26]) (.seq (.reg [ja 27 7 1, jg 28 3 27, jn 29 (.call 25 [(.t 28)]), jm 30 29, jt 30 31 (.fda 10 (.t 1)), jt 30 32 (.load 1 false (.t 31)), jt 30 33 (.len false (.t 32)), jt 30 34 (.bin .eql (.t 33) (ji 0)), jp 35 30 34, jm 36 35, jt 36 37 (.fda 11 (.t 1)), jt 36 38 (.load 1 false (.t 37)), jt 36 39 (.un .not (.t 38)), jp 40 36 39, jm 4 40]) (.seq (.seq (.reg [ja 41 3 1, jl 42 1 41]) (.block 0 (.seq (.reg [ju .eql 44 42 1, jm 43 44]) (.cond (.t 43) (.seq (.reg [ja 45 4 1, jg 46 3 45, ja 47 0 1, jg 48 3 47, jn 49 (.eqs false [(.i .i64), (.i .i64), (.i .i64)] (.t 46) (.t 48)), jm 50 49, jt 50 51 (.mov (.t 3)), jt 50 52 (.fda 7 (.t 1)), jt 50 53 (.load 3 true (.t 52)), jt 50 54 (.calv (.t 51) [(.t 53)]), jp 55 50 54, jm 56 55, jt 56 57 (.fda 10 (.t 1)), jt 56 58 (.load 1 false (.t 57)), jt 56 59 (.call 28 [(.t 58)]), jp 60 56 59, jm 61 60, jt 61 62 (.fda 12 (.t 1)), jt 61 63 (.load 1 false (.t 62)), jt 61 64 (.call 29 [(.t 63), (ji 1)]), jp 65 61 64, jm 66 65, jt 66 67 (.fda 11 (.t 1)), jt 66 68 (.load 1 false (.t 67)), jt 66 69 (.un .not (.t 68)), jp 70 66 69, jm 2 70]) .ret) (.seq (.reg [ju .eql 72 42 2, jm 71 72]) (.cond (.t 71) (.seq (.reg [ja 73 4 1, jg 74 3 73, jn 75 (.call 25 [(.t 74)]), jn 76 (.un .not (.t 75)), jm 77 76, jt 77 78 (.mov (.t 3)), jt 77 79 (.fda 4 (.t 1)), jt 77 80 (.load 3 true (.t 79)), jt 77 81 (.calv (.t 78) [(.t 80)]), jp 82 77 81, jm 83 82, jt 83 84 (.mov (.t 4)), jp 85 83 84, jm 86 85, jt 86 87 (.fda 12 (.t 1)), jt 86 88 (.load 1 false (.t 87)), jt 86 89 (.len false (.t 88)), jt 86 90 (.bin .eql (.t 89) (ji 0)), jp 91 86 90, jm 2 91]) .ret) (.seq (.reg [ju .eql 93 42 3, jm 92 93]) (.cond (.t 92) (.seq (.reg [jm 94 3, ja 95 4 1, jg 96 3 95, jn 97 (.calv (.t 94) [(.t 96)]), jm 98 97, jt 98 99 (.mov (.t 4)), jp 100 98 99, jm 101 100, jt 101 102 (.fda 12 (.t 1)), jt 101 103 (.load 1 false (.t 102)), jt 101 104 (.len false (.t 103)), jt 101 105 (.bin .gtr (.t 104) (ji 0)), jp 106 101 105, jm 107 106, jt 107 108 (.fda 12 (.t 1)), jt 107 109 (.load 1 false (.t 108)), jt 107 110 (.call 29 [(.t 109), (ji 3)]), jp 111 107 110, jm 2 111]) .ret) (.seq (.reg [ju .eql 113 42 4, jm 112 113]) (.cond (.t 112) (.seq (.reg [ja 114 4 1, jg 115 3 114, jn 116 (.call 25 [(.t 115)]), jn 117 (.un .not (.t 116)), jm 118 117, jt 118 119 (.mov (.t 3)), jt 118 120 (.fda 4 (.t 1)), jt 118 121 (.load 3 true (.t 120)), jt 118 122 (.calv (.t 119) [(.t 121)]), jp 123 118 122, jm 124 123, jt 124 125 (.mov (.t 3)), jt 124 126 (.fda 7 (.t 1)), jt 124 127 (.load 3 true (.t 126)), jt 124 128 (.calv (.t 125) [(.t 127)]), jp 129 124 128, jm 130 129, jt 130 131 (.fda 10 (.t 1)), jt 130 132 (.load 1 false (.t 131)), jt 130 133 (.call 28 [(.t 132)]), jp 134 130 133, jm 135 134, jt 135 136 (.fda 12 (.t 1)), jt 135 137 (.load 1 false (.t 136)), jt 135 138 (.len false (.t 137)), jt 135 139 (.bin .eql (.t 138) (ji 0)), jp 140 135 139, jm 2 140]) .ret) .skip)))))))))) (.seq (.reg [jc 2 (.bool false)]) .ret))))))
theorem Jo : BV Tryz.prog Tryz.f10 = some ⟨141, k10, [(.tmp 2)]⟩ := by kernel_rfl
theorem LA (N : Nat) (a0 : AR) (r : Bool) (h : ML N a0 = some r) : Sat Tryz.prog 10 AC [AJ a0] (.bool r) AC := by
 refine EL mixed Tryz.func10 Jo (rs := [.bool r]) rfl rfl ?_
 refine AA (AB ?_)
 refine CW rfl (F8 16001 rfl rfl rfl rfl rfl) ?_
 refine wq rfl ?_
 refine AA ?_
 obtain ⟨g1, hg1, h⟩ := AP h
 refine GZ ⟨AX [(1, .ptr 16001 0 0), (25, .bool g1)], AX [(16001, ⟨13, false, [AJ a0]⟩)]⟩ ?_ ?_
 have h := hg1
 refine AB ?_
 refine wq rfl ?_
 refine AZ (p := .agg [j6 a0.CSN.Time, j6 a0.CSN.Seq, j6 a0.CSN.Rep]) rfl rfl ?_
 obtain ⟨x7, hx7, h⟩ := AP h
 refine CW rfl (CX (TK N _ _ hx7) rfl (.cons A9 .nil) rfl rfl rfl) ?_
 iterate 2 refine wq rfl ?_
 rcases CY h with ⟨c2, h⟩ | ⟨c2, h⟩
 iterate 3 refine D7 (gn rfl c2) ?_
 refine AZ rfl (BG c2 rfl rfl) ?_
 refine wq rfl ?_
 iterate 4 refine D7 rfl ?_
 iterate 2 refine wq rfl ?_
 iterate 4 refine D7 rfl ?_
 refine wq rfl ?_
 obtain rfl := AO h
 exact cq rfl
 refine AZ (gy rfl c2) rfl ?_
 refine AZ (p := .agg [j6 a0.CSN.Time, j6 a0.CSN.Seq, j6 a0.CSN.Rep]) (gy rfl c2) rfl ?_
 obtain ⟨KW, YN, h⟩ := AP h
 refine CW (gy rfl c2) (CX (PE N _ _ YN) rfl (.cons A9 .nil) rfl rfl rfl) ?_
 refine AZ rfl (BD c2 rfl rfl) ?_
 refine wq rfl ?_
 rcases CY h with ⟨c3, h⟩ | ⟨c3, h⟩
 iterate 4 refine D7 (gn rfl c3) ?_
 refine AZ rfl (BG c3 rfl rfl) ?_
 refine wq rfl ?_
 iterate 4 refine D7 rfl ?_
 refine wq rfl ?_
 obtain rfl := AO h
 exact cq rfl
 refine AZ (gy rfl c3) rfl ?_
 refine AZ (p := .agg [j6 a0.ID.Time, j6 a0.ID.Seq, j6 a0.ID.Rep]) (gy rfl c3) rfl ?_
 obtain ⟨DY, TQ, h⟩ := AP h
 refine CW (gy rfl c3) (CX (TK N _ _ TQ) rfl (.cons A9 .nil) rfl rfl rfl) ?_
 refine AZ (gy rfl c3) rfl ?_
 refine AZ rfl (BD c3 rfl rfl) ?_
 refine wq rfl ?_
 rcases CY h with ⟨c4, h⟩ | ⟨c4, h⟩
 iterate 4 refine D7 (gn rfl c4) ?_
 refine AZ rfl (BG c4 rfl rfl) ?_
 obtain rfl := AO h
 exact cq rfl
 refine AZ (gy rfl c4) rfl ?_
 refine AZ (p := .agg [j6 a0.Parent.Time, j6 a0.Parent.Seq, j6 a0.Parent.Rep]) (gy rfl c4) rfl ?_
 obtain ⟨gQ, nM, h⟩ := AP h
 refine CW (gy rfl c4) (CX (TK N _ _ nM) rfl (.cons A9 .nil) rfl rfl rfl) ?_
 refine AZ (gy rfl c4) rfl ?_
 refine AZ rfl (BD c4 rfl rfl) ?_
 cases AO h
 exact cq rfl
 clear hg1
 refine EP h rfl (fun c5 h => ?_) (fun c5 h => ?_)
 refine AA (AB ?_)
 refine wq rfl ?_
 obtain rfl := AO h
 refine BR ?_
 exact ⟨nofun, rfl, rfl⟩
 refine BH (AA (AB ?_))
 iterate 2 refine wq rfl ?_
 obtain ⟨g6, hg6, h⟩ := AP h
 refine GZ ⟨AX [(1, .ptr 16001 0 0), (3, .clo 26 [.ptr 16001 0 0]), (4, .bool g6)], AX [(16001, ⟨13, false, [AJ a0]⟩)]⟩ ?_ ?_
 have h := hg6
 refine AB ?_
 refine wq rfl ?_
 refine AZ (p := .agg [j6 a0.Parent.Time, j6 a0.Parent.Seq, j6 a0.Parent.Rep]) rfl rfl ?_
 obtain ⟨x29, hx29, h⟩ := AP h
 refine CW rfl (CX (PE N _ _ hx29) rfl (.cons A9 .nil) rfl rfl rfl) ?_
 refine wq rfl ?_
 rcases CY h with ⟨c7, h⟩ | ⟨c7, h⟩
 iterate 2 refine AZ (gy rfl c7) rfl ?_
 refine AZ (gy rfl c7) (CO rfl) ?_
 refine AZ (gy rfl c7) rfl ?_
 refine AZ rfl (BG c7 rfl rfl) ?_
 refine wq rfl ?_
 rcases CY h with ⟨c8, h⟩ | ⟨c8, h⟩
 iterate 3 refine AZ (gy rfl c8) rfl ?_
 refine AZ rfl (BG c8 rfl rfl) ?_
 refine wq rfl ?_
 cases AO h
 exact cq rfl
 iterate 3 refine D7 (gn rfl c8) ?_
 refine AZ rfl (BD c8 rfl rfl) ?_
 refine wq rfl ?_
 obtain rfl := AO h
 exact cq rfl
 iterate 4 refine D7 (gn rfl c7) ?_
 refine AZ rfl (BD c7 rfl rfl) ?_
 refine wq rfl ?_
 iterate 3 refine D7 rfl ?_
 iterate 2 refine wq rfl ?_
 obtain rfl := AO h
 exact cq rfl
 clear hg6
 iterate 2 refine AA ?_
 refine AB ?_
 iterate 2 refine wq rfl ?_
 refine CJ (AA (AB ?_))
 iterate 2 refine wq rfl ?_
 refine EP h rfl (fun c9 h => ?_) (fun c9 h => ?_)
 obtain ⟨g10, kW, h⟩ := AP h
 refine GZ ⟨AX [(2, .bool g10)], AX []⟩ ?_ ?_
 have h := kW
 refine AB ?_
 refine wq rfl ?_
 refine AZ (p := .agg [j6 a0.ID.Time, j6 a0.ID.Seq, j6 a0.ID.Rep]) rfl rfl ?_
 refine wq rfl ?_
 refine AZ (p := .agg [j6 a0.CSN.Time, j6 a0.CSN.Seq, j6 a0.CSN.Rep]) rfl rfl ?_
 refine AZ (p := .bool (a0.ID.Time == a0.CSN.Time && (a0.ID.Seq == a0.CSN.Seq && (a0.ID.Rep == a0.CSN.Rep && true)))) rfl rfl ?_
 refine wq rfl ?_
 rcases CY h with ⟨c11, h⟩ | ⟨c11, h⟩
 iterate 2 refine AZ (gy rfl c11) rfl ?_
 refine AZ (p := .agg [j6 a0.Parent.Time, j6 a0.Parent.Seq, j6 a0.Parent.Rep]) (gy rfl c11) rfl ?_
 refine wn (R5 16001 rfl rfl rfl) ?_
 obtain ⟨x54, Kb, h⟩ := AP h
 refine CW (gy rfl c11) (VP (JH N _ _ _ Kb) rfl rfl rfl (.cons A9 (.cons A9 .nil)) rfl rfl rfl) ?_
 refine AZ rfl (BG c11 rfl rfl) ?_
 refine wq rfl ?_
 rcases CY h with ⟨c12, h⟩ | ⟨c12, h⟩
 refine AZ (p := .ep [.sl 2 (List.map AV a0.RDN), .bool a0.DelOld, .sl 3 (List.map AL a0.Mods)]) (gy rfl c12) rfl ?_
 refine AZ (gy rfl c12) rfl ?_
 obtain ⟨x59, Jz, h⟩ := AP h
 refine CW (gy rfl c12) (CX (SE N _ _ Jz) rfl (.cons A9 .nil) rfl rfl rfl) ?_
 refine AZ rfl (BG c12 rfl rfl) ?_
 refine wq rfl ?_
 rcases CY h with ⟨c13, h⟩ | ⟨c13, h⟩
 refine AZ (p := .ep [.sl 3 (List.map AL a0.Mods)]) (gy rfl c13) rfl ?_
 refine AZ (gy rfl c13) rfl ?_
 obtain ⟨x64, Jw, h⟩ := AP h
 refine CW (gy rfl c13) (CX (QU N _ _ _ Jw) rfl (.cons A9 (.cons A9 .nil)) rfl rfl rfl) ?_
 refine AZ rfl (BG c13 rfl rfl) ?_
 refine wq rfl ?_
 rcases CY h with ⟨c14, h⟩ | ⟨c14, h⟩
 refine AZ (p := .ep [.bool a0.DelOld, .sl 3 (List.map AL a0.Mods)]) (gy rfl c14) rfl ?_
 iterate 2 refine AZ (gy rfl c14) rfl ?_
 refine AZ rfl (BG c14 rfl rfl) ?_
 refine wq rfl ?_
 cases AO h
 exact cq rfl
 iterate 3 refine D7 (gn rfl c14) ?_
 refine AZ rfl (BD c14 rfl rfl) ?_
 refine wq rfl ?_
 obtain rfl := AO h
 exact cq rfl
 iterate 3 refine D7 (gn rfl c13) ?_
 refine AZ rfl (BD c13 rfl rfl) ?_
 refine wq rfl ?_
 iterate 3 refine D7 rfl ?_
 iterate 2 refine wq rfl ?_
 obtain rfl := AO h
 exact cq rfl
 iterate 3 refine D7 (gn rfl c12) ?_
 refine AZ rfl (BD c12 rfl rfl) ?_
 refine wq rfl ?_
 iterate 3 refine D7 rfl ?_
 iterate 2 refine wq rfl ?_
 iterate 3 refine D7 rfl ?_
 iterate 2 refine wq rfl ?_
 obtain rfl := AO h
 exact cq rfl
 iterate 4 refine D7 (gn rfl c11) ?_
 refine AZ rfl (BD c11 rfl rfl) ?_
 refine wq rfl ?_
 iterate 3 refine D7 rfl ?_
 iterate 2 refine wq rfl ?_
 iterate 3 refine D7 rfl ?_
 iterate 2 refine wq rfl ?_
 iterate 3 refine D7 rfl ?_
 iterate 2 refine wq rfl ?_
 obtain rfl := AO h
 exact cq rfl
 clear kW
 obtain rfl := AO h
 refine BR ?_
 exact ⟨nofun, rfl, rfl⟩
 refine AA (AB ?_)
 iterate 2 refine wq rfl ?_
 refine EP h rfl (fun c15 h => ?_) (fun c15 h => ?_)
 obtain ⟨g16, xK, h⟩ := AP h
 refine GZ ⟨AX [(2, .bool g16)], AX []⟩ ?_ ?_
 have h := xK
 refine AB ?_
 refine wq rfl ?_
 refine AZ (p := .agg [j6 a0.ID.Time, j6 a0.ID.Seq, j6 a0.ID.Rep]) rfl rfl ?_
 obtain ⟨x75, Jt, h⟩ := AP h
 refine CW rfl (CX (PE N _ _ Jt) rfl (.cons A9 .nil) rfl rfl rfl) ?_
 iterate 2 refine wq rfl ?_
 rcases CY h with ⟨c17, h⟩ | ⟨c17, h⟩
 iterate 2 refine AZ (gy rfl c17) rfl ?_
 refine AZ (p := .agg [j6 a0.ID.Time, j6 a0.ID.Seq, j6 a0.ID.Rep]) (gy rfl c17) rfl ?_
 refine wn (R5 16001 rfl rfl rfl) ?_
 obtain ⟨x81, Jr, h⟩ := AP h
 refine CW (gy rfl c17) (VP (JH N _ _ _ Jr) rfl rfl rfl (.cons A9 (.cons A9 .nil)) rfl rfl rfl) ?_
 refine AZ rfl (BG c17 rfl rfl) ?_
 refine wq rfl ?_
 rcases CY h with ⟨c18, h⟩ | ⟨c18, h⟩
 refine AZ (gy rfl c18) rfl ?_
 refine AZ rfl (BG c18 rfl rfl) ?_
 refine wq rfl ?_
 rcases CY h with ⟨c19, h⟩ | ⟨c19, h⟩
 refine AZ (p := .ep [.sl 3 (List.map AL a0.Mods)]) (gy rfl c19) rfl ?_
 refine AZ (gy rfl c19) rfl ?_
 refine AZ (gy rfl c19) (CO rfl) ?_
 refine AZ (gy rfl c19) rfl ?_
 refine AZ rfl (BG c19 rfl rfl) ?_
 refine wq rfl ?_
 cases AO h
 exact cq rfl
 iterate 4 refine D7 (gn rfl c19) ?_
 refine AZ rfl (BD c19 rfl rfl) ?_
 refine wq rfl ?_
 obtain rfl := AO h
 exact cq rfl
 refine D7 (gn rfl c18) ?_
 refine AZ rfl (BD c18 rfl rfl) ?_
 refine wq rfl ?_
 iterate 4 refine D7 rfl ?_
 iterate 2 refine wq rfl ?_
 obtain rfl := AO h
 exact cq rfl
 iterate 4 refine D7 (gn rfl c17) ?_
 refine AZ rfl (BD c17 rfl rfl) ?_
 refine wq rfl ?_
 refine D7 rfl ?_
 iterate 2 refine wq rfl ?_
 iterate 4 refine D7 rfl ?_
 iterate 2 refine wq rfl ?_
 obtain rfl := AO h
 exact cq rfl
 clear xK
 obtain rfl := AO h
 refine BR ?_
 exact ⟨nofun, rfl, rfl⟩
 refine AA (AB ?_)
 iterate 2 refine wq rfl ?_
 refine EP h rfl (fun c20 h => ?_) (fun c20 h => ?_)
 obtain ⟨g21, hg21, h⟩ := AP h
 refine GZ ⟨AX [(2, .bool g21)], AX []⟩ ?_ ?_
 have h := hg21
 refine AB ?_
 iterate 2 refine wq rfl ?_
 refine AZ (p := .agg [j6 a0.ID.Time, j6 a0.ID.Seq, j6 a0.ID.Rep]) rfl rfl ?_
 refine wn (R5 16001 rfl rfl rfl) ?_
 obtain ⟨x97, hx97, h⟩ := AP h
 refine CW rfl (VP (JH N _ _ _ hx97) rfl rfl rfl (.cons A9 (.cons A9 .nil)) rfl rfl rfl) ?_
 refine wq rfl ?_
 rcases CY h with ⟨c22, h⟩ | ⟨c22, h⟩
 refine AZ (gy rfl c22) rfl ?_
 refine AZ rfl (BG c22 rfl rfl) ?_
 refine wq rfl ?_
 rcases CY h with ⟨c23, h⟩ | ⟨c23, h⟩
 refine AZ (p := .ep [.sl 3 (List.map AL a0.Mods)]) (gy rfl c23) rfl ?_
 refine AZ (gy rfl c23) rfl ?_
 refine AZ (gy rfl c23) (CO rfl) ?_
 refine AZ (gy rfl c23) rfl ?_
 refine AZ rfl (BG c23 rfl rfl) ?_
 refine wq rfl ?_
 rcases CY h with ⟨c24, h⟩ | ⟨c24, h⟩
 refine AZ (p := .ep [.sl 3 (List.map AL a0.Mods)]) (gy rfl c24) rfl ?_
 refine AZ (gy rfl c24) rfl ?_
 obtain ⟨x110, hx110, h⟩ := AP h
 refine CW (gy rfl c24) (CX (QU N _ _ _ hx110) rfl (.cons A9 (.cons A9 .nil)) rfl rfl rfl) ?_
 refine AZ rfl (BG c24 rfl rfl) ?_
 refine wq rfl ?_
 obtain rfl := AO h
 exact cq rfl
 iterate 3 refine D7 (gn rfl c24) ?_
 refine AZ rfl (BD c24 rfl rfl) ?_
 refine wq rfl ?_
 obtain rfl := AO h
 exact cq rfl
 iterate 4 refine D7 (gn rfl c23) ?_
 refine AZ rfl (BD c23 rfl rfl) ?_
 refine wq rfl ?_
 iterate 3 refine D7 rfl ?_
 iterate 2 refine wq rfl ?_
 obtain rfl := AO h
 exact cq rfl
 refine D7 (gn rfl c22) ?_
 refine AZ rfl (BD c22 rfl rfl) ?_
 refine wq rfl ?_
 iterate 4 refine D7 rfl ?_
 iterate 2 refine wq rfl ?_
 iterate 3 refine D7 rfl ?_
 iterate 2 refine wq rfl ?_
 obtain rfl := AO h
 exact cq rfl
 clear hg21
 obtain rfl := AO h
 refine BR ?_
 exact ⟨nofun, rfl, rfl⟩
 refine AA (AB ?_)
 iterate 2 refine wq rfl ?_
 refine EP h rfl (fun c25 h => ?_) (fun c25 h => ?_)
 obtain ⟨g26, hg26, h⟩ := AP h
 refine GZ ⟨AX [(2, .bool g26)], AX []⟩ ?_ ?_
 have h := hg26
 refine AB ?_
 refine wq rfl ?_
 refine AZ (p := .agg [j6 a0.ID.Time, j6 a0.ID.Seq, j6 a0.ID.Rep]) rfl rfl ?_
 obtain ⟨lZ, xG, h⟩ := AP h
 refine CW rfl (CX (PE N _ _ xG) rfl (.cons A9 .nil) rfl rfl rfl) ?_
 iterate 2 refine wq rfl ?_
 rcases CY h with ⟨Ld, h⟩ | ⟨Ld, h⟩
 iterate 2 refine AZ (gy rfl Ld) rfl ?_
 refine AZ (p := .agg [j6 a0.ID.Time, j6 a0.ID.Seq, j6 a0.ID.Rep]) (gy rfl Ld) rfl ?_
 refine wn (R5 16001 rfl rfl rfl) ?_
 obtain ⟨JL, xE, h⟩ := AP h
 refine CW (gy rfl Ld) (VP (JH N _ _ _ xE) rfl rfl rfl (.cons A9 (.cons A9 .nil)) rfl rfl rfl) ?_
 refine AZ rfl (BG Ld rfl rfl) ?_
 refine wq rfl ?_
 rcases CY h with ⟨c28, h⟩ | ⟨c28, h⟩
 refine AZ (gy rfl c28) rfl ?_
 refine AZ (p := .ep [j6 a0.Parent.Time, j6 a0.Parent.Seq, j6 a0.Parent.Rep, .sl 2 (List.map AV a0.RDN), .bool a0.DelOld, .sl 3 (List.map AL a0.Mods)]) (gy rfl c28) rfl ?_
 refine AZ (p := .agg [j6 a0.Parent.Time, j6 a0.Parent.Seq, j6 a0.Parent.Rep]) (gy rfl c28) rfl ?_
 obtain ⟨x128, hx128, h⟩ := AP h
 refine CW (gy rfl c28) (VP (JH N _ _ _ hx128) rfl rfl rfl (.cons A9 (.cons A9 .nil)) rfl rfl rfl) ?_
 refine AZ rfl (BG c28 rfl rfl) ?_
 refine wq rfl ?_
 rcases CY h with ⟨Lc, h⟩ | ⟨Lc, h⟩
 refine AZ (p := .ep [.sl 2 (List.map AV a0.RDN), .bool a0.DelOld, .sl 3 (List.map AL a0.Mods)]) (gy rfl Lc) rfl ?_
 refine AZ (gy rfl Lc) rfl ?_
 obtain ⟨x133, hx133, h⟩ := AP h
 refine CW (gy rfl Lc) (CX (SE N _ _ hx133) rfl (.cons A9 .nil) rfl rfl rfl) ?_
 refine AZ rfl (BG Lc rfl rfl) ?_
 refine wq rfl ?_
 rcases CY h with ⟨Ej, h⟩ | ⟨Ej, h⟩
 refine AZ (p := .ep [.sl 3 (List.map AL a0.Mods)]) (gy rfl Ej) rfl ?_
 refine AZ (gy rfl Ej) rfl ?_
 refine AZ (gy rfl Ej) (CO rfl) ?_
 refine AZ (gy rfl Ej) rfl ?_
 refine AZ rfl (BG Ej rfl rfl) ?_
 refine wq rfl ?_
 cases AO h
 exact cq rfl
 iterate 4 refine D7 (gn rfl Ej) ?_
 refine AZ rfl (BD Ej rfl rfl) ?_
 refine wq rfl ?_
 obtain rfl := AO h
 exact cq rfl
 iterate 3 refine D7 (gn rfl Lc) ?_
 refine AZ rfl (BD Lc rfl rfl) ?_
 refine wq rfl ?_
 iterate 4 refine D7 rfl ?_
 iterate 2 refine wq rfl ?_
 obtain rfl := AO h
 exact cq rfl
 iterate 4 refine D7 (gn rfl c28) ?_
 refine AZ rfl (BD c28 rfl rfl) ?_
 refine wq rfl ?_
 iterate 3 refine D7 rfl ?_
 iterate 2 refine wq rfl ?_
 iterate 4 refine D7 rfl ?_
 iterate 2 refine wq rfl ?_
 obtain rfl := AO h
 exact cq rfl
 iterate 4 refine D7 (gn rfl Ld) ?_
 refine AZ rfl (BD Ld rfl rfl) ?_
 refine wq rfl ?_
 iterate 4 refine D7 rfl ?_
 iterate 2 refine wq rfl ?_
 iterate 3 refine D7 rfl ?_
 iterate 2 refine wq rfl ?_
 iterate 4 refine D7 rfl ?_
 iterate 2 refine wq rfl ?_
 obtain rfl := AO h
 exact cq rfl
 clear hg26
 obtain rfl := AO h
 refine BR ?_
 exact ⟨nofun, rfl, rfl⟩
 refine BH (AA (AB ?_))
 refine wq rfl ?_
 obtain rfl := AO h
 refine BR ?_
 exact ⟨nofun, rfl, rfl⟩
def k19 : IC := (.seq (.reg [jn 4 (.box 52 (.c (.agg [(.int .u8 0), (.str []), .nl])))]) (.seq (.reg [jm 5 0, jm 6 1, jn 7 (.build [(.int .u8 0), (.str []), .nl] [(0, (1, (.t 5))), (1, (1, (.t 6)))]), js 3 4 7]) .ret))
theorem Ji : BV Tryz.prog Tryz.f19 = some ⟨8, k19, [(.cell 3 true 4)]⟩ := by kernel_rfl
theorem IU (N : Nat) (a0 : UInt8) (a1 : List UInt8) (r : A7) (h : LV N a0 a1 = some r) : Sat Tryz.prog 19 AC [eb a0, .str a1] (A8 r) AC := by
 refine EL mixed Tryz.func19 Ji (rs := [A8 r]) rfl rfl ?_
 refine AA (AB ?_)
 refine CW rfl (F8 30404 rfl rfl rfl rfl rfl) ?_
 refine AA (AB ?_)
 iterate 2 refine wq rfl ?_
 refine AZ (p := .agg [eb a0, .str a1, .nl]) rfl rfl ?_
 refine tH (L6 7 (J4 (.cons A9 (.cons A9 (.cons (FH 3) .nil))) rfl) rfl) ?_
 refine ED (e' := .agg [eb a0, .str a1, .sl 3 (List.map A8 [])]) rfl rfl rfl rfl rfl rfl rfl rfl nofun rfl ?_
 cases AO h
 refine BR ?_
 exact ⟨nofun, rfl, rfl⟩
def wG : IC := (.seq (.block 1 (.seq (.reg [jc 5 (j6 0)]) (.seq (.seq (.reg [jm 13 3, jn 14 (.ixp 1 (.t 13) (ji 0)), jl 15 1 14, jn 16 (.bin .and (.t 15) (.c (.int .u8 128))), jn 17 (.bin .neq (.t 16) (.c (.int .u8 0)))]) (.cond (.t 17) (.reg [jc 5 (j6 (-1))]) .skip)) (.seq (.seq (.reg [jm 18 4, jm 19 5, jb .eql 20 18 19]) (.cond (.t 20) (.seq (.reg [jm 21 3, jn 22 (.cvb (.t 21)), jm 2 22]) .ret) .skip)) (.reg [jm 23 4, jn 24 (.cvi .u8 (.t 23)), jn 25 (.bsl 1 [(.t 24)]), jm 26 3, jn 27 (.app 5 1 1 (.t 25) (.t 26)), jm 3 27]))))) (.reg [jm 11 4, jn 12 (.bin .shr (.t 11) (.c (.int .u64 8))), jm 4 12]))
def k46 : IC := (.seq (.reg [jc 2 (.str [])]) (.seq (.reg [jm 6 0, jn 7 (.cvi .u8 (.t 6)), jn 8 (.bsl 1 [(.t 7)]), jm 3 8]) (.seq (.reg [jm 9 0, jn 10 (.bin .shr (.t 9) (.c (.int .u64 8))), jm 4 10]) (.block 0 (.loop wG)))))
theorem Ik : BV Tryz.prog Tryz.f46 = some ⟨28, k46, [(.tmp 2)]⟩ := by kernel_rfl
theorem aD (N : Nat) : ∀ (n : Nat) (x : Int × List UInt8) (y : List UInt8), P6 N n x = some y → WX Tryz.prog (fun _ => false) (.loop wG) ((fun (x : Int × List UInt8) => ⟨AX [(3, .slr 74403 0 x.2.length), (4, j6 x.1)], AX [(74403, ⟨1, true, List.map eb x.2⟩)]⟩) x) ((fun y e s => e = .ret ∧ s = ⟨AX [(2, .str y)], AX []⟩ : (List UInt8) → Xt → St → Prop) y) := by
 refine F5 _ _ (P6 N) (UG N) (fun _ => rfl) (fun _ _ => rfl) ?_
 rintro rec ⟨aI, H9⟩ y h
 refine AA (CJ (AA (AB ?_)))
 refine wq rfl ?_
 refine RP (fun (x : Int) => ⟨AX [(3, .slr 74403 0 H9.length), (4, j6 aI), (5, j6 x)], AX [(74403, ⟨1, true, List.map eb H9⟩)]⟩) (fun x => RA aI H9 rec x = some y) ?_ ?_
 rintro Dt h
 iterate 2 refine AA ?_
 refine AB ?_
 iterate 3 refine wq rfl ?_
 refine EP h rfl (fun c1 h => ?_) (fun c1 h => ?_)
 refine AA (AB ?_)
 refine wq rfl ?_
 refine AZ rfl (UK (l := H9) rfl rfl (BU (f := eb) (l := H9))) ?_
 refine wq rfl ?_
 obtain rfl := AO h
 exact EX (st1 := ⟨AX [(2, .str H9)], AX []⟩) (cq rfl) ⟨rfl, rfl⟩
 refine BH (AB ?_)
 refine wq rfl ?_
 refine AZ rfl (WG rfl) ?_
 refine CW rfl (UE 73625 rfl rfl rfl) ?_
 refine wq rfl ?_
 obtain ⟨x27, hx27, h⟩ := AP h
 refine VU (f := eb) 73627 hx27 rfl rfl rfl rfl rfl (LY rfl (BU (f := eb) (l := H9))) rfl rfl rfl rfl ?_
 refine wq rfl ?_
 refine AB ?_
 refine wq rfl ?_
 refine AZ rfl (vE (by decide) rfl rfl) ?_
 refine wq rfl ?_
 exact ⟨((jT aI 8), x27), (C9.trans ((cn (st := _) (l := [(3, .slr 73627 0 x27.length), (4, j6 (jT aI 8))]) (m := [(73627, ⟨1, true, List.map eb x27⟩)]) rfl rfl rfl rfl)) (C9.trans (rename 73627 74403 rfl rfl) (cq rfl))), h⟩
 refine AA (AB ?_)
 refine wq rfl ?_
 obtain ⟨MM, Q5, h⟩ := AP h
 refine AZ rfl (KF Q5 rfl rfl rfl rfl) ?_
 obtain ⟨Y2, YL, h⟩ := AP h
 refine AZ rfl (Q4 (f := eb) (v := eb Y2) YL rfl rfl rfl) ?_
 refine AZ rfl (V7 (a := Y2) (b := (128 : UInt8)) rfl rfl) ?_
 refine AZ (p := .bool ((((Y2 &&& (128 : UInt8))).toNat : Int) != (0 : Int))) rfl rfl ?_
 refine EP h rfl (fun c2 h => ?_) (fun c2 h => ?_)
 refine AB ?_
 refine wq rfl ?_
 exact ⟨(-1), (cq rfl), h⟩
 refine BH ?_
 exact ⟨0, (cq rfl), h⟩
theorem VN (N : Nat) (a0 : Int) (r : List UInt8) (h : Y5 N a0 = some r) : Sat Tryz.prog 46 AC [j6 a0] (.str r) AC := by
 refine EL mixed Tryz.func46 Ik (rs := [.str r]) rfl rfl ?_
 refine AA (AB ?_)
 refine wq rfl ?_
 refine AA (AB ?_)
 refine wq rfl ?_
 refine AZ rfl (WG rfl) ?_
 refine CW rfl (UE 73608 rfl rfl rfl) ?_
 refine wq rfl ?_
 refine AA (AB ?_)
 refine wq rfl ?_
 refine AZ rfl (vE (by decide) rfl rfl) ?_
 refine wq rfl ?_
 refine CJ ?_
 obtain ⟨y3, hy3, h⟩ := AP h
 refine PQ (aD N N _ _ hy3) (C9.trans (rename 73608 74403 rfl rfl) (cq rfl)) ?_
 rintro e s ⟨rfl, rfl⟩
 obtain rfl := AO h
 exact ⟨nofun, rfl, rfl⟩
def k20 : IC := (.seq (.reg [jn 4 (.box 52 (.c (.agg [(.int .u8 0), (.str []), .nl])))]) (.seq (.reg [jm 5 0, jm 6 1, jn 7 (.call 46 [(.t 6)]), jn 8 (.call 19 [(.t 5), (.t 7)]), js 3 4 8]) .ret))
theorem Jh : BV Tryz.prog Tryz.f20 = some ⟨9, k20, [(.cell 3 true 4)]⟩ := by kernel_rfl
theorem RY (N : Nat) (a0 : UInt8) (a1 : Int) (r : A7) (h : TA N a0 a1 = some r) : Sat Tryz.prog 20 AC [eb a0, j6 a1] (A8 r) AC := by
 refine EL mixed Tryz.func20 Jh (rs := [A8 r]) rfl rfl ?_
 refine AA (AB ?_)
 refine CW rfl (F8 32004 rfl rfl rfl rfl rfl) ?_
 refine AA (AB ?_)
 iterate 2 refine wq rfl ?_
 obtain ⟨x7, hx7, h⟩ := AP h
 refine CW rfl (CX (VN N _ _ hx7) rfl (.cons A9 .nil) rfl rfl rfl) ?_
 obtain ⟨x8, Ci, h⟩ := AP h
 refine CW rfl (CX (IU N _ _ _ Ci) rfl (.cons A9 (.cons A9 .nil)) rfl rfl rfl) ?_
 refine ED (e' := A8 x8) rfl rfl rfl rfl rfl rfl rfl rfl nofun rfl ?_
 obtain rfl := AO h
 refine BR ?_
 exact ⟨nofun, rfl, rfl⟩
def k21 : IC := (.seq (.reg [jn 4 (.box 52 (.c (.agg [(.int .u8 0), (.str []), .nl])))]) (.seq (.reg [jm 5 0, jm 6 1, jn 7 (.build [(.int .u8 0), (.str []), .nl] [(0, (1, (.t 5))), (2, (1, (.t 6)))]), js 3 4 7]) .ret))
theorem Jg : BV Tryz.prog Tryz.f21 = some ⟨8, k21, [(.cell 3 true 4)]⟩ := by kernel_rfl
theorem MU (N : Nat) (a0 : UInt8) (a1 : List A7) (r : A7) (h : PT N a0 a1 = some r) : Sat Tryz.prog 21 AC [eb a0, .sl 3 (List.map A8 a1)] (A8 r) AC := by
 refine EL mixed Tryz.func21 Jg (rs := [A8 r]) rfl rfl ?_
 refine AA (AB ?_)
 refine CW rfl (F8 33604 rfl rfl rfl rfl rfl) ?_
 refine AA (AB ?_)
 iterate 2 refine wq rfl ?_
 refine AZ (p := .agg [eb a0, .str ([] : List UInt8), .sl 3 (List.map A8 a1)]) rfl rfl ?_
 refine ED (e' := .agg [eb a0, .str ([] : List UInt8), .sl 3 (List.map A8 a1)]) rfl rfl rfl rfl rfl rfl rfl rfl nofun rfl ?_
 cases AO h
 refine BR ?_
 exact ⟨nofun, rfl, rfl⟩
def k50 : IC := (.seq (.reg [jn 1 (.box 23 (.t 0)), jc 2 (.str [])]) (.seq (.regd 14 [ja 3 0 1, jl 4 1 3, jn 5 (.call 70 [(.t 4), (ji 10)]), jn 6 (.bin .add (.t 5) (.c (.str [46]))), ja 7 1 1, jl 8 1 7, jn 9 (.call 71 [(.t 8)]), jb .add 10 6 9, jn 11 (.bin .add (.t 10) (.c (.str [46]))), ja 12 2 1, jl 13 1 12, jn 14 (.call 71 [(.t 13)]), jb .add 15 11 14, jm 2 15]) .ret))
theorem Ig : BV Tryz.prog Tryz.f50 = some ⟨16, k50, [(.tmp 2)]⟩ := by kernel_rfl
theorem XE (N : Nat) (a0 : AQ) (r : List UInt8) (h : bZ N a0 = some r) : Sat Tryz.prog 50 AC [GH a0] (.str r) AC := by
 refine EL mixed Tryz.func50 Ig (rs := [.str r]) rfl rfl ?_
 refine AA (AB ?_)
 refine CW rfl (F8 80001 rfl rfl rfl rfl rfl) ?_
 refine wq rfl ?_
 refine AA (NG ?_)
 iterate 2 refine dq rfl ?_
 obtain ⟨x5, hx5, h⟩ := AP h
 refine QK rfl (LX (UC N _ _ _ hx5) rfl (.cons A9 (.cons A9 .nil)) rfl rfl rfl) CQ ?_
 obtain ⟨x6, hx6, h⟩ := AP h
 refine JF rfl (fB hx6 rfl rfl) ?_
 iterate 2 refine dq rfl ?_
 obtain ⟨x9, Ch, h⟩ := AP h
 refine QK rfl (LX (RZ N _ _ Ch) rfl (.cons A9 .nil) rfl rfl rfl) CQ ?_
 obtain ⟨P5, TR, h⟩ := AP h
 refine JF rfl (fB TR rfl rfl) ?_
 obtain ⟨QJ, WH, h⟩ := AP h
 refine JF rfl (fB WH rfl rfl) ?_
 iterate 2 refine dq rfl ?_
 obtain ⟨MM, Q5, h⟩ := AP h
 refine QK rfl (LX (RZ N _ _ Q5) rfl (.cons A9 .nil) rfl rfl rfl) CQ ?_
 obtain ⟨Y2, YL, h⟩ := AP h
 refine JF rfl (fB YL rfl rfl) ?_
 refine dq rfl ?_
 obtain rfl := AO h
 refine BR ?_
 exact ⟨nofun, rfl, rfl⟩
def k23 : IC := (.seq (.reg [jn 1 (.box 23 (.t 0)), jn 2 (.box 52 (.c (.agg [(.int .u8 0), (.str []), .nl])))]) (.seq (.reg [jg 3 3 1, jn 4 (.call 50 [(.t 3)]), jn 5 (.call 19 [(.c (.int .u8 4)), (.t 4)]), js 3 2 5]) .ret))
theorem Je : BV Tryz.prog Tryz.f23 = some ⟨6, k23, [(.cell 3 true 2)]⟩ := by kernel_rfl
theorem MW (N : Nat) (a0 : AQ) (r : A7) (h : O5 N a0 = some r) : Sat Tryz.prog 23 AC [GH a0] (A8 r) AC := by
 refine EL mixed Tryz.func23 Je (rs := [A8 r]) rfl rfl ?_
 refine AA (AB ?_)
 refine CW rfl (F8 36801 rfl rfl rfl rfl rfl) ?_
 refine CW rfl (F8 36802 rfl rfl rfl rfl rfl) ?_
 refine AA (AB ?_)
 refine AZ (p := GH a0) rfl rfl ?_
 obtain ⟨x4, hx4, h⟩ := AP h
 refine CW rfl (CX (XE N _ _ hx4) rfl (.cons A9 .nil) rfl rfl rfl) ?_
 obtain ⟨x5, hx5, h⟩ := AP h
 refine CW rfl (CX (IU N _ _ _ hx5) rfl (.cons A9 (.cons A9 .nil)) rfl rfl rfl) ?_
 refine ED (e' := A8 x5) rfl rfl rfl rfl rfl rfl rfl rfl nofun rfl ?_
 obtain rfl := AO h
 refine BR ?_
 exact ⟨nofun, rfl, rfl⟩
def k68 : IC := (.seq (.reg [jn 1 (.box 52 (.t 0)), jc 2 (.bool false)]) (.seq (.reg [jg 3 3 1, jn 4 (.call 47 [(.t 3)]), jn 5 (.un .not (.t 4)), jm 2 5]) .ret))
theorem Hl : BV Tryz.prog Tryz.f68 = some ⟨6, k68, [(.tmp 2)]⟩ := by kernel_rfl
theorem YI (N : Nat) (IJ : A7 → Option (Bool)) (RN : ∀ (a0 : A7) (r : Bool), IJ a0 = some r → Sat Tryz.prog 47 AC [A8 a0] (.bool r) AC) (a0 : A7) (r : Bool) (h : XW N IJ a0 = some r) : Sat Tryz.prog 68 AC [A8 a0] (.bool r) AC := by
 refine EL mixed Tryz.func68 Hl (rs := [.bool r]) rfl rfl ?_
 refine AA (AB ?_)
 refine CW rfl (F8 108801 rfl rfl rfl rfl rfl) ?_
 refine wq rfl ?_
 refine AA (AB ?_)
 refine AZ (p := A8 a0) rfl rfl ?_
 obtain ⟨x4, hx4, h⟩ := AP h
 refine CW rfl (CX (RN _ _ hx4) rfl (.cons A9 .nil) rfl rfl rfl) ?_
 iterate 2 refine wq rfl ?_
 cases AO h
 refine BR ?_
 exact ⟨nofun, rfl, rfl⟩
def fH : IC := (.seq (.reg [jb .lss 9 8 7]) (.seq (.cond (.t 9) .skip (.exit 0)) (.seq (.block 1 (.seq (.reg [jm 10 8, jm 5 10]) (.seq (.reg [jm 11 1, jm 12 0, jm 13 5, jx 14 3 12 13, jg 15 3 14, jn 16 (.calv (.t 11) [(.t 15)])]) (.cond (.t 16) (.seq (.reg [jm 17 5, jm 4 17]) .ret) .skip)))) (.reg [ju .add 18 8 1, jm 8 18]))))
def Gr : IC := (.seq (.reg [jc 4 (j6 0)]) (.seq (.seq (.reg [jm 6 0, jL 7 6, jc 8 (j6 0)]) (.block 0 (.loop fH))) (.seq (.reg [jc 4 (j6 (-1))]) .ret)))
theorem rQ : BV Tryz.prog Tryz.f90 = some ⟨19, Gr, [(.tmp 4)]⟩ := by kernel_rfl
theorem FP (N : Nat) (IJ : A7 → Option (Bool)) (RN : ∀ (a0 : A7) (r : Bool), IJ a0 = some r → Sat Tryz.prog 47 AC [A8 a0] (.bool r) AC) (a0 : List A7) : ∀ (n : Nat) (x : Int) (y : Unit ⊕ Int), BQ N IJ a0 n x = some y → WX Tryz.prog (fun _ => false) (.loop fH) ((fun (x : Int) => ⟨AX [(0, .sl 3 (List.map A8 a0)), (1, .clo 68 []), (7, j6 (a0.length : Int)), (8, j6 x)], AX []⟩) x) ((Sum.elim (fun y e s => e = .exit 0 ∧ s = ⟨AX [], AX []⟩) (fun y e s => e = .ret ∧ s = ⟨AX [(4, j6 y)], AX []⟩) : (Unit ⊕ Int) → Xt → St → Prop) y) := by
 refine F5 _ _ (BQ N IJ a0) (EC N IJ a0) (fun _ => rfl) (fun _ _ => rfl) ?_
 rintro rec v8l6 y h
 refine AA (AB ?_)
 refine wq rfl ?_
 refine AA ?_
 refine EP h rfl (fun c1 h => ?_) (fun c1 h => ?_)
 refine BH (AA (CJ (AA (AB ?_))))
 iterate 2 refine wq rfl ?_
 refine AA (AB ?_)
 iterate 3 refine wq rfl ?_
 obtain ⟨MM, Q5, h⟩ := AP h
 refine AZ rfl (EU (cs := [eb MM.Tag, .str MM.Body, .sl 3 MM.Kids]) Q5 rfl rfl rfl) ?_
 refine AZ (p := A8 MM) rfl rfl ?_
 obtain ⟨UA, hx16, h⟩ := AP h
 refine CW rfl (VP (YI N IJ RN _ _ hx16) rfl rfl rfl (.cons A9 .nil) rfl rfl rfl) ?_
 refine EP h rfl (fun c2 h => ?_) (fun c2 h => ?_)
 refine AA (AB ?_)
 iterate 2 refine wq rfl ?_
 obtain rfl := AO h
 exact EX (st1 := ⟨AX [(4, j6 v8l6)], AX []⟩) (cq rfl) ⟨rfl, rfl⟩
 refine BH (AB ?_)
 refine AZ (p := j6 (BX (v8l6 + (1 : Int)))) rfl rfl ?_
 refine wq rfl ?_
 exact ⟨(BX (v8l6 + (1 : Int))), (cq rfl), h⟩
 cases AO h
 exact D9 (st1 := ⟨AX [], AX []⟩) (cq rfl) ⟨rfl, rfl⟩
theorem FY (N : Nat) (IJ : A7 → Option (Bool)) (RN : ∀ (a0 : A7) (r : Bool), IJ a0 = some r → Sat Tryz.prog 47 AC [A8 a0] (.bool r) AC) (a0 : List A7) (r : Int) (h : EQ N IJ a0 = some r) : Sat Tryz.prog 90 AC [.sl 3 (List.map A8 a0), .clo 68 []] (j6 r) AC := by
 refine EL mixed Tryz.func90 rQ (rs := [j6 r]) rfl rfl ?_
 refine AA (AB ?_)
 refine wq rfl ?_
 iterate 2 refine AA ?_
 refine AB ?_
 refine wq rfl ?_
 refine AZ rfl (CO rfl) ?_
 refine wq rfl ?_
 refine CJ ?_
 obtain ⟨y3, hy3, h⟩ := AP h
 refine PQ (FP N IJ RN a0 N _ _ hy3) (cq rfl) ?_
 clear hy3
 rcases y3 with y3 | y3
 rintro e s ⟨rfl, rfl⟩
 refine AA (AB ?_)
 refine wq rfl ?_
 cases AO h
 refine BR ?_
 exact ⟨nofun, rfl, rfl⟩
 rintro e s ⟨rfl, rfl⟩
 obtain rfl := AO h
 exact ⟨nofun, rfl, rfl⟩
def Hm : IC := (.seq (.reg [jc 4 (.bool false)]) (.seq (.reg [jm 5 0, jm 6 1, jn 7 (.call 90 [(.t 5), (.t 6)]), ju .geq 8 7 0, jm 4 8]) .ret))
theorem rV : BV Tryz.prog Tryz.f67 = some ⟨9, Hm, [(.tmp 4)]⟩ := by kernel_rfl
theorem FJ (N : Nat) (IJ : A7 → Option (Bool)) (RN : ∀ (a0 : A7) (r : Bool), IJ a0 = some r → Sat Tryz.prog 47 AC [A8 a0] (.bool r) AC) (a0 : List A7) (r : Bool) (h : EG N IJ a0 = some r) : Sat Tryz.prog 67 AC [.sl 3 (List.map A8 a0), .clo 68 []] (.bool r) AC := by
 refine EL mixed Tryz.func67 rV (rs := [.bool r]) rfl rfl ?_
 refine AA (AB ?_)
 refine wq rfl ?_
 refine AA (AB ?_)
 iterate 2 refine wq rfl ?_
 obtain ⟨x7, hx7, h⟩ := AP h
 refine CW rfl (CX (FY N IJ RN _ _ hx7) rfl (.cons A9 (.cons A9 .nil)) rfl rfl rfl) ?_
 iterate 2 refine wq rfl ?_
 cases AO h
 refine BR ?_
 exact ⟨nofun, rfl, rfl⟩
def k47 : IC := (.seq (.reg [jn 1 (.box 52 (.t 0)), jc 2 (.bool false)]) (.seq (.block 0 (.seq (.reg [ja 4 0 1, jl 5 1 4, jn 6 (.bin .and (.t 5) (.c (.int .u8 31))), jn 7 (.bin .eql (.t 6) (.c (.int .u8 31))), jm 3 7]) (.cond (.t 3) (.seq (.reg [jc 2 (.bool false)]) .ret) (.seq (.reg [ja 9 0 1, jl 10 1 9, jn 11 (.bin .and (.t 10) (.c (.int .u8 32))), jn 12 (.bin .eql (.t 11) (.c (.int .u8 0))), jm 8 12]) (.cond (.t 8) (.seq (.reg [ja 13 2 1, jl 14 1 13, jL 15 14, ju .eql 16 15 0, jm 2 16]) .ret) .skip))))) (.seq (.reg [ja 17 1 1, jl 18 1 17, jn 19 (.bin .eql (.t 18) (.c (.str []))), jm 20 19, jt 20 21 (.fda 2 (.t 1)), jt 20 22 (.load 1 false (.t 21)), jt 20 23 (.call 67 [(.t 22), (.c (.clo 68 []))]), jt 20 24 (.un .not (.t 23)), jp 25 20 24, jm 2 25]) .ret)))
theorem Ij : BV Tryz.prog Tryz.f47 = some ⟨26, k47, [(.tmp 2)]⟩ := by kernel_rfl
theorem YG (N : Nat) (IJ : A7 → Option (Bool)) (RN : ∀ (a0 : A7) (r : Bool), IJ a0 = some r → Sat Tryz.prog 47 AC [A8 a0] (.bool r) AC) (a0 : A7) (r : Bool) (h : XV N IJ a0 = some r) : Sat Tryz.prog 47 AC [A8 a0] (.bool r) AC := by
 refine EL mixed Tryz.func47 Ij (rs := [.bool r]) rfl rfl ?_
 refine AA (AB ?_)
 refine CW rfl (F8 75201 rfl rfl rfl rfl rfl) ?_
 refine wq rfl ?_
 refine AA (CJ (AA (AB ?_)))
 iterate 2 refine wq rfl ?_
 refine AZ rfl (V7 (a := a0.Tag) (b := (31 : UInt8)) rfl rfl) ?_
 refine AZ (p := .bool ((((a0.Tag &&& (31 : UInt8))).toNat : Int) == (31 : Int))) rfl rfl ?_
 refine wq rfl ?_
 refine EP h rfl (fun c1 h => ?_) (fun c1 h => ?_)
 refine AA (AB ?_)
 refine wq rfl ?_
 obtain rfl := AO h
 refine BR ?_
 exact ⟨nofun, rfl, rfl⟩
 refine AA (AB ?_)
 iterate 2 refine wq rfl ?_
 refine AZ rfl (V7 (a := a0.Tag) (b := (32 : UInt8)) rfl rfl) ?_
 refine AZ (p := .bool ((((a0.Tag &&& (32 : UInt8))).toNat : Int) == (0 : Int))) rfl rfl ?_
 refine wq rfl ?_
 refine EP h rfl (fun c2 h => ?_) (fun c2 h => ?_)
 refine AA (AB ?_)
 refine wq rfl ?_
 obtain ⟨MM, Q5, h⟩ := AP h
 refine AZ (p := .sl 3 (List.map A8 MM)) rfl (congrArg (fun z => some (PV.sl 3 z)) (G5 (e := A8) BS Q5)) ?_
 refine AZ rfl (CO rfl) ?_
 iterate 2 refine wq rfl ?_
 cases AO h
 refine BR ?_
 exact ⟨nofun, rfl, rfl⟩
 refine BH ?_
 obtain ⟨g3, hg3, h⟩ := AP h
 refine GZ ⟨AX [(2, .bool g3)], AX []⟩ ?_ ?_
 have h := hg3
 refine AB ?_
 iterate 4 refine wq rfl ?_
 rcases CY h with ⟨c4, h⟩ | ⟨c4, h⟩
 refine AZ (gy rfl c4) rfl ?_
 obtain ⟨YW, bL, h⟩ := AP h
 refine AZ (p := .sl 3 (List.map A8 YW)) (gy rfl c4) (congrArg (fun z => some (PV.sl 3 z)) (G5 (e := A8) BS bL)) ?_
 obtain ⟨gQ, nM, h⟩ := AP h
 refine CW (gy rfl c4) (CX (FJ N IJ RN _ _ nM) rfl (.cons A9 (.cons A9 .nil)) rfl rfl rfl) ?_
 refine AZ (gy rfl c4) rfl ?_
 refine AZ rfl (BG c4 rfl rfl) ?_
 refine wq rfl ?_
 cases AO h
 exact cq rfl
 iterate 4 refine D7 (gn rfl c4) ?_
 refine AZ rfl (BD c4 rfl rfl) ?_
 refine wq rfl ?_
 obtain rfl := AO h
 exact cq rfl
 clear hg3
 obtain rfl := AO h
 refine BR ?_
 exact ⟨nofun, rfl, rfl⟩
theorem YH (N : Nat) : ∀ (n : Nat) (a0 : A7) (r : Bool) (h : NC N n a0 = some r), Sat Tryz.prog 47 AC [A8 a0] (.bool r) AC := by
 intro n
 induction n with
 | zero => intro a0 r h; cases h
 | succ n ih => intro a0 r h; exact YG N (NC N n) ih a0 r h
theorem aT (N : Nat) (a0 : A7) (r : Bool) (h : dB N a0 = some r) : Sat Tryz.prog 47 AC [A8 a0] (.bool r) AC := YH N N a0 r h
def wF : IC := (.seq (.reg [jb .lss 10 9 8]) (.seq (.cond (.t 10) .skip (.exit 0)) (.seq (.block 1 (.seq (.reg [jx 11 3 7 9, jg 12 3 11, jn 5 (.box 52 (.c (.agg [(.int .u8 0), (.str []), .nl]))), js 3 5 12]) (.reg [jm 13 3, jg 14 3 5, jn 15 (.call 48 [(.t 14)]), jn 16 (.mm true (.t 13) [(.t 15)]), jm 3 16]))) (.reg [ju .add 17 9 1, jm 9 17]))))
def k48 : IC := (.seq (.reg [jn 1 (.box 52 (.t 0)), jc 2 (j6 0)]) (.seq (.reg [jc 3 (j6 0)]) (.seq (.seq (.reg [ja 6 2 1, jl 7 1 6, jL 8 7, jc 9 (j6 0)]) (.block 0 (.loop wF))) (.seq (.reg [jm 18 3, ju .add 19 18 1, jm 2 19]) .ret))))
theorem Ii : BV Tryz.prog Tryz.f48 = some ⟨20, k48, [(.tmp 2)]⟩ := by kernel_rfl
theorem dK (N : Nat) (IJ : A7 → Option (Int)) (RN : ∀ (a0 : A7) (r : Int), IJ a0 = some r → Sat Tryz.prog 48 AC [A8 a0] (j6 r) AC) (x7 : List A7) : ∀ (n : Nat) (x : Int × Int) (y : Int), R6 N IJ x7 n x = some y → WX Tryz.prog (fun _ => false) (.loop wF) ((fun (x : Int × Int) => ⟨AX [(3, j6 x.1), (7, .sl 3 (List.map A8 x7)), (8, j6 (x7.length : Int)), (9, j6 x.2)], AX []⟩) x) ((fun y e s => e = .exit 0 ∧ s = ⟨AX [(3, j6 y)], AX []⟩ : Int → Xt → St → Prop) y) := by
 refine F5 _ _ (R6 N IJ x7) (VS N IJ x7) (fun _ => rfl) (fun _ _ => rfl) ?_
 rintro rec ⟨rD, rC⟩ y h
 refine AA (AB ?_)
 refine wq rfl ?_
 refine AA ?_
 refine EP h rfl (fun c1 h => ?_) (fun c1 h => ?_)
 refine BH (AA (CJ (AA (AB ?_))))
 obtain ⟨QJ, WH, h⟩ := AP h
 refine AZ rfl (EU (cs := [eb QJ.Tag, .str QJ.Body, .sl 3 QJ.Kids]) WH rfl rfl rfl) ?_
 refine AZ (p := A8 QJ) rfl rfl ?_
 refine CW rfl (F8 76805 rfl rfl rfl rfl rfl) ?_
 refine ED (e' := A8 QJ) rfl rfl rfl rfl rfl rfl rfl rfl nofun rfl ?_
 refine AB ?_
 refine wq rfl ?_
 refine AZ (p := A8 QJ) rfl rfl ?_
 obtain ⟨Y2, YL, h⟩ := AP h
 refine CW rfl (CX (RN _ _ YL) rfl (.cons A9 .nil) rfl rfl rfl) ?_
 refine AZ (p := j6 (mx rD Y2)) rfl rfl ?_
 refine wq rfl ?_
 refine AB ?_
 refine AZ (p := j6 (BX (rC + (1 : Int)))) rfl rfl ?_
 refine wq rfl ?_
 exact ⟨((mx rD Y2), (BX (rC + (1 : Int)))), (cq rfl), h⟩
 obtain rfl := AO h
 exact D9 (st1 := ⟨AX [(3, j6 rD)], AX []⟩) (cq rfl) ⟨rfl, rfl⟩
theorem aU (N : Nat) (IJ : A7 → Option (Int)) (RN : ∀ (a0 : A7) (r : Int), IJ a0 = some r → Sat Tryz.prog 48 AC [A8 a0] (j6 r) AC) (a0 : A7) (r : Int) (h : dC N IJ a0 = some r) : Sat Tryz.prog 48 AC [A8 a0] (j6 r) AC := by
 refine EL mixed Tryz.func48 Ii (rs := [j6 r]) rfl rfl ?_
 refine AA (AB ?_)
 refine CW rfl (F8 76801 rfl rfl rfl rfl rfl) ?_
 refine wq rfl ?_
 refine AA (AB ?_)
 refine wq rfl ?_
 iterate 2 refine AA ?_
 refine AB ?_
 refine wq rfl ?_
 obtain ⟨x7, hx7, h⟩ := AP h
 refine AZ (p := .sl 3 (List.map A8 x7)) rfl (congrArg (fun z => some (PV.sl 3 z)) (G5 (e := A8) BS hx7)) ?_
 refine AZ rfl (CO rfl) ?_
 refine wq rfl ?_
 refine CJ ?_
 obtain ⟨y2, hy2, h⟩ := AP h
 refine PQ (dK N IJ RN x7 N _ _ hy2) (cq rfl) ?_
 rintro e s ⟨rfl, rfl⟩
 refine AA (AB ?_)
 refine wq rfl ?_
 refine AZ (p := j6 (BX (y2 + (1 : Int)))) rfl rfl ?_
 refine wq rfl ?_
 cases AO h
 refine BR ?_
 exact ⟨nofun, rfl, rfl⟩
theorem aV (N : Nat) : ∀ (n : Nat) (a0 : A7) (r : Int) (h : QI N n a0 = some r), Sat Tryz.prog 48 AC [A8 a0] (j6 r) AC := by
 intro n
 induction n with
 | zero => intro a0 r h; cases h
 | succ n ih => intro a0 r h; exact aU N (QI N n) ih a0 r h
theorem iC (N : Nat) (a0 : A7) (r : Int) (h : lN N a0 = some r) : Sat Tryz.prog 48 AC [A8 a0] (j6 r) AC := aV N N a0 r h
def k69 : IC := (.seq (.reg [jc 2 (.str [])]) (.seq (.block 0 (.seq (.reg [jm 4 0, ju .lss 5 4 128, jm 3 5]) (.cond (.t 3) (.seq (.reg [jm 6 0, jn 7 (.cvi .u8 (.t 6)), jn 8 (.bsl 1 [(.t 7)]), jn 9 (.cvb (.t 8)), jm 2 9]) .ret) (.seq (.reg [jm 11 0, ju .lss 12 11 256, jm 10 12]) (.cond (.t 10) (.seq (.reg [jm 13 0, jn 14 (.cvi .u8 (.t 13)), jn 15 (.bsl 1 [(.c (.int .u8 129)), (.t 14)]), jn 16 (.cvb (.t 15)), jm 2 16]) .ret) .skip))))) (.seq (.reg [jm 17 0, jn 18 (.bin .shr (.t 17) (.c (.int .u64 8))), jn 19 (.cvi .u8 (.t 18)), jm 20 0, jn 21 (.cvi .u8 (.t 20)), jn 22 (.bsl 1 [(.c (.int .u8 130)), (.t 19), (.t 21)]), jn 23 (.cvb (.t 22)), jm 2 23]) .ret)))
theorem Hg : BV Tryz.prog Tryz.f69 = some ⟨24, k69, [(.tmp 2)]⟩ := by kernel_rfl
theorem aS (N : Nat) (a0 : Int) (r : List UInt8) (h : dA N a0 = some r) : Sat Tryz.prog 69 AC [j6 a0] (.str r) AC := by
 refine EL mixed Tryz.func69 Hg (rs := [.str r]) rfl rfl ?_
 refine AA (AB ?_)
 refine wq rfl ?_
 refine AA (CJ (AA (AB ?_)))
 iterate 3 refine wq rfl ?_
 refine EP h rfl (fun c1 h => ?_) (fun c1 h => ?_)
 refine AA (AB ?_)
 refine wq rfl ?_
 refine AZ rfl (WG rfl) ?_
 refine CW rfl (UE 110408 rfl rfl rfl) ?_
 refine AZ rfl (UK (l := [(byte a0)]) rfl rfl (BU (f := eb) (l := [(byte a0)]))) ?_
 refine wq rfl ?_
 cases AO h
 refine BR ?_
 exact ⟨nofun, rfl, rfl⟩
 refine AA (AB ?_)
 iterate 3 refine wq rfl ?_
 refine EP h rfl (fun c2 h => ?_) (fun c2 h => ?_)
 refine AA (AB ?_)
 refine wq rfl ?_
 refine AZ rfl (WG rfl) ?_
 refine CW rfl (UE 110415 rfl rfl rfl) ?_
 refine AZ rfl (UK (l := [(129 : UInt8), (byte a0)]) rfl rfl (BU (f := eb) (l := [(129 : UInt8), (byte a0)]))) ?_
 refine wq rfl ?_
 cases AO h
 refine BR ?_
 exact ⟨nofun, rfl, rfl⟩
 refine BH (AA (AB ?_))
 refine wq rfl ?_
 refine AZ rfl (vE (by decide) rfl rfl) ?_
 refine AZ rfl (WG rfl) ?_
 refine wq rfl ?_
 refine AZ rfl (WG rfl) ?_
 refine CW rfl (UE 110422 rfl rfl rfl) ?_
 refine AZ rfl (UK (l := [(130 : UInt8), (byte (jT a0 8)), (byte a0)]) rfl rfl (BU (f := eb) (l := [(130 : UInt8), (byte (jT a0 8)), (byte a0)]))) ?_
 refine wq rfl ?_
 cases AO h
 refine BR ?_
 exact ⟨nofun, rfl, rfl⟩
end Go.Gp
end
