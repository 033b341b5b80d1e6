/- A part of the proof: functions of the program and what they compute. -/
import Derived.Test.YtlopcglohpfonaaGreatDoorA5
import Derived.Test.YtlopcglohpfonaaGreatDoorA8
import Derived.Test.YtlopcglohpfonaaGreatDoorA11
import Derived.Test.YtlopcglohpfonaaGreatDoorA14
import Derived.Test.YtlopcglohpfonaaGreatDoorA12
import Derived.Test.YtlopcglohpfonaaGreatDoorA10
import Derived.Test.YtlopcglohpfonaaGreatDoorA4
import Derived.KernelRfl
section
set_option linter.unusedVariables false
set_option linter.unusedSimpArgs false
set_option maxRecDepth 4000
set_option maxHeartbeats 4000000
namespace Go.Gp
open Go.Vd Go.RowKit Go.Proofs
def qC : IC := (.seq (.seq (.reg [jm 27 4, jm 28 0, jm 29 3, jx 30 3 28 29, ja 31 2 30, jl 32 1 31, jL 33 32, jb .lss 34 27 33]) (.cond (.t 34) .skip (.exit 2))) (.seq (.block 3 (.seq (.reg [jm 37 0, jm 38 3, jx 39 3 37 38, ja 40 2 39, jl 41 1 40, jm 42 4, jx 43 1 41 42, jl 44 1 43, jS 45 44, ju .gtr 46 45 80]) (.cond (.t 46) (.seq (.reg [jc 2 (.bool false)]) .ret) .skip))) (.reg [jm 35 4, ju .add 36 35 1, jm 4 36])))
def wJ : IC := (.seq (.seq (.reg [jm 5 3, jm 6 0, jL 7 6, jb .lss 8 5 7]) (.cond (.t 8) .skip (.exit 0))) (.seq (.block 1 (.seq (.seq (.reg [jm 11 0, jm 12 3, jx 13 3 11 12, ja 14 1 13, jl 15 1 14, jS 16 15, ju .gtr 17 16 30, jm 18 17, jf 18 19 (.mov (.t 0)), jf 18 20 (.mov (.t 3)), jf 18 21 (.ixp 3 (.t 19) (.t 20)), jf 18 22 (.fda 2 (.t 21)), jf 18 23 (.load 1 false (.t 22)), jf 18 24 (.len false (.t 23)), jf 18 25 (.bin .gtr (.t 24) (ji 20)), jo 26 18 25]) (.cond (.t 26) (.seq (.reg [jc 2 (.bool false)]) .ret) .skip)) (.seq (.reg [jc 4 (j6 0)]) (.block 2 (.loop qC))))) (.reg [jm 9 3, ju .add 10 9 1, jm 3 10])))
def k17 : IC := (.seq (.reg [jc 2 (.bool false)]) (.seq (.seq (.reg [jc 3 (j6 0)]) (.block 0 (.loop wJ))) (.seq (.reg [jm 47 0, jL 48 47, ju .leq 49 48 14, jm 2 49]) .ret)))
theorem Jk : BV Tryz.prog Tryz.f17 = some ⟨50, k17, [(.tmp 2)]⟩ := by kernel_rfl
theorem PS (N : Nat) (a0 : List AY) (v3l6 : Int) : ∀ (n : Nat) (x : Int) (y : Unit ⊕ Bool), E9 N a0 v3l6 n x = some y → WX Tryz.prog (fun _ => false) (.loop qC) ((fun (x : Int) => ⟨AX [(0, .sl 3 (List.map AL a0)), (3, j6 v3l6), (4, j6 x)], AX []⟩) x) ((Sum.elim (fun y e s => e = .exit 2 ∧ s = ⟨AX [(0, .sl 3 (List.map AL a0)), (3, j6 v3l6)], AX []⟩) (fun y e s => e = .ret ∧ s = ⟨AX [(2, .bool y)], AX []⟩) : (Unit ⊕ Bool) → Xt → St → Prop) y) := by
 refine F5 _ _ (E9 N a0 v3l6) (FK N a0 v3l6) (fun _ => rfl) (fun _ _ => rfl) ?_
 rintro rec v4l26 y h
 iterate 2 refine AA ?_
 refine AB ?_
 iterate 3 refine wq rfl ?_
 obtain ⟨x30, xA, h⟩ := AP h
 refine AZ rfl (EU (cs := [j6 x30.Kind, .str x30.Attr, .sl 1 (List.map PV.str x30.Values)]) xA rfl rfl rfl) ?_
 refine AZ (p := .ep [.sl 1 (List.map PV.str x30.Values)]) rfl rfl ?_
 refine wq rfl ?_
 refine AZ rfl (CO rfl) ?_
 refine wq rfl ?_
 refine EP h rfl (fun c5 h => ?_) (fun c5 h => ?_)
 refine BH (AA (CJ (AA (AB ?_))))
 iterate 2 refine wq rfl ?_
 obtain ⟨x39, hx39, h⟩ := AP h
 refine AZ rfl (EU (cs := [j6 x39.Kind, .str x39.Attr, .sl 1 (List.map PV.str x39.Values)]) hx39 rfl rfl rfl) ?_
 refine AZ (p := .ep [.sl 1 (List.map PV.str x39.Values)]) rfl rfl ?_
 iterate 2 refine wq rfl ?_
 obtain ⟨x43, Ke, h⟩ := AP h
 refine AZ rfl (EU (cs := [.str x43]) Ke rfl rfl rfl) ?_
 iterate 3 refine wq rfl ?_
 refine EP h rfl (fun c6 h => ?_) (fun c6 h => ?_)
 refine AA (AB ?_)
 refine wq rfl ?_
 obtain rfl := AO h
 exact EX (st1 := ⟨AX [(2, .bool false)], AX []⟩) (cq rfl) ⟨rfl, rfl⟩
 refine BH (AB ?_)
 refine wq rfl ?_
 refine AZ (p := j6 (BX (v4l26 + (1 : Int)))) rfl rfl ?_
 refine wq rfl ?_
 exact ⟨(BX (v4l26 + (1 : Int))), (cq rfl), h⟩
 cases AO h
 exact D9 (st1 := ⟨AX [(0, .sl 3 (List.map AL a0)), (3, j6 v3l6)], AX []⟩) (cq rfl) ⟨rfl, rfl⟩
theorem QN (N : Nat) (a0 : List AY) : ∀ (n : Nat) (x : Int) (y : Unit ⊕ Bool), EI N a0 n x = some y → WX Tryz.prog (fun _ => false) (.loop wJ) ((fun (x : Int) => ⟨AX [(0, .sl 3 (List.map AL a0)), (3, j6 x)], AX []⟩) x) ((Sum.elim (fun y e s => e = .exit 0 ∧ s = ⟨AX [(0, .sl 3 (List.map AL a0))], AX []⟩) (fun y e s => e = .ret ∧ s = ⟨AX [(2, .bool y)], AX []⟩) : (Unit ⊕ Bool) → Xt → St → Prop) y) := by
 refine F5 _ _ (EI N a0) (FV N a0) (fun _ => rfl) (fun _ _ => rfl) ?_
 rintro rec v3l6 y h
 iterate 2 refine AA ?_
 refine AB ?_
 iterate 2 refine wq rfl ?_
 refine AZ rfl (CO rfl) ?_
 refine wq rfl ?_
 refine EP h rfl (fun c1 h => ?_) (fun c1 h => ?_)
 refine BH (AA (CJ (AA ?_)))
 obtain ⟨g2, hg2, h⟩ := AP h
 refine GZ ⟨AX [(0, .sl 3 (List.map AL a0)), (3, j6 v3l6), (26, .bool g2)], AX []⟩ ?_ ?_
 have h := hg2
 refine AB ?_
 iterate 2 refine wq rfl ?_
 obtain ⟨JP, YM, h⟩ := AP h
 refine AZ rfl (EU (cs := [j6 JP.Kind, .str JP.Attr, .sl 1 (List.map PV.str JP.Values)]) YM rfl rfl rfl) ?_
 refine AZ (p := .ep [.str JP.Attr, .sl 1 (List.map PV.str JP.Values)]) rfl rfl ?_
 iterate 4 refine wq rfl ?_
 rcases CY h with ⟨c3, h⟩ | ⟨c3, h⟩
 iterate 7 refine D7 (gn rfl c3) ?_
 refine AZ rfl (BG c3 rfl rfl) ?_
 obtain rfl := AO h
 exact cq rfl
 iterate 2 refine AZ (gy rfl c3) rfl ?_
 obtain ⟨WT, bM, h⟩ := AP h
 refine AZ (gy rfl c3) (EU (cs := [j6 WT.Kind, .str WT.Attr, .sl 1 (List.map PV.str WT.Values)]) bM rfl rfl rfl) ?_
 refine AZ (p := .ep [.sl 1 (List.map PV.str WT.Values)]) (gy rfl c3) rfl ?_
 refine AZ (gy rfl c3) rfl ?_
 refine AZ (gy rfl c3) (CO rfl) ?_
 refine AZ (gy rfl c3) rfl ?_
 refine AZ rfl (BD c3 rfl rfl) ?_
 cases AO h
 exact cq rfl
 clear hg2
 refine EP h rfl (fun c4 h => ?_) (fun c4 h => ?_)
 refine AA (AB ?_)
 refine wq rfl ?_
 obtain rfl := AO h
 exact EX (st1 := ⟨AX [(2, .bool false)], AX []⟩) (cq rfl) ⟨rfl, rfl⟩
 refine BH (AA (AB ?_))
 refine wq rfl ?_
 refine CJ ?_
 obtain ⟨y7, hy7, h⟩ := AP h
 refine PQ (PS N a0 v3l6 N _ _ hy7) (cq rfl) ?_
 clear hy7
 rcases y7 with y7 | y7
 rintro e s ⟨rfl, rfl⟩
 refine AB ?_
 refine wq rfl ?_
 refine AZ (p := j6 (BX (v3l6 + (1 : Int)))) rfl rfl ?_
 refine wq rfl ?_
 exact ⟨(BX (v3l6 + (1 : Int))), (cq rfl), h⟩
 rintro e s ⟨rfl, rfl⟩
 obtain rfl := AO h
 exact ⟨rfl, rfl⟩
 cases AO h
 exact D9 (st1 := ⟨AX [(0, .sl 3 (List.map AL a0))], AX []⟩) (cq rfl) ⟨rfl, rfl⟩
theorem RF (N : Nat) (a0 : List AY) (r : Bool) (h : KE N a0 = some r) : Sat Tryz.prog 17 AC [.sl 3 (List.map AL a0)] (.bool r) AC := by
 refine EL mixed Tryz.func17 Jk (rs := [.bool r]) rfl rfl ?_
 refine AA (AB ?_)
 refine wq rfl ?_
 iterate 2 refine AA ?_
 refine AB ?_
 refine wq rfl ?_
 refine CJ ?_
 obtain ⟨y8, zW, h⟩ := AP h
 refine PQ (QN N a0 N _ _ zW) (cq rfl) ?_
 clear zW
 rcases y8 with y8 | y8
 rintro e s ⟨rfl, rfl⟩
 refine AA (AB ?_)
 refine wq rfl ?_
 refine AZ rfl (CO rfl) ?_
 iterate 2 refine wq rfl ?_
 cases AO h
 refine BR ?_
 exact ⟨nofun, rfl, rfl⟩
 rintro e s ⟨rfl, rfl⟩
 obtain rfl := AO h
 exact ⟨nofun, rfl, rfl⟩
def wI : IC := (.seq (.seq (.reg [jm 4 3, jm 5 0, jL 6 5, jb .lss 7 4 6]) (.cond (.t 7) .skip (.exit 0))) (.seq (.block 1 (.seq (.reg [jm 10 0, jm 11 3, jx 12 2 10 11, ja 13 0 12, jl 14 1 13, jS 15 14, ju .gtr 16 15 30, jm 17 16, jf 17 18 (.mov (.t 0)), jf 17 19 (.mov (.t 3)), jf 17 20 (.ixp 2 (.t 18) (.t 19)), jf 17 21 (.fda 1 (.t 20)), jf 17 22 (.load 1 false (.t 21)), jf 17 23 (.len true (.t 22)), jf 17 24 (.bin .gtr (.t 23) (ji 80)), jo 25 17 24]) (.cond (.t 25) (.seq (.reg [jc 2 (.bool false)]) .ret) .skip))) (.reg [jm 8 3, ju .add 9 8 1, jm 3 9])))
def k18 : IC := (.seq (.reg [jc 2 (.bool false)]) (.seq (.seq (.reg [jc 3 (j6 0)]) (.block 0 (.loop wI))) (.seq (.reg [jm 26 0, jL 27 26, ju .leq 28 27 6, jm 2 28]) .ret)))
theorem Jj : BV Tryz.prog Tryz.f18 = some ⟨29, k18, [(.tmp 2)]⟩ := by kernel_rfl
theorem R7 (N : Nat) (a0 : List AU) : ∀ (n : Nat) (x : Int) (y : Unit ⊕ Bool), EO N a0 n x = some y → WX Tryz.prog (fun _ => false) (.loop wI) ((fun (x : Int) => ⟨AX [(0, .sl 2 (List.map AV a0)), (3, j6 x)], AX []⟩) x) ((Sum.elim (fun y e s => e = .exit 0 ∧ s = ⟨AX [(0, .sl 2 (List.map AV a0))], AX []⟩) (fun y e s => e = .ret ∧ s = ⟨AX [(2, .bool y)], AX []⟩) : (Unit ⊕ Bool) → Xt → St → Prop) y) := by
 refine F5 _ _ (EO N a0) (G8 N a0) (fun _ => rfl) (fun _ _ => rfl) ?_
 rintro rec v3l6 y h
 iterate 2 refine AA ?_
 refine AB ?_
 iterate 2 refine wq rfl ?_
 refine AZ rfl (CO rfl) ?_
 refine wq rfl ?_
 refine EP h rfl (fun c1 h => ?_) (fun c1 h => ?_)
 refine BH (AA (CJ ?_))
 obtain ⟨g2, hg2, h⟩ := AP h
 refine GZ ⟨AX [(0, .sl 2 (List.map AV a0)), (3, j6 v3l6), (25, .bool g2)], AX []⟩ ?_ ?_
 have h := hg2
 refine AB ?_
 iterate 2 refine wq rfl ?_
 obtain ⟨KW, YN, h⟩ := AP h
 refine AZ rfl (EU (cs := [.str KW.Attr, .str KW.Value]) YN rfl rfl rfl) ?_
 refine AZ (p := .ep [.str KW.Attr, .str KW.Value]) rfl rfl ?_
 iterate 4 refine wq rfl ?_
 rcases CY h with ⟨c3, h⟩ | ⟨c3, h⟩
 iterate 7 refine D7 (gn rfl c3) ?_
 refine AZ rfl (BG c3 rfl rfl) ?_
 obtain rfl := AO h
 exact cq rfl
 iterate 2 refine AZ (gy rfl c3) rfl ?_
 obtain ⟨x20, bN, h⟩ := AP h
 refine AZ (gy rfl c3) (EU (cs := [.str x20.Attr, .str x20.Value]) bN rfl rfl rfl) ?_
 refine AZ (p := .ep [.str x20.Value]) (gy rfl c3) rfl ?_
 iterate 3 refine AZ (gy rfl c3) rfl ?_
 refine AZ rfl (BD c3 rfl rfl) ?_
 cases AO h
 exact cq rfl
 clear hg2
 refine EP h rfl (fun c4 h => ?_) (fun c4 h => ?_)
 refine AA (AB ?_)
 refine wq rfl ?_
 obtain rfl := AO h
 exact EX (st1 := ⟨AX [(2, .bool false)], AX []⟩) (cq rfl) ⟨rfl, rfl⟩
 refine BH (AB ?_)
 refine wq rfl ?_
 refine AZ (p := j6 (BX (v3l6 + (1 : Int)))) rfl rfl ?_
 refine wq rfl ?_
 exact ⟨(BX (v3l6 + (1 : Int))), (cq rfl), h⟩
 cases AO h
 exact D9 (st1 := ⟨AX [(0, .sl 2 (List.map AV a0))], AX []⟩) (cq rfl) ⟨rfl, rfl⟩
theorem SB (N : Nat) (a0 : List AU) (r : Bool) (h : KZ N a0 = some r) : Sat Tryz.prog 18 AC [.sl 2 (List.map AV a0)] (.bool r) AC := by
 refine EL mixed Tryz.func18 Jj (rs := [.bool r]) rfl rfl ?_
 refine AA (AB ?_)
 refine wq rfl ?_
 iterate 2 refine AA ?_
 refine AB ?_
 refine wq rfl ?_
 refine CJ ?_
 obtain ⟨y5, Ea, h⟩ := AP h
 refine PQ (R7 N a0 N _ _ Ea) (cq rfl) ?_
 clear Ea
 rcases y5 with y5 | y5
 rintro e s ⟨rfl, rfl⟩
 refine AA (AB ?_)
 refine wq rfl ?_
 refine AZ rfl (CO rfl) ?_
 iterate 2 refine wq rfl ?_
 cases AO h
 refine BR ?_
 exact ⟨nofun, rfl, rfl⟩
 rintro e s ⟨rfl, rfl⟩
 obtain rfl := AO h
 exact ⟨nofun, rfl, rfl⟩
def k8 : IC := (.seq (.reg [jn 1 (.box 28 (.t 0)), jc 2 (.bool false)]) (.seq (.reg [ja 3 12 1, jl 4 1 3, jn 5 (.call 17 [(.t 4)]), jm 6 5, jt 6 7 (.fda 10 (.t 1)), jt 6 8 (.load 1 false (.t 7)), jt 6 9 (.call 18 [(.t 8)]), jp 10 6 9, jm 2 10]) .ret))
theorem k8_cf : BV Tryz.prog Tryz.f8 = some ⟨11, k8, [(.tmp 2)]⟩ := by kernel_rfl
theorem UJ (N : Nat) (a0 : AR) (r : Bool) (h : IV N a0 = some r) : Sat Tryz.prog 8 AC [AJ a0] (.bool r) AC := by
 refine EL mixed Tryz.func8 k8_cf (rs := [.bool r]) rfl rfl ?_
 refine AA (AB ?_)
 refine CW rfl (F8 12801 rfl rfl rfl rfl rfl) ?_
 refine wq rfl ?_
 obtain ⟨g1, hg1, h⟩ := AP h
 refine GZ ⟨AX [(2, .bool g1)], AX []⟩ ?_ ?_
 have h := hg1
 refine AB ?_
 iterate 2 refine wq rfl ?_
 obtain ⟨x5, hx5, h⟩ := AP h
 refine CW rfl (CX (RF N _ _ hx5) rfl (.cons A9 .nil) rfl rfl rfl) ?_
 refine wq rfl ?_
 rcases CY h with ⟨c2, h⟩ | ⟨c2, h⟩
 iterate 2 refine AZ (gy rfl c2) rfl ?_
 obtain ⟨x9, Ch, h⟩ := AP h
 refine CW (gy rfl c2) (CX (SB N _ _ Ch) rfl (.cons A9 .nil) rfl rfl rfl) ?_
 refine AZ rfl (BG c2 rfl rfl) ?_
 refine wq rfl ?_
 obtain rfl := AO h
 exact cq rfl
 iterate 3 refine D7 (gn rfl c2) ?_
 refine AZ rfl (BD c2 rfl rfl) ?_
 refine wq rfl ?_
 obtain rfl := AO h
 exact cq rfl
 clear hg1
 obtain rfl := AO h
 refine BR ?_
 exact ⟨nofun, rfl, rfl⟩
theorem pcalG [BA] {P : Program} (N : Vd.Rows) {f : FuncId} {xs : List DD} {s : EY} {r : Vd.Rows} {ps qs : List PV} {res : PV} (hs : Sat P f AC qs res N) (h : evs s xs = some ps) (hq : ZU r ps qs) (hfr : ps.all PV.free = true)
    (ht : res.tk (fun t => (N t).isSome) = true) (hr : ∀ t row, N t = some row → row.tk (fun t => (N t).isSome) = true) (htk : PV.tks (fun t => (r t).isSome) ps = true) : PP P (.call f xs) s r res N :=
  .call ps res _ h (.inl fun p hp => List.all_eq_true.1 hfr p hp) (hs.subs hq.subs) ht (fun t row h => hr t row h) (fun p hp => PV.tks_mem htk p hp)
theorem uG {vs : List (List (List UInt8))} {m : List (Nat × Row)} {t : Nat} {row : Row} (h : SV vs m t = some row) : (∃ j v, t = 24100 + j ∧ vs[j]? = some v ∧ row = dL v) ∨ AX m t = some row := by
  cases hV : VR vs t with
  | some row' =>
    unfold SV at h
    rw [LB hV] at h
    cases h
    exact .inl (oL hV)
  | none =>
    unfold SV at h
    rw [FZ hV] at h
    exact .inr h
theorem OA (N : Nat) (a0 : AR) (r : Bool) (h : I8 N a0 = some r) : Sat Tryz.prog 5 AC [AJ a0] (.bool r) AC := by
  refine EL mixed Tryz.func5 k5_cf (rs := [.bool r]) rfl rfl ?_
  refine AA (AB ?_)
  refine CW rfl (F8 8001 rfl rfl rfl rfl rfl) ?_
  refine wq rfl ?_
  iterate 2 refine AA ?_
  refine AB ?_
  obtain ⟨x8, Ci, h⟩ := AP h
  refine CW rfl (CX (TI N _ Ci) rfl .nil rfl rfl rfl) ?_
  refine wq rfl ?_
  refine EP h rfl (fun c1 h => ?_) (fun c1 h => ?_)
  · refine AA (AB ?_)
    refine wq rfl ?_
    cases AO h
    refine BR ?_
    exact ⟨nofun, rfl, rfl⟩
  refine BH (AA (AA (AB ?_)))
  refine AZ (p := AJ a0) rfl rfl ?_
  obtain ⟨QJ, WH, h⟩ := AP h
  refine CW rfl (CX (UJ N _ _ WH) rfl (.cons A9 .nil) rfl rfl rfl) ?_
  refine wq rfl ?_
  refine EP h rfl (fun c2 h => ?_) (fun c2 h => ?_)
  · refine AA (AB ?_)
    refine wq rfl ?_
    cases AO h
    refine BR ?_
    exact ⟨nofun, rfl, rfl⟩
  rcases CY h with ⟨cg, h⟩ | ⟨cg, h⟩
  case inr => cases h
  unfold iW at cg
  simp only [Bool.and_eq_true, decide_eq_true_eq, List.all_eq_true] at cg
  obtain ⟨g1, g2, g3⟩ := cg
  obtain ⟨UA, hx16, h⟩ := AP h
  refine BH (AA (NG ?_))
  refine JF (p := AJ a0) rfl rfl ?_
  refine QK rfl (pcalG (SV (IX a0.Mods) (cm a0)) (XG a0 g1 g2 g3) rfl (.cons A9 .nil) rfl rfl ?_ rfl) ?_ ?_
  · intro t row ht
    rcases uG ht with ⟨j, v, rfl, h1, rfl⟩ | h1
    · unfold Row.tk dL; rfl
    · exact JY (Ee a0 _ (bV _ _ _ fun j _ h => NM _ _ _ (by omega))) row (NW h1)
  · intro t row ht
    have hne : t ≠ 8001 := by
      rcases uG ht with ⟨j, v, rfl, h1, rfl⟩ | h1
      · omega
      · intro e
        subst e
        cases h1
    exact EZ hne rfl
  refine JF (p := AJ a0) rfl rfl ?_
  refine QK rfl (LX (U3 N _ _ hx16) rfl (.cons A9 .nil) rfl rfl rfl) CQ ?_
  refine QK rfl (.box _ 8003 rfl (Nat.le_of_ble_eq_true rfl) (by decide) rfl) (N9 rfl) ?_
  refine QK rfl (.box _ 8004 rfl (Nat.le_of_ble_eq_true rfl) (by decide) rfl) (N9 rfl) ?_
  refine ED (e' := Eg a0 a0.Mods.length) rfl rfl rfl rfl rfl rfl rfl rfl nofun rfl ?_
  refine ED (e' := AJ UA) rfl rfl rfl rfl rfl rfl rfl rfl nofun rfl ?_
  refine AA (AA (AB ?_))
  refine wq rfl ?_
  refine CJ ?_
  refine PQ (Kv a0 UA a0.Mods a0.RDN.length 0 0 a0.RDN rfl (by omega) rfl g1) (SH _ _ _ rfl rfl (fun j v hv => ?_) rfl (XO _ _ _ _)) ?_
  · exact EZ (by omega) (EZ (by omega) ((FZ (EZ (by omega) rfl)).trans ((FZ (EZ (by omega) rfl)).trans (LB (OZ hv)))))
  rintro e s ⟨rfl, r1, hr1, rfl⟩
  refine AA (AA (AB ?_))
  refine wq rfl ?_
  refine CJ ?_
  refine PQ (Kw a0 UA r1 g2 a0.Mods.length 0 0 a0.Mods rfl (by omega) rfl g3) (SH _ _ _ rfl rfl (fun j v hv => OZ hv) rfl (XO _ _ _ _)) ?_
  rintro e s ⟨rfl, ms', rfl⟩
  refine NH (st1 := ⟨AX [(1, .ptr 8001 0 0), (4, .ptr 8004 0 0)], AX [(8001, ⟨13, false, [AJ a0]⟩), (8004, ⟨13, false, [AJ UA]⟩)]⟩) (cq rfl) ?_
  refine AA (NG ?_)
  refine JF (p := AJ UA) rfl rfl ?_
  refine JF (p := AJ a0) rfl rfl ?_
  obtain ⟨x62, hx62, h⟩ := AP h
  refine QK rfl (LX (U1 N _ _ _ hx62) rfl (.cons A9 (.cons A9 .nil)) rfl rfl rfl) CQ ?_
  refine dq rfl ?_
  rcases CY h with ⟨c4, h⟩ | ⟨c4, h⟩
  · refine JF (p := AJ UA) (gy rfl c4) rfl ?_
    obtain ⟨jH, kV, h⟩ := AP h
    refine QK (gy rfl c4) (LX (LA N _ _ kV) rfl (.cons A9 .nil) rfl rfl rfl) CQ ?_
    refine JF (p := AJ a0) (gy rfl c4) rfl ?_
    obtain ⟨x67, Jv, h⟩ := AP h
    refine QK (gy rfl c4) (LX (LA N _ _ Jv) rfl (.cons A9 .nil) rfl rfl rfl) CQ ?_
    refine JF (gy rfl c4) rfl ?_
    refine JF rfl (BG c4 rfl rfl) ?_
    refine dq rfl ?_
    cases AO h
    refine BR ?_
    exact ⟨nofun, rfl, rfl⟩
  · iterate 5 refine WU (gn rfl c4) ?_
    refine JF rfl (BD c4 rfl rfl) ?_
    refine dq rfl ?_
    cases AO h
    refine BR ?_
    exact ⟨nofun, rfl, rfl⟩
end Go.Gp
end
section
set_option linter.unusedVariables false
set_option linter.unusedSimpArgs false
namespace Go.Gp
open Go.Vd
def vM (c : UInt8) : UInt8 := if 65 ≤ c.toNat ∧ c.toNat ≤ 90 then c + 32 else c
def low (s : List UInt8) : List UInt8 := s.map vM
def wO (c : UInt8) : Bool := decide (65 ≤ c.toNat) && decide (c.toNat ≤ 90)
theorem Ab (c : UInt8) : (bif decide (((c).toNat : Int) ≥ (65 : Int)) then some (decide (((c).toNat : Int) ≤ (90 : Int))) else some false) = some (wO c) := by
 have := TD (p := fun c => (bif decide (((c).toNat : Int) ≥ (65 : Int)) then some (decide (((c).toNat : Int) ≤ (90 : Int))) else some false) == some (wO c)) (by decide +kernel) c
 simpa using this
theorem Gh (c : UInt8) : vM c = bif wO c then c + 32 else c := by
 have := TD (p := fun c => vM c == bif wO c then c + 32 else c) (by decide +kernel) c
 simpa using this
theorem mW (N : Nat) : ∀ (b a d : List UInt8) (n : Nat), (a ++ b).length ≤ 9223372036854775807 → b.length < n → d.length = a.length →
  J2 N (a ++ b) n ((a.length : Int), d ++ b) = some (d ++ low b) := by
 intro b
 induction b with
 | nil =>
  intro a d n hs hn hd
  obtain ⟨n, rfl, _⟩ := fuel hn
  simp only [J2, NZ]
  rw [FL, cond_false]; rfl
 | cons c b ih =>
  intro a d n hs hn hd
  obtain ⟨n, rfl, hn'⟩ := fuel hn
  simp only [J2, NZ, PI]
  rw [FX, cond_true]
  have hnx : ∀ x, J2 N (a ++ c :: b) n (BX ((a.length : Int) + 1), d ++ x :: b) = some (d ++ x :: low b) := by
   intro x
   rw [FT hs, F9 a b c, F9 d b x, ih (a ++ [c]) (d ++ [x]) n (by simpa using hs) hn' (by simp [hd])]
   simp
  rw [← hd, VE, oS, KQ, oS, Ab]
  simp only [oS, KQ, set_mid]
  rw [hd, hnx, hnx]
  show _ = some (d ++ vM c :: low b)
  rw [Gh]
  cases wO c <;> rfl
theorem lower_eq {N : Nat} {s : List UInt8} (hs : s.length ≤ 9223372036854775807) (hN : s.length < N) : SK N s = some (low s) := by
 unfold SK
 have := mW N s [] [] N hs hN rfl
 simp only [List.nil_append, List.length_nil] at this
 rw [show ((0 : Int)) = ((0 : Nat) : Int) from rfl, this]
 rfl
def tyA (c : UInt8) : Bool := decide (97 ≤ c.toNat) && decide (c.toNat ≤ 122)
def Fy (c : UInt8) : Bool := tyA c || (decide (48 ≤ c.toNat) && decide (c.toNat ≤ 57)) || decide (c.toNat = 45)
def ZY (s : List UInt8) : Bool := match s with
 | [] => false
 | c :: t => decide (t.length < 16) && (tyA c && (c :: t).all Fy)
theorem Ae (c : UInt8) (x y : Option (Unit ⊕ Bool)) : (Option.bind (bif decide (((c).toNat : Int) ≥ (97 : Int)) then some (decide (((c).toNat : Int) ≤ (122 : Int))) else some false) fun (g7 : Bool) =>
   bif g7 then x else Option.bind (bif decide (((c).toNat : Int) ≥ (48 : Int)) then some (decide (((c).toNat : Int) ≤ (57 : Int))) else some false) fun (g11 : Bool) =>
    bif g11 then (bif g11 then x else y) else (bif (((c).toNat : Int) == (45 : Int)) then x else y)) = bif Fy c then x else y := by
 have := TD (p := fun c => (Option.bind (bif decide (((c).toNat : Int) ≥ (97 : Int)) then some (decide (((c).toNat : Int) ≤ (122 : Int))) else some false) fun (g7 : Bool) =>
   bif g7 then some true else Option.bind (bif decide (((c).toNat : Int) ≥ (48 : Int)) then some (decide (((c).toNat : Int) ≤ (57 : Int))) else some false) fun (g11 : Bool) =>
    bif g11 then (bif g11 then some true else some false) else (bif (((c).toNat : Int) == (45 : Int)) then some true else some false)) == some (Fy c)) (by decide +kernel) c
 revert this
 cases decide (((c).toNat : Int) ≥ (97 : Int)) <;> cases decide (((c).toNat : Int) ≤ (122 : Int)) <;> cases decide (((c).toNat : Int) ≥ (48 : Int)) <;> cases decide (((c).toNat : Int) ≤ (57 : Int)) <;> cases (((c).toNat : Int) == (45 : Int)) <;> cases Fy c <;> simp
theorem Ad (c : UInt8) : (bif decide (((c).toNat : Int) < (97 : Int)) then some true else some (decide (((c).toNat : Int) > (122 : Int)))) = some (!tyA c) := by
 have := TD (p := fun c => (bif decide (((c).toNat : Int) < (97 : Int)) then some true else some (decide (((c).toNat : Int) > (122 : Int)))) == some (!tyA c)) (by decide +kernel) c
 simpa using this
theorem rE (N : Nat) : ∀ (b a : List UInt8) (n : Nat), (a ++ b).length ≤ 9223372036854775807 → b.length < n →
  IM N (a ++ b) n (a.length : Int) = some (bif b.all Fy then .inl () else .inr false) := by
 intro b
 induction b with
 | nil =>
  intro a n hs hn
  obtain ⟨n, rfl, _⟩ := fuel hn
  simp only [IM, LG]
  rw [FL, cond_false]; rfl
 | cons c b ih =>
  intro a n hs hn
  obtain ⟨n, rfl, hn'⟩ := fuel hn
  simp only [IM, LG, O1, O0]
  rw [FX, cond_true, VE, oS, KQ, oS, FT hs]
  have := ih (a ++ [c]) n (by simpa using hs) hn'
  rw [← F9] at this
  rw [this, Ae, List.all_cons]
  cases Fy c <;> rfl
theorem sG {N : Nat} {s : List UInt8} (hs : s.length ≤ 9223372036854775807) (hN : s.length < N) : VC N s = some (ZY s) := by
 unfold VC ZY
 cases s with
 | nil => rfl
 | cons c s =>
  have h0 : (c :: s == ([] : List UInt8)) = false := rfl
  have hi := GV [] s c
  have hl := rE N (c :: s) [] N hs hN
  simp only [List.nil_append, List.length_nil] at hi hl
  rw [h0, cond_false, show ((0 : Int)) = ((0 : Nat) : Int) from rfl, hi]
  simp only [oS, Ad, hl]
  by_cases hl : s.length < 16
  ·rw [decide_eq_false (show ¬ (((c :: s).length : Int) > 16) by rw [List.length_cons]; omega), cond_false, oS, decide_eq_true hl, Bool.true_and]
   cases tyA c <;> cases (c :: s).all Fy <;> rfl
  ·rw [decide_eq_true (show (((c :: s).length : Int) > 16) by rw [List.length_cons]; omega), decide_eq_false hl]
   rfl
def okA (N : Nat) (a : AU) : Prop := a.Attr.length < N ∧ a.Value.length < N
def avaS (a : AU) : Bool := ZY a.Attr && (decide (1 ≤ a.Value.length) && decide (a.Value.length ≤ 60))
def XI : List AU → List AU → Bool
 | _, [] => true
 | d, a :: r => avaS a && (!d.any (fun x => x.Attr == a.Attr) && XI (d ++ [a]) r)
def UM (r : List AU) : Bool := decide (1 ≤ r.length) && (decide (r.length ≤ 4) && XI [] r)
theorem dZ (N : Nat) (c : AU) : ∀ (b a : List AU) (n : Nat), (a ++ b).length ≤ 9223372036854775807 → b.length < n →
  ∃ i : Nat, BM N (a ++ b) c n (a.length : Int) = some (bif b.any (fun x => x.Attr == c.Attr) then .inr (i : Int) else .inl ()) := by
 intro b
 induction b with
 | nil =>
  intro a n hs hn
  obtain ⟨n, rfl, _⟩ := fuel hn
  simp only [BM, CE]
  rw [FL, cond_false]; exact ⟨0, rfl⟩
 | cons x b ih =>
  intro a n hs hn
  obtain ⟨n, rfl, hn'⟩ := fuel hn
  obtain ⟨i, hi⟩ := ih (a ++ [x]) n (by simpa using hs) hn'
  rw [← F9] at hi
  simp only [BM, CE, WL]
  rw [FX, cond_true, GV, oS, oS, FT hs, hi, List.any_cons]
  cases x.Attr == c.Attr
  ·exact ⟨i, rfl⟩
  ·exact ⟨a.length, rfl⟩
theorem lD {N : Nat} {l : List AU} {c : AU} (hs : l.length < N) (hN : N ≤ 9223372036854775808) : CL N l c = some (l.any (fun x => x.Attr == c.Attr)) := by
 unfold CL EE
 obtain ⟨i, hi⟩ := dZ N c l [] N (by simp; omega) hs
 simp only [List.nil_append, List.length_nil] at hi
 rw [show ((0 : Int)) = ((0 : Nat) : Int) from rfl, hi]
 cases l.any (fun x => x.Attr == c.Attr)
 ·rfl
 ·simp [Option.bind]
theorem nG (N : Nat) (hN : N ≤ 9223372036854775808) (h5 : 5 < N) : ∀ (b a : List AU) (n : Nat), (a ++ b).length < N → b.length < n → (∀ x ∈ b, okA N x) →
  KG N (a ++ b) n (a.length : Int) = some (bif decide ((a ++ b).length ≤ 4) && XI a b || decide (b = []) then .inl () else .inr false) := by
 intro b
 induction b with
 | nil =>
  intro a n hs hn _
  obtain ⟨n, rfl, _⟩ := fuel hn
  simp only [KG, O3]
  rw [FL, cond_false]; simp
 | cons x b ih =>
  intro a n hs hn hok
  obtain ⟨n, rfl, hn'⟩ := fuel hn
  have hi := ih (a ++ [x]) n (by simpa using hs) hn' (fun y hy => hok y (List.mem_cons_of_mem _ hy))
  rw [← F9] at hi
  have hx := hok x List.mem_cons_self
  simp only [KG, O3]
  rw [FX, cond_true, GV, oS, FT (a := a) (b := b) (x := x) (by omega), hi, sG (by have := hx.1; omega) hx.1, V5 (by simp)]
  rw [List.take_left' rfl]
  have hal : (a ++ x :: b).length = a.length + b.length + 1 := by simp; omega
  simp only [oS]
  rw [lD (by omega) hN, oS]
  by_cases h4 : a.length < 4
  ·rw [decide_eq_false (show ¬ ((a.length : Int) ≥ 4) by omega), cond_false]
   have hv0 : (x.Value == ([] : List UInt8)) = !decide (1 ≤ x.Value.length) := by cases x.Value <;> simp
   have hv1 : decide ((x.Value.length : Int) > 60) = !decide (x.Value.length ≤ 60) := by rw [Bool.eq_iff_iff]; simp; omega
   rw [hv0, hv1]
   have hnil : decide (x :: b = []) = false := by simp
   rw [hnil, Bool.or_false, XI, avaS]
   have hb : decide ((a ++ x :: b).length ≤ 4) = true ∨ (decide ((a ++ x :: b).length ≤ 4) = false ∧ decide (b = []) = false) := by
    by_cases hh : (a ++ x :: b).length ≤ 4
    ·exact .inl (decide_eq_true hh)
    ·refine .inr ⟨decide_eq_false hh, decide_eq_false fun e => hh ?_⟩
     subst e; rw [hal]; simp; omega
   have hgo : b = [] → XI (a ++ [x]) b = true := by intro e; subst e; rfl
   have hgo' : (decide ((a ++ x :: b).length ≤ 4) && XI (a ++ [x]) b || decide (b = [])) = (decide ((a ++ x :: b).length ≤ 4) && XI (a ++ [x]) b) := by
    rcases hb with hb | ⟨hb, hb'⟩
    ·by_cases e : b = []
     ·rw [hb, hgo e]; simp
     ·rw [decide_eq_false e, Bool.or_false]
    ·rw [hb, hb']; rfl
   rw [hgo']
   cases ZY x.Attr <;> cases decide (1 ≤ x.Value.length) <;> cases decide (x.Value.length ≤ 60) <;> cases a.any (fun y => y.Attr == x.Attr) <;> cases decide ((a ++ x :: b).length ≤ 4) <;> cases XI (a ++ [x]) b <;> rfl
  ·rw [decide_eq_true (show ((a.length : Int) ≥ 4) by omega), decide_eq_false (show ¬ ((a ++ x :: b).length ≤ 4) by omega)]
   simp
theorem kP {N : Nat} {r : List AU} (hN : N ≤ 9223372036854775808) (h5 : 5 < N) (hr : r.length < N) (hok : ∀ x ∈ r, okA N x) : UT N r = some (UM r) := by
 unfold UT
 have h := nG N hN h5 r [] N (by simpa using hr) hr hok
 simp only [List.nil_append, List.length_nil] at h
 rw [show ((0 : Int)) = ((0 : Nat) : Int) from rfl, h]
 unfold UM
 cases r with
 | nil => rfl
 | cons x r =>
  rw [decide_eq_true (show 1 ≤ (x :: r).length by simp)]
  have : decide (x :: r = []) = false := by simp
  rw [this, Bool.or_false, Bool.true_and]
  have : decide (((x :: r).length : Int) > ((0 : Nat) : Int)) = true := by simp
  cases decide ((x :: r).length ≤ 4) && XI [] (x :: r)
  ·rfl
  ·simp [Option.bind]
def RJ (p : List UInt8) : List (List UInt8) → List (List UInt8)
 | [] => [p]
 | x :: xs => (p ++ x) :: xs
def KH (sep : UInt8) : List UInt8 → List (List UInt8)
 | [] => [[]]
 | [c] => if c = 92 then [[c]] else if c = sep then [[], []] else [[c]]
 | c :: d :: s => if c = 92 then RJ [c, d] (KH sep s) else if c = sep then [] :: KH sep (d :: s) else RJ [c] (KH sep (d :: s))
theorem jX (p q : List UInt8) (l : List (List UInt8)) : RJ p (RJ q l) = RJ (p ++ q) l := by cases l <;> simp [RJ]
theorem pE (p : List UInt8) (l : List (List UInt8)) : RJ p l ≠ [] := by cases l <;> simp [RJ]
theorem jY {l : List (List UInt8)} (h : l ≠ []) : RJ [] l = l := by cases l <;> simp_all [RJ]
theorem XR (sep : UInt8) : ∀ s, KH sep s ≠ []
 | [] => by simp [KH]
 | [c] => by unfold KH; split; simp; split <;> simp
 | c :: d :: s => by
  unfold KH
  split
  ·exact pE _ _
  ·split
   ·simp
   ·exact pE _ _
theorem yF {sep : UInt8} (h : sep ≠ 92) (s : List UInt8) : KH sep (sep :: s) = [] :: KH sep s := by
 cases s with
 | nil => simp [KH, h]
 | cons d s => rw [KH, if_neg h, if_pos rfl]
theorem nV {sep c : UInt8} (h : c ≠ 92) (h' : c ≠ sep) (s : List UInt8) : KH sep (c :: s) = RJ [c] (KH sep s) := by
 cases s with
 | nil => simp [KH, h, h', RJ]
 | cons d s => rw [KH, if_neg h, if_neg h']
theorem Fw (c d : UInt8) : (((c.toNat : Nat) : Int) == ((d.toNat : Nat) : Int)) = decide (c = d) := by
 rw [u8_eq, Bool.eq_iff_iff]; simp
theorem is92 (c : UInt8) : (((c).toNat : Int) == (92 : Int)) = decide (c = 92) := by
 have := TD (p := fun c => (((c).toNat : Int) == (92 : Int)) == decide (c = 92)) (by decide +kernel) c
 simpa using this
theorem yD (N : Nat) (sep : UInt8) : ∀ (k : Nat) (b a : List UInt8) (f : Nat) (out : List (List UInt8)) (n : Nat), b.length ≤ k → (a ++ b).length ≤ 1000000 → b.length < n → f ≤ a.length → out.length ≤ a.length →
  ∃ (f' : Nat) (out' : List (List UInt8)), JA N (a ++ b) sep n ((f : Int), (a.length : Int), out) = some ((f' : Int), out') ∧ f' ≤ (a ++ b).length ∧ out'.length ≤ (a ++ b).length ∧ out' ++ [(a ++ b).drop f'] = out ++ RJ (a.drop f) (KH sep b) := by
 intro k
 induction k with
 | zero =>
  intro b a f out n hk hs hn hf ho
  obtain rfl : b = [] := List.length_eq_zero_iff.1 (by omega)
  obtain ⟨n, rfl, _⟩ := fuel hn
  simp only [JA, KR]
  rw [FL, cond_false]
  exact ⟨f, out, rfl, by simpa using hf, by simpa using ho, by simp [KH, RJ]⟩
 | succ k ih =>
  intro b a f out n hk hs hn hf ho
  cases b with
  | nil =>
   obtain ⟨n, rfl, _⟩ := fuel hn
   simp only [JA, KR]
   rw [FL, cond_false]
   exact ⟨f, out, rfl, by simpa using hf, by simpa using ho, by simp [KH, RJ]⟩
  | cons c b =>
   obtain ⟨n, rfl, hn'⟩ := fuel hn
   have hal : (a ++ c :: b).length = a.length + b.length + 1 := by simp; omega
   simp only [JA, KR, Q7]
   rw [FX, cond_true, GV, oS, is92, Fw, FT (a := a) (b := b) (x := c) (by omega)]
   by_cases hc : c = 92
   ·rw [decide_eq_true hc, cond_true, JG (by simp; omega)]
    cases b with
    | nil =>
     obtain ⟨n, rfl, _⟩ := fuel (k := 0) (n := n) (by simp at hn; omega)
     simp only [JA, KR]
     rw [WO, decide_eq_false (by simp), cond_false]
     refine ⟨f, out, rfl, by simp; omega, by simp; omega, ?_⟩
     rw [KH, if_pos hc, List.drop_append_of_le_length hf]
     rfl
    | cons d s =>
     obtain ⟨f', out', h1, h2, h3, h4⟩ := ih s (a ++ [c, d]) f out n (by simp at hk; omega) (by simpa using hs) (by simp at hn; omega) (by simp; omega) (by simp; omega)
     have e : a ++ c :: d :: s = a ++ [c, d] ++ s := by simp
     have el : ((((a ++ [c]).length + 1 : Nat)) : Int) = ((a ++ [c, d]).length : Int) := by simp; omega
     rw [e, el]
     refine ⟨f', out', h1, h2, h3, ?_⟩
     ·rw [h4, KH, if_pos hc, jX, List.drop_append_of_le_length hf]
   ·rw [decide_eq_false hc, cond_false]
    have e : a ++ c :: b = a ++ [c] ++ b := by simp
    by_cases hp : c = sep
    ·rw [decide_eq_true hp, cond_true, l9 hf (by omega), oS, TV (by simp; omega), oS, List.take_left' rfl]
     obtain ⟨f', out', h1, h2, h3, h4⟩ := ih b (a ++ [c]) (a ++ [c]).length (out ++ [a.drop f]) n (by simp at hk; omega) (by simpa using hs) (by simp at hn; omega) (by omega) (by simp; omega)
     rw [e]
     refine ⟨f', out', h1, h2, h3, ?_⟩
     ·rw [h4, List.drop_length, jY (XR _ _)]
      subst hp
      rw [yF hc]
      simp [RJ]
    ·rw [decide_eq_false hp, cond_false]
     obtain ⟨f', out', h1, h2, h3, h4⟩ := ih b (a ++ [c]) f out n (by simp at hk; omega) (by simpa using hs) (by simp at hn; omega) (by simp; omega) (by simp; omega)
     rw [e]
     refine ⟨f', out', h1, h2, h3, ?_⟩
     rw [h4, nV hc hp, jX, List.drop_append_of_le_length hf]
theorem yE {N : Nat} {s : List UInt8} {sep : UInt8} (hs : s.length ≤ 1000000) (hN : s.length < N) : bW N s sep = some (KH sep s) := by
 unfold bW
 obtain ⟨f', out', h1, h2, h3, h4⟩ := yD N sep s.length s [] 0 [] N (Nat.le_refl _) hs hN (Nat.le_refl _) (Nat.le_refl _)
 simp only [List.nil_append, List.length_nil, List.drop_nil] at h1 h2 h3 h4
 rw [show ((0 : Int)) = ((0 : Nat) : Int) from rfl, h1, oS]
 simp only
 rw [VB h2, oS, TV (by simp; omega), oS, h4, jY (XR _ _)]
def dX : List UInt8 → Option (List UInt8 × List UInt8)
 | [] => none
 | c :: s => if c = 61 then some ([], s) else (dX s).map fun x => (c :: x.1, x.2)
theorem YO {s a v : List UInt8} (h : dX s = some (a, v)) : s = a ++ 61 :: v ∧ ∀ c ∈ a, c ≠ 61 := by
 induction s generalizing a v with
 | nil => cases h
 | cons c s ih =>
  unfold dX at h
  split at h
  ·rename_i hc; subst hc; cases h; exact ⟨rfl, by simp⟩
  ·rename_i hc
   rw [Option.map_eq_some_iff] at h
   obtain ⟨⟨a', v'⟩, h1, h2⟩ := h
   cases h2
   obtain ⟨e, h3⟩ := ih h1
   exact ⟨by rw [e]; rfl, by intro d hd; rcases List.mem_cons.1 hd with rfl | hd; exact hc; exact h3 d hd⟩
theorem VQ : ∀ s : List UInt8, Lib.indexByte s 61 = match dX s with | some x => (x.1.length : Int) | none => -1
 | [] => rfl
 | c :: s => by
  rw [Lib.indexByte, dX, VQ s]
  by_cases h : c = 61
  ·subst h; rfl
  ·have : (c == 61) = false := by simpa using h
   rw [if_neg h]
   simp only [this]
   cases dX s with
   | none => simp
   | some x => simp
theorem Aj {N : Nat} {s : List UInt8} (hs : s.length ≤ 1000000) : strings_Cut N s [61] = some (match dX s with | some x => (x.1, x.2, true) | none => (s, [], false)) := by
 unfold strings_Cut IL stringslite_Index
 simp only [oS]
 rw [VQ]
 cases h : dX s with
 | none => rfl
 | some x =>
  obtain ⟨a, v⟩ := x
  obtain ⟨e, _⟩ := YO h
  simp only
  have hl : s.length = a.length + v.length + 1 := by rw [e]; simp; omega
  rw [decide_eq_true (by omega), cond_true, V5 (by omega), oS, show (([61] : List UInt8).length : Int) = 1 from rfl, JG (by omega), VB (by omega), oS, oS]
  rw [e, List.take_left' rfl, F9, List.drop_left' (by simp)]
def hexT : List UInt8 := [48, 49, 50, 51, 52, 53, 54, 55, 56, 57, 97, 98, 99, 100, 101, 102]
def UN (c : UInt8) : Int := Lib.indexByte hexT (vM c)
def Ai (c : UInt8) : Bool := decide (Lib.indexByte ([44, 43, 34, 92, 60, 62, 59] : List UInt8) c ≥ 0)
def kF (c : UInt8) : Bool := decide (Lib.indexByte ([44, 43, 34, 92, 60, 62, 59, 35, 61, 32] : List UInt8) c ≥ 0)
def hx2 (d e : UInt8) : UInt8 := uM (byte (mx (UN d) 0)) 4 ||| byte (mx (UN e) 0)
theorem bX {N : Nat} {s : List UInt8} {i : Nat} {c : UInt8} (h : s[i]? = some c) (hs : s.length ≤ 1000000) (h2 : 2 < N) : Q6 N s (i : Int) = some (byte (mx (UN c) 0), decide (UN c ≥ 0)) := by
 have hi := (List.getElem?_eq_some_iff.1 h).1
 unfold Q6
 rw [decide_eq_false (by omega), cond_false, JG (by omega), l9 (by omega) (by omega), oS, rG h]
 have : (s.take i ++ [c]).drop i = [c] := by
  rw [List.drop_left' (by simp; omega)]
 rw [this, lower_eq (by simp) (by simp; omega), oS, show ((0 : Int)) = ((0 : Nat) : Int) from rfl, XN]
 rfl
theorem WN {N : Nat} {s : List UInt8} {i : Nat} (h : s.length ≤ i) : Q6 N s (i : Int) = some (0, false) := by
 unfold Q6
 rw [decide_eq_true (by omega)]; rfl
theorem is32 (c : UInt8) : (((c).toNat : Int) == (32 : Int)) = decide (c = 32) := by
 have := TD (p := fun c => (((c).toNat : Int) == (32 : Int)) == decide (c = 32)) (by decide +kernel) c
 simpa using this
def dG : List UInt8 → Bool → Option (List UInt8 × Bool)
 | [], bl => some ([], bl)
 | c :: s, _ =>
  if c = 92 then
   match s with
   | [] => none
   | d :: s => if kF d then (dG s false).map fun x => (d :: x.1, x.2) else
    match s with
    | [] => none
    | e :: s => if 0 ≤ UN d ∧ 0 ≤ UN e then (dG s false).map fun x => (hx2 d e :: x.1, x.2) else none
  else if Ai c then none else (dG s (decide (c = 32))).map fun x => (c :: x.1, x.2)
def ZW : Bool → List UInt8 → Option (List UInt8)
 | _, [] => some []
 | f, c :: s =>
  if c = 92 then
   match s with
   | [] => none
   | d :: s => if kF d then (ZW false s).map (d :: ·) else
    match s with
    | [] => none
    | e :: s => if 0 ≤ UN d ∧ 0 ≤ UN e then (ZW false s).map (hx2 d e :: ·) else none
  else if Ai c || (f && (decide (c = 35) || decide (c = 32))) || (decide (s = []) && decide (c = 32)) then none else (ZW false s).map (c :: ·)
theorem X5 (c : UInt8) (s : List UInt8) (bl : Bool) : dG (c :: s) bl = if c = 92 then
   match s with
   | [] => none
   | d :: s => if kF d then (dG s false).map fun x => (d :: x.1, x.2) else
    match s with
    | [] => none
    | e :: s => if 0 ≤ UN d ∧ 0 ≤ UN e then (dG s false).map fun x => (hx2 d e :: x.1, x.2) else none
  else if Ai c then none else (dG s (decide (c = 32))).map fun x => (c :: x.1, x.2) := by
 rw [dG.eq_def]
theorem XJ (f : Bool) (c : UInt8) (s : List UInt8) : ZW f (c :: s) = if c = 92 then
   match s with
   | [] => none
   | d :: s => if kF d then (ZW false s).map (d :: ·) else
    match s with
    | [] => none
    | e :: s => if 0 ≤ UN d ∧ 0 ≤ UN e then (ZW false s).map (hx2 d e :: ·) else none
  else if Ai c || (f && (decide (c = 35) || decide (c = 32))) || (decide (s = []) && decide (c = 32)) then none else (ZW false s).map (c :: ·) := by
 rw [ZW.eq_def]
theorem Ac (N : Nat) (hN : 2 < N) : ∀ (k : Nat) (b a out : List UInt8) (bl : Bool) (n : Nat), b.length ≤ k → (a ++ b).length ≤ 1000000 → b.length < n → out.length ≤ a.length →
  FO N (a ++ b) n (bl, (a.length : Int), out) = some (match dG b bl with | some x => .inl (x.2, out ++ x.1) | none => .inr ([], false)) := by
 intro k
 induction k with
 | zero =>
  intro b a out bl n hk hs hn ho
  obtain rfl : b = [] := List.length_eq_zero_iff.1 (by omega)
  obtain ⟨n, rfl, _⟩ := fuel hn
  simp only [FO, IG]
  rw [FL, cond_false]
  simp [dG]
 | succ k ih =>
  intro b a out bl n hk hs hn ho
  cases b with
  | nil =>
   obtain ⟨n, rfl, _⟩ := fuel hn
   simp only [FO, IG]
   rw [FL, cond_false]
   simp [dG]
  | cons c b =>
   obtain ⟨n, rfl, hn'⟩ := fuel hn
   have hal : (a ++ c :: b).length = a.length + b.length + 1 := by simp; omega
   have e1 : a ++ c :: b = a ++ [c] ++ b := by simp
   have ha : a.length < 1000000 := by omega
   simp only [FO, IG, JI]
   rw [FX, cond_true, GV, oS, is92, is32, JG (i := a.length) (by omega), X5]
   by_cases hc : c = 92
   ·rw [decide_eq_true hc, cond_true, if_pos hc]
    have h32 : decide (c = 32) = false := by subst hc; decide
    rw [h32]
    cases b with
    | nil =>
     rw [WO, decide_eq_false (by simp), cond_false, oS, cond_false, WN (by simp), oS, JG (by omega), WN (by simp), oS]
     rfl
    | cons d s =>
     have hd : (a ++ c :: d :: s)[a.length + 1]? = some d := by
      have := KQ (a ++ [c]) s d
      simp only [List.append_assoc, List.length_append, List.length_cons, List.length_nil] at this
      exact this
     rw [WO, decide_eq_true (by simp), cond_true, iQ hd, oS]
     unfold strings_IndexByte
     simp only [oS]
     rw [show decide (Lib.indexByte ([44, 43, 34, 92, 60, 62, 59, 35, 61, 32] : List UInt8) d ≥ 0) = kF d from rfl]
     by_cases hm : kF d = true
     ·rw [hm, cond_true, if_pos rfl, TV (by simp; omega), oS, JG (by omega)]
      have := ih s (a ++ [c, d]) (out ++ [d]) false n (by simp at hk; omega) (by simpa using hs) (by simp at hn; omega) (by simp; omega)
      have e : a ++ c :: d :: s = a ++ [c, d] ++ s := by simp
      have el : ((((a.length + 1 + 1 : Nat)) : Int)) = ((a ++ [c, d]).length : Int) := by simp; omega
      rw [e, el, this]
      cases dG s false <;> simp
     ·have hm' : kF d = false := by simpa using hm
      rw [hm', cond_false, bX hd (by omega) hN, oS, JG (by omega), if_neg (by simp)]
      cases s with
      | nil =>
       rw [WN (by simp), oS]
       simp only
       cases decide (UN d ≥ 0) <;> rfl
      | cons e s =>
       have he : (a ++ c :: d :: e :: s)[a.length + 1 + 1]? = some e := by
        have := KQ (a ++ [c, d]) s e
        simp only [List.append_assoc, List.length_append, List.length_cons, List.length_nil] at this
        exact this
       rw [bX he (by omega) hN, oS]
       simp only
       by_cases h1 : 0 ≤ UN d
       ·by_cases h2 : 0 ≤ UN e
        ·rw [decide_eq_true h1, decide_eq_true h2, if_pos ⟨h1, h2⟩]
         simp only [Bool.not_true, cond_false, oS]
         rw [TV (by simp; omega), oS, JG (by omega)]
         have := ih s (a ++ [c, d, e]) (out ++ [hx2 d e]) false n (by simp at hk; omega) (by simpa using hs) (by simp at hn; omega) (by simp; omega)
         have e' : a ++ c :: d :: e :: s = a ++ [c, d, e] ++ s := by simp
         have el : ((((a.length + 1 + 1 + 1 : Nat)) : Int)) = ((a ++ [c, d, e]).length : Int) := by simp; omega
         rw [e', el]
         refine Eq.trans this ?_
         cases dG s false <;> simp
        ·rw [decide_eq_true h1, decide_eq_false h2, if_neg (by simp [h2])]
         rfl
       ·rw [decide_eq_false h1, if_neg (by simp [h1])]
        rfl
   ·rw [decide_eq_false hc, cond_false, if_neg hc]
    unfold strings_IndexByte
    simp only [oS]
    rw [show decide (Lib.indexByte ([44, 43, 34, 92, 60, 62, 59] : List UInt8) c ≥ 0) = Ai c from rfl]
    by_cases hsp : Ai c = true
    ·rw [hsp, cond_true, if_pos rfl]
    ·have hsp' : Ai c = false := by simpa using hsp
     rw [hsp', cond_false, if_neg (by simp), TV (by simp; omega), oS]
     have := ih b (a ++ [c]) (out ++ [c]) (decide (c = 32)) n (by simp at hk; omega) (by simpa using hs) (by simp at hn; omega) (by simp; omega)
     have el : ((((a.length + 1 : Nat)) : Int)) = ((a ++ [c]).length : Int) := by simp
     rw [e1, el, this]
     cases dG b (decide (c = 32)) <;> simp
theorem un_pl : ∀ (k : Nat) (s : List UInt8), s.length ≤ k → (∀ v, ZW false s = some v ↔ dG s false = some (v, false)) ∧ (s ≠ [] → dG s true = dG s false) := by
 intro k
 induction k with
 | zero =>
  intro s hk
  obtain rfl : s = [] := List.length_eq_zero_iff.1 (by omega)
  exact ⟨by intro v; simp [ZW, dG], fun h => absurd rfl h⟩
 | succ k ih =>
  intro s hk
  cases s with
  | nil => exact ⟨by intro v; simp [ZW, dG], fun h => absurd rfl h⟩
  | cons c s =>
   refine ⟨?_, fun _ => by rw [X5, X5]⟩
   intro v
   have lift : ∀ (c : UInt8) (s : List UInt8), s.length ≤ k → ∀ v, ((ZW false s).map (c :: ·) = some v ↔ ((dG s false).map fun x => (c :: x.1, x.2)) = some (v, false)) := by
    intro c s hs v
    rw [Option.map_eq_some_iff, Option.map_eq_some_iff]
    constructor
    ·rintro ⟨w, h1, rfl⟩
     exact ⟨(w, false), ((ih s hs).1 w).1 h1, rfl⟩
    ·rintro ⟨⟨w, b⟩, h1, h2⟩
     simp only [Prod.mk.injEq] at h2
     obtain ⟨rfl, rfl⟩ := h2
     exact ⟨w, ((ih s hs).1 w).2 h1, rfl⟩
   rw [XJ, X5]
   by_cases hc : c = 92
   ·rw [if_pos hc, if_pos hc]
    cases s with
    | nil => simp
    | cons d s =>
     simp only
     by_cases hm : kF d = true
     ·rw [if_pos hm, if_pos hm]
      exact lift d s (by simp at hk; omega) v
     ·rw [if_neg hm, if_neg hm]
      cases s with
      | nil => simp
      | cons e s =>
       simp only
       by_cases hh : 0 ≤ UN d ∧ 0 ≤ UN e
       ·rw [if_pos hh, if_pos hh]
        exact lift _ s (by simp at hk; omega) v
       ·rw [if_neg hh, if_neg hh]; simp
   ·rw [if_neg hc, if_neg hc]
    simp only [Bool.false_and, Bool.or_false]
    by_cases hsp : Ai c = true
    ·rw [hsp]; simp
    ·have hsp' : Ai c = false := by simpa using hsp
     rw [hsp']
     simp only [Bool.false_or]
     rw [if_neg (show ¬ (false = true) by simp)]
     by_cases h32 : c = 32
     ·rw [decide_eq_true h32, Bool.and_true]
      by_cases hs : s = []
      ·subst hs
       simp [dG]
      ·rw [decide_eq_false hs, if_neg (by simp), (ih s (by simp at hk; omega)).2 hs]
       exact lift c s (by simp at hk; omega) v
     ·rw [decide_eq_false h32, Bool.and_false, if_neg (by simp)]
      exact lift c s (by simp at hk; omega) v
theorem uY (s : List UInt8) : ZW true s = if s.head? = some 35 ∨ s.head? = some 32 then none else ZW false s := by
 cases s with
 | nil => simp [ZW]
 | cons c s =>
  rw [XJ, XJ]
  by_cases hc : c = 92
  ·subst hc
   rw [if_pos rfl, if_pos rfl, if_neg (by simp)]
  ·rw [if_neg hc, if_neg hc]
   by_cases h1 : c = 35
   ·subst h1; simp
   ·by_cases h2 : c = 32
    ·subst h2; simp
    ·simp [h1, h2]
theorem WI (N : Nat) (s : List UInt8) (c : UInt8) : strings_HasPrefix N s [c] = some (decide (s.head? = some c)) := by
 unfold strings_HasPrefix EJ
 cases s with
 | nil => rfl
 | cons d s =>
  rw [decide_eq_true (by simp; omega), cond_true, show ((([c] : List UInt8).length : Nat) : Int) = ((1 : Nat) : Int) from rfl, V5 (by simp)]
  simp
  rw [Bool.eq_iff_iff]; simp
theorem Z0 {N : Nat} {s : List UInt8} (hs : s.length ≤ 1000000) (hN : s.length < N) (h2 : 2 < N) : ∃ w, QW N s = some (match ZW true s with | some v => (v, true) | none => (w, false)) := by
 unfold QW
 rw [WI, WI, uY]
 by_cases h35 : s.head? = some 35
 ·rw [decide_eq_true h35, if_pos (.inl h35)]
  exact ⟨[], rfl⟩
 ·rw [decide_eq_false h35]
  by_cases h32 : s.head? = some 32
  ·rw [decide_eq_true h32, if_pos (.inr h32)]
   exact ⟨[], rfl⟩
  ·rw [decide_eq_false h32, if_neg (by rintro (h | h); exact h35 h; exact h32 h)]
   simp only [oS, cond_false]
   have := Ac N h2 s.length s [] [] false N (Nat.le_refl _) hs hN (Nat.le_refl _)
   simp only [List.nil_append, List.length_nil] at this
   rw [show ((0 : Int)) = ((0 : Nat) : Int) from rfl, this]
   have hup := (un_pl s.length s (Nat.le_refl _)).1
   cases hu : dG s false with
   | none =>
    cases hp : ZW false s with
    | none => exact ⟨[], rfl⟩
    | some v => rw [(hup v).1 hp] at hu; cases hu
   | some x =>
    obtain ⟨v, b⟩ := x
    cases b with
    | false =>
     rw [(hup v).2 hu]
     exact ⟨[], rfl⟩
    | true =>
     cases hp : ZW false s with
     | none => exact ⟨v, rfl⟩
     | some v' => rw [(hup v').1 hp] at hu; cases hu
def YU (p : List UInt8) : Option AU := (dX p).bind fun x => (ZW true x.2).map fun v => ⟨low x.1, v⟩
def jW (s : List UInt8) : Option (List AU) := ((KH 43 s).mapM YU).bind fun r => if UM r then some r else none
theorem jZ (p : List UInt8) (l : List (List UInt8)) (k : Nat) (h : ∀ x ∈ l, x.length ≤ k) : ∀ x ∈ RJ p l, x.length ≤ p.length + k := by
 intro x hx
 cases l with
 | nil => simp [RJ] at hx; subst hx; omega
 | cons y l =>
  simp only [RJ, List.mem_cons] at hx
  rcases hx with rfl | hx
  ·have := h y List.mem_cons_self; simp; omega
  ·have := h x (List.mem_cons_of_mem _ hx); omega
theorem Z7 (p : List UInt8) {l : List (List UInt8)} (h : l ≠ []) : (RJ p l).length = l.length := by cases l <;> simp_all [RJ]
theorem l8 (sep : UInt8) : ∀ (k : Nat) (s : List UInt8), s.length ≤ k → (KH sep s).length ≤ s.length + 1 ∧ ∀ x ∈ KH sep s, x.length ≤ s.length := by
 intro k
 induction k with
 | zero =>
  intro s hs
  obtain rfl : s = [] := List.length_eq_zero_iff.1 (by omega)
  simp [KH]
 | succ k ih =>
  intro s hs
  cases s with
  | nil => simp [KH]
  | cons c s =>
   cases s with
   | nil =>
    unfold KH
    split
    ·simp
    ·split <;> simp
   | cons d s =>
    unfold KH
    split
    ·obtain ⟨h1, h2⟩ := ih s (by simp at hs; omega)
     refine ⟨by rw [Z7 _ (XR _ _)]; simp; omega, fun x hx => ?_⟩
     have := jZ _ _ _ h2 x hx
     simp at this ⊢; omega
    ·obtain ⟨h1, h2⟩ := ih (d :: s) (by simp at hs ⊢; omega)
     split
     ·refine ⟨by simp at h1 ⊢; omega, fun x hx => ?_⟩
      rcases List.mem_cons.1 hx with rfl | hx
      ·simp
      ·have := h2 x hx; simp at this ⊢; omega
     ·refine ⟨by rw [Z7 _ (XR _ _)]; simp at h1 ⊢; omega, fun x hx => ?_⟩
      have := jZ _ _ _ h2 x hx
      simp at this ⊢; omega
theorem Aq : ∀ (k : Nat) (f : Bool) (s v : List UInt8), s.length ≤ k → ZW f s = some v → v.length ≤ s.length := by
 intro k
 induction k with
 | zero =>
  intro f s v hs h
  obtain rfl : s = [] := List.length_eq_zero_iff.1 (by omega)
  simp [ZW] at h; subst h; simp
 | succ k ih =>
  intro f s v hs h
  cases s with
  | nil => simp [ZW] at h; subst h; simp
  | cons c s =>
   rw [XJ] at h
   have lift : ∀ (c : UInt8) (t w : List UInt8), t.length ≤ k → (ZW false t).map (c :: ·) = some w → w.length ≤ t.length + 1 := by
    intro c t w ht hw
    rw [Option.map_eq_some_iff] at hw
    obtain ⟨u, h1, rfl⟩ := hw
    have := ih false t u ht h1
    simp; omega
   split at h
   ·cases s with
    | nil => cases h
    | cons d s =>
     simp only at h
     split at h
     ·have := lift _ _ _ (by simp at hs; omega) h; simp; omega
     ·cases s with
      | nil => cases h
      | cons e s =>
       simp only at h
       split at h
       ·have := lift _ _ _ (by simp at hs; omega) h; simp; omega
       ·cases h
   ·split at h
    ·cases h
    ·have := lift _ _ _ (by simp at hs; omega) h; simp; omega
theorem Bg (s : List UInt8) : (low s).length = s.length := by simp [low]
theorem yT {p : List UInt8} {a : AU} (h : YU p = some a) : a.Attr.length ≤ p.length ∧ a.Value.length ≤ p.length := by
 unfold YU at h
 rw [Option.bind_eq_some_iff] at h
 obtain ⟨⟨x, v⟩, h1, h2⟩ := h
 rw [Option.map_eq_some_iff] at h2
 obtain ⟨w, h2, rfl⟩ := h2
 obtain ⟨e, _⟩ := YO h1
 have := Aq v.length true v w (Nat.le_refl _) h2
 rw [e]
 simp [Bg]
 omega
theorem mapM_len {α β : Type} {f : α → Option β} : ∀ {l : List α} {r : List β}, l.mapM f = some r → r.length = l.length ∧ ∀ b ∈ r, ∃ a ∈ l, f a = some b
 | [], r, h => by simp at h; subst h; simp
 | a :: l, r, h => by
  rw [List.mapM_cons] at h
  simp only [Option.bind_eq_bind, Option.bind_eq_some_iff] at h
  obtain ⟨b, h1, s, h2, h3⟩ := h
  cases h3
  obtain ⟨e1, e2⟩ := mapM_len h2
  refine ⟨by simp [e1], fun c hc => ?_⟩
  rcases List.mem_cons.1 hc with rfl | hc
  ·exact ⟨a, List.mem_cons_self, h1⟩
  ·obtain ⟨a', h4, h5⟩ := e2 c hc
   exact ⟨a', List.mem_cons_of_mem _ h4, h5⟩
theorem uV (N : Nat) (hN : 1000000 < N) : ∀ (b a : List (List UInt8)) (out : List AU) (n : Nat), (a ++ b).length ≤ 1000001 → b.length < n → out.length = a.length → (∀ p ∈ b, p.length ≤ 1000000) →
  HY N (a ++ b) n ((a.length : Int), out) = some (match b.mapM YU with
   | some r => if 5 < (out ++ r).length ∧ b ≠ [] then .inr ([], 15) else .inl (out ++ r)
   | none => .inr ([], 15)) := by
 intro b
 induction b with
 | nil =>
  intro a out n hs hn ho _
  obtain ⟨n, rfl, _⟩ := fuel hn
  simp only [HY, KS]
  rw [FL, cond_false]; simp
 | cons p b ih =>
  intro a out n hs hn ho hp
  obtain ⟨n, rfl, hn'⟩ := fuel hn
  have hal : (a ++ p :: b).length = a.length + b.length + 1 := by simp; omega
  have hpl := hp p List.mem_cons_self
  simp only [HY, KS]
  rw [FX, cond_true, GV, oS, Aj hpl, oS, FT (a := a) (b := b) (x := p) (by omega), List.mapM_cons]
  simp only [Option.bind_eq_bind]
  cases hc : dX p with
  | none =>
   have hav : YU p = none := by unfold YU; rw [hc]; rfl
   rw [hav]
   obtain ⟨w, hw⟩ := Z0 (N := N) (s := []) (by simp) (by simp; omega) (by omega)
   rw [hw]
   rfl
  | some x =>
   obtain ⟨at', v⟩ := x
   obtain ⟨e, _⟩ := YO hc
   have hvl : v.length ≤ p.length ∧ at'.length ≤ p.length := by rw [e]; simp; omega
   obtain ⟨w, hw⟩ := Z0 (N := N) (s := v) (by omega) (by omega) (by omega)
   simp only
   rw [hw, oS]
   cases hpv : ZW true v with
   | none =>
    have hav : YU p = none := by unfold YU; rw [hc, oS]; simp only [hpv]; rfl
    rw [hav]; rfl
   | some val =>
    have hav : YU p = some ⟨low at', val⟩ := by unfold YU; rw [hc, oS]; simp only [hpv]; rfl
    rw [hav]
    simp only [Bool.not_true, cond_false, oS, Option.map_some]
    by_cases h5 : out.length > 4
    ·rw [decide_eq_true (by omega), cond_true]
     cases hm : b.mapM YU with
     | none => rfl
     | some r =>
      simp only [oS, Option.pure_def]
      rw [if_pos ⟨by simp; omega, by simp⟩]
    ·rw [decide_eq_false (by omega), cond_false, lower_eq (by omega) (by omega), oS, TV (by simp; omega), oS]
     have := ih (a ++ [p]) (out ++ [⟨low at', val⟩]) n (by simpa using hs) hn' (by simp [ho]) (fun q hq => hp q (List.mem_cons_of_mem _ hq))
     rw [← F9] at this
     rw [this]
     cases hm : b.mapM YU with
     | none => rfl
     | some r =>
      simp only [oS, Option.pure_def, List.append_assoc, List.cons_append, List.nil_append]
      by_cases hb : b = []
      ·subst hb
       simp at hm
       subst hm
       rw [if_neg (by simp), if_neg (by simp; omega)]
      ·by_cases h6 : 5 < (out ++ ⟨low at', val⟩ :: r).length
       ·rw [if_pos ⟨h6, hb⟩, if_pos ⟨h6, by simp⟩]
       ·rw [if_neg (fun h => h6 h.1), if_neg (fun h => h6 h.1)]
theorem kC {N : Nat} {s : List UInt8} (hs : s.length ≤ 1000000) (hN : 2000000 < N) (hN2 : N ≤ 9223372036854775808) : QX N s = some (match jW s with | some r => (r, 0) | none => ([], 15)) := by
 unfold QX jW
 rw [yE hs (by omega), oS]
 obtain ⟨h1, h2⟩ := l8 43 s.length s (Nat.le_refl _)
 have := uV N (by omega) (KH 43 s) [] [] N (by simpa using (by omega : (KH 43 s).length ≤ 1000001)) (by omega) rfl (fun p hp => by have := h2 p hp; omega)
 simp only [List.nil_append, List.length_nil] at this
 rw [show ((0 : Int)) = ((0 : Nat) : Int) from rfl, this]
 cases hm : (KH 43 s).mapM YU with
 | none => rfl
 | some r =>
  obtain ⟨hl, hb⟩ := mapM_len hm
  simp only [oS]
  by_cases h5 : 5 < r.length
  ·rw [if_pos ⟨h5, XR _ _⟩]
   have : UM r = false := by unfold UM; rw [decide_eq_false (show ¬ r.length ≤ 4 by omega)]; simp
   rw [this]; rfl
  ·rw [if_neg (fun h => h5 h.1)]
   simp only [Sum.elim_inl]
   rw [kP hN2 (by omega) (by omega) (fun x hx => by
    obtain ⟨p, hp, hpa⟩ := hb x hx
    have h3 := yT hpa
    have h4 := h2 p hp
    exact ⟨by omega, by omega⟩), oS]
   cases UM r <;> rfl
theorem mQ (N : Nat) (hN : 2000000 < N) (hN2 : N ≤ 9223372036854775808) : ∀ (b a : List (List UInt8)) (out : List (List AU)) (n : Nat), (a ++ b).length ≤ 1000001 → b.length < n → out.length = a.length → (∀ p ∈ b, p.length ≤ 1000000) → out.length ≤ 8 →
  JB N (a ++ b) n ((a.length : Int), out) = some (match b.mapM jW with
   | some r => if 8 < (out ++ r).length then .inr ([], 15) else .inl (out ++ r)
   | none => .inr ([], 15)) := by
 intro b
 induction b with
 | nil =>
  intro a out n hs hn ho _ h8
  obtain ⟨n, rfl, _⟩ := fuel hn
  simp only [JB, NA]
  rw [FL, cond_false]; simp; omega
 | cons p b ih =>
  intro a out n hs hn ho hp h8
  obtain ⟨n, rfl, hn'⟩ := fuel hn
  have hal : (a ++ p :: b).length = a.length + b.length + 1 := by simp; omega
  have hpl := hp p List.mem_cons_self
  simp only [JB, NA]
  rw [FX, cond_true, GV, oS, kC hpl hN hN2, oS, FT (a := a) (b := b) (x := p) (by omega), List.mapM_cons]
  simp only [Option.bind_eq_bind]
  cases hr : jW p with
  | none => rfl
  | some r =>
   simp only [oS]
   by_cases he : out.length = 8
   ·rw [show ((out.length : Int) == 8) = true by rw [he]; rfl]
    cases hm : b.mapM jW with
    | none => rfl
    | some rs =>
     simp only [oS, Option.pure_def]
     rw [if_pos (by simp; omega)]
     rfl
   ·rw [show ((out.length : Int) == 8) = false by rw [Bool.eq_false_iff]; simp; omega]
    have := ih (a ++ [p]) (out ++ [r]) n (by simpa using hs) hn' (by simp [ho]) (fun q hq => hp q (List.mem_cons_of_mem _ hq)) (by simp; omega)
    rw [← F9] at this
    simp only [bne, BEq.rfl, Bool.not_true, cond_false, oS]
    rw [TV (by simp; omega), oS, this]
    cases hm : b.mapM jW with
    | none => rfl
    | some rs => simp
def pM (s : List UInt8) : Option (List (List AU)) := if s = [] then some [] else ((KH 44 s).mapM jW).bind fun r => if r.length ≤ 8 then some r else none
theorem vD {N : Nat} {s : List UInt8} (hs : s.length ≤ 1000000) (hN : 2000000 < N) (hN2 : N ≤ 9223372036854775808) : XQ N s = some (match pM s with | some r => (r, 0) | none => ([], 15)) := by
 unfold XQ pM
 by_cases h0 : s = []
 ·subst h0; rfl
 ·have : (s == ([] : List UInt8)) = false := by simpa using h0
  rw [this, cond_false, if_neg h0, yE hs (by omega), oS]
  obtain ⟨h1, h2⟩ := l8 44 s.length s (Nat.le_refl _)
  have := mQ N hN hN2 (KH 44 s) [] [] N (by simpa using (by omega : (KH 44 s).length ≤ 1000001)) (by omega) rfl (fun p hp => by have := h2 p hp; omega) (Nat.zero_le _)
  simp only [List.nil_append, List.length_nil] at this
  rw [show ((0 : Int)) = ((0 : Nat) : Int) from rfl, this]
  cases hm : (KH 44 s).mapM jW with
  | none => rfl
  | some r =>
   simp only [oS]
   by_cases h8 : r.length ≤ 8
   ·rw [if_pos h8, if_neg (by omega)]; rfl
   ·rw [if_neg h8, if_pos (by omega)]; rfl

def Dv (c : UInt8) : Bool := decide (32 ≤ c.toNat) && decide (c.toNat ≤ 126)
def dgB (c : UInt8) : Bool := decide (48 ≤ c.toNat) && decide (c.toNat ≤ 57)
def nbB (c : UInt8) : Bool := decide (c ≠ 32)
theorem pr_c (c : UInt8) : (bif decide (((c).toNat : Int) < (32 : Int)) then some true else some (decide (((c).toNat : Int) > (126 : Int)))) = some (!Dv c) := by
 have := TD (p := fun c => (bif decide (((c).toNat : Int) < (32 : Int)) then some true else some (decide (((c).toNat : Int) > (126 : Int)))) == some (!Dv c)) (by decide +kernel) c
 simpa using this
theorem dg_c (c : UInt8) : (bif decide (((c).toNat : Int) < (48 : Int)) then some true else some (decide (((c).toNat : Int) > (57 : Int)))) = some (!dgB c) := by
 have := TD (p := fun c => (bif decide (((c).toNat : Int) < (48 : Int)) then some true else some (decide (((c).toNat : Int) > (57 : Int)))) == some (!dgB c)) (by decide +kernel) c
 simpa using this
theorem is48 (c : UInt8) : (((c).toNat : Int) == (48 : Int)) = decide (c = 48) := by
 have := TD (p := fun c => (((c).toNat : Int) == (48 : Int)) == decide (c = 48)) (by decide +kernel) c
 simpa using this
theorem jQ (N : Nat) : ∀ (b a : List UInt8) (n : Nat), (a ++ b).length ≤ 9223372036854775807 → b.length < n →
  GJ N (a ++ b) n (a.length : Int) = some (bif b.all Dv then .inl () else .inr false) := by
 intro b
 induction b with
 | nil =>
  intro a n hs hn
  obtain ⟨n, rfl, _⟩ := fuel hn
  simp only [GJ, JS]
  rw [FL, cond_false]; rfl
 | cons c b ih =>
  intro a n hs hn
  obtain ⟨n, rfl, hn'⟩ := fuel hn
  simp only [GJ, JS]
  rw [FX, cond_true, VE, oS, KQ, oS, pr_c, oS, FT hs]
  have := ih (a ++ [c]) n (by simpa using hs) hn'
  rw [← F9] at this
  rw [this, List.all_cons]
  cases Dv c <;> rfl
theorem rH {N : Nat} {s : List UInt8} (hs : s.length ≤ 9223372036854775807) (hN : s.length < N) : P8 N s = some (s.all Dv) := by
 unfold P8
 have := jQ N s [] N hs hN
 simp only [List.nil_append, List.length_nil] at this
 rw [show ((0 : Int)) = ((0 : Nat) : Int) from rfl, this]
 cases s.all Dv <;> rfl
theorem mF (N : Nat) : ∀ (l : List UInt8) (n : Nat), l.length ≤ 9223372036854775807 → l.length < n → ER N 32 n l.reverse = some (l.dropWhile (fun c => decide (c = 32))).reverse := by
 intro l
 induction l with
 | nil =>
  intro n _ hn
  obtain ⟨n, rfl, _⟩ := fuel hn
  rfl
 | cons c l ih =>
  intro n hs hn
  obtain ⟨n, rfl, hn'⟩ := fuel hn
  have hlen : ((c :: l).reverse.length : Int) = (l.length : Int) + 1 := by simp
  simp only [ER, H6]
  rw [hlen, decide_eq_true (by omega), cond_true, tT (by simp at hs; omega) (by simp at hs; omega), show (l.length : Int) + 1 - 1 = (l.length : Int) by omega, XN, List.reverse_cons]
  have hg : (l.reverse ++ [c])[l.length]? = some c := by
   simp
  rw [hg, oS, oS, show (((32 : UInt8)).toNat : Int) = (32 : Int) from rfl, is32]
  by_cases hc : c = 32
  ·rw [decide_eq_true hc, cond_true, V5 (by simp), oS]
   have ht : (l.reverse ++ [c]).take l.length = l.reverse := List.take_left' (by simp)
   rw [ht, ih n (by simp at hs; omega) hn']
   simp [hc]
  ·rw [decide_eq_false hc, cond_false]
   simp [hc]
theorem mG (N : Nat) : ∀ (l : List UInt8) (n : Nat), l.length < n → EW N 32 n l = some (l.dropWhile (fun c => decide (c = 32))) := by
 intro l
 induction l with
 | nil =>
  intro n hn
  obtain ⟨n, rfl, _⟩ := fuel hn
  rfl
 | cons c l ih =>
  intro n hn
  obtain ⟨n, rfl, hn'⟩ := fuel hn
  simp only [EW, I7]
  rw [decide_eq_true (by simp), cond_true, show EM (c :: l) (0 : Int) = some c from rfl, oS, oS, show (((32 : UInt8)).toNat : Int) = (32 : Int) from rfl, is32]
  by_cases hc : c = 32
  ·rw [decide_eq_true hc, cond_true, show ((1 : Int)) = ((1 : Nat) : Int) from rfl, VB (by simp), oS]
   simp only [List.drop_succ_cons, List.drop_zero]
   rw [ih n hn']
   simp [hc]
  ·rw [decide_eq_false hc, cond_false]
   simp [hc]
theorem xX (p : UInt8 → Bool) : ∀ l : List UInt8, l.dropWhile p = [] ↔ ∀ x ∈ l, p x = true
 | [] => by simp
 | c :: l => by
  cases h : p c with
  | true => rw [List.dropWhile_cons, h]; simp [xX p l, h]
  | false => rw [List.dropWhile_cons, h]; simp [h]
theorem xY (p : UInt8 → Bool) : ∀ l : List UInt8, (∀ x ∈ l.dropWhile p, p x = true) ↔ ∀ x ∈ l, p x = true
 | [] => by simp
 | c :: l => by
  cases h : p c with
  | true => rw [List.dropWhile_cons, h]; simp only [if_true]; rw [xY p l]; simp [h]
  | false => rw [List.dropWhile_cons, h]; simp [h]
theorem Ag {N : Nat} {s : List UInt8} (hs : s.length ≤ 9223372036854775807) (hN : s.length < N) : ∃ t, P7 N s [32] = some t ∧ (t == ([] : List UInt8)) = !s.any nbB := by
 unfold P7
 by_cases h0 : s = []
 ·subst h0; exact ⟨[], rfl, rfl⟩
 ·rw [show (s == ([] : List UInt8)) = false by simpa using h0]
  refine ⟨(((s.reverse.dropWhile (fun c => decide (c = 32))).reverse).dropWhile (fun c => decide (c = 32))), ?_, ?_⟩
  ·simp only [cond_false, oS, show ([32] == ([] : List UInt8)) = false from rfl, show ((([32] : List UInt8).length : Int) == (1 : Int)) = true from rfl, cond_true, show EM [(32 : UInt8)] (0 : Int) = some 32 from rfl, show decide ((((32 : UInt8)).toNat : Int) < (128 : Int)) = true from by decide]
   unfold strings_trimRightByte strings_trimLeftByte
   have := mF N s.reverse N (by simpa using hs) (by simpa using hN)
   rw [List.reverse_reverse] at this
   rw [this, oS, oS, mG N _ N (by
    have := (List.dropWhile_sublist (fun c => decide (c = 32)) (l := s.reverse)).length_le
    simp at this ⊢; omega)]
   rfl
  ·rw [Bool.eq_iff_iff, beq_iff_eq, xX]
   have h1 : (∀ x ∈ (s.reverse.dropWhile (fun c => decide (c = 32))).reverse, decide (x = 32) = true) ↔ ∀ x ∈ s, decide (x = 32) = true := by
    have := xY (fun c => decide (c = 32)) s.reverse
    simp only [List.mem_reverse] at this ⊢
    exact this
   rw [h1]
   simp [nbB]
def nH (s d : List UInt8) : Bool := match d with
 | [] => false
 | c :: t => decide (t.length < 15) && (!(decide (c = 48) && !(s == ([48] : List UInt8))) && (c :: t).all dgB)
def jN : List UInt8 → List UInt8
 | 45 :: d => d
 | s => s
theorem uC {c : UInt8} {s : List UInt8} (h : c ≠ 45) : jN (c :: s) = c :: s := by
 unfold jN
 split
 ·rename_i e; injection e with e1 _; exact absurd e1 h
 ·rfl
theorem Ah (N : Nat) (s : List UInt8) (hs : s.length ≤ 9223372036854775807) : strings_TrimPrefix N s [45] = some (jN s) := by
 unfold strings_TrimPrefix FR
 have hp := WI N s 45
 unfold strings_HasPrefix at hp
 have hp' : EJ N s [45] = some (decide (s.head? = some 45)) := by
  rw [Option.bind_eq_some_iff] at hp
  obtain ⟨a, h1, h2⟩ := hp
  rw [h1]; exact h2
 rw [hp']
 simp only [oS]
 cases s with
 | nil => rfl
 | cons c s =>
  by_cases hc : c = 45
  ·subst hc
   rw [decide_eq_true (by simp), cond_true, show ((([45] : List UInt8).length : Int)) = ((1 : Nat) : Int) from rfl, VB (by simp)]
   rfl
  ·rw [decide_eq_false (by simpa using hc), cond_false, uC hc]
   rfl
def wQ (s : List UInt8) : Bool := nH s (jN s)
theorem wS (N : Nat) : ∀ (b a : List UInt8) (n : Nat), (a ++ b).length ≤ 9223372036854775807 → b.length < n →
  FC N (a ++ b) n (a.length : Int) = some (bif b.all dgB then .inl () else .inr false) := by
 intro b
 induction b with
 | nil =>
  intro a n hs hn
  obtain ⟨n, rfl, _⟩ := fuel hn
  simp only [FC, J5]
  rw [FL, cond_false]; rfl
 | cons c b ih =>
  intro a n hs hn
  obtain ⟨n, rfl, hn'⟩ := fuel hn
  simp only [FC, J5]
  rw [FX, cond_true, VE, oS, KQ, oS, dg_c, oS, FT hs]
  have := ih (a ++ [c]) n (by simpa using hs) hn'
  rw [← F9] at this
  rw [this, List.all_cons]
  cases dgB c <;> rfl
theorem wP {N : Nat} {s : List UInt8} (hs : s.length ≤ 9223372036854775807) (hN : s.length < N) : P9 N s = some (wQ s) := by
 have key : ∀ d : List UInt8, d.length ≤ s.length → (Option.bind (
   bif (d == ([] : List UInt8)) then
    some true
   else
    bif decide ((d.length : Int) > (15 : Int)) then
     some true
    else
     Option.bind (EM d (0 : Int)) fun (DY : UInt8) =>
     bif (((DY).toNat : Int) == (48 : Int)) then
      some (!(s == ([48] : List UInt8)))
     else
      some false
  ) fun (g1 : Bool) =>
 bif g1 then
  some false
 else
  Option.bind (FC N d N 0) fun (OP : Unit ⊕ Bool) =>
  Sum.elim (fun (OP : Unit) =>
    some true
   ) (fun (OP : Bool) =>
    some OP
   ) OP) = some (nH s d) := by
  intro d hd
  cases d with
  | nil => rfl
  | cons c t =>
   have hl := wS N (c :: t) [] N (by simp at hd ⊢; omega) (by simp at hd ⊢; omega)
   simp only [List.nil_append, List.length_nil] at hl
   rw [show (c :: t == ([] : List UInt8)) = false from rfl, cond_false, show EM (c :: t) (0 : Int) = some c from rfl, oS, is48, show ((0 : Int)) = ((0 : Nat) : Int) from rfl, hl]
   unfold nH
   simp only
   by_cases h15 : t.length < 15
   ·rw [decide_eq_false (by simp; omega), decide_eq_true h15]
    cases decide (c = 48) <;> cases (s == ([48] : List UInt8)) <;> cases (c :: t).all dgB <;> rfl
   ·rw [decide_eq_true (by simp; omega), decide_eq_false h15]
    rfl
 unfold P9
 rw [Ah N s hs, oS, key _ (by unfold jN; split <;> simp)]
 rfl
def allT : List BI := (TF 0).getD []
theorem Lg (N : Nat) : TF N = some allT := rfl
def noT : BI := ⟨[], 0, false⟩
def fP (name : List UInt8) : Option BI := allT.find? (fun t => t.Name == low name)
theorem sH (N : Nat) (x : List UInt8) : ∀ (b a : List BI) (n : Nat), (a ++ b).length ≤ 9223372036854775807 → b.length < n →
  H7 N x (a ++ b) n (a.length : Int) = some (match b.find? (fun t => t.Name == x) with | some t => .inr (t, true) | none => .inl ()) := by
 intro b
 induction b with
 | nil =>
  intro a n hs hn
  obtain ⟨n, rfl, _⟩ := fuel hn
  simp only [H7, KN]
  rw [FL, cond_false]; rfl
 | cons t b ih =>
  intro a n hs hn
  obtain ⟨n, rfl, hn'⟩ := fuel hn
  simp only [H7, KN]
  rw [FX, cond_true, GV, oS, FT hs]
  have := ih (a ++ [t]) n (by simpa using hs) hn'
  rw [← F9] at this
  rw [this, List.find?_cons]
  cases t.Name == x <;> rfl
theorem lV : allT.length = 15 := rfl
theorem qV {N : Nat} {s : List UInt8} (hs : s.length ≤ 9223372036854775807) (hN : s.length < N) (h15 : 15 < N) : O9 N s = some (match fP s with | some t => (t, true) | none => (noT, false)) := by
 unfold O9
 have := sH N (low s) allT [] N (by rw [List.nil_append, lV]; omega) (by rw [lV]; exact h15)
 simp only [List.nil_append, List.length_nil] at this
 rw [lower_eq hs hN, oS, Lg, oS, show ((0 : Int)) = ((0 : Nat) : Int) from rfl, this]
 unfold fP
 cases allT.find? (fun t => t.Name == low s) <;> rfl
def Bf (k : Int) (v : List UInt8) : Bool := if k = 1 then v.any nbB && v.all Dv else if k = 2 then v.all Dv else if k = 3 then wQ v else if k = 5 then (pM v).isSome else true
theorem Gf {N : Nat} {v : List UInt8} (k : Int) (hv : v.length ≤ 1000000) (hN : 2000000 < N) (hN2 : N ≤ 9223372036854775808) : TE N k v = some (Bf k v) := by
 unfold TE Bf MR
 obtain ⟨t, h1, h2⟩ := Ag (N := N) (s := v) (by omega) (by omega)
 rw [h1, rH (by omega) (by omega), wP (by omega) (by omega), vD hv hN hN2]
 simp only [oS, h2]
 by_cases k1 : k = 1
 ·subst k1
  cases v.any nbB <;> rfl
 ·rw [show (k == 1) = false by simpa using k1, if_neg k1, cond_false]
  by_cases k2 : k = 2
  ·subst k2; rfl
  ·rw [show (k == 2) = false by simpa using k2, if_neg k2, cond_false]
   by_cases k3 : k = 3
   ·subst k3; rfl
   ·rw [show (k == 3) = false by simpa using k3, if_neg k3, cond_false]
    by_cases k5 : k = 5
    ·subst k5
     cases pM v <;> rfl
    ·rw [show (k == 5) = false by simpa using k5, if_neg k5, cond_false]
def QB (name v : List UInt8) : Int := match fP name with
 | none => 16
 | some t => if v ≠ [] ∧ v.length ≤ 60 ∧ Bf t.Syntax v = true then 0 else 17
theorem lH {N : Nat} {name v : List UInt8} (hn : name.length ≤ 1000000) (hv : v.length ≤ 1000000) (hN : 2000000 < N) (hN2 : N ≤ 9223372036854775808) : MS N name v = some (QB name v) := by
 unfold MS QB
 rw [qV (by omega) (by omega) (by omega), oS]
 cases fP name with
 | none => rfl
 | some t =>
  simp only [Bool.not_true, cond_false]
  rw [Gf t.Syntax hv hN hN2]
  by_cases h0 : v = []
  ·subst h0; rfl
  ·rw [show (v == ([] : List UInt8)) = false by simpa using h0, cond_false]
   by_cases h60 : v.length ≤ 60
   ·rw [decide_eq_false (by omega), cond_false]
    cases hm : Bf t.Syntax v with
    | true => rw [if_pos ⟨h0, h60, rfl⟩]; rfl
    | false => rw [if_neg (fun h => by cases h.2.2)]; rfl
   ·rw [decide_eq_true (by omega), if_neg (fun h => h60 h.2.1)]; rfl
def okC (c : AQ) : Prop := 0 ≤ c.Time ∧ c.Time ≤ 1099511627776 ∧ 0 ≤ c.Seq ∧ c.Seq ≤ 65535 ∧ 0 ≤ c.Rep ∧ c.Rep < 6
instance (c : AQ) : Decidable (okC c) := by unfold okC; infer_instance
theorem andB (p q : Prop) [Decidable p] [Decidable q] : (bif decide p then some (decide q) else some false) = some (decide (p ∧ q)) := by
 by_cases h : p <;> simp [h]
theorem yH (N : Nat) (c : AQ) : WP N c = some (decide (okC c)) := by
 unfold WP
 simp only [andB, oS, ge_iff_le]
 congr 1
def lF (a b : Int) : Int := if a < b then -1 else if a > b then 1 else 0
theorem XT (N : Nat) (a b : Int) : JU N a b = some (lF a b) := by
 unfold JU LH lF
 simp only [bne_self_eq_false, oS, cond_false]
 by_cases h : a < b
 ·simp [h]
 ·by_cases h2 : a > b
  ·simp [h, h2]
  ·simp [h, h2]
theorem cZ (N : Nat) (a b : Int) : cmp_Compare_int N a b = some (lF a b) := XT N a b
theorem beqI (a b : Int) : (a == b) = decide (a = b) := by rw [Bool.eq_iff_iff]; simp
theorem Dh (a b : Int) : (a != b) = decide (¬ a = b) := by rw [Bool.eq_iff_iff]; simp
theorem or_eq (N : Nat) (x y z : Int) : TS (N + 4) [x, y, z] = some (if x ≠ 0 then x else if y ≠ 0 then y else z) := by
 have w0 : BX 1 = 1 := by rfl
 have w1 : BX 2 = 2 := by rfl
 have w2 : BX 3 = 3 := by rfl
 unfold TS
 simp only [LC, OT]
 by_cases hx : x = 0
 ·by_cases hy : y = 0
  ·by_cases hz : z = 0
   ·simp [Dh, EM, w0, w1, w2, hx, hy, hz]
   ·simp [Dh, EM, w0, w1, w2, hx, hy, hz]
  ·simp [Dh, EM, w0, w1, w2, hx, hy]
 ·simp [Dh, EM, w0, w1, w2, hx]
def cmpS (a b : AQ) : Int := if lF a.Time b.Time ≠ 0 then lF a.Time b.Time else if lF a.Seq b.Seq ≠ 0 then lF a.Seq b.Seq else lF a.Rep b.Rep
theorem sP (N : Nat) (hN : 4 ≤ N) (a b : AQ) : aA N a b = some (cmpS a b) := by
 unfold aA
 obtain ⟨n, rfl⟩ : ∃ n, N = n + 4 := ⟨N - 4, by omega⟩
 rw [XT, oS, cZ, oS, cZ, oS, or_eq]
 rfl
theorem Cz {a b : AQ} : a = b ↔ a.Time = b.Time ∧ a.Seq = b.Seq ∧ a.Rep = b.Rep := by
 cases a; cases b; simp
theorem eqB (a b : AQ) : (a.Time == b.Time && (a.Seq == b.Seq && (a.Rep == b.Rep && true))) = decide (a = b) := by
 rw [Bool.eq_iff_iff]
 simp [Cz]
def eid : List UInt8 := [101, 110, 116, 114, 121, 105, 100]
def pJ (a : AU) : Bool := !(a.Attr == eid) && decide (QB a.Attr a.Value = 0)
def qY (r : List AU) : Bool := UM r && (decide (r.length < 4) && r.all pJ)
def pG (last : Int) (m : AY) : Bool := match fP m.Attr with
 | none => false
 | some t => (t.Name == m.Attr) && (!(m.Attr == eid) && (decide (1 ≤ m.Kind) && (decide (m.Kind ≤ last) && (decide (m.Values.length ≤ 12) && (!(decide (m.Kind = 1) && decide (m.Values.length = 0)) && m.Values.all (fun v => decide (QB m.Attr v = 0)))))))
def iZ (last : Int) (l : List AY) : Bool := l.all (pG last) && decide (l.length ≤ 8)
def bnA (a : AU) : Prop := a.Attr.length ≤ 1000000 ∧ a.Value.length ≤ 1000000
def Le (m : AY) : Prop := m.Attr.length ≤ 1000000 ∧ m.Values.length ≤ 1000000 ∧ ∀ v ∈ m.Values, v.length ≤ 1000000
def bnC (c : AR) : Prop := (c.RDN.length ≤ 1000000 ∧ ∀ a ∈ c.RDN, bnA a) ∧ (c.Mods.length ≤ 1000000 ∧ ∀ m ∈ c.Mods, Le m)
theorem neI (a b : Int) : (a != b) = !decide (a = b) := by rw [Bool.eq_iff_iff]; simp
theorem wN (N : Nat) (hN : 2000000 < N) (hN2 : N ≤ 9223372036854775808) : ∀ (b a : List AU) (n : Nat), (a ++ b).length ≤ 9223372036854775807 → b.length < n → (∀ x ∈ b, bnA x) →
  ∃ i : Nat, BK N (a ++ b) n (a.length : Int) = some (bif b.all pJ then .inl () else .inr (i : Int)) := by
 intro b
 induction b with
 | nil =>
  intro a n hs hn _
  obtain ⟨n, rfl, _⟩ := fuel hn
  simp only [BK, BZ]
  rw [FL, cond_false]; exact ⟨0, rfl⟩
 | cons x b ih =>
  intro a n hs hn hok
  obtain ⟨n, rfl, hn'⟩ := fuel hn
  obtain ⟨i, hi⟩ := ih (a ++ [x]) n (by simpa using hs) hn' (fun y hy => hok y (List.mem_cons_of_mem _ hy))
  rw [← F9] at hi
  have hx := hok x List.mem_cons_self
  simp only [BK, BZ, QC]
  rw [FX, cond_true, GV, oS, lH hx.1 hx.2 hN hN2, FT (a := a) (b := b) (x := x) (by omega), hi, List.all_cons, oS, neI]
  show ∃ j : Nat, _ = some (bif (!(x.Attr == eid) && decide (QB x.Attr x.Value = 0)) && b.all pJ then _ else _)
  unfold eid
  cases (x.Attr == ([101, 110, 116, 114, 121, 105, 100] : List UInt8))
  ·cases decide (QB x.Attr x.Value = 0)
   ·exact ⟨a.length, rfl⟩
   ·exact ⟨i, rfl⟩
  ·exact ⟨a.length, rfl⟩
theorem yM {N : Nat} {r : List AU} (hN : 2000000 < N) (hN2 : N ≤ 9223372036854775808) (hl : r.length ≤ 1000000) (hr : ∀ x ∈ r, bnA x) : NB N r = some (qY r) := by
 unfold NB D5 DX qY
 rw [kP hN2 (by omega) (by omega) (fun x hx => ⟨by have := (hr x hx).1; omega, by have := (hr x hx).2; omega⟩), oS]
 obtain ⟨i, h⟩ := wN N hN hN2 r [] N (by simp; omega) (by omega) hr
 simp only [List.nil_append, List.length_nil] at h
 rw [show ((0 : Int)) = ((0 : Nat) : Int) from rfl, h, show decide ((r.length : Int) ≥ 4) = !decide (r.length < 4) by rw [Bool.eq_iff_iff]; simp; omega]
 cases UM r
 ·rfl
 ·cases decide (r.length < 4)
  ·rfl
  ·cases r.all pJ
   ·simp [Option.bind]
   ·rfl
theorem wM (N : Nat) (hN : 2000000 < N) (hN2 : N ≤ 9223372036854775808) (m : AY) (hm : m.Attr.length ≤ 1000000) : ∀ (b a : List (List UInt8)) (n : Nat), (a ++ b).length ≤ 9223372036854775807 → b.length < n → (∀ x ∈ b, x.length ≤ 1000000) →
  ∃ i : Nat, BL N (a ++ b) m n (a.length : Int) = some (bif b.all (fun v => decide (QB m.Attr v = 0)) then .inl () else .inr (i : Int)) := by
 intro b
 induction b with
 | nil =>
  intro a n hs hn _
  obtain ⟨n, rfl, _⟩ := fuel hn
  simp only [BL, C8]
  rw [FL, cond_false]; exact ⟨0, rfl⟩
 | cons x b ih =>
  intro a n hs hn hok
  obtain ⟨n, rfl, hn'⟩ := fuel hn
  obtain ⟨i, hi⟩ := ih (a ++ [x]) n (by simpa using hs) hn' (fun y hy => hok y (List.mem_cons_of_mem _ hy))
  rw [← F9] at hi
  have hx := hok x List.mem_cons_self
  simp only [BL, C8, OU]
  rw [FX, cond_true, GV, oS, lH hm hx hN hN2, FT (a := a) (b := b) (x := x) (by omega), hi, List.all_cons, oS, neI]
  cases decide (QB m.Attr x = 0)
  ·exact ⟨a.length, rfl⟩
  ·exact ⟨i, rfl⟩
theorem Jp {N : Nat} {m : AY} (hN : 2000000 < N) (hN2 : N ≤ 9223372036854775808) (hm : Le m) : CB N m.Values m = some (!m.Values.all (fun v => decide (QB m.Attr v = 0))) := by
 unfold CB E5
 obtain ⟨i, h⟩ := wM N hN hN2 m hm.1 m.Values [] N (by have := hm.2.1; simp; omega) (by have := hm.2.1; omega) hm.2.2
 simp only [List.nil_append, List.length_nil] at h
 rw [show ((0 : Int)) = ((0 : Nat) : Int) from rfl, h]
 cases m.Values.all (fun v => decide (QB m.Attr v = 0))
 ·simp [Option.bind]
 ·rfl
theorem kQ (N : Nat) (hN : 2000000 < N) (hN2 : N ≤ 9223372036854775808) (last : Int) : ∀ (b a : List AY) (n : Nat), (a ++ b).length ≤ 9223372036854775807 → b.length < n → (∀ x ∈ b, Le x) →
  G7 N (a ++ b) last n (a.length : Int) = some (bif b.all (pG last) then .inl () else .inr false) := by
 intro b
 induction b with
 | nil =>
  intro a n hs hn _
  obtain ⟨n, rfl, _⟩ := fuel hn
  simp only [G7, JC]
  rw [FL, cond_false]; rfl
 | cons x b ih =>
  intro a n hs hn hok
  obtain ⟨n, rfl, hn'⟩ := fuel hn
  have hi := ih (a ++ [x]) n (by simpa using hs) hn' (fun y hy => hok y (List.mem_cons_of_mem _ hy))
  rw [← F9] at hi
  have hx := hok x List.mem_cons_self
  simp only [G7, JC]
  rw [FX, cond_true, GV, oS, qV (by have := hx.1; omega) (by have := hx.1; omega) (by omega), oS, FT (a := a) (b := b) (x := x) (by omega), hi, List.all_cons]
  have hv := Jp hN hN2 hx
  rw [show (⟨x.Kind, x.Attr, x.Values⟩ : AY) = x from rfl, hv, oS]
  unfold pG eid
  rw [show decide (x.Kind < 1) = !decide (1 ≤ x.Kind) by rw [Bool.eq_iff_iff]; simp, show decide (x.Kind > last) = !decide (x.Kind ≤ last) by rw [Bool.eq_iff_iff]; simp, show decide ((x.Values.length : Int) > 12) = !decide (x.Values.length ≤ 12) by rw [Bool.eq_iff_iff]; simp; omega,
   show (x.Kind == (1 : Int)) = decide (x.Kind = 1) by rw [Bool.eq_iff_iff]; simp, show ((x.Values.length : Int) == (0 : Int)) = decide (x.Values.length = 0) by rw [Bool.eq_iff_iff]; simp]
  cases fP x.Attr with
  | none => rfl
  | some t =>
   simp only
   cases (t.Name == x.Attr) <;> cases (x.Attr == ([101, 110, 116, 114, 121, 105, 100] : List UInt8)) <;> cases decide (1 ≤ x.Kind) <;> cases decide (x.Kind ≤ last) <;> cases decide (x.Values.length ≤ 12) <;> cases decide (x.Kind = 1) <;> cases decide (x.Values.length = 0) <;> cases x.Values.all (fun v => decide (QB x.Attr v = 0)) <;> rfl
theorem gD {N : Nat} {l : List AY} (last : Int) (hN : 2000000 < N) (hN2 : N ≤ 9223372036854775808) (hl : l.length ≤ 1000000) (hm : ∀ m ∈ l, Le m) : LD N l last = some (iZ last l) := by
 unfold LD iZ
 have h := kQ N hN hN2 last l [] N (by simp; omega) (by omega) hm
 simp only [List.nil_append, List.length_nil] at h
 rw [show ((0 : Int)) = ((0 : Nat) : Int) from rfl, h, show decide ((l.length : Int) ≤ 8) = decide (l.length ≤ 8) by rw [Bool.eq_iff_iff]; simp; omega]
 cases l.all (pG last) <;> rfl


def noC : AQ := ⟨0, 0, 0⟩
def eB (c : AQ) : Bool := decide (c = noC)
def YS (x c : AQ) : Bool := decide (cmpS x c < 0)
def yS (c : AR) : Bool := eB c.Parent && (decide (c.RDN.length = 0) && !c.DelOld)
def Dz (c : AR) : Bool :=
 bif c.Kind == 1 then decide (c.ID = c.CSN) && (YS c.Parent c.CSN && (qY c.RDN && (iZ 1 c.Mods && !c.DelOld)))
 else bif c.Kind == 2 then !eB c.ID && (YS c.ID c.CSN && (yS c && decide (c.Mods.length = 0)))
 else bif c.Kind == 3 then YS c.ID c.CSN && (yS c && (decide (0 < c.Mods.length) && iZ 3 c.Mods))
 else bif c.Kind == 4 then !eB c.ID && (YS c.ID c.CSN && (YS c.Parent c.CSN && (qY c.RDN && decide (c.Mods.length = 0))))
 else false
def isCh (c : AR) : Bool := decide (okC c.CSN) && (!eB c.CSN && (decide (okC c.ID) && (decide (okC c.Parent) && Dz c)))
theorem zY (c : AQ) : (c.Time == (0 : Int) && (c.Seq == (0 : Int) && (c.Rep == (0 : Int) && true))) = eB c := eqB c noC
theorem nW (N : Nat) (c : AQ) : Q9 N c = some (eB c) := by unfold Q9; rw [zY]
theorem El (a b : Bool) : (bif a then some b else some false) = some (a && b) := by cases a <;> rfl
theorem borS (a b : Bool) : (bif a then some true else some b) = some (a || b) := by cases a <;> rfl
theorem len0 {α : Type} (l : List α) : ((l.length : Int) == (0 : Int)) = decide (l.length = 0) := by rw [Bool.eq_iff_iff]; simp
theorem lenP {α : Type} (l : List α) : decide ((l.length : Int) > (0 : Int)) = decide (0 < l.length) := by rw [Bool.eq_iff_iff]; simp
theorem Df {N : Nat} {c : AR} (hN : 2000000 < N) (hN2 : N ≤ 9223372036854775808) (h : bnC c) : ML N c = some (isCh c) := by
 unfold ML KI isCh
 have e1 : (⟨c.CSN.Time, c.CSN.Seq, c.CSN.Rep⟩ : AQ) = c.CSN := rfl
 have e2 : (⟨c.ID.Time, c.ID.Seq, c.ID.Rep⟩ : AQ) = c.ID := rfl
 have e3 : (⟨c.Parent.Time, c.Parent.Seq, c.Parent.Rep⟩ : AQ) = c.Parent := rfl
 simp only [e1, e2, e3, yH, nW, sP N (by omega), yM hN hN2 h.1.1 h.1.2, gD 1 hN hN2 h.2.1 h.2.2, gD 3 hN hN2 h.2.1 h.2.2, oS, El, borS, len0, lenP, eqB]
 have g : ∀ (a b x d : Bool) (y : Option Bool) (k : Bool), y = some k → (bif (!a || (b || (!x || !d))) then some false else y) = some (a && (!b && (x && (d && k)))) := by
  intro a b x d y k hy
  subst hy
  cases a <;> cases b <;> cases x <;> cases d <;> rfl
 refine g _ _ _ _ _ _ ?_
 unfold Dz yS YS
 cases c.Kind == 1
 ·cases c.Kind == 2
  ·cases c.Kind == 3
   ·cases c.Kind == 4
    ·rfl
    ·rfl
   ·rfl
  ·rfl
 ·rfl
theorem XM {α : Type} {a : List α} {a' b' : List α} {y : α} (h : a.length = a'.length) : EM (a' ++ y :: b') (a.length : Int) = some y := by rw [h]; exact GV a' b' y
theorem jE {α : Type} [DecidableEq α] (x y : α) (b b' : List α) : decide (x :: b = y :: b') = (decide (x = y) && decide (b = b')) := by
 rw [Bool.eq_iff_iff]; simp
theorem xS (N : Nat) : ∀ (b b' a a' : List (List UInt8)) (n : Nat), a.length = a'.length → b.length = b'.length → (a ++ b).length ≤ 9223372036854775807 → b.length < n →
  CP N (a ++ b) (a' ++ b') n (a.length : Int) = some (bif decide (b = b') then .inl () else .inr false) := by
 intro b
 induction b with
 | nil =>
  intro b' a a' n ha hb hs hn
  obtain ⟨n, rfl, _⟩ := fuel hn
  cases b' with
  | cons y b' => cases hb
  | nil =>
   simp only [CP, ET]
   rw [FL, cond_false]; rfl
 | cons x b ih =>
  intro b' a a' n ha hb hs hn
  obtain ⟨n, rfl, hn'⟩ := fuel hn
  cases b' with
  | nil => cases hb
  | cons y b' =>
   have hi := ih b' (a ++ [x]) (a' ++ [y]) n (by simp [ha]) (by simpa using hb) (by simpa using hs) hn'
   rw [← F9, ← F9] at hi
   simp only [CP, ET]
   rw [FX, cond_true, GV, oS, XM ha, oS, FT (a := a) (b := b) (x := x) hs, hi, jE, show (x == y) = decide (x = y) by rw [Bool.eq_iff_iff]; simp]
   cases decide (x = y) <;> rfl
theorem neL (a b : Nat) : ((a : Int) != (b : Int)) = !decide (a = b) := by rw [Bool.eq_iff_iff]; simp; omega
theorem Kn {N : Nat} {l m : List (List UInt8)} (hl : l.length ≤ 1000000) (hN : 2000000 < N) : FI N l m = some (decide (l = m)) := by
 unfold FI
 rw [neL]
 by_cases h : l.length = m.length
 ·have := xS N l m [] [] N rfl h (by simp; omega) (by omega)
  simp only [List.nil_append, List.length_nil] at this
  rw [decide_eq_true h, show ((0 : Int)) = ((0 : Nat) : Int) from rfl, this]
  cases decide (l = m) <;> rfl
 ·rw [decide_eq_false h, decide_eq_false (fun e => h (by rw [e]))]; rfl
theorem xU (N : Nat) : ∀ (b b' a a' : List AU) (n : Nat), a.length = a'.length → b.length = b'.length → (a ++ b).length ≤ 9223372036854775807 → b.length < n →
  CG N (a ++ b) (a' ++ b') n (a.length : Int) = some (bif decide (b = b') then .inl () else .inr false) ∧ EH N (a ++ b) (a' ++ b') n (a.length : Int) = some (bif decide (b = b') then .inl () else .inr false) := by
 intro b
 induction b with
 | nil =>
  intro b' a a' n ha hb hs hn
  obtain ⟨n, rfl, _⟩ := fuel hn
  cases b' with
  | cons y b' => cases hb
  | nil =>
   simp only [CG, EN, EH, FU]
   rw [FL, cond_false]; exact ⟨rfl, rfl⟩
 | cons x b ih =>
  intro b' a a' n ha hb hs hn
  obtain ⟨n, rfl, hn'⟩ := fuel hn
  cases b' with
  | nil => cases hb
  | cons y b' =>
   have hi := ih b' (a ++ [x]) (a' ++ [y]) n (by simp [ha]) (by simpa using hb) (by simpa using hs) hn'
   rw [← F9, ← F9] at hi
   have he : (x.Attr == y.Attr && (x.Value == y.Value && true)) = decide (x = y) := by
    rw [Bool.eq_iff_iff]; cases x; cases y; simp
   simp only [CG, EN, EH, FU]
   refine ⟨?_, ?_⟩
   ·rw [FX, cond_true, GV, oS, XM ha, oS, FT (a := a) (b := b) (x := x) hs, hi.1, jE, he]
    cases decide (x = y) <;> rfl
   ·rw [FX, cond_true, GV, oS, XM ha, oS, FT (a := a) (b := b) (x := x) hs, hi.2, jE, he]
    cases decide (x = y) <;> rfl
theorem Ko {N : Nat} {l m : List AU} (hl : l.length ≤ 1000000) (hN : 2000000 < N) : F7 N l m = some (decide (l = m)) ∧ IQ N l m = some (decide (l = m)) := by
 unfold F7 IQ
 rw [neL]
 by_cases h : l.length = m.length
 ·have := xU N l m [] [] N rfl h (by simp; omega) (by omega)
  simp only [List.nil_append, List.length_nil] at this
  rw [decide_eq_true h, show ((0 : Int)) = ((0 : Nat) : Int) from rfl, this.1, this.2]
  cases decide (l = m) <;> exact ⟨rfl, rfl⟩
 ·rw [decide_eq_false h, decide_eq_false (fun e => h (by rw [e]))]; exact ⟨rfl, rfl⟩
theorem Be (x y : AY) : decide (x = y) = (decide (x.Kind = y.Kind) && (decide (x.Attr = y.Attr) && decide (x.Values = y.Values))) := by
 rw [Bool.eq_iff_iff]; cases x; cases y; simp
theorem uQ {N : Nat} {x y : AY} (hx : Le x) (hN : 2000000 < N) : O6 N x y = some (decide (x = y)) := by
 unfold O6
 rw [Kn hx.2.1 hN, Be, show (x.Kind == y.Kind) = decide (x.Kind = y.Kind) by rw [Bool.eq_iff_iff]; simp, show (x.Attr == y.Attr) = decide (x.Attr = y.Attr) by rw [Bool.eq_iff_iff]; simp]
 cases decide (x.Kind = y.Kind) <;> cases decide (x.Attr = y.Attr) <;> rfl
theorem xV (N : Nat) (hN : 2000000 < N) : ∀ (b b' a a' : List AY) (n : Nat), a.length = a'.length → b.length = b'.length → (a ++ b).length ≤ 9223372036854775807 → b.length < n → (∀ m ∈ b, Le m) →
  BB N (a ++ b) (a' ++ b') n (a.length : Int) = some (bif decide (b = b') then .inl () else .inr false) := by
 intro b
 induction b with
 | nil =>
  intro b' a a' n ha hb hs hn _
  obtain ⟨n, rfl, _⟩ := fuel hn
  cases b' with
  | cons y b' => cases hb
  | nil =>
   simp only [BB, BN]
   rw [FL, cond_false]; rfl
 | cons x b ih =>
  intro b' a a' n ha hb hs hn hm
  obtain ⟨n, rfl, hn'⟩ := fuel hn
  cases b' with
  | nil => cases hb
  | cons y b' =>
   have hi := ih b' (a ++ [x]) (a' ++ [y]) n (by simp [ha]) (by simpa using hb) (by simpa using hs) hn' (fun m h => hm m (List.mem_cons_of_mem _ h))
   rw [← F9, ← F9] at hi
   simp only [BB, BN]
   rw [FX, cond_true, GV, oS, XM ha, oS, uQ (hm x List.mem_cons_self) hN, oS, FT (a := a) (b := b) (x := x) hs, hi, jE]
   cases decide (x = y) <;> rfl
theorem Kq {N : Nat} {l m : List AY} (hl : l.length ≤ 1000000) (hm : ∀ x ∈ l, Le x) (hN : 2000000 < N) : BO N l m = some (decide (l = m)) := by
 unfold BO
 rw [neL]
 by_cases h : l.length = m.length
 ·have := xV N hN l m [] [] N rfl h (by simp; omega) (by omega) hm
  simp only [List.nil_append, List.length_nil] at this
  rw [decide_eq_true h, show ((0 : Int)) = ((0 : Nat) : Int) from rfl, this]
  cases decide (l = m) <;> rfl
 ·rw [decide_eq_false h, decide_eq_false (fun e => h (by rw [e]))]; rfl
theorem Ky (x y : AR) : decide (x = y) = (decide (x.CSN = y.CSN) && (decide (x.Kind = y.Kind) && (decide (x.ID = y.ID) && (decide (x.Parent = y.Parent) && (decide (x.RDN = y.RDN) && (decide (x.DelOld = y.DelOld) && decide (x.Mods = y.Mods))))))) := by
 rw [Bool.eq_iff_iff]; cases x; cases y; simp
theorem boolB (a b : Bool) : (a == b) = decide (a = b) := by cases a <;> cases b <;> rfl
theorem sS {N : Nat} {x y : AR} (hx : bnC x) (hN : 2000000 < N) : OG N x y = some (decide (x = y)) := by
 unfold OG
 rw [Kq hx.2.1 hx.2.2 hN, (Ko hx.1.1 hN).1, Ky]
 simp only [eqB]
 simp only [oS, El, beqI, boolB]
def bR (m : AY) : Bool := decide (m.Attr.length ≤ 30) && (decide (m.Values.length ≤ 20) && m.Values.all (fun v => decide (v.length ≤ 80)))
def bS (a : AU) : Bool := decide (a.Attr.length ≤ 30) && decide (a.Value.length ≤ 80)
def fT (c : AR) : Bool := c.Mods.all bR && (decide (c.Mods.length ≤ 14) && (c.RDN.all bS && decide (c.RDN.length ≤ 6)))
theorem gtL (a k : Nat) : decide ((a : Int) > (k : Int)) = !decide (a ≤ k) := by rw [Bool.eq_iff_iff]; simp
theorem leL (a k : Nat) : decide ((a : Int) ≤ (k : Int)) = decide (a ≤ k) := by rw [Bool.eq_iff_iff]; simp
theorem sI (N : Nat) (l : List AY) (k : Nat) (m : AY) (hk : l[k]? = some m) : ∀ (b a : List (List UInt8)) (n : Nat), m.Values = a ++ b → (a ++ b).length ≤ 9223372036854775807 → b.length < n →
  E9 N l (k : Int) n (a.length : Int) = some (bif b.all (fun v => decide (v.length ≤ 80)) then .inl () else .inr false) := by
 intro b
 induction b with
 | nil =>
  intro a n he hs hn
  obtain ⟨n, rfl, _⟩ := fuel hn
  simp only [E9, FK]
  rw [iQ hk, oS, he, FL, cond_false]; rfl
 | cons x b ih =>
  intro a n he hs hn
  obtain ⟨n, rfl, hn'⟩ := fuel hn
  have hi := ih (a ++ [x]) n (by rw [he]; simp) (by simpa using hs) hn'
  simp only [E9, FK]
  rw [iQ hk, oS, he, FX, cond_true, oS, he, GV, oS, FT (a := a) (b := b) (x := x) hs, hi, List.all_cons, show (80 : Int) = ((80 : Nat) : Int) from rfl, gtL]
  cases decide (x.length ≤ 80) <;> rfl
theorem sJ (N : Nat) (hN2 : N ≤ 9223372036854775808) : ∀ (b a : List AY) (n : Nat), (a ++ b).length ≤ 9223372036854775807 → b.length < n → (∀ m ∈ b, m.Values.length < N) →
  EI N (a ++ b) n (a.length : Int) = some (bif b.all bR then .inl () else .inr false) := by
 intro b
 induction b with
 | nil =>
  intro a n hs hn _
  obtain ⟨n, rfl, _⟩ := fuel hn
  simp only [EI, FV]
  rw [FL, cond_false]; rfl
 | cons x b ih =>
  intro a n hs hn hm
  obtain ⟨n, rfl, hn'⟩ := fuel hn
  have hi := ih (a ++ [x]) n (by simpa using hs) hn' (fun y hy => hm y (List.mem_cons_of_mem _ hy))
  rw [← F9] at hi
  have hx := hm x List.mem_cons_self
  have hv := sI N (a ++ x :: b) a.length x (KQ a b x) x.Values [] N rfl (by simp; omega) hx
  simp only [List.length_nil] at hv
  simp only [EI, FV]
  rw [FX, cond_true, GV, oS, oS, show (30 : Int) = ((30 : Nat) : Int) from rfl, gtL, show (20 : Int) = ((20 : Nat) : Int) from rfl, gtL, FT (a := a) (b := b) (x := x) hs, hi, List.all_cons, show ((0 : Int)) = ((0 : Nat) : Int) from rfl, hv]
  unfold bR
  cases decide (x.Attr.length ≤ 30) <;> cases decide (x.Values.length ≤ 20) <;> cases x.Values.all (fun v => decide (v.length ≤ 80)) <;> rfl
theorem sK (N : Nat) : ∀ (b a : List AU) (n : Nat), (a ++ b).length ≤ 9223372036854775807 → b.length < n →
  EO N (a ++ b) n (a.length : Int) = some (bif b.all bS then .inl () else .inr false) := by
 intro b
 induction b with
 | nil =>
  intro a n hs hn
  obtain ⟨n, rfl, _⟩ := fuel hn
  simp only [EO, G8]
  rw [FL, cond_false]; rfl
 | cons x b ih =>
  intro a n hs hn
  obtain ⟨n, rfl, hn'⟩ := fuel hn
  have hi := ih (a ++ [x]) n (by simpa using hs) hn'
  rw [← F9] at hi
  simp only [EO, G8]
  rw [FX, cond_true, GV, oS, oS, show (30 : Int) = ((30 : Nat) : Int) from rfl, gtL, show (80 : Int) = ((80 : Nat) : Int) from rfl, gtL, FT (a := a) (b := b) (x := x) hs, hi, List.all_cons]
  unfold bS
  cases decide (x.Attr.length ≤ 30) <;> cases decide (x.Value.length ≤ 80) <;> rfl
theorem xP {N : Nat} {c : AR} (hN2 : N ≤ 9223372036854775808) (h1 : c.RDN.length < N) (h2 : c.Mods.length < N) (h3 : ∀ m ∈ c.Mods, m.Values.length < N) : IV N c = some (fT c) := by
 unfold IV KE KZ fT
 have e1 := sJ N hN2 c.Mods [] N (by simp; omega) h2 h3
 have e2 := sK N c.RDN [] N (by simp; omega) h1
 simp only [List.nil_append, List.length_nil] at e1 e2
 rw [show ((0 : Int)) = ((0 : Nat) : Int) from rfl, e1, e2, show (14 : Int) = ((14 : Nat) : Int) from rfl, leL, show (6 : Int) = ((6 : Nat) : Int) from rfl, leL]
 cases c.Mods.all bR <;> cases decide (c.Mods.length ≤ 14) <;> cases c.RDN.all bS <;> cases decide (c.RDN.length ≤ 6) <;> rfl
theorem xQ {c : AR} (h : fT c = true) : bnC c ∧ c.Mods.length ≤ 14 ∧ c.RDN.length ≤ 6 := by
 unfold fT at h
 simp only [Bool.and_eq_true, List.all_eq_true, decide_eq_true_eq] at h
 obtain ⟨h1, h2, h3, h4⟩ := h
 refine ⟨⟨⟨by omega, fun a ha => ?_⟩, ⟨by omega, fun m hm => ?_⟩⟩, h2, h4⟩
 ·have := h3 a ha
  unfold bS at this
  simp only [Bool.and_eq_true, decide_eq_true_eq] at this
  exact ⟨by omega, by omega⟩
 ·have := h1 m hm
  unfold bR at this
  simp only [Bool.and_eq_true, decide_eq_true_eq, List.all_eq_true] at this
  exact ⟨by omega, by omega, fun v hv => by have := this.2.2 v hv; omega⟩
def Fit (N d : Nat) (e : A7) : Prop := ∀ n, d ≤ n → NC N n e = some true ∧ (∃ k : Nat, k ≤ d ∧ QI N n e = some (k : Int)) ∧ ∃ s b, OJ N n e = some (s, b) ∧ s.length ≤ 4010
theorem Fit.mono {N d d' : Nat} {e : A7} (h : Fit N d e) (hd : d ≤ d') : Fit N d' e := fun n hn => by
 obtain ⟨h1, ⟨k, hk, h2⟩, h3⟩ := h n (by omega)
 exact ⟨h1, ⟨k, by omega, h2⟩, h3⟩

theorem YP {α : Type} {k : Nat} {l : List α} (h : l.length ≤ 1000000) (hk : k ≤ 1000) : L8 k l = some l := by
 unfold L8
 have : l.length * k ≤ 1000000 * 1000 := Nat.mul_le_mul h hk
 rw [if_pos ⟨by unfold maxLen; omega, by omega⟩]
theorem sQ (N : Nat) (l : List AY) (t0 t1 t2 t3 t4 t5 t6 t7 t8 t9 : Int) (t11 : Bool) (r : List AU) : ∀ (b a : List AY) (n : Nat), l = a ++ b → (a ++ b).length ≤ 1000000 → b.length < n → (∀ m ∈ b, m.Values.length ≤ 1000000) →
  GK N l n ((a.length : Int), t0, t1, t2, t3, t4, t5, t6, t7, t8, t9, t11, r, a ++ b) = some (t0, t1, t2, t3, t4, t5, t6, t7, t8, t9, t11, r, a ++ b) := by
 intro b
 induction b with
 | nil =>
  intro a n he hs hn hm
  obtain ⟨n, rfl, _⟩ := fuel hn
  simp only [GK, JV]
  rw [he, FL, cond_false]
 | cons x b ih =>
  intro a n he hs hn hm
  obtain ⟨n, rfl, hn'⟩ := fuel hn
  have hi := ih (a ++ [x]) n (by rw [he]; simp) (by simpa using hs) hn' (fun m h => hm m (List.mem_cons_of_mem _ h))
  rw [← F9] at hi
  simp only [GK, JV]
  rw [he, FX, cond_true, VE, oS, KQ, oS, YP (hm x List.mem_cons_self) (by omega), oS, oS, KQ, oS, FT (a := a) (b := b) (x := x) (by omega)]
  rw [show (⟨x.Kind, x.Attr, x.Values⟩ : AY) = x from rfl, set_mid, ← he, he]
  rw [he] at hi
  exact hi
theorem Db {N : Nat} {c : AR} (hN : 2000000 < N) (h : bnC c) : OH N c = some c := by
 unfold OH
 rw [YP h.1.1 (by omega), oS, YP h.2.1 (by omega), oS]
 have := sQ N c.Mods c.CSN.Time c.CSN.Seq c.CSN.Rep c.Kind c.ID.Time c.ID.Seq c.ID.Rep c.Parent.Time c.Parent.Seq c.Parent.Rep c.DelOld c.RDN c.Mods [] N rfl (by simpa using h.2.1) (by have := h.2.1; omega) (fun m hm => (h.2.2 m hm).2.1)
 simp only [List.nil_append, List.length_nil] at this
 rw [show ((0 : Int)) = ((0 : Nat) : Int) from rfl, this]
 rfl
end Go.Gp
end
section
set_option linter.unusedVariables false
namespace Go.Gp
open Go.Vd
theorem nN : LW 9223372036854775808 = some true := by decide +kernel
end Go.Gp
end
section
set_option linter.unusedVariables false
set_option linter.unusedSimpArgs false
namespace Go.Gp
open Go.Vd
theorem b_few {N : Nat} {c : AR} (hN : N = 9223372036854775808) (h : TU c) : IV N c = some (fT c) := by
 obtain ⟨_, _, _, _, h1, _, h2⟩ := h
 unfold maxLen at h1 h2
 refine xP (by omega) (by have := h1.1; omega) (by have := h2.1; omega) fun m hm => ?_
 have := (h2.2 m hm).2.2.1
 unfold maxLen at this
 omega
theorem OD (a0 : AR) (h0 : TU a0) : ∃ N, I8 N a0 = some true := by
 refine ⟨9223372036854775808, ?_⟩
 unfold I8
 rw [nN, oS, b_few rfl h0, oS]
 simp only [Bool.not_true, cond_false]
 cases f0 : fT a0
 case false => rfl
 obtain ⟨g0, gm, gr⟩ := xQ f0
 have h9 : iW a0 = true := by
  unfold iW
  simp only [Bool.and_eq_true, decide_eq_true_eq, List.all_eq_true]
  exact ⟨g0.1.1, by omega, fun m hm => (g0.2.2 m hm).2.1⟩
 simp only [Bool.not_true, cond_false, h9, cond_true]
 rw [Db (by omega) g0, oS, sS g0 (by omega), oS, decide_eq_true rfl, cond_true, Df (by omega) (Nat.le_refl _) g0]
 simp
end Go.Gp
end
