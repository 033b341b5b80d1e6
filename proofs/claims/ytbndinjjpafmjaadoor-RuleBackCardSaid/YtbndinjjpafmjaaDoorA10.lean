/- A part of the proof: functions of the program and what they compute. -/
import Derived.Test.YtbndinjjpafmjaaDoorA5
import Derived.Test.YtbndinjjpafmjaaDoorA9
import Derived.Test.YtbndinjjpafmjaaDoorA4
import Derived.Test.YtbndinjjpafmjaaDoorA7
import Derived.Test.YtbndinjjpafmjaaDoorA8
section
set_option linter.unusedVariables false
set_option linter.unusedSimpArgs false
set_option maxRecDepth 4000
namespace Go.Gp
open Go.Vd Go.RowKit Go.Proofs
theorem bcheck_new : Sat Tryd.prog 77 (ofL [(84000001, bNew)]) [.ptr 84000001 0 0] (.tup []) (ofL [(84000001, bAdr 84000001)]) := bld_check_new (ρ := Tryd.lays156_ren) { Tryd.lays156 with } Tryd.Builder_Extra_156.toX72 84000001 rfl
theorem bcheck_6000001 (n : Nat) (row : Row) : Sat Tryd.prog 77 (ofL [(84000001, bUse 84000001 6000001 n), (6000001, row)]) [.ptr 84000001 0 0] (.tup []) (ofL [(84000001, bUse 84000001 6000001 n), (6000001, row)]) := bld_check_used (ρ := Tryd.lays156_ren) { Tryd.lays156 with } Tryd.Builder_Extra_156.toX72 84000001 rfl (.slr 6000001 0 n) _ rfl
theorem bstr_6000001 (l : List UInt8) (h0 : l ≠ []) (hm : l.length ≤ 9223372036854775807) : SatC Tryd.prog 56 (ofL [(84000001, bUse 84000001 6000001 l.length), (6000001, ⟨1, true, l.map eb⟩)]) [.ptr 84000001 0 0] (.str l) (ofL []) := bld_str (ρ := Tryd.lays156_ren) { Tryd.lays156 with } Tryd.Builder_Extra_156 84000001 6000001 rfl rfl l h0 hm
theorem bcheck_6000002 (n : Nat) (row : Row) : Sat Tryd.prog 77 (ofL [(84000001, bUse 84000001 6000002 n), (6000002, row)]) [.ptr 84000001 0 0] (.tup []) (ofL [(84000001, bUse 84000001 6000002 n), (6000002, row)]) := bld_check_used (ρ := Tryd.lays156_ren) { Tryd.lays156 with } Tryd.Builder_Extra_156.toX72 84000001 rfl (.slr 6000002 0 n) _ rfl
theorem bstr_new : SatC Tryd.prog 56 (ofL [(84000001, bNew)]) [.ptr 84000001 0 0] (.str []) (ofL []) := bld_str_new (ρ := Tryd.lays156_ren) { Tryd.lays156 with } Tryd.Builder_Extra_156 84000001 rfl
theorem keepT : ∀ u, Nat.beq u 84000001 = true → u = 84000001 := fun u h => Nat.eq_of_beq_eq_true h
def k112 : IC := (.seq (.reg [⟨(some 4), (.mov (.c .nili)), none⟩]) (.seq (.reg [⟨(some 5), (.mov (.t 0)), none⟩, ⟨(some 6), (.call 77 [(.t 5)]), none⟩]) (.seq (.reg [⟨(some 7), (.mov (.t 0)), none⟩, ⟨(some 8), (.mov (.t 0)), none⟩, ⟨(some 9), (.nck (.t 8)), none⟩, ⟨(some 10), (.fda 1 (.t 9)), none⟩, ⟨(some 11), (.load 1 false (.t 10)), none⟩, ⟨(some 12), (.mov (.t 1)), none⟩, ⟨(some 13), (.bsl 1 [(.t 12)]), none⟩, ⟨(some 14), (.app 5 1 1 (.t 11) (.t 13)), none⟩, ⟨(some 15), (.nck (.t 7)), none⟩, ⟨(some 16), (.fda 1 (.t 15)), none⟩, ⟨none, (.store 1 (.t 16) (.t 14)), none⟩]) (.seq (.reg [⟨(some 4), (.mov (.c .nili)), none⟩]) .ret))))
theorem k112_cf : cfunc Tryd.prog Tryd.f112 = some ⟨17, k112, [(.tmp 4)]⟩ := by kernel_rfl
theorem bwb_new (c : UInt8) (z : List UInt8) (h : appL 1 ([] : List UInt8) [c] = some z) : SatC Tryd.prog 112 (ofL [(84000001, bNew)]) [.ptr 84000001 0 0, eb c] .nili (ofL [(84000001, bUse 84000001 6000001 z.length), (6000001, ⟨1, true, z.map eb⟩)]) := by
  refine xsatC (fun u => Nat.beq u 84000001) mixed Tryd.func112 k112_cf (rs := [.nili]) rfl rfl ?_ ?_ ?_
  · intro u hu
    rw [keepT u hu]
    exact ⟨_, rfl⟩
  · intro u row row' h1 h2
    by_cases hu : u = 84000001
    · subst hu
      cases h1
      cases h2
      exact ⟨rfl, rfl, rfl⟩
    · simp only [ofL, beq_false hu, cond_false] at h1
      cases h1
  refine xseq ?_
  refine xreg ?_
  refine wpp rfl rfl ?_
  refine xseq ?_
  refine xreg ?_
  refine wpp rfl rfl ?_
  refine woo rfl (olend [(84000001, bNew)] [(84000001, bAdr 84000001)] bcheck_new rfl rfl ⟨rfl, trivial⟩ rfl rfl rfl) ?_
  refine xseq ?_
  refine xreg ?_
  refine wpp rfl rfl ?_
  refine wpp rfl rfl ?_
  refine wpp rfl rfl ?_
  refine wpp rfl rfl ?_
  refine wpp rfl rfl ?_
  refine wpp rfl rfl ?_
  refine woo rfl (obsl 13 rfl rfl rfl) ?_
  refine wappn (f := eb) 6000001 h rfl rfl rfl (el_row rfl (full_row (f := eb) (l := [c]))) rfl rfl rfl ?_
  refine wpp rfl rfl ?_
  refine wpp rfl rfl ?_
  refine wstb (e' := .agg [.ptr 84000001 0 0, .slr 6000001 0 z.length]) rfl rfl rfl rfl rfl rfl rfl rfl nofun rfl ?_
  refine xseq ?_
  refine xreg ?_
  refine wpp rfl rfl ?_
  refine xret ?_
  exact ⟨nofun, rfl, rfl, ⟨rfl, rfl, trivial⟩, rfl⟩
theorem bwb_6000001 (c : UInt8) (l z : List UInt8) (h : appL 1 l [c] = some z) : SatC Tryd.prog 112 (ofL [(84000001, bUse 84000001 6000001 l.length), (6000001, ⟨1, true, l.map eb⟩)]) [.ptr 84000001 0 0, eb c] .nili (ofL [(84000001, bUse 84000001 6000002 z.length), (6000002, ⟨1, true, z.map eb⟩)]) := by
  refine xsatC (fun u => Nat.beq u 84000001) mixed Tryd.func112 k112_cf (rs := [.nili]) rfl rfl ?_ ?_ ?_
  · intro u hu
    rw [keepT u hu]
    exact ⟨_, rfl⟩
  · intro u row row' h1 h2
    by_cases hu : u = 84000001
    · subst hu
      cases h1
      cases h2
      exact ⟨rfl, rfl, rfl⟩
    · have e1 : u = 6000001 := by
        by_cases hv : u = 6000001
        · exact hv
        · simp only [ofL, beq_false hu, beq_false hv, cond_false] at h1
          cases h1
      subst e1
      cases h2
  refine xseq ?_
  refine xreg ?_
  refine wpp rfl rfl ?_
  refine xseq ?_
  refine xreg ?_
  refine wpp rfl rfl ?_
  refine woo rfl (olend [(84000001, bUse 84000001 6000001 l.length), (6000001, ⟨1, true, l.map eb⟩)] [(84000001, bUse 84000001 6000001 l.length), (6000001, ⟨1, true, l.map eb⟩)] (bcheck_6000001 l.length ⟨1, true, l.map eb⟩) rfl rfl ⟨rfl, rfl, trivial⟩ rfl rfl rfl) ?_
  refine xseq ?_
  refine xreg ?_
  refine wpp rfl rfl ?_
  refine wpp rfl rfl ?_
  refine wpp rfl rfl ?_
  refine wpp rfl rfl ?_
  refine wpp rfl rfl ?_
  refine wpp rfl rfl ?_
  refine woo rfl (obsl 13 rfl rfl rfl) ?_
  refine wapp (f := eb) 6000002 h rfl rfl rfl rfl rfl (el_row rfl (full_row (f := eb) (l := [c]))) rfl rfl rfl rfl ?_
  refine wpp rfl rfl ?_
  refine wpp rfl rfl ?_
  refine wstb (e' := .agg [.ptr 84000001 0 0, .slr 6000002 0 z.length]) rfl rfl rfl rfl rfl rfl rfl rfl nofun rfl ?_
  refine xseq ?_
  refine xreg ?_
  refine wpp rfl rfl ?_
  refine xret ?_
  exact ⟨nofun, rfl, rfl, ⟨rfl, rfl, trivial⟩, rfl⟩
theorem bwb_6000002 (c : UInt8) (l z : List UInt8) (h : appL 1 l [c] = some z) : SatC Tryd.prog 112 (ofL [(84000001, bUse 84000001 6000002 l.length), (6000002, ⟨1, true, l.map eb⟩)]) [.ptr 84000001 0 0, eb c] .nili (ofL [(84000001, bUse 84000001 6000001 z.length), (6000001, ⟨1, true, z.map eb⟩)]) := by
  refine xsatC (fun u => Nat.beq u 84000001) mixed Tryd.func112 k112_cf (rs := [.nili]) rfl rfl ?_ ?_ ?_
  · intro u hu
    rw [keepT u hu]
    exact ⟨_, rfl⟩
  · intro u row row' h1 h2
    by_cases hu : u = 84000001
    · subst hu
      cases h1
      cases h2
      exact ⟨rfl, rfl, rfl⟩
    · have e1 : u = 6000002 := by
        by_cases hv : u = 6000002
        · exact hv
        · simp only [ofL, beq_false hu, beq_false hv, cond_false] at h1
          cases h1
      subst e1
      cases h2
  refine xseq ?_
  refine xreg ?_
  refine wpp rfl rfl ?_
  refine xseq ?_
  refine xreg ?_
  refine wpp rfl rfl ?_
  refine woo rfl (olend [(84000001, bUse 84000001 6000002 l.length), (6000002, ⟨1, true, l.map eb⟩)] [(84000001, bUse 84000001 6000002 l.length), (6000002, ⟨1, true, l.map eb⟩)] (bcheck_6000002 l.length ⟨1, true, l.map eb⟩) rfl rfl ⟨rfl, rfl, trivial⟩ rfl rfl rfl) ?_
  refine xseq ?_
  refine xreg ?_
  refine wpp rfl rfl ?_
  refine wpp rfl rfl ?_
  refine wpp rfl rfl ?_
  refine wpp rfl rfl ?_
  refine wpp rfl rfl ?_
  refine wpp rfl rfl ?_
  refine woo rfl (obsl 13 rfl rfl rfl) ?_
  refine wapp (f := eb) 6000001 h rfl rfl rfl rfl rfl (el_row rfl (full_row (f := eb) (l := [c]))) rfl rfl rfl rfl ?_
  refine wpp rfl rfl ?_
  refine wpp rfl rfl ?_
  refine wstb (e' := .agg [.ptr 84000001 0 0, .slr 6000001 0 z.length]) rfl rfl rfl rfl rfl rfl rfl rfl nofun rfl ?_
  refine xseq ?_
  refine xreg ?_
  refine wpp rfl rfl ?_
  refine xret ?_
  exact ⟨nofun, rfl, rfl, ⟨rfl, rfl, trivial⟩, rfl⟩
end Go.Gp
end
section
set_option linter.unusedVariables false
set_option linter.unusedSimpArgs false
set_option maxRecDepth 4000
set_option maxHeartbeats 4000000
namespace Go.Gp
open Go.Vd Go.RowKit Go.Proofs
def k96_l8 : IC := (.seq (.reg [⟨(some 10), (.bin .lss (.t 9) (.t 8)), none⟩]) (.seq (.cond (.t 10) .skip (.exit 0)) (.seq (.block 1 (.seq (.reg [⟨(some 11), (.mov (.t 9)), none⟩, ⟨(some 12), (.ixp 1 (.t 7) (.t 9)), none⟩, ⟨(some 13), (.load 1 false (.t 12)), none⟩, ⟨(some 4), (.mov (.t 11)), none⟩, ⟨(some 5), (.mov (.t 13)), none⟩]) (.block 2 (.seq (.block 5 (.seq (.block 4 (.seq (.block 3 (.seq (.seq (.seq (.reg [⟨(some 15), (.mov (.t 5)), none⟩, ⟨(some 16), (.bin .lss (.t 15) (.c (.int .u8 32))), none⟩, ⟨(some 17), (.mov (.t 16)), none⟩, ⟨(some 18), (.mov (.t 5)), (some (17, false))⟩, ⟨(some 19), (.bin .gtr (.t 18) (.c (.int .u8 126))), (some (17, false))⟩, ⟨(some 20), (.pick (.t 17) (.c (.bool true)) (.t 19)), none⟩, ⟨(some 14), (.mov (.t 20)), none⟩]) (.cond (.t 14) (.exit 3) .skip)) (.seq (.seq (.reg [⟨(some 22), (.mov (.t 5)), none⟩, ⟨(some 23), (.call 51 [(.c (.str [44, 43, 34, 92, 60, 62, 59])), (.t 22)]), none⟩, ⟨(some 24), (.bin .geq (.t 23) (.c (.int .i64 0))), none⟩, ⟨(some 21), (.mov (.t 24)), none⟩]) (.cond (.t 21) .skip (.seq (.reg [⟨(some 25), (.mov (.t 4)), none⟩, ⟨(some 26), (.bin .eql (.t 25) (.c (.int .i64 0))), none⟩, ⟨(some 27), (.mov (.t 26)), none⟩, ⟨(some 28), (.mov (.t 5)), (some (27, true))⟩, ⟨(some 29), (.bin .eql (.t 28) (.c (.int .u8 35))), (some (27, true))⟩, ⟨(some 30), (.mov (.t 29)), (some (27, true))⟩, ⟨(some 31), (.mov (.t 5)), (some (30, false))⟩, ⟨(some 32), (.bin .eql (.t 31) (.c (.int .u8 32))), (some (30, false))⟩, ⟨(some 33), (.pick (.t 30) (.c (.bool true)) (.t 32)), (some (27, true))⟩, ⟨(some 34), (.pick (.t 27) (.t 33) (.c (.bool false))), none⟩, ⟨(some 21), (.mov (.t 34)), none⟩]) (.cond (.t 21) .skip (.reg [⟨(some 35), (.mov (.t 4)), none⟩, ⟨(some 36), (.mov (.t 0)), none⟩, ⟨(some 37), (.len true (.t 36)), none⟩, ⟨(some 38), (.bin .sub (.t 37) (.c (.int .i64 1))), none⟩, ⟨(some 39), (.bin .eql (.t 35) (.t 38)), none⟩, ⟨(some 40), (.mov (.t 39)), none⟩, ⟨(some 41), (.mov (.t 5)), (some (40, true))⟩, ⟨(some 42), (.bin .eql (.t 41) (.c (.int .u8 32))), (some (40, true))⟩, ⟨(some 43), (.pick (.t 40) (.t 42) (.c (.bool false))), none⟩, ⟨(some 21), (.mov (.t 43)), none⟩]))))) (.cond (.t 21) (.exit 4) .skip))) (.exit 5))) (.seq (.seq (.reg [⟨(some 44), (.call 112 [(.t 3), (.c (.int .u8 92))]), none⟩]) (.seq (.reg [⟨(some 45), (.mov (.t 5)), none⟩, ⟨(some 46), (.bin .shr (.t 45) (.c (.int .u64 4))), none⟩, ⟨(some 47), (.idxs (.c (.str [48, 49, 50, 51, 52, 53, 54, 55, 56, 57, 97, 98, 99, 100, 101, 102])) (.t 46)), none⟩, ⟨(some 48), (.call 112 [(.t 3), (.t 47)]), none⟩]) (.seq (.reg [⟨(some 49), (.mov (.t 5)), none⟩, ⟨(some 50), (.bin .and (.t 49) (.c (.int .u8 15))), none⟩, ⟨(some 51), (.idxs (.c (.str [48, 49, 50, 51, 52, 53, 54, 55, 56, 57, 97, 98, 99, 100, 101, 102])) (.t 50)), none⟩, ⟨(some 52), (.call 112 [(.t 3), (.t 51)]), none⟩]) (.exit 1)))) (.exit 2)))) (.reg [⟨(some 53), (.call 112 [(.t 3), (.c (.int .u8 92))]), none⟩]))) (.seq (.reg [⟨(some 54), (.mov (.t 5)), none⟩, ⟨(some 55), (.call 112 [(.t 3), (.t 54)]), none⟩]) (.exit 2)))))) (.reg [⟨(some 56), (.bin .add (.t 9) (.c (.int .i64 1))), none⟩, ⟨(some 9), (.mov (.t 56)), none⟩]))))
def k96 : IC := (.seq (.reg [⟨(some 2), (.mov (.c (.str []))), none⟩]) (.seq (.reg [⟨(some 3), (.box 83 (.c (.agg [.nilp, .nl]))), none⟩]) (.seq (.seq (.reg [⟨(some 6), (.mov (.t 0)), none⟩, ⟨(some 7), (.cvs (.t 6)), none⟩, ⟨(some 8), (.len false (.t 7)), none⟩, ⟨(some 9), (.mov (.c (.int .i64 0))), none⟩]) (.block 0 (.loop k96_l8))) (.seq (.reg [⟨(some 57), (.call 56 [(.t 3)]), none⟩, ⟨(some 2), (.mov (.t 57)), none⟩]) .ret))))
theorem k96_cf : cfunc Tryd.prog Tryd.f96 = some ⟨58, k96, [(.tmp 2)]⟩ := by kernel_rfl
theorem w_dn_Escape_l8 (N : Nat) (a0 : List UInt8) : ∀ (n : Nat) (x : Int × List UInt8) (y : List UInt8), dn_Escape_l8 N a0 n x = some y → WX Tryd.prog (fun _ => false) (.loop k96_l8) ((fun (x : Int × List UInt8) => ⟨ofL [(0, .str a0), (3, .ptr 84000001 0 0), (7, .slr 7 0 a0.length), (8, .int .i64 (a0.length : Int)), (9, .int .i64 x.1)], ofL [(7, ⟨1, true, List.map eb a0⟩), (6000001, ⟨1, true, List.map eb x.2⟩), (84000001, ⟨2, false, [.agg [.ptr 84000001 0 0, .slr 6000001 0 x.2.length]]⟩)]⟩) x) ((fun y e s => e = .exit 0 ∧ s = ⟨ofL [(3, .ptr 84000001 0 0)], ofL [(6000001, ⟨1, true, List.map eb y⟩), (84000001, ⟨2, false, [.agg [.ptr 84000001 0 0, .slr 6000001 0 y.length]]⟩)]⟩ : (List UInt8) → Xt → St → Prop) y) := by
  refine xloop (fun (x : Int × List UInt8) => ⟨ofL [(0, .str a0), (3, .ptr 84000001 0 0), (7, .slr 7 0 a0.length), (8, .int .i64 (a0.length : Int)), (9, .int .i64 x.1)], ofL [(7, ⟨1, true, List.map eb a0⟩), (6000001, ⟨1, true, List.map eb x.2⟩), (84000001, ⟨2, false, [.agg [.ptr 84000001 0 0, .slr 6000001 0 x.2.length]]⟩)]⟩) _ (dn_Escape_l8 N a0) (dn_Escape_l8_b N a0) (fun _ => rfl) (fun _ _ => rfl) ?_
  rintro rec ⟨v9l8, r6000001l8⟩ y h
  refine xseq ?_
  refine xreg ?_
  refine wpp rfl rfl ?_
  refine xseq ?_
  rcases bifS h with ⟨c2, h⟩ | ⟨c2, h⟩
  · refine xcT rfl c2 ?_
    refine xskip ?_
    refine xjoin (fun (x : List UInt8) => ⟨ofL [(0, .str a0), (3, .ptr 84000001 0 0), (7, .slr 7 0 a0.length), (8, .int .i64 (a0.length : Int)), (9, .int .i64 v9l8)], ofL [(7, ⟨1, true, List.map eb a0⟩), (6000002, ⟨1, true, List.map eb x⟩), (84000001, ⟨2, false, [.agg [.ptr 84000001 0 0, .slr 6000002 0 x.length]]⟩)]⟩) (fun x => dn_Escape_j15p v9l8 rec x = some y) ?_ ?_
    · rintro r6000002j15 h
      refine xreg ?_
      refine wpp (p := .int .i64 (w64 (v9l8 + (1 : Int)))) rfl rfl ?_
      refine wpp rfl rfl ?_
      exact ⟨((w64 (v9l8 + (1 : Int))), r6000002j15), (Norm.trans (rename 6000002 6000001 rfl rfl) (canon0 ⟨rfl, rfl, rfl, rfl, rfl, trivial⟩ ⟨rfl, rfl, rfl, trivial⟩ rfl rfl)), h⟩
    · skip
      refine xblk ?_
      refine xseq ?_
      refine xreg ?_
      refine wpp rfl rfl ?_
      obtain ⟨x12, hx12, h⟩ := bindS h
      refine wpp rfl (p_ixr hx12 rfl rfl rfl rfl) ?_
      obtain ⟨x13, hx13, h⟩ := bindS h
      refine wpp rfl (p_ldr (f := eb) (v := eb x13) hx13 rfl rfl rfl) ?_
      refine wpp rfl rfl ?_
      refine wpp rfl rfl ?_
      refine xblk ?_
      refine xjoin (fun (x : List UInt8) => ⟨ofL [(0, .str a0), (3, .ptr 84000001 0 0), (5, eb x13), (7, .slr 7 0 a0.length), (8, .int .i64 (a0.length : Int)), (9, .int .i64 v9l8)], ofL [(7, ⟨1, true, List.map eb a0⟩), (6000001, ⟨1, true, List.map eb x⟩), (84000001, ⟨2, false, [.agg [.ptr 84000001 0 0, .slr 6000001 0 x.length]]⟩)]⟩) (fun x => dn_Escape_j20 v9l8 rec x13 x = some y) ?_ ?_
      · rintro r6000001j20 h
        refine xseq ?_
        refine xreg ?_
        refine wpp rfl rfl ?_
        obtain ⟨x55, hx55, h⟩ := bindS h
        refine woo rfl (olendC [(84000001, bUse 84000001 6000001 r6000001j20.length), (6000001, ⟨1, true, List.map eb r6000001j20⟩)] [(84000001, bUse 84000001 6000002 x55.length), (6000002, ⟨1, true, List.map eb x55⟩)] (bwb_6000001 x13 r6000001j20 x55 hx55) rfl rfl ⟨rfl, rfl, trivial⟩ rfl rfl rfl rfl) ?_
        refine xexit ?_
        exact ⟨x55, (canon0 ⟨rfl, rfl, rfl, rfl, rfl, trivial⟩ ⟨rfl, rfl, rfl, trivial⟩ rfl rfl), h⟩
      · skip
        refine xblk ?_
        refine xseq ?_
        refine xblk ?_
        refine xseq ?_
        refine xblk ?_
        refine xseq ?_
        refine xseq ?_
        obtain ⟨g3, hg3, h⟩ := bindS h
        refine xseg ⟨ofL [(0, .str a0), (3, .ptr 84000001 0 0), (4, .int .i64 v9l8), (5, eb x13), (7, .slr 7 0 a0.length), (8, .int .i64 (a0.length : Int)), (9, .int .i64 v9l8), (14, .bool g3)], ofL [(7, ⟨1, true, List.map eb a0⟩), (6000001, ⟨1, true, List.map eb r6000001l8⟩), (84000001, ⟨2, false, [.agg [.ptr 84000001 0 0, .slr 6000001 0 r6000001l8.length]]⟩)]⟩ ?_ ?_
        · have h := hg3
          refine xreg ?_
          refine wpp rfl rfl ?_
          refine wpp (p := .bool (decide (((x13).toNat : Int) < (32 : Int)))) rfl rfl ?_
          refine wpp rfl rfl ?_
          rcases bifS h with ⟨c4, h⟩ | ⟨c4, h⟩
          · skip
            refine wsk (gn rfl c4) ?_
            refine wsk (gn rfl c4) ?_
            refine wpp rfl (p_pick1 c4 rfl rfl) ?_
            refine wpp rfl rfl ?_
            obtain rfl := someS h
            exact (canon0 ⟨rfl, rfl, rfl, rfl, rfl, rfl, rfl, rfl, trivial⟩ ⟨rfl, rfl, rfl, trivial⟩ rfl rfl)
          · skip
            refine wpp (gy rfl c4) rfl ?_
            refine wpp (p := .bool (decide (((x13).toNat : Int) > (126 : Int)))) (gy rfl c4) rfl ?_
            refine wpp rfl (p_pick0 c4 rfl rfl) ?_
            refine wpp rfl rfl ?_
            obtain rfl := someS h
            exact (canon0 ⟨rfl, rfl, rfl, rfl, rfl, rfl, rfl, rfl, trivial⟩ ⟨rfl, rfl, rfl, trivial⟩ rfl rfl)
        · clear hg3
          rcases bifS h with ⟨c5, h⟩ | ⟨c5, h⟩
          · refine xcT rfl c5 ?_
            refine xexit ?_
            refine xseq ?_
            refine xseq ?_
            refine xreg ?_
            obtain ⟨x44, hx44, h⟩ := bindS h
            refine woo rfl (olendC [(84000001, bUse 84000001 6000001 r6000001l8.length), (6000001, ⟨1, true, List.map eb r6000001l8⟩)] [(84000001, bUse 84000001 6000002 x44.length), (6000002, ⟨1, true, List.map eb x44⟩)] (bwb_6000001 (92 : UInt8) r6000001l8 x44 hx44) rfl rfl ⟨rfl, rfl, trivial⟩ rfl rfl rfl rfl) ?_
            refine xseq ?_
            refine xreg ?_
            refine wpp rfl rfl ?_
            refine wpp rfl (p_u8shr (a := x13) (by decide) rfl rfl) ?_
            obtain ⟨x47, hx47, h⟩ := bindS h
            refine wpp rfl (p_idx hx47 rfl rfl) ?_
            obtain ⟨x48, hx48, h⟩ := bindS h
            refine woo rfl (olendC [(84000001, bUse 84000001 6000002 x44.length), (6000002, ⟨1, true, List.map eb x44⟩)] [(84000001, bUse 84000001 6000001 x48.length), (6000001, ⟨1, true, List.map eb x48⟩)] (bwb_6000002 x47 x44 x48 hx48) rfl rfl ⟨rfl, rfl, trivial⟩ rfl rfl rfl rfl) ?_
            refine xseq ?_
            refine xreg ?_
            refine wpp rfl rfl ?_
            refine wpp rfl (p_u8and (a := x13) (b := (15 : UInt8)) rfl rfl) ?_
            obtain ⟨x51, hx51, h⟩ := bindS h
            refine wpp rfl (p_idx hx51 rfl rfl) ?_
            obtain ⟨x52, hx52, h⟩ := bindS h
            refine woo rfl (olendC [(84000001, bUse 84000001 6000001 x48.length), (6000001, ⟨1, true, List.map eb x48⟩)] [(84000001, bUse 84000001 6000002 x52.length), (6000002, ⟨1, true, List.map eb x52⟩)] (bwb_6000001 x51 x48 x52 hx52) rfl rfl ⟨rfl, rfl, trivial⟩ rfl rfl rfl rfl) ?_
            refine xexit ?_
            exact ⟨x52, (canon0 ⟨rfl, rfl, rfl, rfl, rfl, trivial⟩ ⟨rfl, rfl, rfl, trivial⟩ rfl rfl), h⟩
          · refine xcF rfl c5 ?_
            refine xskip ?_
            refine xjoin (fun (x : Bool) => ⟨ofL [(0, .str a0), (3, .ptr 84000001 0 0), (5, eb x13), (7, .slr 7 0 a0.length), (8, .int .i64 (a0.length : Int)), (9, .int .i64 v9l8), (21, .bool x)], ofL [(7, ⟨1, true, List.map eb a0⟩), (6000001, ⟨1, true, List.map eb r6000001l8⟩), (84000001, ⟨2, false, [.agg [.ptr 84000001 0 0, .slr 6000001 0 r6000001l8.length]]⟩)]⟩) (fun x => dn_Escape_j33 v9l8 r6000001l8 rec x13 x = some y) ?_ ?_
            · rintro v21j33 h
              rcases bifS h with ⟨c6, h⟩ | ⟨c6, h⟩
              · refine xcT rfl c6 ?_
                refine xexit ?_
                refine xreg ?_
                obtain ⟨x53, hx53, h⟩ := bindS h
                refine woo rfl (olendC [(84000001, bUse 84000001 6000001 r6000001l8.length), (6000001, ⟨1, true, List.map eb r6000001l8⟩)] [(84000001, bUse 84000001 6000002 x53.length), (6000002, ⟨1, true, List.map eb x53⟩)] (bwb_6000001 (92 : UInt8) r6000001l8 x53 hx53) rfl rfl ⟨rfl, rfl, trivial⟩ rfl rfl rfl rfl) ?_
                exact ⟨x53, (Norm.trans (rename 6000002 6000001 rfl rfl) (canon0 ⟨rfl, rfl, rfl, rfl, rfl, rfl, trivial⟩ ⟨rfl, rfl, rfl, trivial⟩ rfl rfl)), h⟩
              · refine xcF rfl c6 ?_
                refine xskip ?_
                refine xexit ?_
                exact ⟨r6000001l8, (canon0 ⟨rfl, rfl, rfl, rfl, rfl, rfl, trivial⟩ ⟨rfl, rfl, rfl, trivial⟩ rfl rfl), h⟩
            · skip
              refine xseq ?_
              refine xreg ?_
              refine wpp rfl rfl ?_
              obtain ⟨x23, hx23, h⟩ := bindS h
              refine woo rfl (ocal (sat_strings_IndexByte N _ _ _ hx23) rfl (.cons sub_rfl (.cons sub_rfl .nil)) rfl rfl rfl) ?_
              refine wpp rfl rfl ?_
              refine wpp rfl rfl ?_
              rcases bifS h with ⟨c7, h⟩ | ⟨c7, h⟩
              · refine xcT rfl c7 ?_
                refine xskip ?_
                exact ⟨decide (x23 ≥ (0 : Int)), (canon0 ⟨rfl, rfl, rfl, rfl, rfl, rfl, rfl, trivial⟩ ⟨rfl, rfl, rfl, trivial⟩ rfl rfl), h⟩
              · refine xcF rfl c7 ?_
                obtain ⟨g8, hg8, h⟩ := bindS h
                refine xseg ⟨ofL [(0, .str a0), (3, .ptr 84000001 0 0), (4, .int .i64 v9l8), (5, eb x13), (7, .slr 7 0 a0.length), (8, .int .i64 (a0.length : Int)), (9, .int .i64 v9l8), (21, .bool g8)], ofL [(7, ⟨1, true, List.map eb a0⟩), (6000001, ⟨1, true, List.map eb r6000001l8⟩), (84000001, ⟨2, false, [.agg [.ptr 84000001 0 0, .slr 6000001 0 r6000001l8.length]]⟩)]⟩ ?_ ?_
                · have h := hg8
                  refine xreg ?_
                  refine wpp rfl rfl ?_
                  refine wpp rfl rfl ?_
                  refine wpp rfl rfl ?_
                  rcases bifS h with ⟨c9, h⟩ | ⟨c9, h⟩
                  · skip
                    refine wpp (gy rfl c9) rfl ?_
                    refine wpp (p := .bool (((x13).toNat : Int) == (35 : Int))) (gy rfl c9) rfl ?_
                    refine wpp (gy rfl c9) rfl ?_
                    rcases bifS h with ⟨c10, h⟩ | ⟨c10, h⟩
                    · skip
                      refine wsk (gn rfl c10) ?_
                      refine wsk (gn rfl c10) ?_
                      refine wpp (gy rfl c9) (p_pick1 c10 rfl rfl) ?_
                      refine wpp rfl (p_pick1 c9 rfl rfl) ?_
                      refine wpp rfl rfl ?_
                      obtain rfl := someS h
                      exact (canon0 ⟨rfl, rfl, rfl, rfl, rfl, rfl, rfl, rfl, trivial⟩ ⟨rfl, rfl, rfl, trivial⟩ rfl rfl)
                    · skip
                      refine wpp (gy rfl c10) rfl ?_
                      refine wpp (p := .bool (((x13).toNat : Int) == (32 : Int))) (gy rfl c10) rfl ?_
                      refine wpp (gy rfl c9) (p_pick0 c10 rfl rfl) ?_
                      refine wpp rfl (p_pick1 c9 rfl rfl) ?_
                      refine wpp rfl rfl ?_
                      obtain rfl := someS h
                      exact (canon0 ⟨rfl, rfl, rfl, rfl, rfl, rfl, rfl, rfl, trivial⟩ ⟨rfl, rfl, rfl, trivial⟩ rfl rfl)
                  · skip
                    refine wsk (gn rfl c9) ?_
                    refine wsk (gn rfl c9) ?_
                    refine wsk (gn rfl c9) ?_
                    refine wsk (gu rfl) ?_
                    refine wsk (gu rfl) ?_
                    refine wsk (gn rfl c9) ?_
                    refine wpp rfl (p_pick0 c9 rfl rfl) ?_
                    refine wpp rfl rfl ?_
                    obtain rfl := someS h
                    exact (canon0 ⟨rfl, rfl, rfl, rfl, rfl, rfl, rfl, rfl, trivial⟩ ⟨rfl, rfl, rfl, trivial⟩ rfl rfl)
                · clear hg8
                  rcases bifS h with ⟨c11, h⟩ | ⟨c11, h⟩
                  · refine xcT rfl c11 ?_
                    refine xskip ?_
                    exact ⟨g8, (canon0 ⟨rfl, rfl, rfl, rfl, rfl, rfl, rfl, trivial⟩ ⟨rfl, rfl, rfl, trivial⟩ rfl rfl), h⟩
                  · refine xcF rfl c11 ?_
                    refine xreg ?_
                    refine wpp rfl rfl ?_
                    refine wpp rfl rfl ?_
                    refine wpp rfl rfl ?_
                    refine wpp (p := .int .i64 (w64 ((a0.length : Int) - (1 : Int)))) rfl rfl ?_
                    refine wpp rfl rfl ?_
                    refine wpp rfl rfl ?_
                    rcases bifS h with ⟨c12, h⟩ | ⟨c12, h⟩
                    · skip
                      refine wpp (gy rfl c12) rfl ?_
                      refine wpp (p := .bool (((x13).toNat : Int) == (32 : Int))) (gy rfl c12) rfl ?_
                      refine wpp rfl (p_pick1 c12 rfl rfl) ?_
                      refine wpp rfl rfl ?_
                      exact ⟨(((x13).toNat : Int) == (32 : Int)), (canon0 ⟨rfl, rfl, rfl, rfl, rfl, rfl, rfl, trivial⟩ ⟨rfl, rfl, rfl, trivial⟩ rfl rfl), h⟩
                    · skip
                      refine wsk (gn rfl c12) ?_
                      refine wsk (gn rfl c12) ?_
                      refine wpp rfl (p_pick0 c12 rfl rfl) ?_
                      refine wpp rfl rfl ?_
                      exact ⟨false, (canon0 ⟨rfl, rfl, rfl, rfl, rfl, rfl, rfl, trivial⟩ ⟨rfl, rfl, rfl, trivial⟩ rfl rfl), h⟩
  · refine xcF rfl c2 ?_
    obtain rfl := someS h
    exact xexitn (st1 := ⟨ofL [(3, .ptr 84000001 0 0)], ofL [(6000001, ⟨1, true, List.map eb r6000001l8⟩), (84000001, ⟨2, false, [.agg [.ptr 84000001 0 0, .slr 6000001 0 r6000001l8.length]]⟩)]⟩) (canon0 ⟨rfl, trivial⟩ ⟨rfl, rfl, trivial⟩ rfl rfl) ⟨rfl, rfl⟩
theorem sat_dn_Escape (N : Nat) (a0 : List UInt8) (r : List UInt8) (h : dn_Escape N a0 = some r) : Sat Tryd.prog 96 noRows [.str a0] (.str r) noRows := by
  refine xsat mixed Tryd.func96 k96_cf (rs := [.str r]) rfl rfl ?_
  refine xseq ?_
  refine xreg ?_
  refine wpp rfl rfl ?_
  refine xseq ?_
  refine xreg ?_
  refine woo rfl (obox 84000001 rfl rfl rfl rfl rfl) ?_
  refine xseq ?_
  refine xseq ?_
  refine xreg ?_
  refine wpp rfl rfl ?_
  refine woo rfl (ocvs 7 rfl rfl) ?_
  refine wpp rfl rfl ?_
  refine wpp rfl rfl ?_
  refine xblk ?_
  refine xpeel ?_
  refine xseq ?_
  refine xseq ?_
  refine xreg ?_
  refine wpp rfl rfl ?_
  refine xseq ?_
  rcases bifS h with ⟨c1, h⟩ | ⟨c1, h⟩
  · refine xcT rfl c1 ?_
    refine xskip ?_
    refine xjoin (fun (x : List UInt8) => ⟨ofL [(0, .str a0), (3, .ptr 84000001 0 0), (7, .slr 7 0 a0.length), (8, .int .i64 (a0.length : Int)), (9, .int .i64 0)], ofL [(7, ⟨1, true, List.map eb a0⟩), (6000001, ⟨1, true, List.map eb x⟩), (84000001, ⟨2, false, [.agg [.ptr 84000001 0 0, .slr 6000001 0 x.length]]⟩)]⟩) (fun x => dn_Escape_j15 a0 N x = some r) ?_ ?_
    · rintro r6000001j15 h
      refine xreg ?_
      refine wpp (p := .int .i64 (1)) rfl rfl ?_
      refine wpp rfl rfl ?_
      obtain ⟨y13, hy13, h⟩ := bindS h
      refine xloopU (st1 := ⟨ofL [(0, .str a0), (3, .ptr 84000001 0 0), (7, .slr 7 0 a0.length), (8, .int .i64 (a0.length : Int)), (9, .int .i64 1)], ofL [(7, ⟨1, true, List.map eb a0⟩), (6000001, ⟨1, true, List.map eb r6000001j15⟩), (84000001, ⟨2, false, [.agg [.ptr 84000001 0 0, .slr 6000001 0 r6000001j15.length]]⟩)]⟩) (canon0 ⟨rfl, rfl, rfl, rfl, rfl, trivial⟩ ⟨rfl, rfl, rfl, trivial⟩ rfl rfl) (w_dn_Escape_l8 N a0 N _ _ hy13) ?_
      rintro e s ⟨rfl, rfl⟩
      refine xseq ?_
      refine xreg ?_
      obtain ⟨x57, hx57, h⟩ := bindS h
      refine woo rfl (olendC [(84000001, bUse 84000001 6000001 y13.length), (6000001, ⟨1, true, List.map eb y13⟩)] [] (bldS_c (bstr_6000001 y13) hx57) rfl rfl ⟨rfl, rfl, trivial⟩ rfl rfl rfl rfl) ?_
      refine wpp rfl rfl ?_
      obtain rfl := someS h
      refine xret ?_
      exact ⟨nofun, rfl, rfl⟩
    · skip
      refine xblk ?_
      refine xseq ?_
      refine xreg ?_
      refine wpp rfl rfl ?_
      obtain ⟨x12, hx12, h⟩ := bindS h
      refine wpp rfl (p_ixr hx12 rfl rfl rfl rfl) ?_
      obtain ⟨x13, hx13, h⟩ := bindS h
      refine wpp rfl (p_ldr (f := eb) (v := eb x13) hx13 rfl rfl rfl) ?_
      refine wpp rfl rfl ?_
      refine wpp rfl rfl ?_
      refine xblk ?_
      refine xseq ?_
      refine xblk ?_
      refine xseq ?_
      refine xblk ?_
      refine xseq ?_
      refine xblk ?_
      refine xseq ?_
      refine xseq ?_
      obtain ⟨g14, hg14, h⟩ := bindS h
      refine xseg ⟨ofL [(0, .str a0), (3, .ptr 84000001 0 0), (4, .int .i64 0), (5, eb x13), (7, .slr 7 0 a0.length), (8, .int .i64 (a0.length : Int)), (9, .int .i64 0), (14, .bool g14)], ofL [(7, ⟨1, true, List.map eb a0⟩), (84000001, ⟨2, false, [.agg [.nilp, .nl]]⟩)]⟩ ?_ ?_
      · have h := hg14
        refine xreg ?_
        refine wpp rfl rfl ?_
        refine wpp (p := .bool (decide (((x13).toNat : Int) < (32 : Int)))) rfl rfl ?_
        refine wpp rfl rfl ?_
        rcases bifS h with ⟨c15, h⟩ | ⟨c15, h⟩
        · skip
          refine wsk (gn rfl c15) ?_
          refine wsk (gn rfl c15) ?_
          refine wpp rfl (p_pick1 c15 rfl rfl) ?_
          refine wpp rfl rfl ?_
          obtain rfl := someS h
          exact (canon0 ⟨rfl, rfl, rfl, rfl, rfl, rfl, rfl, rfl, trivial⟩ ⟨rfl, rfl, trivial⟩ rfl rfl)
        · skip
          refine wpp (gy rfl c15) rfl ?_
          refine wpp (p := .bool (decide (((x13).toNat : Int) > (126 : Int)))) (gy rfl c15) rfl ?_
          refine wpp rfl (p_pick0 c15 rfl rfl) ?_
          refine wpp rfl rfl ?_
          obtain rfl := someS h
          exact (canon0 ⟨rfl, rfl, rfl, rfl, rfl, rfl, rfl, rfl, trivial⟩ ⟨rfl, rfl, trivial⟩ rfl rfl)
      · clear hg14
        rcases bifS h with ⟨c16, h⟩ | ⟨c16, h⟩
        · refine xcT rfl c16 ?_
          refine xexit ?_
          refine xseq ?_
          refine xseq ?_
          refine xreg ?_
          obtain ⟨x44, hx44, h⟩ := bindS h
          refine woo rfl (olendC [(84000001, bNew)] [(84000001, bUse 84000001 6000001 x44.length), (6000001, ⟨1, true, List.map eb x44⟩)] (bwb_new (92 : UInt8) x44 hx44) rfl rfl ⟨rfl, trivial⟩ rfl rfl rfl rfl) ?_
          refine xseq ?_
          refine xreg ?_
          refine wpp rfl rfl ?_
          refine wpp rfl (p_u8shr (a := x13) (by decide) rfl rfl) ?_
          obtain ⟨x47, hx47, h⟩ := bindS h
          refine wpp rfl (p_idx hx47 rfl rfl) ?_
          obtain ⟨x48, hx48, h⟩ := bindS h
          refine woo rfl (olendC [(84000001, bUse 84000001 6000001 x44.length), (6000001, ⟨1, true, List.map eb x44⟩)] [(84000001, bUse 84000001 6000002 x48.length), (6000002, ⟨1, true, List.map eb x48⟩)] (bwb_6000001 x47 x44 x48 hx48) rfl rfl ⟨rfl, rfl, trivial⟩ rfl rfl rfl rfl) ?_
          refine xseq ?_
          refine xreg ?_
          refine wpp rfl rfl ?_
          refine wpp rfl (p_u8and (a := x13) (b := (15 : UInt8)) rfl rfl) ?_
          obtain ⟨x51, hx51, h⟩ := bindS h
          refine wpp rfl (p_idx hx51 rfl rfl) ?_
          obtain ⟨x52, hx52, h⟩ := bindS h
          refine woo rfl (olendC [(84000001, bUse 84000001 6000002 x48.length), (6000002, ⟨1, true, List.map eb x48⟩)] [(84000001, bUse 84000001 6000001 x52.length), (6000001, ⟨1, true, List.map eb x52⟩)] (bwb_6000002 x51 x48 x52 hx52) rfl rfl ⟨rfl, rfl, trivial⟩ rfl rfl rfl rfl) ?_
          refine xexit ?_
          exact ⟨x52, (canon0 ⟨rfl, rfl, rfl, rfl, rfl, trivial⟩ ⟨rfl, rfl, rfl, trivial⟩ rfl rfl), h⟩
        · refine xcF rfl c16 ?_
          refine xskip ?_
          refine xjoin (fun (x : Bool) => ⟨ofL [(0, .str a0), (3, .ptr 84000001 0 0), (5, eb x13), (7, .slr 7 0 a0.length), (8, .int .i64 (a0.length : Int)), (9, .int .i64 0), (21, .bool x)], ofL [(7, ⟨1, true, List.map eb a0⟩), (84000001, ⟨2, false, [.agg [.nilp, .nl]]⟩)]⟩) (fun x => dn_Escape_j33p a0 N x13 x = some r) ?_ ?_
          · rintro v21j33 h
            rcases bifS h with ⟨c17, h⟩ | ⟨c17, h⟩
            · refine xcT rfl c17 ?_
              refine xexit ?_
              refine xreg ?_
              obtain ⟨x53, hx53, h⟩ := bindS h
              refine woo rfl (olendC [(84000001, bNew)] [(84000001, bUse 84000001 6000001 x53.length), (6000001, ⟨1, true, List.map eb x53⟩)] (bwb_new (92 : UInt8) x53 hx53) rfl rfl ⟨rfl, trivial⟩ rfl rfl rfl rfl) ?_
              refine xseq ?_
              refine xreg ?_
              refine wpp rfl rfl ?_
              obtain ⟨x55, hx55, h⟩ := bindS h
              refine woo rfl (olendC [(84000001, bUse 84000001 6000001 x53.length), (6000001, ⟨1, true, List.map eb x53⟩)] [(84000001, bUse 84000001 6000002 x55.length), (6000002, ⟨1, true, List.map eb x55⟩)] (bwb_6000001 x13 x53 x55 hx55) rfl rfl ⟨rfl, rfl, trivial⟩ rfl rfl rfl rfl) ?_
              refine xexit ?_
              exact ⟨x55, (Norm.trans (rename 6000002 6000001 rfl rfl) (canon0 ⟨rfl, rfl, rfl, rfl, rfl, trivial⟩ ⟨rfl, rfl, rfl, trivial⟩ rfl rfl)), h⟩
            · refine xcF rfl c17 ?_
              refine xskip ?_
              refine xexit ?_
              refine xseq ?_
              refine xreg ?_
              refine wpp rfl rfl ?_
              obtain ⟨x55, hx55, h⟩ := bindS h
              refine woo rfl (olendC [(84000001, bNew)] [(84000001, bUse 84000001 6000001 x55.length), (6000001, ⟨1, true, List.map eb x55⟩)] (bwb_new x13 x55 hx55) rfl rfl ⟨rfl, trivial⟩ rfl rfl rfl rfl) ?_
              refine xexit ?_
              exact ⟨x55, (canon0 ⟨rfl, rfl, rfl, rfl, rfl, trivial⟩ ⟨rfl, rfl, rfl, trivial⟩ rfl rfl), h⟩
          · skip
            refine xseq ?_
            refine xreg ?_
            refine wpp rfl rfl ?_
            obtain ⟨x23, hx23, h⟩ := bindS h
            refine woo rfl (ocal (sat_strings_IndexByte N _ _ _ hx23) rfl (.cons sub_rfl (.cons sub_rfl .nil)) rfl rfl rfl) ?_
            refine wpp rfl rfl ?_
            refine wpp rfl rfl ?_
            rcases bifS h with ⟨c18, h⟩ | ⟨c18, h⟩
            · refine xcT rfl c18 ?_
              refine xskip ?_
              exact ⟨decide (x23 ≥ (0 : Int)), (canon0 ⟨rfl, rfl, rfl, rfl, rfl, rfl, rfl, trivial⟩ ⟨rfl, rfl, trivial⟩ rfl rfl), h⟩
            · refine xcF rfl c18 ?_
              obtain ⟨g19, hg19, h⟩ := bindS h
              refine xseg ⟨ofL [(0, .str a0), (3, .ptr 84000001 0 0), (4, .int .i64 0), (5, eb x13), (7, .slr 7 0 a0.length), (8, .int .i64 (a0.length : Int)), (9, .int .i64 0), (21, .bool g19)], ofL [(7, ⟨1, true, List.map eb a0⟩), (84000001, ⟨2, false, [.agg [.nilp, .nl]]⟩)]⟩ ?_ ?_
              · have h := hg19
                refine xreg ?_
                refine wpp rfl rfl ?_
                refine wpp (p := .bool true) rfl rfl ?_
                refine wpp rfl rfl ?_
                refine wpp rfl rfl ?_
                refine wpp (p := .bool (((x13).toNat : Int) == (35 : Int))) rfl rfl ?_
                refine wpp rfl rfl ?_
                rcases bifS h with ⟨c20, h⟩ | ⟨c20, h⟩
                · skip
                  refine wsk (gn rfl c20) ?_
                  refine wsk (gn rfl c20) ?_
                  refine wpp rfl (p_pick1 c20 rfl rfl) ?_
                  refine wpp rfl rfl ?_
                  refine wpp rfl rfl ?_
                  obtain rfl := someS h
                  exact (canon0 ⟨rfl, rfl, rfl, rfl, rfl, rfl, rfl, rfl, trivial⟩ ⟨rfl, rfl, trivial⟩ rfl rfl)
                · skip
                  refine wpp (gy rfl c20) rfl ?_
                  refine wpp (p := .bool (((x13).toNat : Int) == (32 : Int))) (gy rfl c20) rfl ?_
                  refine wpp rfl (p_pick0 c20 rfl rfl) ?_
                  refine wpp rfl rfl ?_
                  refine wpp rfl rfl ?_
                  obtain rfl := someS h
                  exact (canon0 ⟨rfl, rfl, rfl, rfl, rfl, rfl, rfl, rfl, trivial⟩ ⟨rfl, rfl, trivial⟩ rfl rfl)
              · clear hg19
                rcases bifS h with ⟨c21, h⟩ | ⟨c21, h⟩
                · refine xcT rfl c21 ?_
                  refine xskip ?_
                  exact ⟨g19, (canon0 ⟨rfl, rfl, rfl, rfl, rfl, rfl, rfl, trivial⟩ ⟨rfl, rfl, trivial⟩ rfl rfl), h⟩
                · refine xcF rfl c21 ?_
                  refine xreg ?_
                  refine wpp rfl rfl ?_
                  refine wpp rfl rfl ?_
                  refine wpp rfl rfl ?_
                  refine wpp (p := .int .i64 (w64 ((a0.length : Int) - (1 : Int)))) rfl rfl ?_
                  refine wpp rfl rfl ?_
                  refine wpp rfl rfl ?_
                  rcases bifS h with ⟨c22, h⟩ | ⟨c22, h⟩
                  · skip
                    refine wpp (gy rfl c22) rfl ?_
                    refine wpp (p := .bool (((x13).toNat : Int) == (32 : Int))) (gy rfl c22) rfl ?_
                    refine wpp rfl (p_pick1 c22 rfl rfl) ?_
                    refine wpp rfl rfl ?_
                    exact ⟨(((x13).toNat : Int) == (32 : Int)), (canon0 ⟨rfl, rfl, rfl, rfl, rfl, rfl, rfl, trivial⟩ ⟨rfl, rfl, trivial⟩ rfl rfl), h⟩
                  · skip
                    refine wsk (gn rfl c22) ?_
                    refine wsk (gn rfl c22) ?_
                    refine wpp rfl (p_pick0 c22 rfl rfl) ?_
                    refine wpp rfl rfl ?_
                    exact ⟨false, (canon0 ⟨rfl, rfl, rfl, rfl, rfl, rfl, rfl, trivial⟩ ⟨rfl, rfl, trivial⟩ rfl rfl), h⟩
  · refine xcF rfl c1 ?_
    refine xexit ?_
    refine xseq ?_
    refine xreg ?_
    refine woo rfl (olendC [(84000001, bNew)] [] bstr_new rfl rfl ⟨rfl, trivial⟩ rfl rfl rfl rfl) ?_
    refine wpp rfl rfl ?_
    obtain rfl := someS h
    refine xret ?_
    exact ⟨nofun, rfl, rfl⟩
end Go.Gp
end
section
set_option linter.unusedVariables false
set_option linter.unusedSimpArgs false
set_option maxRecDepth 4000
namespace Go.Gp
open Go.Vd Go.RowKit Go.Proofs
def k76_l8 : IC := (.seq (.reg [⟨(some 9), (.bin .lss (.t 8) (.t 7)), none⟩]) (.seq (.cond (.t 9) .skip (.exit 0)) (.seq (.block 1 (.seq (.reg [⟨(some 10), (.ixp 2 (.t 6) (.t 8)), none⟩, ⟨(some 11), (.load 2 true (.t 10)), none⟩, ⟨(some 5), (.box 101 (.c (.agg [(.str []), (.str [])]))), none⟩, ⟨none, (.store 2 (.t 5) (.t 11)), none⟩]) (.regd 9 [⟨(some 12), (.mov (.t 3)), none⟩, ⟨(some 13), (.fda 0 (.t 5)), none⟩, ⟨(some 14), (.load 1 false (.t 13)), none⟩, ⟨(some 15), (.bin .add (.t 14) (.c (.str [61]))), none⟩, ⟨(some 16), (.fda 1 (.t 5)), none⟩, ⟨(some 17), (.load 1 false (.t 16)), none⟩, ⟨(some 18), (.call 96 [(.t 17)]), none⟩, ⟨(some 19), (.bin .add (.t 15) (.t 18)), none⟩, ⟨(some 20), (.bsl 1 [(.t 19)]), none⟩, ⟨(some 21), (.app 9 1 16 (.t 12) (.t 20)), none⟩, ⟨(some 3), (.mov (.t 21)), none⟩]))) (.reg [⟨(some 22), (.bin .add (.t 8) (.c (.int .i64 1))), none⟩, ⟨(some 8), (.mov (.t 22)), none⟩]))))
def k76 : IC := (.seq (.reg [⟨(some 2), (.mov (.c (.str []))), none⟩]) (.seq (.reg [⟨(some 3), (.mov (.c .nl)), none⟩]) (.seq (.seq (.reg [⟨(some 6), (.mov (.t 0)), none⟩, ⟨(some 7), (.len false (.t 6)), none⟩, ⟨(some 8), (.mov (.c (.int .i64 0))), none⟩]) (.block 0 (.loop k76_l8))) (.seq (.reg [⟨(some 23), (.mov (.t 3)), none⟩, ⟨(some 24), (.call 40 [(.t 23), (.c (.str [43]))]), none⟩, ⟨(some 2), (.mov (.t 24)), none⟩]) .ret))))
theorem k76_cf : cfunc Tryd.prog Tryd.f76 = some ⟨25, k76, [(.tmp 2)]⟩ := by kernel_rfl
theorem w_dn_Join_l8 (N : Nat) (a0 : List api_AVA) : ∀ (n : Nat) (x : Int × List (List UInt8)) (y : List (List UInt8)), dn_Join_l8 N a0 n x = some y → WX Tryd.prog (fun _ => false) (.loop k76_l8) ((fun (x : Int × List (List UInt8)) => ⟨ofL [(3, .slr 1003 0 x.2.length), (6, .sl 2 (List.map e_api_AVA a0)), (7, .int .i64 (a0.length : Int)), (8, .int .i64 x.1)], ofL [(1003, ⟨1, true, List.map PV.str x.2⟩)]⟩) x) ((fun y e s => e = .exit 0 ∧ s = ⟨ofL [(3, .slr 1003 0 y.length)], ofL [(1003, ⟨1, true, List.map PV.str y⟩)]⟩ : (List (List UInt8)) → Xt → St → Prop) y) := by
  refine xloop (fun (x : Int × List (List UInt8)) => ⟨ofL [(3, .slr 1003 0 x.2.length), (6, .sl 2 (List.map e_api_AVA a0)), (7, .int .i64 (a0.length : Int)), (8, .int .i64 x.1)], ofL [(1003, ⟨1, true, List.map PV.str x.2⟩)]⟩) _ (dn_Join_l8 N a0) (dn_Join_l8_b N a0) (fun _ => rfl) (fun _ _ => rfl) ?_
  rintro rec ⟨v8l8, r1003l8⟩ y h
  refine xseq ?_
  refine xreg ?_
  refine wpp rfl rfl ?_
  refine xseq ?_
  rcases bifS h with ⟨c1, h⟩ | ⟨c1, h⟩
  · refine xcT rfl c1 ?_
    refine xskip ?_
    refine xseq ?_
    refine xblk ?_
    refine xseq ?_
    refine xreg ?_
    obtain ⟨x10, hx10, h⟩ := bindS h
    refine wpp rfl (p_ixs (cs := [.str x10.Attr, .str x10.Value]) hx10 rfl rfl rfl) ?_
    refine wpp (p := e_api_AVA x10) rfl rfl ?_
    refine woo rfl (obox 5 rfl rfl rfl rfl rfl) ?_
    refine wstb (e' := e_api_AVA x10) rfl rfl rfl rfl rfl rfl rfl rfl nofun rfl ?_
    refine xregd ?_
    refine wdp rfl rfl ?_
    refine wdp rfl rfl ?_
    refine wdp rfl rfl ?_
    obtain ⟨x15, hx15, h⟩ := bindS h
    refine wdp rfl (p_cat hx15 rfl rfl) ?_
    refine wdp rfl rfl ?_
    refine wdp rfl rfl ?_
    obtain ⟨x18, hx18, h⟩ := bindS h
    refine wdN rfl (pcal (sat_dn_Escape N _ _ hx18) rfl (.cons sub_rfl .nil) rfl rfl rfl) no_fresh ?_
    obtain ⟨x19, hx19, h⟩ := bindS h
    refine wdp rfl (p_cat hx19 rfl rfl) ?_
    refine wdN rfl (.bsl _ 20 rfl (okEl_spec rfl) rfl) (fresh1 rfl) ?_
    obtain ⟨x21, hx21, h⟩ := bindS h
    refine wapp (f := PV.str) 21 hx21 rfl rfl rfl rfl rfl (el_row rfl (full_row (f := PV.str) (l := [x19]))) rfl rfl rfl rfl ?_
    refine wpp rfl rfl ?_
    refine xreg ?_
    refine wpp (p := .int .i64 (w64 (v8l8 + (1 : Int)))) rfl rfl ?_
    refine wpp rfl rfl ?_
    exact ⟨((w64 (v8l8 + (1 : Int))), x21), (Norm.trans (rename 21 1003 rfl rfl) (canon0 ⟨rfl, rfl, rfl, rfl, trivial⟩ ⟨rfl, trivial⟩ rfl rfl)), h⟩
  · refine xcF rfl c1 ?_
    obtain rfl := someS h
    exact xexitn (st1 := ⟨ofL [(3, .slr 1003 0 r1003l8.length)], ofL [(1003, ⟨1, true, List.map PV.str r1003l8⟩)]⟩) (canon0 ⟨rfl, trivial⟩ ⟨rfl, trivial⟩ rfl rfl) ⟨rfl, rfl⟩
theorem sat_dn_Join (N : Nat) (a0 : List api_AVA) (r : List UInt8) (h : dn_Join N a0 = some r) : Sat Tryd.prog 76 noRows [.sl 2 (List.map e_api_AVA a0)] (.str r) noRows := by
  refine xsat mixed Tryd.func76 k76_cf (rs := [.str r]) rfl rfl ?_
  refine xseq ?_
  refine xreg ?_
  refine wpp rfl rfl ?_
  refine xseq ?_
  refine xreg ?_
  refine wpp rfl rfl ?_
  refine xseq ?_
  refine xseq ?_
  refine xreg ?_
  refine wpp rfl rfl ?_
  refine wpp rfl (p_lens rfl) ?_
  refine wpp rfl rfl ?_
  refine xblk ?_
  obtain ⟨y2, hy2, h⟩ := bindS h
  refine xloopU (st1 := ⟨ofL [(3, .slr 1003 0 ([].length)), (6, .sl 2 (List.map e_api_AVA a0)), (7, .int .i64 (a0.length : Int)), (8, .int .i64 0)], ofL [(1003, ⟨1, true, List.map PV.str []⟩)]⟩) (Norm.trans (nlrow 3 1003 1 true rfl rfl rfl) (canon0 ⟨rfl, rfl, rfl, rfl, trivial⟩ ⟨rfl, trivial⟩ rfl rfl)) (w_dn_Join_l8 N a0 N _ _ hy2) ?_
  rintro e s ⟨rfl, rfl⟩
  refine xseq ?_
  refine xreg ?_
  refine wpp rfl rfl ?_
  obtain ⟨x24, hx24, h⟩ := bindS h
  refine woo rfl (ocal (sat_strings_Join N _ _ _ hx24) rfl (.cons (bor_row rfl (full_row (f := PV.str) (l := y2))) (.cons sub_rfl .nil)) rfl rfl rfl) ?_
  refine wpp rfl rfl ?_
  obtain rfl := someS h
  refine xret ?_
  exact ⟨nofun, rfl, rfl⟩
end Go.Gp
end
section
set_option linter.unusedVariables false
set_option linter.unusedSimpArgs false
set_option maxRecDepth 4000
namespace Go.Gp
open Go.Vd Go.RowKit Go.Proofs
def k53_l16 : IC := (.seq (.reg [⟨(some 12), (.bin .lss (.t 11) (.t 10)), none⟩]) (.seq (.cond (.t 12) .skip (.exit 0)) (.seq (.block 1 (.seq (.reg [⟨(some 13), (.ixp 1 (.t 9) (.t 11)), none⟩, ⟨(some 14), (.load 1 false (.t 13)), none⟩, ⟨(some 5), (.mov (.t 14)), none⟩]) (.reg [⟨(some 15), (.mov (.t 3)), none⟩, ⟨(some 16), (.mov (.t 5)), none⟩, ⟨(some 17), (.call 76 [(.t 16)]), none⟩, ⟨(some 18), (.bsl 1 [(.t 17)]), none⟩, ⟨(some 19), (.app 9 1 16 (.t 15) (.t 18)), none⟩, ⟨(some 3), (.mov (.t 19)), none⟩]))) (.reg [⟨(some 20), (.bin .add (.t 11) (.c (.int .i64 1))), none⟩, ⟨(some 11), (.mov (.t 20)), none⟩]))))
def k53 : IC := (.seq (.reg [⟨(some 2), (.mov (.c (.str []))), none⟩]) (.seq (.seq (.reg [⟨(some 6), (.mov (.t 0)), none⟩, ⟨(some 7), (.call 75 [(.t 6)]), none⟩, ⟨(some 8), (.un .not (.t 7)), none⟩]) (.cond (.t 8) (.seq (.reg [⟨(some 2), (.mov (.c (.str []))), none⟩]) .ret) .skip)) (.seq (.reg [⟨(some 3), (.mov (.c .nl)), none⟩]) (.seq (.seq (.reg [⟨(some 9), (.mov (.t 0)), none⟩, ⟨(some 10), (.len false (.t 9)), none⟩, ⟨(some 11), (.mov (.c (.int .i64 0))), none⟩]) (.block 0 (.loop k53_l16))) (.seq (.reg [⟨(some 21), (.mov (.t 3)), none⟩, ⟨(some 22), (.call 40 [(.t 21), (.c (.str [44]))]), none⟩, ⟨(some 2), (.mov (.t 22)), none⟩]) .ret)))))
theorem k53_cf : cfunc Tryd.prog Tryd.f53 = some ⟨23, k53, [(.tmp 2)]⟩ := by kernel_rfl
theorem w_dn_Print_l16 (N : Nat) (a0 : List (List api_AVA)) : ∀ (n : Nat) (x : Int × List (List UInt8)) (y : List (List UInt8)), dn_Print_l16 N a0 n x = some y → WX Tryd.prog (fun _ => false) (.loop k53_l16) ((fun (x : Int × List (List UInt8)) => ⟨ofL [(3, .slr 1003 0 x.2.length), (9, .sl 1 (List.map (es 2 e_api_AVA) a0)), (10, .int .i64 (a0.length : Int)), (11, .int .i64 x.1)], ofL [(1003, ⟨1, true, List.map PV.str x.2⟩)]⟩) x) ((fun y e s => e = .exit 0 ∧ s = ⟨ofL [(3, .slr 1003 0 y.length)], ofL [(1003, ⟨1, true, List.map PV.str y⟩)]⟩ : (List (List UInt8)) → Xt → St → Prop) y) := by
  refine xloop (fun (x : Int × List (List UInt8)) => ⟨ofL [(3, .slr 1003 0 x.2.length), (9, .sl 1 (List.map (es 2 e_api_AVA) a0)), (10, .int .i64 (a0.length : Int)), (11, .int .i64 x.1)], ofL [(1003, ⟨1, true, List.map PV.str x.2⟩)]⟩) _ (dn_Print_l16 N a0) (dn_Print_l16_b N a0) (fun _ => rfl) (fun _ _ => rfl) ?_
  rintro rec ⟨v11l16, r1003l16⟩ y h
  refine xseq ?_
  refine xreg ?_
  refine wpp rfl rfl ?_
  refine xseq ?_
  rcases bifS h with ⟨c2, h⟩ | ⟨c2, h⟩
  · refine xcT rfl c2 ?_
    refine xskip ?_
    refine xseq ?_
    refine xblk ?_
    refine xseq ?_
    refine xreg ?_
    obtain ⟨x13, hx13, h⟩ := bindS h
    refine wpp rfl (p_ixs (cs := [.sl 2 (List.map e_api_AVA x13)]) hx13 rfl rfl rfl) ?_
    refine wpp rfl rfl ?_
    refine wpp rfl rfl ?_
    refine xreg ?_
    refine wpp rfl rfl ?_
    refine wpp rfl rfl ?_
    obtain ⟨x17, hx17, h⟩ := bindS h
    refine woo rfl (ocal (sat_dn_Join N _ _ hx17) rfl (.cons sub_rfl .nil) rfl rfl rfl) ?_
    refine woo rfl (obsl 18 rfl rfl rfl) ?_
    obtain ⟨x19, hx19, h⟩ := bindS h
    refine wapp (f := PV.str) 19 hx19 rfl rfl rfl rfl rfl (el_row rfl (full_row (f := PV.str) (l := [x17]))) rfl rfl rfl rfl ?_
    refine wpp rfl rfl ?_
    refine xreg ?_
    refine wpp (p := .int .i64 (w64 (v11l16 + (1 : Int)))) rfl rfl ?_
    refine wpp rfl rfl ?_
    exact ⟨((w64 (v11l16 + (1 : Int))), x19), (Norm.trans (rename 19 1003 rfl rfl) (canon0 ⟨rfl, rfl, rfl, rfl, trivial⟩ ⟨rfl, trivial⟩ rfl rfl)), h⟩
  · refine xcF rfl c2 ?_
    obtain rfl := someS h
    exact xexitn (st1 := ⟨ofL [(3, .slr 1003 0 r1003l16.length)], ofL [(1003, ⟨1, true, List.map PV.str r1003l16⟩)]⟩) (canon0 ⟨rfl, trivial⟩ ⟨rfl, trivial⟩ rfl rfl) ⟨rfl, rfl⟩
theorem sat_dn_Print (N : Nat) (a0 : List (List api_AVA)) (r : List UInt8) (h : dn_Print N a0 = some r) : Sat Tryd.prog 53 noRows [.sl 1 (List.map (es 2 e_api_AVA) a0)] (.str r) noRows := by
  refine xsat mixed Tryd.func53 k53_cf (rs := [.str r]) rfl rfl ?_
  refine xseq ?_
  refine xreg ?_
  refine wpp rfl rfl ?_
  refine xseq ?_
  refine xseq ?_
  refine xreg ?_
  refine wpp rfl rfl ?_
  obtain ⟨x7, hx7, h⟩ := bindS h
  refine woo rfl (ocal (sat_dn_Is N _ _ hx7) rfl (.cons sub_rfl .nil) rfl rfl rfl) ?_
  refine wpp rfl rfl ?_
  rcases bifS h with ⟨c1, h⟩ | ⟨c1, h⟩
  · refine xcT rfl c1 ?_
    refine xseq ?_
    refine xreg ?_
    refine wpp rfl rfl ?_
    obtain rfl := someS h
    refine xret ?_
    exact ⟨nofun, rfl, rfl⟩
  · refine xcF rfl c1 ?_
    refine xskip ?_
    refine xseq ?_
    refine xreg ?_
    refine wpp rfl rfl ?_
    refine xseq ?_
    refine xseq ?_
    refine xreg ?_
    refine wpp rfl rfl ?_
    refine wpp rfl (p_lens rfl) ?_
    refine wpp rfl rfl ?_
    refine xblk ?_
    obtain ⟨y3, hy3, h⟩ := bindS h
    refine xloopU (st1 := ⟨ofL [(3, .slr 1003 0 ([].length)), (9, .sl 1 (List.map (es 2 e_api_AVA) a0)), (10, .int .i64 (a0.length : Int)), (11, .int .i64 0)], ofL [(1003, ⟨1, true, List.map PV.str []⟩)]⟩) (Norm.trans (nlrow 3 1003 1 true rfl rfl rfl) (canon0 ⟨rfl, rfl, rfl, rfl, trivial⟩ ⟨rfl, trivial⟩ rfl rfl)) (w_dn_Print_l16 N a0 N _ _ hy3) ?_
    rintro e s ⟨rfl, rfl⟩
    refine xseq ?_
    refine xreg ?_
    refine wpp rfl rfl ?_
    obtain ⟨x22, hx22, h⟩ := bindS h
    refine woo rfl (ocal (sat_strings_Join N _ _ _ hx22) rfl (.cons (bor_row rfl (full_row (f := PV.str) (l := y3))) (.cons sub_rfl .nil)) rfl rfl rfl) ?_
    refine wpp rfl rfl ?_
    obtain rfl := someS h
    refine xret ?_
    exact ⟨nofun, rfl, rfl⟩
end Go.Gp
end
section
set_option linter.unusedVariables false
set_option linter.unusedSimpArgs false
set_option maxRecDepth 4000
namespace Go.Gp
open Go.Vd Go.RowKit Go.Proofs
def k39 : IC := (.seq (.reg [⟨(some 2), (.mov (.c (.bool false))), none⟩]) (.seq (.block 0 (.seq (.block 2 (.block 1 (.seq (.seq (.seq (.reg [⟨(some 8), (.mov (.t 0)), none⟩, ⟨(some 9), (.bin .eql (.t 8) (.c (.str [97, 110, 121]))), none⟩, ⟨(some 7), (.mov (.t 9)), none⟩]) (.cond (.t 7) (.exit 1) .skip)) (.seq (.reg [⟨(some 11), (.mov (.t 0)), none⟩, ⟨(some 12), (.bin .eql (.t 11) (.c (.str [115, 101, 108, 102]))), none⟩, ⟨(some 10), (.mov (.t 12)), none⟩]) (.cond (.t 10) (.exit 2) .skip))) (.exit 0)))) (.seq (.seq (.reg [⟨(some 2), (.mov (.c (.bool true))), none⟩]) .ret) (.exit 0)))) (.seq (.reg [⟨(some 14), (.mov (.t 0)), none⟩, ⟨(some 15), (.call 52 [(.t 14), (.c (.str [100, 110, 58]))]), none⟩, ⟨(some 13), (.mov (.t 15)), none⟩, ⟨(some 16), (.ext 0 (.t 13)), none⟩, ⟨(some 17), (.ext 1 (.t 13)), none⟩, ⟨(some 3), (.mov (.t 16)), none⟩, ⟨(some 4), (.mov (.t 17)), none⟩]) (.seq (.reg [⟨(some 19), (.mov (.t 3)), none⟩, ⟨(some 20), (.call 44 [(.t 19)]), none⟩, ⟨(some 18), (.mov (.t 20)), none⟩, ⟨(some 21), (.ext 0 (.t 18)), none⟩, ⟨(some 22), (.ext 1 (.t 18)), none⟩, ⟨(some 5), (.mov (.t 21)), none⟩, ⟨(some 6), (.mov (.t 22)), none⟩]) (.seq (.reg [⟨(some 23), (.mov (.t 4)), none⟩, ⟨(some 24), (.mov (.t 23)), none⟩, ⟨(some 25), (.mov (.t 3)), (some (24, true))⟩, ⟨(some 26), (.bin .neq (.t 25) (.c (.str []))), (some (24, true))⟩, ⟨(some 27), (.pick (.t 24) (.t 26) (.c (.bool false))), none⟩, ⟨(some 28), (.mov (.t 27)), none⟩, ⟨(some 29), (.mov (.t 6)), (some (28, true))⟩, ⟨(some 30), (.bin .eql (.t 29) (.c (.int .i64 0))), (some (28, true))⟩, ⟨(some 31), (.pick (.t 28) (.t 30) (.c (.bool false))), none⟩, ⟨(some 32), (.mov (.t 31)), none⟩, ⟨(some 33), (.mov (.t 5)), (some (32, true))⟩, ⟨(some 34), (.call 53 [(.t 33)]), (some (32, true))⟩, ⟨(some 35), (.mov (.t 3)), (some (32, true))⟩, ⟨(some 36), (.bin .eql (.t 34) (.t 35)), (some (32, true))⟩, ⟨(some 37), (.pick (.t 32) (.t 36) (.c (.bool false))), none⟩, ⟨(some 2), (.mov (.t 37)), none⟩]) .ret)))))
theorem k39_cf : cfunc Tryd.prog Tryd.f39 = some ⟨38, k39, [(.tmp 2)]⟩ := by kernel_rfl
theorem sat_aci_isWho (N : Nat) (a0 : List UInt8) (r : Bool) (h : aci_isWho N a0 = some r) : Sat Tryd.prog 39 noRows [.str a0] (.bool r) noRows := by
  refine xsat mixed Tryd.func39 k39_cf (rs := [.bool r]) rfl rfl ?_
  refine xseq ?_
  refine xreg ?_
  refine wpp rfl rfl ?_
  refine xseq ?_
  refine xblk ?_
  refine xjoin (fun (x : Unit) => ⟨ofL [], ofL []⟩) (fun x => aci_isWho_j4 = some r) ?_ ?_
  · rintro ⟨⟩ h
    refine xseq ?_
    refine xseq ?_
    refine xreg ?_
    refine wpp rfl rfl ?_
    obtain rfl := someS h
    refine xret ?_
    exact ⟨nofun, rfl, rfl⟩
  · skip
    refine xblk ?_
    refine xblk ?_
    refine xseq ?_
    refine xseq ?_
    refine xseq ?_
    refine xreg ?_
    refine wpp rfl rfl ?_
    refine wpp rfl rfl ?_
    refine wpp rfl rfl ?_
    rcases bifS h with ⟨c1, h⟩ | ⟨c1, h⟩
    · refine xcT rfl c1 ?_
      refine xexit ?_
      exact ⟨(), (canon0 trivial trivial rfl rfl), h⟩
    · refine xcF rfl c1 ?_
      refine xskip ?_
      refine xseq ?_
      refine xreg ?_
      refine wpp rfl rfl ?_
      refine wpp rfl rfl ?_
      refine wpp rfl rfl ?_
      rcases bifS h with ⟨c2, h⟩ | ⟨c2, h⟩
      · refine xcT rfl c2 ?_
        refine xexit ?_
        exact ⟨(), (canon0 trivial trivial rfl rfl), h⟩
      · refine xcF rfl c2 ?_
        refine xskip ?_
        refine xexit ?_
        refine xseq ?_
        refine xreg ?_
        refine wpp rfl rfl ?_
        obtain ⟨x15, hx15, h⟩ := bindS h
        refine woo rfl (ocal (sat_strings_CutPrefix N _ _ _ hx15) rfl (.cons sub_rfl (.cons sub_rfl .nil)) rfl rfl rfl) ?_
        refine wpp rfl rfl ?_
        refine wpp rfl rfl ?_
        refine wpp rfl rfl ?_
        refine wpp rfl rfl ?_
        refine wpp rfl rfl ?_
        refine xseq ?_
        refine xreg ?_
        refine wpp rfl rfl ?_
        obtain ⟨x20, hx20, h⟩ := bindS h
        refine woo rfl (ocal (sat_dn_Parse N _ _ hx20) rfl (.cons sub_rfl .nil) rfl rfl rfl) ?_
        refine wpp rfl rfl ?_
        refine wpp rfl rfl ?_
        refine wpp rfl rfl ?_
        refine wpp rfl rfl ?_
        refine wpp rfl rfl ?_
        obtain ⟨g3, hg3, h⟩ := bindS h
        refine xseg ⟨ofL [(2, .bool g3)], ofL []⟩ ?_ ?_
        · have h := hg3
          refine xreg ?_
          refine wpp rfl rfl ?_
          refine wpp rfl rfl ?_
          rcases bifS h with ⟨c4, h⟩ | ⟨c4, h⟩
          · skip
            refine wpp (gy rfl c4) rfl ?_
            refine wpp (gy rfl c4) rfl ?_
            refine wpp rfl (p_pick1 c4 rfl rfl) ?_
            refine wpp rfl rfl ?_
            rcases bifS h with ⟨c5, h⟩ | ⟨c5, h⟩
            · skip
              refine wpp (gy rfl c5) rfl ?_
              refine wpp (gy rfl c5) rfl ?_
              refine wpp rfl (p_pick1 c5 rfl rfl) ?_
              refine wpp rfl rfl ?_
              rcases bifS h with ⟨c6, h⟩ | ⟨c6, h⟩
              · skip
                refine wpp (gy rfl c6) rfl ?_
                obtain ⟨x34, hx34, h⟩ := bindS h
                refine woo (gy rfl c6) (ocal (sat_dn_Print N _ _ hx34) rfl (.cons sub_rfl .nil) rfl rfl rfl) ?_
                refine wpp (gy rfl c6) rfl ?_
                refine wpp (gy rfl c6) rfl ?_
                refine wpp rfl (p_pick1 c6 rfl rfl) ?_
                refine wpp rfl rfl ?_
                obtain rfl := someS h
                exact (canon0 ⟨rfl, trivial⟩ trivial rfl rfl)
              · skip
                refine wsk (gn rfl c6) ?_
                refine wsk (gn rfl c6) ?_
                refine wsk (gn rfl c6) ?_
                refine wsk (gn rfl c6) ?_
                refine wpp rfl (p_pick0 c6 rfl rfl) ?_
                refine wpp rfl rfl ?_
                obtain rfl := someS h
                exact (canon0 ⟨rfl, trivial⟩ trivial rfl rfl)
            · skip
              refine wsk (gn rfl c5) ?_
              refine wsk (gn rfl c5) ?_
              refine wpp rfl (p_pick0 c5 rfl rfl) ?_
              refine wpp rfl rfl ?_
              refine wsk rfl ?_
              refine wsk rfl ?_
              refine wsk rfl ?_
              refine wsk rfl ?_
              refine wpp rfl rfl ?_
              refine wpp rfl rfl ?_
              obtain rfl := someS h
              exact (canon0 ⟨rfl, trivial⟩ trivial rfl rfl)
          · skip
            refine wsk (gn rfl c4) ?_
            refine wsk (gn rfl c4) ?_
            refine wpp rfl (p_pick0 c4 rfl rfl) ?_
            refine wpp rfl rfl ?_
            refine wsk rfl ?_
            refine wsk rfl ?_
            refine wpp rfl rfl ?_
            refine wpp rfl rfl ?_
            refine wsk rfl ?_
            refine wsk rfl ?_
            refine wsk rfl ?_
            refine wsk rfl ?_
            refine wpp rfl rfl ?_
            refine wpp rfl rfl ?_
            obtain rfl := someS h
            exact (canon0 ⟨rfl, trivial⟩ trivial rfl rfl)
        · clear hg3
          obtain rfl := someS h
          refine xret ?_
          exact ⟨nofun, rfl, rfl⟩
end Go.Gp
end
section
set_option linter.unusedVariables false
set_option linter.unusedSimpArgs false
set_option maxRecDepth 4000
namespace Go.Gp
open Go.Vd Go.RowKit Go.Proofs
def k24_l6 : IC := (.seq (.reg [⟨(some 11), (.bin .lss (.t 10) (.t 9)), none⟩]) (.seq (.cond (.t 11) .skip (.exit 0)) (.seq (.block 1 (.seq (.reg [⟨(some 12), (.mov (.t 10)), none⟩, ⟨(some 13), (.ixp 1 (.t 8) (.t 10)), none⟩, ⟨(some 14), (.load 1 false (.t 13)), none⟩, ⟨(some 3), (.mov (.t 12)), none⟩, ⟨(some 4), (.mov (.t 14)), none⟩]) (.seq (.reg [⟨(some 16), (.mov (.t 4)), none⟩, ⟨(some 17), (.call 10 [(.t 16)]), none⟩, ⟨(some 15), (.mov (.t 17)), none⟩, ⟨(some 18), (.ext 0 (.t 15)), none⟩, ⟨(some 19), (.ext 1 (.t 15)), none⟩, ⟨(some 5), (.box 24 (.c (.agg [(.str []), (.int .i64 0), (.bool false)]))), none⟩, ⟨none, (.store 3 (.t 5) (.t 18)), none⟩, ⟨(some 6), (.mov (.t 19)), none⟩]) (.seq (.reg [⟨(some 20), (.mov (.t 6)), none⟩, ⟨(some 21), (.un .not (.t 20)), none⟩, ⟨(some 22), (.mov (.t 21)), none⟩, ⟨(some 23), (.fda 0 (.t 5)), (some (22, false))⟩, ⟨(some 24), (.load 1 false (.t 23)), (some (22, false))⟩, ⟨(some 25), (.mov (.t 4)), (some (22, false))⟩, ⟨(some 26), (.bin .neq (.t 24) (.t 25)), (some (22, false))⟩, ⟨(some 27), (.pick (.t 22) (.c (.bool true)) (.t 26)), none⟩, ⟨(some 28), (.mov (.t 27)), none⟩, ⟨(some 29), (.mov (.t 3)), (some (28, false))⟩, ⟨(some 30), (.bin .gtr (.t 29) (.c (.int .i64 0))), (some (28, false))⟩, ⟨(some 31), (.mov (.t 30)), (some (28, false))⟩, ⟨(some 32), (.mov (.t 4)), (some (31, true))⟩, ⟨(some 33), (.fda 4 (.t 1)), (some (31, true))⟩, ⟨(some 34), (.load 1 false (.t 33)), (some (31, true))⟩, ⟨(some 35), (.mov (.t 3)), (some (31, true))⟩, ⟨(some 36), (.bin .sub (.t 35) (.c (.int .i64 1))), (some (31, true))⟩, ⟨(some 37), (.ixp 1 (.t 34) (.t 36)), (some (31, true))⟩, ⟨(some 38), (.load 1 false (.t 37)), (some (31, true))⟩, ⟨(some 39), (.bin .leq (.t 32) (.t 38)), (some (31, true))⟩, ⟨(some 40), (.pick (.t 31) (.t 39) (.c (.bool false))), (some (28, false))⟩, ⟨(some 41), (.pick (.t 28) (.c (.bool true)) (.t 40)), none⟩]) (.cond (.t 41) (.seq (.reg [⟨(some 2), (.mov (.c (.bool false))), none⟩]) .ret) .skip))))) (.reg [⟨(some 42), (.bin .add (.t 10) (.c (.int .i64 1))), none⟩, ⟨(some 10), (.mov (.t 42)), none⟩]))))
def k24 : IC := (.seq (.reg [⟨(some 1), (.box 41 (.t 0)), none⟩, ⟨(some 2), (.mov (.c (.bool false))), none⟩]) (.seq (.seq (.reg [⟨(some 7), (.fda 4 (.t 1)), none⟩, ⟨(some 8), (.load 1 false (.t 7)), none⟩, ⟨(some 9), (.len false (.t 8)), none⟩, ⟨(some 10), (.mov (.c (.int .i64 0))), none⟩]) (.block 0 (.loop k24_l6))) (.seq (.reg [⟨(some 43), (.fda 1 (.t 1)), none⟩, ⟨(some 44), (.load 1 false (.t 43)), none⟩, ⟨(some 45), (.call 38 [(.t 44)]), none⟩, ⟨(some 46), (.mov (.t 45)), none⟩, ⟨(some 47), (.fda 3 (.t 1)), (some (46, true))⟩, ⟨(some 48), (.load 1 false (.t 47)), (some (46, true))⟩, ⟨(some 49), (.call 39 [(.t 48)]), (some (46, true))⟩, ⟨(some 50), (.pick (.t 46) (.t 49) (.c (.bool false))), none⟩, ⟨(some 2), (.mov (.t 50)), none⟩]) .ret)))
theorem k24_cf : cfunc Tryd.prog Tryd.f24 = some ⟨51, k24, [(.tmp 2)]⟩ := by kernel_rfl
theorem w_aci_Is_l6 (N : Nat) (a0 : api_Rule) : ∀ (n : Nat) (x : Int) (y : Unit ⊕ Bool), aci_Is_l6 N a0 n x = some y → WX Tryd.prog (fun _ => false) (.loop k24_l6) ((fun (x : Int) => ⟨ofL [(1, .ptr 1 0 0), (8, .sl 1 (List.map PV.str a0.Attrs)), (9, .int .i64 (a0.Attrs.length : Int)), (10, .int .i64 x)], ofL [(1, ⟨5, false, [e_api_Rule a0]⟩)]⟩) x) ((Sum.elim (fun y e s => e = .exit 0 ∧ s = ⟨ofL [(1, .ptr 1 0 0)], ofL [(1, ⟨5, false, [e_api_Rule a0]⟩)]⟩) (fun y e s => e = .ret ∧ s = ⟨ofL [(2, .bool y)], ofL []⟩) : (Unit ⊕ Bool) → Xt → St → Prop) y) := by
  refine xloop (fun (x : Int) => ⟨ofL [(1, .ptr 1 0 0), (8, .sl 1 (List.map PV.str a0.Attrs)), (9, .int .i64 (a0.Attrs.length : Int)), (10, .int .i64 x)], ofL [(1, ⟨5, false, [e_api_Rule a0]⟩)]⟩) _ (aci_Is_l6 N a0) (aci_Is_l6_b N a0) (fun _ => rfl) (fun _ _ => rfl) ?_
  rintro rec v10l6 y h
  refine xseq ?_
  refine xreg ?_
  refine wpp rfl rfl ?_
  refine xseq ?_
  rcases bifS h with ⟨c1, h⟩ | ⟨c1, h⟩
  · refine xcT rfl c1 ?_
    refine xskip ?_
    refine xseq ?_
    refine xblk ?_
    refine xseq ?_
    refine xreg ?_
    refine wpp rfl rfl ?_
    obtain ⟨x13, hx13, h⟩ := bindS h
    refine wpp rfl (p_ixs (cs := [.str x13]) hx13 rfl rfl rfl) ?_
    refine wpp rfl rfl ?_
    refine wpp rfl rfl ?_
    refine wpp rfl rfl ?_
    refine xseq ?_
    refine xreg ?_
    refine wpp rfl rfl ?_
    obtain ⟨x17, hx17, h⟩ := bindS h
    refine woo rfl (ocal (sat_schema_Find N _ _ hx17) rfl (.cons sub_rfl .nil) rfl rfl rfl) ?_
    refine wpp rfl rfl ?_
    refine wpp rfl rfl ?_
    refine wpp rfl rfl ?_
    refine woo rfl (obox 5 rfl rfl rfl rfl rfl) ?_
    refine wstb (e' := e_api_Type x17.1) rfl rfl rfl rfl rfl rfl rfl rfl nofun rfl ?_
    refine wpp rfl rfl ?_
    obtain ⟨g2, hg2, h⟩ := bindS h
    refine xseg ⟨ofL [(1, .ptr 1 0 0), (8, .sl 1 (List.map PV.str a0.Attrs)), (9, .int .i64 (a0.Attrs.length : Int)), (10, .int .i64 v10l6), (41, .bool g2)], ofL [(1, ⟨5, false, [e_api_Rule a0]⟩)]⟩ ?_ ?_
    · have h := hg2
      refine xreg ?_
      refine wpp rfl rfl ?_
      refine wpp rfl rfl ?_
      refine wpp rfl rfl ?_
      rcases bifS h with ⟨c3, h⟩ | ⟨c3, h⟩
      · skip
        refine wsk (gn rfl c3) ?_
        refine wsk (gn rfl c3) ?_
        refine wsk (gn rfl c3) ?_
        refine wsk (gn rfl c3) ?_
        refine wpp rfl (p_pick1 c3 rfl rfl) ?_
        refine wpp rfl rfl ?_
        refine wsk rfl ?_
        refine wsk rfl ?_
        refine wsk rfl ?_
        refine wsk (gu rfl) ?_
        refine wsk (gu rfl) ?_
        refine wsk (gu rfl) ?_
        refine wsk (gu rfl) ?_
        refine wsk (gu rfl) ?_
        refine wsk (gu rfl) ?_
        refine wsk (gu rfl) ?_
        refine wsk (gu rfl) ?_
        refine wsk rfl ?_
        refine wpp rfl rfl ?_
        obtain rfl := someS h
        exact (canon0 ⟨rfl, rfl, rfl, rfl, rfl, trivial⟩ ⟨rfl, trivial⟩ rfl rfl)
      · skip
        refine wpp (gy rfl c3) rfl ?_
        refine wpp (gy rfl c3) rfl ?_
        refine wpp (gy rfl c3) rfl ?_
        refine wpp (gy rfl c3) rfl ?_
        refine wpp rfl (p_pick0 c3 rfl rfl) ?_
        refine wpp rfl rfl ?_
        rcases bifS h with ⟨c4, h⟩ | ⟨c4, h⟩
        · skip
          refine wsk (gn rfl c4) ?_
          refine wsk (gn rfl c4) ?_
          refine wsk (gn rfl c4) ?_
          refine wsk (gu rfl) ?_
          refine wsk (gu rfl) ?_
          refine wsk (gu rfl) ?_
          refine wsk (gu rfl) ?_
          refine wsk (gu rfl) ?_
          refine wsk (gu rfl) ?_
          refine wsk (gu rfl) ?_
          refine wsk (gu rfl) ?_
          refine wsk (gn rfl c4) ?_
          refine wpp rfl (p_pick1 c4 rfl rfl) ?_
          obtain rfl := someS h
          exact (canon0 ⟨rfl, rfl, rfl, rfl, rfl, trivial⟩ ⟨rfl, trivial⟩ rfl rfl)
        · skip
          refine wpp (gy rfl c4) rfl ?_
          refine wpp (gy rfl c4) rfl ?_
          refine wpp (gy rfl c4) rfl ?_
          rcases bifS h with ⟨c5, h⟩ | ⟨c5, h⟩
          · skip
            refine wpp (gy rfl c5) rfl ?_
            refine wpp (gy rfl c5) rfl ?_
            refine wpp (gy rfl c5) rfl ?_
            refine wpp (gy rfl c5) rfl ?_
            refine wpp (p := .int .i64 (w64 (v10l6 - (1 : Int)))) (gy rfl c5) rfl ?_
            obtain ⟨x37, hx37, h⟩ := bindS h
            refine wpp (gy rfl c5) (p_ixs (cs := [.str x37]) hx37 rfl rfl rfl) ?_
            refine wpp (gy rfl c5) rfl ?_
            refine wpp (gy rfl c5) rfl ?_
            refine wpp (gy rfl c4) (p_pick1 c5 rfl rfl) ?_
            refine wpp rfl (p_pick0 c4 rfl rfl) ?_
            obtain rfl := someS h
            exact (canon0 ⟨rfl, rfl, rfl, rfl, rfl, trivial⟩ ⟨rfl, trivial⟩ rfl rfl)
          · skip
            refine wsk (gn rfl c5) ?_
            refine wsk (gn rfl c5) ?_
            refine wsk (gn rfl c5) ?_
            refine wsk (gn rfl c5) ?_
            refine wsk (gn rfl c5) ?_
            refine wsk (gn rfl c5) ?_
            refine wsk (gn rfl c5) ?_
            refine wsk (gn rfl c5) ?_
            refine wpp (gy rfl c4) (p_pick0 c5 rfl rfl) ?_
            refine wpp rfl (p_pick0 c4 rfl rfl) ?_
            obtain rfl := someS h
            exact (canon0 ⟨rfl, rfl, rfl, rfl, rfl, trivial⟩ ⟨rfl, trivial⟩ rfl rfl)
    · clear hg2
      rcases bifS h with ⟨c6, h⟩ | ⟨c6, h⟩
      · refine xcT rfl c6 ?_
        refine xseq ?_
        refine xreg ?_
        refine wpp rfl rfl ?_
        obtain rfl := someS h
        exact xretn (st1 := ⟨ofL [(2, .bool false)], ofL []⟩) (canon0 ⟨rfl, trivial⟩ trivial rfl rfl) ⟨rfl, rfl⟩
      · refine xcF rfl c6 ?_
        refine xskip ?_
        refine xreg ?_
        refine wpp (p := .int .i64 (w64 (v10l6 + (1 : Int)))) rfl rfl ?_
        refine wpp rfl rfl ?_
        exact ⟨(w64 (v10l6 + (1 : Int))), (canon0 ⟨rfl, rfl, rfl, rfl, trivial⟩ ⟨rfl, trivial⟩ rfl rfl), h⟩
  · refine xcF rfl c1 ?_
    obtain rfl := someS h
    exact xexitn (st1 := ⟨ofL [(1, .ptr 1 0 0)], ofL [(1, ⟨5, false, [e_api_Rule a0]⟩)]⟩) (canon0 ⟨rfl, trivial⟩ ⟨rfl, trivial⟩ rfl rfl) ⟨rfl, rfl⟩
theorem sat_aci_Is (N : Nat) (a0 : api_Rule) (r : Bool) (h : aci_Is N a0 = some r) : Sat Tryd.prog 24 noRows [e_api_Rule a0] (.bool r) noRows := by
  refine xsat mixed Tryd.func24 k24_cf (rs := [.bool r]) rfl rfl ?_
  refine xseq ?_
  refine xreg ?_
  refine woo rfl (obox 1 rfl rfl rfl rfl rfl) ?_
  refine wpp rfl rfl ?_
  refine xseq ?_
  refine xseq ?_
  refine xreg ?_
  refine wpp rfl rfl ?_
  refine wpp rfl rfl ?_
  refine wpp rfl (p_lens rfl) ?_
  refine wpp rfl rfl ?_
  refine xblk ?_
  obtain ⟨y7, hy7, h⟩ := bindS h
  refine xloopU (st1 := ⟨ofL [(1, .ptr 1 0 0), (8, .sl 1 (List.map PV.str a0.Attrs)), (9, .int .i64 (a0.Attrs.length : Int)), (10, .int .i64 0)], ofL [(1, ⟨5, false, [e_api_Rule a0]⟩)]⟩) (canon0 ⟨rfl, rfl, rfl, rfl, trivial⟩ ⟨rfl, trivial⟩ rfl rfl) (w_aci_Is_l6 N a0 N _ _ hy7) ?_
  clear hy7
  rcases y7 with y7 | y7
  · rintro e s ⟨rfl, rfl⟩
    obtain ⟨g8, hg8, h⟩ := bindS h
    refine xseg ⟨ofL [(2, .bool g8)], ofL []⟩ ?_ ?_
    · have h := hg8
      refine xreg ?_
      refine wpp rfl rfl ?_
      refine wpp rfl rfl ?_
      obtain ⟨x45, hx45, h⟩ := bindS h
      refine woo rfl (ocal (sat_aci_isRights N _ _ hx45) rfl (.cons sub_rfl .nil) rfl rfl rfl) ?_
      refine wpp rfl rfl ?_
      rcases bifS h with ⟨c9, h⟩ | ⟨c9, h⟩
      · skip
        refine wpp (gy rfl c9) rfl ?_
        refine wpp (gy rfl c9) rfl ?_
        obtain ⟨x49, hx49, h⟩ := bindS h
        refine woo (gy rfl c9) (ocal (sat_aci_isWho N _ _ hx49) rfl (.cons sub_rfl .nil) rfl rfl rfl) ?_
        refine wpp rfl (p_pick1 c9 rfl rfl) ?_
        refine wpp rfl rfl ?_
        obtain rfl := someS h
        exact (canon0 ⟨rfl, trivial⟩ trivial rfl rfl)
      · skip
        refine wsk (gn rfl c9) ?_
        refine wsk (gn rfl c9) ?_
        refine wsk (gn rfl c9) ?_
        refine wpp rfl (p_pick0 c9 rfl rfl) ?_
        refine wpp rfl rfl ?_
        obtain rfl := someS h
        exact (canon0 ⟨rfl, trivial⟩ trivial rfl rfl)
    · clear hg8
      obtain rfl := someS h
      refine xret ?_
      exact ⟨nofun, rfl, rfl⟩
  · rintro e s ⟨rfl, rfl⟩
    obtain rfl := someS h
    exact ⟨nofun, rfl, rfl⟩
end Go.Gp
end
section
set_option linter.unusedVariables false
set_option linter.unusedSimpArgs false
set_option maxRecDepth 4000
namespace Go.Gp
open Go.Vd Go.RowKit Go.Proofs
def k25 : IC := (.seq (.reg [⟨(some 1), (.box 41 (.t 0)), none⟩, ⟨(some 2), (.mov (.c (.str []))), none⟩]) (.seq (.seq (.reg [⟨(some 4), (.load 5 true (.t 1)), none⟩, ⟨(some 5), (.call 24 [(.t 4)]), none⟩, ⟨(some 6), (.un .not (.t 5)), none⟩]) (.cond (.t 6) (.seq (.reg [⟨(some 2), (.mov (.c (.str []))), none⟩]) .ret) .skip)) (.seq (.reg [⟨(some 7), (.fda 1 (.t 1)), none⟩, ⟨(some 8), (.load 1 false (.t 7)), none⟩, ⟨(some 9), (.fda 3 (.t 1)), none⟩, ⟨(some 10), (.load 1 false (.t 9)), none⟩, ⟨(some 11), (.build [(.str []), (.str []), (.str []), (.str []), (.str [])] [(0, (1, (.c (.str [103, 114, 97, 110, 116])))), (1, (1, (.t 8))), (2, (1, (.c (.str [98, 97, 115, 101])))), (3, (1, (.c (.str [42])))), (4, (1, (.t 10)))]), none⟩, ⟨(some 3), (.box 65 (.c (.agg [(.str []), (.str []), (.str []), (.str []), (.str [])]))), none⟩, ⟨none, (.store 5 (.t 3) (.t 11)), none⟩]) (.seq (.seq (.reg [⟨(some 12), (.fda 0 (.t 1)), none⟩, ⟨(some 13), (.load 1 false (.t 12)), none⟩]) (.cond (.t 13) (.reg [⟨(some 14), (.ixq 5 1 (.t 3) (.c (.int .i64 0))), none⟩, ⟨none, (.store 1 (.t 14) (.c (.str [100, 101, 110, 121]))), none⟩]) .skip)) (.seq (.seq (.reg [⟨(some 15), (.fda 2 (.t 1)), none⟩, ⟨(some 16), (.load 1 false (.t 15)), none⟩]) (.cond (.t 16) (.reg [⟨(some 17), (.ixq 5 1 (.t 3) (.c (.int .i64 2))), none⟩, ⟨none, (.store 1 (.t 17) (.c (.str [115, 117, 98]))), none⟩]) .skip)) (.seq (.seq (.reg [⟨(some 18), (.fda 4 (.t 1)), none⟩, ⟨(some 19), (.load 1 false (.t 18)), none⟩, ⟨(some 20), (.len false (.t 19)), none⟩, ⟨(some 21), (.bin .gtr (.t 20) (.c (.int .i64 0))), none⟩]) (.cond (.t 21) (.reg [⟨(some 22), (.fda 4 (.t 1)), none⟩, ⟨(some 23), (.load 1 false (.t 22)), none⟩, ⟨(some 24), (.call 40 [(.t 23), (.c (.str [44]))]), none⟩, ⟨(some 25), (.ixq 5 1 (.t 3) (.c (.int .i64 3))), none⟩, ⟨none, (.store 1 (.t 25) (.t 24)), none⟩]) .skip)) (.seq (.reg [⟨(some 26), (.slap 5 (.t 3)), none⟩, ⟨(some 27), (.call 40 [(.t 26), (.c (.str [32]))]), none⟩, ⟨(some 2), (.mov (.t 27)), none⟩]) .ret)))))))
theorem k25_cf : cfunc Tryd.prog Tryd.f25 = some ⟨28, k25, [(.tmp 2)]⟩ := by kernel_rfl
theorem sat_aci_Print (N : Nat) (a0 : api_Rule) (r : List UInt8) (h : aci_Print N a0 = some r) : Sat Tryd.prog 25 noRows [e_api_Rule a0] (.str r) noRows := by
  refine xsat mixed Tryd.func25 k25_cf (rs := [.str r]) rfl rfl ?_
  refine xseq ?_
  refine xreg ?_
  refine woo rfl (obox 1 rfl rfl rfl rfl rfl) ?_
  refine wpp rfl rfl ?_
  refine xseq ?_
  refine xseq ?_
  refine xreg ?_
  refine wpp (p := e_api_Rule a0) rfl rfl ?_
  obtain ⟨x5, hx5, h⟩ := bindS h
  refine woo rfl (ocal (sat_aci_Is N _ _ hx5) rfl (.cons sub_rfl .nil) rfl rfl rfl) ?_
  refine wpp rfl rfl ?_
  rcases bifS h with ⟨c1, h⟩ | ⟨c1, h⟩
  · refine xcT rfl c1 ?_
    refine xseq ?_
    refine xreg ?_
    refine wpp rfl rfl ?_
    obtain rfl := someS h
    refine xret ?_
    exact ⟨nofun, rfl, rfl⟩
  · refine xcF rfl c1 ?_
    refine xskip ?_
    refine xseq ?_
    refine xreg ?_
    refine wpp rfl rfl ?_
    refine wpp rfl rfl ?_
    refine wpp rfl rfl ?_
    refine wpp rfl rfl ?_
    refine wpp (p := .agg [.str ([103, 114, 97, 110, 116] : List UInt8), .str a0.Rights, .str ([98, 97, 115, 101] : List UInt8), .str ([42] : List UInt8), .str a0.Who]) rfl rfl ?_
    refine woo rfl (obox 3 rfl rfl rfl rfl rfl) ?_
    refine wstb (e' := .agg [.str ([103, 114, 97, 110, 116] : List UInt8), .str a0.Rights, .str ([98, 97, 115, 101] : List UInt8), .str ([42] : List UInt8), .str a0.Who]) rfl rfl rfl rfl rfl rfl rfl rfl nofun rfl ?_
    refine xjoin (fun (x : List UInt8 × List UInt8 × List UInt8 × List UInt8 × List UInt8) => ⟨ofL [(1, .ptr 1 0 0), (3, .ptr 3 0 0)], ofL [(1, ⟨5, false, [e_api_Rule a0]⟩), (3, ⟨5, false, [.agg [.str x.1, .str x.2.1, .str x.2.2.1, .str x.2.2.2.1, .str x.2.2.2.2]]⟩)]⟩) (fun x => aci_Print_j12 a0 N x.1 x.2.1 x.2.2.1 x.2.2.2.1 x.2.2.2.2 = some r) ?_ ?_
    · rintro ⟨r3_0j12, r3_1j12, r3_2j12, r3_3j12, r3_4j12⟩ h
      refine xjoin (fun (x : List UInt8 × List UInt8 × List UInt8 × List UInt8 × List UInt8) => ⟨ofL [(1, .ptr 1 0 0), (3, .ptr 3 0 0)], ofL [(1, ⟨5, false, [e_api_Rule a0]⟩), (3, ⟨5, false, [.agg [.str x.1, .str x.2.1, .str x.2.2.1, .str x.2.2.2.1, .str x.2.2.2.2]]⟩)]⟩) (fun x => aci_Print_j18 a0 N x.1 x.2.1 x.2.2.1 x.2.2.2.1 x.2.2.2.2 = some r) ?_ ?_
      · rintro ⟨r3_0j18, r3_1j18, r3_2j18, r3_3j18, r3_4j18⟩ h
        refine xjoin (fun (x : List UInt8 × List UInt8 × List UInt8 × List UInt8 × List UInt8) => ⟨ofL [(3, .ptr 3 0 0)], ofL [(3, ⟨5, false, [.agg [.str x.1, .str x.2.1, .str x.2.2.1, .str x.2.2.2.1, .str x.2.2.2.2]]⟩)]⟩) (fun x => aci_Print_j24 N x.1 x.2.1 x.2.2.1 x.2.2.2.1 x.2.2.2.2 = some r) ?_ ?_
        · rintro ⟨r3_0j24, r3_1j24, r3_2j24, r3_3j24, r3_4j24⟩ h
          refine xseq ?_
          refine xreg ?_
          refine wn (bfreeze 3 rfl rfl rfl) ?_
          refine wpp (p := .sl 1 (List.map PV.str [r3_0j24, r3_1j24, r3_2j24, r3_3j24, r3_4j24])) rfl rfl ?_
          obtain ⟨x27, hx27, h⟩ := bindS h
          refine woo rfl (ocal (sat_strings_Join N _ _ _ hx27) rfl (.cons sub_rfl (.cons sub_rfl .nil)) rfl rfl rfl) ?_
          refine wpp rfl rfl ?_
          obtain rfl := someS h
          refine xret ?_
          exact ⟨nofun, rfl, rfl⟩
        · skip
          refine xseq ?_
          refine xreg ?_
          refine wpp rfl rfl ?_
          refine wpp rfl rfl ?_
          refine wpp rfl (p_lens rfl) ?_
          refine wpp rfl rfl ?_
          rcases bifS h with ⟨c2, h⟩ | ⟨c2, h⟩
          · refine xcT rfl c2 ?_
            refine xreg ?_
            refine wpp rfl rfl ?_
            refine wpp rfl rfl ?_
            obtain ⟨x24, hx24, h⟩ := bindS h
            refine woo rfl (ocal (sat_strings_Join N _ _ _ hx24) rfl (.cons sub_rfl (.cons sub_rfl .nil)) rfl rfl rfl) ?_
            refine wpp rfl rfl ?_
            refine wstb (e' := .agg [.str r3_0j18, .str r3_1j18, .str r3_2j18, .str x24, .str r3_4j18]) rfl rfl rfl rfl rfl rfl rfl rfl nofun rfl ?_
            exact ⟨(r3_0j18, r3_1j18, r3_2j18, x24, r3_4j18), (canon0 ⟨rfl, trivial⟩ ⟨rfl, trivial⟩ rfl rfl), h⟩
          · refine xcF rfl c2 ?_
            refine xskip ?_
            exact ⟨(r3_0j18, r3_1j18, r3_2j18, r3_3j18, r3_4j18), (canon0 ⟨rfl, trivial⟩ ⟨rfl, trivial⟩ rfl rfl), h⟩
      · skip
        refine xseq ?_
        refine xreg ?_
        refine wpp rfl rfl ?_
        refine wpp rfl rfl ?_
        rcases bifS h with ⟨c3, h⟩ | ⟨c3, h⟩
        · refine xcT rfl c3 ?_
          refine xreg ?_
          refine wpp rfl rfl ?_
          refine wstb (e' := .agg [.str r3_0j12, .str r3_1j12, .str ([115, 117, 98] : List UInt8), .str r3_3j12, .str r3_4j12]) rfl rfl rfl rfl rfl rfl rfl rfl nofun rfl ?_
          exact ⟨(r3_0j12, r3_1j12, ([115, 117, 98] : List UInt8), r3_3j12, r3_4j12), (canon0 ⟨rfl, rfl, trivial⟩ ⟨rfl, rfl, trivial⟩ rfl rfl), h⟩
        · refine xcF rfl c3 ?_
          refine xskip ?_
          exact ⟨(r3_0j12, r3_1j12, r3_2j12, r3_3j12, r3_4j12), (canon0 ⟨rfl, rfl, trivial⟩ ⟨rfl, rfl, trivial⟩ rfl rfl), h⟩
    · skip
      refine xseq ?_
      refine xreg ?_
      refine wpp rfl rfl ?_
      refine wpp rfl rfl ?_
      rcases bifS h with ⟨c4, h⟩ | ⟨c4, h⟩
      · refine xcT rfl c4 ?_
        refine xreg ?_
        refine wpp rfl rfl ?_
        refine wstb (e' := .agg [.str ([100, 101, 110, 121] : List UInt8), .str a0.Rights, .str ([98, 97, 115, 101] : List UInt8), .str ([42] : List UInt8), .str a0.Who]) rfl rfl rfl rfl rfl rfl rfl rfl nofun rfl ?_
        exact ⟨(([100, 101, 110, 121] : List UInt8), a0.Rights, ([98, 97, 115, 101] : List UInt8), ([42] : List UInt8), a0.Who), (canon0 ⟨rfl, rfl, trivial⟩ ⟨rfl, rfl, trivial⟩ rfl rfl), h⟩
      · refine xcF rfl c4 ?_
        refine xskip ?_
        exact ⟨(([103, 114, 97, 110, 116] : List UInt8), a0.Rights, ([98, 97, 115, 101] : List UInt8), ([42] : List UInt8), a0.Who), (canon0 ⟨rfl, rfl, trivial⟩ ⟨rfl, rfl, trivial⟩ rfl rfl), h⟩
end Go.Gp
end
section
set_option linter.unusedVariables false
set_option linter.unusedSimpArgs false
set_option maxRecDepth 4000
namespace Go.Gp
open Go.Vd Go.RowKit Go.Proofs
def k22 : IC := (.seq (.reg [⟨(some 2), (.box 41 (.c (.agg [(.bool false), (.str []), (.bool false), (.str []), .nl]))), none⟩, ⟨(some 3), (.mov (.c (.int .i64 0))), none⟩]) (.seq (.reg [⟨(some 6), (.mov (.t 0)), none⟩, ⟨(some 7), (.call 34 [(.t 6), (.c (.str [32])), (.c (.int .i64 5))]), none⟩, ⟨(some 4), (.mov (.t 7)), none⟩]) (.seq (.seq (.reg [⟨(some 8), (.mov (.t 4)), none⟩, ⟨(some 9), (.len false (.t 8)), none⟩, ⟨(some 10), (.bin .neq (.t 9) (.c (.int .i64 5))), none⟩]) (.cond (.t 10) (.seq (.reg [⟨(some 11), (.build [(.bool false), (.str []), (.bool false), (.str []), .nl] []), none⟩, ⟨none, (.store 5 (.t 2) (.t 11)), none⟩, ⟨(some 3), (.mov (.c (.int .i64 20))), none⟩]) .ret) .skip)) (.seq (.regd 16 [⟨(some 12), (.mov (.t 4)), none⟩, ⟨(some 13), (.ixp 1 (.t 12) (.c (.int .i64 0))), none⟩, ⟨(some 14), (.load 1 false (.t 13)), none⟩, ⟨(some 15), (.bin .eql (.t 14) (.c (.str [100, 101, 110, 121]))), none⟩, ⟨(some 16), (.mov (.t 4)), none⟩, ⟨(some 17), (.ixp 1 (.t 16) (.c (.int .i64 1))), none⟩, ⟨(some 18), (.load 1 false (.t 17)), none⟩, ⟨(some 19), (.mov (.t 4)), none⟩, ⟨(some 20), (.ixp 1 (.t 19) (.c (.int .i64 2))), none⟩, ⟨(some 21), (.load 1 false (.t 20)), none⟩, ⟨(some 22), (.bin .eql (.t 21) (.c (.str [115, 117, 98]))), none⟩, ⟨(some 23), (.mov (.t 4)), none⟩, ⟨(some 24), (.ixp 1 (.t 23) (.c (.int .i64 4))), none⟩, ⟨(some 25), (.load 1 false (.t 24)), none⟩, ⟨(some 26), (.build [(.bool false), (.str []), (.bool false), (.str []), .nl] [(0, (1, (.t 15))), (1, (1, (.t 18))), (2, (1, (.t 22))), (3, (1, (.t 25)))]), none⟩, ⟨(some 5), (.box 41 (.c (.agg [(.bool false), (.str []), (.bool false), (.str []), .nl]))), none⟩, ⟨none, (.store 5 (.t 5) (.t 26)), none⟩]) (.seq (.seq (.reg [⟨(some 27), (.mov (.t 4)), none⟩, ⟨(some 28), (.ixp 1 (.t 27) (.c (.int .i64 3))), none⟩, ⟨(some 29), (.load 1 false (.t 28)), none⟩, ⟨(some 30), (.bin .neq (.t 29) (.c (.str [42]))), none⟩]) (.cond (.t 30) (.reg [⟨(some 31), (.mov (.t 4)), none⟩, ⟨(some 32), (.ixp 1 (.t 31) (.c (.int .i64 3))), none⟩, ⟨(some 33), (.load 1 false (.t 32)), none⟩, ⟨(some 34), (.call 35 [(.t 33), (.c (.str [44]))]), none⟩, ⟨(some 35), (.fda 4 (.t 5)), none⟩, ⟨none, (.store 1 (.t 35) (.t 34)), none⟩]) .skip)) (.seq (.seq (.reg [⟨(some 36), (.load 5 true (.t 5)), none⟩, ⟨(some 37), (.call 25 [(.t 36)]), none⟩, ⟨(some 38), (.mov (.t 0)), none⟩, ⟨(some 39), (.bin .neq (.t 37) (.t 38)), none⟩]) (.cond (.t 39) (.seq (.reg [⟨(some 40), (.build [(.bool false), (.str []), (.bool false), (.str []), .nl] []), none⟩, ⟨none, (.store 5 (.t 2) (.t 40)), none⟩, ⟨(some 3), (.mov (.c (.int .i64 20))), none⟩]) .ret) .skip)) (.seq (.reg [⟨(some 41), (.load 5 true (.t 5)), none⟩, ⟨none, (.store 5 (.t 2) (.t 41)), none⟩, ⟨(some 3), (.mov (.c (.int .i64 0))), none⟩]) .ret)))))))
theorem k22_cf : cfunc Tryd.prog Tryd.f22 = some ⟨42, k22, [(.cell 5 true 2), (.tmp 3)]⟩ := by kernel_rfl
theorem sat_aci_Parse (N : Nat) (a0 : List UInt8) (r : api_Rule × Int) (h : aci_Parse N a0 = some r) : Sat Tryd.prog 22 noRows [.str a0] (.tup [e_api_Rule r.1, .int .i64 r.2]) noRows := by
  refine xsat mixed Tryd.func22 k22_cf (rs := [e_api_Rule r.1, .int .i64 r.2]) rfl rfl ?_
  refine xseq ?_
  refine xreg ?_
  refine woo rfl (obox 2 rfl rfl rfl rfl rfl) ?_
  refine wpp rfl rfl ?_
  refine xseq ?_
  refine xreg ?_
  refine wpp rfl rfl ?_
  obtain ⟨x7, hx7, h⟩ := bindS h
  refine woo rfl (ocal (sat_strings_SplitN N _ _ _ _ hx7) rfl (.cons sub_rfl (.cons sub_rfl (.cons sub_rfl .nil))) rfl rfl rfl) ?_
  refine wpp rfl rfl ?_
  refine xseq ?_
  refine xseq ?_
  refine xreg ?_
  refine wpp rfl rfl ?_
  refine wpp rfl (p_lens rfl) ?_
  refine wpp rfl rfl ?_
  rcases bifS h with ⟨c1, h⟩ | ⟨c1, h⟩
  · refine xcT rfl c1 ?_
    refine xseq ?_
    refine xreg ?_
    refine wpp (p := .agg [.bool false, .str ([] : List UInt8), .bool false, .str ([] : List UInt8), .nl]) rfl rfl ?_
    refine wnK (nsub 11 (sub_agg (.cons sub_rfl (.cons sub_rfl (.cons sub_rfl (.cons sub_rfl (.cons (sub_nl 1) .nil))))) rfl) rfl) ?_
    refine wstb (e' := .agg [.bool false, .str ([] : List UInt8), .bool false, .str ([] : List UInt8), .sl 1 (List.map PV.str [])]) rfl rfl rfl rfl rfl rfl rfl rfl nofun rfl ?_
    refine wpp rfl rfl ?_
    obtain rfl := someS h
    refine xret ?_
    exact ⟨nofun, rfl, rfl⟩
  · refine xcF rfl c1 ?_
    refine xskip ?_
    refine xseq ?_
    refine xregd ?_
    refine wdp rfl rfl ?_
    obtain ⟨x13, hx13, h⟩ := bindS h
    refine wdp rfl (p_ixs (cs := [.str x13]) hx13 rfl rfl rfl) ?_
    refine wdp rfl rfl ?_
    refine wdp rfl rfl ?_
    refine wdp rfl rfl ?_
    obtain ⟨x17, hx17, h⟩ := bindS h
    refine wdp rfl (p_ixs (cs := [.str x17]) hx17 rfl rfl rfl) ?_
    refine wdp rfl rfl ?_
    refine wdp rfl rfl ?_
    obtain ⟨x20, hx20, h⟩ := bindS h
    refine wdp rfl (p_ixs (cs := [.str x20]) hx20 rfl rfl rfl) ?_
    refine wdp rfl rfl ?_
    refine wdp rfl rfl ?_
    refine wdp rfl rfl ?_
    obtain ⟨x24, hx24, h⟩ := bindS h
    refine wdp rfl (p_ixs (cs := [.str x24]) hx24 rfl rfl rfl) ?_
    refine wdp rfl rfl ?_
    refine wdp (p := .agg [.bool (x13 == ([100, 101, 110, 121] : List UInt8)), .str x17, .bool (x20 == ([115, 117, 98] : List UInt8)), .str x24, .nl]) rfl rfl ?_
    refine wdN rfl (.box _ 5 rfl (Nat.le_of_ble_eq_true rfl) (by decide) rfl) (fresh1 rfl) ?_
    refine wstb (e' := .agg [.bool (x13 == ([100, 101, 110, 121] : List UInt8)), .str x17, .bool (x20 == ([115, 117, 98] : List UInt8)), .str x24, .nl]) rfl rfl rfl rfl rfl rfl rfl rfl nofun rfl ?_
    refine xjoin (fun (x : api_Rule) => ⟨ofL [(0, .str a0), (2, .ptr 2 0 0), (5, .ptr 5 0 0)], ofL [(2, ⟨5, false, [.agg [.bool false, .str ([] : List UInt8), .bool false, .str ([] : List UInt8), .nl]]⟩), (5, ⟨5, false, [e_api_Rule x]⟩)]⟩) (fun x => aci_Parse_j14 a0 N x = some r) ?_ ?_
    · rintro r5j14 h
      refine xseq ?_
      refine xseq ?_
      refine xreg ?_
      refine wpp (p := e_api_Rule r5j14) rfl rfl ?_
      obtain ⟨x37, hx37, h⟩ := bindS h
      refine woo rfl (ocal (sat_aci_Print N _ _ hx37) rfl (.cons sub_rfl .nil) rfl rfl rfl) ?_
      refine wpp rfl rfl ?_
      refine wpp rfl rfl ?_
      rcases bifS h with ⟨c2, h⟩ | ⟨c2, h⟩
      · refine xcT rfl c2 ?_
        refine xseq ?_
        refine xreg ?_
        refine wpp (p := .agg [.bool false, .str ([] : List UInt8), .bool false, .str ([] : List UInt8), .nl]) rfl rfl ?_
        refine wnK (nsub 40 (sub_agg (.cons sub_rfl (.cons sub_rfl (.cons sub_rfl (.cons sub_rfl (.cons (sub_nl 1) .nil))))) rfl) rfl) ?_
        refine wstb (e' := .agg [.bool false, .str ([] : List UInt8), .bool false, .str ([] : List UInt8), .sl 1 (List.map PV.str [])]) rfl rfl rfl rfl rfl rfl rfl rfl nofun rfl ?_
        refine wpp rfl rfl ?_
        obtain rfl := someS h
        refine xret ?_
        exact ⟨nofun, rfl, rfl⟩
      · refine xcF rfl c2 ?_
        refine xskip ?_
        refine xseq ?_
        refine xreg ?_
        refine wpp (p := e_api_Rule r5j14) rfl rfl ?_
        refine wstb (e' := e_api_Rule r5j14) rfl rfl rfl rfl rfl rfl rfl rfl nofun rfl ?_
        refine wpp rfl rfl ?_
        obtain rfl := someS h
        refine xret ?_
        exact ⟨nofun, rfl, rfl⟩
    · skip
      refine xseq ?_
      refine xreg ?_
      refine wpp rfl rfl ?_
      obtain ⟨x28, hx28, h⟩ := bindS h
      refine wpp rfl (p_ixs (cs := [.str x28]) hx28 rfl rfl rfl) ?_
      refine wpp rfl rfl ?_
      refine wpp rfl rfl ?_
      rcases bifS h with ⟨c3, h⟩ | ⟨c3, h⟩
      · refine xcT rfl c3 ?_
        refine xreg ?_
        refine wpp rfl rfl ?_
        obtain ⟨x32, hx32, h⟩ := bindS h
        refine wpp rfl (p_ixs (cs := [.str x32]) hx32 rfl rfl rfl) ?_
        refine wpp rfl rfl ?_
        obtain ⟨x34, hx34, h⟩ := bindS h
        refine woo rfl (ocal (sat_strings_Split N _ _ _ hx34) rfl (.cons sub_rfl (.cons sub_rfl .nil)) rfl rfl rfl) ?_
        refine wpp rfl rfl ?_
        refine wstb (e' := .agg [.bool (x13 == ([100, 101, 110, 121] : List UInt8)), .str x17, .bool (x20 == ([115, 117, 98] : List UInt8)), .str x24, .sl 1 (List.map PV.str x34)]) rfl rfl rfl rfl rfl rfl rfl rfl nofun rfl ?_
        exact ⟨(⟨(x13 == ([100, 101, 110, 121] : List UInt8)), x17, (x20 == ([115, 117, 98] : List UInt8)), x24, x34⟩ : api_Rule), (canon0 ⟨rfl, rfl, rfl, trivial⟩ ⟨rfl, rfl, trivial⟩ rfl rfl), h⟩
      · refine xcF rfl c3 ?_
        refine xskip ?_
        exact ⟨(⟨(x13 == ([100, 101, 110, 121] : List UInt8)), x17, (x20 == ([115, 117, 98] : List UInt8)), x24, []⟩ : api_Rule), (Norm.trans (rsub 5 (x := .agg [.bool (x13 == ([100, 101, 110, 121] : List UInt8)), .str x17, .bool (x20 == ([115, 117, 98] : List UInt8)), .str x24, .nl]) (y := .agg [.bool ((⟨(x13 == ([100, 101, 110, 121] : List UInt8)), x17, (x20 == ([115, 117, 98] : List UInt8)), x24, []⟩ : api_Rule).Deny), .str ((⟨(x13 == ([100, 101, 110, 121] : List UInt8)), x17, (x20 == ([115, 117, 98] : List UInt8)), x24, []⟩ : api_Rule).Rights), .bool ((⟨(x13 == ([100, 101, 110, 121] : List UInt8)), x17, (x20 == ([115, 117, 98] : List UInt8)), x24, []⟩ : api_Rule).Sub), .str ((⟨(x13 == ([100, 101, 110, 121] : List UInt8)), x17, (x20 == ([115, 117, 98] : List UInt8)), x24, []⟩ : api_Rule).Who), .sl 1 (List.map PV.str ((⟨(x13 == ([100, 101, 110, 121] : List UInt8)), x17, (x20 == ([115, 117, 98] : List UInt8)), x24, []⟩ : api_Rule).Attrs))]) (.cons sub_rfl (.cons sub_rfl (.cons sub_rfl (.cons sub_rfl (.cons (sub_nl 1) .nil))))) rfl rfl) (canon0 ⟨rfl, rfl, rfl, trivial⟩ ⟨rfl, rfl, trivial⟩ rfl rfl)), h⟩
end Go.Gp
end
section
set_option linter.unusedVariables false
set_option linter.unusedSimpArgs false
set_option maxRecDepth 4000
namespace Go.Gp
open Go.Vd Go.RowKit Go.Proofs
def k41_l14 : IC := (.seq (.reg [⟨(some 14), (.bin .lss (.t 13) (.t 12)), none⟩]) (.seq (.cond (.t 14) .skip (.exit 0)) (.seq (.block 1 (.seq (.reg [⟨(some 15), (.mov (.t 13)), none⟩, ⟨(some 5), (.mov (.t 15)), none⟩]) (.seq (.regd 9 [⟨(some 16), (.mov (.t 0)), none⟩, ⟨(some 17), (.mov (.t 5)), none⟩, ⟨(some 18), (.ixp 1 (.t 16) (.t 17)), none⟩, ⟨(some 19), (.load 1 false (.t 18)), none⟩, ⟨(some 20), (.mov (.t 1)), none⟩, ⟨(some 21), (.mov (.t 5)), none⟩, ⟨(some 22), (.ixp 1 (.t 20) (.t 21)), none⟩, ⟨(some 23), (.load 1 false (.t 22)), none⟩, ⟨(some 24), (.bin .neq (.t 19) (.t 23)), none⟩]) (.cond (.t 24) (.seq (.reg [⟨(some 4), (.mov (.c (.bool false))), none⟩]) .ret) .skip)))) (.reg [⟨(some 25), (.bin .add (.t 13) (.c (.int .i64 1))), none⟩, ⟨(some 13), (.mov (.t 25)), none⟩]))))
def k41 : IC := (.seq (.reg [⟨(some 4), (.mov (.c (.bool false))), none⟩]) (.seq (.seq (.reg [⟨(some 6), (.mov (.t 0)), none⟩, ⟨(some 7), (.len false (.t 6)), none⟩, ⟨(some 8), (.mov (.t 1)), none⟩, ⟨(some 9), (.len false (.t 8)), none⟩, ⟨(some 10), (.bin .neq (.t 7) (.t 9)), none⟩]) (.cond (.t 10) (.seq (.reg [⟨(some 4), (.mov (.c (.bool false))), none⟩]) .ret) .skip)) (.seq (.seq (.reg [⟨(some 11), (.mov (.t 0)), none⟩, ⟨(some 12), (.len false (.t 11)), none⟩, ⟨(some 13), (.mov (.c (.int .i64 0))), none⟩]) (.block 0 (.loop k41_l14))) (.seq (.reg [⟨(some 4), (.mov (.c (.bool true))), none⟩]) .ret))))
theorem k41_cf : cfunc Tryd.prog Tryd.f41 = some ⟨26, k41, [(.tmp 4)]⟩ := by kernel_rfl
theorem w_slices_Equal_string_string_l14 (N : Nat) (a0 : List (List UInt8)) (a1 : List (List UInt8)) : ∀ (n : Nat) (x : Int) (y : Unit ⊕ Bool), slices_Equal_string_string_l14 N a0 a1 n x = some y → WX Tryd.prog (fun _ => false) (.loop k41_l14) ((fun (x : Int) => ⟨ofL [(0, .sl 1 (List.map PV.str a0)), (1, .sl 1 (List.map PV.str a1)), (12, .int .i64 (a0.length : Int)), (13, .int .i64 x)], ofL []⟩) x) ((Sum.elim (fun y e s => e = .exit 0 ∧ s = ⟨ofL [], ofL []⟩) (fun y e s => e = .ret ∧ s = ⟨ofL [(4, .bool y)], ofL []⟩) : (Unit ⊕ Bool) → Xt → St → Prop) y) := by
  refine xloop (fun (x : Int) => ⟨ofL [(0, .sl 1 (List.map PV.str a0)), (1, .sl 1 (List.map PV.str a1)), (12, .int .i64 (a0.length : Int)), (13, .int .i64 x)], ofL []⟩) _ (slices_Equal_string_string_l14 N a0 a1) (slices_Equal_string_string_l14_b N a0 a1) (fun _ => rfl) (fun _ _ => rfl) ?_
  rintro rec v13l14 y h
  refine xseq ?_
  refine xreg ?_
  refine wpp rfl rfl ?_
  refine xseq ?_
  rcases bifS h with ⟨c2, h⟩ | ⟨c2, h⟩
  · refine xcT rfl c2 ?_
    refine xskip ?_
    refine xseq ?_
    refine xblk ?_
    refine xseq ?_
    refine xreg ?_
    refine wpp rfl rfl ?_
    refine wpp rfl rfl ?_
    refine xseq ?_
    refine xregd ?_
    refine wdp rfl rfl ?_
    refine wdp rfl rfl ?_
    obtain ⟨x18, hx18, h⟩ := bindS h
    refine wdp rfl (p_ixs (cs := [.str x18]) hx18 rfl rfl rfl) ?_
    refine wdp rfl rfl ?_
    refine wdp rfl rfl ?_
    refine wdp rfl rfl ?_
    obtain ⟨x22, hx22, h⟩ := bindS h
    refine wdp rfl (p_ixs (cs := [.str x22]) hx22 rfl rfl rfl) ?_
    refine wdp rfl rfl ?_
    refine wdp rfl rfl ?_
    rcases bifS h with ⟨c3, h⟩ | ⟨c3, h⟩
    · refine xcT rfl c3 ?_
      refine xseq ?_
      refine xreg ?_
      refine wpp rfl rfl ?_
      obtain rfl := someS h
      exact xretn (st1 := ⟨ofL [(4, .bool false)], ofL []⟩) (canon0 ⟨rfl, trivial⟩ trivial rfl rfl) ⟨rfl, rfl⟩
    · refine xcF rfl c3 ?_
      refine xskip ?_
      refine xreg ?_
      refine wpp (p := .int .i64 (w64 (v13l14 + (1 : Int)))) rfl rfl ?_
      refine wpp rfl rfl ?_
      exact ⟨(w64 (v13l14 + (1 : Int))), (canon0 ⟨rfl, rfl, rfl, rfl, trivial⟩ trivial rfl rfl), h⟩
  · refine xcF rfl c2 ?_
    obtain rfl := someS h
    exact xexitn (st1 := ⟨ofL [], ofL []⟩) (canon0 trivial trivial rfl rfl) ⟨rfl, rfl⟩
theorem sat_slices_Equal_string_string (N : Nat) (a0 : List (List UInt8)) (a1 : List (List UInt8)) (r : Bool) (h : slices_Equal_string_string N a0 a1 = some r) : Sat Tryd.prog 41 noRows [.sl 1 (List.map PV.str a0), .sl 1 (List.map PV.str a1)] (.bool r) noRows := by
  refine xsat mixed Tryd.func41 k41_cf (rs := [.bool r]) rfl rfl ?_
  refine xseq ?_
  refine xreg ?_
  refine wpp rfl rfl ?_
  refine xseq ?_
  refine xseq ?_
  refine xreg ?_
  refine wpp rfl rfl ?_
  refine wpp rfl (p_lens rfl) ?_
  refine wpp rfl rfl ?_
  refine wpp rfl (p_lens rfl) ?_
  refine wpp rfl rfl ?_
  rcases bifS h with ⟨c1, h⟩ | ⟨c1, h⟩
  · refine xcT rfl c1 ?_
    refine xseq ?_
    refine xreg ?_
    refine wpp rfl rfl ?_
    obtain rfl := someS h
    refine xret ?_
    exact ⟨nofun, rfl, rfl⟩
  · refine xcF rfl c1 ?_
    refine xskip ?_
    refine xseq ?_
    refine xseq ?_
    refine xreg ?_
    refine wpp rfl rfl ?_
    refine wpp rfl (p_lens rfl) ?_
    refine wpp rfl rfl ?_
    refine xblk ?_
    obtain ⟨y4, hy4, h⟩ := bindS h
    refine xloopU (st1 := ⟨ofL [(0, .sl 1 (List.map PV.str a0)), (1, .sl 1 (List.map PV.str a1)), (12, .int .i64 (a0.length : Int)), (13, .int .i64 0)], ofL []⟩) (canon0 ⟨rfl, rfl, rfl, rfl, trivial⟩ trivial rfl rfl) (w_slices_Equal_string_string_l14 N a0 a1 N _ _ hy4) ?_
    clear hy4
    rcases y4 with y4 | y4
    · rintro e s ⟨rfl, rfl⟩
      refine xseq ?_
      refine xreg ?_
      refine wpp rfl rfl ?_
      obtain rfl := someS h
      refine xret ?_
      exact ⟨nofun, rfl, rfl⟩
    · rintro e s ⟨rfl, rfl⟩
      obtain rfl := someS h
      exact ⟨nofun, rfl, rfl⟩
end Go.Gp
end
section
set_option linter.unusedVariables false
set_option linter.unusedSimpArgs false
set_option maxRecDepth 4000
namespace Go.Gp
open Go.Vd Go.RowKit Go.Proofs
def k26 : IC := (.seq (.reg [⟨(some 2), (.box 41 (.t 0)), none⟩, ⟨(some 3), (.box 41 (.t 1)), none⟩, ⟨(some 4), (.mov (.c (.bool false))), none⟩]) (.seq (.reg [⟨(some 5), (.fda 0 (.t 2)), none⟩, ⟨(some 6), (.load 1 false (.t 5)), none⟩, ⟨(some 7), (.fda 0 (.t 3)), none⟩, ⟨(some 8), (.load 1 false (.t 7)), none⟩, ⟨(some 9), (.beq false (.t 6) (.t 8)), none⟩, ⟨(some 10), (.mov (.t 9)), none⟩, ⟨(some 11), (.fda 1 (.t 2)), (some (10, true))⟩, ⟨(some 12), (.load 1 false (.t 11)), (some (10, true))⟩, ⟨(some 13), (.fda 1 (.t 3)), (some (10, true))⟩, ⟨(some 14), (.load 1 false (.t 13)), (some (10, true))⟩, ⟨(some 15), (.bin .eql (.t 12) (.t 14)), (some (10, true))⟩, ⟨(some 16), (.pick (.t 10) (.t 15) (.c (.bool false))), none⟩, ⟨(some 17), (.mov (.t 16)), none⟩, ⟨(some 18), (.fda 2 (.t 2)), (some (17, true))⟩, ⟨(some 19), (.load 1 false (.t 18)), (some (17, true))⟩, ⟨(some 20), (.fda 2 (.t 3)), (some (17, true))⟩, ⟨(some 21), (.load 1 false (.t 20)), (some (17, true))⟩, ⟨(some 22), (.beq false (.t 19) (.t 21)), (some (17, true))⟩, ⟨(some 23), (.pick (.t 17) (.t 22) (.c (.bool false))), none⟩, ⟨(some 24), (.mov (.t 23)), none⟩, ⟨(some 25), (.fda 3 (.t 2)), (some (24, true))⟩, ⟨(some 26), (.load 1 false (.t 25)), (some (24, true))⟩, ⟨(some 27), (.fda 3 (.t 3)), (some (24, true))⟩, ⟨(some 28), (.load 1 false (.t 27)), (some (24, true))⟩, ⟨(some 29), (.bin .eql (.t 26) (.t 28)), (some (24, true))⟩, ⟨(some 30), (.pick (.t 24) (.t 29) (.c (.bool false))), none⟩, ⟨(some 31), (.mov (.t 30)), none⟩, ⟨(some 32), (.fda 4 (.t 2)), (some (31, true))⟩, ⟨(some 33), (.load 1 false (.t 32)), (some (31, true))⟩, ⟨(some 34), (.fda 4 (.t 3)), (some (31, true))⟩, ⟨(some 35), (.load 1 false (.t 34)), (some (31, true))⟩, ⟨(some 36), (.call 41 [(.t 33), (.t 35)]), (some (31, true))⟩, ⟨(some 37), (.pick (.t 31) (.t 36) (.c (.bool false))), none⟩, ⟨(some 4), (.mov (.t 37)), none⟩]) .ret))
theorem k26_cf : cfunc Tryd.prog Tryd.f26 = some ⟨38, k26, [(.tmp 4)]⟩ := by kernel_rfl
theorem sat_aci_Same (N : Nat) (a0 : api_Rule) (a1 : api_Rule) (r : Bool) (h : aci_Same N a0 a1 = some r) : Sat Tryd.prog 26 noRows [e_api_Rule a0, e_api_Rule a1] (.bool r) noRows := by
  refine xsat mixed Tryd.func26 k26_cf (rs := [.bool r]) rfl rfl ?_
  refine xseq ?_
  refine xreg ?_
  refine woo rfl (obox 2 rfl rfl rfl rfl rfl) ?_
  refine woo rfl (obox 3 rfl rfl rfl rfl rfl) ?_
  refine wpp rfl rfl ?_
  obtain ⟨g1, hg1, h⟩ := bindS h
  refine xseg ⟨ofL [(4, .bool g1)], ofL []⟩ ?_ ?_
  · have h := hg1
    refine xreg ?_
    refine wpp rfl rfl ?_
    refine wpp rfl rfl ?_
    refine wpp rfl rfl ?_
    refine wpp rfl rfl ?_
    refine wpp rfl rfl ?_
    refine wpp rfl rfl ?_
    rcases bifS h with ⟨c2, h⟩ | ⟨c2, h⟩
    · skip
      refine wpp (gy rfl c2) rfl ?_
      refine wpp (gy rfl c2) rfl ?_
      refine wpp (gy rfl c2) rfl ?_
      refine wpp (gy rfl c2) rfl ?_
      refine wpp (gy rfl c2) rfl ?_
      refine wpp rfl (p_pick1 c2 rfl rfl) ?_
      refine wpp rfl rfl ?_
      rcases bifS h with ⟨c3, h⟩ | ⟨c3, h⟩
      · skip
        refine wpp (gy rfl c3) rfl ?_
        refine wpp (gy rfl c3) rfl ?_
        refine wpp (gy rfl c3) rfl ?_
        refine wpp (gy rfl c3) rfl ?_
        refine wpp (gy rfl c3) rfl ?_
        refine wpp rfl (p_pick1 c3 rfl rfl) ?_
        refine wpp rfl rfl ?_
        rcases bifS h with ⟨c4, h⟩ | ⟨c4, h⟩
        · skip
          refine wpp (gy rfl c4) rfl ?_
          refine wpp (gy rfl c4) rfl ?_
          refine wpp (gy rfl c4) rfl ?_
          refine wpp (gy rfl c4) rfl ?_
          refine wpp (gy rfl c4) rfl ?_
          refine wpp rfl (p_pick1 c4 rfl rfl) ?_
          refine wpp rfl rfl ?_
          rcases bifS h with ⟨c5, h⟩ | ⟨c5, h⟩
          · skip
            refine wpp (gy rfl c5) rfl ?_
            refine wpp (gy rfl c5) rfl ?_
            refine wpp (gy rfl c5) rfl ?_
            refine wpp (gy rfl c5) rfl ?_
            obtain ⟨x36, hx36, h⟩ := bindS h
            refine woo (gy rfl c5) (ocal (sat_slices_Equal_string_string N _ _ _ hx36) rfl (.cons sub_rfl (.cons sub_rfl .nil)) rfl rfl rfl) ?_
            refine wpp rfl (p_pick1 c5 rfl rfl) ?_
            refine wpp rfl rfl ?_
            obtain rfl := someS h
            exact (canon0 ⟨rfl, trivial⟩ trivial rfl rfl)
          · skip
            refine wsk (gn rfl c5) ?_
            refine wsk (gn rfl c5) ?_
            refine wsk (gn rfl c5) ?_
            refine wsk (gn rfl c5) ?_
            refine wsk (gn rfl c5) ?_
            refine wpp rfl (p_pick0 c5 rfl rfl) ?_
            refine wpp rfl rfl ?_
            obtain rfl := someS h
            exact (canon0 ⟨rfl, trivial⟩ trivial rfl rfl)
        · skip
          refine wsk (gn rfl c4) ?_
          refine wsk (gn rfl c4) ?_
          refine wsk (gn rfl c4) ?_
          refine wsk (gn rfl c4) ?_
          refine wsk (gn rfl c4) ?_
          refine wpp rfl (p_pick0 c4 rfl rfl) ?_
          refine wpp rfl rfl ?_
          refine wsk rfl ?_
          refine wsk rfl ?_
          refine wsk rfl ?_
          refine wsk rfl ?_
          refine wsk rfl ?_
          refine wpp rfl rfl ?_
          refine wpp rfl rfl ?_
          obtain rfl := someS h
          exact (canon0 ⟨rfl, trivial⟩ trivial rfl rfl)
      · skip
        refine wsk (gn rfl c3) ?_
        refine wsk (gn rfl c3) ?_
        refine wsk (gn rfl c3) ?_
        refine wsk (gn rfl c3) ?_
        refine wsk (gn rfl c3) ?_
        refine wpp rfl (p_pick0 c3 rfl rfl) ?_
        refine wpp rfl rfl ?_
        refine wsk rfl ?_
        refine wsk rfl ?_
        refine wsk rfl ?_
        refine wsk rfl ?_
        refine wsk rfl ?_
        refine wpp rfl rfl ?_
        refine wpp rfl rfl ?_
        refine wsk rfl ?_
        refine wsk rfl ?_
        refine wsk rfl ?_
        refine wsk rfl ?_
        refine wsk rfl ?_
        refine wpp rfl rfl ?_
        refine wpp rfl rfl ?_
        obtain rfl := someS h
        exact (canon0 ⟨rfl, trivial⟩ trivial rfl rfl)
    · skip
      refine wsk (gn rfl c2) ?_
      refine wsk (gn rfl c2) ?_
      refine wsk (gn rfl c2) ?_
      refine wsk (gn rfl c2) ?_
      refine wsk (gn rfl c2) ?_
      refine wpp rfl (p_pick0 c2 rfl rfl) ?_
      refine wpp rfl rfl ?_
      refine wsk rfl ?_
      refine wsk rfl ?_
      refine wsk rfl ?_
      refine wsk rfl ?_
      refine wsk rfl ?_
      refine wpp rfl rfl ?_
      refine wpp rfl rfl ?_
      refine wsk rfl ?_
      refine wsk rfl ?_
      refine wsk rfl ?_
      refine wsk rfl ?_
      refine wsk rfl ?_
      refine wpp rfl rfl ?_
      refine wpp rfl rfl ?_
      refine wsk rfl ?_
      refine wsk rfl ?_
      refine wsk rfl ?_
      refine wsk rfl ?_
      refine wsk rfl ?_
      refine wpp rfl rfl ?_
      refine wpp rfl rfl ?_
      obtain rfl := someS h
      exact (canon0 ⟨rfl, trivial⟩ trivial rfl rfl)
  · clear hg1
    obtain rfl := someS h
    refine xret ?_
    exact ⟨nofun, rfl, rfl⟩
end Go.Gp
end
