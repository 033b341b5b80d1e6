/- A part of the proof: functions of the program and what they compute. -/
import Derived.Test.YtbndinjjpafmjaaA6
import Derived.Test.YtbndinjjpafmjaaA10
import Derived.Test.YtbndinjjpafmjaaA4
import Derived.Test.YtbndinjjpafmjaaA8
import Derived.Test.YtbndinjjpafmjaaA9
section
set_option linter.unusedVariables false
set_option linter.unusedSimpArgs false
set_option maxRecDepth 4000
namespace Go.Gp
open Go.Vd Go.RowKit Go.Proofs
theorem bcheck_new : Sat Try.prog 58 (ofL [(72000001, bNew)]) [.ptr 72000001 0 0] (.tup []) (ofL [(72000001, bAdr 72000001)]) := bld_check_new (ρ := Try.lays156_ren) { Try.lays156 with } Try.Builder_Extra_156.toX72 72000001 rfl
theorem bcheck_6000001 (n : Nat) (row : Row) : Sat Try.prog 58 (ofL [(72000001, bUse 72000001 6000001 n), (6000001, row)]) [.ptr 72000001 0 0] (.tup []) (ofL [(72000001, bUse 72000001 6000001 n), (6000001, row)]) := bld_check_used (ρ := Try.lays156_ren) { Try.lays156 with } Try.Builder_Extra_156.toX72 72000001 rfl (.slr 6000001 0 n) _ rfl
theorem bstr_6000001 (l : List UInt8) (h0 : l ≠ []) (hm : l.length ≤ 9223372036854775807) : SatC Try.prog 53 (ofL [(72000001, bUse 72000001 6000001 l.length), (6000001, ⟨1, true, l.map eb⟩)]) [.ptr 72000001 0 0] (.str l) (ofL []) := bld_str (ρ := Try.lays156_ren) { Try.lays156 with } Try.Builder_Extra_156 72000001 6000001 rfl rfl l h0 hm
theorem bcheck_6000002 (n : Nat) (row : Row) : Sat Try.prog 58 (ofL [(72000001, bUse 72000001 6000002 n), (6000002, row)]) [.ptr 72000001 0 0] (.tup []) (ofL [(72000001, bUse 72000001 6000002 n), (6000002, row)]) := bld_check_used (ρ := Try.lays156_ren) { Try.lays156 with } Try.Builder_Extra_156.toX72 72000001 rfl (.slr 6000002 0 n) _ rfl
theorem bstr_6000002 (l : List UInt8) (h0 : l ≠ []) (hm : l.length ≤ 9223372036854775807) : SatC Try.prog 53 (ofL [(72000001, bUse 72000001 6000002 l.length), (6000002, ⟨1, true, l.map eb⟩)]) [.ptr 72000001 0 0] (.str l) (ofL []) := bld_str (ρ := Try.lays156_ren) { Try.lays156 with } Try.Builder_Extra_156 72000001 6000002 rfl rfl l h0 hm
theorem bstr_new : SatC Try.prog 53 (ofL [(72000001, bNew)]) [.ptr 72000001 0 0] (.str []) (ofL []) := bld_str_new (ρ := Try.lays156_ren) { Try.lays156 with } Try.Builder_Extra_156 72000001 rfl
theorem keepT : ∀ u, Nat.beq u 72000001 = true → u = 72000001 := fun u h => Nat.eq_of_beq_eq_true h
def k57 : IC := (.seq (.reg [⟨(some 4), (.mov (.c .nili)), none⟩]) (.seq (.reg [⟨(some 5), (.mov (.t 0)), none⟩, ⟨(some 6), (.call 58 [(.t 5)]), none⟩]) (.seq (.reg [⟨(some 7), (.mov (.t 0)), none⟩, ⟨(some 8), (.mov (.t 0)), none⟩, ⟨(some 9), (.nck (.t 8)), none⟩, ⟨(some 10), (.fda 1 (.t 9)), none⟩, ⟨(some 11), (.load 1 false (.t 10)), none⟩, ⟨(some 12), (.mov (.t 1)), none⟩, ⟨(some 13), (.bsl 1 [(.t 12)]), none⟩, ⟨(some 14), (.app 5 1 1 (.t 11) (.t 13)), none⟩, ⟨(some 15), (.nck (.t 7)), none⟩, ⟨(some 16), (.fda 1 (.t 15)), none⟩, ⟨none, (.store 1 (.t 16) (.t 14)), none⟩]) (.seq (.reg [⟨(some 4), (.mov (.c .nili)), none⟩]) .ret))))
theorem k57_cf : cfunc Try.prog Try.f57 = some ⟨17, k57, [(.tmp 4)]⟩ := by kernel_rfl
theorem bwb_new (c : UInt8) (z : List UInt8) (h : appL 1 ([] : List UInt8) [c] = some z) : SatC Try.prog 57 (ofL [(72000001, bNew)]) [.ptr 72000001 0 0, eb c] .nili (ofL [(72000001, bUse 72000001 6000001 z.length), (6000001, ⟨1, true, z.map eb⟩)]) := by
  refine xsatC (fun u => Nat.beq u 72000001) mixed Try.func57 k57_cf (rs := [.nili]) rfl rfl ?_ ?_ ?_
  · intro u hu
    rw [keepT u hu]
    exact ⟨_, rfl⟩
  · intro u row row' h1 h2
    by_cases hu : u = 72000001
    · subst hu
      cases h1
      cases h2
      exact ⟨rfl, rfl, rfl⟩
    · simp only [ofL, beq_false hu, cond_false] at h1
      cases h1
  refine xseq ?_
  refine xreg ?_
  refine wpp rfl rfl ?_
  refine xseq ?_
  refine xreg ?_
  refine wpp rfl rfl ?_
  refine woo rfl (olend [(72000001, bNew)] [(72000001, bAdr 72000001)] bcheck_new rfl rfl ⟨rfl, trivial⟩ rfl rfl rfl) ?_
  refine xseq ?_
  refine xreg ?_
  refine wpp rfl rfl ?_
  refine wpp rfl rfl ?_
  refine wpp rfl rfl ?_
  refine wpp rfl rfl ?_
  refine wpp rfl rfl ?_
  refine wpp rfl rfl ?_
  refine woo rfl (obsl 13 rfl rfl rfl) ?_
  refine wappn (f := eb) 6000001 h rfl rfl rfl (el_row rfl (full_row (f := eb) (l := [c]))) rfl rfl rfl ?_
  refine wpp rfl rfl ?_
  refine wpp rfl rfl ?_
  refine wstb (e' := .agg [.ptr 72000001 0 0, .slr 6000001 0 z.length]) rfl rfl rfl rfl rfl rfl rfl rfl nofun rfl ?_
  refine xseq ?_
  refine xreg ?_
  refine wpp rfl rfl ?_
  refine xret ?_
  exact ⟨nofun, rfl, rfl, ⟨rfl, rfl, trivial⟩, rfl⟩
theorem bwb_6000001 (c : UInt8) (l z : List UInt8) (h : appL 1 l [c] = some z) : SatC Try.prog 57 (ofL [(72000001, bUse 72000001 6000001 l.length), (6000001, ⟨1, true, l.map eb⟩)]) [.ptr 72000001 0 0, eb c] .nili (ofL [(72000001, bUse 72000001 6000002 z.length), (6000002, ⟨1, true, z.map eb⟩)]) := by
  refine xsatC (fun u => Nat.beq u 72000001) mixed Try.func57 k57_cf (rs := [.nili]) rfl rfl ?_ ?_ ?_
  · intro u hu
    rw [keepT u hu]
    exact ⟨_, rfl⟩
  · intro u row row' h1 h2
    by_cases hu : u = 72000001
    · subst hu
      cases h1
      cases h2
      exact ⟨rfl, rfl, rfl⟩
    · have e1 : u = 6000001 := by
        by_cases hv : u = 6000001
        · exact hv
        · simp only [ofL, beq_false hu, beq_false hv, cond_false] at h1
          cases h1
      subst e1
      cases h2
  refine xseq ?_
  refine xreg ?_
  refine wpp rfl rfl ?_
  refine xseq ?_
  refine xreg ?_
  refine wpp rfl rfl ?_
  refine woo rfl (olend [(72000001, bUse 72000001 6000001 l.length), (6000001, ⟨1, true, l.map eb⟩)] [(72000001, bUse 72000001 6000001 l.length), (6000001, ⟨1, true, l.map eb⟩)] (bcheck_6000001 l.length ⟨1, true, l.map eb⟩) rfl rfl ⟨rfl, rfl, trivial⟩ rfl rfl rfl) ?_
  refine xseq ?_
  refine xreg ?_
  refine wpp rfl rfl ?_
  refine wpp rfl rfl ?_
  refine wpp rfl rfl ?_
  refine wpp rfl rfl ?_
  refine wpp rfl rfl ?_
  refine wpp rfl rfl ?_
  refine woo rfl (obsl 13 rfl rfl rfl) ?_
  refine wapp (f := eb) 6000002 h rfl rfl rfl rfl rfl (el_row rfl (full_row (f := eb) (l := [c]))) rfl rfl rfl rfl ?_
  refine wpp rfl rfl ?_
  refine wpp rfl rfl ?_
  refine wstb (e' := .agg [.ptr 72000001 0 0, .slr 6000002 0 z.length]) rfl rfl rfl rfl rfl rfl rfl rfl nofun rfl ?_
  refine xseq ?_
  refine xreg ?_
  refine wpp rfl rfl ?_
  refine xret ?_
  exact ⟨nofun, rfl, rfl, ⟨rfl, rfl, trivial⟩, rfl⟩
theorem bwb_6000002 (c : UInt8) (l z : List UInt8) (h : appL 1 l [c] = some z) : SatC Try.prog 57 (ofL [(72000001, bUse 72000001 6000002 l.length), (6000002, ⟨1, true, l.map eb⟩)]) [.ptr 72000001 0 0, eb c] .nili (ofL [(72000001, bUse 72000001 6000001 z.length), (6000001, ⟨1, true, z.map eb⟩)]) := by
  refine xsatC (fun u => Nat.beq u 72000001) mixed Try.func57 k57_cf (rs := [.nili]) rfl rfl ?_ ?_ ?_
  · intro u hu
    rw [keepT u hu]
    exact ⟨_, rfl⟩
  · intro u row row' h1 h2
    by_cases hu : u = 72000001
    · subst hu
      cases h1
      cases h2
      exact ⟨rfl, rfl, rfl⟩
    · have e1 : u = 6000002 := by
        by_cases hv : u = 6000002
        · exact hv
        · simp only [ofL, beq_false hu, beq_false hv, cond_false] at h1
          cases h1
      subst e1
      cases h2
  refine xseq ?_
  refine xreg ?_
  refine wpp rfl rfl ?_
  refine xseq ?_
  refine xreg ?_
  refine wpp rfl rfl ?_
  refine woo rfl (olend [(72000001, bUse 72000001 6000002 l.length), (6000002, ⟨1, true, l.map eb⟩)] [(72000001, bUse 72000001 6000002 l.length), (6000002, ⟨1, true, l.map eb⟩)] (bcheck_6000002 l.length ⟨1, true, l.map eb⟩) rfl rfl ⟨rfl, rfl, trivial⟩ rfl rfl rfl) ?_
  refine xseq ?_
  refine xreg ?_
  refine wpp rfl rfl ?_
  refine wpp rfl rfl ?_
  refine wpp rfl rfl ?_
  refine wpp rfl rfl ?_
  refine wpp rfl rfl ?_
  refine wpp rfl rfl ?_
  refine woo rfl (obsl 13 rfl rfl rfl) ?_
  refine wapp (f := eb) 6000001 h rfl rfl rfl rfl rfl (el_row rfl (full_row (f := eb) (l := [c]))) rfl rfl rfl rfl ?_
  refine wpp rfl rfl ?_
  refine wpp rfl rfl ?_
  refine wstb (e' := .agg [.ptr 72000001 0 0, .slr 6000001 0 z.length]) rfl rfl rfl rfl rfl rfl rfl rfl nofun rfl ?_
  refine xseq ?_
  refine xreg ?_
  refine wpp rfl rfl ?_
  refine xret ?_
  exact ⟨nofun, rfl, rfl, ⟨rfl, rfl, trivial⟩, rfl⟩
def k52 : IC := (.seq (.reg [⟨(some 4), (.mov (.c (.int .i64 0))), none⟩, ⟨(some 5), (.mov (.c .nili)), none⟩]) (.seq (.reg [⟨(some 6), (.mov (.t 0)), none⟩, ⟨(some 7), (.call 58 [(.t 6)]), none⟩]) (.seq (.reg [⟨(some 8), (.mov (.t 0)), none⟩, ⟨(some 9), (.mov (.t 0)), none⟩, ⟨(some 10), (.nck (.t 9)), none⟩, ⟨(some 11), (.fda 1 (.t 10)), none⟩, ⟨(some 12), (.load 1 false (.t 11)), none⟩, ⟨(some 13), (.mov (.t 1)), none⟩, ⟨(some 14), (.aps 5 (.t 12) (.t 13)), none⟩, ⟨(some 15), (.nck (.t 8)), none⟩, ⟨(some 16), (.fda 1 (.t 15)), none⟩, ⟨none, (.store 1 (.t 16) (.t 14)), none⟩]) (.seq (.reg [⟨(some 17), (.mov (.t 1)), none⟩, ⟨(some 18), (.len true (.t 17)), none⟩, ⟨(some 4), (.mov (.t 18)), none⟩, ⟨(some 5), (.mov (.c .nili)), none⟩]) .ret))))
theorem k52_cf : cfunc Try.prog Try.f52 = some ⟨19, k52, [(.tmp 4), (.tmp 5)]⟩ := by kernel_rfl
theorem bws_new (c : List UInt8) (z : List UInt8) (h : appL 1 ([] : List UInt8) c = some z) : SatC Try.prog 52 (ofL [(72000001, bNew)]) [.ptr 72000001 0 0, .str c] (.tup [.int .i64 (c.length : Int), .nili]) (ofL [(72000001, bUse 72000001 6000001 z.length), (6000001, ⟨1, true, z.map eb⟩)]) := by
  refine xsatC (fun u => Nat.beq u 72000001) mixed Try.func52 k52_cf (rs := [.int .i64 (c.length : Int), .nili]) rfl rfl ?_ ?_ ?_
  · intro u hu
    rw [keepT u hu]
    exact ⟨_, rfl⟩
  · intro u row row' h1 h2
    by_cases hu : u = 72000001
    · subst hu
      cases h1
      cases h2
      exact ⟨rfl, rfl, rfl⟩
    · simp only [ofL, beq_false hu, cond_false] at h1
      cases h1
  refine xseq ?_
  refine xreg ?_
  refine wpp rfl rfl ?_
  refine wpp rfl rfl ?_
  refine xseq ?_
  refine xreg ?_
  refine wpp rfl rfl ?_
  refine woo rfl (olend [(72000001, bNew)] [(72000001, bAdr 72000001)] bcheck_new rfl rfl ⟨rfl, trivial⟩ rfl rfl rfl) ?_
  refine xseq ?_
  refine xreg ?_
  refine wpp rfl rfl ?_
  refine wpp rfl rfl ?_
  refine wpp rfl rfl ?_
  refine wpp rfl rfl ?_
  refine wpp rfl rfl ?_
  refine wpp rfl rfl ?_
  refine wapsn 6000001 h rfl rfl rfl rfl rfl ?_
  refine wpp rfl rfl ?_
  refine wpp rfl rfl ?_
  refine wstb (e' := .agg [.ptr 72000001 0 0, .slr 6000001 0 z.length]) rfl rfl rfl rfl rfl rfl rfl rfl nofun rfl ?_
  refine xseq ?_
  refine xreg ?_
  refine wpp rfl rfl ?_
  refine wpp rfl rfl ?_
  refine wpp rfl rfl ?_
  refine wpp rfl rfl ?_
  refine xret ?_
  exact ⟨nofun, rfl, rfl, ⟨rfl, rfl, trivial⟩, rfl⟩
theorem bws_6000001 (c : List UInt8) (l z : List UInt8) (h : appL 1 l c = some z) : SatC Try.prog 52 (ofL [(72000001, bUse 72000001 6000001 l.length), (6000001, ⟨1, true, l.map eb⟩)]) [.ptr 72000001 0 0, .str c] (.tup [.int .i64 (c.length : Int), .nili]) (ofL [(72000001, bUse 72000001 6000002 z.length), (6000002, ⟨1, true, z.map eb⟩)]) := by
  refine xsatC (fun u => Nat.beq u 72000001) mixed Try.func52 k52_cf (rs := [.int .i64 (c.length : Int), .nili]) rfl rfl ?_ ?_ ?_
  · intro u hu
    rw [keepT u hu]
    exact ⟨_, rfl⟩
  · intro u row row' h1 h2
    by_cases hu : u = 72000001
    · subst hu
      cases h1
      cases h2
      exact ⟨rfl, rfl, rfl⟩
    · have e1 : u = 6000001 := by
        by_cases hv : u = 6000001
        · exact hv
        · simp only [ofL, beq_false hu, beq_false hv, cond_false] at h1
          cases h1
      subst e1
      cases h2
  refine xseq ?_
  refine xreg ?_
  refine wpp rfl rfl ?_
  refine wpp rfl rfl ?_
  refine xseq ?_
  refine xreg ?_
  refine wpp rfl rfl ?_
  refine woo rfl (olend [(72000001, bUse 72000001 6000001 l.length), (6000001, ⟨1, true, l.map eb⟩)] [(72000001, bUse 72000001 6000001 l.length), (6000001, ⟨1, true, l.map eb⟩)] (bcheck_6000001 l.length ⟨1, true, l.map eb⟩) rfl rfl ⟨rfl, rfl, trivial⟩ rfl rfl rfl) ?_
  refine xseq ?_
  refine xreg ?_
  refine wpp rfl rfl ?_
  refine wpp rfl rfl ?_
  refine wpp rfl rfl ?_
  refine wpp rfl rfl ?_
  refine wpp rfl rfl ?_
  refine wpp rfl rfl ?_
  refine waps 6000002 h rfl rfl rfl rfl rfl rfl rfl rfl ?_
  refine wpp rfl rfl ?_
  refine wpp rfl rfl ?_
  refine wstb (e' := .agg [.ptr 72000001 0 0, .slr 6000002 0 z.length]) rfl rfl rfl rfl rfl rfl rfl rfl nofun rfl ?_
  refine xseq ?_
  refine xreg ?_
  refine wpp rfl rfl ?_
  refine wpp rfl rfl ?_
  refine wpp rfl rfl ?_
  refine wpp rfl rfl ?_
  refine xret ?_
  exact ⟨nofun, rfl, rfl, ⟨rfl, rfl, trivial⟩, rfl⟩
theorem bws_6000002 (c : List UInt8) (l z : List UInt8) (h : appL 1 l c = some z) : SatC Try.prog 52 (ofL [(72000001, bUse 72000001 6000002 l.length), (6000002, ⟨1, true, l.map eb⟩)]) [.ptr 72000001 0 0, .str c] (.tup [.int .i64 (c.length : Int), .nili]) (ofL [(72000001, bUse 72000001 6000001 z.length), (6000001, ⟨1, true, z.map eb⟩)]) := by
  refine xsatC (fun u => Nat.beq u 72000001) mixed Try.func52 k52_cf (rs := [.int .i64 (c.length : Int), .nili]) rfl rfl ?_ ?_ ?_
  · intro u hu
    rw [keepT u hu]
    exact ⟨_, rfl⟩
  · intro u row row' h1 h2
    by_cases hu : u = 72000001
    · subst hu
      cases h1
      cases h2
      exact ⟨rfl, rfl, rfl⟩
    · have e1 : u = 6000002 := by
        by_cases hv : u = 6000002
        · exact hv
        · simp only [ofL, beq_false hu, beq_false hv, cond_false] at h1
          cases h1
      subst e1
      cases h2
  refine xseq ?_
  refine xreg ?_
  refine wpp rfl rfl ?_
  refine wpp rfl rfl ?_
  refine xseq ?_
  refine xreg ?_
  refine wpp rfl rfl ?_
  refine woo rfl (olend [(72000001, bUse 72000001 6000002 l.length), (6000002, ⟨1, true, l.map eb⟩)] [(72000001, bUse 72000001 6000002 l.length), (6000002, ⟨1, true, l.map eb⟩)] (bcheck_6000002 l.length ⟨1, true, l.map eb⟩) rfl rfl ⟨rfl, rfl, trivial⟩ rfl rfl rfl) ?_
  refine xseq ?_
  refine xreg ?_
  refine wpp rfl rfl ?_
  refine wpp rfl rfl ?_
  refine wpp rfl rfl ?_
  refine wpp rfl rfl ?_
  refine wpp rfl rfl ?_
  refine wpp rfl rfl ?_
  refine waps 6000001 h rfl rfl rfl rfl rfl rfl rfl rfl ?_
  refine wpp rfl rfl ?_
  refine wpp rfl rfl ?_
  refine wstb (e' := .agg [.ptr 72000001 0 0, .slr 6000001 0 z.length]) rfl rfl rfl rfl rfl rfl rfl rfl nofun rfl ?_
  refine xseq ?_
  refine xreg ?_
  refine wpp rfl rfl ?_
  refine wpp rfl rfl ?_
  refine wpp rfl rfl ?_
  refine wpp rfl rfl ?_
  refine xret ?_
  exact ⟨nofun, rfl, rfl, ⟨rfl, rfl, trivial⟩, rfl⟩
end Go.Gp
end
section
set_option linter.unusedVariables false
set_option linter.unusedSimpArgs false
set_option maxRecDepth 4000
namespace Go.Gp
open Go.Vd Go.RowKit Go.Proofs
def k50_l8 : IC := (.seq (.reg [⟨(some 10), (.bin .lss (.t 9) (.t 8)), none⟩]) (.seq (.cond (.t 10) .skip (.exit 0)) (.seq (.block 1 (.seq (.reg [⟨(some 11), (.mov (.t 9)), none⟩, ⟨(some 12), (.ixp 1 (.t 7) (.t 9)), none⟩, ⟨(some 13), (.load 1 false (.t 12)), none⟩, ⟨(some 4), (.mov (.t 11)), none⟩, ⟨(some 5), (.mov (.t 13)), none⟩]) (.block 2 (.seq (.block 5 (.seq (.block 4 (.seq (.block 3 (.seq (.seq (.seq (.reg [⟨(some 15), (.mov (.t 5)), none⟩, ⟨(some 16), (.bin .lss (.t 15) (.c (.int .u8 32))), none⟩, ⟨(some 17), (.mov (.t 16)), none⟩, ⟨(some 18), (.mov (.t 5)), (some (17, false))⟩, ⟨(some 19), (.bin .gtr (.t 18) (.c (.int .u8 126))), (some (17, false))⟩, ⟨(some 20), (.pick (.t 17) (.c (.bool true)) (.t 19)), none⟩, ⟨(some 14), (.mov (.t 20)), none⟩]) (.cond (.t 14) (.exit 3) .skip)) (.seq (.seq (.reg [⟨(some 22), (.mov (.t 5)), none⟩, ⟨(some 23), (.call 45 [(.c (.str [44, 43, 34, 92, 60, 62, 59])), (.t 22)]), none⟩, ⟨(some 24), (.bin .geq (.t 23) (.c (.int .i64 0))), none⟩, ⟨(some 21), (.mov (.t 24)), none⟩]) (.cond (.t 21) .skip (.seq (.reg [⟨(some 25), (.mov (.t 4)), none⟩, ⟨(some 26), (.bin .eql (.t 25) (.c (.int .i64 0))), none⟩, ⟨(some 27), (.mov (.t 26)), none⟩, ⟨(some 28), (.mov (.t 5)), (some (27, true))⟩, ⟨(some 29), (.bin .eql (.t 28) (.c (.int .u8 35))), (some (27, true))⟩, ⟨(some 30), (.mov (.t 29)), (some (27, true))⟩, ⟨(some 31), (.mov (.t 5)), (some (30, false))⟩, ⟨(some 32), (.bin .eql (.t 31) (.c (.int .u8 32))), (some (30, false))⟩, ⟨(some 33), (.pick (.t 30) (.c (.bool true)) (.t 32)), (some (27, true))⟩, ⟨(some 34), (.pick (.t 27) (.t 33) (.c (.bool false))), none⟩, ⟨(some 21), (.mov (.t 34)), none⟩]) (.cond (.t 21) .skip (.reg [⟨(some 35), (.mov (.t 4)), none⟩, ⟨(some 36), (.mov (.t 0)), none⟩, ⟨(some 37), (.len true (.t 36)), none⟩, ⟨(some 38), (.bin .sub (.t 37) (.c (.int .i64 1))), none⟩, ⟨(some 39), (.bin .eql (.t 35) (.t 38)), none⟩, ⟨(some 40), (.mov (.t 39)), none⟩, ⟨(some 41), (.mov (.t 5)), (some (40, true))⟩, ⟨(some 42), (.bin .eql (.t 41) (.c (.int .u8 32))), (some (40, true))⟩, ⟨(some 43), (.pick (.t 40) (.t 42) (.c (.bool false))), none⟩, ⟨(some 21), (.mov (.t 43)), none⟩]))))) (.cond (.t 21) (.exit 4) .skip))) (.exit 5))) (.seq (.seq (.reg [⟨(some 44), (.call 57 [(.t 3), (.c (.int .u8 92))]), none⟩]) (.seq (.reg [⟨(some 45), (.mov (.t 5)), none⟩, ⟨(some 46), (.bin .shr (.t 45) (.c (.int .u64 4))), none⟩, ⟨(some 47), (.idxs (.c (.str [48, 49, 50, 51, 52, 53, 54, 55, 56, 57, 97, 98, 99, 100, 101, 102])) (.t 46)), none⟩, ⟨(some 48), (.call 57 [(.t 3), (.t 47)]), none⟩]) (.seq (.reg [⟨(some 49), (.mov (.t 5)), none⟩, ⟨(some 50), (.bin .and (.t 49) (.c (.int .u8 15))), none⟩, ⟨(some 51), (.idxs (.c (.str [48, 49, 50, 51, 52, 53, 54, 55, 56, 57, 97, 98, 99, 100, 101, 102])) (.t 50)), none⟩, ⟨(some 52), (.call 57 [(.t 3), (.t 51)]), none⟩]) (.exit 1)))) (.exit 2)))) (.reg [⟨(some 53), (.call 57 [(.t 3), (.c (.int .u8 92))]), none⟩]))) (.seq (.reg [⟨(some 54), (.mov (.t 5)), none⟩, ⟨(some 55), (.call 57 [(.t 3), (.t 54)]), none⟩]) (.exit 2)))))) (.reg [⟨(some 56), (.bin .add (.t 9) (.c (.int .i64 1))), none⟩, ⟨(some 9), (.mov (.t 56)), none⟩]))))
def k50 : IC := (.seq (.reg [⟨(some 2), (.mov (.c (.str []))), none⟩]) (.seq (.reg [⟨(some 3), (.box 71 (.c (.agg [.nilp, .nl]))), none⟩]) (.seq (.seq (.reg [⟨(some 6), (.mov (.t 0)), none⟩, ⟨(some 7), (.cvs (.t 6)), none⟩, ⟨(some 8), (.len false (.t 7)), none⟩, ⟨(some 9), (.mov (.c (.int .i64 0))), none⟩]) (.block 0 (.loop k50_l8))) (.seq (.reg [⟨(some 57), (.call 53 [(.t 3)]), none⟩, ⟨(some 2), (.mov (.t 57)), none⟩]) .ret))))
theorem k50_cf : cfunc Try.prog Try.f50 = some ⟨58, k50, [(.tmp 2)]⟩ := by kernel_rfl
theorem w_dn_Escape_l8 (N : Nat) (a0 : List UInt8) : ∀ (n : Nat) (x : Int × List UInt8) (y : List UInt8), dn_Escape_l8 N a0 n x = some y → WX Try.prog (fun _ => false) (.loop k50_l8) ((fun (x : Int × List UInt8) => ⟨ofL [(0, .str a0), (3, .ptr 72000001 0 0), (7, .slr 7 0 a0.length), (8, .int .i64 (a0.length : Int)), (9, .int .i64 x.1)], ofL [(7, ⟨1, true, List.map eb a0⟩), (6000001, ⟨1, true, List.map eb x.2⟩), (72000001, ⟨2, false, [.agg [.ptr 72000001 0 0, .slr 6000001 0 x.2.length]]⟩)]⟩) x) ((fun y e s => e = .exit 0 ∧ s = ⟨ofL [(3, .ptr 72000001 0 0)], ofL [(6000001, ⟨1, true, List.map eb y⟩), (72000001, ⟨2, false, [.agg [.ptr 72000001 0 0, .slr 6000001 0 y.length]]⟩)]⟩ : (List UInt8) → Xt → St → Prop) y) := by
  refine xloop (fun (x : Int × List UInt8) => ⟨ofL [(0, .str a0), (3, .ptr 72000001 0 0), (7, .slr 7 0 a0.length), (8, .int .i64 (a0.length : Int)), (9, .int .i64 x.1)], ofL [(7, ⟨1, true, List.map eb a0⟩), (6000001, ⟨1, true, List.map eb x.2⟩), (72000001, ⟨2, false, [.agg [.ptr 72000001 0 0, .slr 6000001 0 x.2.length]]⟩)]⟩) _ (dn_Escape_l8 N a0) (dn_Escape_l8_b N a0) (fun _ => rfl) (fun _ _ => rfl) ?_
  rintro rec ⟨v9l8, r6000001l8⟩ y h
  refine xseq ?_
  refine xreg ?_
  refine wpp rfl rfl ?_
  refine xseq ?_
  rcases bifS h with ⟨c2, h⟩ | ⟨c2, h⟩
  · refine xcT rfl c2 ?_
    refine xskip ?_
    refine xjoin (fun (x : List UInt8) => ⟨ofL [(0, .str a0), (3, .ptr 72000001 0 0), (7, .slr 7 0 a0.length), (8, .int .i64 (a0.length : Int)), (9, .int .i64 v9l8)], ofL [(7, ⟨1, true, List.map eb a0⟩), (6000002, ⟨1, true, List.map eb x⟩), (72000001, ⟨2, false, [.agg [.ptr 72000001 0 0, .slr 6000002 0 x.length]]⟩)]⟩) (fun x => dn_Escape_j15p v9l8 rec x = some y) ?_ ?_
    · rintro r6000002j15 h
      refine xreg ?_
      refine wpp (p := .int .i64 (w64 (v9l8 + (1 : Int)))) rfl rfl ?_
      refine wpp rfl rfl ?_
      exact ⟨((w64 (v9l8 + (1 : Int))), r6000002j15), (Norm.trans (rename 6000002 6000001 rfl rfl) (canon0 ⟨rfl, rfl, rfl, rfl, rfl, trivial⟩ ⟨rfl, rfl, rfl, trivial⟩ rfl rfl)), h⟩
    · skip
      refine xblk ?_
      refine xseq ?_
      refine xreg ?_
      refine wpp rfl rfl ?_
      obtain ⟨x12, hx12, h⟩ := bindS h
      refine wpp rfl (p_ixr hx12 rfl rfl rfl rfl) ?_
      obtain ⟨x13, hx13, h⟩ := bindS h
      refine wpp rfl (p_ldr (f := eb) (v := eb x13) hx13 rfl rfl rfl) ?_
      refine wpp rfl rfl ?_
      refine wpp rfl rfl ?_
      refine xblk ?_
      refine xjoin (fun (x : List UInt8) => ⟨ofL [(0, .str a0), (3, .ptr 72000001 0 0), (5, eb x13), (7, .slr 7 0 a0.length), (8, .int .i64 (a0.length : Int)), (9, .int .i64 v9l8)], ofL [(7, ⟨1, true, List.map eb a0⟩), (6000001, ⟨1, true, List.map eb x⟩), (72000001, ⟨2, false, [.agg [.ptr 72000001 0 0, .slr 6000001 0 x.length]]⟩)]⟩) (fun x => dn_Escape_j20 v9l8 rec x13 x = some y) ?_ ?_
      · rintro r6000001j20 h
        refine xseq ?_
        refine xreg ?_
        refine wpp rfl rfl ?_
        obtain ⟨x55, hx55, h⟩ := bindS h
        refine woo rfl (olendC [(72000001, bUse 72000001 6000001 r6000001j20.length), (6000001, ⟨1, true, List.map eb r6000001j20⟩)] [(72000001, bUse 72000001 6000002 x55.length), (6000002, ⟨1, true, List.map eb x55⟩)] (bwb_6000001 x13 r6000001j20 x55 hx55) rfl rfl ⟨rfl, rfl, trivial⟩ rfl rfl rfl rfl) ?_
        refine xexit ?_
        exact ⟨x55, (canon0 ⟨rfl, rfl, rfl, rfl, rfl, trivial⟩ ⟨rfl, rfl, rfl, trivial⟩ rfl rfl), h⟩
      · skip
        refine xblk ?_
        refine xseq ?_
        refine xblk ?_
        refine xseq ?_
        refine xblk ?_
        refine xseq ?_
        refine xseq ?_
        obtain ⟨g3, hg3, h⟩ := bindS h
        refine xseg ⟨ofL [(0, .str a0), (3, .ptr 72000001 0 0), (4, .int .i64 v9l8), (5, eb x13), (7, .slr 7 0 a0.length), (8, .int .i64 (a0.length : Int)), (9, .int .i64 v9l8), (14, .bool g3)], ofL [(7, ⟨1, true, List.map eb a0⟩), (6000001, ⟨1, true, List.map eb r6000001l8⟩), (72000001, ⟨2, false, [.agg [.ptr 72000001 0 0, .slr 6000001 0 r6000001l8.length]]⟩)]⟩ ?_ ?_
        · have h := hg3
          refine xreg ?_
          refine wpp rfl rfl ?_
          refine wpp (p := .bool (decide (((x13).toNat : Int) < (32 : Int)))) rfl rfl ?_
          refine wpp rfl rfl ?_
          rcases bifS h with ⟨c4, h⟩ | ⟨c4, h⟩
          · skip
            refine wsk (gn rfl c4) ?_
            refine wsk (gn rfl c4) ?_
            refine wpp rfl (p_pick1 c4 rfl rfl) ?_
            refine wpp rfl rfl ?_
            obtain rfl := someS h
            exact (canon0 ⟨rfl, rfl, rfl, rfl, rfl, rfl, rfl, rfl, trivial⟩ ⟨rfl, rfl, rfl, trivial⟩ rfl rfl)
          · skip
            refine wpp (gy rfl c4) rfl ?_
            refine wpp (p := .bool (decide (((x13).toNat : Int) > (126 : Int)))) (gy rfl c4) rfl ?_
            refine wpp rfl (p_pick0 c4 rfl rfl) ?_
            refine wpp rfl rfl ?_
            obtain rfl := someS h
            exact (canon0 ⟨rfl, rfl, rfl, rfl, rfl, rfl, rfl, rfl, trivial⟩ ⟨rfl, rfl, rfl, trivial⟩ rfl rfl)
        · clear hg3
          rcases bifS h with ⟨c5, h⟩ | ⟨c5, h⟩
          · refine xcT rfl c5 ?_
            refine xexit ?_
            refine xseq ?_
            refine xseq ?_
            refine xreg ?_
            obtain ⟨x44, hx44, h⟩ := bindS h
            refine woo rfl (olendC [(72000001, bUse 72000001 6000001 r6000001l8.length), (6000001, ⟨1, true, List.map eb r6000001l8⟩)] [(72000001, bUse 72000001 6000002 x44.length), (6000002, ⟨1, true, List.map eb x44⟩)] (bwb_6000001 (92 : UInt8) r6000001l8 x44 hx44) rfl rfl ⟨rfl, rfl, trivial⟩ rfl rfl rfl rfl) ?_
            refine xseq ?_
            refine xreg ?_
            refine wpp rfl rfl ?_
            refine wpp rfl (p_u8shr (a := x13) (by decide) rfl rfl) ?_
            obtain ⟨x47, hx47, h⟩ := bindS h
            refine wpp rfl (p_idx hx47 rfl rfl) ?_
            obtain ⟨x48, hx48, h⟩ := bindS h
            refine woo rfl (olendC [(72000001, bUse 72000001 6000002 x44.length), (6000002, ⟨1, true, List.map eb x44⟩)] [(72000001, bUse 72000001 6000001 x48.length), (6000001, ⟨1, true, List.map eb x48⟩)] (bwb_6000002 x47 x44 x48 hx48) rfl rfl ⟨rfl, rfl, trivial⟩ rfl rfl rfl rfl) ?_
            refine xseq ?_
            refine xreg ?_
            refine wpp rfl rfl ?_
            refine wpp rfl (p_u8and (a := x13) (b := (15 : UInt8)) rfl rfl) ?_
            obtain ⟨x51, hx51, h⟩ := bindS h
            refine wpp rfl (p_idx hx51 rfl rfl) ?_
            obtain ⟨x52, hx52, h⟩ := bindS h
            refine woo rfl (olendC [(72000001, bUse 72000001 6000001 x48.length), (6000001, ⟨1, true, List.map eb x48⟩)] [(72000001, bUse 72000001 6000002 x52.length), (6000002, ⟨1, true, List.map eb x52⟩)] (bwb_6000001 x51 x48 x52 hx52) rfl rfl ⟨rfl, rfl, trivial⟩ rfl rfl rfl rfl) ?_
            refine xexit ?_
            exact ⟨x52, (canon0 ⟨rfl, rfl, rfl, rfl, rfl, trivial⟩ ⟨rfl, rfl, rfl, trivial⟩ rfl rfl), h⟩
          · refine xcF rfl c5 ?_
            refine xskip ?_
            refine xjoin (fun (x : Bool) => ⟨ofL [(0, .str a0), (3, .ptr 72000001 0 0), (5, eb x13), (7, .slr 7 0 a0.length), (8, .int .i64 (a0.length : Int)), (9, .int .i64 v9l8), (21, .bool x)], ofL [(7, ⟨1, true, List.map eb a0⟩), (6000001, ⟨1, true, List.map eb r6000001l8⟩), (72000001, ⟨2, false, [.agg [.ptr 72000001 0 0, .slr 6000001 0 r6000001l8.length]]⟩)]⟩) (fun x => dn_Escape_j33 v9l8 r6000001l8 rec x13 x = some y) ?_ ?_
            · rintro v21j33 h
              rcases bifS h with ⟨c6, h⟩ | ⟨c6, h⟩
              · refine xcT rfl c6 ?_
                refine xexit ?_
                refine xreg ?_
                obtain ⟨x53, hx53, h⟩ := bindS h
                refine woo rfl (olendC [(72000001, bUse 72000001 6000001 r6000001l8.length), (6000001, ⟨1, true, List.map eb r6000001l8⟩)] [(72000001, bUse 72000001 6000002 x53.length), (6000002, ⟨1, true, List.map eb x53⟩)] (bwb_6000001 (92 : UInt8) r6000001l8 x53 hx53) rfl rfl ⟨rfl, rfl, trivial⟩ rfl rfl rfl rfl) ?_
                exact ⟨x53, (Norm.trans (rename 6000002 6000001 rfl rfl) (canon0 ⟨rfl, rfl, rfl, rfl, rfl, rfl, trivial⟩ ⟨rfl, rfl, rfl, trivial⟩ rfl rfl)), h⟩
              · refine xcF rfl c6 ?_
                refine xskip ?_
                refine xexit ?_
                exact ⟨r6000001l8, (canon0 ⟨rfl, rfl, rfl, rfl, rfl, rfl, trivial⟩ ⟨rfl, rfl, rfl, trivial⟩ rfl rfl), h⟩
            · skip
              refine xseq ?_
              refine xreg ?_
              refine wpp rfl rfl ?_
              obtain ⟨x23, hx23, h⟩ := bindS h
              refine woo rfl (ocal (sat_strings_IndexByte N _ _ _ hx23) rfl (.cons sub_rfl (.cons sub_rfl .nil)) rfl rfl rfl) ?_
              refine wpp rfl rfl ?_
              refine wpp rfl rfl ?_
              rcases bifS h with ⟨c7, h⟩ | ⟨c7, h⟩
              · refine xcT rfl c7 ?_
                refine xskip ?_
                exact ⟨decide (x23 ≥ (0 : Int)), (canon0 ⟨rfl, rfl, rfl, rfl, rfl, rfl, rfl, trivial⟩ ⟨rfl, rfl, rfl, trivial⟩ rfl rfl), h⟩
              · refine xcF rfl c7 ?_
                obtain ⟨g8, hg8, h⟩ := bindS h
                refine xseg ⟨ofL [(0, .str a0), (3, .ptr 72000001 0 0), (4, .int .i64 v9l8), (5, eb x13), (7, .slr 7 0 a0.length), (8, .int .i64 (a0.length : Int)), (9, .int .i64 v9l8), (21, .bool g8)], ofL [(7, ⟨1, true, List.map eb a0⟩), (6000001, ⟨1, true, List.map eb r6000001l8⟩), (72000001, ⟨2, false, [.agg [.ptr 72000001 0 0, .slr 6000001 0 r6000001l8.length]]⟩)]⟩ ?_ ?_
                · have h := hg8
                  refine xreg ?_
                  refine wpp rfl rfl ?_
                  refine wpp rfl rfl ?_
                  refine wpp rfl rfl ?_
                  rcases bifS h with ⟨c9, h⟩ | ⟨c9, h⟩
                  · skip
                    refine wpp (gy rfl c9) rfl ?_
                    refine wpp (p := .bool (((x13).toNat : Int) == (35 : Int))) (gy rfl c9) rfl ?_
                    refine wpp (gy rfl c9) rfl ?_
                    rcases bifS h with ⟨c10, h⟩ | ⟨c10, h⟩
                    · skip
                      refine wsk (gn rfl c10) ?_
                      refine wsk (gn rfl c10) ?_
                      refine wpp (gy rfl c9) (p_pick1 c10 rfl rfl) ?_
                      refine wpp rfl (p_pick1 c9 rfl rfl) ?_
                      refine wpp rfl rfl ?_
                      obtain rfl := someS h
                      exact (canon0 ⟨rfl, rfl, rfl, rfl, rfl, rfl, rfl, rfl, trivial⟩ ⟨rfl, rfl, rfl, trivial⟩ rfl rfl)
                    · skip
                      refine wpp (gy rfl c10) rfl ?_
                      refine wpp (p := .bool (((x13).toNat : Int) == (32 : Int))) (gy rfl c10) rfl ?_
                      refine wpp (gy rfl c9) (p_pick0 c10 rfl rfl) ?_
                      refine wpp rfl (p_pick1 c9 rfl rfl) ?_
                      refine wpp rfl rfl ?_
                      obtain rfl := someS h
                      exact (canon0 ⟨rfl, rfl, rfl, rfl, rfl, rfl, rfl, rfl, trivial⟩ ⟨rfl, rfl, rfl, trivial⟩ rfl rfl)
                  · skip
                    refine wsk (gn rfl c9) ?_
                    refine wsk (gn rfl c9) ?_
                    refine wsk (gn rfl c9) ?_
                    refine wsk (gu rfl) ?_
                    refine wsk (gu rfl) ?_
                    refine wsk (gn rfl c9) ?_
                    refine wpp rfl (p_pick0 c9 rfl rfl) ?_
                    refine wpp rfl rfl ?_
                    obtain rfl := someS h
                    exact (canon0 ⟨rfl, rfl, rfl, rfl, rfl, rfl, rfl, rfl, trivial⟩ ⟨rfl, rfl, rfl, trivial⟩ rfl rfl)
                · clear hg8
                  rcases bifS h with ⟨c11, h⟩ | ⟨c11, h⟩
                  · refine xcT rfl c11 ?_
                    refine xskip ?_
                    exact ⟨g8, (canon0 ⟨rfl, rfl, rfl, rfl, rfl, rfl, rfl, trivial⟩ ⟨rfl, rfl, rfl, trivial⟩ rfl rfl), h⟩
                  · refine xcF rfl c11 ?_
                    refine xreg ?_
                    refine wpp rfl rfl ?_
                    refine wpp rfl rfl ?_
                    refine wpp rfl rfl ?_
                    refine wpp (p := .int .i64 (w64 ((a0.length : Int) - (1 : Int)))) rfl rfl ?_
                    refine wpp rfl rfl ?_
                    refine wpp rfl rfl ?_
                    rcases bifS h with ⟨c12, h⟩ | ⟨c12, h⟩
                    · skip
                      refine wpp (gy rfl c12) rfl ?_
                      refine wpp (p := .bool (((x13).toNat : Int) == (32 : Int))) (gy rfl c12) rfl ?_
                      refine wpp rfl (p_pick1 c12 rfl rfl) ?_
                      refine wpp rfl rfl ?_
                      exact ⟨(((x13).toNat : Int) == (32 : Int)), (canon0 ⟨rfl, rfl, rfl, rfl, rfl, rfl, rfl, trivial⟩ ⟨rfl, rfl, rfl, trivial⟩ rfl rfl), h⟩
                    · skip
                      refine wsk (gn rfl c12) ?_
                      refine wsk (gn rfl c12) ?_
                      refine wpp rfl (p_pick0 c12 rfl rfl) ?_
                      refine wpp rfl rfl ?_
                      exact ⟨false, (canon0 ⟨rfl, rfl, rfl, rfl, rfl, rfl, rfl, trivial⟩ ⟨rfl, rfl, rfl, trivial⟩ rfl rfl), h⟩
  · refine xcF rfl c2 ?_
    obtain rfl := someS h
    exact xexitn (st1 := ⟨ofL [(3, .ptr 72000001 0 0)], ofL [(6000001, ⟨1, true, List.map eb r6000001l8⟩), (72000001, ⟨2, false, [.agg [.ptr 72000001 0 0, .slr 6000001 0 r6000001l8.length]]⟩)]⟩) (canon0 ⟨rfl, trivial⟩ ⟨rfl, rfl, trivial⟩ rfl rfl) ⟨rfl, rfl⟩
theorem sat_dn_Escape (N : Nat) (a0 : List UInt8) (r : List UInt8) (h : dn_Escape N a0 = some r) : Sat Try.prog 50 noRows [.str a0] (.str r) noRows := by
  refine xsat mixed Try.func50 k50_cf (rs := [.str r]) rfl rfl ?_
  refine xseq ?_
  refine xreg ?_
  refine wpp rfl rfl ?_
  refine xseq ?_
  refine xreg ?_
  refine woo rfl (obox 72000001 rfl rfl rfl rfl rfl) ?_
  refine xseq ?_
  refine xseq ?_
  refine xreg ?_
  refine wpp rfl rfl ?_
  refine woo rfl (ocvs 7 rfl rfl) ?_
  refine wpp rfl rfl ?_
  refine wpp rfl rfl ?_
  refine xblk ?_
  refine xpeel ?_
  refine xseq ?_
  refine xseq ?_
  refine xreg ?_
  refine wpp rfl rfl ?_
  refine xseq ?_
  rcases bifS h with ⟨c1, h⟩ | ⟨c1, h⟩
  · refine xcT rfl c1 ?_
    refine xskip ?_
    refine xjoin (fun (x : List UInt8) => ⟨ofL [(0, .str a0), (3, .ptr 72000001 0 0), (7, .slr 7 0 a0.length), (8, .int .i64 (a0.length : Int)), (9, .int .i64 0)], ofL [(7, ⟨1, true, List.map eb a0⟩), (6000001, ⟨1, true, List.map eb x⟩), (72000001, ⟨2, false, [.agg [.ptr 72000001 0 0, .slr 6000001 0 x.length]]⟩)]⟩) (fun x => dn_Escape_j15 a0 N x = some r) ?_ ?_
    · rintro r6000001j15 h
      refine xreg ?_
      refine wpp (p := .int .i64 (1)) rfl rfl ?_
      refine wpp rfl rfl ?_
      obtain ⟨y13, hy13, h⟩ := bindS h
      refine xloopU (st1 := ⟨ofL [(0, .str a0), (3, .ptr 72000001 0 0), (7, .slr 7 0 a0.length), (8, .int .i64 (a0.length : Int)), (9, .int .i64 1)], ofL [(7, ⟨1, true, List.map eb a0⟩), (6000001, ⟨1, true, List.map eb r6000001j15⟩), (72000001, ⟨2, false, [.agg [.ptr 72000001 0 0, .slr 6000001 0 r6000001j15.length]]⟩)]⟩) (canon0 ⟨rfl, rfl, rfl, rfl, rfl, trivial⟩ ⟨rfl, rfl, rfl, trivial⟩ rfl rfl) (w_dn_Escape_l8 N a0 N _ _ hy13) ?_
      rintro e s ⟨rfl, rfl⟩
      refine xseq ?_
      refine xreg ?_
      obtain ⟨x57, hx57, h⟩ := bindS h
      refine woo rfl (olendC [(72000001, bUse 72000001 6000001 y13.length), (6000001, ⟨1, true, List.map eb y13⟩)] [] (bldS_c (bstr_6000001 y13) hx57) rfl rfl ⟨rfl, rfl, trivial⟩ rfl rfl rfl rfl) ?_
      refine wpp rfl rfl ?_
      obtain rfl := someS h
      refine xret ?_
      exact ⟨nofun, rfl, rfl⟩
    · skip
      refine xblk ?_
      refine xseq ?_
      refine xreg ?_
      refine wpp rfl rfl ?_
      obtain ⟨x12, hx12, h⟩ := bindS h
      refine wpp rfl (p_ixr hx12 rfl rfl rfl rfl) ?_
      obtain ⟨x13, hx13, h⟩ := bindS h
      refine wpp rfl (p_ldr (f := eb) (v := eb x13) hx13 rfl rfl rfl) ?_
      refine wpp rfl rfl ?_
      refine wpp rfl rfl ?_
      refine xblk ?_
      refine xseq ?_
      refine xblk ?_
      refine xseq ?_
      refine xblk ?_
      refine xseq ?_
      refine xblk ?_
      refine xseq ?_
      refine xseq ?_
      obtain ⟨g14, hg14, h⟩ := bindS h
      refine xseg ⟨ofL [(0, .str a0), (3, .ptr 72000001 0 0), (4, .int .i64 0), (5, eb x13), (7, .slr 7 0 a0.length), (8, .int .i64 (a0.length : Int)), (9, .int .i64 0), (14, .bool g14)], ofL [(7, ⟨1, true, List.map eb a0⟩), (72000001, ⟨2, false, [.agg [.nilp, .nl]]⟩)]⟩ ?_ ?_
      · have h := hg14
        refine xreg ?_
        refine wpp rfl rfl ?_
        refine wpp (p := .bool (decide (((x13).toNat : Int) < (32 : Int)))) rfl rfl ?_
        refine wpp rfl rfl ?_
        rcases bifS h with ⟨c15, h⟩ | ⟨c15, h⟩
        · skip
          refine wsk (gn rfl c15) ?_
          refine wsk (gn rfl c15) ?_
          refine wpp rfl (p_pick1 c15 rfl rfl) ?_
          refine wpp rfl rfl ?_
          obtain rfl := someS h
          exact (canon0 ⟨rfl, rfl, rfl, rfl, rfl, rfl, rfl, rfl, trivial⟩ ⟨rfl, rfl, trivial⟩ rfl rfl)
        · skip
          refine wpp (gy rfl c15) rfl ?_
          refine wpp (p := .bool (decide (((x13).toNat : Int) > (126 : Int)))) (gy rfl c15) rfl ?_
          refine wpp rfl (p_pick0 c15 rfl rfl) ?_
          refine wpp rfl rfl ?_
          obtain rfl := someS h
          exact (canon0 ⟨rfl, rfl, rfl, rfl, rfl, rfl, rfl, rfl, trivial⟩ ⟨rfl, rfl, trivial⟩ rfl rfl)
      · clear hg14
        rcases bifS h with ⟨c16, h⟩ | ⟨c16, h⟩
        · refine xcT rfl c16 ?_
          refine xexit ?_
          refine xseq ?_
          refine xseq ?_
          refine xreg ?_
          obtain ⟨x44, hx44, h⟩ := bindS h
          refine woo rfl (olendC [(72000001, bNew)] [(72000001, bUse 72000001 6000001 x44.length), (6000001, ⟨1, true, List.map eb x44⟩)] (bwb_new (92 : UInt8) x44 hx44) rfl rfl ⟨rfl, trivial⟩ rfl rfl rfl rfl) ?_
          refine xseq ?_
          refine xreg ?_
          refine wpp rfl rfl ?_
          refine wpp rfl (p_u8shr (a := x13) (by decide) rfl rfl) ?_
          obtain ⟨x47, hx47, h⟩ := bindS h
          refine wpp rfl (p_idx hx47 rfl rfl) ?_
          obtain ⟨x48, hx48, h⟩ := bindS h
          refine woo rfl (olendC [(72000001, bUse 72000001 6000001 x44.length), (6000001, ⟨1, true, List.map eb x44⟩)] [(72000001, bUse 72000001 6000002 x48.length), (6000002, ⟨1, true, List.map eb x48⟩)] (bwb_6000001 x47 x44 x48 hx48) rfl rfl ⟨rfl, rfl, trivial⟩ rfl rfl rfl rfl) ?_
          refine xseq ?_
          refine xreg ?_
          refine wpp rfl rfl ?_
          refine wpp rfl (p_u8and (a := x13) (b := (15 : UInt8)) rfl rfl) ?_
          obtain ⟨x51, hx51, h⟩ := bindS h
          refine wpp rfl (p_idx hx51 rfl rfl) ?_
          obtain ⟨x52, hx52, h⟩ := bindS h
          refine woo rfl (olendC [(72000001, bUse 72000001 6000002 x48.length), (6000002, ⟨1, true, List.map eb x48⟩)] [(72000001, bUse 72000001 6000001 x52.length), (6000001, ⟨1, true, List.map eb x52⟩)] (bwb_6000002 x51 x48 x52 hx52) rfl rfl ⟨rfl, rfl, trivial⟩ rfl rfl rfl rfl) ?_
          refine xexit ?_
          exact ⟨x52, (canon0 ⟨rfl, rfl, rfl, rfl, rfl, trivial⟩ ⟨rfl, rfl, rfl, trivial⟩ rfl rfl), h⟩
        · refine xcF rfl c16 ?_
          refine xskip ?_
          refine xjoin (fun (x : Bool) => ⟨ofL [(0, .str a0), (3, .ptr 72000001 0 0), (5, eb x13), (7, .slr 7 0 a0.length), (8, .int .i64 (a0.length : Int)), (9, .int .i64 0), (21, .bool x)], ofL [(7, ⟨1, true, List.map eb a0⟩), (72000001, ⟨2, false, [.agg [.nilp, .nl]]⟩)]⟩) (fun x => dn_Escape_j33p a0 N x13 x = some r) ?_ ?_
          · rintro v21j33 h
            rcases bifS h with ⟨c17, h⟩ | ⟨c17, h⟩
            · refine xcT rfl c17 ?_
              refine xexit ?_
              refine xreg ?_
              obtain ⟨x53, hx53, h⟩ := bindS h
              refine woo rfl (olendC [(72000001, bNew)] [(72000001, bUse 72000001 6000001 x53.length), (6000001, ⟨1, true, List.map eb x53⟩)] (bwb_new (92 : UInt8) x53 hx53) rfl rfl ⟨rfl, trivial⟩ rfl rfl rfl rfl) ?_
              refine xseq ?_
              refine xreg ?_
              refine wpp rfl rfl ?_
              obtain ⟨x55, hx55, h⟩ := bindS h
              refine woo rfl (olendC [(72000001, bUse 72000001 6000001 x53.length), (6000001, ⟨1, true, List.map eb x53⟩)] [(72000001, bUse 72000001 6000002 x55.length), (6000002, ⟨1, true, List.map eb x55⟩)] (bwb_6000001 x13 x53 x55 hx55) rfl rfl ⟨rfl, rfl, trivial⟩ rfl rfl rfl rfl) ?_
              refine xexit ?_
              exact ⟨x55, (Norm.trans (rename 6000002 6000001 rfl rfl) (canon0 ⟨rfl, rfl, rfl, rfl, rfl, trivial⟩ ⟨rfl, rfl, rfl, trivial⟩ rfl rfl)), h⟩
            · refine xcF rfl c17 ?_
              refine xskip ?_
              refine xexit ?_
              refine xseq ?_
              refine xreg ?_
              refine wpp rfl rfl ?_
              obtain ⟨x55, hx55, h⟩ := bindS h
              refine woo rfl (olendC [(72000001, bNew)] [(72000001, bUse 72000001 6000001 x55.length), (6000001, ⟨1, true, List.map eb x55⟩)] (bwb_new x13 x55 hx55) rfl rfl ⟨rfl, trivial⟩ rfl rfl rfl rfl) ?_
              refine xexit ?_
              exact ⟨x55, (canon0 ⟨rfl, rfl, rfl, rfl, rfl, trivial⟩ ⟨rfl, rfl, rfl, trivial⟩ rfl rfl), h⟩
          · skip
            refine xseq ?_
            refine xreg ?_
            refine wpp rfl rfl ?_
            obtain ⟨x23, hx23, h⟩ := bindS h
            refine woo rfl (ocal (sat_strings_IndexByte N _ _ _ hx23) rfl (.cons sub_rfl (.cons sub_rfl .nil)) rfl rfl rfl) ?_
            refine wpp rfl rfl ?_
            refine wpp rfl rfl ?_
            rcases bifS h with ⟨c18, h⟩ | ⟨c18, h⟩
            · refine xcT rfl c18 ?_
              refine xskip ?_
              exact ⟨decide (x23 ≥ (0 : Int)), (canon0 ⟨rfl, rfl, rfl, rfl, rfl, rfl, rfl, trivial⟩ ⟨rfl, rfl, trivial⟩ rfl rfl), h⟩
            · refine xcF rfl c18 ?_
              obtain ⟨g19, hg19, h⟩ := bindS h
              refine xseg ⟨ofL [(0, .str a0), (3, .ptr 72000001 0 0), (4, .int .i64 0), (5, eb x13), (7, .slr 7 0 a0.length), (8, .int .i64 (a0.length : Int)), (9, .int .i64 0), (21, .bool g19)], ofL [(7, ⟨1, true, List.map eb a0⟩), (72000001, ⟨2, false, [.agg [.nilp, .nl]]⟩)]⟩ ?_ ?_
              · have h := hg19
                refine xreg ?_
                refine wpp rfl rfl ?_
                refine wpp (p := .bool true) rfl rfl ?_
                refine wpp rfl rfl ?_
                refine wpp rfl rfl ?_
                refine wpp (p := .bool (((x13).toNat : Int) == (35 : Int))) rfl rfl ?_
                refine wpp rfl rfl ?_
                rcases bifS h with ⟨c20, h⟩ | ⟨c20, h⟩
                · skip
                  refine wsk (gn rfl c20) ?_
                  refine wsk (gn rfl c20) ?_
                  refine wpp rfl (p_pick1 c20 rfl rfl) ?_
                  refine wpp rfl rfl ?_
                  refine wpp rfl rfl ?_
                  obtain rfl := someS h
                  exact (canon0 ⟨rfl, rfl, rfl, rfl, rfl, rfl, rfl, rfl, trivial⟩ ⟨rfl, rfl, trivial⟩ rfl rfl)
                · skip
                  refine wpp (gy rfl c20) rfl ?_
                  refine wpp (p := .bool (((x13).toNat : Int) == (32 : Int))) (gy rfl c20) rfl ?_
                  refine wpp rfl (p_pick0 c20 rfl rfl) ?_
                  refine wpp rfl rfl ?_
                  refine wpp rfl rfl ?_
                  obtain rfl := someS h
                  exact (canon0 ⟨rfl, rfl, rfl, rfl, rfl, rfl, rfl, rfl, trivial⟩ ⟨rfl, rfl, trivial⟩ rfl rfl)
              · clear hg19
                rcases bifS h with ⟨c21, h⟩ | ⟨c21, h⟩
                · refine xcT rfl c21 ?_
                  refine xskip ?_
                  exact ⟨g19, (canon0 ⟨rfl, rfl, rfl, rfl, rfl, rfl, rfl, trivial⟩ ⟨rfl, rfl, trivial⟩ rfl rfl), h⟩
                · refine xcF rfl c21 ?_
                  refine xreg ?_
                  refine wpp rfl rfl ?_
                  refine wpp rfl rfl ?_
                  refine wpp rfl rfl ?_
                  refine wpp (p := .int .i64 (w64 ((a0.length : Int) - (1 : Int)))) rfl rfl ?_
                  refine wpp rfl rfl ?_
                  refine wpp rfl rfl ?_
                  rcases bifS h with ⟨c22, h⟩ | ⟨c22, h⟩
                  · skip
                    refine wpp (gy rfl c22) rfl ?_
                    refine wpp (p := .bool (((x13).toNat : Int) == (32 : Int))) (gy rfl c22) rfl ?_
                    refine wpp rfl (p_pick1 c22 rfl rfl) ?_
                    refine wpp rfl rfl ?_
                    exact ⟨(((x13).toNat : Int) == (32 : Int)), (canon0 ⟨rfl, rfl, rfl, rfl, rfl, rfl, rfl, trivial⟩ ⟨rfl, rfl, trivial⟩ rfl rfl), h⟩
                  · skip
                    refine wsk (gn rfl c22) ?_
                    refine wsk (gn rfl c22) ?_
                    refine wpp rfl (p_pick0 c22 rfl rfl) ?_
                    refine wpp rfl rfl ?_
                    exact ⟨false, (canon0 ⟨rfl, rfl, rfl, rfl, rfl, rfl, rfl, trivial⟩ ⟨rfl, rfl, trivial⟩ rfl rfl), h⟩
  · refine xcF rfl c1 ?_
    refine xexit ?_
    refine xseq ?_
    refine xreg ?_
    refine woo rfl (olendC [(72000001, bNew)] [] bstr_new rfl rfl ⟨rfl, trivial⟩ rfl rfl rfl rfl) ?_
    refine wpp rfl rfl ?_
    obtain rfl := someS h
    refine xret ?_
    exact ⟨nofun, rfl, rfl⟩
end Go.Gp
end
section
set_option linter.unusedVariables false
set_option linter.unusedSimpArgs false
set_option maxRecDepth 4000
namespace Go.Gp
open Go.Vd Go.RowKit Go.Proofs
def k39_l8 : IC := (.seq (.reg [⟨(some 9), (.bin .lss (.t 8) (.t 7)), none⟩]) (.seq (.cond (.t 9) .skip (.exit 0)) (.seq (.block 1 (.seq (.reg [⟨(some 10), (.ixp 2 (.t 6) (.t 8)), none⟩, ⟨(some 11), (.load 2 true (.t 10)), none⟩, ⟨(some 5), (.box 47 (.c (.agg [(.str []), (.str [])]))), none⟩, ⟨none, (.store 2 (.t 5) (.t 11)), none⟩]) (.regd 9 [⟨(some 12), (.mov (.t 3)), none⟩, ⟨(some 13), (.fda 0 (.t 5)), none⟩, ⟨(some 14), (.load 1 false (.t 13)), none⟩, ⟨(some 15), (.bin .add (.t 14) (.c (.str [61]))), none⟩, ⟨(some 16), (.fda 1 (.t 5)), none⟩, ⟨(some 17), (.load 1 false (.t 16)), none⟩, ⟨(some 18), (.call 50 [(.t 17)]), none⟩, ⟨(some 19), (.bin .add (.t 15) (.t 18)), none⟩, ⟨(some 20), (.bsl 1 [(.t 19)]), none⟩, ⟨(some 21), (.app 9 1 16 (.t 12) (.t 20)), none⟩, ⟨(some 3), (.mov (.t 21)), none⟩]))) (.reg [⟨(some 22), (.bin .add (.t 8) (.c (.int .i64 1))), none⟩, ⟨(some 8), (.mov (.t 22)), none⟩]))))
def k39 : IC := (.seq (.reg [⟨(some 2), (.mov (.c (.str []))), none⟩]) (.seq (.reg [⟨(some 3), (.mov (.c .nl)), none⟩]) (.seq (.seq (.reg [⟨(some 6), (.mov (.t 0)), none⟩, ⟨(some 7), (.len false (.t 6)), none⟩, ⟨(some 8), (.mov (.c (.int .i64 0))), none⟩]) (.block 0 (.loop k39_l8))) (.seq (.reg [⟨(some 23), (.mov (.t 3)), none⟩, ⟨(some 24), (.call 40 [(.t 23), (.c (.str [43]))]), none⟩, ⟨(some 2), (.mov (.t 24)), none⟩]) .ret))))
theorem k39_cf : cfunc Try.prog Try.f39 = some ⟨25, k39, [(.tmp 2)]⟩ := by kernel_rfl
theorem w_dn_Join_l8 (N : Nat) (a0 : List api_AVA) : ∀ (n : Nat) (x : Int × List (List UInt8)) (y : List (List UInt8)), dn_Join_l8 N a0 n x = some y → WX Try.prog (fun _ => false) (.loop k39_l8) ((fun (x : Int × List (List UInt8)) => ⟨ofL [(3, .slr 1003 0 x.2.length), (6, .sl 2 (List.map e_api_AVA a0)), (7, .int .i64 (a0.length : Int)), (8, .int .i64 x.1)], ofL [(1003, ⟨1, true, List.map PV.str x.2⟩)]⟩) x) ((fun y e s => e = .exit 0 ∧ s = ⟨ofL [(3, .slr 1003 0 y.length)], ofL [(1003, ⟨1, true, List.map PV.str y⟩)]⟩ : (List (List UInt8)) → Xt → St → Prop) y) := by
  refine xloop (fun (x : Int × List (List UInt8)) => ⟨ofL [(3, .slr 1003 0 x.2.length), (6, .sl 2 (List.map e_api_AVA a0)), (7, .int .i64 (a0.length : Int)), (8, .int .i64 x.1)], ofL [(1003, ⟨1, true, List.map PV.str x.2⟩)]⟩) _ (dn_Join_l8 N a0) (dn_Join_l8_b N a0) (fun _ => rfl) (fun _ _ => rfl) ?_
  rintro rec ⟨v8l8, r1003l8⟩ y h
  refine xseq ?_
  refine xreg ?_
  refine wpp rfl rfl ?_
  refine xseq ?_
  rcases bifS h with ⟨c1, h⟩ | ⟨c1, h⟩
  · refine xcT rfl c1 ?_
    refine xskip ?_
    refine xseq ?_
    refine xblk ?_
    refine xseq ?_
    refine xreg ?_
    obtain ⟨x10, hx10, h⟩ := bindS h
    refine wpp rfl (p_ixs (cs := [.str x10.Attr, .str x10.Value]) hx10 rfl rfl rfl) ?_
    refine wpp (p := e_api_AVA x10) rfl rfl ?_
    refine woo rfl (obox 5 rfl rfl rfl rfl rfl) ?_
    refine wstb (e' := e_api_AVA x10) rfl rfl rfl rfl rfl rfl rfl rfl nofun rfl ?_
    refine xregd ?_
    refine wdp rfl rfl ?_
    refine wdp rfl rfl ?_
    refine wdp rfl rfl ?_
    obtain ⟨x15, hx15, h⟩ := bindS h
    refine wdp rfl (p_cat hx15 rfl rfl) ?_
    refine wdp rfl rfl ?_
    refine wdp rfl rfl ?_
    obtain ⟨x18, hx18, h⟩ := bindS h
    refine wdN rfl (pcal (sat_dn_Escape N _ _ hx18) rfl (.cons sub_rfl .nil) rfl rfl rfl) no_fresh ?_
    obtain ⟨x19, hx19, h⟩ := bindS h
    refine wdp rfl (p_cat hx19 rfl rfl) ?_
    refine wdN rfl (.bsl _ 20 rfl (okEl_spec rfl) rfl) (fresh1 rfl) ?_
    obtain ⟨x21, hx21, h⟩ := bindS h
    refine wapp (f := PV.str) 21 hx21 rfl rfl rfl rfl rfl (el_row rfl (full_row (f := PV.str) (l := [x19]))) rfl rfl rfl rfl ?_
    refine wpp rfl rfl ?_
    refine xreg ?_
    refine wpp (p := .int .i64 (w64 (v8l8 + (1 : Int)))) rfl rfl ?_
    refine wpp rfl rfl ?_
    exact ⟨((w64 (v8l8 + (1 : Int))), x21), (Norm.trans (rename 21 1003 rfl rfl) (canon0 ⟨rfl, rfl, rfl, rfl, trivial⟩ ⟨rfl, trivial⟩ rfl rfl)), h⟩
  · refine xcF rfl c1 ?_
    obtain rfl := someS h
    exact xexitn (st1 := ⟨ofL [(3, .slr 1003 0 r1003l8.length)], ofL [(1003, ⟨1, true, List.map PV.str r1003l8⟩)]⟩) (canon0 ⟨rfl, trivial⟩ ⟨rfl, trivial⟩ rfl rfl) ⟨rfl, rfl⟩
theorem sat_dn_Join (N : Nat) (a0 : List api_AVA) (r : List UInt8) (h : dn_Join N a0 = some r) : Sat Try.prog 39 noRows [.sl 2 (List.map e_api_AVA a0)] (.str r) noRows := by
  refine xsat mixed Try.func39 k39_cf (rs := [.str r]) rfl rfl ?_
  refine xseq ?_
  refine xreg ?_
  refine wpp rfl rfl ?_
  refine xseq ?_
  refine xreg ?_
  refine wpp rfl rfl ?_
  refine xseq ?_
  refine xseq ?_
  refine xreg ?_
  refine wpp rfl rfl ?_
  refine wpp rfl (p_lens rfl) ?_
  refine wpp rfl rfl ?_
  refine xblk ?_
  obtain ⟨y2, hy2, h⟩ := bindS h
  refine xloopU (st1 := ⟨ofL [(3, .slr 1003 0 ([].length)), (6, .sl 2 (List.map e_api_AVA a0)), (7, .int .i64 (a0.length : Int)), (8, .int .i64 0)], ofL [(1003, ⟨1, true, List.map PV.str []⟩)]⟩) (Norm.trans (nlrow 3 1003 1 true rfl rfl rfl) (canon0 ⟨rfl, rfl, rfl, rfl, trivial⟩ ⟨rfl, trivial⟩ rfl rfl)) (w_dn_Join_l8 N a0 N _ _ hy2) ?_
  rintro e s ⟨rfl, rfl⟩
  refine xseq ?_
  refine xreg ?_
  refine wpp rfl rfl ?_
  obtain ⟨x24, hx24, h⟩ := bindS h
  refine woo rfl (ocal (sat_strings_Join N _ _ _ hx24) rfl (.cons (bor_row rfl (full_row (f := PV.str) (l := y2))) (.cons sub_rfl .nil)) rfl rfl rfl) ?_
  refine wpp rfl rfl ?_
  obtain rfl := someS h
  refine xret ?_
  exact ⟨nofun, rfl, rfl⟩
end Go.Gp
end
section
set_option linter.unusedVariables false
set_option linter.unusedSimpArgs false
set_option maxRecDepth 4000
namespace Go.Gp
open Go.Vd Go.RowKit Go.Proofs
def k23_l16 : IC := (.seq (.reg [⟨(some 12), (.bin .lss (.t 11) (.t 10)), none⟩]) (.seq (.cond (.t 12) .skip (.exit 0)) (.seq (.block 1 (.seq (.reg [⟨(some 13), (.ixp 1 (.t 9) (.t 11)), none⟩, ⟨(some 14), (.load 1 false (.t 13)), none⟩, ⟨(some 5), (.mov (.t 14)), none⟩]) (.reg [⟨(some 15), (.mov (.t 3)), none⟩, ⟨(some 16), (.mov (.t 5)), none⟩, ⟨(some 17), (.call 39 [(.t 16)]), none⟩, ⟨(some 18), (.bsl 1 [(.t 17)]), none⟩, ⟨(some 19), (.app 9 1 16 (.t 15) (.t 18)), none⟩, ⟨(some 3), (.mov (.t 19)), none⟩]))) (.reg [⟨(some 20), (.bin .add (.t 11) (.c (.int .i64 1))), none⟩, ⟨(some 11), (.mov (.t 20)), none⟩]))))
def k23 : IC := (.seq (.reg [⟨(some 2), (.mov (.c (.str []))), none⟩]) (.seq (.seq (.reg [⟨(some 6), (.mov (.t 0)), none⟩, ⟨(some 7), (.call 21 [(.t 6)]), none⟩, ⟨(some 8), (.un .not (.t 7)), none⟩]) (.cond (.t 8) (.seq (.reg [⟨(some 2), (.mov (.c (.str []))), none⟩]) .ret) .skip)) (.seq (.reg [⟨(some 3), (.mov (.c .nl)), none⟩]) (.seq (.seq (.reg [⟨(some 9), (.mov (.t 0)), none⟩, ⟨(some 10), (.len false (.t 9)), none⟩, ⟨(some 11), (.mov (.c (.int .i64 0))), none⟩]) (.block 0 (.loop k23_l16))) (.seq (.reg [⟨(some 21), (.mov (.t 3)), none⟩, ⟨(some 22), (.call 40 [(.t 21), (.c (.str [44]))]), none⟩, ⟨(some 2), (.mov (.t 22)), none⟩]) .ret)))))
theorem k23_cf : cfunc Try.prog Try.f23 = some ⟨23, k23, [(.tmp 2)]⟩ := by kernel_rfl
theorem w_dn_Print_l16 (N : Nat) (a0 : List (List api_AVA)) : ∀ (n : Nat) (x : Int × List (List UInt8)) (y : List (List UInt8)), dn_Print_l16 N a0 n x = some y → WX Try.prog (fun _ => false) (.loop k23_l16) ((fun (x : Int × List (List UInt8)) => ⟨ofL [(3, .slr 1003 0 x.2.length), (9, .sl 1 (List.map (es 2 e_api_AVA) a0)), (10, .int .i64 (a0.length : Int)), (11, .int .i64 x.1)], ofL [(1003, ⟨1, true, List.map PV.str x.2⟩)]⟩) x) ((fun y e s => e = .exit 0 ∧ s = ⟨ofL [(3, .slr 1003 0 y.length)], ofL [(1003, ⟨1, true, List.map PV.str y⟩)]⟩ : (List (List UInt8)) → Xt → St → Prop) y) := by
  refine xloop (fun (x : Int × List (List UInt8)) => ⟨ofL [(3, .slr 1003 0 x.2.length), (9, .sl 1 (List.map (es 2 e_api_AVA) a0)), (10, .int .i64 (a0.length : Int)), (11, .int .i64 x.1)], ofL [(1003, ⟨1, true, List.map PV.str x.2⟩)]⟩) _ (dn_Print_l16 N a0) (dn_Print_l16_b N a0) (fun _ => rfl) (fun _ _ => rfl) ?_
  rintro rec ⟨v11l16, r1003l16⟩ y h
  refine xseq ?_
  refine xreg ?_
  refine wpp rfl rfl ?_
  refine xseq ?_
  rcases bifS h with ⟨c2, h⟩ | ⟨c2, h⟩
  · refine xcT rfl c2 ?_
    refine xskip ?_
    refine xseq ?_
    refine xblk ?_
    refine xseq ?_
    refine xreg ?_
    obtain ⟨x13, hx13, h⟩ := bindS h
    refine wpp rfl (p_ixs (cs := [.sl 2 (List.map e_api_AVA x13)]) hx13 rfl rfl rfl) ?_
    refine wpp rfl rfl ?_
    refine wpp rfl rfl ?_
    refine xreg ?_
    refine wpp rfl rfl ?_
    refine wpp rfl rfl ?_
    obtain ⟨x17, hx17, h⟩ := bindS h
    refine woo rfl (ocal (sat_dn_Join N _ _ hx17) rfl (.cons sub_rfl .nil) rfl rfl rfl) ?_
    refine woo rfl (obsl 18 rfl rfl rfl) ?_
    obtain ⟨x19, hx19, h⟩ := bindS h
    refine wapp (f := PV.str) 19 hx19 rfl rfl rfl rfl rfl (el_row rfl (full_row (f := PV.str) (l := [x17]))) rfl rfl rfl rfl ?_
    refine wpp rfl rfl ?_
    refine xreg ?_
    refine wpp (p := .int .i64 (w64 (v11l16 + (1 : Int)))) rfl rfl ?_
    refine wpp rfl rfl ?_
    exact ⟨((w64 (v11l16 + (1 : Int))), x19), (Norm.trans (rename 19 1003 rfl rfl) (canon0 ⟨rfl, rfl, rfl, rfl, trivial⟩ ⟨rfl, trivial⟩ rfl rfl)), h⟩
  · refine xcF rfl c2 ?_
    obtain rfl := someS h
    exact xexitn (st1 := ⟨ofL [(3, .slr 1003 0 r1003l16.length)], ofL [(1003, ⟨1, true, List.map PV.str r1003l16⟩)]⟩) (canon0 ⟨rfl, trivial⟩ ⟨rfl, trivial⟩ rfl rfl) ⟨rfl, rfl⟩
theorem sat_dn_Print (N : Nat) (a0 : List (List api_AVA)) (r : List UInt8) (h : dn_Print N a0 = some r) : Sat Try.prog 23 noRows [.sl 1 (List.map (es 2 e_api_AVA) a0)] (.str r) noRows := by
  refine xsat mixed Try.func23 k23_cf (rs := [.str r]) rfl rfl ?_
  refine xseq ?_
  refine xreg ?_
  refine wpp rfl rfl ?_
  refine xseq ?_
  refine xseq ?_
  refine xreg ?_
  refine wpp rfl rfl ?_
  obtain ⟨x7, hx7, h⟩ := bindS h
  refine woo rfl (ocal (sat_dn_Is N _ _ hx7) rfl (.cons sub_rfl .nil) rfl rfl rfl) ?_
  refine wpp rfl rfl ?_
  rcases bifS h with ⟨c1, h⟩ | ⟨c1, h⟩
  · refine xcT rfl c1 ?_
    refine xseq ?_
    refine xreg ?_
    refine wpp rfl rfl ?_
    obtain rfl := someS h
    refine xret ?_
    exact ⟨nofun, rfl, rfl⟩
  · refine xcF rfl c1 ?_
    refine xskip ?_
    refine xseq ?_
    refine xreg ?_
    refine wpp rfl rfl ?_
    refine xseq ?_
    refine xseq ?_
    refine xreg ?_
    refine wpp rfl rfl ?_
    refine wpp rfl (p_lens rfl) ?_
    refine wpp rfl rfl ?_
    refine xblk ?_
    obtain ⟨y3, hy3, h⟩ := bindS h
    refine xloopU (st1 := ⟨ofL [(3, .slr 1003 0 ([].length)), (9, .sl 1 (List.map (es 2 e_api_AVA) a0)), (10, .int .i64 (a0.length : Int)), (11, .int .i64 0)], ofL [(1003, ⟨1, true, List.map PV.str []⟩)]⟩) (Norm.trans (nlrow 3 1003 1 true rfl rfl rfl) (canon0 ⟨rfl, rfl, rfl, rfl, trivial⟩ ⟨rfl, trivial⟩ rfl rfl)) (w_dn_Print_l16 N a0 N _ _ hy3) ?_
    rintro e s ⟨rfl, rfl⟩
    refine xseq ?_
    refine xreg ?_
    refine wpp rfl rfl ?_
    obtain ⟨x22, hx22, h⟩ := bindS h
    refine woo rfl (ocal (sat_strings_Join N _ _ _ hx22) rfl (.cons (bor_row rfl (full_row (f := PV.str) (l := y3))) (.cons sub_rfl .nil)) rfl rfl rfl) ?_
    refine wpp rfl rfl ?_
    obtain rfl := someS h
    refine xret ?_
    exact ⟨nofun, rfl, rfl⟩
end Go.Gp
end
section
set_option linter.unusedVariables false
set_option linter.unusedSimpArgs false
set_option maxRecDepth 4000
namespace Go.Gp
open Go.Vd Go.RowKit Go.Proofs
def k24 : IC := (.seq (.reg [⟨(some 2), (.mov (.c (.str []))), none⟩]) (.seq (.seq (.reg [⟨(some 3), (.mov (.t 0)), none⟩, ⟨(some 4), (.call 22 [(.t 3)]), none⟩, ⟨(some 5), (.un .not (.t 4)), none⟩]) (.cond (.t 5) (.seq (.reg [⟨(some 2), (.mov (.c (.str []))), none⟩]) .ret) .skip)) (.seq (.reg [⟨(some 6), (.mov (.t 0)), none⟩, ⟨(some 7), (.call 39 [(.t 6)]), none⟩, ⟨(some 2), (.mov (.t 7)), none⟩]) .ret)))
theorem k24_cf : cfunc Try.prog Try.f24 = some ⟨8, k24, [(.tmp 2)]⟩ := by kernel_rfl
theorem sat_dn_PrintRDN (N : Nat) (a0 : List api_AVA) (r : List UInt8) (h : dn_PrintRDN N a0 = some r) : Sat Try.prog 24 noRows [.sl 2 (List.map e_api_AVA a0)] (.str r) noRows := by
  refine xsat mixed Try.func24 k24_cf (rs := [.str r]) rfl rfl ?_
  refine xseq ?_
  refine xreg ?_
  refine wpp rfl rfl ?_
  refine xseq ?_
  refine xseq ?_
  refine xreg ?_
  refine wpp rfl rfl ?_
  obtain ⟨x4, hx4, h⟩ := bindS h
  refine woo rfl (ocal (sat_dn_IsRDN N _ _ hx4) rfl (.cons sub_rfl .nil) rfl rfl rfl) ?_
  refine wpp rfl rfl ?_
  rcases bifS h with ⟨c1, h⟩ | ⟨c1, h⟩
  · refine xcT rfl c1 ?_
    refine xseq ?_
    refine xreg ?_
    refine wpp rfl rfl ?_
    obtain rfl := someS h
    refine xret ?_
    exact ⟨nofun, rfl, rfl⟩
  · refine xcF rfl c1 ?_
    refine xskip ?_
    refine xseq ?_
    refine xreg ?_
    refine wpp rfl rfl ?_
    obtain ⟨x7, hx7, h⟩ := bindS h
    refine woo rfl (ocal (sat_dn_Join N _ _ hx7) rfl (.cons sub_rfl .nil) rfl rfl rfl) ?_
    refine wpp rfl rfl ?_
    obtain rfl := someS h
    refine xret ?_
    exact ⟨nofun, rfl, rfl⟩
end Go.Gp
end
section
set_option linter.unusedVariables false
set_option linter.unusedSimpArgs false
set_option maxRecDepth 4000
namespace Go.Gp
open Go.Vd Go.RowKit Go.Proofs
def k8 : IC := (.seq (.reg [⟨(some 0), (.mov (.c (.bool false))), none⟩]) (.seq (.reg [⟨(some 8), (.call 15 [(.c (.str [67, 78, 61, 97, 92, 44, 32, 98, 44, 111, 117, 61, 120, 43, 117, 105, 100, 61, 92, 99, 51, 121]))]), none⟩, ⟨(some 7), (.mov (.t 8)), none⟩, ⟨(some 9), (.ext 0 (.t 7)), none⟩, ⟨(some 10), (.ext 1 (.t 7)), none⟩, ⟨(some 1), (.mov (.t 9)), none⟩, ⟨(some 2), (.mov (.t 10)), none⟩]) (.seq (.reg [⟨(some 12), (.call 15 [(.c (.str [99, 110, 61, 32, 97]))]), none⟩, ⟨(some 11), (.mov (.t 12)), none⟩, ⟨(some 13), (.ext 0 (.t 11)), none⟩, ⟨(some 14), (.ext 1 (.t 11)), none⟩, ⟨(some 3), (.mov (.t 13)), none⟩, ⟨(some 4), (.mov (.t 14)), none⟩]) (.seq (.reg [⟨(some 16), (.call 17 [(.c (.str [99, 110, 61, 97]))]), none⟩, ⟨(some 15), (.mov (.t 16)), none⟩, ⟨(some 17), (.ext 0 (.t 15)), none⟩, ⟨(some 18), (.ext 1 (.t 15)), none⟩, ⟨(some 5), (.mov (.t 17)), none⟩, ⟨(some 6), (.mov (.t 18)), none⟩]) (.seq (.reg [⟨(some 19), (.mov (.t 2)), none⟩, ⟨(some 20), (.bin .eql (.t 19) (.c (.int .i64 0))), none⟩, ⟨(some 21), (.mov (.t 20)), none⟩, ⟨(some 22), (.mov (.t 1)), (some (21, true))⟩, ⟨(some 23), (.len false (.t 22)), (some (21, true))⟩, ⟨(some 24), (.bin .eql (.t 23) (.c (.int .i64 2))), (some (21, true))⟩, ⟨(some 25), (.pick (.t 21) (.t 24) (.c (.bool false))), none⟩, ⟨(some 26), (.mov (.t 25)), none⟩, ⟨(some 27), (.mov (.t 1)), (some (26, true))⟩, ⟨(some 28), (.ixp 1 (.t 27) (.c (.int .i64 0))), (some (26, true))⟩, ⟨(some 29), (.load 1 false (.t 28)), (some (26, true))⟩, ⟨(some 30), (.len false (.t 29)), (some (26, true))⟩, ⟨(some 31), (.bin .eql (.t 30) (.c (.int .i64 1))), (some (26, true))⟩, ⟨(some 32), (.pick (.t 26) (.t 31) (.c (.bool false))), none⟩, ⟨(some 33), (.mov (.t 32)), none⟩, ⟨(some 34), (.mov (.t 1)), (some (33, true))⟩, ⟨(some 35), (.ixp 1 (.t 34) (.c (.int .i64 0))), (some (33, true))⟩, ⟨(some 36), (.load 1 false (.t 35)), (some (33, true))⟩, ⟨(some 37), (.ixp 2 (.t 36) (.c (.int .i64 0))), (some (33, true))⟩, ⟨(some 38), (.load 2 true (.t 37)), (some (33, true))⟩, ⟨(some 39), (.build [(.str []), (.str [])] [(0, (1, (.c (.str [99, 110])))), (1, (1, (.c (.str [97, 44, 32, 98]))))]), (some (33, true))⟩, ⟨(some 40), (.eqs false [.s, .s] (.t 38) (.t 39)), (some (33, true))⟩, ⟨(some 41), (.pick (.t 33) (.t 40) (.c (.bool false))), none⟩, ⟨(some 42), (.mov (.t 41)), none⟩, ⟨(some 43), (.mov (.t 1)), (some (42, true))⟩, ⟨(some 44), (.ixp 1 (.t 43) (.c (.int .i64 1))), (some (42, true))⟩, ⟨(some 45), (.load 1 false (.t 44)), (some (42, true))⟩, ⟨(some 46), (.len false (.t 45)), (some (42, true))⟩, ⟨(some 47), (.bin .eql (.t 46) (.c (.int .i64 2))), (some (42, true))⟩, ⟨(some 48), (.pick (.t 42) (.t 47) (.c (.bool false))), none⟩, ⟨(some 49), (.mov (.t 48)), none⟩, ⟨(some 50), (.mov (.t 1)), (some (49, true))⟩, ⟨(some 51), (.ixp 1 (.t 50) (.c (.int .i64 1))), (some (49, true))⟩, ⟨(some 52), (.load 1 false (.t 51)), (some (49, true))⟩, ⟨(some 53), (.ixp 2 (.t 52) (.c (.int .i64 1))), (some (49, true))⟩, ⟨(some 54), (.fda 1 (.t 53)), (some (49, true))⟩, ⟨(some 55), (.load 1 false (.t 54)), (some (49, true))⟩, ⟨(some 56), (.bin .eql (.t 55) (.c (.str [195, 121]))), (some (49, true))⟩, ⟨(some 57), (.pick (.t 49) (.t 56) (.c (.bool false))), none⟩, ⟨(some 58), (.mov (.t 57)), none⟩, ⟨(some 59), (.mov (.t 4)), (some (58, true))⟩, ⟨(some 60), (.bin .eql (.t 59) (.c (.int .i64 15))), (some (58, true))⟩, ⟨(some 61), (.pick (.t 58) (.t 60) (.c (.bool false))), none⟩, ⟨(some 62), (.mov (.t 61)), none⟩, ⟨(some 63), (.mov (.t 6)), (some (62, true))⟩, ⟨(some 64), (.bin .eql (.t 63) (.c (.int .i64 0))), (some (62, true))⟩, ⟨(some 65), (.pick (.t 62) (.t 64) (.c (.bool false))), none⟩, ⟨(some 66), (.mov (.t 65)), none⟩, ⟨(some 67), (.mov (.t 5)), (some (66, true))⟩, ⟨(some 68), (.len false (.t 67)), (some (66, true))⟩, ⟨(some 69), (.bin .eql (.t 68) (.c (.int .i64 1))), (some (66, true))⟩, ⟨(some 70), (.pick (.t 66) (.t 69) (.c (.bool false))), none⟩, ⟨(some 71), (.mov (.t 70)), none⟩, ⟨(some 72), (.mov (.t 1)), (some (71, true))⟩, ⟨(some 73), (.call 23 [(.t 72)]), (some (71, true))⟩, ⟨(some 74), (.bin .eql (.t 73) (.c (.str [99, 110, 61, 97, 92, 44, 32, 98, 44, 111, 117, 61, 120, 43, 117, 105, 100, 61, 92, 99, 51, 121]))), (some (71, true))⟩, ⟨(some 75), (.pick (.t 71) (.t 74) (.c (.bool false))), none⟩, ⟨(some 76), (.mov (.t 75)), none⟩, ⟨(some 77), (.mov (.t 5)), (some (76, true))⟩, ⟨(some 78), (.call 24 [(.t 77)]), (some (76, true))⟩, ⟨(some 79), (.bin .eql (.t 78) (.c (.str [99, 110, 61, 97]))), (some (76, true))⟩, ⟨(some 80), (.pick (.t 76) (.t 79) (.c (.bool false))), none⟩, ⟨(some 81), (.mov (.t 80)), none⟩, ⟨(some 82), (.mov (.t 1)), (some (81, true))⟩, ⟨(some 83), (.call 21 [(.t 82)]), (some (81, true))⟩, ⟨(some 84), (.pick (.t 81) (.t 83) (.c (.bool false))), none⟩, ⟨(some 85), (.mov (.t 84)), none⟩, ⟨(some 86), (.mov (.t 5)), (some (85, true))⟩, ⟨(some 87), (.call 22 [(.t 86)]), (some (85, true))⟩, ⟨(some 88), (.pick (.t 85) (.t 87) (.c (.bool false))), none⟩, ⟨(some 89), (.mov (.t 88)), none⟩, ⟨(some 90), (.call 22 [(.c .nl)]), (some (89, true))⟩, ⟨(some 91), (.un .not (.t 90)), (some (89, true))⟩, ⟨(some 92), (.pick (.t 89) (.t 91) (.c (.bool false))), none⟩, ⟨(some 93), (.mov (.t 92)), none⟩, ⟨(some 94), (.call 25 [(.c (.str [99, 110]))]), (some (93, true))⟩, ⟨(some 95), (.pick (.t 93) (.t 94) (.c (.bool false))), none⟩, ⟨(some 96), (.mov (.t 95)), none⟩, ⟨(some 97), (.call 27 [(.c (.str [97, 66]))]), (some (96, true))⟩, ⟨(some 98), (.bin .eql (.t 97) (.c (.str [97, 98]))), (some (96, true))⟩, ⟨(some 99), (.pick (.t 96) (.t 98) (.c (.bool false))), none⟩, ⟨(some 0), (.mov (.t 99)), none⟩]) .ret)))))
theorem k8_cf : cfunc Try.prog Try.f8 = some ⟨100, k8, [(.tmp 0)]⟩ := by kernel_rfl
theorem sat_prefectlaw4_known (N : Nat)  (r : Bool) (h : prefectlaw4_known N  = some r) : Sat Try.prog 8 noRows [] (.bool r) noRows := by
  refine xsat mixed Try.func8 k8_cf (rs := [.bool r]) rfl rfl ?_
  refine xseq ?_
  refine xreg ?_
  refine wpp rfl rfl ?_
  refine xseq ?_
  refine xreg ?_
  obtain ⟨x8, hx8, h⟩ := bindS h
  refine woo rfl (ocal (sat_dn_Parse N _ _ hx8) rfl (.cons sub_rfl .nil) rfl rfl rfl) ?_
  refine wpp rfl rfl ?_
  refine wpp rfl rfl ?_
  refine wpp rfl rfl ?_
  refine wpp rfl rfl ?_
  refine wpp rfl rfl ?_
  refine xseq ?_
  refine xreg ?_
  obtain ⟨x12, hx12, h⟩ := bindS h
  refine woo rfl (ocal (sat_dn_Parse N _ _ hx12) rfl (.cons sub_rfl .nil) rfl rfl rfl) ?_
  refine wpp rfl rfl ?_
  refine wpp rfl rfl ?_
  refine wpp rfl rfl ?_
  refine wpp rfl rfl ?_
  refine wpp rfl rfl ?_
  refine xseq ?_
  refine xreg ?_
  obtain ⟨x16, hx16, h⟩ := bindS h
  refine woo rfl (ocal (sat_dn_ParseRDN N _ _ hx16) rfl (.cons sub_rfl .nil) rfl rfl rfl) ?_
  refine wpp rfl rfl ?_
  refine wpp rfl rfl ?_
  refine wpp rfl rfl ?_
  refine wpp rfl rfl ?_
  refine wpp rfl rfl ?_
  obtain ⟨g1, hg1, h⟩ := bindS h
  refine xseg ⟨ofL [(0, .bool g1)], ofL []⟩ ?_ ?_
  · have h := hg1
    refine xreg ?_
    refine wpp rfl rfl ?_
    refine wpp rfl rfl ?_
    refine wpp rfl rfl ?_
    rcases bifS h with ⟨c2, h⟩ | ⟨c2, h⟩
    · skip
      refine wpp (gy rfl c2) rfl ?_
      refine wpp (gy rfl c2) (p_lens rfl) ?_
      refine wpp (gy rfl c2) rfl ?_
      refine wpp rfl (p_pick1 c2 rfl rfl) ?_
      refine wpp rfl rfl ?_
      rcases bifS h with ⟨c3, h⟩ | ⟨c3, h⟩
      · skip
        refine wpp (gy rfl c3) rfl ?_
        obtain ⟨x28, hx28, h⟩ := bindS h
        refine wpp (gy rfl c3) (p_ixs (cs := [.sl 2 (List.map e_api_AVA x28)]) hx28 rfl rfl rfl) ?_
        refine wpp (gy rfl c3) rfl ?_
        refine wpp (gy rfl c3) (p_lens rfl) ?_
        refine wpp (gy rfl c3) rfl ?_
        refine wpp rfl (p_pick1 c3 rfl rfl) ?_
        refine wpp rfl rfl ?_
        rcases bifS h with ⟨c4, h⟩ | ⟨c4, h⟩
        · skip
          refine wpp (gy rfl c4) rfl ?_
          obtain ⟨x35, hx35, h⟩ := bindS h
          refine wpp (gy rfl c4) (p_ixs (cs := [.sl 2 (List.map e_api_AVA x35)]) hx35 rfl rfl rfl) ?_
          refine wpp (gy rfl c4) rfl ?_
          obtain ⟨x37, hx37, h⟩ := bindS h
          refine wpp (gy rfl c4) (p_ixs (cs := [.str x37.Attr, .str x37.Value]) hx37 rfl rfl rfl) ?_
          refine wpp (p := e_api_AVA x37) (gy rfl c4) rfl ?_
          refine wpp (p := .agg [.str ([99, 110] : List UInt8), .str ([97, 44, 32, 98] : List UInt8)]) (gy rfl c4) rfl ?_
          refine wpp (p := .bool (x37.Attr == ([99, 110] : List UInt8) && (x37.Value == ([97, 44, 32, 98] : List UInt8) && true))) (gy rfl c4) rfl ?_
          refine wpp rfl (p_pick1 c4 rfl rfl) ?_
          refine wpp rfl rfl ?_
          rcases bifS h with ⟨c5, h⟩ | ⟨c5, h⟩
          · skip
            refine wpp (gy rfl c5) rfl ?_
            obtain ⟨x44, hx44, h⟩ := bindS h
            refine wpp (gy rfl c5) (p_ixs (cs := [.sl 2 (List.map e_api_AVA x44)]) hx44 rfl rfl rfl) ?_
            refine wpp (gy rfl c5) rfl ?_
            refine wpp (gy rfl c5) (p_lens rfl) ?_
            refine wpp (gy rfl c5) rfl ?_
            refine wpp rfl (p_pick1 c5 rfl rfl) ?_
            refine wpp rfl rfl ?_
            rcases bifS h with ⟨c6, h⟩ | ⟨c6, h⟩
            · skip
              refine wpp (gy rfl c6) rfl ?_
              obtain ⟨x51, hx51, h⟩ := bindS h
              refine wpp (gy rfl c6) (p_ixs (cs := [.sl 2 (List.map e_api_AVA x51)]) hx51 rfl rfl rfl) ?_
              refine wpp (gy rfl c6) rfl ?_
              obtain ⟨x53, hx53, h⟩ := bindS h
              refine wpp (gy rfl c6) (p_ixs (cs := [.str x53.Attr, .str x53.Value]) hx53 rfl rfl rfl) ?_
              refine wpp (p := .ep [.str x53.Value]) (gy rfl c6) rfl ?_
              refine wpp (gy rfl c6) rfl ?_
              refine wpp (gy rfl c6) rfl ?_
              refine wpp rfl (p_pick1 c6 rfl rfl) ?_
              refine wpp rfl rfl ?_
              rcases bifS h with ⟨c7, h⟩ | ⟨c7, h⟩
              · skip
                refine wpp (gy rfl c7) rfl ?_
                refine wpp (gy rfl c7) rfl ?_
                refine wpp rfl (p_pick1 c7 rfl rfl) ?_
                refine wpp rfl rfl ?_
                rcases bifS h with ⟨c8, h⟩ | ⟨c8, h⟩
                · skip
                  refine wpp (gy rfl c8) rfl ?_
                  refine wpp (gy rfl c8) rfl ?_
                  refine wpp rfl (p_pick1 c8 rfl rfl) ?_
                  refine wpp rfl rfl ?_
                  rcases bifS h with ⟨c9, h⟩ | ⟨c9, h⟩
                  · skip
                    refine wpp (gy rfl c9) rfl ?_
                    refine wpp (gy rfl c9) (p_lens rfl) ?_
                    refine wpp (gy rfl c9) rfl ?_
                    refine wpp rfl (p_pick1 c9 rfl rfl) ?_
                    refine wpp rfl rfl ?_
                    rcases bifS h with ⟨c10, h⟩ | ⟨c10, h⟩
                    · skip
                      refine wpp (gy rfl c10) rfl ?_
                      obtain ⟨x73, hx73, h⟩ := bindS h
                      refine woo (gy rfl c10) (ocal (sat_dn_Print N _ _ hx73) rfl (.cons sub_rfl .nil) rfl rfl rfl) ?_
                      refine wpp (gy rfl c10) rfl ?_
                      refine wpp rfl (p_pick1 c10 rfl rfl) ?_
                      refine wpp rfl rfl ?_
                      rcases bifS h with ⟨c11, h⟩ | ⟨c11, h⟩
                      · skip
                        refine wpp (gy rfl c11) rfl ?_
                        obtain ⟨x78, hx78, h⟩ := bindS h
                        refine woo (gy rfl c11) (ocal (sat_dn_PrintRDN N _ _ hx78) rfl (.cons sub_rfl .nil) rfl rfl rfl) ?_
                        refine wpp (gy rfl c11) rfl ?_
                        refine wpp rfl (p_pick1 c11 rfl rfl) ?_
                        refine wpp rfl rfl ?_
                        rcases bifS h with ⟨c12, h⟩ | ⟨c12, h⟩
                        · skip
                          refine wpp (gy rfl c12) rfl ?_
                          obtain ⟨x83, hx83, h⟩ := bindS h
                          refine woo (gy rfl c12) (ocal (sat_dn_Is N _ _ hx83) rfl (.cons sub_rfl .nil) rfl rfl rfl) ?_
                          refine wpp rfl (p_pick1 c12 rfl rfl) ?_
                          refine wpp rfl rfl ?_
                          rcases bifS h with ⟨c13, h⟩ | ⟨c13, h⟩
                          · skip
                            refine wpp (gy rfl c13) rfl ?_
                            obtain ⟨x87, hx87, h⟩ := bindS h
                            refine woo (gy rfl c13) (ocal (sat_dn_IsRDN N _ _ hx87) rfl (.cons sub_rfl .nil) rfl rfl rfl) ?_
                            refine wpp rfl (p_pick1 c13 rfl rfl) ?_
                            refine wpp rfl rfl ?_
                            rcases bifS h with ⟨c14, h⟩ | ⟨c14, h⟩
                            · skip
                              obtain ⟨x90, hx90, h⟩ := bindS h
                              refine woo (gy rfl c14) (ocal (sat_dn_IsRDN N _ _ hx90) rfl (.cons (sub_nl 2) .nil) rfl rfl rfl) ?_
                              refine wpp (gy rfl c14) rfl ?_
                              refine wpp rfl (p_pick1 c14 rfl rfl) ?_
                              refine wpp rfl rfl ?_
                              rcases bifS h with ⟨c15, h⟩ | ⟨c15, h⟩
                              · skip
                                obtain ⟨x94, hx94, h⟩ := bindS h
                                refine woo (gy rfl c15) (ocal (sat_dn_IsType N _ _ hx94) rfl (.cons sub_rfl .nil) rfl rfl rfl) ?_
                                refine wpp rfl (p_pick1 c15 rfl rfl) ?_
                                refine wpp rfl rfl ?_
                                rcases bifS h with ⟨c16, h⟩ | ⟨c16, h⟩
                                · skip
                                  obtain ⟨x97, hx97, h⟩ := bindS h
                                  refine woo (gy rfl c16) (ocal (sat_dn_Lower N _ _ hx97) rfl (.cons sub_rfl .nil) rfl rfl rfl) ?_
                                  refine wpp (gy rfl c16) rfl ?_
                                  refine wpp rfl (p_pick1 c16 rfl rfl) ?_
                                  refine wpp rfl rfl ?_
                                  obtain rfl := someS h
                                  exact (canon0 ⟨rfl, trivial⟩ trivial rfl rfl)
                                · skip
                                  refine wsk (gn rfl c16) ?_
                                  refine wsk (gn rfl c16) ?_
                                  refine wpp rfl (p_pick0 c16 rfl rfl) ?_
                                  refine wpp rfl rfl ?_
                                  obtain rfl := someS h
                                  exact (canon0 ⟨rfl, trivial⟩ trivial rfl rfl)
                              · skip
                                refine wsk (gn rfl c15) ?_
                                refine wpp rfl (p_pick0 c15 rfl rfl) ?_
                                refine wpp rfl rfl ?_
                                refine wsk rfl ?_
                                refine wsk rfl ?_
                                refine wpp rfl rfl ?_
                                refine wpp rfl rfl ?_
                                obtain rfl := someS h
                                exact (canon0 ⟨rfl, trivial⟩ trivial rfl rfl)
                            · skip
                              refine wsk (gn rfl c14) ?_
                              refine wsk (gn rfl c14) ?_
                              refine wpp rfl (p_pick0 c14 rfl rfl) ?_
                              refine wpp rfl rfl ?_
                              refine wsk rfl ?_
                              refine wpp rfl rfl ?_
                              refine wpp rfl rfl ?_
                              refine wsk rfl ?_
                              refine wsk rfl ?_
                              refine wpp rfl rfl ?_
                              refine wpp rfl rfl ?_
                              obtain rfl := someS h
                              exact (canon0 ⟨rfl, trivial⟩ trivial rfl rfl)
                          · skip
                            refine wsk (gn rfl c13) ?_
                            refine wsk (gn rfl c13) ?_
                            refine wpp rfl (p_pick0 c13 rfl rfl) ?_
                            refine wpp rfl rfl ?_
                            refine wsk rfl ?_
                            refine wsk rfl ?_
                            refine wpp rfl rfl ?_
                            refine wpp rfl rfl ?_
                            refine wsk rfl ?_
                            refine wpp rfl rfl ?_
                            refine wpp rfl rfl ?_
                            refine wsk rfl ?_
                            refine wsk rfl ?_
                            refine wpp rfl rfl ?_
                            refine wpp rfl rfl ?_
                            obtain rfl := someS h
                            exact (canon0 ⟨rfl, trivial⟩ trivial rfl rfl)
                        · skip
                          refine wsk (gn rfl c12) ?_
                          refine wsk (gn rfl c12) ?_
                          refine wpp rfl (p_pick0 c12 rfl rfl) ?_
                          refine wpp rfl rfl ?_
                          refine wsk rfl ?_
                          refine wsk rfl ?_
                          refine wpp rfl rfl ?_
                          refine wpp rfl rfl ?_
                          refine wsk rfl ?_
                          refine wsk rfl ?_
                          refine wpp rfl rfl ?_
                          refine wpp rfl rfl ?_
                          refine wsk rfl ?_
                          refine wpp rfl rfl ?_
                          refine wpp rfl rfl ?_
                          refine wsk rfl ?_
                          refine wsk rfl ?_
                          refine wpp rfl rfl ?_
                          refine wpp rfl rfl ?_
                          obtain rfl := someS h
                          exact (canon0 ⟨rfl, trivial⟩ trivial rfl rfl)
                      · skip
                        refine wsk (gn rfl c11) ?_
                        refine wsk (gn rfl c11) ?_
                        refine wsk (gn rfl c11) ?_
                        refine wpp rfl (p_pick0 c11 rfl rfl) ?_
                        refine wpp rfl rfl ?_
                        refine wsk rfl ?_
                        refine wsk rfl ?_
                        refine wpp rfl rfl ?_
                        refine wpp rfl rfl ?_
                        refine wsk rfl ?_
                        refine wsk rfl ?_
                        refine wpp rfl rfl ?_
                        refine wpp rfl rfl ?_
                        refine wsk rfl ?_
                        refine wsk rfl ?_
                        refine wpp rfl rfl ?_
                        refine wpp rfl rfl ?_
                        refine wsk rfl ?_
                        refine wpp rfl rfl ?_
                        refine wpp rfl rfl ?_
                        refine wsk rfl ?_
                        refine wsk rfl ?_
                        refine wpp rfl rfl ?_
                        refine wpp rfl rfl ?_
                        obtain rfl := someS h
                        exact (canon0 ⟨rfl, trivial⟩ trivial rfl rfl)
                    · skip
                      refine wsk (gn rfl c10) ?_
                      refine wsk (gn rfl c10) ?_
                      refine wsk (gn rfl c10) ?_
                      refine wpp rfl (p_pick0 c10 rfl rfl) ?_
                      refine wpp rfl rfl ?_
                      refine wsk rfl ?_
                      refine wsk rfl ?_
                      refine wsk rfl ?_
                      refine wpp rfl rfl ?_
                      refine wpp rfl rfl ?_
                      refine wsk rfl ?_
                      refine wsk rfl ?_
                      refine wpp rfl rfl ?_
                      refine wpp rfl rfl ?_
                      refine wsk rfl ?_
                      refine wsk rfl ?_
                      refine wpp rfl rfl ?_
                      refine wpp rfl rfl ?_
                      refine wsk rfl ?_
                      refine wsk rfl ?_
                      refine wpp rfl rfl ?_
                      refine wpp rfl rfl ?_
                      refine wsk rfl ?_
                      refine wpp rfl rfl ?_
                      refine wpp rfl rfl ?_
                      refine wsk rfl ?_
                      refine wsk rfl ?_
                      refine wpp rfl rfl ?_
                      refine wpp rfl rfl ?_
                      obtain rfl := someS h
                      exact (canon0 ⟨rfl, trivial⟩ trivial rfl rfl)
                  · skip
                    refine wsk (gn rfl c9) ?_
                    refine wsk (gn rfl c9) ?_
                    refine wsk (gn rfl c9) ?_
                    refine wpp rfl (p_pick0 c9 rfl rfl) ?_
                    refine wpp rfl rfl ?_
                    refine wsk rfl ?_
                    refine wsk rfl ?_
                    refine wsk rfl ?_
                    refine wpp rfl rfl ?_
                    refine wpp rfl rfl ?_
                    refine wsk rfl ?_
                    refine wsk rfl ?_
                    refine wsk rfl ?_
                    refine wpp rfl rfl ?_
                    refine wpp rfl rfl ?_
                    refine wsk rfl ?_
                    refine wsk rfl ?_
                    refine wpp rfl rfl ?_
                    refine wpp rfl rfl ?_
                    refine wsk rfl ?_
                    refine wsk rfl ?_
                    refine wpp rfl rfl ?_
                    refine wpp rfl rfl ?_
                    refine wsk rfl ?_
                    refine wsk rfl ?_
                    refine wpp rfl rfl ?_
                    refine wpp rfl rfl ?_
                    refine wsk rfl ?_
                    refine wpp rfl rfl ?_
                    refine wpp rfl rfl ?_
                    refine wsk rfl ?_
                    refine wsk rfl ?_
                    refine wpp rfl rfl ?_
                    refine wpp rfl rfl ?_
                    obtain rfl := someS h
                    exact (canon0 ⟨rfl, trivial⟩ trivial rfl rfl)
                · skip
                  refine wsk (gn rfl c8) ?_
                  refine wsk (gn rfl c8) ?_
                  refine wpp rfl (p_pick0 c8 rfl rfl) ?_
                  refine wpp rfl rfl ?_
                  refine wsk rfl ?_
                  refine wsk rfl ?_
                  refine wsk rfl ?_
                  refine wpp rfl rfl ?_
                  refine wpp rfl rfl ?_
                  refine wsk rfl ?_
                  refine wsk rfl ?_
                  refine wsk rfl ?_
                  refine wpp rfl rfl ?_
                  refine wpp rfl rfl ?_
                  refine wsk rfl ?_
                  refine wsk rfl ?_
                  refine wsk rfl ?_
                  refine wpp rfl rfl ?_
                  refine wpp rfl rfl ?_
                  refine wsk rfl ?_
                  refine wsk rfl ?_
                  refine wpp rfl rfl ?_
                  refine wpp rfl rfl ?_
                  refine wsk rfl ?_
                  refine wsk rfl ?_
                  refine wpp rfl rfl ?_
                  refine wpp rfl rfl ?_
                  refine wsk rfl ?_
                  refine wsk rfl ?_
                  refine wpp rfl rfl ?_
                  refine wpp rfl rfl ?_
                  refine wsk rfl ?_
                  refine wpp rfl rfl ?_
                  refine wpp rfl rfl ?_
                  refine wsk rfl ?_
                  refine wsk rfl ?_
                  refine wpp rfl rfl ?_
                  refine wpp rfl rfl ?_
                  obtain rfl := someS h
                  exact (canon0 ⟨rfl, trivial⟩ trivial rfl rfl)
              · skip
                refine wsk (gn rfl c7) ?_
                refine wsk (gn rfl c7) ?_
                refine wpp rfl (p_pick0 c7 rfl rfl) ?_
                refine wpp rfl rfl ?_
                refine wsk rfl ?_
                refine wsk rfl ?_
                refine wpp rfl rfl ?_
                refine wpp rfl rfl ?_
                refine wsk rfl ?_
                refine wsk rfl ?_
                refine wsk rfl ?_
                refine wpp rfl rfl ?_
                refine wpp rfl rfl ?_
                refine wsk rfl ?_
                refine wsk rfl ?_
                refine wsk rfl ?_
                refine wpp rfl rfl ?_
                refine wpp rfl rfl ?_
                refine wsk rfl ?_
                refine wsk rfl ?_
                refine wsk rfl ?_
                refine wpp rfl rfl ?_
                refine wpp rfl rfl ?_
                refine wsk rfl ?_
                refine wsk rfl ?_
                refine wpp rfl rfl ?_
                refine wpp rfl rfl ?_
                refine wsk rfl ?_
                refine wsk rfl ?_
                refine wpp rfl rfl ?_
                refine wpp rfl rfl ?_
                refine wsk rfl ?_
                refine wsk rfl ?_
                refine wpp rfl rfl ?_
                refine wpp rfl rfl ?_
                refine wsk rfl ?_
                refine wpp rfl rfl ?_
                refine wpp rfl rfl ?_
                refine wsk rfl ?_
                refine wsk rfl ?_
                refine wpp rfl rfl ?_
                refine wpp rfl rfl ?_
                obtain rfl := someS h
                exact (canon0 ⟨rfl, trivial⟩ trivial rfl rfl)
            · skip
              refine wsk (gn rfl c6) ?_
              refine wsk (gn rfl c6) ?_
              refine wsk (gn rfl c6) ?_
              refine wsk (gn rfl c6) ?_
              refine wsk (gn rfl c6) ?_
              refine wsk (gn rfl c6) ?_
              refine wsk (gn rfl c6) ?_
              refine wpp rfl (p_pick0 c6 rfl rfl) ?_
              refine wpp rfl rfl ?_
              refine wsk rfl ?_
              refine wsk rfl ?_
              refine wpp rfl rfl ?_
              refine wpp rfl rfl ?_
              refine wsk rfl ?_
              refine wsk rfl ?_
              refine wpp rfl rfl ?_
              refine wpp rfl rfl ?_
              refine wsk rfl ?_
              refine wsk rfl ?_
              refine wsk rfl ?_
              refine wpp rfl rfl ?_
              refine wpp rfl rfl ?_
              refine wsk rfl ?_
              refine wsk rfl ?_
              refine wsk rfl ?_
              refine wpp rfl rfl ?_
              refine wpp rfl rfl ?_
              refine wsk rfl ?_
              refine wsk rfl ?_
              refine wsk rfl ?_
              refine wpp rfl rfl ?_
              refine wpp rfl rfl ?_
              refine wsk rfl ?_
              refine wsk rfl ?_
              refine wpp rfl rfl ?_
              refine wpp rfl rfl ?_
              refine wsk rfl ?_
              refine wsk rfl ?_
              refine wpp rfl rfl ?_
              refine wpp rfl rfl ?_
              refine wsk rfl ?_
              refine wsk rfl ?_
              refine wpp rfl rfl ?_
              refine wpp rfl rfl ?_
              refine wsk rfl ?_
              refine wpp rfl rfl ?_
              refine wpp rfl rfl ?_
              refine wsk rfl ?_
              refine wsk rfl ?_
              refine wpp rfl rfl ?_
              refine wpp rfl rfl ?_
              obtain rfl := someS h
              exact (canon0 ⟨rfl, trivial⟩ trivial rfl rfl)
          · skip
            refine wsk (gn rfl c5) ?_
            refine wsk (gn rfl c5) ?_
            refine wsk (gn rfl c5) ?_
            refine wsk (gn rfl c5) ?_
            refine wsk (gn rfl c5) ?_
            refine wpp rfl (p_pick0 c5 rfl rfl) ?_
            refine wpp rfl rfl ?_
            refine wsk rfl ?_
            refine wsk rfl ?_
            refine wsk rfl ?_
            refine wsk rfl ?_
            refine wsk rfl ?_
            refine wsk rfl ?_
            refine wsk rfl ?_
            refine wpp rfl rfl ?_
            refine wpp rfl rfl ?_
            refine wsk rfl ?_
            refine wsk rfl ?_
            refine wpp rfl rfl ?_
            refine wpp rfl rfl ?_
            refine wsk rfl ?_
            refine wsk rfl ?_
            refine wpp rfl rfl ?_
            refine wpp rfl rfl ?_
            refine wsk rfl ?_
            refine wsk rfl ?_
            refine wsk rfl ?_
            refine wpp rfl rfl ?_
            refine wpp rfl rfl ?_
            refine wsk rfl ?_
            refine wsk rfl ?_
            refine wsk rfl ?_
            refine wpp rfl rfl ?_
            refine wpp rfl rfl ?_
            refine wsk rfl ?_
            refine wsk rfl ?_
            refine wsk rfl ?_
            refine wpp rfl rfl ?_
            refine wpp rfl rfl ?_
            refine wsk rfl ?_
            refine wsk rfl ?_
            refine wpp rfl rfl ?_
            refine wpp rfl rfl ?_
            refine wsk rfl ?_
            refine wsk rfl ?_
            refine wpp rfl rfl ?_
            refine wpp rfl rfl ?_
            refine wsk rfl ?_
            refine wsk rfl ?_
            refine wpp rfl rfl ?_
            refine wpp rfl rfl ?_
            refine wsk rfl ?_
            refine wpp rfl rfl ?_
            refine wpp rfl rfl ?_
            refine wsk rfl ?_
            refine wsk rfl ?_
            refine wpp rfl rfl ?_
            refine wpp rfl rfl ?_
            obtain rfl := someS h
            exact (canon0 ⟨rfl, trivial⟩ trivial rfl rfl)
        · skip
          refine wsk (gn rfl c4) ?_
          refine wsk (gn rfl c4) ?_
          refine wsk (gn rfl c4) ?_
          refine wsk (gn rfl c4) ?_
          refine wsk (gn rfl c4) ?_
          refine wsk (gn rfl c4) ?_
          refine wsk (gn rfl c4) ?_
          refine wpp rfl (p_pick0 c4 rfl rfl) ?_
          refine wpp rfl rfl ?_
          refine wsk rfl ?_
          refine wsk rfl ?_
          refine wsk rfl ?_
          refine wsk rfl ?_
          refine wsk rfl ?_
          refine wpp rfl rfl ?_
          refine wpp rfl rfl ?_
          refine wsk rfl ?_
          refine wsk rfl ?_
          refine wsk rfl ?_
          refine wsk rfl ?_
          refine wsk rfl ?_
          refine wsk rfl ?_
          refine wsk rfl ?_
          refine wpp rfl rfl ?_
          refine wpp rfl rfl ?_
          refine wsk rfl ?_
          refine wsk rfl ?_
          refine wpp rfl rfl ?_
          refine wpp rfl rfl ?_
          refine wsk rfl ?_
          refine wsk rfl ?_
          refine wpp rfl rfl ?_
          refine wpp rfl rfl ?_
          refine wsk rfl ?_
          refine wsk rfl ?_
          refine wsk rfl ?_
          refine wpp rfl rfl ?_
          refine wpp rfl rfl ?_
          refine wsk rfl ?_
          refine wsk rfl ?_
          refine wsk rfl ?_
          refine wpp rfl rfl ?_
          refine wpp rfl rfl ?_
          refine wsk rfl ?_
          refine wsk rfl ?_
          refine wsk rfl ?_
          refine wpp rfl rfl ?_
          refine wpp rfl rfl ?_
          refine wsk rfl ?_
          refine wsk rfl ?_
          refine wpp rfl rfl ?_
          refine wpp rfl rfl ?_
          refine wsk rfl ?_
          refine wsk rfl ?_
          refine wpp rfl rfl ?_
          refine wpp rfl rfl ?_
          refine wsk rfl ?_
          refine wsk rfl ?_
          refine wpp rfl rfl ?_
          refine wpp rfl rfl ?_
          refine wsk rfl ?_
          refine wpp rfl rfl ?_
          refine wpp rfl rfl ?_
          refine wsk rfl ?_
          refine wsk rfl ?_
          refine wpp rfl rfl ?_
          refine wpp rfl rfl ?_
          obtain rfl := someS h
          exact (canon0 ⟨rfl, trivial⟩ trivial rfl rfl)
      · skip
        refine wsk (gn rfl c3) ?_
        refine wsk (gn rfl c3) ?_
        refine wsk (gn rfl c3) ?_
        refine wsk (gn rfl c3) ?_
        refine wsk (gn rfl c3) ?_
        refine wpp rfl (p_pick0 c3 rfl rfl) ?_
        refine wpp rfl rfl ?_
        refine wsk rfl ?_
        refine wsk rfl ?_
        refine wsk rfl ?_
        refine wsk rfl ?_
        refine wsk rfl ?_
        refine wsk rfl ?_
        refine wsk rfl ?_
        refine wpp rfl rfl ?_
        refine wpp rfl rfl ?_
        refine wsk rfl ?_
        refine wsk rfl ?_
        refine wsk rfl ?_
        refine wsk rfl ?_
        refine wsk rfl ?_
        refine wpp rfl rfl ?_
        refine wpp rfl rfl ?_
        refine wsk rfl ?_
        refine wsk rfl ?_
        refine wsk rfl ?_
        refine wsk rfl ?_
        refine wsk rfl ?_
        refine wsk rfl ?_
        refine wsk rfl ?_
        refine wpp rfl rfl ?_
        refine wpp rfl rfl ?_
        refine wsk rfl ?_
        refine wsk rfl ?_
        refine wpp rfl rfl ?_
        refine wpp rfl rfl ?_
        refine wsk rfl ?_
        refine wsk rfl ?_
        refine wpp rfl rfl ?_
        refine wpp rfl rfl ?_
        refine wsk rfl ?_
        refine wsk rfl ?_
        refine wsk rfl ?_
        refine wpp rfl rfl ?_
        refine wpp rfl rfl ?_
        refine wsk rfl ?_
        refine wsk rfl ?_
        refine wsk rfl ?_
        refine wpp rfl rfl ?_
        refine wpp rfl rfl ?_
        refine wsk rfl ?_
        refine wsk rfl ?_
        refine wsk rfl ?_
        refine wpp rfl rfl ?_
        refine wpp rfl rfl ?_
        refine wsk rfl ?_
        refine wsk rfl ?_
        refine wpp rfl rfl ?_
        refine wpp rfl rfl ?_
        refine wsk rfl ?_
        refine wsk rfl ?_
        refine wpp rfl rfl ?_
        refine wpp rfl rfl ?_
        refine wsk rfl ?_
        refine wsk rfl ?_
        refine wpp rfl rfl ?_
        refine wpp rfl rfl ?_
        refine wsk rfl ?_
        refine wpp rfl rfl ?_
        refine wpp rfl rfl ?_
        refine wsk rfl ?_
        refine wsk rfl ?_
        refine wpp rfl rfl ?_
        refine wpp rfl rfl ?_
        obtain rfl := someS h
        exact (canon0 ⟨rfl, trivial⟩ trivial rfl rfl)
    · skip
      refine wsk (gn rfl c2) ?_
      refine wsk (gn rfl c2) ?_
      refine wsk (gn rfl c2) ?_
      refine wpp rfl (p_pick0 c2 rfl rfl) ?_
      refine wpp rfl rfl ?_
      refine wsk rfl ?_
      refine wsk rfl ?_
      refine wsk rfl ?_
      refine wsk rfl ?_
      refine wsk rfl ?_
      refine wpp rfl rfl ?_
      refine wpp rfl rfl ?_
      refine wsk rfl ?_
      refine wsk rfl ?_
      refine wsk rfl ?_
      refine wsk rfl ?_
      refine wsk rfl ?_
      refine wsk rfl ?_
      refine wsk rfl ?_
      refine wpp rfl rfl ?_
      refine wpp rfl rfl ?_
      refine wsk rfl ?_
      refine wsk rfl ?_
      refine wsk rfl ?_
      refine wsk rfl ?_
      refine wsk rfl ?_
      refine wpp rfl rfl ?_
      refine wpp rfl rfl ?_
      refine wsk rfl ?_
      refine wsk rfl ?_
      refine wsk rfl ?_
      refine wsk rfl ?_
      refine wsk rfl ?_
      refine wsk rfl ?_
      refine wsk rfl ?_
      refine wpp rfl rfl ?_
      refine wpp rfl rfl ?_
      refine wsk rfl ?_
      refine wsk rfl ?_
      refine wpp rfl rfl ?_
      refine wpp rfl rfl ?_
      refine wsk rfl ?_
      refine wsk rfl ?_
      refine wpp rfl rfl ?_
      refine wpp rfl rfl ?_
      refine wsk rfl ?_
      refine wsk rfl ?_
      refine wsk rfl ?_
      refine wpp rfl rfl ?_
      refine wpp rfl rfl ?_
      refine wsk rfl ?_
      refine wsk rfl ?_
      refine wsk rfl ?_
      refine wpp rfl rfl ?_
      refine wpp rfl rfl ?_
      refine wsk rfl ?_
      refine wsk rfl ?_
      refine wsk rfl ?_
      refine wpp rfl rfl ?_
      refine wpp rfl rfl ?_
      refine wsk rfl ?_
      refine wsk rfl ?_
      refine wpp rfl rfl ?_
      refine wpp rfl rfl ?_
      refine wsk rfl ?_
      refine wsk rfl ?_
      refine wpp rfl rfl ?_
      refine wpp rfl rfl ?_
      refine wsk rfl ?_
      refine wsk rfl ?_
      refine wpp rfl rfl ?_
      refine wpp rfl rfl ?_
      refine wsk rfl ?_
      refine wpp rfl rfl ?_
      refine wpp rfl rfl ?_
      refine wsk rfl ?_
      refine wsk rfl ?_
      refine wpp rfl rfl ?_
      refine wpp rfl rfl ?_
      obtain rfl := someS h
      exact (canon0 ⟨rfl, trivial⟩ trivial rfl rfl)
  · clear hg1
    obtain rfl := someS h
    refine xret ?_
    exact ⟨nofun, rfl, rfl⟩
end Go.Gp
end
section
set_option linter.unusedVariables false
set_option linter.unusedSimpArgs false
set_option maxRecDepth 4000
namespace Go.Gp
open Go.Vd Go.RowKit Go.Proofs
def k10_l6 : IC := (.seq (.seq (.reg [⟨(some 4), (.mov (.t 3)), none⟩, ⟨(some 5), (.mov (.t 0)), none⟩, ⟨(some 6), (.len false (.t 5)), none⟩, ⟨(some 7), (.bin .lss (.t 4) (.t 6)), none⟩]) (.cond (.t 7) .skip (.exit 0))) (.seq (.block 1 (.seq (.reg [⟨(some 10), (.mov (.t 0)), none⟩, ⟨(some 11), (.mov (.t 3)), none⟩, ⟨(some 12), (.ixp 2 (.t 10) (.t 11)), none⟩, ⟨(some 13), (.fda 0 (.t 12)), none⟩, ⟨(some 14), (.load 1 false (.t 13)), none⟩, ⟨(some 15), (.len true (.t 14)), none⟩, ⟨(some 16), (.bin .gtr (.t 15) (.c (.int .i64 30))), none⟩, ⟨(some 17), (.mov (.t 16)), none⟩, ⟨(some 18), (.mov (.t 0)), (some (17, false))⟩, ⟨(some 19), (.mov (.t 3)), (some (17, false))⟩, ⟨(some 20), (.ixp 2 (.t 18) (.t 19)), (some (17, false))⟩, ⟨(some 21), (.fda 1 (.t 20)), (some (17, false))⟩, ⟨(some 22), (.load 1 false (.t 21)), (some (17, false))⟩, ⟨(some 23), (.len true (.t 22)), (some (17, false))⟩, ⟨(some 24), (.bin .gtr (.t 23) (.c (.int .i64 80))), (some (17, false))⟩, ⟨(some 25), (.pick (.t 17) (.c (.bool true)) (.t 24)), none⟩]) (.cond (.t 25) (.seq (.reg [⟨(some 2), (.mov (.c (.bool false))), none⟩]) .ret) .skip))) (.reg [⟨(some 8), (.mov (.t 3)), none⟩, ⟨(some 9), (.bin .add (.t 8) (.c (.int .i64 1))), none⟩, ⟨(some 3), (.mov (.t 9)), none⟩])))
def k10 : IC := (.seq (.reg [⟨(some 2), (.mov (.c (.bool false))), none⟩]) (.seq (.seq (.reg [⟨(some 3), (.mov (.c (.int .i64 0))), none⟩]) (.block 0 (.loop k10_l6))) (.seq (.reg [⟨(some 26), (.mov (.t 0)), none⟩, ⟨(some 27), (.len false (.t 26)), none⟩, ⟨(some 28), (.bin .leq (.t 27) (.c (.int .i64 6))), none⟩, ⟨(some 2), (.mov (.t 28)), none⟩]) .ret)))
theorem k10_cf : cfunc Try.prog Try.f10 = some ⟨29, k10, [(.tmp 2)]⟩ := by kernel_rfl
theorem w_prefectlaw4_fewRDN_l6 (N : Nat) (a0 : List api_AVA) : ∀ (n : Nat) (x : Int) (y : Unit ⊕ Bool), prefectlaw4_fewRDN_l6 N a0 n x = some y → WX Try.prog (fun _ => false) (.loop k10_l6) ((fun (x : Int) => ⟨ofL [(0, .sl 2 (List.map e_api_AVA a0)), (3, .int .i64 x)], ofL []⟩) x) ((Sum.elim (fun y e s => e = .exit 0 ∧ s = ⟨ofL [(0, .sl 2 (List.map e_api_AVA a0))], ofL []⟩) (fun y e s => e = .ret ∧ s = ⟨ofL [(2, .bool y)], ofL []⟩) : (Unit ⊕ Bool) → Xt → St → Prop) y) := by
  refine xloop (fun (x : Int) => ⟨ofL [(0, .sl 2 (List.map e_api_AVA a0)), (3, .int .i64 x)], ofL []⟩) _ (prefectlaw4_fewRDN_l6 N a0) (prefectlaw4_fewRDN_l6_b N a0) (fun _ => rfl) (fun _ _ => rfl) ?_
  rintro rec v3l6 y h
  refine xseq ?_
  refine xseq ?_
  refine xreg ?_
  refine wpp rfl rfl ?_
  refine wpp rfl rfl ?_
  refine wpp rfl (p_lens rfl) ?_
  refine wpp rfl rfl ?_
  rcases bifS h with ⟨c1, h⟩ | ⟨c1, h⟩
  · refine xcT rfl c1 ?_
    refine xskip ?_
    refine xseq ?_
    refine xblk ?_
    obtain ⟨g2, hg2, h⟩ := bindS h
    refine xseg ⟨ofL [(0, .sl 2 (List.map e_api_AVA a0)), (3, .int .i64 v3l6), (25, .bool g2)], ofL []⟩ ?_ ?_
    · have h := hg2
      refine xreg ?_
      refine wpp rfl rfl ?_
      refine wpp rfl rfl ?_
      obtain ⟨x12, hx12, h⟩ := bindS h
      refine wpp rfl (p_ixs (cs := [.str x12.Attr, .str x12.Value]) hx12 rfl rfl rfl) ?_
      refine wpp (p := .ep [.str x12.Attr, .str x12.Value]) rfl rfl ?_
      refine wpp rfl rfl ?_
      refine wpp rfl rfl ?_
      refine wpp rfl rfl ?_
      refine wpp rfl rfl ?_
      rcases bifS h with ⟨c3, h⟩ | ⟨c3, h⟩
      · skip
        refine wsk (gn rfl c3) ?_
        refine wsk (gn rfl c3) ?_
        refine wsk (gn rfl c3) ?_
        refine wsk (gn rfl c3) ?_
        refine wsk (gn rfl c3) ?_
        refine wsk (gn rfl c3) ?_
        refine wsk (gn rfl c3) ?_
        refine wpp rfl (p_pick1 c3 rfl rfl) ?_
        obtain rfl := someS h
        exact (canon0 ⟨rfl, rfl, rfl, trivial⟩ trivial rfl rfl)
      · skip
        refine wpp (gy rfl c3) rfl ?_
        refine wpp (gy rfl c3) rfl ?_
        obtain ⟨x20, hx20, h⟩ := bindS h
        refine wpp (gy rfl c3) (p_ixs (cs := [.str x20.Attr, .str x20.Value]) hx20 rfl rfl rfl) ?_
        refine wpp (p := .ep [.str x20.Value]) (gy rfl c3) rfl ?_
        refine wpp (gy rfl c3) rfl ?_
        refine wpp (gy rfl c3) rfl ?_
        refine wpp (gy rfl c3) rfl ?_
        refine wpp rfl (p_pick0 c3 rfl rfl) ?_
        obtain rfl := someS h
        exact (canon0 ⟨rfl, rfl, rfl, trivial⟩ trivial rfl rfl)
    · clear hg2
      rcases bifS h with ⟨c4, h⟩ | ⟨c4, h⟩
      · refine xcT rfl c4 ?_
        refine xseq ?_
        refine xreg ?_
        refine wpp rfl rfl ?_
        obtain rfl := someS h
        exact xretn (st1 := ⟨ofL [(2, .bool false)], ofL []⟩) (canon0 ⟨rfl, trivial⟩ trivial rfl rfl) ⟨rfl, rfl⟩
      · refine xcF rfl c4 ?_
        refine xskip ?_
        refine xreg ?_
        refine wpp rfl rfl ?_
        refine wpp (p := .int .i64 (w64 (v3l6 + (1 : Int)))) rfl rfl ?_
        refine wpp rfl rfl ?_
        exact ⟨(w64 (v3l6 + (1 : Int))), (canon0 ⟨rfl, rfl, trivial⟩ trivial rfl rfl), h⟩
  · refine xcF rfl c1 ?_
    obtain rfl := someS h
    exact xexitn (st1 := ⟨ofL [(0, .sl 2 (List.map e_api_AVA a0))], ofL []⟩) (canon0 ⟨rfl, trivial⟩ trivial rfl rfl) ⟨rfl, rfl⟩
theorem sat_prefectlaw4_fewRDN (N : Nat) (a0 : List api_AVA) (r : Bool) (h : prefectlaw4_fewRDN N a0 = some r) : Sat Try.prog 10 noRows [.sl 2 (List.map e_api_AVA a0)] (.bool r) noRows := by
  refine xsat mixed Try.func10 k10_cf (rs := [.bool r]) rfl rfl ?_
  refine xseq ?_
  refine xreg ?_
  refine wpp rfl rfl ?_
  refine xseq ?_
  refine xseq ?_
  refine xreg ?_
  refine wpp rfl rfl ?_
  refine xblk ?_
  obtain ⟨y5, hy5, h⟩ := bindS h
  refine xloopU (st1 := ⟨ofL [(0, .sl 2 (List.map e_api_AVA a0)), (3, .int .i64 0)], ofL []⟩) (canon0 ⟨rfl, rfl, trivial⟩ trivial rfl rfl) (w_prefectlaw4_fewRDN_l6 N a0 N _ _ hy5) ?_
  clear hy5
  rcases y5 with y5 | y5
  · rintro e s ⟨rfl, rfl⟩
    refine xseq ?_
    refine xreg ?_
    refine wpp rfl rfl ?_
    refine wpp rfl (p_lens rfl) ?_
    refine wpp rfl rfl ?_
    refine wpp rfl rfl ?_
    obtain rfl := someS h
    refine xret ?_
    exact ⟨nofun, rfl, rfl⟩
  · rintro e s ⟨rfl, rfl⟩
    obtain rfl := someS h
    exact ⟨nofun, rfl, rfl⟩
end Go.Gp
end
section
set_option linter.unusedVariables false
set_option linter.unusedSimpArgs false
set_option maxRecDepth 4000
namespace Go.Gp
open Go.Vd Go.RowKit Go.Proofs
def k9_l6 : IC := (.seq (.seq (.reg [⟨(some 4), (.mov (.t 3)), none⟩, ⟨(some 5), (.mov (.t 0)), none⟩, ⟨(some 6), (.len false (.t 5)), none⟩, ⟨(some 7), (.bin .lss (.t 4) (.t 6)), none⟩]) (.cond (.t 7) .skip (.exit 0))) (.seq (.block 1 (.seq (.reg [⟨(some 10), (.mov (.t 0)), none⟩, ⟨(some 11), (.mov (.t 3)), none⟩, ⟨(some 12), (.ixp 1 (.t 10) (.t 11)), none⟩, ⟨(some 13), (.load 1 false (.t 12)), none⟩, ⟨(some 14), (.call 10 [(.t 13)]), none⟩, ⟨(some 15), (.un .not (.t 14)), none⟩]) (.cond (.t 15) (.seq (.reg [⟨(some 2), (.mov (.c (.bool false))), none⟩]) .ret) .skip))) (.reg [⟨(some 8), (.mov (.t 3)), none⟩, ⟨(some 9), (.bin .add (.t 8) (.c (.int .i64 1))), none⟩, ⟨(some 3), (.mov (.t 9)), none⟩])))
def k9 : IC := (.seq (.reg [⟨(some 2), (.mov (.c (.bool false))), none⟩]) (.seq (.seq (.reg [⟨(some 3), (.mov (.c (.int .i64 0))), none⟩]) (.block 0 (.loop k9_l6))) (.seq (.reg [⟨(some 16), (.mov (.t 0)), none⟩, ⟨(some 17), (.len false (.t 16)), none⟩, ⟨(some 18), (.bin .leq (.t 17) (.c (.int .i64 12))), none⟩, ⟨(some 2), (.mov (.t 18)), none⟩]) .ret)))
theorem k9_cf : cfunc Try.prog Try.f9 = some ⟨19, k9, [(.tmp 2)]⟩ := by kernel_rfl
theorem w_prefectlaw4_few_l6 (N : Nat) (a0 : List (List api_AVA)) : ∀ (n : Nat) (x : Int) (y : Unit ⊕ Bool), prefectlaw4_few_l6 N a0 n x = some y → WX Try.prog (fun _ => false) (.loop k9_l6) ((fun (x : Int) => ⟨ofL [(0, .sl 1 (List.map (es 2 e_api_AVA) a0)), (3, .int .i64 x)], ofL []⟩) x) ((Sum.elim (fun y e s => e = .exit 0 ∧ s = ⟨ofL [(0, .sl 1 (List.map (es 2 e_api_AVA) a0))], ofL []⟩) (fun y e s => e = .ret ∧ s = ⟨ofL [(2, .bool y)], ofL []⟩) : (Unit ⊕ Bool) → Xt → St → Prop) y) := by
  refine xloop (fun (x : Int) => ⟨ofL [(0, .sl 1 (List.map (es 2 e_api_AVA) a0)), (3, .int .i64 x)], ofL []⟩) _ (prefectlaw4_few_l6 N a0) (prefectlaw4_few_l6_b N a0) (fun _ => rfl) (fun _ _ => rfl) ?_
  rintro rec v3l6 y h
  refine xseq ?_
  refine xseq ?_
  refine xreg ?_
  refine wpp rfl rfl ?_
  refine wpp rfl rfl ?_
  refine wpp rfl (p_lens rfl) ?_
  refine wpp rfl rfl ?_
  rcases bifS h with ⟨c1, h⟩ | ⟨c1, h⟩
  · refine xcT rfl c1 ?_
    refine xskip ?_
    refine xseq ?_
    refine xblk ?_
    refine xseq ?_
    refine xreg ?_
    refine wpp rfl rfl ?_
    refine wpp rfl rfl ?_
    obtain ⟨x12, hx12, h⟩ := bindS h
    refine wpp rfl (p_ixs (cs := [.sl 2 (List.map e_api_AVA x12)]) hx12 rfl rfl rfl) ?_
    refine wpp rfl rfl ?_
    obtain ⟨x14, hx14, h⟩ := bindS h
    refine woo rfl (ocal (sat_prefectlaw4_fewRDN N _ _ hx14) rfl (.cons sub_rfl .nil) rfl rfl rfl) ?_
    refine wpp rfl rfl ?_
    rcases bifS h with ⟨c2, h⟩ | ⟨c2, h⟩
    · refine xcT rfl c2 ?_
      refine xseq ?_
      refine xreg ?_
      refine wpp rfl rfl ?_
      obtain rfl := someS h
      exact xretn (st1 := ⟨ofL [(2, .bool false)], ofL []⟩) (canon0 ⟨rfl, trivial⟩ trivial rfl rfl) ⟨rfl, rfl⟩
    · refine xcF rfl c2 ?_
      refine xskip ?_
      refine xreg ?_
      refine wpp rfl rfl ?_
      refine wpp (p := .int .i64 (w64 (v3l6 + (1 : Int)))) rfl rfl ?_
      refine wpp rfl rfl ?_
      exact ⟨(w64 (v3l6 + (1 : Int))), (canon0 ⟨rfl, rfl, trivial⟩ trivial rfl rfl), h⟩
  · refine xcF rfl c1 ?_
    obtain rfl := someS h
    exact xexitn (st1 := ⟨ofL [(0, .sl 1 (List.map (es 2 e_api_AVA) a0))], ofL []⟩) (canon0 ⟨rfl, trivial⟩ trivial rfl rfl) ⟨rfl, rfl⟩
theorem sat_prefectlaw4_few (N : Nat) (a0 : List (List api_AVA)) (r : Bool) (h : prefectlaw4_few N a0 = some r) : Sat Try.prog 9 noRows [.sl 1 (List.map (es 2 e_api_AVA) a0)] (.bool r) noRows := by
  refine xsat mixed Try.func9 k9_cf (rs := [.bool r]) rfl rfl ?_
  refine xseq ?_
  refine xreg ?_
  refine wpp rfl rfl ?_
  refine xseq ?_
  refine xseq ?_
  refine xreg ?_
  refine wpp rfl rfl ?_
  refine xblk ?_
  obtain ⟨y3, hy3, h⟩ := bindS h
  refine xloopU (st1 := ⟨ofL [(0, .sl 1 (List.map (es 2 e_api_AVA) a0)), (3, .int .i64 0)], ofL []⟩) (canon0 ⟨rfl, rfl, trivial⟩ trivial rfl rfl) (w_prefectlaw4_few_l6 N a0 N _ _ hy3) ?_
  clear hy3
  rcases y3 with y3 | y3
  · rintro e s ⟨rfl, rfl⟩
    refine xseq ?_
    refine xreg ?_
    refine wpp rfl rfl ?_
    refine wpp rfl (p_lens rfl) ?_
    refine wpp rfl rfl ?_
    refine wpp rfl rfl ?_
    obtain rfl := someS h
    refine xret ?_
    exact ⟨nofun, rfl, rfl⟩
  · rintro e s ⟨rfl, rfl⟩
    obtain rfl := someS h
    exact ⟨nofun, rfl, rfl⟩
end Go.Gp
end
