/- A part of the proof: functions of the program and what they compute. -/
import Derived.Test.YtgjeiamilppafaaDoorA5
import Derived.Test.YtgjeiamilppafaaDoorA8
import Derived.Test.YtgjeiamilppafaaDoorA7
section
set_option linter.unusedVariables false
set_option linter.unusedSimpArgs false
set_option maxRecDepth 4000
set_option maxHeartbeats 4000000
namespace Go.Gp
open Go.Vd Go.RowKit Go.Proofs
def k23o0_d5 : List (List Nat) := [[], [], [], [2], [], [4], [0, 0, 2, 3], [6, 0, 2, 3], [7, 0, 2, 3], [8, 3, 0, 2, 3], [1, 0, 1, 2, 3, 4, 5, 6, 7, 8, 9], [10, 0, 1, 2, 3, 4, 5, 6, 7, 8, 9], [11, 0, 1, 2, 3, 4, 5, 6, 7, 8, 9], [12, 5, 9, 0, 1, 2, 3, 4, 5, 6, 7, 8, 9]]
def k23o0_o5 : List Ins := [⟨(some 36), (.mov (.t 0)), none⟩, ⟨(some 37), (.mov (.t 0)), none⟩, ⟨(some 38), (.fda 0 (.t 3)), none⟩, ⟨(some 39), (.load 1 false (.t 38)), none⟩, ⟨(some 40), (.fda 1 (.t 3)), none⟩, ⟨(some 41), (.load 1 false (.t 40)), none⟩, ⟨(some 42), (.nck (.t 36)), none⟩, ⟨(some 43), (.fda 0 (.t 42)), none⟩, ⟨(some 44), (.fda 0 (.t 43)), none⟩, ⟨none, (.store 1 (.t 44) (.t 39)), none⟩, ⟨(some 45), (.nck (.t 37)), none⟩, ⟨(some 46), (.fda 0 (.t 45)), none⟩, ⟨(some 47), (.fda 1 (.t 46)), none⟩, ⟨none, (.store 1 (.t 47) (.t 41)), none⟩]
def k23o0 : IC := (.seq (.reg [⟨(some 3), (.box 23 (.t 1)), none⟩]) (.seq (.regd 32 [⟨(some 4), (.load 3 true (.t 3)), none⟩, ⟨(some 5), (.call 9 [(.t 4)]), none⟩, ⟨(some 6), (.mov (.t 5)), none⟩, ⟨(some 7), (.fda 0 (.t 3)), (some (6, true))⟩, ⟨(some 8), (.load 1 false (.t 7)), (some (6, true))⟩, ⟨(some 9), (.mov (.t 0)), (some (6, true))⟩, ⟨(some 10), (.nck (.t 9)), (some (6, true))⟩, ⟨(some 11), (.fda 0 (.t 10)), (some (6, true))⟩, ⟨(some 12), (.fda 0 (.t 11)), (some (6, true))⟩, ⟨(some 13), (.load 1 false (.t 12)), (some (6, true))⟩, ⟨(some 14), (.bin .gtr (.t 8) (.t 13)), (some (6, true))⟩, ⟨(some 15), (.mov (.t 14)), (some (6, true))⟩, ⟨(some 16), (.fda 0 (.t 3)), (some (15, false))⟩, ⟨(some 17), (.load 1 false (.t 16)), (some (15, false))⟩, ⟨(some 18), (.mov (.t 0)), (some (15, false))⟩, ⟨(some 19), (.nck (.t 18)), (some (15, false))⟩, ⟨(some 20), (.fda 0 (.t 19)), (some (15, false))⟩, ⟨(some 21), (.fda 0 (.t 20)), (some (15, false))⟩, ⟨(some 22), (.load 1 false (.t 21)), (some (15, false))⟩, ⟨(some 23), (.bin .eql (.t 17) (.t 22)), (some (15, false))⟩, ⟨(some 24), (.mov (.t 23)), (some (15, false))⟩, ⟨(some 25), (.fda 1 (.t 3)), (some (24, true))⟩, ⟨(some 26), (.load 1 false (.t 25)), (some (24, true))⟩, ⟨(some 27), (.mov (.t 0)), (some (24, true))⟩, ⟨(some 28), (.nck (.t 27)), (some (24, true))⟩, ⟨(some 29), (.fda 0 (.t 28)), (some (24, true))⟩, ⟨(some 30), (.fda 1 (.t 29)), (some (24, true))⟩, ⟨(some 31), (.load 1 false (.t 30)), (some (24, true))⟩, ⟨(some 32), (.bin .gtr (.t 26) (.t 31)), (some (24, true))⟩, ⟨(some 33), (.pick (.t 24) (.t 32) (.c (.bool false))), (some (15, false))⟩, ⟨(some 34), (.pick (.t 15) (.c (.bool true)) (.t 33)), (some (6, true))⟩, ⟨(some 35), (.pick (.t 6) (.t 34) (.c (.bool false))), none⟩]) (.cond (.t 35) (.rega k23o0_d5 k23o0_o5) .skip)))
theorem k23o0_cf : cfunc Tryd.prog Tryd.f23 = some ⟨48, k23o0, []⟩ := by kernel_rfl
theorem sat_prefectref10_Gen_See_o0 (N : Nat) (a0 : prefectref10_Gen) (a1 : api_CSN) (r : prefectref10_Gen) (h : prefectref10_Gen_See_o0 N a0 a1 = some r) : Sat Tryd.prog 23 (ofL [(700450, ⟨3, false, [e_prefectref10_Gen a0]⟩)]) [.ptr 700450 0 0, e_api_CSN a1] (.tup []) (ofL [(700450, ⟨3, false, [e_prefectref10_Gen r]⟩)]) := by
  refine xsatO [(700450, ⟨3, false, [e_prefectref10_Gen a0]⟩)] [(700450, ⟨3, false, [e_prefectref10_Gen r]⟩)] mixed Tryd.func23 k23o0_cf (rs := []) rfl rfl rfl ?_
  refine xseq ?_
  refine xreg ?_
  refine woo rfl (obox 36803 rfl rfl rfl rfl rfl) ?_
  obtain ⟨g1, hg1, h⟩ := bindS h
  refine xseg ⟨ofL [(0, .ptr 700450 0 0), (3, .ptr 36803 0 0), (35, .bool g1)], ofL [(36803, ⟨3, false, [e_api_CSN a1]⟩), (700450, ⟨3, false, [e_prefectref10_Gen a0]⟩)]⟩ ?_ ?_
  · have h := hg1
    refine xregd ?_
    refine wdp (p := e_api_CSN a1) rfl rfl ?_
    obtain ⟨x5, hx5, h⟩ := bindS h
    refine wdN rfl (pcal (sat_prefectref10_Is N _ _ hx5) rfl (.cons sub_rfl .nil) rfl rfl rfl) no_fresh ?_
    refine wdp rfl rfl ?_
    rcases bifS h with ⟨c2, h⟩ | ⟨c2, h⟩
    · skip
      refine wdp (gy rfl c2) rfl ?_
      refine wdp (gy rfl c2) rfl ?_
      refine wdp (gy rfl c2) rfl ?_
      refine wdp (gy rfl c2) rfl ?_
      refine wdp (gy rfl c2) rfl ?_
      refine wdp (gy rfl c2) rfl ?_
      refine wdp (gy rfl c2) rfl ?_
      refine wdp (gy rfl c2) rfl ?_
      refine wdp (gy rfl c2) rfl ?_
      rcases bifS h with ⟨c3, h⟩ | ⟨c3, h⟩
      · skip
        refine wdn (gn rfl c3) ?_
        refine wdn (gn rfl c3) ?_
        refine wdn (gn rfl c3) ?_
        refine wdn (gn rfl c3) ?_
        refine wdn (gn rfl c3) ?_
        refine wdn (gn rfl c3) ?_
        refine wdn (gn rfl c3) ?_
        refine wdn (gn rfl c3) ?_
        refine wdn (gn rfl c3) ?_
        refine wdn (gu rfl) ?_
        refine wdn (gu rfl) ?_
        refine wdn (gu rfl) ?_
        refine wdn (gu rfl) ?_
        refine wdn (gu rfl) ?_
        refine wdn (gu rfl) ?_
        refine wdn (gu rfl) ?_
        refine wdn (gu rfl) ?_
        refine wdn (gn rfl c3) ?_
        refine wdp (gy rfl c2) (p_pick1 c3 rfl rfl) ?_
        refine wdp rfl (p_pick1 c2 rfl rfl) ?_
        obtain rfl := someS h
        exact (canonT [700450] rfl ⟨rfl, rfl, rfl, trivial⟩ ⟨rfl, rfl, trivial⟩ rfl rfl)
      · skip
        refine wdp (gy rfl c3) rfl ?_
        refine wdp (gy rfl c3) rfl ?_
        refine wdp (gy rfl c3) rfl ?_
        refine wdp (gy rfl c3) rfl ?_
        refine wdp (gy rfl c3) rfl ?_
        refine wdp (gy rfl c3) rfl ?_
        refine wdp (gy rfl c3) rfl ?_
        refine wdp (gy rfl c3) rfl ?_
        refine wdp (gy rfl c3) rfl ?_
        rcases bifS h with ⟨c4, h⟩ | ⟨c4, h⟩
        · skip
          refine wdp (gy rfl c4) rfl ?_
          refine wdp (gy rfl c4) rfl ?_
          refine wdp (gy rfl c4) rfl ?_
          refine wdp (gy rfl c4) rfl ?_
          refine wdp (gy rfl c4) rfl ?_
          refine wdp (gy rfl c4) rfl ?_
          refine wdp (gy rfl c4) rfl ?_
          refine wdp (gy rfl c4) rfl ?_
          refine wdp (gy rfl c3) (p_pick1 c4 rfl rfl) ?_
          refine wdp (gy rfl c2) (p_pick0 c3 rfl rfl) ?_
          refine wdp rfl (p_pick1 c2 rfl rfl) ?_
          obtain rfl := someS h
          exact (canonT [700450] rfl ⟨rfl, rfl, rfl, trivial⟩ ⟨rfl, rfl, trivial⟩ rfl rfl)
        · skip
          refine wdn (gn rfl c4) ?_
          refine wdn (gn rfl c4) ?_
          refine wdn (gn rfl c4) ?_
          refine wdn (gn rfl c4) ?_
          refine wdn (gn rfl c4) ?_
          refine wdn (gn rfl c4) ?_
          refine wdn (gn rfl c4) ?_
          refine wdn (gn rfl c4) ?_
          refine wdp (gy rfl c3) (p_pick0 c4 rfl rfl) ?_
          refine wdp (gy rfl c2) (p_pick0 c3 rfl rfl) ?_
          refine wdp rfl (p_pick1 c2 rfl rfl) ?_
          obtain rfl := someS h
          exact (canonT [700450] rfl ⟨rfl, rfl, rfl, trivial⟩ ⟨rfl, rfl, trivial⟩ rfl rfl)
    · skip
      refine wdn (gn rfl c2) ?_
      refine wdn (gn rfl c2) ?_
      refine wdn (gn rfl c2) ?_
      refine wdn (gn rfl c2) ?_
      refine wdn (gn rfl c2) ?_
      refine wdn (gn rfl c2) ?_
      refine wdn (gn rfl c2) ?_
      refine wdn (gn rfl c2) ?_
      refine wdn (gn rfl c2) ?_
      refine wdn (gu rfl) ?_
      refine wdn (gu rfl) ?_
      refine wdn (gu rfl) ?_
      refine wdn (gu rfl) ?_
      refine wdn (gu rfl) ?_
      refine wdn (gu rfl) ?_
      refine wdn (gu rfl) ?_
      refine wdn (gu rfl) ?_
      refine wdn (gu rfl) ?_
      refine wdn (gu rfl) ?_
      refine wdn (gu rfl) ?_
      refine wdn (gu rfl) ?_
      refine wdn (gu rfl) ?_
      refine wdn (gu rfl) ?_
      refine wdn (gu rfl) ?_
      refine wdn (gu rfl) ?_
      refine wdn (gu rfl) ?_
      refine wdn (gu rfl) ?_
      refine wdn (gn rfl c2) ?_
      refine wdp rfl (p_pick0 c2 rfl rfl) ?_
      obtain rfl := someS h
      exact (canonT [700450] rfl ⟨rfl, rfl, rfl, trivial⟩ ⟨rfl, rfl, trivial⟩ rfl rfl)
  · clear hg1
    rcases bifS h with ⟨c5, h⟩ | ⟨c5, h⟩
    · refine xcT rfl c5 ?_
      refine xrega ⟨ofL [], ofL [(700450, ⟨3, false, [.agg [.int .i64 a1.Time, .int .i64 a1.Seq, .int .i64 a0.Last.Rep]]⟩)]⟩ 14 rfl ?_ ?_
      · skip
        have a5_63 : AnyW Tryd.prog (lentT [700450]) k23o0_d5 k23o0_o5 0 [0, 1, 2, 3, 4, 5, 6, 7, 8, 9, 10, 11, 12, 13] ⟨ofL [], ofL [(700450, ⟨3, false, [.agg [.int .i64 a1.Time, .int .i64 a1.Seq, .int .i64 a0.Last.Rep]]⟩)]⟩ ⟨ofL [], ofL [(700450, ⟨3, false, [.agg [.int .i64 a1.Time, .int .i64 a1.Seq, .int .i64 a0.Last.Rep]]⟩)]⟩ := by
          exact yend rfl (canonT [700450] rfl trivial ⟨rfl, trivial⟩ rfl rfl)
        have a5_62 : AnyW Tryd.prog (lentT [700450]) k23o0_d5 k23o0_o5 1 [0, 1, 2, 3, 4, 5, 6, 7, 8, 9, 10, 11, 12] ⟨ofL [(41, .int .i64 a1.Seq), (47, .ptr 700450 0 1)], ofL [(700450, ⟨3, false, [.agg [.int .i64 a1.Time, .int .i64 a0.Last.Seq, .int .i64 a0.Last.Rep]]⟩)]⟩ ⟨ofL [], ofL [(700450, ⟨3, false, [.agg [.int .i64 a1.Time, .int .i64 a1.Seq, .int .i64 a0.Last.Rep]]⟩)]⟩ := by
          refine yc (l := [13]) rfl nofun ⟨⟨_, rfl, ?_⟩, trivial⟩
          · skip
            refine wstb (e' := .agg [.int .i64 a1.Time, .int .i64 a1.Seq, .int .i64 a0.Last.Rep]) rfl rfl rfl rfl rfl rfl rfl rfl nofun rfl ?_
            exact AnyW.of a5_63 rfl (canonT [700450] rfl trivial ⟨rfl, trivial⟩ rfl rfl)
        have a5_61 : AnyW Tryd.prog (lentT [700450]) k23o0_d5 k23o0_o5 2 [0, 1, 2, 3, 4, 5, 6, 7, 8, 9, 10, 11] ⟨ofL [(41, .int .i64 a1.Seq), (46, .ptr 700450 0 0)], ofL [(700450, ⟨3, false, [.agg [.int .i64 a1.Time, .int .i64 a0.Last.Seq, .int .i64 a0.Last.Rep]]⟩)]⟩ ⟨ofL [], ofL [(700450, ⟨3, false, [.agg [.int .i64 a1.Time, .int .i64 a1.Seq, .int .i64 a0.Last.Rep]]⟩)]⟩ := by
          refine yc (l := [12]) rfl nofun ⟨⟨_, rfl, ?_⟩, trivial⟩
          · skip
            refine wpp rfl rfl ?_
            exact AnyW.of a5_62 rfl (canonT [700450] rfl ⟨rfl, rfl, trivial⟩ ⟨rfl, trivial⟩ rfl rfl)
        have a5_60 : AnyW Tryd.prog (lentT [700450]) k23o0_d5 k23o0_o5 3 [0, 1, 2, 3, 4, 5, 6, 7, 8, 9, 10] ⟨ofL [(41, .int .i64 a1.Seq), (45, .ptr 700450 0 0)], ofL [(700450, ⟨3, false, [.agg [.int .i64 a1.Time, .int .i64 a0.Last.Seq, .int .i64 a0.Last.Rep]]⟩)]⟩ ⟨ofL [], ofL [(700450, ⟨3, false, [.agg [.int .i64 a1.Time, .int .i64 a1.Seq, .int .i64 a0.Last.Rep]]⟩)]⟩ := by
          refine yc (l := [11]) rfl nofun ⟨⟨_, rfl, ?_⟩, trivial⟩
          · skip
            refine wpp rfl rfl ?_
            exact AnyW.of a5_61 rfl (canonT [700450] rfl ⟨rfl, rfl, trivial⟩ ⟨rfl, trivial⟩ rfl rfl)
        have a5_59 : AnyW Tryd.prog (lentT [700450]) k23o0_d5 k23o0_o5 4 [0, 1, 2, 3, 4, 5, 6, 7, 8, 9] ⟨ofL [(37, .ptr 700450 0 0), (41, .int .i64 a1.Seq)], ofL [(700450, ⟨3, false, [.agg [.int .i64 a1.Time, .int .i64 a0.Last.Seq, .int .i64 a0.Last.Rep]]⟩)]⟩ ⟨ofL [], ofL [(700450, ⟨3, false, [.agg [.int .i64 a1.Time, .int .i64 a1.Seq, .int .i64 a0.Last.Rep]]⟩)]⟩ := by
          refine yc (l := [10]) rfl nofun ⟨⟨_, rfl, ?_⟩, trivial⟩
          · skip
            refine wpp rfl rfl ?_
            exact AnyW.of a5_60 rfl (canonT [700450] rfl ⟨rfl, rfl, trivial⟩ ⟨rfl, trivial⟩ rfl rfl)
        have a5_58 : AnyW Tryd.prog (lentT [700450]) k23o0_d5 k23o0_o5 5 [0, 2, 3, 4, 5, 6, 7, 8, 9] ⟨ofL [(0, .ptr 700450 0 0), (41, .int .i64 a1.Seq)], ofL [(700450, ⟨3, false, [.agg [.int .i64 a1.Time, .int .i64 a0.Last.Seq, .int .i64 a0.Last.Rep]]⟩)]⟩ ⟨ofL [], ofL [(700450, ⟨3, false, [.agg [.int .i64 a1.Time, .int .i64 a1.Seq, .int .i64 a0.Last.Rep]]⟩)]⟩ := by
          refine yc (l := [1]) rfl nofun ⟨⟨_, rfl, ?_⟩, trivial⟩
          · skip
            refine wpp rfl rfl ?_
            exact AnyW.of a5_59 rfl (canonT [700450] rfl ⟨rfl, rfl, trivial⟩ ⟨rfl, trivial⟩ rfl rfl)
        have a5_57 : AnyW Tryd.prog (lentT [700450]) k23o0_d5 k23o0_o5 5 [0, 1, 2, 3, 4, 6, 7, 8, 9] ⟨ofL [(37, .ptr 700450 0 0), (40, .ptr 36803 0 1)], ofL [(36803, ⟨3, false, [e_api_CSN a1]⟩), (700450, ⟨3, false, [.agg [.int .i64 a1.Time, .int .i64 a0.Last.Seq, .int .i64 a0.Last.Rep]]⟩)]⟩ ⟨ofL [], ofL [(700450, ⟨3, false, [.agg [.int .i64 a1.Time, .int .i64 a1.Seq, .int .i64 a0.Last.Rep]]⟩)]⟩ := by
          refine yc (l := [5]) rfl nofun ⟨⟨_, rfl, ?_⟩, trivial⟩
          · skip
            refine wpp rfl rfl ?_
            exact AnyW.of a5_59 rfl (canonT [700450] rfl ⟨rfl, rfl, trivial⟩ ⟨rfl, trivial⟩ rfl rfl)
        have a5_56 : AnyW Tryd.prog (lentT [700450]) k23o0_d5 k23o0_o5 5 [0, 1, 2, 3, 4, 5, 6, 7, 8] ⟨ofL [(37, .ptr 700450 0 0), (39, .int .i64 a1.Time), (41, .int .i64 a1.Seq), (44, .ptr 700450 0 0)], ofL [(700450, ⟨3, false, [e_prefectref10_Gen a0]⟩)]⟩ ⟨ofL [], ofL [(700450, ⟨3, false, [.agg [.int .i64 a1.Time, .int .i64 a1.Seq, .int .i64 a0.Last.Rep]]⟩)]⟩ := by
          refine yc (l := [9]) rfl nofun ⟨⟨_, rfl, ?_⟩, trivial⟩
          · skip
            refine wstb (e' := .agg [.int .i64 a1.Time, .int .i64 a0.Last.Seq, .int .i64 a0.Last.Rep]) rfl rfl rfl rfl rfl rfl rfl rfl nofun rfl ?_
            exact AnyW.of a5_59 rfl (canonT [700450] rfl ⟨rfl, rfl, trivial⟩ ⟨rfl, trivial⟩ rfl rfl)
        have a5_55 : AnyW Tryd.prog (lentT [700450]) k23o0_d5 k23o0_o5 6 [0, 2, 3, 4, 6, 7, 8, 9] ⟨ofL [(0, .ptr 700450 0 0), (40, .ptr 36803 0 1)], ofL [(36803, ⟨3, false, [e_api_CSN a1]⟩), (700450, ⟨3, false, [.agg [.int .i64 a1.Time, .int .i64 a0.Last.Seq, .int .i64 a0.Last.Rep]]⟩)]⟩ ⟨ofL [], ofL [(700450, ⟨3, false, [.agg [.int .i64 a1.Time, .int .i64 a1.Seq, .int .i64 a0.Last.Rep]]⟩)]⟩ := by
          refine yc (l := [1, 5]) rfl nofun ⟨⟨_, rfl, ?_⟩, ⟨_, rfl, ?_⟩, trivial⟩
          · skip
            refine wpp rfl rfl ?_
            exact AnyW.of a5_57 rfl (canonT [700450] rfl ⟨rfl, rfl, trivial⟩ ⟨rfl, rfl, trivial⟩ rfl rfl)
          · skip
            refine wpp rfl rfl ?_
            exact AnyW.of a5_58 rfl (canonT [700450] rfl ⟨rfl, rfl, trivial⟩ ⟨rfl, trivial⟩ rfl rfl)
        have a5_54 : AnyW Tryd.prog (lentT [700450]) k23o0_d5 k23o0_o5 6 [0, 2, 3, 4, 5, 6, 7, 8] ⟨ofL [(0, .ptr 700450 0 0), (39, .int .i64 a1.Time), (41, .int .i64 a1.Seq), (44, .ptr 700450 0 0)], ofL [(700450, ⟨3, false, [e_prefectref10_Gen a0]⟩)]⟩ ⟨ofL [], ofL [(700450, ⟨3, false, [.agg [.int .i64 a1.Time, .int .i64 a1.Seq, .int .i64 a0.Last.Rep]]⟩)]⟩ := by
          refine yc (l := [1, 9]) rfl nofun ⟨⟨_, rfl, ?_⟩, ⟨_, rfl, ?_⟩, trivial⟩
          · skip
            refine wpp rfl rfl ?_
            exact AnyW.of a5_56 rfl (canonT [700450] rfl ⟨rfl, rfl, rfl, rfl, trivial⟩ ⟨rfl, trivial⟩ rfl rfl)
          · skip
            refine wstb (e' := .agg [.int .i64 a1.Time, .int .i64 a0.Last.Seq, .int .i64 a0.Last.Rep]) rfl rfl rfl rfl rfl rfl rfl rfl nofun rfl ?_
            exact AnyW.of a5_58 rfl (canonT [700450] rfl ⟨rfl, rfl, trivial⟩ ⟨rfl, trivial⟩ rfl rfl)
        have a5_53 : AnyW Tryd.prog (lentT [700450]) k23o0_d5 k23o0_o5 6 [0, 1, 2, 3, 6, 7, 8, 9] ⟨ofL [(3, .ptr 36803 0 0), (37, .ptr 700450 0 0)], ofL [(36803, ⟨3, false, [e_api_CSN a1]⟩), (700450, ⟨3, false, [.agg [.int .i64 a1.Time, .int .i64 a0.Last.Seq, .int .i64 a0.Last.Rep]]⟩)]⟩ ⟨ofL [], ofL [(700450, ⟨3, false, [.agg [.int .i64 a1.Time, .int .i64 a1.Seq, .int .i64 a0.Last.Rep]]⟩)]⟩ := by
          refine yc (l := [4]) rfl nofun ⟨⟨_, rfl, ?_⟩, trivial⟩
          · skip
            refine wpp rfl rfl ?_
            exact AnyW.of a5_57 rfl (canonT [700450] rfl ⟨rfl, rfl, trivial⟩ ⟨rfl, rfl, trivial⟩ rfl rfl)
        have a5_52 : AnyW Tryd.prog (lentT [700450]) k23o0_d5 k23o0_o5 6 [0, 1, 2, 3, 4, 6, 7, 8] ⟨ofL [(37, .ptr 700450 0 0), (39, .int .i64 a1.Time), (40, .ptr 36803 0 1), (44, .ptr 700450 0 0)], ofL [(36803, ⟨3, false, [e_api_CSN a1]⟩), (700450, ⟨3, false, [e_prefectref10_Gen a0]⟩)]⟩ ⟨ofL [], ofL [(700450, ⟨3, false, [.agg [.int .i64 a1.Time, .int .i64 a1.Seq, .int .i64 a0.Last.Rep]]⟩)]⟩ := by
          refine yc (l := [5, 9]) rfl nofun ⟨⟨_, rfl, ?_⟩, ⟨_, rfl, ?_⟩, trivial⟩
          · skip
            refine wpp rfl rfl ?_
            exact AnyW.of a5_56 rfl (canonT [700450] rfl ⟨rfl, rfl, rfl, rfl, trivial⟩ ⟨rfl, trivial⟩ rfl rfl)
          · skip
            refine wstb (e' := .agg [.int .i64 a1.Time, .int .i64 a0.Last.Seq, .int .i64 a0.Last.Rep]) rfl rfl rfl rfl rfl rfl rfl rfl nofun rfl ?_
            exact AnyW.of a5_57 rfl (canonT [700450] rfl ⟨rfl, rfl, trivial⟩ ⟨rfl, rfl, trivial⟩ rfl rfl)
        have a5_51 : AnyW Tryd.prog (lentT [700450]) k23o0_d5 k23o0_o5 6 [0, 1, 2, 3, 4, 5, 6, 7] ⟨ofL [(37, .ptr 700450 0 0), (39, .int .i64 a1.Time), (41, .int .i64 a1.Seq), (43, .ptr 700450 0 0)], ofL [(700450, ⟨3, false, [e_prefectref10_Gen a0]⟩)]⟩ ⟨ofL [], ofL [(700450, ⟨3, false, [.agg [.int .i64 a1.Time, .int .i64 a1.Seq, .int .i64 a0.Last.Rep]]⟩)]⟩ := by
          refine yc (l := [8]) rfl nofun ⟨⟨_, rfl, ?_⟩, trivial⟩
          · skip
            refine wpp rfl rfl ?_
            exact AnyW.of a5_56 rfl (canonT [700450] rfl ⟨rfl, rfl, rfl, rfl, trivial⟩ ⟨rfl, trivial⟩ rfl rfl)
        have a5_50 : AnyW Tryd.prog (lentT [700450]) k23o0_d5 k23o0_o5 7 [0, 2, 3, 6, 7, 8, 9] ⟨ofL [(0, .ptr 700450 0 0), (3, .ptr 36803 0 0)], ofL [(36803, ⟨3, false, [e_api_CSN a1]⟩), (700450, ⟨3, false, [.agg [.int .i64 a1.Time, .int .i64 a0.Last.Seq, .int .i64 a0.Last.Rep]]⟩)]⟩ ⟨ofL [], ofL [(700450, ⟨3, false, [.agg [.int .i64 a1.Time, .int .i64 a1.Seq, .int .i64 a0.Last.Rep]]⟩)]⟩ := by
          refine yc (l := [1, 4]) rfl nofun ⟨⟨_, rfl, ?_⟩, ⟨_, rfl, ?_⟩, trivial⟩
          · skip
            refine wpp rfl rfl ?_
            exact AnyW.of a5_53 rfl (canonT [700450] rfl ⟨rfl, rfl, trivial⟩ ⟨rfl, rfl, trivial⟩ rfl rfl)
          · skip
            refine wpp rfl rfl ?_
            exact AnyW.of a5_55 rfl (canonT [700450] rfl ⟨rfl, rfl, trivial⟩ ⟨rfl, rfl, trivial⟩ rfl rfl)
        have a5_49 : AnyW Tryd.prog (lentT [700450]) k23o0_d5 k23o0_o5 7 [0, 2, 3, 4, 6, 7, 8] ⟨ofL [(0, .ptr 700450 0 0), (39, .int .i64 a1.Time), (40, .ptr 36803 0 1), (44, .ptr 700450 0 0)], ofL [(36803, ⟨3, false, [e_api_CSN a1]⟩), (700450, ⟨3, false, [e_prefectref10_Gen a0]⟩)]⟩ ⟨ofL [], ofL [(700450, ⟨3, false, [.agg [.int .i64 a1.Time, .int .i64 a1.Seq, .int .i64 a0.Last.Rep]]⟩)]⟩ := by
          refine yc (l := [1, 5, 9]) rfl nofun ⟨⟨_, rfl, ?_⟩, ⟨_, rfl, ?_⟩, ⟨_, rfl, ?_⟩, trivial⟩
          · skip
            refine wpp rfl rfl ?_
            exact AnyW.of a5_52 rfl (canonT [700450] rfl ⟨rfl, rfl, rfl, rfl, trivial⟩ ⟨rfl, rfl, trivial⟩ rfl rfl)
          · skip
            refine wpp rfl rfl ?_
            exact AnyW.of a5_54 rfl (canonT [700450] rfl ⟨rfl, rfl, rfl, rfl, trivial⟩ ⟨rfl, trivial⟩ rfl rfl)
          · skip
            refine wstb (e' := .agg [.int .i64 a1.Time, .int .i64 a0.Last.Seq, .int .i64 a0.Last.Rep]) rfl rfl rfl rfl rfl rfl rfl rfl nofun rfl ?_
            exact AnyW.of a5_55 rfl (canonT [700450] rfl ⟨rfl, rfl, trivial⟩ ⟨rfl, rfl, trivial⟩ rfl rfl)
        have a5_48 : AnyW Tryd.prog (lentT [700450]) k23o0_d5 k23o0_o5 7 [0, 2, 3, 4, 5, 6, 7] ⟨ofL [(0, .ptr 700450 0 0), (39, .int .i64 a1.Time), (41, .int .i64 a1.Seq), (43, .ptr 700450 0 0)], ofL [(700450, ⟨3, false, [e_prefectref10_Gen a0]⟩)]⟩ ⟨ofL [], ofL [(700450, ⟨3, false, [.agg [.int .i64 a1.Time, .int .i64 a1.Seq, .int .i64 a0.Last.Rep]]⟩)]⟩ := by
          refine yc (l := [1, 8]) rfl nofun ⟨⟨_, rfl, ?_⟩, ⟨_, rfl, ?_⟩, trivial⟩
          · skip
            refine wpp rfl rfl ?_
            exact AnyW.of a5_51 rfl (canonT [700450] rfl ⟨rfl, rfl, rfl, rfl, trivial⟩ ⟨rfl, trivial⟩ rfl rfl)
          · skip
            refine wpp rfl rfl ?_
            exact AnyW.of a5_54 rfl (canonT [700450] rfl ⟨rfl, rfl, rfl, rfl, trivial⟩ ⟨rfl, trivial⟩ rfl rfl)
        have a5_47 : AnyW Tryd.prog (lentT [700450]) k23o0_d5 k23o0_o5 7 [0, 1, 2, 3, 6, 7, 8] ⟨ofL [(3, .ptr 36803 0 0), (37, .ptr 700450 0 0), (39, .int .i64 a1.Time), (44, .ptr 700450 0 0)], ofL [(36803, ⟨3, false, [e_api_CSN a1]⟩), (700450, ⟨3, false, [e_prefectref10_Gen a0]⟩)]⟩ ⟨ofL [], ofL [(700450, ⟨3, false, [.agg [.int .i64 a1.Time, .int .i64 a1.Seq, .int .i64 a0.Last.Rep]]⟩)]⟩ := by
          refine yc (l := [4, 9]) rfl nofun ⟨⟨_, rfl, ?_⟩, ⟨_, rfl, ?_⟩, trivial⟩
          · skip
            refine wpp rfl rfl ?_
            exact AnyW.of a5_52 rfl (canonT [700450] rfl ⟨rfl, rfl, rfl, rfl, trivial⟩ ⟨rfl, rfl, trivial⟩ rfl rfl)
          · skip
            refine wstb (e' := .agg [.int .i64 a1.Time, .int .i64 a0.Last.Seq, .int .i64 a0.Last.Rep]) rfl rfl rfl rfl rfl rfl rfl rfl nofun rfl ?_
            exact AnyW.of a5_53 rfl (canonT [700450] rfl ⟨rfl, rfl, trivial⟩ ⟨rfl, rfl, trivial⟩ rfl rfl)
        have a5_46 : AnyW Tryd.prog (lentT [700450]) k23o0_d5 k23o0_o5 7 [0, 1, 2, 3, 4, 6, 7] ⟨ofL [(37, .ptr 700450 0 0), (39, .int .i64 a1.Time), (40, .ptr 36803 0 1), (43, .ptr 700450 0 0)], ofL [(36803, ⟨3, false, [e_api_CSN a1]⟩), (700450, ⟨3, false, [e_prefectref10_Gen a0]⟩)]⟩ ⟨ofL [], ofL [(700450, ⟨3, false, [.agg [.int .i64 a1.Time, .int .i64 a1.Seq, .int .i64 a0.Last.Rep]]⟩)]⟩ := by
          refine yc (l := [5, 8]) rfl nofun ⟨⟨_, rfl, ?_⟩, ⟨_, rfl, ?_⟩, trivial⟩
          · skip
            refine wpp rfl rfl ?_
            exact AnyW.of a5_51 rfl (canonT [700450] rfl ⟨rfl, rfl, rfl, rfl, trivial⟩ ⟨rfl, trivial⟩ rfl rfl)
          · skip
            refine wpp rfl rfl ?_
            exact AnyW.of a5_52 rfl (canonT [700450] rfl ⟨rfl, rfl, rfl, rfl, trivial⟩ ⟨rfl, rfl, trivial⟩ rfl rfl)
        have a5_45 : AnyW Tryd.prog (lentT [700450]) k23o0_d5 k23o0_o5 7 [0, 1, 2, 3, 4, 5, 6] ⟨ofL [(37, .ptr 700450 0 0), (39, .int .i64 a1.Time), (41, .int .i64 a1.Seq), (42, .ptr 700450 0 0)], ofL [(700450, ⟨3, false, [e_prefectref10_Gen a0]⟩)]⟩ ⟨ofL [], ofL [(700450, ⟨3, false, [.agg [.int .i64 a1.Time, .int .i64 a1.Seq, .int .i64 a0.Last.Rep]]⟩)]⟩ := by
          refine yc (l := [7]) rfl nofun ⟨⟨_, rfl, ?_⟩, trivial⟩
          · skip
            refine wpp rfl rfl ?_
            exact AnyW.of a5_51 rfl (canonT [700450] rfl ⟨rfl, rfl, rfl, rfl, trivial⟩ ⟨rfl, trivial⟩ rfl rfl)
        have a5_44 : AnyW Tryd.prog (lentT [700450]) k23o0_d5 k23o0_o5 8 [0, 2, 3, 6, 7, 8] ⟨ofL [(0, .ptr 700450 0 0), (3, .ptr 36803 0 0), (39, .int .i64 a1.Time), (44, .ptr 700450 0 0)], ofL [(36803, ⟨3, false, [e_api_CSN a1]⟩), (700450, ⟨3, false, [e_prefectref10_Gen a0]⟩)]⟩ ⟨ofL [], ofL [(700450, ⟨3, false, [.agg [.int .i64 a1.Time, .int .i64 a1.Seq, .int .i64 a0.Last.Rep]]⟩)]⟩ := by
          refine yc (l := [1, 4, 9]) rfl nofun ⟨⟨_, rfl, ?_⟩, ⟨_, rfl, ?_⟩, ⟨_, rfl, ?_⟩, trivial⟩
          · skip
            refine wpp rfl rfl ?_
            exact AnyW.of a5_47 rfl (canonT [700450] rfl ⟨rfl, rfl, rfl, rfl, trivial⟩ ⟨rfl, rfl, trivial⟩ rfl rfl)
          · skip
            refine wpp rfl rfl ?_
            exact AnyW.of a5_49 rfl (canonT [700450] rfl ⟨rfl, rfl, rfl, rfl, trivial⟩ ⟨rfl, rfl, trivial⟩ rfl rfl)
          · skip
            refine wstb (e' := .agg [.int .i64 a1.Time, .int .i64 a0.Last.Seq, .int .i64 a0.Last.Rep]) rfl rfl rfl rfl rfl rfl rfl rfl nofun rfl ?_
            exact AnyW.of a5_50 rfl (canonT [700450] rfl ⟨rfl, rfl, trivial⟩ ⟨rfl, rfl, trivial⟩ rfl rfl)
        have a5_43 : AnyW Tryd.prog (lentT [700450]) k23o0_d5 k23o0_o5 8 [0, 2, 3, 4, 6, 7] ⟨ofL [(0, .ptr 700450 0 0), (39, .int .i64 a1.Time), (40, .ptr 36803 0 1), (43, .ptr 700450 0 0)], ofL [(36803, ⟨3, false, [e_api_CSN a1]⟩), (700450, ⟨3, false, [e_prefectref10_Gen a0]⟩)]⟩ ⟨ofL [], ofL [(700450, ⟨3, false, [.agg [.int .i64 a1.Time, .int .i64 a1.Seq, .int .i64 a0.Last.Rep]]⟩)]⟩ := by
          refine yc (l := [1, 5, 8]) rfl nofun ⟨⟨_, rfl, ?_⟩, ⟨_, rfl, ?_⟩, ⟨_, rfl, ?_⟩, trivial⟩
          · skip
            refine wpp rfl rfl ?_
            exact AnyW.of a5_46 rfl (canonT [700450] rfl ⟨rfl, rfl, rfl, rfl, trivial⟩ ⟨rfl, rfl, trivial⟩ rfl rfl)
          · skip
            refine wpp rfl rfl ?_
            exact AnyW.of a5_48 rfl (canonT [700450] rfl ⟨rfl, rfl, rfl, rfl, trivial⟩ ⟨rfl, trivial⟩ rfl rfl)
          · skip
            refine wpp rfl rfl ?_
            exact AnyW.of a5_49 rfl (canonT [700450] rfl ⟨rfl, rfl, rfl, rfl, trivial⟩ ⟨rfl, rfl, trivial⟩ rfl rfl)
        have a5_42 : AnyW Tryd.prog (lentT [700450]) k23o0_d5 k23o0_o5 8 [0, 2, 3, 4, 5, 6] ⟨ofL [(0, .ptr 700450 0 0), (39, .int .i64 a1.Time), (41, .int .i64 a1.Seq), (42, .ptr 700450 0 0)], ofL [(700450, ⟨3, false, [e_prefectref10_Gen a0]⟩)]⟩ ⟨ofL [], ofL [(700450, ⟨3, false, [.agg [.int .i64 a1.Time, .int .i64 a1.Seq, .int .i64 a0.Last.Rep]]⟩)]⟩ := by
          refine yc (l := [1, 7]) rfl nofun ⟨⟨_, rfl, ?_⟩, ⟨_, rfl, ?_⟩, trivial⟩
          · skip
            refine wpp rfl rfl ?_
            exact AnyW.of a5_45 rfl (canonT [700450] rfl ⟨rfl, rfl, rfl, rfl, trivial⟩ ⟨rfl, trivial⟩ rfl rfl)
          · skip
            refine wpp rfl rfl ?_
            exact AnyW.of a5_48 rfl (canonT [700450] rfl ⟨rfl, rfl, rfl, rfl, trivial⟩ ⟨rfl, trivial⟩ rfl rfl)
        have a5_41 : AnyW Tryd.prog (lentT [700450]) k23o0_d5 k23o0_o5 8 [0, 1, 2, 3, 6, 7] ⟨ofL [(3, .ptr 36803 0 0), (37, .ptr 700450 0 0), (39, .int .i64 a1.Time), (43, .ptr 700450 0 0)], ofL [(36803, ⟨3, false, [e_api_CSN a1]⟩), (700450, ⟨3, false, [e_prefectref10_Gen a0]⟩)]⟩ ⟨ofL [], ofL [(700450, ⟨3, false, [.agg [.int .i64 a1.Time, .int .i64 a1.Seq, .int .i64 a0.Last.Rep]]⟩)]⟩ := by
          refine yc (l := [4, 8]) rfl nofun ⟨⟨_, rfl, ?_⟩, ⟨_, rfl, ?_⟩, trivial⟩
          · skip
            refine wpp rfl rfl ?_
            exact AnyW.of a5_46 rfl (canonT [700450] rfl ⟨rfl, rfl, rfl, rfl, trivial⟩ ⟨rfl, rfl, trivial⟩ rfl rfl)
          · skip
            refine wpp rfl rfl ?_
            exact AnyW.of a5_47 rfl (canonT [700450] rfl ⟨rfl, rfl, rfl, rfl, trivial⟩ ⟨rfl, rfl, trivial⟩ rfl rfl)
        have a5_40 : AnyW Tryd.prog (lentT [700450]) k23o0_d5 k23o0_o5 8 [0, 1, 2, 3, 4, 6] ⟨ofL [(37, .ptr 700450 0 0), (39, .int .i64 a1.Time), (40, .ptr 36803 0 1), (42, .ptr 700450 0 0)], ofL [(36803, ⟨3, false, [e_api_CSN a1]⟩), (700450, ⟨3, false, [e_prefectref10_Gen a0]⟩)]⟩ ⟨ofL [], ofL [(700450, ⟨3, false, [.agg [.int .i64 a1.Time, .int .i64 a1.Seq, .int .i64 a0.Last.Rep]]⟩)]⟩ := by
          refine yc (l := [5, 7]) rfl nofun ⟨⟨_, rfl, ?_⟩, ⟨_, rfl, ?_⟩, trivial⟩
          · skip
            refine wpp rfl rfl ?_
            exact AnyW.of a5_45 rfl (canonT [700450] rfl ⟨rfl, rfl, rfl, rfl, trivial⟩ ⟨rfl, trivial⟩ rfl rfl)
          · skip
            refine wpp rfl rfl ?_
            exact AnyW.of a5_46 rfl (canonT [700450] rfl ⟨rfl, rfl, rfl, rfl, trivial⟩ ⟨rfl, rfl, trivial⟩ rfl rfl)
        have a5_39 : AnyW Tryd.prog (lentT [700450]) k23o0_d5 k23o0_o5 8 [0, 1, 2, 3, 4, 5] ⟨ofL [(36, .ptr 700450 0 0), (37, .ptr 700450 0 0), (39, .int .i64 a1.Time), (41, .int .i64 a1.Seq)], ofL [(700450, ⟨3, false, [e_prefectref10_Gen a0]⟩)]⟩ ⟨ofL [], ofL [(700450, ⟨3, false, [.agg [.int .i64 a1.Time, .int .i64 a1.Seq, .int .i64 a0.Last.Rep]]⟩)]⟩ := by
          refine yc (l := [6]) rfl nofun ⟨⟨_, rfl, ?_⟩, trivial⟩
          · skip
            refine wpp rfl rfl ?_
            exact AnyW.of a5_45 rfl (canonT [700450] rfl ⟨rfl, rfl, rfl, rfl, trivial⟩ ⟨rfl, trivial⟩ rfl rfl)
        have a5_38 : AnyW Tryd.prog (lentT [700450]) k23o0_d5 k23o0_o5 9 [1, 2, 3, 4, 5] ⟨ofL [(0, .ptr 700450 0 0), (37, .ptr 700450 0 0), (39, .int .i64 a1.Time), (41, .int .i64 a1.Seq)], ofL [(700450, ⟨3, false, [e_prefectref10_Gen a0]⟩)]⟩ ⟨ofL [], ofL [(700450, ⟨3, false, [.agg [.int .i64 a1.Time, .int .i64 a1.Seq, .int .i64 a0.Last.Rep]]⟩)]⟩ := by
          refine yc (l := [0]) rfl nofun ⟨⟨_, rfl, ?_⟩, trivial⟩
          · skip
            refine wpp rfl rfl ?_
            exact AnyW.of a5_39 rfl (canonT [700450] rfl ⟨rfl, rfl, rfl, rfl, trivial⟩ ⟨rfl, trivial⟩ rfl rfl)
        have a5_37 : AnyW Tryd.prog (lentT [700450]) k23o0_d5 k23o0_o5 9 [0, 2, 3, 6, 7] ⟨ofL [(0, .ptr 700450 0 0), (3, .ptr 36803 0 0), (39, .int .i64 a1.Time), (43, .ptr 700450 0 0)], ofL [(36803, ⟨3, false, [e_api_CSN a1]⟩), (700450, ⟨3, false, [e_prefectref10_Gen a0]⟩)]⟩ ⟨ofL [], ofL [(700450, ⟨3, false, [.agg [.int .i64 a1.Time, .int .i64 a1.Seq, .int .i64 a0.Last.Rep]]⟩)]⟩ := by
          refine yc (l := [1, 4, 8]) rfl nofun ⟨⟨_, rfl, ?_⟩, ⟨_, rfl, ?_⟩, ⟨_, rfl, ?_⟩, trivial⟩
          · skip
            refine wpp rfl rfl ?_
            exact AnyW.of a5_41 rfl (canonT [700450] rfl ⟨rfl, rfl, rfl, rfl, trivial⟩ ⟨rfl, rfl, trivial⟩ rfl rfl)
          · skip
            refine wpp rfl rfl ?_
            exact AnyW.of a5_43 rfl (canonT [700450] rfl ⟨rfl, rfl, rfl, rfl, trivial⟩ ⟨rfl, rfl, trivial⟩ rfl rfl)
          · skip
            refine wpp rfl rfl ?_
            exact AnyW.of a5_44 rfl (canonT [700450] rfl ⟨rfl, rfl, rfl, rfl, trivial⟩ ⟨rfl, rfl, trivial⟩ rfl rfl)
        have a5_36 : AnyW Tryd.prog (lentT [700450]) k23o0_d5 k23o0_o5 9 [0, 2, 3, 4, 6] ⟨ofL [(0, .ptr 700450 0 0), (39, .int .i64 a1.Time), (40, .ptr 36803 0 1), (42, .ptr 700450 0 0)], ofL [(36803, ⟨3, false, [e_api_CSN a1]⟩), (700450, ⟨3, false, [e_prefectref10_Gen a0]⟩)]⟩ ⟨ofL [], ofL [(700450, ⟨3, false, [.agg [.int .i64 a1.Time, .int .i64 a1.Seq, .int .i64 a0.Last.Rep]]⟩)]⟩ := by
          refine yc (l := [1, 5, 7]) rfl nofun ⟨⟨_, rfl, ?_⟩, ⟨_, rfl, ?_⟩, ⟨_, rfl, ?_⟩, trivial⟩
          · skip
            refine wpp rfl rfl ?_
            exact AnyW.of a5_40 rfl (canonT [700450] rfl ⟨rfl, rfl, rfl, rfl, trivial⟩ ⟨rfl, rfl, trivial⟩ rfl rfl)
          · skip
            refine wpp rfl rfl ?_
            exact AnyW.of a5_42 rfl (canonT [700450] rfl ⟨rfl, rfl, rfl, rfl, trivial⟩ ⟨rfl, trivial⟩ rfl rfl)
          · skip
            refine wpp rfl rfl ?_
            exact AnyW.of a5_43 rfl (canonT [700450] rfl ⟨rfl, rfl, rfl, rfl, trivial⟩ ⟨rfl, rfl, trivial⟩ rfl rfl)
        have a5_35 : AnyW Tryd.prog (lentT [700450]) k23o0_d5 k23o0_o5 9 [0, 2, 3, 4, 5] ⟨ofL [(0, .ptr 700450 0 0), (36, .ptr 700450 0 0), (39, .int .i64 a1.Time), (41, .int .i64 a1.Seq)], ofL [(700450, ⟨3, false, [e_prefectref10_Gen a0]⟩)]⟩ ⟨ofL [], ofL [(700450, ⟨3, false, [.agg [.int .i64 a1.Time, .int .i64 a1.Seq, .int .i64 a0.Last.Rep]]⟩)]⟩ := by
          refine yc (l := [1, 6]) rfl nofun ⟨⟨_, rfl, ?_⟩, ⟨_, rfl, ?_⟩, trivial⟩
          · skip
            refine wpp rfl rfl ?_
            exact AnyW.of a5_39 rfl (canonT [700450] rfl ⟨rfl, rfl, rfl, rfl, trivial⟩ ⟨rfl, trivial⟩ rfl rfl)
          · skip
            refine wpp rfl rfl ?_
            exact AnyW.of a5_42 rfl (canonT [700450] rfl ⟨rfl, rfl, rfl, rfl, trivial⟩ ⟨rfl, trivial⟩ rfl rfl)
        have a5_34 : AnyW Tryd.prog (lentT [700450]) k23o0_d5 k23o0_o5 9 [0, 1, 2, 4, 5] ⟨ofL [(36, .ptr 700450 0 0), (37, .ptr 700450 0 0), (38, .ptr 36803 0 0), (41, .int .i64 a1.Seq)], ofL [(36803, ⟨3, false, [e_api_CSN a1]⟩), (700450, ⟨3, false, [e_prefectref10_Gen a0]⟩)]⟩ ⟨ofL [], ofL [(700450, ⟨3, false, [.agg [.int .i64 a1.Time, .int .i64 a1.Seq, .int .i64 a0.Last.Rep]]⟩)]⟩ := by
          refine yc (l := [3]) rfl nofun ⟨⟨_, rfl, ?_⟩, trivial⟩
          · skip
            refine wpp rfl rfl ?_
            exact AnyW.of a5_39 rfl (canonT [700450] rfl ⟨rfl, rfl, rfl, rfl, trivial⟩ ⟨rfl, trivial⟩ rfl rfl)
        have a5_33 : AnyW Tryd.prog (lentT [700450]) k23o0_d5 k23o0_o5 9 [0, 1, 2, 3, 6] ⟨ofL [(3, .ptr 36803 0 0), (37, .ptr 700450 0 0), (39, .int .i64 a1.Time), (42, .ptr 700450 0 0)], ofL [(36803, ⟨3, false, [e_api_CSN a1]⟩), (700450, ⟨3, false, [e_prefectref10_Gen a0]⟩)]⟩ ⟨ofL [], ofL [(700450, ⟨3, false, [.agg [.int .i64 a1.Time, .int .i64 a1.Seq, .int .i64 a0.Last.Rep]]⟩)]⟩ := by
          refine yc (l := [4, 7]) rfl nofun ⟨⟨_, rfl, ?_⟩, ⟨_, rfl, ?_⟩, trivial⟩
          · skip
            refine wpp rfl rfl ?_
            exact AnyW.of a5_40 rfl (canonT [700450] rfl ⟨rfl, rfl, rfl, rfl, trivial⟩ ⟨rfl, rfl, trivial⟩ rfl rfl)
          · skip
            refine wpp rfl rfl ?_
            exact AnyW.of a5_41 rfl (canonT [700450] rfl ⟨rfl, rfl, rfl, rfl, trivial⟩ ⟨rfl, rfl, trivial⟩ rfl rfl)
        have a5_32 : AnyW Tryd.prog (lentT [700450]) k23o0_d5 k23o0_o5 9 [0, 1, 2, 3, 4] ⟨ofL [(36, .ptr 700450 0 0), (37, .ptr 700450 0 0), (39, .int .i64 a1.Time), (40, .ptr 36803 0 1)], ofL [(36803, ⟨3, false, [e_api_CSN a1]⟩), (700450, ⟨3, false, [e_prefectref10_Gen a0]⟩)]⟩ ⟨ofL [], ofL [(700450, ⟨3, false, [.agg [.int .i64 a1.Time, .int .i64 a1.Seq, .int .i64 a0.Last.Rep]]⟩)]⟩ := by
          refine yc (l := [5, 6]) rfl nofun ⟨⟨_, rfl, ?_⟩, ⟨_, rfl, ?_⟩, trivial⟩
          · skip
            refine wpp rfl rfl ?_
            exact AnyW.of a5_39 rfl (canonT [700450] rfl ⟨rfl, rfl, rfl, rfl, trivial⟩ ⟨rfl, trivial⟩ rfl rfl)
          · skip
            refine wpp rfl rfl ?_
            exact AnyW.of a5_40 rfl (canonT [700450] rfl ⟨rfl, rfl, rfl, rfl, trivial⟩ ⟨rfl, rfl, trivial⟩ rfl rfl)
        have a5_31 : AnyW Tryd.prog (lentT [700450]) k23o0_d5 k23o0_o5 10 [2, 3, 4, 5] ⟨ofL [(0, .ptr 700450 0 0), (39, .int .i64 a1.Time), (41, .int .i64 a1.Seq)], ofL [(700450, ⟨3, false, [e_prefectref10_Gen a0]⟩)]⟩ ⟨ofL [], ofL [(700450, ⟨3, false, [.agg [.int .i64 a1.Time, .int .i64 a1.Seq, .int .i64 a0.Last.Rep]]⟩)]⟩ := by
          refine yc (l := [0, 1]) rfl nofun ⟨⟨_, rfl, ?_⟩, ⟨_, rfl, ?_⟩, trivial⟩
          · skip
            refine wpp rfl rfl ?_
            exact AnyW.of a5_35 rfl (canonT [700450] rfl ⟨rfl, rfl, rfl, rfl, trivial⟩ ⟨rfl, trivial⟩ rfl rfl)
          · skip
            refine wpp rfl rfl ?_
            exact AnyW.of a5_38 rfl (canonT [700450] rfl ⟨rfl, rfl, rfl, rfl, trivial⟩ ⟨rfl, trivial⟩ rfl rfl)
        have a5_30 : AnyW Tryd.prog (lentT [700450]) k23o0_d5 k23o0_o5 10 [1, 2, 4, 5] ⟨ofL [(0, .ptr 700450 0 0), (37, .ptr 700450 0 0), (38, .ptr 36803 0 0), (41, .int .i64 a1.Seq)], ofL [(36803, ⟨3, false, [e_api_CSN a1]⟩), (700450, ⟨3, false, [e_prefectref10_Gen a0]⟩)]⟩ ⟨ofL [], ofL [(700450, ⟨3, false, [.agg [.int .i64 a1.Time, .int .i64 a1.Seq, .int .i64 a0.Last.Rep]]⟩)]⟩ := by
          refine yc (l := [0, 3]) rfl nofun ⟨⟨_, rfl, ?_⟩, ⟨_, rfl, ?_⟩, trivial⟩
          · skip
            refine wpp rfl rfl ?_
            exact AnyW.of a5_34 rfl (canonT [700450] rfl ⟨rfl, rfl, rfl, rfl, trivial⟩ ⟨rfl, rfl, trivial⟩ rfl rfl)
          · skip
            refine wpp rfl rfl ?_
            exact AnyW.of a5_38 rfl (canonT [700450] rfl ⟨rfl, rfl, rfl, rfl, trivial⟩ ⟨rfl, trivial⟩ rfl rfl)
        have a5_29 : AnyW Tryd.prog (lentT [700450]) k23o0_d5 k23o0_o5 10 [1, 2, 3, 4] ⟨ofL [(0, .ptr 700450 0 0), (37, .ptr 700450 0 0), (39, .int .i64 a1.Time), (40, .ptr 36803 0 1)], ofL [(36803, ⟨3, false, [e_api_CSN a1]⟩), (700450, ⟨3, false, [e_prefectref10_Gen a0]⟩)]⟩ ⟨ofL [], ofL [(700450, ⟨3, false, [.agg [.int .i64 a1.Time, .int .i64 a1.Seq, .int .i64 a0.Last.Rep]]⟩)]⟩ := by
          refine yc (l := [0, 5]) rfl nofun ⟨⟨_, rfl, ?_⟩, ⟨_, rfl, ?_⟩, trivial⟩
          · skip
            refine wpp rfl rfl ?_
            exact AnyW.of a5_32 rfl (canonT [700450] rfl ⟨rfl, rfl, rfl, rfl, trivial⟩ ⟨rfl, rfl, trivial⟩ rfl rfl)
          · skip
            refine wpp rfl rfl ?_
            exact AnyW.of a5_38 rfl (canonT [700450] rfl ⟨rfl, rfl, rfl, rfl, trivial⟩ ⟨rfl, trivial⟩ rfl rfl)
        have a5_28 : AnyW Tryd.prog (lentT [700450]) k23o0_d5 k23o0_o5 10 [0, 2, 4, 5] ⟨ofL [(0, .ptr 700450 0 0), (36, .ptr 700450 0 0), (38, .ptr 36803 0 0), (41, .int .i64 a1.Seq)], ofL [(36803, ⟨3, false, [e_api_CSN a1]⟩), (700450, ⟨3, false, [e_prefectref10_Gen a0]⟩)]⟩ ⟨ofL [], ofL [(700450, ⟨3, false, [.agg [.int .i64 a1.Time, .int .i64 a1.Seq, .int .i64 a0.Last.Rep]]⟩)]⟩ := by
          refine yc (l := [1, 3]) rfl nofun ⟨⟨_, rfl, ?_⟩, ⟨_, rfl, ?_⟩, trivial⟩
          · skip
            refine wpp rfl rfl ?_
            exact AnyW.of a5_34 rfl (canonT [700450] rfl ⟨rfl, rfl, rfl, rfl, trivial⟩ ⟨rfl, rfl, trivial⟩ rfl rfl)
          · skip
            refine wpp rfl rfl ?_
            exact AnyW.of a5_35 rfl (canonT [700450] rfl ⟨rfl, rfl, rfl, rfl, trivial⟩ ⟨rfl, trivial⟩ rfl rfl)
        have a5_27 : AnyW Tryd.prog (lentT [700450]) k23o0_d5 k23o0_o5 10 [0, 2, 3, 6] ⟨ofL [(0, .ptr 700450 0 0), (3, .ptr 36803 0 0), (39, .int .i64 a1.Time), (42, .ptr 700450 0 0)], ofL [(36803, ⟨3, false, [e_api_CSN a1]⟩), (700450, ⟨3, false, [e_prefectref10_Gen a0]⟩)]⟩ ⟨ofL [], ofL [(700450, ⟨3, false, [.agg [.int .i64 a1.Time, .int .i64 a1.Seq, .int .i64 a0.Last.Rep]]⟩)]⟩ := by
          refine yc (l := [1, 4, 7]) rfl nofun ⟨⟨_, rfl, ?_⟩, ⟨_, rfl, ?_⟩, ⟨_, rfl, ?_⟩, trivial⟩
          · skip
            refine wpp rfl rfl ?_
            exact AnyW.of a5_33 rfl (canonT [700450] rfl ⟨rfl, rfl, rfl, rfl, trivial⟩ ⟨rfl, rfl, trivial⟩ rfl rfl)
          · skip
            refine wpp rfl rfl ?_
            exact AnyW.of a5_36 rfl (canonT [700450] rfl ⟨rfl, rfl, rfl, rfl, trivial⟩ ⟨rfl, rfl, trivial⟩ rfl rfl)
          · skip
            refine wpp rfl rfl ?_
            exact AnyW.of a5_37 rfl (canonT [700450] rfl ⟨rfl, rfl, rfl, rfl, trivial⟩ ⟨rfl, rfl, trivial⟩ rfl rfl)
        have a5_26 : AnyW Tryd.prog (lentT [700450]) k23o0_d5 k23o0_o5 10 [0, 2, 3, 4] ⟨ofL [(0, .ptr 700450 0 0), (36, .ptr 700450 0 0), (39, .int .i64 a1.Time), (40, .ptr 36803 0 1)], ofL [(36803, ⟨3, false, [e_api_CSN a1]⟩), (700450, ⟨3, false, [e_prefectref10_Gen a0]⟩)]⟩ ⟨ofL [], ofL [(700450, ⟨3, false, [.agg [.int .i64 a1.Time, .int .i64 a1.Seq, .int .i64 a0.Last.Rep]]⟩)]⟩ := by
          refine yc (l := [1, 5, 6]) rfl nofun ⟨⟨_, rfl, ?_⟩, ⟨_, rfl, ?_⟩, ⟨_, rfl, ?_⟩, trivial⟩
          · skip
            refine wpp rfl rfl ?_
            exact AnyW.of a5_32 rfl (canonT [700450] rfl ⟨rfl, rfl, rfl, rfl, trivial⟩ ⟨rfl, rfl, trivial⟩ rfl rfl)
          · skip
            refine wpp rfl rfl ?_
            exact AnyW.of a5_35 rfl (canonT [700450] rfl ⟨rfl, rfl, rfl, rfl, trivial⟩ ⟨rfl, trivial⟩ rfl rfl)
          · skip
            refine wpp rfl rfl ?_
            exact AnyW.of a5_36 rfl (canonT [700450] rfl ⟨rfl, rfl, rfl, rfl, trivial⟩ ⟨rfl, rfl, trivial⟩ rfl rfl)
        have a5_25 : AnyW Tryd.prog (lentT [700450]) k23o0_d5 k23o0_o5 10 [0, 1, 4, 5] ⟨ofL [(3, .ptr 36803 0 0), (36, .ptr 700450 0 0), (37, .ptr 700450 0 0), (41, .int .i64 a1.Seq)], ofL [(36803, ⟨3, false, [e_api_CSN a1]⟩), (700450, ⟨3, false, [e_prefectref10_Gen a0]⟩)]⟩ ⟨ofL [], ofL [(700450, ⟨3, false, [.agg [.int .i64 a1.Time, .int .i64 a1.Seq, .int .i64 a0.Last.Rep]]⟩)]⟩ := by
          refine yc (l := [2]) rfl nofun ⟨⟨_, rfl, ?_⟩, trivial⟩
          · skip
            refine wpp rfl rfl ?_
            exact AnyW.of a5_34 rfl (canonT [700450] rfl ⟨rfl, rfl, rfl, rfl, trivial⟩ ⟨rfl, rfl, trivial⟩ rfl rfl)
        have a5_24 : AnyW Tryd.prog (lentT [700450]) k23o0_d5 k23o0_o5 10 [0, 1, 2, 4] ⟨ofL [(36, .ptr 700450 0 0), (37, .ptr 700450 0 0), (38, .ptr 36803 0 0), (40, .ptr 36803 0 1)], ofL [(36803, ⟨3, false, [e_api_CSN a1]⟩), (700450, ⟨3, false, [e_prefectref10_Gen a0]⟩)]⟩ ⟨ofL [], ofL [(700450, ⟨3, false, [.agg [.int .i64 a1.Time, .int .i64 a1.Seq, .int .i64 a0.Last.Rep]]⟩)]⟩ := by
          refine yc (l := [3, 5]) rfl nofun ⟨⟨_, rfl, ?_⟩, ⟨_, rfl, ?_⟩, trivial⟩
          · skip
            refine wpp rfl rfl ?_
            exact AnyW.of a5_32 rfl (canonT [700450] rfl ⟨rfl, rfl, rfl, rfl, trivial⟩ ⟨rfl, rfl, trivial⟩ rfl rfl)
          · skip
            refine wpp rfl rfl ?_
            exact AnyW.of a5_34 rfl (canonT [700450] rfl ⟨rfl, rfl, rfl, rfl, trivial⟩ ⟨rfl, rfl, trivial⟩ rfl rfl)
        have a5_23 : AnyW Tryd.prog (lentT [700450]) k23o0_d5 k23o0_o5 10 [0, 1, 2, 3] ⟨ofL [(3, .ptr 36803 0 0), (36, .ptr 700450 0 0), (37, .ptr 700450 0 0), (39, .int .i64 a1.Time)], ofL [(36803, ⟨3, false, [e_api_CSN a1]⟩), (700450, ⟨3, false, [e_prefectref10_Gen a0]⟩)]⟩ ⟨ofL [], ofL [(700450, ⟨3, false, [.agg [.int .i64 a1.Time, .int .i64 a1.Seq, .int .i64 a0.Last.Rep]]⟩)]⟩ := by
          refine yc (l := [4, 6]) rfl nofun ⟨⟨_, rfl, ?_⟩, ⟨_, rfl, ?_⟩, trivial⟩
          · skip
            refine wpp rfl rfl ?_
            exact AnyW.of a5_32 rfl (canonT [700450] rfl ⟨rfl, rfl, rfl, rfl, trivial⟩ ⟨rfl, rfl, trivial⟩ rfl rfl)
          · skip
            refine wpp rfl rfl ?_
            exact AnyW.of a5_33 rfl (canonT [700450] rfl ⟨rfl, rfl, rfl, rfl, trivial⟩ ⟨rfl, rfl, trivial⟩ rfl rfl)
        have a5_22 : AnyW Tryd.prog (lentT [700450]) k23o0_d5 k23o0_o5 11 [2, 4, 5] ⟨ofL [(0, .ptr 700450 0 0), (38, .ptr 36803 0 0), (41, .int .i64 a1.Seq)], ofL [(36803, ⟨3, false, [e_api_CSN a1]⟩), (700450, ⟨3, false, [e_prefectref10_Gen a0]⟩)]⟩ ⟨ofL [], ofL [(700450, ⟨3, false, [.agg [.int .i64 a1.Time, .int .i64 a1.Seq, .int .i64 a0.Last.Rep]]⟩)]⟩ := by
          refine yc (l := [0, 1, 3]) rfl nofun ⟨⟨_, rfl, ?_⟩, ⟨_, rfl, ?_⟩, ⟨_, rfl, ?_⟩, trivial⟩
          · skip
            refine wpp rfl rfl ?_
            exact AnyW.of a5_28 rfl (canonT [700450] rfl ⟨rfl, rfl, rfl, rfl, trivial⟩ ⟨rfl, rfl, trivial⟩ rfl rfl)
          · skip
            refine wpp rfl rfl ?_
            exact AnyW.of a5_30 rfl (canonT [700450] rfl ⟨rfl, rfl, rfl, rfl, trivial⟩ ⟨rfl, rfl, trivial⟩ rfl rfl)
          · skip
            refine wpp rfl rfl ?_
            exact AnyW.of a5_31 rfl (canonT [700450] rfl ⟨rfl, rfl, rfl, trivial⟩ ⟨rfl, trivial⟩ rfl rfl)
        have a5_21 : AnyW Tryd.prog (lentT [700450]) k23o0_d5 k23o0_o5 11 [2, 3, 4] ⟨ofL [(0, .ptr 700450 0 0), (39, .int .i64 a1.Time), (40, .ptr 36803 0 1)], ofL [(36803, ⟨3, false, [e_api_CSN a1]⟩), (700450, ⟨3, false, [e_prefectref10_Gen a0]⟩)]⟩ ⟨ofL [], ofL [(700450, ⟨3, false, [.agg [.int .i64 a1.Time, .int .i64 a1.Seq, .int .i64 a0.Last.Rep]]⟩)]⟩ := by
          refine yc (l := [0, 1, 5]) rfl nofun ⟨⟨_, rfl, ?_⟩, ⟨_, rfl, ?_⟩, ⟨_, rfl, ?_⟩, trivial⟩
          · skip
            refine wpp rfl rfl ?_
            exact AnyW.of a5_26 rfl (canonT [700450] rfl ⟨rfl, rfl, rfl, rfl, trivial⟩ ⟨rfl, rfl, trivial⟩ rfl rfl)
          · skip
            refine wpp rfl rfl ?_
            exact AnyW.of a5_29 rfl (canonT [700450] rfl ⟨rfl, rfl, rfl, rfl, trivial⟩ ⟨rfl, rfl, trivial⟩ rfl rfl)
          · skip
            refine wpp rfl rfl ?_
            exact AnyW.of a5_31 rfl (canonT [700450] rfl ⟨rfl, rfl, rfl, trivial⟩ ⟨rfl, trivial⟩ rfl rfl)
        have a5_20 : AnyW Tryd.prog (lentT [700450]) k23o0_d5 k23o0_o5 11 [1, 4, 5] ⟨ofL [(0, .ptr 700450 0 0), (3, .ptr 36803 0 0), (37, .ptr 700450 0 0), (41, .int .i64 a1.Seq)], ofL [(36803, ⟨3, false, [e_api_CSN a1]⟩), (700450, ⟨3, false, [e_prefectref10_Gen a0]⟩)]⟩ ⟨ofL [], ofL [(700450, ⟨3, false, [.agg [.int .i64 a1.Time, .int .i64 a1.Seq, .int .i64 a0.Last.Rep]]⟩)]⟩ := by
          refine yc (l := [0, 2]) rfl nofun ⟨⟨_, rfl, ?_⟩, ⟨_, rfl, ?_⟩, trivial⟩
          · skip
            refine wpp rfl rfl ?_
            exact AnyW.of a5_25 rfl (canonT [700450] rfl ⟨rfl, rfl, rfl, rfl, trivial⟩ ⟨rfl, rfl, trivial⟩ rfl rfl)
          · skip
            refine wpp rfl rfl ?_
            exact AnyW.of a5_30 rfl (canonT [700450] rfl ⟨rfl, rfl, rfl, rfl, trivial⟩ ⟨rfl, rfl, trivial⟩ rfl rfl)
        have a5_19 : AnyW Tryd.prog (lentT [700450]) k23o0_d5 k23o0_o5 11 [1, 2, 4] ⟨ofL [(0, .ptr 700450 0 0), (37, .ptr 700450 0 0), (38, .ptr 36803 0 0), (40, .ptr 36803 0 1)], ofL [(36803, ⟨3, false, [e_api_CSN a1]⟩), (700450, ⟨3, false, [e_prefectref10_Gen a0]⟩)]⟩ ⟨ofL [], ofL [(700450, ⟨3, false, [.agg [.int .i64 a1.Time, .int .i64 a1.Seq, .int .i64 a0.Last.Rep]]⟩)]⟩ := by
          refine yc (l := [0, 3, 5]) rfl nofun ⟨⟨_, rfl, ?_⟩, ⟨_, rfl, ?_⟩, ⟨_, rfl, ?_⟩, trivial⟩
          · skip
            refine wpp rfl rfl ?_
            exact AnyW.of a5_24 rfl (canonT [700450] rfl ⟨rfl, rfl, rfl, rfl, trivial⟩ ⟨rfl, rfl, trivial⟩ rfl rfl)
          · skip
            refine wpp rfl rfl ?_
            exact AnyW.of a5_29 rfl (canonT [700450] rfl ⟨rfl, rfl, rfl, rfl, trivial⟩ ⟨rfl, rfl, trivial⟩ rfl rfl)
          · skip
            refine wpp rfl rfl ?_
            exact AnyW.of a5_30 rfl (canonT [700450] rfl ⟨rfl, rfl, rfl, rfl, trivial⟩ ⟨rfl, rfl, trivial⟩ rfl rfl)
        have a5_18 : AnyW Tryd.prog (lentT [700450]) k23o0_d5 k23o0_o5 11 [1, 2, 3] ⟨ofL [(0, .ptr 700450 0 0), (3, .ptr 36803 0 0), (37, .ptr 700450 0 0), (39, .int .i64 a1.Time)], ofL [(36803, ⟨3, false, [e_api_CSN a1]⟩), (700450, ⟨3, false, [e_prefectref10_Gen a0]⟩)]⟩ ⟨ofL [], ofL [(700450, ⟨3, false, [.agg [.int .i64 a1.Time, .int .i64 a1.Seq, .int .i64 a0.Last.Rep]]⟩)]⟩ := by
          refine yc (l := [0, 4]) rfl nofun ⟨⟨_, rfl, ?_⟩, ⟨_, rfl, ?_⟩, trivial⟩
          · skip
            refine wpp rfl rfl ?_
            exact AnyW.of a5_23 rfl (canonT [700450] rfl ⟨rfl, rfl, rfl, rfl, trivial⟩ ⟨rfl, rfl, trivial⟩ rfl rfl)
          · skip
            refine wpp rfl rfl ?_
            exact AnyW.of a5_29 rfl (canonT [700450] rfl ⟨rfl, rfl, rfl, rfl, trivial⟩ ⟨rfl, rfl, trivial⟩ rfl rfl)
        have a5_17 : AnyW Tryd.prog (lentT [700450]) k23o0_d5 k23o0_o5 11 [0, 4, 5] ⟨ofL [(0, .ptr 700450 0 0), (3, .ptr 36803 0 0), (36, .ptr 700450 0 0), (41, .int .i64 a1.Seq)], ofL [(36803, ⟨3, false, [e_api_CSN a1]⟩), (700450, ⟨3, false, [e_prefectref10_Gen a0]⟩)]⟩ ⟨ofL [], ofL [(700450, ⟨3, false, [.agg [.int .i64 a1.Time, .int .i64 a1.Seq, .int .i64 a0.Last.Rep]]⟩)]⟩ := by
          refine yc (l := [1, 2]) rfl nofun ⟨⟨_, rfl, ?_⟩, ⟨_, rfl, ?_⟩, trivial⟩
          · skip
            refine wpp rfl rfl ?_
            exact AnyW.of a5_25 rfl (canonT [700450] rfl ⟨rfl, rfl, rfl, rfl, trivial⟩ ⟨rfl, rfl, trivial⟩ rfl rfl)
          · skip
            refine wpp rfl rfl ?_
            exact AnyW.of a5_28 rfl (canonT [700450] rfl ⟨rfl, rfl, rfl, rfl, trivial⟩ ⟨rfl, rfl, trivial⟩ rfl rfl)
        have a5_16 : AnyW Tryd.prog (lentT [700450]) k23o0_d5 k23o0_o5 11 [0, 2, 4] ⟨ofL [(0, .ptr 700450 0 0), (36, .ptr 700450 0 0), (38, .ptr 36803 0 0), (40, .ptr 36803 0 1)], ofL [(36803, ⟨3, false, [e_api_CSN a1]⟩), (700450, ⟨3, false, [e_prefectref10_Gen a0]⟩)]⟩ ⟨ofL [], ofL [(700450, ⟨3, false, [.agg [.int .i64 a1.Time, .int .i64 a1.Seq, .int .i64 a0.Last.Rep]]⟩)]⟩ := by
          refine yc (l := [1, 3, 5]) rfl nofun ⟨⟨_, rfl, ?_⟩, ⟨_, rfl, ?_⟩, ⟨_, rfl, ?_⟩, trivial⟩
          · skip
            refine wpp rfl rfl ?_
            exact AnyW.of a5_24 rfl (canonT [700450] rfl ⟨rfl, rfl, rfl, rfl, trivial⟩ ⟨rfl, rfl, trivial⟩ rfl rfl)
          · skip
            refine wpp rfl rfl ?_
            exact AnyW.of a5_26 rfl (canonT [700450] rfl ⟨rfl, rfl, rfl, rfl, trivial⟩ ⟨rfl, rfl, trivial⟩ rfl rfl)
          · skip
            refine wpp rfl rfl ?_
            exact AnyW.of a5_28 rfl (canonT [700450] rfl ⟨rfl, rfl, rfl, rfl, trivial⟩ ⟨rfl, rfl, trivial⟩ rfl rfl)
        have a5_15 : AnyW Tryd.prog (lentT [700450]) k23o0_d5 k23o0_o5 11 [0, 2, 3] ⟨ofL [(0, .ptr 700450 0 0), (3, .ptr 36803 0 0), (36, .ptr 700450 0 0), (39, .int .i64 a1.Time)], ofL [(36803, ⟨3, false, [e_api_CSN a1]⟩), (700450, ⟨3, false, [e_prefectref10_Gen a0]⟩)]⟩ ⟨ofL [], ofL [(700450, ⟨3, false, [.agg [.int .i64 a1.Time, .int .i64 a1.Seq, .int .i64 a0.Last.Rep]]⟩)]⟩ := by
          refine yc (l := [1, 4, 6]) rfl nofun ⟨⟨_, rfl, ?_⟩, ⟨_, rfl, ?_⟩, ⟨_, rfl, ?_⟩, trivial⟩
          · skip
            refine wpp rfl rfl ?_
            exact AnyW.of a5_23 rfl (canonT [700450] rfl ⟨rfl, rfl, rfl, rfl, trivial⟩ ⟨rfl, rfl, trivial⟩ rfl rfl)
          · skip
            refine wpp rfl rfl ?_
            exact AnyW.of a5_26 rfl (canonT [700450] rfl ⟨rfl, rfl, rfl, rfl, trivial⟩ ⟨rfl, rfl, trivial⟩ rfl rfl)
          · skip
            refine wpp rfl rfl ?_
            exact AnyW.of a5_27 rfl (canonT [700450] rfl ⟨rfl, rfl, rfl, rfl, trivial⟩ ⟨rfl, rfl, trivial⟩ rfl rfl)
        have a5_14 : AnyW Tryd.prog (lentT [700450]) k23o0_d5 k23o0_o5 11 [0, 1, 4] ⟨ofL [(3, .ptr 36803 0 0), (36, .ptr 700450 0 0), (37, .ptr 700450 0 0), (40, .ptr 36803 0 1)], ofL [(36803, ⟨3, false, [e_api_CSN a1]⟩), (700450, ⟨3, false, [e_prefectref10_Gen a0]⟩)]⟩ ⟨ofL [], ofL [(700450, ⟨3, false, [.agg [.int .i64 a1.Time, .int .i64 a1.Seq, .int .i64 a0.Last.Rep]]⟩)]⟩ := by
          refine yc (l := [2, 5]) rfl nofun ⟨⟨_, rfl, ?_⟩, ⟨_, rfl, ?_⟩, trivial⟩
          · skip
            refine wpp rfl rfl ?_
            exact AnyW.of a5_24 rfl (canonT [700450] rfl ⟨rfl, rfl, rfl, rfl, trivial⟩ ⟨rfl, rfl, trivial⟩ rfl rfl)
          · skip
            refine wpp rfl rfl ?_
            exact AnyW.of a5_25 rfl (canonT [700450] rfl ⟨rfl, rfl, rfl, rfl, trivial⟩ ⟨rfl, rfl, trivial⟩ rfl rfl)
        have a5_13 : AnyW Tryd.prog (lentT [700450]) k23o0_d5 k23o0_o5 11 [0, 1, 2] ⟨ofL [(3, .ptr 36803 0 0), (36, .ptr 700450 0 0), (37, .ptr 700450 0 0), (38, .ptr 36803 0 0)], ofL [(36803, ⟨3, false, [e_api_CSN a1]⟩), (700450, ⟨3, false, [e_prefectref10_Gen a0]⟩)]⟩ ⟨ofL [], ofL [(700450, ⟨3, false, [.agg [.int .i64 a1.Time, .int .i64 a1.Seq, .int .i64 a0.Last.Rep]]⟩)]⟩ := by
          refine yc (l := [3, 4]) rfl nofun ⟨⟨_, rfl, ?_⟩, ⟨_, rfl, ?_⟩, trivial⟩
          · skip
            refine wpp rfl rfl ?_
            exact AnyW.of a5_23 rfl (canonT [700450] rfl ⟨rfl, rfl, rfl, rfl, trivial⟩ ⟨rfl, rfl, trivial⟩ rfl rfl)
          · skip
            refine wpp rfl rfl ?_
            exact AnyW.of a5_24 rfl (canonT [700450] rfl ⟨rfl, rfl, rfl, rfl, trivial⟩ ⟨rfl, rfl, trivial⟩ rfl rfl)
        have a5_12 : AnyW Tryd.prog (lentT [700450]) k23o0_d5 k23o0_o5 12 [4, 5] ⟨ofL [(0, .ptr 700450 0 0), (3, .ptr 36803 0 0), (41, .int .i64 a1.Seq)], ofL [(36803, ⟨3, false, [e_api_CSN a1]⟩), (700450, ⟨3, false, [e_prefectref10_Gen a0]⟩)]⟩ ⟨ofL [], ofL [(700450, ⟨3, false, [.agg [.int .i64 a1.Time, .int .i64 a1.Seq, .int .i64 a0.Last.Rep]]⟩)]⟩ := by
          refine yc (l := [0, 1, 2]) rfl nofun ⟨⟨_, rfl, ?_⟩, ⟨_, rfl, ?_⟩, ⟨_, rfl, ?_⟩, trivial⟩
          · skip
            refine wpp rfl rfl ?_
            exact AnyW.of a5_17 rfl (canonT [700450] rfl ⟨rfl, rfl, rfl, rfl, trivial⟩ ⟨rfl, rfl, trivial⟩ rfl rfl)
          · skip
            refine wpp rfl rfl ?_
            exact AnyW.of a5_20 rfl (canonT [700450] rfl ⟨rfl, rfl, rfl, rfl, trivial⟩ ⟨rfl, rfl, trivial⟩ rfl rfl)
          · skip
            refine wpp rfl rfl ?_
            exact AnyW.of a5_22 rfl (canonT [700450] rfl ⟨rfl, rfl, rfl, trivial⟩ ⟨rfl, rfl, trivial⟩ rfl rfl)
        have a5_11 : AnyW Tryd.prog (lentT [700450]) k23o0_d5 k23o0_o5 12 [2, 4] ⟨ofL [(0, .ptr 700450 0 0), (38, .ptr 36803 0 0), (40, .ptr 36803 0 1)], ofL [(36803, ⟨3, false, [e_api_CSN a1]⟩), (700450, ⟨3, false, [e_prefectref10_Gen a0]⟩)]⟩ ⟨ofL [], ofL [(700450, ⟨3, false, [.agg [.int .i64 a1.Time, .int .i64 a1.Seq, .int .i64 a0.Last.Rep]]⟩)]⟩ := by
          refine yc (l := [0, 1, 3, 5]) rfl nofun ⟨⟨_, rfl, ?_⟩, ⟨_, rfl, ?_⟩, ⟨_, rfl, ?_⟩, ⟨_, rfl, ?_⟩, trivial⟩
          · skip
            refine wpp rfl rfl ?_
            exact AnyW.of a5_16 rfl (canonT [700450] rfl ⟨rfl, rfl, rfl, rfl, trivial⟩ ⟨rfl, rfl, trivial⟩ rfl rfl)
          · skip
            refine wpp rfl rfl ?_
            exact AnyW.of a5_19 rfl (canonT [700450] rfl ⟨rfl, rfl, rfl, rfl, trivial⟩ ⟨rfl, rfl, trivial⟩ rfl rfl)
          · skip
            refine wpp rfl rfl ?_
            exact AnyW.of a5_21 rfl (canonT [700450] rfl ⟨rfl, rfl, rfl, trivial⟩ ⟨rfl, rfl, trivial⟩ rfl rfl)
          · skip
            refine wpp rfl rfl ?_
            exact AnyW.of a5_22 rfl (canonT [700450] rfl ⟨rfl, rfl, rfl, trivial⟩ ⟨rfl, rfl, trivial⟩ rfl rfl)
        have a5_10 : AnyW Tryd.prog (lentT [700450]) k23o0_d5 k23o0_o5 12 [2, 3] ⟨ofL [(0, .ptr 700450 0 0), (3, .ptr 36803 0 0), (39, .int .i64 a1.Time)], ofL [(36803, ⟨3, false, [e_api_CSN a1]⟩), (700450, ⟨3, false, [e_prefectref10_Gen a0]⟩)]⟩ ⟨ofL [], ofL [(700450, ⟨3, false, [.agg [.int .i64 a1.Time, .int .i64 a1.Seq, .int .i64 a0.Last.Rep]]⟩)]⟩ := by
          refine yc (l := [0, 1, 4]) rfl nofun ⟨⟨_, rfl, ?_⟩, ⟨_, rfl, ?_⟩, ⟨_, rfl, ?_⟩, trivial⟩
          · skip
            refine wpp rfl rfl ?_
            exact AnyW.of a5_15 rfl (canonT [700450] rfl ⟨rfl, rfl, rfl, rfl, trivial⟩ ⟨rfl, rfl, trivial⟩ rfl rfl)
          · skip
            refine wpp rfl rfl ?_
            exact AnyW.of a5_18 rfl (canonT [700450] rfl ⟨rfl, rfl, rfl, rfl, trivial⟩ ⟨rfl, rfl, trivial⟩ rfl rfl)
          · skip
            refine wpp rfl rfl ?_
            exact AnyW.of a5_21 rfl (canonT [700450] rfl ⟨rfl, rfl, rfl, trivial⟩ ⟨rfl, rfl, trivial⟩ rfl rfl)
        have a5_9 : AnyW Tryd.prog (lentT [700450]) k23o0_d5 k23o0_o5 12 [1, 4] ⟨ofL [(0, .ptr 700450 0 0), (3, .ptr 36803 0 0), (37, .ptr 700450 0 0), (40, .ptr 36803 0 1)], ofL [(36803, ⟨3, false, [e_api_CSN a1]⟩), (700450, ⟨3, false, [e_prefectref10_Gen a0]⟩)]⟩ ⟨ofL [], ofL [(700450, ⟨3, false, [.agg [.int .i64 a1.Time, .int .i64 a1.Seq, .int .i64 a0.Last.Rep]]⟩)]⟩ := by
          refine yc (l := [0, 2, 5]) rfl nofun ⟨⟨_, rfl, ?_⟩, ⟨_, rfl, ?_⟩, ⟨_, rfl, ?_⟩, trivial⟩
          · skip
            refine wpp rfl rfl ?_
            exact AnyW.of a5_14 rfl (canonT [700450] rfl ⟨rfl, rfl, rfl, rfl, trivial⟩ ⟨rfl, rfl, trivial⟩ rfl rfl)
          · skip
            refine wpp rfl rfl ?_
            exact AnyW.of a5_19 rfl (canonT [700450] rfl ⟨rfl, rfl, rfl, rfl, trivial⟩ ⟨rfl, rfl, trivial⟩ rfl rfl)
          · skip
            refine wpp rfl rfl ?_
            exact AnyW.of a5_20 rfl (canonT [700450] rfl ⟨rfl, rfl, rfl, rfl, trivial⟩ ⟨rfl, rfl, trivial⟩ rfl rfl)
        have a5_8 : AnyW Tryd.prog (lentT [700450]) k23o0_d5 k23o0_o5 12 [1, 2] ⟨ofL [(0, .ptr 700450 0 0), (3, .ptr 36803 0 0), (37, .ptr 700450 0 0), (38, .ptr 36803 0 0)], ofL [(36803, ⟨3, false, [e_api_CSN a1]⟩), (700450, ⟨3, false, [e_prefectref10_Gen a0]⟩)]⟩ ⟨ofL [], ofL [(700450, ⟨3, false, [.agg [.int .i64 a1.Time, .int .i64 a1.Seq, .int .i64 a0.Last.Rep]]⟩)]⟩ := by
          refine yc (l := [0, 3, 4]) rfl nofun ⟨⟨_, rfl, ?_⟩, ⟨_, rfl, ?_⟩, ⟨_, rfl, ?_⟩, trivial⟩
          · skip
            refine wpp rfl rfl ?_
            exact AnyW.of a5_13 rfl (canonT [700450] rfl ⟨rfl, rfl, rfl, rfl, trivial⟩ ⟨rfl, rfl, trivial⟩ rfl rfl)
          · skip
            refine wpp rfl rfl ?_
            exact AnyW.of a5_18 rfl (canonT [700450] rfl ⟨rfl, rfl, rfl, rfl, trivial⟩ ⟨rfl, rfl, trivial⟩ rfl rfl)
          · skip
            refine wpp rfl rfl ?_
            exact AnyW.of a5_19 rfl (canonT [700450] rfl ⟨rfl, rfl, rfl, rfl, trivial⟩ ⟨rfl, rfl, trivial⟩ rfl rfl)
        have a5_7 : AnyW Tryd.prog (lentT [700450]) k23o0_d5 k23o0_o5 12 [0, 4] ⟨ofL [(0, .ptr 700450 0 0), (3, .ptr 36803 0 0), (36, .ptr 700450 0 0), (40, .ptr 36803 0 1)], ofL [(36803, ⟨3, false, [e_api_CSN a1]⟩), (700450, ⟨3, false, [e_prefectref10_Gen a0]⟩)]⟩ ⟨ofL [], ofL [(700450, ⟨3, false, [.agg [.int .i64 a1.Time, .int .i64 a1.Seq, .int .i64 a0.Last.Rep]]⟩)]⟩ := by
          refine yc (l := [1, 2, 5]) rfl nofun ⟨⟨_, rfl, ?_⟩, ⟨_, rfl, ?_⟩, ⟨_, rfl, ?_⟩, trivial⟩
          · skip
            refine wpp rfl rfl ?_
            exact AnyW.of a5_14 rfl (canonT [700450] rfl ⟨rfl, rfl, rfl, rfl, trivial⟩ ⟨rfl, rfl, trivial⟩ rfl rfl)
          · skip
            refine wpp rfl rfl ?_
            exact AnyW.of a5_16 rfl (canonT [700450] rfl ⟨rfl, rfl, rfl, rfl, trivial⟩ ⟨rfl, rfl, trivial⟩ rfl rfl)
          · skip
            refine wpp rfl rfl ?_
            exact AnyW.of a5_17 rfl (canonT [700450] rfl ⟨rfl, rfl, rfl, rfl, trivial⟩ ⟨rfl, rfl, trivial⟩ rfl rfl)
        have a5_6 : AnyW Tryd.prog (lentT [700450]) k23o0_d5 k23o0_o5 12 [0, 2] ⟨ofL [(0, .ptr 700450 0 0), (3, .ptr 36803 0 0), (36, .ptr 700450 0 0), (38, .ptr 36803 0 0)], ofL [(36803, ⟨3, false, [e_api_CSN a1]⟩), (700450, ⟨3, false, [e_prefectref10_Gen a0]⟩)]⟩ ⟨ofL [], ofL [(700450, ⟨3, false, [.agg [.int .i64 a1.Time, .int .i64 a1.Seq, .int .i64 a0.Last.Rep]]⟩)]⟩ := by
          refine yc (l := [1, 3, 4]) rfl nofun ⟨⟨_, rfl, ?_⟩, ⟨_, rfl, ?_⟩, ⟨_, rfl, ?_⟩, trivial⟩
          · skip
            refine wpp rfl rfl ?_
            exact AnyW.of a5_13 rfl (canonT [700450] rfl ⟨rfl, rfl, rfl, rfl, trivial⟩ ⟨rfl, rfl, trivial⟩ rfl rfl)
          · skip
            refine wpp rfl rfl ?_
            exact AnyW.of a5_15 rfl (canonT [700450] rfl ⟨rfl, rfl, rfl, rfl, trivial⟩ ⟨rfl, rfl, trivial⟩ rfl rfl)
          · skip
            refine wpp rfl rfl ?_
            exact AnyW.of a5_16 rfl (canonT [700450] rfl ⟨rfl, rfl, rfl, rfl, trivial⟩ ⟨rfl, rfl, trivial⟩ rfl rfl)
        have a5_5 : AnyW Tryd.prog (lentT [700450]) k23o0_d5 k23o0_o5 12 [0, 1] ⟨ofL [(3, .ptr 36803 0 0), (36, .ptr 700450 0 0), (37, .ptr 700450 0 0)], ofL [(36803, ⟨3, false, [e_api_CSN a1]⟩), (700450, ⟨3, false, [e_prefectref10_Gen a0]⟩)]⟩ ⟨ofL [], ofL [(700450, ⟨3, false, [.agg [.int .i64 a1.Time, .int .i64 a1.Seq, .int .i64 a0.Last.Rep]]⟩)]⟩ := by
          refine yc (l := [2, 4]) rfl nofun ⟨⟨_, rfl, ?_⟩, ⟨_, rfl, ?_⟩, trivial⟩
          · skip
            refine wpp rfl rfl ?_
            exact AnyW.of a5_13 rfl (canonT [700450] rfl ⟨rfl, rfl, rfl, rfl, trivial⟩ ⟨rfl, rfl, trivial⟩ rfl rfl)
          · skip
            refine wpp rfl rfl ?_
            exact AnyW.of a5_14 rfl (canonT [700450] rfl ⟨rfl, rfl, rfl, rfl, trivial⟩ ⟨rfl, rfl, trivial⟩ rfl rfl)
        have a5_4 : AnyW Tryd.prog (lentT [700450]) k23o0_d5 k23o0_o5 13 [4] ⟨ofL [(0, .ptr 700450 0 0), (3, .ptr 36803 0 0), (40, .ptr 36803 0 1)], ofL [(36803, ⟨3, false, [e_api_CSN a1]⟩), (700450, ⟨3, false, [e_prefectref10_Gen a0]⟩)]⟩ ⟨ofL [], ofL [(700450, ⟨3, false, [.agg [.int .i64 a1.Time, .int .i64 a1.Seq, .int .i64 a0.Last.Rep]]⟩)]⟩ := by
          refine yc (l := [0, 1, 2, 5]) rfl nofun ⟨⟨_, rfl, ?_⟩, ⟨_, rfl, ?_⟩, ⟨_, rfl, ?_⟩, ⟨_, rfl, ?_⟩, trivial⟩
          · skip
            refine wpp rfl rfl ?_
            exact AnyW.of a5_7 rfl (canonT [700450] rfl ⟨rfl, rfl, rfl, rfl, trivial⟩ ⟨rfl, rfl, trivial⟩ rfl rfl)
          · skip
            refine wpp rfl rfl ?_
            exact AnyW.of a5_9 rfl (canonT [700450] rfl ⟨rfl, rfl, rfl, rfl, trivial⟩ ⟨rfl, rfl, trivial⟩ rfl rfl)
          · skip
            refine wpp rfl rfl ?_
            exact AnyW.of a5_11 rfl (canonT [700450] rfl ⟨rfl, rfl, rfl, trivial⟩ ⟨rfl, rfl, trivial⟩ rfl rfl)
          · skip
            refine wpp rfl rfl ?_
            exact AnyW.of a5_12 rfl (canonT [700450] rfl ⟨rfl, rfl, rfl, trivial⟩ ⟨rfl, rfl, trivial⟩ rfl rfl)
        have a5_3 : AnyW Tryd.prog (lentT [700450]) k23o0_d5 k23o0_o5 13 [2] ⟨ofL [(0, .ptr 700450 0 0), (3, .ptr 36803 0 0), (38, .ptr 36803 0 0)], ofL [(36803, ⟨3, false, [e_api_CSN a1]⟩), (700450, ⟨3, false, [e_prefectref10_Gen a0]⟩)]⟩ ⟨ofL [], ofL [(700450, ⟨3, false, [.agg [.int .i64 a1.Time, .int .i64 a1.Seq, .int .i64 a0.Last.Rep]]⟩)]⟩ := by
          refine yc (l := [0, 1, 3, 4]) rfl nofun ⟨⟨_, rfl, ?_⟩, ⟨_, rfl, ?_⟩, ⟨_, rfl, ?_⟩, ⟨_, rfl, ?_⟩, trivial⟩
          · skip
            refine wpp rfl rfl ?_
            exact AnyW.of a5_6 rfl (canonT [700450] rfl ⟨rfl, rfl, rfl, rfl, trivial⟩ ⟨rfl, rfl, trivial⟩ rfl rfl)
          · skip
            refine wpp rfl rfl ?_
            exact AnyW.of a5_8 rfl (canonT [700450] rfl ⟨rfl, rfl, rfl, rfl, trivial⟩ ⟨rfl, rfl, trivial⟩ rfl rfl)
          · skip
            refine wpp rfl rfl ?_
            exact AnyW.of a5_10 rfl (canonT [700450] rfl ⟨rfl, rfl, rfl, trivial⟩ ⟨rfl, rfl, trivial⟩ rfl rfl)
          · skip
            refine wpp rfl rfl ?_
            exact AnyW.of a5_11 rfl (canonT [700450] rfl ⟨rfl, rfl, rfl, trivial⟩ ⟨rfl, rfl, trivial⟩ rfl rfl)
        have a5_2 : AnyW Tryd.prog (lentT [700450]) k23o0_d5 k23o0_o5 13 [1] ⟨ofL [(0, .ptr 700450 0 0), (3, .ptr 36803 0 0), (37, .ptr 700450 0 0)], ofL [(36803, ⟨3, false, [e_api_CSN a1]⟩), (700450, ⟨3, false, [e_prefectref10_Gen a0]⟩)]⟩ ⟨ofL [], ofL [(700450, ⟨3, false, [.agg [.int .i64 a1.Time, .int .i64 a1.Seq, .int .i64 a0.Last.Rep]]⟩)]⟩ := by
          refine yc (l := [0, 2, 4]) rfl nofun ⟨⟨_, rfl, ?_⟩, ⟨_, rfl, ?_⟩, ⟨_, rfl, ?_⟩, trivial⟩
          · skip
            refine wpp rfl rfl ?_
            exact AnyW.of a5_5 rfl (canonT [700450] rfl ⟨rfl, rfl, rfl, trivial⟩ ⟨rfl, rfl, trivial⟩ rfl rfl)
          · skip
            refine wpp rfl rfl ?_
            exact AnyW.of a5_8 rfl (canonT [700450] rfl ⟨rfl, rfl, rfl, rfl, trivial⟩ ⟨rfl, rfl, trivial⟩ rfl rfl)
          · skip
            refine wpp rfl rfl ?_
            exact AnyW.of a5_9 rfl (canonT [700450] rfl ⟨rfl, rfl, rfl, rfl, trivial⟩ ⟨rfl, rfl, trivial⟩ rfl rfl)
        have a5_1 : AnyW Tryd.prog (lentT [700450]) k23o0_d5 k23o0_o5 13 [0] ⟨ofL [(0, .ptr 700450 0 0), (3, .ptr 36803 0 0), (36, .ptr 700450 0 0)], ofL [(36803, ⟨3, false, [e_api_CSN a1]⟩), (700450, ⟨3, false, [e_prefectref10_Gen a0]⟩)]⟩ ⟨ofL [], ofL [(700450, ⟨3, false, [.agg [.int .i64 a1.Time, .int .i64 a1.Seq, .int .i64 a0.Last.Rep]]⟩)]⟩ := by
          refine yc (l := [1, 2, 4]) rfl nofun ⟨⟨_, rfl, ?_⟩, ⟨_, rfl, ?_⟩, ⟨_, rfl, ?_⟩, trivial⟩
          · skip
            refine wpp rfl rfl ?_
            exact AnyW.of a5_5 rfl (canonT [700450] rfl ⟨rfl, rfl, rfl, trivial⟩ ⟨rfl, rfl, trivial⟩ rfl rfl)
          · skip
            refine wpp rfl rfl ?_
            exact AnyW.of a5_6 rfl (canonT [700450] rfl ⟨rfl, rfl, rfl, rfl, trivial⟩ ⟨rfl, rfl, trivial⟩ rfl rfl)
          · skip
            refine wpp rfl rfl ?_
            exact AnyW.of a5_7 rfl (canonT [700450] rfl ⟨rfl, rfl, rfl, rfl, trivial⟩ ⟨rfl, rfl, trivial⟩ rfl rfl)
        have a5_0 : AnyW Tryd.prog (lentT [700450]) k23o0_d5 k23o0_o5 14 [] ⟨ofL [(0, .ptr 700450 0 0), (3, .ptr 36803 0 0)], ofL [(36803, ⟨3, false, [e_api_CSN a1]⟩), (700450, ⟨3, false, [e_prefectref10_Gen a0]⟩)]⟩ ⟨ofL [], ofL [(700450, ⟨3, false, [.agg [.int .i64 a1.Time, .int .i64 a1.Seq, .int .i64 a0.Last.Rep]]⟩)]⟩ := by
          refine yc (l := [0, 1, 2, 4]) rfl nofun ⟨⟨_, rfl, ?_⟩, ⟨_, rfl, ?_⟩, ⟨_, rfl, ?_⟩, ⟨_, rfl, ?_⟩, trivial⟩
          · skip
            refine wpp rfl rfl ?_
            exact AnyW.of a5_1 rfl (canonT [700450] rfl ⟨rfl, rfl, rfl, trivial⟩ ⟨rfl, rfl, trivial⟩ rfl rfl)
          · skip
            refine wpp rfl rfl ?_
            exact AnyW.of a5_2 rfl (canonT [700450] rfl ⟨rfl, rfl, rfl, trivial⟩ ⟨rfl, rfl, trivial⟩ rfl rfl)
          · skip
            refine wpp rfl rfl ?_
            exact AnyW.of a5_3 rfl (canonT [700450] rfl ⟨rfl, rfl, rfl, trivial⟩ ⟨rfl, rfl, trivial⟩ rfl rfl)
          · skip
            refine wpp rfl rfl ?_
            exact AnyW.of a5_4 rfl (canonT [700450] rfl ⟨rfl, rfl, rfl, trivial⟩ ⟨rfl, rfl, trivial⟩ rfl rfl)
        exact AnyW.of a5_0 rfl (canonT [700450] rfl ⟨rfl, rfl, trivial⟩ ⟨rfl, rfl, trivial⟩ rfl rfl)
      · skip
        obtain rfl := someS h
        exact ⟨nofun, rfl, rfl, ⟨rfl, trivial⟩, rfl⟩
    · refine xcF rfl c5 ?_
      refine xskip ?_
      obtain rfl := someS h
      exact ⟨nofun, rfl, rfl, ⟨rfl, trivial⟩, rfl⟩
end Go.Gp
end
section
set_option linter.unusedVariables false
set_option linter.unusedSimpArgs false
set_option maxRecDepth 4000
namespace Go.Gp
open Go.Vd Go.RowKit Go.Proofs
def k18o1 : IC := (.seq (.reg [⟨(some 3), (.box 23 (.t 1)), none⟩]) (.seq (.regd 11 [⟨(some 5), (.fda 0 (.t 3)), none⟩, ⟨(some 6), (.load 1 false (.t 5)), none⟩, ⟨(some 7), (.fda 1 (.t 3)), none⟩, ⟨(some 8), (.load 1 false (.t 7)), none⟩, ⟨(some 9), (.mov (.t 0)), none⟩, ⟨(some 10), (.nck (.t 9)), none⟩, ⟨(some 11), (.fda 0 (.t 10)), none⟩, ⟨(some 12), (.fda 2 (.t 11)), none⟩, ⟨(some 13), (.load 1 false (.t 12)), none⟩, ⟨(some 14), (.build [(.int .i64 0), (.int .i64 0), (.int .i64 0)] [(0, (1, (.t 6))), (1, (1, (.t 8))), (2, (1, (.t 13)))]), none⟩, ⟨(some 4), (.box 23 (.c (.agg [(.int .i64 0), (.int .i64 0), (.int .i64 0)]))), none⟩, ⟨none, (.store 3 (.t 4) (.t 14)), none⟩]) (.seq (.regd 11 [⟨(some 15), (.load 3 true (.t 3)), none⟩, ⟨(some 16), (.call 11 [(.t 15)]), none⟩, ⟨(some 17), (.mov (.t 16)), none⟩, ⟨(some 18), (.load 3 true (.t 4)), (some (17, true))⟩, ⟨(some 19), (.mov (.t 0)), (some (17, true))⟩, ⟨(some 20), (.nck (.t 19)), (some (17, true))⟩, ⟨(some 21), (.fda 0 (.t 20)), (some (17, true))⟩, ⟨(some 22), (.load 3 true (.t 21)), (some (17, true))⟩, ⟨(some 23), (.call 14 [(.t 18), (.t 22)]), (some (17, true))⟩, ⟨(some 24), (.bin .gtr (.t 23) (.c (.int .i64 0))), (some (17, true))⟩, ⟨(some 25), (.pick (.t 17) (.t 24) (.c (.bool false))), none⟩]) (.cond (.t 25) (.reg [⟨(some 26), (.mov (.t 0)), none⟩, ⟨(some 27), (.load 3 true (.t 4)), none⟩, ⟨(some 28), (.nck (.t 26)), none⟩, ⟨(some 29), (.fda 0 (.t 28)), none⟩, ⟨none, (.store 3 (.t 29) (.t 27)), none⟩]) .skip))))
theorem k18o1_cf : cfunc Tryd.prog Tryd.f18 = some ⟨30, k18o1, []⟩ := by kernel_rfl
theorem sat_csn_Gen_See_o1 (N : Nat) (a0 : csn_Gen) (a1 : api_CSN) (r : csn_Gen) (h : csn_Gen_See_o1 N a0 a1 = some r) : Sat Tryd.prog 18 (ofL [(700641, ⟨3, false, [e_csn_Gen a0]⟩)]) [.ptr 700641 0 0, e_api_CSN a1] (.tup []) (ofL [(700641, ⟨3, false, [e_csn_Gen r]⟩)]) := by
  refine xsatO [(700641, ⟨3, false, [e_csn_Gen a0]⟩)] [(700641, ⟨3, false, [e_csn_Gen r]⟩)] mixed Tryd.func18 k18o1_cf (rs := []) rfl rfl rfl ?_
  refine xseq ?_
  refine xreg ?_
  refine woo rfl (obox 28803 rfl rfl rfl rfl rfl) ?_
  refine xseq ?_
  refine xregd ?_
  refine wdp rfl rfl ?_
  refine wdp rfl rfl ?_
  refine wdp rfl rfl ?_
  refine wdp rfl rfl ?_
  refine wdp rfl rfl ?_
  refine wdp rfl rfl ?_
  refine wdp rfl rfl ?_
  refine wdp rfl rfl ?_
  refine wdp rfl rfl ?_
  refine wdp (p := .agg [.int .i64 a1.Time, .int .i64 a1.Seq, .int .i64 a0.last.Rep]) rfl rfl ?_
  refine wdN rfl (.box _ 28804 rfl (Nat.le_of_ble_eq_true rfl) (by decide) rfl) (fresh1 rfl) ?_
  refine wstb (e' := .agg [.int .i64 a1.Time, .int .i64 a1.Seq, .int .i64 a0.last.Rep]) rfl rfl rfl rfl rfl rfl rfl rfl nofun rfl ?_
  obtain ⟨g1, hg1, h⟩ := bindS h
  refine xseg ⟨ofL [(0, .ptr 700641 0 0), (4, .ptr 28804 0 0), (25, .bool g1)], ofL [(28804, ⟨3, false, [.agg [.int .i64 a1.Time, .int .i64 a1.Seq, .int .i64 a0.last.Rep]]⟩), (700641, ⟨3, false, [e_csn_Gen a0]⟩)]⟩ ?_ ?_
  · have h := hg1
    refine xregd ?_
    refine wdp (p := e_api_CSN a1) rfl rfl ?_
    obtain ⟨x16, hx16, h⟩ := bindS h
    refine wdN rfl (pcal (sat_csn_Is N _ _ hx16) rfl (.cons sub_rfl .nil) rfl rfl rfl) no_fresh ?_
    refine wdp rfl rfl ?_
    rcases bifS h with ⟨c2, h⟩ | ⟨c2, h⟩
    · skip
      refine wdp (p := .agg [.int .i64 a1.Time, .int .i64 a1.Seq, .int .i64 a0.last.Rep]) (gy rfl c2) rfl ?_
      refine wdp (gy rfl c2) rfl ?_
      refine wdp (gy rfl c2) rfl ?_
      refine wdp (gy rfl c2) rfl ?_
      refine wdp (p := .agg [.int .i64 a0.last.Time, .int .i64 a0.last.Seq, .int .i64 a0.last.Rep]) (gy rfl c2) rfl ?_
      obtain ⟨x23, hx23, h⟩ := bindS h
      refine wdN (gy rfl c2) (pcal (sat_csn_Cmp N _ _ _ hx23) rfl (.cons sub_rfl (.cons sub_rfl .nil)) rfl rfl rfl) no_fresh ?_
      refine wdp (gy rfl c2) rfl ?_
      refine wdp rfl (p_pick1 c2 rfl rfl) ?_
      obtain rfl := someS h
      exact (canonT [700641] rfl ⟨rfl, rfl, rfl, trivial⟩ ⟨rfl, rfl, trivial⟩ rfl rfl)
    · skip
      refine wdn (gn rfl c2) ?_
      refine wdn (gn rfl c2) ?_
      refine wdn (gn rfl c2) ?_
      refine wdn (gn rfl c2) ?_
      refine wdn (gn rfl c2) ?_
      refine wdn (gn rfl c2) ?_
      refine wdn (gn rfl c2) ?_
      refine wdp rfl (p_pick0 c2 rfl rfl) ?_
      obtain rfl := someS h
      exact (canonT [700641] rfl ⟨rfl, rfl, rfl, trivial⟩ ⟨rfl, rfl, trivial⟩ rfl rfl)
  · clear hg1
    rcases bifS h with ⟨c3, h⟩ | ⟨c3, h⟩
    · refine xcT rfl c3 ?_
      refine xreg ?_
      refine wpp rfl rfl ?_
      refine wpp (p := .agg [.int .i64 a1.Time, .int .i64 a1.Seq, .int .i64 a0.last.Rep]) rfl rfl ?_
      refine wpp rfl rfl ?_
      refine wpp rfl rfl ?_
      refine wstb (e' := .agg [.int .i64 a1.Time, .int .i64 a1.Seq, .int .i64 a0.last.Rep]) rfl rfl rfl rfl rfl rfl rfl rfl nofun rfl ?_
      obtain rfl := someS h
      exact ⟨nofun, rfl, rfl, ⟨rfl, trivial⟩, rfl⟩
    · refine xcF rfl c3 ?_
      refine xskip ?_
      obtain rfl := someS h
      exact ⟨nofun, rfl, rfl, ⟨rfl, trivial⟩, rfl⟩
end Go.Gp
end
section
set_option linter.unusedVariables false
set_option linter.unusedSimpArgs false
set_option maxRecDepth 4000
set_option maxHeartbeats 4000000
namespace Go.Gp
open Go.Vd Go.RowKit Go.Proofs
def k6_l28 : IC := (.seq (.seq (.reg [⟨(some 29), (.mov (.t 7)), none⟩, ⟨(some 30), (.mov (.t 1)), none⟩, ⟨(some 31), (.len false (.t 30)), none⟩, ⟨(some 32), (.bin .lss (.t 29) (.t 31)), none⟩]) (.cond (.t 32) .skip (.exit 0))) (.seq (.block 1 (.seq (.reg [⟨(some 35), (.mov (.t 5)), none⟩, ⟨(some 36), (.call 21 [(.t 35)]), none⟩, ⟨(some 8), (.mov (.t 36)), none⟩]) (.seq (.seq (.reg [⟨(some 37), (.mov (.t 1)), none⟩, ⟨(some 38), (.mov (.t 7)), none⟩, ⟨(some 39), (.ixp 5 (.t 37) (.t 38)), none⟩, ⟨(some 40), (.fda 0 (.t 39)), none⟩, ⟨(some 41), (.load 1 false (.t 40)), none⟩, ⟨(some 42), (.bin .leq (.t 41) (.c (.int .i64 1))), none⟩]) (.cond (.t 42) (.seq (.reg [⟨(some 44), (.mov (.t 5)), none⟩, ⟨(some 45), (.mov (.t 1)), none⟩, ⟨(some 46), (.mov (.t 7)), none⟩, ⟨(some 47), (.ixp 5 (.t 45) (.t 46)), none⟩, ⟨(some 48), (.fda 1 (.t 47)), none⟩, ⟨(some 49), (.load 1 false (.t 48)), none⟩, ⟨(some 50), (.call 19 [(.t 44), (.t 49)]), none⟩, ⟨(some 43), (.mov (.t 50)), none⟩, ⟨(some 51), (.ext 0 (.t 43)), none⟩, ⟨(some 52), (.ext 1 (.t 43)), none⟩, ⟨(some 9), (.box 23 (.c (.agg [(.int .i64 0), (.int .i64 0), (.int .i64 0)]))), none⟩, ⟨none, (.store 3 (.t 9) (.t 51)), none⟩, ⟨(some 10), (.mov (.t 52)), none⟩]) (.seq (.reg [⟨(some 54), (.mov (.t 6)), none⟩, ⟨(some 55), (.mov (.t 1)), none⟩, ⟨(some 56), (.mov (.t 7)), none⟩, ⟨(some 57), (.ixp 5 (.t 55) (.t 56)), none⟩, ⟨(some 58), (.fda 1 (.t 57)), none⟩, ⟨(some 59), (.load 1 false (.t 58)), none⟩, ⟨(some 60), (.call 22 [(.t 54), (.t 59)]), none⟩, ⟨(some 53), (.mov (.t 60)), none⟩, ⟨(some 61), (.ext 0 (.t 53)), none⟩, ⟨(some 62), (.ext 1 (.t 53)), none⟩, ⟨(some 11), (.box 23 (.c (.agg [(.int .i64 0), (.int .i64 0), (.int .i64 0)]))), none⟩, ⟨none, (.store 3 (.t 11) (.t 61)), none⟩, ⟨(some 12), (.mov (.t 62)), none⟩]) (.seq (.reg [⟨(some 63), (.load 3 true (.t 9)), none⟩, ⟨(some 64), (.load 3 true (.t 11)), none⟩, ⟨(some 65), (.eqs true [(.i .i64), (.i .i64), (.i .i64)] (.t 63) (.t 64)), none⟩, ⟨(some 66), (.mov (.t 65)), none⟩, ⟨(some 67), (.mov (.t 10)), (some (66, false))⟩, ⟨(some 68), (.mov (.t 12)), (some (66, false))⟩, ⟨(some 69), (.bin .neq (.t 67) (.t 68)), (some (66, false))⟩, ⟨(some 70), (.pick (.t 66) (.c (.bool true)) (.t 69)), none⟩]) (.cond (.t 70) (.seq (.reg [⟨(some 4), (.mov (.c (.bool false))), none⟩]) .ret) .skip)))) (.seq (.reg [⟨(some 71), (.mov (.t 5)), none⟩, ⟨(some 72), (.mov (.t 1)), none⟩, ⟨(some 73), (.mov (.t 7)), none⟩, ⟨(some 74), (.ixp 5 (.t 72) (.t 73)), none⟩, ⟨(some 75), (.fda 2 (.t 74)), none⟩, ⟨(some 76), (.load 3 true (.t 75)), none⟩, ⟨(some 77), (.call 18 [(.t 71), (.t 76)]), none⟩]) (.reg [⟨(some 78), (.mov (.t 6)), none⟩, ⟨(some 79), (.mov (.t 1)), none⟩, ⟨(some 80), (.mov (.t 7)), none⟩, ⟨(some 81), (.ixp 5 (.t 79) (.t 80)), none⟩, ⟨(some 82), (.fda 2 (.t 81)), none⟩, ⟨(some 83), (.load 3 true (.t 82)), none⟩, ⟨(some 84), (.call 23 [(.t 78), (.t 83)]), none⟩])))) (.seq (.reg [⟨(some 85), (.mov (.t 8)), none⟩, ⟨(some 86), (.build [(.int .i64 0), (.int .i64 0), (.int .i64 0)] [(0, (1, (.c (.int .i64 1099511627776))))]), none⟩, ⟨(some 87), (.call 18 [(.t 85), (.t 86)]), none⟩]) (.seq (.regd 7 [⟨(some 88), (.mov (.t 5)), none⟩, ⟨(some 89), (.call 20 [(.t 88)]), none⟩, ⟨(some 90), (.mov (.t 6)), none⟩, ⟨(some 91), (.nck (.t 90)), none⟩, ⟨(some 92), (.fda 0 (.t 91)), none⟩, ⟨(some 93), (.load 3 true (.t 92)), none⟩, ⟨(some 94), (.eqs true [(.i .i64), (.i .i64), (.i .i64)] (.t 89) (.t 93)), none⟩]) (.cond (.t 94) (.seq (.reg [⟨(some 4), (.mov (.c (.bool false))), none⟩]) .ret) .skip)))))) (.reg [⟨(some 33), (.mov (.t 7)), none⟩, ⟨(some 34), (.bin .add (.t 33) (.c (.int .i64 1))), none⟩, ⟨(some 7), (.mov (.t 34)), none⟩])))
def k6 : IC := (.seq (.reg [⟨(some 4), (.mov (.c (.bool false))), none⟩]) (.seq (.seq (.reg [⟨(some 13), (.call 7 []), none⟩, ⟨(some 14), (.un .not (.t 13)), none⟩]) (.cond (.t 14) (.seq (.reg [⟨(some 4), (.mov (.c (.bool false))), none⟩]) .ret) .skip)) (.seq (.seq (.reg [⟨(some 15), (.mov (.t 1)), none⟩, ⟨(some 16), (.len false (.t 15)), none⟩, ⟨(some 17), (.bin .gtr (.t 16) (.c (.int .i64 60))), none⟩]) (.cond (.t 17) (.seq (.reg [⟨(some 4), (.mov (.c (.bool true))), none⟩]) .ret) .skip)) (.seq (.reg [⟨(some 18), (.mov (.t 0)), none⟩, ⟨(some 19), (.call 17 [(.t 18)]), none⟩, ⟨(some 5), (.mov (.t 19)), none⟩]) (.seq (.reg [⟨(some 20), (.build [(.int .i64 0), (.int .i64 0), (.int .i64 0)] []), none⟩, ⟨(some 21), (.box 45 (.t 20)), none⟩, ⟨(some 6), (.mov (.t 21)), none⟩]) (.seq (.reg [⟨(some 22), (.mov (.t 6)), none⟩, ⟨(some 23), (.mov (.t 0)), none⟩, ⟨(some 24), (.mm false (.t 23) [(.c (.int .i64 5))]), none⟩, ⟨(some 25), (.mm true (.c (.int .i64 0)) [(.t 24)]), none⟩, ⟨(some 26), (.nck (.t 22)), none⟩, ⟨(some 27), (.fda 0 (.t 26)), none⟩, ⟨(some 28), (.fda 2 (.t 27)), none⟩, ⟨none, (.store 1 (.t 28) (.t 25)), none⟩]) (.seq (.seq (.reg [⟨(some 7), (.mov (.c (.int .i64 0))), none⟩]) (.block 0 (.loop k6_l28))) (.seq (.reg [⟨(some 4), (.mov (.c (.bool true))), none⟩]) .ret))))))))
theorem k6_cf : cfunc Tryd.prog Tryd.f6 = some ⟨95, k6, [(.tmp 4)]⟩ := by kernel_rfl
theorem w_prefectlaw10_CsnPlays_l28 (N : Nat) (a1 : List prefectlaw10_Step) : ∀ (n : Nat) (x : Int × prefectref10_Gen × csn_Gen) (y : Unit ⊕ Bool), prefectlaw10_CsnPlays_l28 N a1 n x = some y → WX Tryd.prog (fun _ => false) (.loop k6_l28) ((fun (x : Int × prefectref10_Gen × csn_Gen) => ⟨ofL [(1, .sl 5 (List.map e_prefectlaw10_Step a1)), (5, .ptr 700640 0 0), (6, .ptr 700450 0 0), (7, .int .i64 x.1)], ofL [(700450, ⟨3, false, [e_prefectref10_Gen x.2.1]⟩), (700640, ⟨3, false, [e_csn_Gen x.2.2]⟩)]⟩) x) ((Sum.elim (fun y e s => e = .exit 0 ∧ s = ⟨ofL [], ofL []⟩) (fun y e s => e = .ret ∧ s = ⟨ofL [(4, .bool y)], ofL []⟩) : (Unit ⊕ Bool) → Xt → St → Prop) y) := by
  refine xloop (fun (x : Int × prefectref10_Gen × csn_Gen) => ⟨ofL [(1, .sl 5 (List.map e_prefectlaw10_Step a1)), (5, .ptr 700640 0 0), (6, .ptr 700450 0 0), (7, .int .i64 x.1)], ofL [(700450, ⟨3, false, [e_prefectref10_Gen x.2.1]⟩), (700640, ⟨3, false, [e_csn_Gen x.2.2]⟩)]⟩) _ (prefectlaw10_CsnPlays_l28 N a1) (prefectlaw10_CsnPlays_l28_b N a1) (fun _ => rfl) (fun _ _ => rfl) ?_
  rintro rec ⟨v7l28, r700450l28, r700640l28⟩ y h
  refine xseq ?_
  refine xseq ?_
  refine xreg ?_
  refine wpp rfl rfl ?_
  refine wpp rfl rfl ?_
  refine wpp rfl (p_lens rfl) ?_
  refine wpp rfl rfl ?_
  rcases bifS h with ⟨c3, h⟩ | ⟨c3, h⟩
  · refine xcT rfl c3 ?_
    refine xskip ?_
    refine xseq ?_
    refine xblk ?_
    refine xseq ?_
    refine xreg ?_
    refine wpp rfl rfl ?_
    obtain ⟨x36, hx36, h⟩ := bindS h
    refine woo rfl (ocalN [(700641, ⟨3, false, [e_csn_Gen x36]⟩)] (sat_csn_Gen_Copy_n1 N _ _ hx36) rfl (.cons (sub_eq rfl) .nil) rfl rfl rfl rfl rfl rfl) ?_
    refine wpp rfl rfl ?_
    refine xjoin (fun (x : prefectref10_Gen × csn_Gen) => ⟨ofL [(1, .sl 5 (List.map e_prefectlaw10_Step a1)), (5, .ptr 700640 0 0), (6, .ptr 700450 0 0), (7, .int .i64 v7l28), (8, .ptr 700641 0 0)], ofL [(700450, ⟨3, false, [e_prefectref10_Gen x.1]⟩), (700640, ⟨3, false, [e_csn_Gen x.2]⟩), (700641, ⟨3, false, [e_csn_Gen x36]⟩)]⟩) (fun x => prefectlaw10_CsnPlays_j39 N v7l28 rec x36 x.1 x.2 = some y) ?_ ?_
    · rintro ⟨r700450j39, r700640j39⟩ h
      refine xseq ?_
      refine xreg ?_
      refine wpp rfl rfl ?_
      refine wpp (p := .agg [.int .i64 1099511627776, .int .i64 0, .int .i64 0]) rfl rfl ?_
      obtain ⟨x87, hx87, h⟩ := bindS h
      refine woo rfl (olendB [(700641, ⟨3, false, [e_csn_Gen x36]⟩)] [(700641, ⟨3, false, [e_csn_Gen x87]⟩)] (sat_csn_Gen_See_o1 N _ _ _ hx87) rfl (.cons sub_rfl (.cons sub_rfl .nil)) ⟨rfl, trivial⟩ rfl rfl rfl) ?_
      refine xseq ?_
      refine xregd ?_
      refine wdp rfl rfl ?_
      obtain ⟨x89, hx89, h⟩ := bindS h
      refine wdN rfl (pcal (sat_csn_Gen_Last N _ _ hx89) rfl (.cons (sub_eq rfl) .nil) rfl rfl rfl) no_fresh ?_
      refine wdp rfl rfl ?_
      refine wdp rfl rfl ?_
      refine wdp rfl rfl ?_
      refine wdp (p := .agg [.int .i64 r700450j39.Last.Time, .int .i64 r700450j39.Last.Seq, .int .i64 r700450j39.Last.Rep]) rfl rfl ?_
      refine wdp (p := .bool (!(x89.Time == r700450j39.Last.Time && (x89.Seq == r700450j39.Last.Seq && (x89.Rep == r700450j39.Last.Rep && true))))) rfl rfl ?_
      rcases bifS h with ⟨c4, h⟩ | ⟨c4, h⟩
      · refine xcT rfl c4 ?_
        refine xseq ?_
        refine xreg ?_
        refine wpp rfl rfl ?_
        obtain rfl := someS h
        exact xretn (st1 := ⟨ofL [(4, .bool false)], ofL []⟩) (canon0 ⟨rfl, trivial⟩ trivial rfl rfl) ⟨rfl, rfl⟩
      · refine xcF rfl c4 ?_
        refine xskip ?_
        refine xreg ?_
        refine wpp rfl rfl ?_
        refine wpp (p := .int .i64 (w64 (v7l28 + (1 : Int)))) rfl rfl ?_
        refine wpp rfl rfl ?_
        exact ⟨((w64 (v7l28 + (1 : Int))), r700450j39, r700640j39), (canon0 ⟨rfl, rfl, rfl, rfl, trivial⟩ ⟨rfl, rfl, trivial⟩ rfl rfl), h⟩
    · skip
      refine xseq ?_
      refine xreg ?_
      refine wpp rfl rfl ?_
      refine wpp rfl rfl ?_
      obtain ⟨x39, hx39, h⟩ := bindS h
      refine wpp rfl (p_ixs (cs := [.int .i64 x39.What, .int .i64 x39.Now, .int .i64 x39.C.Time, .int .i64 x39.C.Seq, .int .i64 x39.C.Rep]) hx39 rfl rfl rfl) ?_
      refine wpp (p := .ep [.int .i64 x39.What, .int .i64 x39.Now, .int .i64 x39.C.Time, .int .i64 x39.C.Seq, .int .i64 x39.C.Rep]) rfl rfl ?_
      refine wpp rfl rfl ?_
      refine wpp rfl rfl ?_
      rcases bifS h with ⟨c5, h⟩ | ⟨c5, h⟩
      · refine xcT rfl c5 ?_
        refine xseq ?_
        refine xreg ?_
        refine wpp rfl rfl ?_
        refine wpp rfl rfl ?_
        refine wpp rfl rfl ?_
        obtain ⟨x47, hx47, h⟩ := bindS h
        refine wpp rfl (p_ixs (cs := [.int .i64 x47.What, .int .i64 x47.Now, .int .i64 x47.C.Time, .int .i64 x47.C.Seq, .int .i64 x47.C.Rep]) hx47 rfl rfl rfl) ?_
        refine wpp (p := .ep [.int .i64 x47.Now, .int .i64 x47.C.Time, .int .i64 x47.C.Seq, .int .i64 x47.C.Rep]) rfl rfl ?_
        refine wpp rfl rfl ?_
        obtain ⟨x50, hx50, h⟩ := bindS h
        refine woo rfl (olendB [(700640, ⟨3, false, [e_csn_Gen r700640l28]⟩)] [(700640, ⟨3, false, [e_csn_Gen x50.2.2]⟩)] (sat_csn_Gen_Next_o0 N _ _ _ hx50) rfl (.cons sub_rfl (.cons sub_rfl .nil)) ⟨rfl, trivial⟩ rfl rfl rfl) ?_
        refine wpp rfl rfl ?_
        refine wpp rfl rfl ?_
        refine wpp rfl rfl ?_
        refine woo rfl (obox 9609 rfl rfl rfl rfl rfl) ?_
        refine wstb (e' := e_api_CSN x50.1) rfl rfl rfl rfl rfl rfl rfl rfl nofun rfl ?_
        refine wpp rfl rfl ?_
        refine xseq ?_
        refine xnorm (canon0 (st := _) (l := [(1, .sl 5 (List.map e_prefectlaw10_Step a1)), (5, .ptr 700640 0 0), (6, .ptr 700450 0 0), (7, .int .i64 v7l28), (8, .ptr 700641 0 0), (9, .ptr 9609 0 0), (10, .int .i64 x50.2.1)]) (m := [(9609, ⟨3, false, [e_api_CSN x50.1]⟩), (700450, ⟨3, false, [e_prefectref10_Gen r700450l28]⟩), (700640, ⟨3, false, [e_csn_Gen x50.2.2]⟩), (700641, ⟨3, false, [e_csn_Gen x36]⟩)]) ⟨rfl, rfl, rfl, rfl, rfl, rfl, rfl, trivial⟩ ⟨rfl, rfl, rfl, rfl, trivial⟩ rfl rfl) ?_
        refine xreg ?_
        refine wpp rfl rfl ?_
        refine wpp rfl rfl ?_
        refine wpp rfl rfl ?_
        obtain ⟨x57, hx57, h⟩ := bindS h
        refine wpp rfl (p_ixs (cs := [.int .i64 x57.What, .int .i64 x57.Now, .int .i64 x57.C.Time, .int .i64 x57.C.Seq, .int .i64 x57.C.Rep]) hx57 rfl rfl rfl) ?_
        refine wpp (p := .ep [.int .i64 x57.Now, .int .i64 x57.C.Time, .int .i64 x57.C.Seq, .int .i64 x57.C.Rep]) rfl rfl ?_
        refine wpp rfl rfl ?_
        obtain ⟨x60, hx60, h⟩ := bindS h
        refine woo rfl (olendB [(700450, ⟨3, false, [e_prefectref10_Gen r700450l28]⟩)] [(700450, ⟨3, false, [e_prefectref10_Gen x60.2.2]⟩)] (sat_prefectref10_Gen_Next_o0 N _ _ _ hx60) rfl (.cons sub_rfl (.cons sub_rfl .nil)) ⟨rfl, trivial⟩ rfl rfl rfl) ?_
        refine wpp rfl rfl ?_
        refine wpp rfl rfl ?_
        refine wpp rfl rfl ?_
        refine woo rfl (obox 9611 rfl rfl rfl rfl rfl) ?_
        refine wstb (e' := e_api_CSN x60.1) rfl rfl rfl rfl rfl rfl rfl rfl nofun rfl ?_
        refine wpp rfl rfl ?_
        obtain ⟨g6, hg6, h⟩ := bindS h
        refine xseg ⟨ofL [(1, .sl 5 (List.map e_prefectlaw10_Step a1)), (5, .ptr 700640 0 0), (6, .ptr 700450 0 0), (7, .int .i64 v7l28), (8, .ptr 700641 0 0), (70, .bool g6)], ofL [(700450, ⟨3, false, [e_prefectref10_Gen x60.2.2]⟩), (700640, ⟨3, false, [e_csn_Gen x50.2.2]⟩), (700641, ⟨3, false, [e_csn_Gen x36]⟩)]⟩ ?_ ?_
        · have h := hg6
          refine xreg ?_
          refine wpp (p := e_api_CSN x50.1) rfl rfl ?_
          refine wpp (p := e_api_CSN x60.1) rfl rfl ?_
          refine wpp (p := .bool (!(x50.1.Time == x60.1.Time && (x50.1.Seq == x60.1.Seq && (x50.1.Rep == x60.1.Rep && true))))) rfl rfl ?_
          refine wpp rfl rfl ?_
          rcases bifS h with ⟨c7, h⟩ | ⟨c7, h⟩
          · skip
            refine wsk (gn rfl c7) ?_
            refine wsk (gn rfl c7) ?_
            refine wsk (gn rfl c7) ?_
            refine wpp rfl (p_pick1 c7 rfl rfl) ?_
            obtain rfl := someS h
            exact (canon0 ⟨rfl, rfl, rfl, rfl, rfl, rfl, trivial⟩ ⟨rfl, rfl, rfl, trivial⟩ rfl rfl)
          · skip
            refine wpp (gy rfl c7) rfl ?_
            refine wpp (gy rfl c7) rfl ?_
            refine wpp (gy rfl c7) rfl ?_
            refine wpp rfl (p_pick0 c7 rfl rfl) ?_
            obtain rfl := someS h
            exact (canon0 ⟨rfl, rfl, rfl, rfl, rfl, rfl, trivial⟩ ⟨rfl, rfl, rfl, trivial⟩ rfl rfl)
        · clear hg6
          rcases bifS h with ⟨c8, h⟩ | ⟨c8, h⟩
          · refine xcT rfl c8 ?_
            refine xseq ?_
            refine xreg ?_
            refine wpp rfl rfl ?_
            obtain rfl := someS h
            exact xretn (st1 := ⟨ofL [(4, .bool false)], ofL []⟩) (canon0 ⟨rfl, trivial⟩ trivial rfl rfl) ⟨rfl, rfl⟩
          · refine xcF rfl c8 ?_
            refine xskip ?_
            exact ⟨(x60.2.2, x50.2.2), (canon0 ⟨rfl, rfl, rfl, rfl, rfl, trivial⟩ ⟨rfl, rfl, rfl, trivial⟩ rfl rfl), h⟩
      · refine xcF rfl c5 ?_
        refine xseq ?_
        refine xreg ?_
        refine wpp rfl rfl ?_
        refine wpp rfl rfl ?_
        refine wpp rfl rfl ?_
        obtain ⟨x74, hx74, h⟩ := bindS h
        refine wpp rfl (p_ixs (cs := [.int .i64 x74.What, .int .i64 x74.Now, .int .i64 x74.C.Time, .int .i64 x74.C.Seq, .int .i64 x74.C.Rep]) hx74 rfl rfl rfl) ?_
        refine wpp (p := .ep [.int .i64 x74.C.Time, .int .i64 x74.C.Seq, .int .i64 x74.C.Rep]) rfl rfl ?_
        refine wpp (p := .agg [.int .i64 x74.C.Time, .int .i64 x74.C.Seq, .int .i64 x74.C.Rep]) rfl rfl ?_
        obtain ⟨x77, hx77, h⟩ := bindS h
        refine woo rfl (olendB [(700640, ⟨3, false, [e_csn_Gen r700640l28]⟩)] [(700640, ⟨3, false, [e_csn_Gen x77]⟩)] (sat_csn_Gen_See_o0 N _ _ _ hx77) rfl (.cons sub_rfl (.cons sub_rfl .nil)) ⟨rfl, trivial⟩ rfl rfl rfl) ?_
        refine xreg ?_
        refine wpp rfl rfl ?_
        refine wpp rfl rfl ?_
        refine wpp rfl rfl ?_
        obtain ⟨x81, hx81, h⟩ := bindS h
        refine wpp rfl (p_ixs (cs := [.int .i64 x81.What, .int .i64 x81.Now, .int .i64 x81.C.Time, .int .i64 x81.C.Seq, .int .i64 x81.C.Rep]) hx81 rfl rfl rfl) ?_
        refine wpp (p := .ep [.int .i64 x81.C.Time, .int .i64 x81.C.Seq, .int .i64 x81.C.Rep]) rfl rfl ?_
        refine wpp (p := .agg [.int .i64 x81.C.Time, .int .i64 x81.C.Seq, .int .i64 x81.C.Rep]) rfl rfl ?_
        obtain ⟨x84, hx84, h⟩ := bindS h
        refine woo rfl (olendB [(700450, ⟨3, false, [e_prefectref10_Gen r700450l28]⟩)] [(700450, ⟨3, false, [e_prefectref10_Gen x84]⟩)] (sat_prefectref10_Gen_See_o0 N _ _ _ hx84) rfl (.cons sub_rfl (.cons sub_rfl .nil)) ⟨rfl, trivial⟩ rfl rfl rfl) ?_
        exact ⟨(x84, x77), (canon0 ⟨rfl, rfl, rfl, rfl, rfl, trivial⟩ ⟨rfl, rfl, rfl, trivial⟩ rfl rfl), h⟩
  · refine xcF rfl c3 ?_
    obtain rfl := someS h
    exact xexitn (st1 := ⟨ofL [], ofL []⟩) (canon0 trivial trivial rfl rfl) ⟨rfl, rfl⟩
theorem sat_prefectlaw10_CsnPlays (N : Nat) (a0 : Int) (a1 : List prefectlaw10_Step) (r : Bool) (h : prefectlaw10_CsnPlays N a0 a1 = some r) : Sat Tryd.prog 6 noRows [.int .i64 a0, .sl 5 (List.map e_prefectlaw10_Step a1)] (.bool r) noRows := by
  refine xsat mixed Tryd.func6 k6_cf (rs := [.bool r]) rfl rfl ?_
  refine xseq ?_
  refine xreg ?_
  refine wpp rfl rfl ?_
  refine xseq ?_
  refine xseq ?_
  refine xreg ?_
  obtain ⟨x13, hx13, h⟩ := bindS h
  refine woo rfl (ocal (sat_prefectlaw10_known N _ hx13) rfl .nil rfl rfl rfl) ?_
  refine wpp rfl rfl ?_
  rcases bifS h with ⟨c1, h⟩ | ⟨c1, h⟩
  · refine xcT rfl c1 ?_
    refine xseq ?_
    refine xreg ?_
    refine wpp rfl rfl ?_
    obtain rfl := someS h
    refine xret ?_
    exact ⟨nofun, rfl, rfl⟩
  · refine xcF rfl c1 ?_
    refine xskip ?_
    refine xseq ?_
    refine xseq ?_
    refine xreg ?_
    refine wpp rfl rfl ?_
    refine wpp rfl (p_lens rfl) ?_
    refine wpp rfl rfl ?_
    rcases bifS h with ⟨c2, h⟩ | ⟨c2, h⟩
    · refine xcT rfl c2 ?_
      refine xseq ?_
      refine xreg ?_
      refine wpp rfl rfl ?_
      obtain rfl := someS h
      refine xret ?_
      exact ⟨nofun, rfl, rfl⟩
    · refine xcF rfl c2 ?_
      refine xskip ?_
      refine xseq ?_
      refine xreg ?_
      refine wpp rfl rfl ?_
      obtain ⟨x19, hx19, h⟩ := bindS h
      refine woo rfl (ocalN [(700640, ⟨3, false, [e_csn_Gen x19]⟩)] (sat_csn_New_n0 N _ _ hx19) rfl (.cons sub_rfl .nil) rfl rfl rfl rfl rfl rfl) ?_
      refine wpp rfl rfl ?_
      refine xseq ?_
      refine xreg ?_
      refine wpp (p := .agg [.int .i64 0, .int .i64 0, .int .i64 0]) rfl rfl ?_
      refine woo rfl (obox 700450 rfl rfl rfl rfl rfl) ?_
      refine wpp rfl rfl ?_
      refine xseq ?_
      refine xreg ?_
      refine wpp rfl rfl ?_
      refine wpp rfl rfl ?_
      refine wpp (p := .int .i64 (mn a0 (5 : Int))) rfl rfl ?_
      refine wpp (p := .int .i64 (mx (0 : Int) (mn a0 (5 : Int)))) rfl rfl ?_
      refine wpp rfl rfl ?_
      refine wpp rfl rfl ?_
      refine wpp rfl rfl ?_
      refine wstb (e' := .agg [.int .i64 0, .int .i64 0, .int .i64 (mx (0 : Int) (mn a0 (5 : Int)))]) rfl rfl rfl rfl rfl rfl rfl rfl nofun rfl ?_
      refine xseq ?_
      refine xseq ?_
      refine xreg ?_
      refine wpp rfl rfl ?_
      refine xblk ?_
      obtain ⟨y9, hy9, h⟩ := bindS h
      refine xloopU (st1 := ⟨ofL [(1, .sl 5 (List.map e_prefectlaw10_Step a1)), (5, .ptr 700640 0 0), (6, .ptr 700450 0 0), (7, .int .i64 0)], ofL [(700450, ⟨3, false, [e_prefectref10_Gen (⟨(⟨0, 0, (mx (0 : Int) (mn a0 (5 : Int)))⟩ : api_CSN)⟩ : prefectref10_Gen)]⟩), (700640, ⟨3, false, [e_csn_Gen x19]⟩)]⟩) (canon0 ⟨rfl, rfl, rfl, rfl, trivial⟩ ⟨rfl, rfl, trivial⟩ rfl rfl) (w_prefectlaw10_CsnPlays_l28 N a1 N _ _ hy9) ?_
      clear hy9
      rcases y9 with y9 | y9
      · rintro e s ⟨rfl, rfl⟩
        refine xseq ?_
        refine xreg ?_
        refine wpp rfl rfl ?_
        obtain rfl := someS h
        refine xret ?_
        exact ⟨nofun, rfl, rfl⟩
      · rintro e s ⟨rfl, rfl⟩
        obtain rfl := someS h
        exact ⟨nofun, rfl, rfl⟩
end Go.Gp
end
