/- A part of the proof: functions of the program and what they compute. -/
import Derived.Test.YtgjeiamilppafaaDoorA5
import Derived.Test.YtgjeiamilppafaaDoorA6
import Derived.Test.YtgjeiamilppafaaDoorA4
import Derived.Shelf.Small.Wraps
import Derived.Shelf.Utf8.RuneCount
import Derived.Shelf.Strconv.Itoa0
import Derived.Shelf.Strconv.Itoa1
import Derived.Shelf.LaysM
import Derived.Shelf.Strconv.Itoa2
import Derived.Shelf.Strconv.Itoa3
import Derived.Shelf.Strconv.Itoa4
import Derived.Shelf.Strconv.ParseIntEmpty
import Derived.Shelf.Strconv.Clone
import Derived.Shelf.Strconv.SyntaxError
import Derived.Shelf.LaysC
import Derived.Shelf.Strconv.ToError
import Derived.Shelf.Strconv.Lower
import Derived.Shelf.Strconv.ParseUint10
import Derived.Shelf.Strconv.ParseUint10Empty
import Derived.Shelf.Strconv.ParseUint10Any
import Derived.Shelf.Strconv.ParseInt10
import Derived.Shelf.Strconv.RangeError
import Derived.Shelf.Strconv.ToErrorRange
import Derived.Shelf.Strconv.ParseUintEmpty
import Derived.Shelf.Strconv.ParseUint10b64
import Derived.Shelf.Strconv.ParseUint10b32
import Derived.Shelf.Strconv.ParseUint10b16
import Derived.Shelf.Strconv.ParseUint10b8
import Derived.Shelf.Strconv.ParseUint10At
import Derived.Shelf.Strconv.ParseInt10At64
import Derived.Shelf.Strconv.ParseInt10At32
import Derived.Shelf.Strconv.ParseInt10At16
import Derived.Shelf.Strconv.ParseInt10At8
import Derived.Shelf.Strconv.ParseInt10All
import Derived.Shelf.Strconv.ParseIntPublic10
import Derived.Shelf.Strconv.ErrVarParseInt
import Derived.Shelf.Strings.Search1
import Derived.Shelf.Strings.Search2
import Derived.Shelf.Strings.Search3
import Derived.Shelf.Strings.Count
import Derived.Shelf.Strings.Shaped
import Derived.Shelf.Strings.Split
import Derived.Shelf.Strings.SplitShaped
import Derived.Shelf.Unicode.Decode
import Derived.Shelf.Strings.RuneCount
import Derived.Shelf.Strings.Explode
import Derived.Shelf.Unicode.DecodeSlow
import Derived.Shelf.Unicode.DecodeAny
import Derived.Ground.Names2Prog
import Derived.Shelf.Slices.SearchI
import Derived.Test.YtgjeiamilppafaaDoorProg
section
set_option linter.unusedVariables false
set_option maxRecDepth 100000
namespace Go.Gp
open Go.Vd Go.RowKit Go.Proofs
theorem okTypes : okT Tryd.prog 6 [36] = true := by kernel_rfl
theorem op2 {p : PV} (h : Shp Tryd.prog 6 2 p) : ∃ a : Int, p = ei a ∧ (IntKind.i64.min ≤ a ∧ a ≤ IntKind.i64.max) := h.int_inv Tryd.underlying2
theorem op3 {p : PV} (h : Shp Tryd.prog 6 3 p) : ∃ a : Int, p = ei a ∧ (IntKind.i64.min ≤ a ∧ a ≤ IntKind.i64.max) := h.int_inv Tryd.underlying3
theorem op23 (cs : List PV) (hc : cs.length = 3) (hs : ∀ (j : Nat) (u : TypeId) (q : PV), ([2, 3, 3] : List TypeId)[j]? = some u → cs[j]? = some q → Shp Tryd.prog 6 u q) : ∃ a : api_CSN, mkE true cs = e_api_CSN a ∧ b_api_CSN a := by
  obtain ⟨c0, cs0, rfl, hc0⟩ := cons_of hc
  obtain ⟨c1, cs1, rfl, hc1⟩ := cons_of hc0
  obtain ⟨c2, cs2, rfl, hc2⟩ := cons_of hc1
  obtain rfl := nil_of hc2
  obtain ⟨x0, rfl, h0⟩ := op2 (hs 0 _ _ rfl rfl)
  obtain ⟨x1, rfl, h1⟩ := op3 (hs 1 _ _ rfl rfl)
  obtain ⟨x2, rfl, h2⟩ := op3 (hs 2 _ _ rfl rfl)
  exact ⟨⟨x0, x1, x2⟩, rfl, ⟨h0, h1, h2⟩⟩
theorem op9 {p : PV} (h : Shp Tryd.prog 6 9 p) : ∃ a : List UInt8, p = PV.str a ∧ a.length ≤ maxLen := h.str_inv Tryd.underlying9
end Go.Gp
end
section
set_option linter.unusedVariables false
set_option linter.unusedSimpArgs false
set_option maxRecDepth 4000
namespace Go.Gp
open Go.Vd Go.RowKit Go.Proofs
def k17n0 : IC := (.seq (.reg [⟨(some 2), (.mov (.c .nilp)), none⟩]) (.seq (.reg [⟨(some 3), (.mov (.t 0)), none⟩, ⟨(some 4), (.mm true (.t 3) [(.c (.int .i64 0))]), none⟩, ⟨(some 5), (.mm false (.t 4) [(.c (.int .i64 5))]), none⟩, ⟨(some 6), (.build [(.int .i64 0), (.int .i64 0), (.int .i64 0)] [(2, (1, (.t 5)))]), none⟩, ⟨(some 7), (.build [(.int .i64 0), (.int .i64 0), (.int .i64 0)] [(0, (3, (.t 6)))]), none⟩, ⟨(some 8), (.box 64 (.t 7)), none⟩, ⟨(some 2), (.mov (.t 8)), none⟩]) .ret))
theorem k17n0_cf : cfunc Tryd.prog Tryd.f17 = some ⟨9, k17n0, [(.tmp 2)]⟩ := by kernel_rfl
theorem sat_csn_New_n0 (N : Nat) (a0 : Int) (r : csn_Gen) (h : csn_New_n0 N a0 = some r) : Sat Tryd.prog 17 noRows [.int .i64 a0] (.ptr 700640 0 0) (ofL [(700640, ⟨3, false, [e_csn_Gen r]⟩)]) := by
  refine xsatR (m := [(700640, ⟨3, false, [e_csn_Gen r]⟩)]) mixed Tryd.func17 k17n0_cf (rs := [.ptr 700640 0 0]) rfl rfl ?_
  refine xseq ?_
  refine xreg ?_
  refine wpp rfl rfl ?_
  refine xseq ?_
  refine xreg ?_
  refine wpp rfl rfl ?_
  refine wpp (p := .int .i64 (mx a0 (0 : Int))) rfl rfl ?_
  refine wpp (p := .int .i64 (mn (mx a0 (0 : Int)) (5 : Int))) rfl rfl ?_
  refine wpp (p := .agg [.int .i64 0, .int .i64 0, .int .i64 (mn (mx a0 (0 : Int)) (5 : Int))]) rfl rfl ?_
  refine wpp (p := .agg [.int .i64 0, .int .i64 0, .int .i64 (mn (mx a0 (0 : Int)) (5 : Int))]) rfl rfl ?_
  refine woo rfl (obox 700640 rfl rfl rfl rfl rfl) ?_
  refine wpp rfl rfl ?_
  obtain rfl := someS h
  refine xretn (st1 := ⟨ofL [(2, .ptr 700640 0 0)], ofL [(700640, ⟨3, false, [e_csn_Gen (⟨(⟨0, 0, (mn (mx a0 (0 : Int)) (5 : Int))⟩ : api_CSN)⟩ : csn_Gen)]⟩)]⟩) (canon0 ⟨rfl, trivial⟩ ⟨rfl, trivial⟩ rfl rfl) ?_
  exact ⟨nofun, rfl, rfl, ⟨rfl, trivial⟩, rfl⟩
end Go.Gp
end
section
set_option linter.unusedVariables false
set_option linter.unusedSimpArgs false
set_option maxRecDepth 4000
namespace Go.Gp
open Go.Vd Go.RowKit Go.Proofs
def k19o0 : IC := (.seq (.reg [⟨(some 4), (.box 23 (.c (.agg [(.int .i64 0), (.int .i64 0), (.int .i64 0)]))), none⟩, ⟨(some 5), (.mov (.c (.int .i64 0))), none⟩]) (.seq (.reg [⟨(some 7), (.mov (.t 0)), none⟩, ⟨(some 8), (.nck (.t 7)), none⟩, ⟨(some 9), (.fda 0 (.t 8)), none⟩, ⟨(some 10), (.load 3 true (.t 9)), none⟩, ⟨(some 6), (.box 23 (.c (.agg [(.int .i64 0), (.int .i64 0), (.int .i64 0)]))), none⟩, ⟨none, (.store 3 (.t 6) (.t 10)), none⟩]) (.seq (.reg [⟨(some 11), (.fda 1 (.t 6)), none⟩, ⟨(some 12), (.load 1 false (.t 11)), none⟩, ⟨(some 13), (.bin .add (.t 12) (.c (.int .i64 1))), none⟩, ⟨(some 14), (.fda 1 (.t 6)), none⟩, ⟨none, (.store 1 (.t 14) (.t 13)), none⟩]) (.seq (.block 0 (.seq (.block 2 (.seq (.block 1 (.seq (.seq (.seq (.reg [⟨(some 16), (.mov (.t 1)), none⟩, ⟨(some 17), (.mov (.t 0)), none⟩, ⟨(some 18), (.nck (.t 17)), none⟩, ⟨(some 19), (.fda 0 (.t 18)), none⟩, ⟨(some 20), (.fda 0 (.t 19)), none⟩, ⟨(some 21), (.load 1 false (.t 20)), none⟩, ⟨(some 22), (.bin .leq (.t 16) (.t 21)), none⟩, ⟨(some 23), (.mov (.t 22)), none⟩, ⟨(some 24), (.fda 1 (.t 6)), (some (23, true))⟩, ⟨(some 25), (.load 1 false (.t 24)), (some (23, true))⟩, ⟨(some 26), (.bin .gtr (.t 25) (.c (.int .i64 65535))), (some (23, true))⟩, ⟨(some 27), (.pick (.t 23) (.t 26) (.c (.bool false))), none⟩, ⟨(some 15), (.mov (.t 27)), none⟩]) (.cond (.t 15) (.exit 1) .skip)) (.seq (.reg [⟨(some 29), (.mov (.t 1)), none⟩, ⟨(some 30), (.mov (.t 0)), none⟩, ⟨(some 31), (.nck (.t 30)), none⟩, ⟨(some 32), (.fda 0 (.t 31)), none⟩, ⟨(some 33), (.fda 0 (.t 32)), none⟩, ⟨(some 34), (.load 1 false (.t 33)), none⟩, ⟨(some 35), (.bin .gtr (.t 29) (.t 34)), none⟩, ⟨(some 28), (.mov (.t 35)), none⟩]) (.cond (.t 28) (.exit 2) .skip))) (.exit 0))) (.reg [⟨(some 36), (.mov (.t 0)), none⟩, ⟨(some 37), (.nck (.t 36)), none⟩, ⟨(some 38), (.fda 0 (.t 37)), none⟩, ⟨(some 39), (.fda 0 (.t 38)), none⟩, ⟨(some 40), (.load 1 false (.t 39)), none⟩, ⟨(some 41), (.bin .add (.t 40) (.c (.int .i64 1))), none⟩, ⟨(some 1), (.mov (.t 41)), none⟩]))) (.seq (.reg [⟨(some 42), (.mov (.t 1)), none⟩, ⟨(some 43), (.fda 0 (.t 6)), none⟩, ⟨none, (.store 1 (.t 43) (.t 42)), none⟩, ⟨(some 44), (.fda 1 (.t 6)), none⟩, ⟨none, (.store 1 (.t 44) (.c (.int .i64 0))), none⟩]) (.exit 0)))) (.seq (.seq (.reg [⟨(some 45), (.fda 0 (.t 6)), none⟩, ⟨(some 46), (.load 1 false (.t 45)), none⟩, ⟨(some 47), (.bin .gtr (.t 46) (.c (.int .i64 1099511627776))), none⟩]) (.cond (.t 47) (.seq (.reg [⟨(some 48), (.build [(.int .i64 0), (.int .i64 0), (.int .i64 0)] []), none⟩, ⟨none, (.store 3 (.t 4) (.t 48)), none⟩, ⟨(some 5), (.mov (.c (.int .i64 19))), none⟩]) .ret) .skip)) (.seq (.reg [⟨(some 49), (.mov (.t 0)), none⟩, ⟨(some 50), (.load 3 true (.t 6)), none⟩, ⟨(some 51), (.nck (.t 49)), none⟩, ⟨(some 52), (.fda 0 (.t 51)), none⟩, ⟨none, (.store 3 (.t 52) (.t 50)), none⟩]) (.seq (.reg [⟨(some 53), (.load 3 true (.t 6)), none⟩, ⟨none, (.store 3 (.t 4) (.t 53)), none⟩, ⟨(some 5), (.mov (.c (.int .i64 0))), none⟩]) .ret)))))))
theorem k19o0_cf : cfunc Tryd.prog Tryd.f19 = some ⟨54, k19o0, [(.cell 3 true 4), (.tmp 5)]⟩ := by kernel_rfl
theorem sat_csn_Gen_Next_o0 (N : Nat) (a0 : csn_Gen) (a1 : Int) (r : api_CSN × Int × csn_Gen) (h : csn_Gen_Next_o0 N a0 a1 = some r) : Sat Tryd.prog 19 (ofL [(700640, ⟨3, false, [e_csn_Gen a0]⟩)]) [.ptr 700640 0 0, .int .i64 a1] (.tup [e_api_CSN r.1, .int .i64 r.2.1]) (ofL [(700640, ⟨3, false, [e_csn_Gen r.2.2]⟩)]) := by
  refine xsatO [(700640, ⟨3, false, [e_csn_Gen a0]⟩)] [(700640, ⟨3, false, [e_csn_Gen r.2.2]⟩)] mixed Tryd.func19 k19o0_cf (rs := [e_api_CSN r.1, .int .i64 r.2.1]) rfl rfl rfl ?_
  refine xseq ?_
  refine xreg ?_
  refine woo rfl (obox 30404 rfl rfl rfl rfl rfl) ?_
  refine wpp rfl rfl ?_
  refine xseq ?_
  refine xreg ?_
  refine wpp rfl rfl ?_
  refine wpp rfl rfl ?_
  refine wpp rfl rfl ?_
  refine wpp (p := .agg [.int .i64 a0.last.Time, .int .i64 a0.last.Seq, .int .i64 a0.last.Rep]) rfl rfl ?_
  refine woo rfl (obox 30406 rfl rfl rfl rfl rfl) ?_
  refine wstb (e' := .agg [.int .i64 a0.last.Time, .int .i64 a0.last.Seq, .int .i64 a0.last.Rep]) rfl rfl rfl rfl rfl rfl rfl rfl nofun rfl ?_
  refine xseq ?_
  refine xreg ?_
  refine wpp rfl rfl ?_
  refine wpp rfl rfl ?_
  refine wpp (p := .int .i64 (w64 (a0.last.Seq + (1 : Int)))) rfl rfl ?_
  refine wpp rfl rfl ?_
  refine wstb (e' := .agg [.int .i64 a0.last.Time, .int .i64 (w64 (a0.last.Seq + (1 : Int))), .int .i64 a0.last.Rep]) rfl rfl rfl rfl rfl rfl rfl rfl nofun rfl ?_
  refine xjoin (fun (x : api_CSN) => ⟨ofL [(0, .ptr 700640 0 0), (4, .ptr 30404 0 0), (6, .ptr 30406 0 0)], ofL [(30404, ⟨3, false, [.agg [.int .i64 0, .int .i64 0, .int .i64 0]]⟩), (30406, ⟨3, false, [e_api_CSN x]⟩), (700640, ⟨3, false, [e_csn_Gen a0]⟩)]⟩) (fun x => csn_Gen_Next_o0_j6 a0 x = some r) ?_ ?_
  · rintro r30406j6 h
    refine xseq ?_
    refine xseq ?_
    refine xreg ?_
    refine wpp rfl rfl ?_
    refine wpp rfl rfl ?_
    refine wpp rfl rfl ?_
    rcases bifS h with ⟨c1, h⟩ | ⟨c1, h⟩
    · refine xcT rfl c1 ?_
      refine xseq ?_
      refine xreg ?_
      refine wpp (p := .agg [.int .i64 0, .int .i64 0, .int .i64 0]) rfl rfl ?_
      refine wstb (e' := .agg [.int .i64 0, .int .i64 0, .int .i64 0]) rfl rfl rfl rfl rfl rfl rfl rfl nofun rfl ?_
      refine wpp rfl rfl ?_
      obtain rfl := someS h
      refine xretn (st1 := ⟨ofL [(4, .ptr 30404 0 0), (5, .int .i64 19)], ofL [(30404, ⟨3, false, [e_api_CSN (⟨0, 0, 0⟩ : api_CSN)]⟩), (700640, ⟨3, false, [e_csn_Gen a0]⟩)]⟩) (canonT [700640] rfl ⟨rfl, rfl, trivial⟩ ⟨rfl, rfl, trivial⟩ rfl rfl) ?_
      exact ⟨nofun, rfl, rfl, ⟨rfl, trivial⟩, rfl⟩
    · refine xcF rfl c1 ?_
      refine xskip ?_
      refine xseq ?_
      refine xreg ?_
      refine wpp rfl rfl ?_
      refine wpp (p := e_api_CSN r30406j6) rfl rfl ?_
      refine wpp rfl rfl ?_
      refine wpp rfl rfl ?_
      refine wstb (e' := e_api_CSN r30406j6) rfl rfl rfl rfl rfl rfl rfl rfl nofun rfl ?_
      refine xseq ?_
      refine xreg ?_
      refine wpp (p := e_api_CSN r30406j6) rfl rfl ?_
      refine wstb (e' := e_api_CSN r30406j6) rfl rfl rfl rfl rfl rfl rfl rfl nofun rfl ?_
      refine wpp rfl rfl ?_
      obtain rfl := someS h
      refine xretn (st1 := ⟨ofL [(4, .ptr 30404 0 0), (5, .int .i64 0)], ofL [(30404, ⟨3, false, [e_api_CSN r30406j6]⟩), (700640, ⟨3, false, [e_csn_Gen (⟨(⟨r30406j6.Time, r30406j6.Seq, r30406j6.Rep⟩ : api_CSN)⟩ : csn_Gen)]⟩)]⟩) (canonT [700640] rfl ⟨rfl, rfl, trivial⟩ ⟨rfl, rfl, trivial⟩ rfl rfl) ?_
      exact ⟨nofun, rfl, rfl, ⟨rfl, trivial⟩, rfl⟩
  · skip
    refine xblk ?_
    refine xjoin (fun (x : Int) => ⟨ofL [(0, .ptr 700640 0 0), (1, .int .i64 x), (4, .ptr 30404 0 0), (6, .ptr 30406 0 0)], ofL [(30404, ⟨3, false, [.agg [.int .i64 0, .int .i64 0, .int .i64 0]]⟩), (30406, ⟨3, false, [.agg [.int .i64 a0.last.Time, .int .i64 (w64 (a0.last.Seq + (1 : Int))), .int .i64 a0.last.Rep]]⟩), (700640, ⟨3, false, [e_csn_Gen a0]⟩)]⟩) (fun x => csn_Gen_Next_o0_j8 a0 x = some r) ?_ ?_
    · rintro v1j8 h
      refine xseq ?_
      refine xreg ?_
      refine wpp rfl rfl ?_
      refine wpp rfl rfl ?_
      refine wstb (e' := .agg [.int .i64 v1j8, .int .i64 (w64 (a0.last.Seq + (1 : Int))), .int .i64 a0.last.Rep]) rfl rfl rfl rfl rfl rfl rfl rfl nofun rfl ?_
      refine wpp rfl rfl ?_
      refine wstb (e' := .agg [.int .i64 v1j8, .int .i64 0, .int .i64 a0.last.Rep]) rfl rfl rfl rfl rfl rfl rfl rfl nofun rfl ?_
      refine xexit ?_
      exact ⟨(⟨v1j8, 0, a0.last.Rep⟩ : api_CSN), (canonT [700640] rfl ⟨rfl, rfl, rfl, trivial⟩ ⟨rfl, rfl, rfl, trivial⟩ rfl rfl), h⟩
    · skip
      refine xblk ?_
      refine xseq ?_
      refine xblk ?_
      refine xseq ?_
      refine xseq ?_
      obtain ⟨g2, hg2, h⟩ := bindS h
      refine xseg ⟨ofL [(0, .ptr 700640 0 0), (1, .int .i64 a1), (4, .ptr 30404 0 0), (6, .ptr 30406 0 0), (15, .bool g2)], ofL [(30404, ⟨3, false, [.agg [.int .i64 0, .int .i64 0, .int .i64 0]]⟩), (30406, ⟨3, false, [.agg [.int .i64 a0.last.Time, .int .i64 (w64 (a0.last.Seq + (1 : Int))), .int .i64 a0.last.Rep]]⟩), (700640, ⟨3, false, [e_csn_Gen a0]⟩)]⟩ ?_ ?_
      · have h := hg2
        refine xreg ?_
        refine wpp rfl rfl ?_
        refine wpp rfl rfl ?_
        refine wpp rfl rfl ?_
        refine wpp rfl rfl ?_
        refine wpp rfl rfl ?_
        refine wpp rfl rfl ?_
        refine wpp rfl rfl ?_
        refine wpp rfl rfl ?_
        rcases bifS h with ⟨c3, h⟩ | ⟨c3, h⟩
        · skip
          refine wpp (gy rfl c3) rfl ?_
          refine wpp (gy rfl c3) rfl ?_
          refine wpp (gy rfl c3) rfl ?_
          refine wpp rfl (p_pick1 c3 rfl rfl) ?_
          refine wpp rfl rfl ?_
          obtain rfl := someS h
          exact (canonT [700640] rfl ⟨rfl, rfl, rfl, rfl, rfl, trivial⟩ ⟨rfl, rfl, rfl, trivial⟩ rfl rfl)
        · skip
          refine wsk (gn rfl c3) ?_
          refine wsk (gn rfl c3) ?_
          refine wsk (gn rfl c3) ?_
          refine wpp rfl (p_pick0 c3 rfl rfl) ?_
          refine wpp rfl rfl ?_
          obtain rfl := someS h
          exact (canonT [700640] rfl ⟨rfl, rfl, rfl, rfl, rfl, trivial⟩ ⟨rfl, rfl, rfl, trivial⟩ rfl rfl)
      · clear hg2
        rcases bifS h with ⟨c4, h⟩ | ⟨c4, h⟩
        · refine xcT rfl c4 ?_
          refine xexit ?_
          refine xreg ?_
          refine wpp rfl rfl ?_
          refine wpp rfl rfl ?_
          refine wpp rfl rfl ?_
          refine wpp rfl rfl ?_
          refine wpp rfl rfl ?_
          refine wpp (p := .int .i64 (w64 (a0.last.Time + (1 : Int)))) rfl rfl ?_
          refine wpp rfl rfl ?_
          exact ⟨(w64 (a0.last.Time + (1 : Int))), (canonT [700640] rfl ⟨rfl, rfl, rfl, rfl, trivial⟩ ⟨rfl, rfl, rfl, trivial⟩ rfl rfl), h⟩
        · refine xcF rfl c4 ?_
          refine xskip ?_
          refine xseq ?_
          refine xreg ?_
          refine wpp rfl rfl ?_
          refine wpp rfl rfl ?_
          refine wpp rfl rfl ?_
          refine wpp rfl rfl ?_
          refine wpp rfl rfl ?_
          refine wpp rfl rfl ?_
          refine wpp rfl rfl ?_
          refine wpp rfl rfl ?_
          rcases bifS h with ⟨c5, h⟩ | ⟨c5, h⟩
          · refine xcT rfl c5 ?_
            refine xexit ?_
            exact ⟨a1, (canonT [700640] rfl ⟨rfl, rfl, rfl, rfl, trivial⟩ ⟨rfl, rfl, rfl, trivial⟩ rfl rfl), h⟩
          · refine xcF rfl c5 ?_
            refine xskip ?_
            refine xexit ?_
            exact ⟨(⟨a0.last.Time, (w64 (a0.last.Seq + (1 : Int))), a0.last.Rep⟩ : api_CSN), (canonT [700640] rfl ⟨rfl, rfl, rfl, trivial⟩ ⟨rfl, rfl, rfl, trivial⟩ rfl rfl), h⟩
end Go.Gp
end
section
set_option linter.unusedVariables false
set_option linter.unusedSimpArgs false
set_option maxRecDepth 4000
namespace Go.Gp
open Go.Vd Go.RowKit Go.Proofs
def k11 : IC := (.seq (.reg [⟨(some 1), (.box 23 (.t 0)), none⟩, ⟨(some 2), (.mov (.c (.bool false))), none⟩]) (.seq (.reg [⟨(some 3), (.fda 0 (.t 1)), none⟩, ⟨(some 4), (.load 1 false (.t 3)), none⟩, ⟨(some 5), (.bin .geq (.t 4) (.c (.int .i64 0))), none⟩, ⟨(some 6), (.mov (.t 5)), none⟩, ⟨(some 7), (.fda 0 (.t 1)), (some (6, true))⟩, ⟨(some 8), (.load 1 false (.t 7)), (some (6, true))⟩, ⟨(some 9), (.bin .leq (.t 8) (.c (.int .i64 1099511627776))), (some (6, true))⟩, ⟨(some 10), (.pick (.t 6) (.t 9) (.c (.bool false))), none⟩, ⟨(some 11), (.mov (.t 10)), none⟩, ⟨(some 12), (.fda 1 (.t 1)), (some (11, true))⟩, ⟨(some 13), (.load 1 false (.t 12)), (some (11, true))⟩, ⟨(some 14), (.bin .geq (.t 13) (.c (.int .i64 0))), (some (11, true))⟩, ⟨(some 15), (.pick (.t 11) (.t 14) (.c (.bool false))), none⟩, ⟨(some 16), (.mov (.t 15)), none⟩, ⟨(some 17), (.fda 1 (.t 1)), (some (16, true))⟩, ⟨(some 18), (.load 1 false (.t 17)), (some (16, true))⟩, ⟨(some 19), (.bin .leq (.t 18) (.c (.int .i64 65535))), (some (16, true))⟩, ⟨(some 20), (.pick (.t 16) (.t 19) (.c (.bool false))), none⟩, ⟨(some 21), (.mov (.t 20)), none⟩, ⟨(some 22), (.fda 2 (.t 1)), (some (21, true))⟩, ⟨(some 23), (.load 1 false (.t 22)), (some (21, true))⟩, ⟨(some 24), (.bin .geq (.t 23) (.c (.int .i64 0))), (some (21, true))⟩, ⟨(some 25), (.pick (.t 21) (.t 24) (.c (.bool false))), none⟩, ⟨(some 26), (.mov (.t 25)), none⟩, ⟨(some 27), (.fda 2 (.t 1)), (some (26, true))⟩, ⟨(some 28), (.load 1 false (.t 27)), (some (26, true))⟩, ⟨(some 29), (.bin .lss (.t 28) (.c (.int .i64 6))), (some (26, true))⟩, ⟨(some 30), (.pick (.t 26) (.t 29) (.c (.bool false))), none⟩, ⟨(some 2), (.mov (.t 30)), none⟩]) .ret))
theorem k11_cf : cfunc Tryd.prog Tryd.f11 = some ⟨31, k11, [(.tmp 2)]⟩ := by kernel_rfl
theorem sat_csn_Is (N : Nat) (a0 : api_CSN) (r : Bool) (h : csn_Is N a0 = some r) : Sat Tryd.prog 11 noRows [e_api_CSN a0] (.bool r) noRows := by
  refine xsat mixed Tryd.func11 k11_cf (rs := [.bool r]) rfl rfl ?_
  refine xseq ?_
  refine xreg ?_
  refine woo rfl (obox 17601 rfl rfl rfl rfl rfl) ?_
  refine wpp rfl rfl ?_
  obtain ⟨g1, hg1, h⟩ := bindS h
  refine xseg ⟨ofL [(2, .bool g1)], ofL []⟩ ?_ ?_
  · have h := hg1
    refine xreg ?_
    refine wpp rfl rfl ?_
    refine wpp rfl rfl ?_
    refine wpp rfl rfl ?_
    refine wpp rfl rfl ?_
    rcases bifS h with ⟨c2, h⟩ | ⟨c2, h⟩
    · skip
      refine wpp (gy rfl c2) rfl ?_
      refine wpp (gy rfl c2) rfl ?_
      refine wpp (gy rfl c2) rfl ?_
      refine wpp rfl (p_pick1 c2 rfl rfl) ?_
      refine wpp rfl rfl ?_
      rcases bifS h with ⟨c3, h⟩ | ⟨c3, h⟩
      · skip
        refine wpp (gy rfl c3) rfl ?_
        refine wpp (gy rfl c3) rfl ?_
        refine wpp (gy rfl c3) rfl ?_
        refine wpp rfl (p_pick1 c3 rfl rfl) ?_
        refine wpp rfl rfl ?_
        rcases bifS h with ⟨c4, h⟩ | ⟨c4, h⟩
        · skip
          refine wpp (gy rfl c4) rfl ?_
          refine wpp (gy rfl c4) rfl ?_
          refine wpp (gy rfl c4) rfl ?_
          refine wpp rfl (p_pick1 c4 rfl rfl) ?_
          refine wpp rfl rfl ?_
          rcases bifS h with ⟨c5, h⟩ | ⟨c5, h⟩
          · skip
            refine wpp (gy rfl c5) rfl ?_
            refine wpp (gy rfl c5) rfl ?_
            refine wpp (gy rfl c5) rfl ?_
            refine wpp rfl (p_pick1 c5 rfl rfl) ?_
            refine wpp rfl rfl ?_
            rcases bifS h with ⟨c6, h⟩ | ⟨c6, h⟩
            · skip
              refine wpp (gy rfl c6) rfl ?_
              refine wpp (gy rfl c6) rfl ?_
              refine wpp (gy rfl c6) rfl ?_
              refine wpp rfl (p_pick1 c6 rfl rfl) ?_
              refine wpp rfl rfl ?_
              obtain rfl := someS h
              exact (canon0 ⟨rfl, trivial⟩ trivial rfl rfl)
            · skip
              refine wsk (gn rfl c6) ?_
              refine wsk (gn rfl c6) ?_
              refine wsk (gn rfl c6) ?_
              refine wpp rfl (p_pick0 c6 rfl rfl) ?_
              refine wpp rfl rfl ?_
              obtain rfl := someS h
              exact (canon0 ⟨rfl, trivial⟩ trivial rfl rfl)
          · skip
            refine wsk (gn rfl c5) ?_
            refine wsk (gn rfl c5) ?_
            refine wsk (gn rfl c5) ?_
            refine wpp rfl (p_pick0 c5 rfl rfl) ?_
            refine wpp rfl rfl ?_
            refine wsk rfl ?_
            refine wsk rfl ?_
            refine wsk rfl ?_
            refine wpp rfl rfl ?_
            refine wpp rfl rfl ?_
            obtain rfl := someS h
            exact (canon0 ⟨rfl, trivial⟩ trivial rfl rfl)
        · skip
          refine wsk (gn rfl c4) ?_
          refine wsk (gn rfl c4) ?_
          refine wsk (gn rfl c4) ?_
          refine wpp rfl (p_pick0 c4 rfl rfl) ?_
          refine wpp rfl rfl ?_
          refine wsk rfl ?_
          refine wsk rfl ?_
          refine wsk rfl ?_
          refine wpp rfl rfl ?_
          refine wpp rfl rfl ?_
          refine wsk rfl ?_
          refine wsk rfl ?_
          refine wsk rfl ?_
          refine wpp rfl rfl ?_
          refine wpp rfl rfl ?_
          obtain rfl := someS h
          exact (canon0 ⟨rfl, trivial⟩ trivial rfl rfl)
      · skip
        refine wsk (gn rfl c3) ?_
        refine wsk (gn rfl c3) ?_
        refine wsk (gn rfl c3) ?_
        refine wpp rfl (p_pick0 c3 rfl rfl) ?_
        refine wpp rfl rfl ?_
        refine wsk rfl ?_
        refine wsk rfl ?_
        refine wsk rfl ?_
        refine wpp rfl rfl ?_
        refine wpp rfl rfl ?_
        refine wsk rfl ?_
        refine wsk rfl ?_
        refine wsk rfl ?_
        refine wpp rfl rfl ?_
        refine wpp rfl rfl ?_
        refine wsk rfl ?_
        refine wsk rfl ?_
        refine wsk rfl ?_
        refine wpp rfl rfl ?_
        refine wpp rfl rfl ?_
        obtain rfl := someS h
        exact (canon0 ⟨rfl, trivial⟩ trivial rfl rfl)
    · skip
      refine wsk (gn rfl c2) ?_
      refine wsk (gn rfl c2) ?_
      refine wsk (gn rfl c2) ?_
      refine wpp rfl (p_pick0 c2 rfl rfl) ?_
      refine wpp rfl rfl ?_
      refine wsk rfl ?_
      refine wsk rfl ?_
      refine wsk rfl ?_
      refine wpp rfl rfl ?_
      refine wpp rfl rfl ?_
      refine wsk rfl ?_
      refine wsk rfl ?_
      refine wsk rfl ?_
      refine wpp rfl rfl ?_
      refine wpp rfl rfl ?_
      refine wsk rfl ?_
      refine wsk rfl ?_
      refine wsk rfl ?_
      refine wpp rfl rfl ?_
      refine wpp rfl rfl ?_
      refine wsk rfl ?_
      refine wsk rfl ?_
      refine wsk rfl ?_
      refine wpp rfl rfl ?_
      refine wpp rfl rfl ?_
      obtain rfl := someS h
      exact (canon0 ⟨rfl, trivial⟩ trivial rfl rfl)
  · clear hg1
    obtain rfl := someS h
    refine xret ?_
    exact ⟨nofun, rfl, rfl⟩
end Go.Gp
end
section
set_option linter.unusedVariables false
set_option linter.unusedSimpArgs false
set_option maxRecDepth 4000
namespace Go.Gp
open Go.Vd Go.RowKit Go.Proofs
def k35 : IC := (.seq (.reg [⟨(some 2), (.mov (.c (.bool false))), none⟩]) (.seq (.reg [⟨(some 3), (.mov (.t 0)), none⟩, ⟨(some 4), (.mov (.t 0)), none⟩, ⟨(some 5), (.bin .neq (.t 3) (.t 4)), none⟩, ⟨(some 2), (.mov (.t 5)), none⟩]) .ret))
theorem k35_cf : cfunc Tryd.prog Tryd.f35 = some ⟨6, k35, [(.tmp 2)]⟩ := by kernel_rfl
theorem sat_cmp_isNaN_int64 (N : Nat) (a0 : Int) (r : Bool) (h : cmp_isNaN_int64 N a0 = some r) : Sat Tryd.prog 35 noRows [.int .i64 a0] (.bool r) noRows := by
  refine xsat mixed Tryd.func35 k35_cf (rs := [.bool r]) rfl rfl ?_
  refine xseq ?_
  refine xreg ?_
  refine wpp rfl rfl ?_
  refine xseq ?_
  refine xreg ?_
  refine wpp rfl rfl ?_
  refine wpp rfl rfl ?_
  refine wpp rfl rfl ?_
  refine wpp rfl rfl ?_
  obtain rfl := someS h
  refine xret ?_
  exact ⟨nofun, rfl, rfl⟩
end Go.Gp
end
section
set_option linter.unusedVariables false
set_option linter.unusedSimpArgs false
set_option maxRecDepth 4000
namespace Go.Gp
open Go.Vd Go.RowKit Go.Proofs
def k28 : IC := (.seq (.reg [⟨(some 4), (.mov (.c (.int .i64 0))), none⟩]) (.seq (.reg [⟨(some 7), (.mov (.t 0)), none⟩, ⟨(some 8), (.call 35 [(.t 7)]), none⟩, ⟨(some 5), (.mov (.t 8)), none⟩]) (.seq (.reg [⟨(some 9), (.mov (.t 1)), none⟩, ⟨(some 10), (.call 35 [(.t 9)]), none⟩, ⟨(some 6), (.mov (.t 10)), none⟩]) (.seq (.seq (.reg [⟨(some 11), (.mov (.t 5)), none⟩]) (.cond (.t 11) (.seq (.seq (.reg [⟨(some 12), (.mov (.t 6)), none⟩]) (.cond (.t 12) (.seq (.reg [⟨(some 4), (.mov (.c (.int .i64 0))), none⟩]) .ret) .skip)) (.seq (.reg [⟨(some 4), (.mov (.c (.int .i64 (-1)))), none⟩]) .ret)) .skip)) (.seq (.seq (.reg [⟨(some 13), (.mov (.t 6)), none⟩]) (.cond (.t 13) (.seq (.reg [⟨(some 4), (.mov (.c (.int .i64 1))), none⟩]) .ret) .skip)) (.seq (.seq (.reg [⟨(some 14), (.mov (.t 0)), none⟩, ⟨(some 15), (.mov (.t 1)), none⟩, ⟨(some 16), (.bin .lss (.t 14) (.t 15)), none⟩]) (.cond (.t 16) (.seq (.reg [⟨(some 4), (.mov (.c (.int .i64 (-1)))), none⟩]) .ret) .skip)) (.seq (.seq (.reg [⟨(some 17), (.mov (.t 0)), none⟩, ⟨(some 18), (.mov (.t 1)), none⟩, ⟨(some 19), (.bin .gtr (.t 17) (.t 18)), none⟩]) (.cond (.t 19) (.seq (.reg [⟨(some 4), (.mov (.c (.int .i64 1))), none⟩]) .ret) .skip)) (.seq (.reg [⟨(some 4), (.mov (.c (.int .i64 0))), none⟩]) .ret))))))))
theorem k28_cf : cfunc Tryd.prog Tryd.f28 = some ⟨20, k28, [(.tmp 4)]⟩ := by kernel_rfl
theorem sat_cmp_Compare_int64 (N : Nat) (a0 : Int) (a1 : Int) (r : Int) (h : cmp_Compare_int64 N a0 a1 = some r) : Sat Tryd.prog 28 noRows [.int .i64 a0, .int .i64 a1] (.int .i64 r) noRows := by
  refine xsat mixed Tryd.func28 k28_cf (rs := [.int .i64 r]) rfl rfl ?_
  refine xseq ?_
  refine xreg ?_
  refine wpp rfl rfl ?_
  refine xseq ?_
  refine xreg ?_
  refine wpp rfl rfl ?_
  obtain ⟨x8, hx8, h⟩ := bindS h
  refine woo rfl (ocal (sat_cmp_isNaN_int64 N _ _ hx8) rfl (.cons sub_rfl .nil) rfl rfl rfl) ?_
  refine wpp rfl rfl ?_
  refine xseq ?_
  refine xreg ?_
  refine wpp rfl rfl ?_
  obtain ⟨x10, hx10, h⟩ := bindS h
  refine woo rfl (ocal (sat_cmp_isNaN_int64 N _ _ hx10) rfl (.cons sub_rfl .nil) rfl rfl rfl) ?_
  refine wpp rfl rfl ?_
  refine xseq ?_
  refine xseq ?_
  refine xreg ?_
  refine wpp rfl rfl ?_
  rcases bifS h with ⟨c1, h⟩ | ⟨c1, h⟩
  · refine xcT rfl c1 ?_
    refine xseq ?_
    refine xseq ?_
    refine xreg ?_
    refine wpp rfl rfl ?_
    rcases bifS h with ⟨c2, h⟩ | ⟨c2, h⟩
    · refine xcT rfl c2 ?_
      refine xseq ?_
      refine xreg ?_
      refine wpp rfl rfl ?_
      obtain rfl := someS h
      refine xret ?_
      exact ⟨nofun, rfl, rfl⟩
    · refine xcF rfl c2 ?_
      refine xskip ?_
      refine xseq ?_
      refine xreg ?_
      refine wpp rfl rfl ?_
      obtain rfl := someS h
      refine xret ?_
      exact ⟨nofun, rfl, rfl⟩
  · refine xcF rfl c1 ?_
    refine xskip ?_
    refine xseq ?_
    refine xseq ?_
    refine xreg ?_
    refine wpp rfl rfl ?_
    rcases bifS h with ⟨c3, h⟩ | ⟨c3, h⟩
    · refine xcT rfl c3 ?_
      refine xseq ?_
      refine xreg ?_
      refine wpp rfl rfl ?_
      obtain rfl := someS h
      refine xret ?_
      exact ⟨nofun, rfl, rfl⟩
    · refine xcF rfl c3 ?_
      refine xskip ?_
      refine xseq ?_
      refine xseq ?_
      refine xreg ?_
      refine wpp rfl rfl ?_
      refine wpp rfl rfl ?_
      refine wpp rfl rfl ?_
      rcases bifS h with ⟨c4, h⟩ | ⟨c4, h⟩
      · refine xcT rfl c4 ?_
        refine xseq ?_
        refine xreg ?_
        refine wpp rfl rfl ?_
        obtain rfl := someS h
        refine xret ?_
        exact ⟨nofun, rfl, rfl⟩
      · refine xcF rfl c4 ?_
        refine xskip ?_
        refine xseq ?_
        refine xseq ?_
        refine xreg ?_
        refine wpp rfl rfl ?_
        refine wpp rfl rfl ?_
        refine wpp rfl rfl ?_
        rcases bifS h with ⟨c5, h⟩ | ⟨c5, h⟩
        · refine xcT rfl c5 ?_
          refine xseq ?_
          refine xreg ?_
          refine wpp rfl rfl ?_
          obtain rfl := someS h
          refine xret ?_
          exact ⟨nofun, rfl, rfl⟩
        · refine xcF rfl c5 ?_
          refine xskip ?_
          refine xseq ?_
          refine xreg ?_
          refine wpp rfl rfl ?_
          obtain rfl := someS h
          refine xret ?_
          exact ⟨nofun, rfl, rfl⟩
end Go.Gp
end
section
set_option linter.unusedVariables false
set_option linter.unusedSimpArgs false
set_option maxRecDepth 4000
namespace Go.Gp
open Go.Vd Go.RowKit Go.Proofs
def k36 : IC := (.seq (.reg [⟨(some 2), (.mov (.c (.bool false))), none⟩]) (.seq (.reg [⟨(some 3), (.mov (.t 0)), none⟩, ⟨(some 4), (.mov (.t 0)), none⟩, ⟨(some 5), (.bin .neq (.t 3) (.t 4)), none⟩, ⟨(some 2), (.mov (.t 5)), none⟩]) .ret))
theorem k36_cf : cfunc Tryd.prog Tryd.f36 = some ⟨6, k36, [(.tmp 2)]⟩ := by kernel_rfl
theorem sat_cmp_isNaN_int (N : Nat) (a0 : Int) (r : Bool) (h : cmp_isNaN_int N a0 = some r) : Sat Tryd.prog 36 noRows [.int .i64 a0] (.bool r) noRows := by
  refine xsat mixed Tryd.func36 k36_cf (rs := [.bool r]) rfl rfl ?_
  refine xseq ?_
  refine xreg ?_
  refine wpp rfl rfl ?_
  refine xseq ?_
  refine xreg ?_
  refine wpp rfl rfl ?_
  refine wpp rfl rfl ?_
  refine wpp rfl rfl ?_
  refine wpp rfl rfl ?_
  obtain rfl := someS h
  refine xret ?_
  exact ⟨nofun, rfl, rfl⟩
end Go.Gp
end
section
set_option linter.unusedVariables false
set_option linter.unusedSimpArgs false
set_option maxRecDepth 4000
namespace Go.Gp
open Go.Vd Go.RowKit Go.Proofs
def k29 : IC := (.seq (.reg [⟨(some 4), (.mov (.c (.int .i64 0))), none⟩]) (.seq (.reg [⟨(some 7), (.mov (.t 0)), none⟩, ⟨(some 8), (.call 36 [(.t 7)]), none⟩, ⟨(some 5), (.mov (.t 8)), none⟩]) (.seq (.reg [⟨(some 9), (.mov (.t 1)), none⟩, ⟨(some 10), (.call 36 [(.t 9)]), none⟩, ⟨(some 6), (.mov (.t 10)), none⟩]) (.seq (.seq (.reg [⟨(some 11), (.mov (.t 5)), none⟩]) (.cond (.t 11) (.seq (.seq (.reg [⟨(some 12), (.mov (.t 6)), none⟩]) (.cond (.t 12) (.seq (.reg [⟨(some 4), (.mov (.c (.int .i64 0))), none⟩]) .ret) .skip)) (.seq (.reg [⟨(some 4), (.mov (.c (.int .i64 (-1)))), none⟩]) .ret)) .skip)) (.seq (.seq (.reg [⟨(some 13), (.mov (.t 6)), none⟩]) (.cond (.t 13) (.seq (.reg [⟨(some 4), (.mov (.c (.int .i64 1))), none⟩]) .ret) .skip)) (.seq (.seq (.reg [⟨(some 14), (.mov (.t 0)), none⟩, ⟨(some 15), (.mov (.t 1)), none⟩, ⟨(some 16), (.bin .lss (.t 14) (.t 15)), none⟩]) (.cond (.t 16) (.seq (.reg [⟨(some 4), (.mov (.c (.int .i64 (-1)))), none⟩]) .ret) .skip)) (.seq (.seq (.reg [⟨(some 17), (.mov (.t 0)), none⟩, ⟨(some 18), (.mov (.t 1)), none⟩, ⟨(some 19), (.bin .gtr (.t 17) (.t 18)), none⟩]) (.cond (.t 19) (.seq (.reg [⟨(some 4), (.mov (.c (.int .i64 1))), none⟩]) .ret) .skip)) (.seq (.reg [⟨(some 4), (.mov (.c (.int .i64 0))), none⟩]) .ret))))))))
theorem k29_cf : cfunc Tryd.prog Tryd.f29 = some ⟨20, k29, [(.tmp 4)]⟩ := by kernel_rfl
theorem sat_cmp_Compare_int (N : Nat) (a0 : Int) (a1 : Int) (r : Int) (h : cmp_Compare_int N a0 a1 = some r) : Sat Tryd.prog 29 noRows [.int .i64 a0, .int .i64 a1] (.int .i64 r) noRows := by
  refine xsat mixed Tryd.func29 k29_cf (rs := [.int .i64 r]) rfl rfl ?_
  refine xseq ?_
  refine xreg ?_
  refine wpp rfl rfl ?_
  refine xseq ?_
  refine xreg ?_
  refine wpp rfl rfl ?_
  obtain ⟨x8, hx8, h⟩ := bindS h
  refine woo rfl (ocal (sat_cmp_isNaN_int N _ _ hx8) rfl (.cons sub_rfl .nil) rfl rfl rfl) ?_
  refine wpp rfl rfl ?_
  refine xseq ?_
  refine xreg ?_
  refine wpp rfl rfl ?_
  obtain ⟨x10, hx10, h⟩ := bindS h
  refine woo rfl (ocal (sat_cmp_isNaN_int N _ _ hx10) rfl (.cons sub_rfl .nil) rfl rfl rfl) ?_
  refine wpp rfl rfl ?_
  refine xseq ?_
  refine xseq ?_
  refine xreg ?_
  refine wpp rfl rfl ?_
  rcases bifS h with ⟨c1, h⟩ | ⟨c1, h⟩
  · refine xcT rfl c1 ?_
    refine xseq ?_
    refine xseq ?_
    refine xreg ?_
    refine wpp rfl rfl ?_
    rcases bifS h with ⟨c2, h⟩ | ⟨c2, h⟩
    · refine xcT rfl c2 ?_
      refine xseq ?_
      refine xreg ?_
      refine wpp rfl rfl ?_
      obtain rfl := someS h
      refine xret ?_
      exact ⟨nofun, rfl, rfl⟩
    · refine xcF rfl c2 ?_
      refine xskip ?_
      refine xseq ?_
      refine xreg ?_
      refine wpp rfl rfl ?_
      obtain rfl := someS h
      refine xret ?_
      exact ⟨nofun, rfl, rfl⟩
  · refine xcF rfl c1 ?_
    refine xskip ?_
    refine xseq ?_
    refine xseq ?_
    refine xreg ?_
    refine wpp rfl rfl ?_
    rcases bifS h with ⟨c3, h⟩ | ⟨c3, h⟩
    · refine xcT rfl c3 ?_
      refine xseq ?_
      refine xreg ?_
      refine wpp rfl rfl ?_
      obtain rfl := someS h
      refine xret ?_
      exact ⟨nofun, rfl, rfl⟩
    · refine xcF rfl c3 ?_
      refine xskip ?_
      refine xseq ?_
      refine xseq ?_
      refine xreg ?_
      refine wpp rfl rfl ?_
      refine wpp rfl rfl ?_
      refine wpp rfl rfl ?_
      rcases bifS h with ⟨c4, h⟩ | ⟨c4, h⟩
      · refine xcT rfl c4 ?_
        refine xseq ?_
        refine xreg ?_
        refine wpp rfl rfl ?_
        obtain rfl := someS h
        refine xret ?_
        exact ⟨nofun, rfl, rfl⟩
      · refine xcF rfl c4 ?_
        refine xskip ?_
        refine xseq ?_
        refine xseq ?_
        refine xreg ?_
        refine wpp rfl rfl ?_
        refine wpp rfl rfl ?_
        refine wpp rfl rfl ?_
        rcases bifS h with ⟨c5, h⟩ | ⟨c5, h⟩
        · refine xcT rfl c5 ?_
          refine xseq ?_
          refine xreg ?_
          refine wpp rfl rfl ?_
          obtain rfl := someS h
          refine xret ?_
          exact ⟨nofun, rfl, rfl⟩
        · refine xcF rfl c5 ?_
          refine xskip ?_
          refine xseq ?_
          refine xreg ?_
          refine wpp rfl rfl ?_
          obtain rfl := someS h
          refine xret ?_
          exact ⟨nofun, rfl, rfl⟩
end Go.Gp
end
section
set_option linter.unusedVariables false
set_option linter.unusedSimpArgs false
set_option maxRecDepth 4000
namespace Go.Gp
open Go.Vd Go.RowKit Go.Proofs
def k27_l8 : IC := (.seq (.reg [⟨(some 9), (.bin .lss (.t 8) (.t 7)), none⟩]) (.seq (.cond (.t 9) .skip (.exit 0)) (.seq (.block 1 (.seq (.reg [⟨(some 10), (.ixp 1 (.t 6) (.t 8)), none⟩, ⟨(some 11), (.load 1 false (.t 10)), none⟩, ⟨(some 5), (.mov (.t 11)), none⟩]) (.seq (.reg [⟨(some 12), (.mov (.t 5)), none⟩, ⟨(some 13), (.mov (.t 3)), none⟩, ⟨(some 14), (.bin .neq (.t 12) (.t 13)), none⟩]) (.cond (.t 14) (.seq (.reg [⟨(some 15), (.mov (.t 5)), none⟩, ⟨(some 2), (.mov (.t 15)), none⟩]) .ret) .skip)))) (.reg [⟨(some 16), (.bin .add (.t 8) (.c (.int .i64 1))), none⟩, ⟨(some 8), (.mov (.t 16)), none⟩]))))
def k27 : IC := (.seq (.reg [⟨(some 2), (.mov (.c (.int .i64 0))), none⟩]) (.seq (.reg [⟨(some 3), (.mov (.c (.int .i64 0))), none⟩]) (.seq (.seq (.reg [⟨(some 6), (.mov (.t 0)), none⟩, ⟨(some 7), (.len false (.t 6)), none⟩, ⟨(some 8), (.mov (.c (.int .i64 0))), none⟩]) (.block 0 (.loop k27_l8))) (.seq (.reg [⟨(some 17), (.mov (.t 3)), none⟩, ⟨(some 2), (.mov (.t 17)), none⟩]) .ret))))
theorem k27_cf : cfunc Tryd.prog Tryd.f27 = some ⟨18, k27, [(.tmp 2)]⟩ := by kernel_rfl
theorem w_cmp_Or_int_l8 (N : Nat) (a0 : List Int) : ∀ (n : Nat) (x : Int) (y : Unit ⊕ Int), cmp_Or_int_l8 N a0 n x = some y → WX Tryd.prog (fun _ => false) (.loop k27_l8) ((fun (x : Int) => ⟨ofL [(3, .int .i64 0), (6, .sl 1 (List.map ei a0)), (7, .int .i64 (a0.length : Int)), (8, .int .i64 x)], ofL []⟩) x) ((Sum.elim (fun y e s => e = .exit 0 ∧ s = ⟨ofL [(3, .int .i64 0)], ofL []⟩) (fun y e s => e = .ret ∧ s = ⟨ofL [(2, .int .i64 y)], ofL []⟩) : (Unit ⊕ Int) → Xt → St → Prop) y) := by
  refine xloop (fun (x : Int) => ⟨ofL [(3, .int .i64 0), (6, .sl 1 (List.map ei a0)), (7, .int .i64 (a0.length : Int)), (8, .int .i64 x)], ofL []⟩) _ (cmp_Or_int_l8 N a0) (cmp_Or_int_l8_b N a0) (fun _ => rfl) (fun _ _ => rfl) ?_
  rintro rec v8l8 y h
  refine xseq ?_
  refine xreg ?_
  refine wpp rfl rfl ?_
  refine xseq ?_
  rcases bifS h with ⟨c1, h⟩ | ⟨c1, h⟩
  · refine xcT rfl c1 ?_
    refine xskip ?_
    refine xseq ?_
    refine xblk ?_
    refine xseq ?_
    refine xreg ?_
    obtain ⟨x10, hx10, h⟩ := bindS h
    refine wpp rfl (p_ixs (cs := [.int .i64 x10]) hx10 rfl rfl rfl) ?_
    refine wpp rfl rfl ?_
    refine wpp rfl rfl ?_
    refine xseq ?_
    refine xreg ?_
    refine wpp rfl rfl ?_
    refine wpp rfl rfl ?_
    refine wpp rfl rfl ?_
    rcases bifS h with ⟨c2, h⟩ | ⟨c2, h⟩
    · refine xcT rfl c2 ?_
      refine xseq ?_
      refine xreg ?_
      refine wpp rfl rfl ?_
      refine wpp rfl rfl ?_
      obtain rfl := someS h
      exact xretn (st1 := ⟨ofL [(2, .int .i64 x10)], ofL []⟩) (canon0 ⟨rfl, trivial⟩ trivial rfl rfl) ⟨rfl, rfl⟩
    · refine xcF rfl c2 ?_
      refine xskip ?_
      refine xreg ?_
      refine wpp (p := .int .i64 (w64 (v8l8 + (1 : Int)))) rfl rfl ?_
      refine wpp rfl rfl ?_
      exact ⟨(w64 (v8l8 + (1 : Int))), (canon0 ⟨rfl, rfl, rfl, rfl, trivial⟩ trivial rfl rfl), h⟩
  · refine xcF rfl c1 ?_
    obtain rfl := someS h
    exact xexitn (st1 := ⟨ofL [(3, .int .i64 0)], ofL []⟩) (canon0 ⟨rfl, trivial⟩ trivial rfl rfl) ⟨rfl, rfl⟩
theorem sat_cmp_Or_int (N : Nat) (a0 : List Int) (r : Int) (h : cmp_Or_int N a0 = some r) : Sat Tryd.prog 27 noRows [.sl 1 (List.map ei a0)] (.int .i64 r) noRows := by
  refine xsat mixed Tryd.func27 k27_cf (rs := [.int .i64 r]) rfl rfl ?_
  refine xseq ?_
  refine xreg ?_
  refine wpp rfl rfl ?_
  refine xseq ?_
  refine xreg ?_
  refine wpp rfl rfl ?_
  refine xseq ?_
  refine xseq ?_
  refine xreg ?_
  refine wpp rfl rfl ?_
  refine wpp rfl (p_lens rfl) ?_
  refine wpp rfl rfl ?_
  refine xblk ?_
  obtain ⟨y3, hy3, h⟩ := bindS h
  refine xloopU (st1 := ⟨ofL [(3, .int .i64 0), (6, .sl 1 (List.map ei a0)), (7, .int .i64 (a0.length : Int)), (8, .int .i64 0)], ofL []⟩) (canon0 ⟨rfl, rfl, rfl, rfl, trivial⟩ trivial rfl rfl) (w_cmp_Or_int_l8 N a0 N _ _ hy3) ?_
  clear hy3
  rcases y3 with y3 | y3
  · rintro e s ⟨rfl, rfl⟩
    refine xseq ?_
    refine xreg ?_
    refine wpp rfl rfl ?_
    refine wpp rfl rfl ?_
    obtain rfl := someS h
    refine xret ?_
    exact ⟨nofun, rfl, rfl⟩
  · rintro e s ⟨rfl, rfl⟩
    obtain rfl := someS h
    exact ⟨nofun, rfl, rfl⟩
end Go.Gp
end
section
set_option linter.unusedVariables false
set_option linter.unusedSimpArgs false
set_option maxRecDepth 4000
namespace Go.Gp
open Go.Vd Go.RowKit Go.Proofs
def k14 : IC := (.seq (.reg [⟨(some 2), (.box 23 (.t 0)), none⟩, ⟨(some 3), (.box 23 (.t 1)), none⟩, ⟨(some 4), (.mov (.c (.int .i64 0))), none⟩]) (.seq (.regd 18 [⟨(some 5), (.fda 0 (.t 2)), none⟩, ⟨(some 6), (.load 1 false (.t 5)), none⟩, ⟨(some 7), (.fda 0 (.t 3)), none⟩, ⟨(some 8), (.load 1 false (.t 7)), none⟩, ⟨(some 9), (.call 28 [(.t 6), (.t 8)]), none⟩, ⟨(some 10), (.fda 1 (.t 2)), none⟩, ⟨(some 11), (.load 1 false (.t 10)), none⟩, ⟨(some 12), (.fda 1 (.t 3)), none⟩, ⟨(some 13), (.load 1 false (.t 12)), none⟩, ⟨(some 14), (.call 29 [(.t 11), (.t 13)]), none⟩, ⟨(some 15), (.fda 2 (.t 2)), none⟩, ⟨(some 16), (.load 1 false (.t 15)), none⟩, ⟨(some 17), (.fda 2 (.t 3)), none⟩, ⟨(some 18), (.load 1 false (.t 17)), none⟩, ⟨(some 19), (.call 29 [(.t 16), (.t 18)]), none⟩, ⟨(some 20), (.bsl 1 [(.t 9), (.t 14), (.t 19)]), none⟩, ⟨(some 21), (.call 27 [(.t 20)]), none⟩, ⟨(some 4), (.mov (.t 21)), none⟩]) .ret))
theorem k14_cf : cfunc Tryd.prog Tryd.f14 = some ⟨22, k14, [(.tmp 4)]⟩ := by kernel_rfl
theorem sat_csn_Cmp (N : Nat) (a0 : api_CSN) (a1 : api_CSN) (r : Int) (h : csn_Cmp N a0 a1 = some r) : Sat Tryd.prog 14 noRows [e_api_CSN a0, e_api_CSN a1] (.int .i64 r) noRows := by
  refine xsat mixed Tryd.func14 k14_cf (rs := [.int .i64 r]) rfl rfl ?_
  refine xseq ?_
  refine xreg ?_
  refine woo rfl (obox 22402 rfl rfl rfl rfl rfl) ?_
  refine woo rfl (obox 22403 rfl rfl rfl rfl rfl) ?_
  refine wpp rfl rfl ?_
  refine xseq ?_
  refine xregd ?_
  refine wdp rfl rfl ?_
  refine wdp rfl rfl ?_
  refine wdp rfl rfl ?_
  refine wdp rfl rfl ?_
  obtain ⟨x9, hx9, h⟩ := bindS h
  refine wdN rfl (pcal (sat_cmp_Compare_int64 N _ _ _ hx9) rfl (.cons sub_rfl (.cons sub_rfl .nil)) rfl rfl rfl) no_fresh ?_
  refine wdp rfl rfl ?_
  refine wdp rfl rfl ?_
  refine wdp rfl rfl ?_
  refine wdp rfl rfl ?_
  obtain ⟨x14, hx14, h⟩ := bindS h
  refine wdN rfl (pcal (sat_cmp_Compare_int N _ _ _ hx14) rfl (.cons sub_rfl (.cons sub_rfl .nil)) rfl rfl rfl) no_fresh ?_
  refine wdp rfl rfl ?_
  refine wdp rfl rfl ?_
  refine wdp rfl rfl ?_
  refine wdp rfl rfl ?_
  obtain ⟨x19, hx19, h⟩ := bindS h
  refine wdN rfl (pcal (sat_cmp_Compare_int N _ _ _ hx19) rfl (.cons sub_rfl (.cons sub_rfl .nil)) rfl rfl rfl) no_fresh ?_
  refine wdN rfl (.bsl _ 22420 rfl (okEl_spec rfl) rfl) (fresh1 rfl) ?_
  obtain ⟨x21, hx21, h⟩ := bindS h
  refine wdN rfl (pcal (sat_cmp_Or_int N _ _ hx21) rfl (.cons (bor_row rfl (full_row (f := ei) (l := [x9, x14, x19]))) .nil) rfl rfl rfl) no_fresh ?_
  refine wdp rfl rfl ?_
  obtain rfl := someS h
  refine xret ?_
  exact ⟨nofun, rfl, rfl⟩
end Go.Gp
end
section
set_option linter.unusedVariables false
set_option linter.unusedSimpArgs false
set_option maxRecDepth 4000
namespace Go.Gp
open Go.Vd Go.RowKit Go.Proofs
def k18o0 : IC := (.seq (.reg [⟨(some 3), (.box 23 (.t 1)), none⟩]) (.seq (.regd 11 [⟨(some 5), (.fda 0 (.t 3)), none⟩, ⟨(some 6), (.load 1 false (.t 5)), none⟩, ⟨(some 7), (.fda 1 (.t 3)), none⟩, ⟨(some 8), (.load 1 false (.t 7)), none⟩, ⟨(some 9), (.mov (.t 0)), none⟩, ⟨(some 10), (.nck (.t 9)), none⟩, ⟨(some 11), (.fda 0 (.t 10)), none⟩, ⟨(some 12), (.fda 2 (.t 11)), none⟩, ⟨(some 13), (.load 1 false (.t 12)), none⟩, ⟨(some 14), (.build [(.int .i64 0), (.int .i64 0), (.int .i64 0)] [(0, (1, (.t 6))), (1, (1, (.t 8))), (2, (1, (.t 13)))]), none⟩, ⟨(some 4), (.box 23 (.c (.agg [(.int .i64 0), (.int .i64 0), (.int .i64 0)]))), none⟩, ⟨none, (.store 3 (.t 4) (.t 14)), none⟩]) (.seq (.regd 11 [⟨(some 15), (.load 3 true (.t 3)), none⟩, ⟨(some 16), (.call 11 [(.t 15)]), none⟩, ⟨(some 17), (.mov (.t 16)), none⟩, ⟨(some 18), (.load 3 true (.t 4)), (some (17, true))⟩, ⟨(some 19), (.mov (.t 0)), (some (17, true))⟩, ⟨(some 20), (.nck (.t 19)), (some (17, true))⟩, ⟨(some 21), (.fda 0 (.t 20)), (some (17, true))⟩, ⟨(some 22), (.load 3 true (.t 21)), (some (17, true))⟩, ⟨(some 23), (.call 14 [(.t 18), (.t 22)]), (some (17, true))⟩, ⟨(some 24), (.bin .gtr (.t 23) (.c (.int .i64 0))), (some (17, true))⟩, ⟨(some 25), (.pick (.t 17) (.t 24) (.c (.bool false))), none⟩]) (.cond (.t 25) (.reg [⟨(some 26), (.mov (.t 0)), none⟩, ⟨(some 27), (.load 3 true (.t 4)), none⟩, ⟨(some 28), (.nck (.t 26)), none⟩, ⟨(some 29), (.fda 0 (.t 28)), none⟩, ⟨none, (.store 3 (.t 29) (.t 27)), none⟩]) .skip))))
theorem k18o0_cf : cfunc Tryd.prog Tryd.f18 = some ⟨30, k18o0, []⟩ := by kernel_rfl
theorem sat_csn_Gen_See_o0 (N : Nat) (a0 : csn_Gen) (a1 : api_CSN) (r : csn_Gen) (h : csn_Gen_See_o0 N a0 a1 = some r) : Sat Tryd.prog 18 (ofL [(700640, ⟨3, false, [e_csn_Gen a0]⟩)]) [.ptr 700640 0 0, e_api_CSN a1] (.tup []) (ofL [(700640, ⟨3, false, [e_csn_Gen r]⟩)]) := by
  refine xsatO [(700640, ⟨3, false, [e_csn_Gen a0]⟩)] [(700640, ⟨3, false, [e_csn_Gen r]⟩)] mixed Tryd.func18 k18o0_cf (rs := []) rfl rfl rfl ?_
  refine xseq ?_
  refine xreg ?_
  refine woo rfl (obox 28803 rfl rfl rfl rfl rfl) ?_
  refine xseq ?_
  refine xregd ?_
  refine wdp rfl rfl ?_
  refine wdp rfl rfl ?_
  refine wdp rfl rfl ?_
  refine wdp rfl rfl ?_
  refine wdp rfl rfl ?_
  refine wdp rfl rfl ?_
  refine wdp rfl rfl ?_
  refine wdp rfl rfl ?_
  refine wdp rfl rfl ?_
  refine wdp (p := .agg [.int .i64 a1.Time, .int .i64 a1.Seq, .int .i64 a0.last.Rep]) rfl rfl ?_
  refine wdN rfl (.box _ 28804 rfl (Nat.le_of_ble_eq_true rfl) (by decide) rfl) (fresh1 rfl) ?_
  refine wstb (e' := .agg [.int .i64 a1.Time, .int .i64 a1.Seq, .int .i64 a0.last.Rep]) rfl rfl rfl rfl rfl rfl rfl rfl nofun rfl ?_
  obtain ⟨g1, hg1, h⟩ := bindS h
  refine xseg ⟨ofL [(0, .ptr 700640 0 0), (4, .ptr 28804 0 0), (25, .bool g1)], ofL [(28804, ⟨3, false, [.agg [.int .i64 a1.Time, .int .i64 a1.Seq, .int .i64 a0.last.Rep]]⟩), (700640, ⟨3, false, [e_csn_Gen a0]⟩)]⟩ ?_ ?_
  · have h := hg1
    refine xregd ?_
    refine wdp (p := e_api_CSN a1) rfl rfl ?_
    obtain ⟨x16, hx16, h⟩ := bindS h
    refine wdN rfl (pcal (sat_csn_Is N _ _ hx16) rfl (.cons sub_rfl .nil) rfl rfl rfl) no_fresh ?_
    refine wdp rfl rfl ?_
    rcases bifS h with ⟨c2, h⟩ | ⟨c2, h⟩
    · skip
      refine wdp (p := .agg [.int .i64 a1.Time, .int .i64 a1.Seq, .int .i64 a0.last.Rep]) (gy rfl c2) rfl ?_
      refine wdp (gy rfl c2) rfl ?_
      refine wdp (gy rfl c2) rfl ?_
      refine wdp (gy rfl c2) rfl ?_
      refine wdp (p := .agg [.int .i64 a0.last.Time, .int .i64 a0.last.Seq, .int .i64 a0.last.Rep]) (gy rfl c2) rfl ?_
      obtain ⟨x23, hx23, h⟩ := bindS h
      refine wdN (gy rfl c2) (pcal (sat_csn_Cmp N _ _ _ hx23) rfl (.cons sub_rfl (.cons sub_rfl .nil)) rfl rfl rfl) no_fresh ?_
      refine wdp (gy rfl c2) rfl ?_
      refine wdp rfl (p_pick1 c2 rfl rfl) ?_
      obtain rfl := someS h
      exact (canonT [700640] rfl ⟨rfl, rfl, rfl, trivial⟩ ⟨rfl, rfl, trivial⟩ rfl rfl)
    · skip
      refine wdn (gn rfl c2) ?_
      refine wdn (gn rfl c2) ?_
      refine wdn (gn rfl c2) ?_
      refine wdn (gn rfl c2) ?_
      refine wdn (gn rfl c2) ?_
      refine wdn (gn rfl c2) ?_
      refine wdn (gn rfl c2) ?_
      refine wdp rfl (p_pick0 c2 rfl rfl) ?_
      obtain rfl := someS h
      exact (canonT [700640] rfl ⟨rfl, rfl, rfl, trivial⟩ ⟨rfl, rfl, trivial⟩ rfl rfl)
  · clear hg1
    rcases bifS h with ⟨c3, h⟩ | ⟨c3, h⟩
    · refine xcT rfl c3 ?_
      refine xreg ?_
      refine wpp rfl rfl ?_
      refine wpp (p := .agg [.int .i64 a1.Time, .int .i64 a1.Seq, .int .i64 a0.last.Rep]) rfl rfl ?_
      refine wpp rfl rfl ?_
      refine wpp rfl rfl ?_
      refine wstb (e' := .agg [.int .i64 a1.Time, .int .i64 a1.Seq, .int .i64 a0.last.Rep]) rfl rfl rfl rfl rfl rfl rfl rfl nofun rfl ?_
      obtain rfl := someS h
      exact ⟨nofun, rfl, rfl, ⟨rfl, trivial⟩, rfl⟩
    · refine xcF rfl c3 ?_
      refine xskip ?_
      obtain rfl := someS h
      exact ⟨nofun, rfl, rfl, ⟨rfl, trivial⟩, rfl⟩
end Go.Gp
end
section
set_option linter.unusedVariables false
set_option linter.unusedSimpArgs false
set_option maxRecDepth 4000
namespace Go.Gp
open Go.Vd Go.RowKit Go.Proofs
def k39_l16 : IC := (.seq (.seq (.reg [⟨(some 22), (.mov (.t 7)), none⟩, ⟨(some 23), (.mov (.t 1)), none⟩, ⟨(some 24), (.bin .sub (.t 23) (.c (.int .i64 1))), none⟩, ⟨(some 25), (.bin .lss (.t 22) (.t 24)), none⟩]) (.cond (.t 25) .skip (.exit 0))) (.seq (.block 1 (.seq (.reg [⟨(some 29), (.mov (.t 0)), none⟩, ⟨(some 30), (.call 52 [(.t 29)]), none⟩, ⟨(some 28), (.mov (.t 30)), none⟩, ⟨(some 31), (.ext 0 (.t 28)), none⟩, ⟨(some 32), (.ext 1 (.t 28)), none⟩, ⟨(some 8), (.mov (.t 31)), none⟩, ⟨(some 9), (.mov (.t 32)), none⟩]) (.seq (.reg [⟨(some 33), (.mov (.t 6)), none⟩, ⟨(some 34), (.mov (.t 7)), none⟩, ⟨(some 35), (.mov (.t 0)), none⟩, ⟨(some 36), (.mov (.t 9)), none⟩, ⟨(some 37), (.slcs (.t 35) none (some (.t 36))), none⟩, ⟨(some 38), (.ixp 1 (.t 33) (.t 34)), none⟩, ⟨none, (.store 1 (.t 38) (.t 37)), none⟩]) (.reg [⟨(some 39), (.mov (.t 0)), none⟩, ⟨(some 40), (.mov (.t 9)), none⟩, ⟨(some 41), (.slcs (.t 39) (some (.t 40)) none), none⟩, ⟨(some 0), (.mov (.t 41)), none⟩])))) (.reg [⟨(some 26), (.mov (.t 7)), none⟩, ⟨(some 27), (.bin .add (.t 26) (.c (.int .i64 1))), none⟩, ⟨(some 7), (.mov (.t 27)), none⟩])))
def k39 : IC := (.seq (.reg [⟨(some 4), (.mov (.c .nl)), none⟩]) (.seq (.reg [⟨(some 10), (.mov (.t 0)), none⟩, ⟨(some 11), (.call 51 [(.t 10)]), none⟩, ⟨(some 5), (.mov (.t 11)), none⟩]) (.seq (.seq (.reg [⟨(some 12), (.mov (.t 1)), none⟩, ⟨(some 13), (.bin .lss (.t 12) (.c (.int .i64 0))), none⟩, ⟨(some 14), (.mov (.t 13)), none⟩, ⟨(some 15), (.mov (.t 1)), (some (14, false))⟩, ⟨(some 16), (.mov (.t 5)), (some (14, false))⟩, ⟨(some 17), (.bin .gtr (.t 15) (.t 16)), (some (14, false))⟩, ⟨(some 18), (.pick (.t 14) (.c (.bool true)) (.t 17)), none⟩]) (.cond (.t 18) (.reg [⟨(some 19), (.mov (.t 5)), none⟩, ⟨(some 1), (.mov (.t 19)), none⟩]) .skip)) (.seq (.reg [⟨(some 20), (.mov (.t 1)), none⟩, ⟨(some 21), (.mks 1 16 (.str []) (.t 20)), none⟩, ⟨(some 6), (.mov (.t 21)), none⟩]) (.seq (.seq (.reg [⟨(some 7), (.mov (.c (.int .i64 0))), none⟩]) (.block 0 (.loop k39_l16))) (.seq (.seq (.reg [⟨(some 42), (.mov (.t 1)), none⟩, ⟨(some 43), (.bin .gtr (.t 42) (.c (.int .i64 0))), none⟩]) (.cond (.t 43) (.reg [⟨(some 44), (.mov (.t 6)), none⟩, ⟨(some 45), (.mov (.t 1)), none⟩, ⟨(some 46), (.bin .sub (.t 45) (.c (.int .i64 1))), none⟩, ⟨(some 47), (.mov (.t 0)), none⟩, ⟨(some 48), (.ixp 1 (.t 44) (.t 46)), none⟩, ⟨none, (.store 1 (.t 48) (.t 47)), none⟩]) .skip)) (.seq (.reg [⟨(some 49), (.mov (.t 6)), none⟩, ⟨(some 4), (.mov (.t 49)), none⟩]) .ret)))))))
theorem k39_cf : cfunc Tryd.prog Tryd.f39 = some ⟨50, k39, [(.tmp 4)]⟩ := by kernel_rfl
theorem sat_strings_explode (N : Nat) (a0 : List UInt8) (a1 : Int) (r : List (List UInt8)) (h : strings_explode N a0 a1 = some r) : Sat Tryd.prog 39 noRows [.str a0, .int .i64 a1] (.sl 1 (List.map PV.str r)) noRows := by
  refine xsat mixed Tryd.func39 k39_cf (rs := [.sl 1 (List.map PV.str r)]) rfl rfl ?_
  refine xseq ?_
  refine xreg ?_
  refine wpp rfl rfl ?_
  refine xseq ?_
  refine xreg ?_
  refine wpp rfl rfl ?_
  cases h
end Go.Gp
end
section
namespace Go.Proofs
open Go.Shelf
def Tryd.lays215_ren : Go.Shelf.Ren := ⟨fun | 215 => 36 | n => n, fun | 3 => 3 | 4 => 4 | n => n, fun | n => n⟩
theorem Tryd.lays215 : Go.Proofs.Lays.n215 Tryd.prog Tryd.lays215_ren := {
  mixed := by kernel_rfl
  f215 := Tryd.func36.trans (congrArg some (by kernel_rfl))
  t3 := Tryd.underlying3
  a3 := Tryd.isAgg3
  z3 := Tryd.sizeOf3
  v3 := Tryd.zeroValue3
  t4 := Tryd.underlying4
  a4 := Tryd.isAgg4
  z4 := Tryd.sizeOf4
  v4 := Tryd.zeroValue4 }
open Go.RowKit in
theorem Tryd.cmp_isNaN_int (x : Int) (w : World) :
    Calls Tryd.prog 36 #[.int .i64 x] w fun e w' => e = .returned (.bool false) ∧ w' = w := Any.cmp_isNaN_int Tryd.lays215 x w
def Tryd.lays122_ren : Go.Shelf.Ren := ⟨fun | 122 => 29 | 215 => 36 | n => n, fun | 3 => 3 | 4 => 4 | n => n, fun | n => n⟩
theorem Tryd.lays122 : Go.Proofs.Lays.n122 Tryd.prog Tryd.lays122_ren := {
  mixed := by kernel_rfl
  f122 := Tryd.func29.trans (congrArg some (by kernel_rfl))
  f215 := Tryd.func36.trans (congrArg some (by kernel_rfl))
  t3 := Tryd.underlying3
  a3 := Tryd.isAgg3
  z3 := Tryd.sizeOf3
  v3 := Tryd.zeroValue3
  t4 := Tryd.underlying4
  a4 := Tryd.isAgg4
  z4 := Tryd.sizeOf4
  v4 := Tryd.zeroValue4 }
open Go.RowKit in
theorem Tryd.cmp_Compare_int (x y : Int) (w : World) :
    Calls Tryd.prog 29 #[.int .i64 x, .int .i64 y] w fun e w' => e = .returned (.int .i64 (Lib.compareInt x y)) ∧ w' = w := Any.cmp_Compare_int Tryd.lays122 x y w
def Tryd.laysM171_ren : Go.Shelf.Ren := ⟨fun | 171 => 31 | 243 => 38 | 246 => 37 | 283 => 47 | 284 => 48 | 285 => 49 | 286 => 50 | 129 => 60 | 317 => 59 | 318 => 61 | 319 => 62 | 320 => 63 | 337 => 69 | 338 => 70 | n => n, fun | 3 => 3 | 9 => 9 | 2 => 2 | 4 => 4 | 171 => 81 | 0 => 0 | 53 => 67 | 37 => 68 | 5 => 5 | 173 => 84 | 212 => 98 | 51 => 99 | 20 => 20 | 213 => 100 | 46 => 77 | 232 => 113 | 233 => 114 | n => n, fun | 17 => 2 | 18 => 6 | 19 => 7 | n => n⟩
theorem Tryd.laysM171 : Go.Proofs.LaysM.n171 Tryd.prog Tryd.laysM171_ren := {
  mixed := by kernel_rfl
  f129 := Tryd.func60.trans (congrArg some (by kernel_rfl))
  f171 := Tryd.func31.trans (congrArg some (by kernel_rfl))
  f243 := Tryd.func38.trans (congrArg some (by kernel_rfl))
  f246 := Tryd.func37.trans (congrArg some (by kernel_rfl))
  f283 := Tryd.func47.trans (congrArg some (by kernel_rfl))
  f284 := Tryd.func48.trans (congrArg some (by kernel_rfl))
  f285 := Tryd.func49.trans (congrArg some (by kernel_rfl))
  f286 := Tryd.func50.trans (congrArg some (by kernel_rfl))
  f317 := Tryd.func59.trans (congrArg some (by kernel_rfl))
  f318 := Tryd.func61.trans (congrArg some (by kernel_rfl))
  f319 := Tryd.func62.trans (congrArg some (by kernel_rfl))
  f320 := Tryd.func63.trans (congrArg some (by kernel_rfl))
  f337 := Tryd.func69.trans (congrArg some (by kernel_rfl))
  f338 := Tryd.func70.trans (congrArg some (by kernel_rfl))
  t0 := Tryd.underlying0
  a0 := Tryd.isAgg0
  z0 := Tryd.sizeOf0
  v0 := Tryd.zeroValue0
  t2 := Tryd.underlying2
  a2 := Tryd.isAgg2
  z2 := Tryd.sizeOf2
  v2 := Tryd.zeroValue2
  t3 := Tryd.underlying3
  a3 := Tryd.isAgg3
  z3 := Tryd.sizeOf3
  v3 := Tryd.zeroValue3
  t4 := Tryd.underlying4
  a4 := Tryd.isAgg4
  z4 := Tryd.sizeOf4
  v4 := Tryd.zeroValue4
  t5 := Tryd.underlying5
  a5 := Tryd.isAgg5
  z5 := Tryd.sizeOf5
  v5 := Tryd.zeroValue5
  t9 := Tryd.underlying9
  a9 := Tryd.isAgg9
  z9 := Tryd.sizeOf9
  v9 := Tryd.zeroValue9
  t20 := Tryd.underlying20
  a20 := Tryd.isAgg20
  z20 := Tryd.sizeOf20
  v20 := Tryd.zeroValue20
  t37 := Tryd.underlying68
  a37 := Tryd.isAgg68
  z37 := Tryd.sizeOf68
  v37 := Tryd.zeroValue68
  t46 := Tryd.underlying77
  a46 := Tryd.isAgg77
  z46 := Tryd.sizeOf77
  v46 := Tryd.zeroValue77
  t51 := Tryd.underlying99
  a51 := Tryd.isAgg99
  z51 := Tryd.sizeOf99
  v51 := Tryd.zeroValue99
  t53 := Tryd.underlying67
  a53 := Tryd.isAgg67
  z53 := Tryd.sizeOf67
  v53 := Tryd.zeroValue67
  t171 := Tryd.underlying81
  a171 := Tryd.isAgg81
  z171 := Tryd.sizeOf81
  v171 := Tryd.zeroValue81
  t173 := Tryd.underlying84
  a173 := Tryd.isAgg84
  z173 := Tryd.sizeOf84
  v173 := Tryd.zeroValue84
  t212 := Tryd.underlying98
  a212 := Tryd.isAgg98
  z212 := Tryd.sizeOf98
  v212 := Tryd.zeroValue98
  t213 := Tryd.underlying100
  a213 := Tryd.isAgg100
  z213 := Tryd.sizeOf100
  t232 := Tryd.underlying113
  a232 := Tryd.isAgg113
  z232 := Tryd.sizeOf113
  v232 := Tryd.zeroValue113
  t233 := Tryd.underlying114
  a233 := Tryd.isAgg114
  z233 := Tryd.sizeOf114
  v233 := Tryd.zeroValue114
  g17 := by kernel_rfl
  g18 := by kernel_rfl
  g19 := by kernel_rfl
  i0 := by kernel_rfl
  i2 := by kernel_rfl
  i3 := by kernel_rfl
  i4 := by kernel_rfl
  i5 := by kernel_rfl
  i9 := by kernel_rfl
  i20 := by kernel_rfl
  i37 := by kernel_rfl
  i46 := by kernel_rfl
  i51 := by kernel_rfl
  i53 := by kernel_rfl
  i171 := by kernel_rfl
  i173 := by kernel_rfl
  i212 := by kernel_rfl
  i232 := by kernel_rfl
  i233 := by kernel_rfl
  m17 := by kernel_rfl
  m18 := by kernel_rfl
  m19 := by kernel_rfl }
open Go.RowKit Go.Sort Go.Lib in
theorem Tryd.strconv_Itoa (n : Int) (h0 : -9223372036854775808 ≤ n) (h1 : n ≤ 9223372036854775807) (w : World) (htab : Lib.TabIs Tryd.prog w "internal/strconv.uint64pow10" .u64 Lib.pow10Tab) :
    Calls Tryd.prog 31 #[.int .i64 n] w fun e w' => e = .returned (.string ⟨(Lib.itoa n).toArray⟩) ∧ ∃ k os, w' = grow (w.drewN k) os := Any.strconv_Itoa Tryd.laysM171 n h0 h1 w htab
def Tryd.laysM173_ren : Go.Shelf.Ren := ⟨fun | 173 => 30 | 246 => 37 | 283 => 47 | 284 => 48 | 285 => 49 | 286 => 50 | 129 => 60 | 317 => 59 | 318 => 61 | 319 => 62 | 320 => 63 | 337 => 69 | 338 => 70 | n => n, fun | 2 => 2 | 3 => 3 | 9 => 9 | 4 => 4 | 171 => 81 | 0 => 0 | 53 => 67 | 37 => 68 | 5 => 5 | 173 => 84 | 212 => 98 | 51 => 99 | 20 => 20 | 213 => 100 | 46 => 77 | 232 => 113 | 233 => 114 | n => n, fun | 17 => 2 | 18 => 6 | 19 => 7 | n => n⟩
theorem Tryd.laysM173 : Go.Proofs.LaysM.n173 Tryd.prog Tryd.laysM173_ren := {
  mixed := by kernel_rfl
  f129 := Tryd.func60.trans (congrArg some (by kernel_rfl))
  f173 := Tryd.func30.trans (congrArg some (by kernel_rfl))
  f246 := Tryd.func37.trans (congrArg some (by kernel_rfl))
  f283 := Tryd.func47.trans (congrArg some (by kernel_rfl))
  f284 := Tryd.func48.trans (congrArg some (by kernel_rfl))
  f285 := Tryd.func49.trans (congrArg some (by kernel_rfl))
  f286 := Tryd.func50.trans (congrArg some (by kernel_rfl))
  f317 := Tryd.func59.trans (congrArg some (by kernel_rfl))
  f318 := Tryd.func61.trans (congrArg some (by kernel_rfl))
  f319 := Tryd.func62.trans (congrArg some (by kernel_rfl))
  f320 := Tryd.func63.trans (congrArg some (by kernel_rfl))
  f337 := Tryd.func69.trans (congrArg some (by kernel_rfl))
  f338 := Tryd.func70.trans (congrArg some (by kernel_rfl))
  t0 := Tryd.underlying0
  a0 := Tryd.isAgg0
  z0 := Tryd.sizeOf0
  v0 := Tryd.zeroValue0
  t2 := Tryd.underlying2
  a2 := Tryd.isAgg2
  z2 := Tryd.sizeOf2
  v2 := Tryd.zeroValue2
  t3 := Tryd.underlying3
  a3 := Tryd.isAgg3
  z3 := Tryd.sizeOf3
  v3 := Tryd.zeroValue3
  t4 := Tryd.underlying4
  a4 := Tryd.isAgg4
  z4 := Tryd.sizeOf4
  v4 := Tryd.zeroValue4
  t5 := Tryd.underlying5
  a5 := Tryd.isAgg5
  z5 := Tryd.sizeOf5
  v5 := Tryd.zeroValue5
  t9 := Tryd.underlying9
  a9 := Tryd.isAgg9
  z9 := Tryd.sizeOf9
  v9 := Tryd.zeroValue9
  t20 := Tryd.underlying20
  a20 := Tryd.isAgg20
  z20 := Tryd.sizeOf20
  v20 := Tryd.zeroValue20
  t37 := Tryd.underlying68
  a37 := Tryd.isAgg68
  z37 := Tryd.sizeOf68
  v37 := Tryd.zeroValue68
  t46 := Tryd.underlying77
  a46 := Tryd.isAgg77
  z46 := Tryd.sizeOf77
  v46 := Tryd.zeroValue77
  t51 := Tryd.underlying99
  a51 := Tryd.isAgg99
  z51 := Tryd.sizeOf99
  v51 := Tryd.zeroValue99
  t53 := Tryd.underlying67
  a53 := Tryd.isAgg67
  z53 := Tryd.sizeOf67
  v53 := Tryd.zeroValue67
  t171 := Tryd.underlying81
  a171 := Tryd.isAgg81
  z171 := Tryd.sizeOf81
  v171 := Tryd.zeroValue81
  t173 := Tryd.underlying84
  a173 := Tryd.isAgg84
  z173 := Tryd.sizeOf84
  v173 := Tryd.zeroValue84
  t212 := Tryd.underlying98
  a212 := Tryd.isAgg98
  z212 := Tryd.sizeOf98
  v212 := Tryd.zeroValue98
  t213 := Tryd.underlying100
  a213 := Tryd.isAgg100
  z213 := Tryd.sizeOf100
  t232 := Tryd.underlying113
  a232 := Tryd.isAgg113
  z232 := Tryd.sizeOf113
  v232 := Tryd.zeroValue113
  t233 := Tryd.underlying114
  a233 := Tryd.isAgg114
  z233 := Tryd.sizeOf114
  v233 := Tryd.zeroValue114
  g17 := by kernel_rfl
  g18 := by kernel_rfl
  g19 := by kernel_rfl
  i0 := by kernel_rfl
  i2 := by kernel_rfl
  i3 := by kernel_rfl
  i4 := by kernel_rfl
  i5 := by kernel_rfl
  i9 := by kernel_rfl
  i20 := by kernel_rfl
  i37 := by kernel_rfl
  i46 := by kernel_rfl
  i51 := by kernel_rfl
  i53 := by kernel_rfl
  i171 := by kernel_rfl
  i173 := by kernel_rfl
  i212 := by kernel_rfl
  i232 := by kernel_rfl
  i233 := by kernel_rfl
  m17 := by kernel_rfl
  m18 := by kernel_rfl
  m19 := by kernel_rfl }
open Go.RowKit Go.Sort Go.Lib in
theorem Tryd.strconv_FormatInt_10 (n : Int) (h0 : -9223372036854775808 ≤ n) (h1 : n ≤ 9223372036854775807) (w : World) (htab : Lib.TabIs Tryd.prog w "internal/strconv.uint64pow10" .u64 Lib.pow10Tab) :
    Calls Tryd.prog 30 #[.int .i64 n, .int .i64 10] w fun e w' => e = .returned (.string ⟨(Lib.itoa n).toArray⟩) ∧ ∃ k os, w' = grow (w.drewN k) os := Any.strconv_FormatInt_10 Tryd.laysM173 n h0 h1 w htab
def Tryd.laysC174_ren : Go.Shelf.Ren := ⟨fun | 174 => 25 | 247 => 33 | 245 => 34 | 287 => 42 | 279 => 43 | 280 => 44 | 281 => 45 | 282 => 46 | 321 => 55 | 322 => 56 | 316 => 57 | 171 => 31 | 205 => 58 | 243 => 38 | 246 => 37 | 283 => 47 | 284 => 48 | 285 => 49 | 286 => 50 | 129 => 60 | 317 => 59 | 318 => 61 | 319 => 62 | 320 => 63 | 337 => 69 | 338 => 70 | n => n, fun | 9 => 9 | 3 => 3 | 2 => 2 | 75 => 54 | 85 => 55 | 4 => 4 | 167 => 74 | 5 => 5 | 53 => 67 | 175 => 75 | 46 => 77 | 168 => 78 | 37 => 68 | 0 => 0 | 210 => 94 | 21 => 21 | 127 => 102 | 145 => 105 | 143 => 103 | 171 => 81 | 173 => 84 | 212 => 98 | 51 => 99 | 20 => 20 | 213 => 100 | 232 => 113 | 233 => 114 | 80 => 115 | n => n, fun | 15 => 0 | 16 => 1 | 17 => 2 | 18 => 6 | 19 => 7 | n => n⟩
theorem Tryd.laysC174 : Go.Proofs.LaysC.n174 Tryd.prog Tryd.laysC174_ren := {
  mixed := by kernel_rfl
  f129 := Tryd.func60.trans (congrArg some (by kernel_rfl))
  f171 := Tryd.func31.trans (congrArg some (by kernel_rfl))
  f174 := Tryd.func25.trans (congrArg some (by kernel_rfl))
  f205 := Tryd.func58.trans (congrArg some (by kernel_rfl))
  f243 := Tryd.func38.trans (congrArg some (by kernel_rfl))
  f245 := Tryd.func34.trans (congrArg some (by kernel_rfl))
  f246 := Tryd.func37.trans (congrArg some (by kernel_rfl))
  f247 := Tryd.func33.trans (congrArg some (by kernel_rfl))
  f279 := Tryd.func43.trans (congrArg some (by kernel_rfl))
  f280 := Tryd.func44.trans (congrArg some (by kernel_rfl))
  f281 := Tryd.func45.trans (congrArg some (by kernel_rfl))
  f282 := Tryd.func46.trans (congrArg some (by kernel_rfl))
  f283 := Tryd.func47.trans (congrArg some (by kernel_rfl))
  f284 := Tryd.func48.trans (congrArg some (by kernel_rfl))
  f285 := Tryd.func49.trans (congrArg some (by kernel_rfl))
  f286 := Tryd.func50.trans (congrArg some (by kernel_rfl))
  f287 := Tryd.func42.trans (congrArg some (by kernel_rfl))
  f316 := Tryd.func57.trans (congrArg some (by kernel_rfl))
  f317 := Tryd.func59.trans (congrArg some (by kernel_rfl))
  f318 := Tryd.func61.trans (congrArg some (by kernel_rfl))
  f319 := Tryd.func62.trans (congrArg some (by kernel_rfl))
  f320 := Tryd.func63.trans (congrArg some (by kernel_rfl))
  f321 := Tryd.func55.trans (congrArg some (by kernel_rfl))
  f322 := Tryd.func56.trans (congrArg some (by kernel_rfl))
  f337 := Tryd.func69.trans (congrArg some (by kernel_rfl))
  f338 := Tryd.func70.trans (congrArg some (by kernel_rfl))
  t0 := Tryd.underlying0
  a0 := Tryd.isAgg0
  z0 := Tryd.sizeOf0
  v0 := Tryd.zeroValue0
  t2 := Tryd.underlying2
  a2 := Tryd.isAgg2
  z2 := Tryd.sizeOf2
  v2 := Tryd.zeroValue2
  t3 := Tryd.underlying3
  a3 := Tryd.isAgg3
  z3 := Tryd.sizeOf3
  v3 := Tryd.zeroValue3
  t4 := Tryd.underlying4
  a4 := Tryd.isAgg4
  z4 := Tryd.sizeOf4
  v4 := Tryd.zeroValue4
  t5 := Tryd.underlying5
  a5 := Tryd.isAgg5
  z5 := Tryd.sizeOf5
  v5 := Tryd.zeroValue5
  t9 := Tryd.underlying9
  a9 := Tryd.isAgg9
  z9 := Tryd.sizeOf9
  v9 := Tryd.zeroValue9
  t20 := Tryd.underlying20
  a20 := Tryd.isAgg20
  z20 := Tryd.sizeOf20
  v20 := Tryd.zeroValue20
  t21 := Tryd.underlying21
  a21 := Tryd.isAgg21
  z21 := Tryd.sizeOf21
  v21 := Tryd.zeroValue21
  t37 := Tryd.underlying68
  a37 := Tryd.isAgg68
  z37 := Tryd.sizeOf68
  v37 := Tryd.zeroValue68
  t46 := Tryd.underlying77
  a46 := Tryd.isAgg77
  z46 := Tryd.sizeOf77
  v46 := Tryd.zeroValue77
  t51 := Tryd.underlying99
  a51 := Tryd.isAgg99
  z51 := Tryd.sizeOf99
  v51 := Tryd.zeroValue99
  t53 := Tryd.underlying67
  a53 := Tryd.isAgg67
  z53 := Tryd.sizeOf67
  v53 := Tryd.zeroValue67
  t75 := Tryd.underlying54
  a75 := Tryd.isAgg54
  z75 := Tryd.sizeOf54
  v75 := Tryd.zeroValue54
  t85 := Tryd.underlying55
  a85 := Tryd.isAgg55
  z85 := Tryd.sizeOf55
  v85 := Tryd.zeroValue55
  t127 := Tryd.underlying102
  a127 := Tryd.isAgg102
  z127 := Tryd.sizeOf102
  v127 := Tryd.zeroValue102
  t143 := Tryd.underlying103
  a143 := Tryd.isAgg103
  z143 := Tryd.sizeOf103
  v143 := Tryd.zeroValue103
  t145 := Tryd.underlying105
  a145 := Tryd.isAgg105
  z145 := Tryd.sizeOf105
  v145 := Tryd.zeroValue105
  t167 := Tryd.underlying74
  a167 := Tryd.isAgg74
  z167 := Tryd.sizeOf74
  v167 := Tryd.zeroValue74
  t168 := Tryd.underlying78
  a168 := Tryd.isAgg78
  z168 := Tryd.sizeOf78
  v168 := Tryd.zeroValue78
  t171 := Tryd.underlying81
  a171 := Tryd.isAgg81
  z171 := Tryd.sizeOf81
  v171 := Tryd.zeroValue81
  t173 := Tryd.underlying84
  a173 := Tryd.isAgg84
  z173 := Tryd.sizeOf84
  v173 := Tryd.zeroValue84
  t175 := Tryd.underlying75
  a175 := Tryd.isAgg75
  z175 := Tryd.sizeOf75
  v175 := Tryd.zeroValue75
  t210 := Tryd.underlying94
  a210 := Tryd.isAgg94
  z210 := Tryd.sizeOf94
  v210 := Tryd.zeroValue94
  t212 := Tryd.underlying98
  a212 := Tryd.isAgg98
  z212 := Tryd.sizeOf98
  v212 := Tryd.zeroValue98
  t213 := Tryd.underlying100
  a213 := Tryd.isAgg100
  z213 := Tryd.sizeOf100
  t232 := Tryd.underlying113
  a232 := Tryd.isAgg113
  z232 := Tryd.sizeOf113
  v232 := Tryd.zeroValue113
  t233 := Tryd.underlying114
  a233 := Tryd.isAgg114
  z233 := Tryd.sizeOf114
  v233 := Tryd.zeroValue114
  g15 := by kernel_rfl
  g16 := by kernel_rfl
  g17 := by kernel_rfl
  g18 := by kernel_rfl
  g19 := by kernel_rfl
  t80 := Tryd.underlying115
  a80 := Tryd.isAgg115
  z80 := Tryd.sizeOf115
  v80 := Tryd.zeroValue115
  i0 := by kernel_rfl
  i2 := by kernel_rfl
  i3 := by kernel_rfl
  i4 := by kernel_rfl
  i5 := by kernel_rfl
  i9 := by kernel_rfl
  i20 := by kernel_rfl
  i21 := by kernel_rfl
  i37 := by kernel_rfl
  i46 := by kernel_rfl
  i51 := by kernel_rfl
  i53 := by kernel_rfl
  i75 := by kernel_rfl
  i80 := by kernel_rfl
  i85 := by kernel_rfl
  i127 := by kernel_rfl
  i143 := by kernel_rfl
  i145 := by kernel_rfl
  i167 := by kernel_rfl
  i168 := by kernel_rfl
  i171 := by kernel_rfl
  i173 := by kernel_rfl
  i175 := by kernel_rfl
  i210 := by kernel_rfl
  i212 := by kernel_rfl
  i232 := by kernel_rfl
  i233 := by kernel_rfl
  m15 := by kernel_rfl
  m16 := by kernel_rfl
  m17 := by kernel_rfl
  m18 := by kernel_rfl
  m19 := by kernel_rfl
  c0 := by kernel_rfl
  c2 := by kernel_rfl
  c3 := by kernel_rfl
  c4 := by kernel_rfl
  c5 := by kernel_rfl
  c9 := by kernel_rfl
  c20 := by kernel_rfl
  c21 := by kernel_rfl
  c37 := by kernel_rfl
  c46 := by kernel_rfl
  c51 := by kernel_rfl
  c53 := by kernel_rfl
  c75 := by kernel_rfl
  c80 := by kernel_rfl
  c85 := by kernel_rfl
  c127 := by kernel_rfl
  c143 := by kernel_rfl
  c145 := by kernel_rfl
  c167 := by kernel_rfl
  c168 := by kernel_rfl
  c171 := by kernel_rfl
  c173 := by kernel_rfl
  c175 := by kernel_rfl
  c210 := by kernel_rfl
  c212 := by kernel_rfl
  c213 := by kernel_rfl
  c232 := by kernel_rfl
  c233 := by kernel_rfl }
open Go.RowKit in
theorem Tryd.strconv_ParseInt_10_at64_ok (s : ByteArray) (hmax : s.size ≤ 9223372036854775806) (v : Int) (h : Lib.parseIntB 64 s.data.toList = .ok v) (w : World) :
    Calls Tryd.prog 25 #[.string s, .int .i64 10, .int .i64 64] w fun e w' => e = .returned (.tuple #[.int .i64 v, .nilIface]) ∧ (w' = w ∨ ∃ t, w' = Lib.bytesWorld w 5 t) := Any.strconv_ParseInt_10_at64_ok Tryd.laysC174 s hmax v h w
open Go.RowKit in
theorem Tryd.strconv_ParseInt_10_at64_syntax_var (s : ByteArray) (hlim : s.size ≤ 281474976710656) (h : Lib.parseIntB 64 s.data.toList = Go.Lib.NumEnd.syntax) (tp : TypeId) (p : Value) (w : World) (hvar : w.var? Tryd.prog "strconv.ErrSyntax" = some #[.iface tp p]) :
    Calls Tryd.prog 25 #[.string s, .int .i64 10, .int .i64 64] w fun e w' => ∃ N, e = .returned (.tuple #[.int .i64 (0), .iface 78 (.pointer (some ⟨N, 0, none⟩))]) ∧ w.heap.size ≤ N ∧ w'.heap[N]? = some (.cells #[.string ⟨#[80, 97, 114, 115, 101, 73, 110, 116]⟩, .string s, .iface tp p] 94 (0, 0)) ∧ Below w.heap.size w w' := Any.strconv_ParseInt_10_at64_syntax_var Tryd.laysC174 s hlim h tp p w hvar
open Go.RowKit in
theorem Tryd.strconv_ParseInt_10_at64_range_var (s : ByteArray) (hlim : s.size ≤ 281474976710656) (h : Lib.parseIntB 64 s.data.toList = .range) (tp : TypeId) (p : Value) (w : World) (hvar : w.var? Tryd.prog "strconv.ErrRange" = some #[.iface tp p]) :
    Calls Tryd.prog 25 #[.string s, .int .i64 10, .int .i64 64] w fun e w' => ∃ N, e = .returned (.tuple #[.int .i64 (Lib.intSat 64 s.data.toList), .iface 78 (.pointer (some ⟨N, 0, none⟩))]) ∧ w.heap.size ≤ N ∧ w'.heap[N]? = some (.cells #[.string ⟨#[80, 97, 114, 115, 101, 73, 110, 116]⟩, .string s, .iface tp p] 94 (0, 0)) ∧ Below w.heap.size w w' := Any.strconv_ParseInt_10_at64_range_var Tryd.laysC174 s hlim h tp p w hvar
def Tryd.lays219_ren : Go.Shelf.Ren := ⟨fun | 219 => 54 | 217 => 65 | 225 => 66 | 224 => 67 | 267 => 68 | 266 => 71 | 314 => 72 | n => n, fun | 9 => 9 | 3 => 3 | 4 => 4 | 5 => 5 | 46 => 77 | 146 => 111 | 51 => 99 | n => n, fun | 1 => 3 | n => n⟩
theorem Tryd.lays219 : Go.Proofs.Lays.n219 Tryd.prog Tryd.lays219_ren := {
  mixed := by kernel_rfl
  f217 := Tryd.func65.trans (congrArg some (by kernel_rfl))
  f219 := Tryd.func54.trans (congrArg some (by kernel_rfl))
  f224 := Tryd.func67.trans (congrArg some (by kernel_rfl))
  f225 := Tryd.func66.trans (congrArg some (by kernel_rfl))
  f266 := Tryd.func71.trans (congrArg some (by kernel_rfl))
  f267 := Tryd.func68.trans (congrArg some (by kernel_rfl))
  f314 := Tryd.func72.trans (congrArg some (by kernel_rfl))
  t3 := Tryd.underlying3
  a3 := Tryd.isAgg3
  z3 := Tryd.sizeOf3
  v3 := Tryd.zeroValue3
  t4 := Tryd.underlying4
  a4 := Tryd.isAgg4
  z4 := Tryd.sizeOf4
  v4 := Tryd.zeroValue4
  t5 := Tryd.underlying5
  a5 := Tryd.isAgg5
  z5 := Tryd.sizeOf5
  v5 := Tryd.zeroValue5
  t9 := Tryd.underlying9
  a9 := Tryd.isAgg9
  z9 := Tryd.sizeOf9
  v9 := Tryd.zeroValue9
  t46 := Tryd.underlying77
  a46 := Tryd.isAgg77
  z46 := Tryd.sizeOf77
  v46 := Tryd.zeroValue77
  t51 := Tryd.underlying99
  a51 := Tryd.isAgg99
  z51 := Tryd.sizeOf99
  v51 := Tryd.zeroValue99
  t146 := Tryd.underlying111
  a146 := Tryd.isAgg111
  z146 := Tryd.sizeOf111
  v146 := Tryd.zeroValue111
  g1 := by kernel_rfl }
open Go.RowKit Go.Lib in
theorem Tryd.stringslite_Index_one (s : ByteArray) (c : UInt8) (w : World) :
    Calls Tryd.prog 54 #[.string s, .string ⟨#[c]⟩] w fun e w' => e = .returned (.int .i64 (Lib.indexByte s.data.toList c)) ∧ w' = w := Any.stringslite_Index_one Tryd.lays219 s c w
open Go.RowKit Go.Lib in
theorem Tryd.stringslite_Index (s sub : ByteArray) (m : Int) (w : World) (hs : s.size < 4294967281) (hm : w.cell? ⟨3, 0, none⟩ = some (.int .i64 m)) :
    Calls Tryd.prog 54 #[.string s, .string sub] w fun e w' => e = .returned (.int .i64 (Lib.index s.data.toList sub.data.toList)) ∧ w' = w := Any.stringslite_Index Tryd.lays219 s sub m w hs hm
def Tryd.lays143_ren : Go.Shelf.Ren := ⟨fun | 143 => 41 | 219 => 54 | 217 => 65 | 225 => 66 | 224 => 67 | 267 => 68 | 266 => 71 | 314 => 72 | n => n, fun | 9 => 9 | 3 => 3 | 4 => 4 | 5 => 5 | 46 => 77 | 146 => 111 | 51 => 99 | n => n, fun | 1 => 3 | n => n⟩
theorem Tryd.lays143 : Go.Proofs.Lays.n143 Tryd.prog Tryd.lays143_ren := {
  mixed := by kernel_rfl
  f143 := Tryd.func41.trans (congrArg some (by kernel_rfl))
  f217 := Tryd.func65.trans (congrArg some (by kernel_rfl))
  f219 := Tryd.func54.trans (congrArg some (by kernel_rfl))
  f224 := Tryd.func67.trans (congrArg some (by kernel_rfl))
  f225 := Tryd.func66.trans (congrArg some (by kernel_rfl))
  f266 := Tryd.func71.trans (congrArg some (by kernel_rfl))
  f267 := Tryd.func68.trans (congrArg some (by kernel_rfl))
  f314 := Tryd.func72.trans (congrArg some (by kernel_rfl))
  t3 := Tryd.underlying3
  a3 := Tryd.isAgg3
  z3 := Tryd.sizeOf3
  v3 := Tryd.zeroValue3
  t4 := Tryd.underlying4
  a4 := Tryd.isAgg4
  z4 := Tryd.sizeOf4
  v4 := Tryd.zeroValue4
  t5 := Tryd.underlying5
  a5 := Tryd.isAgg5
  z5 := Tryd.sizeOf5
  v5 := Tryd.zeroValue5
  t9 := Tryd.underlying9
  a9 := Tryd.isAgg9
  z9 := Tryd.sizeOf9
  v9 := Tryd.zeroValue9
  t46 := Tryd.underlying77
  a46 := Tryd.isAgg77
  z46 := Tryd.sizeOf77
  v46 := Tryd.zeroValue77
  t51 := Tryd.underlying99
  a51 := Tryd.isAgg99
  z51 := Tryd.sizeOf99
  v51 := Tryd.zeroValue99
  t146 := Tryd.underlying111
  a146 := Tryd.isAgg111
  z146 := Tryd.sizeOf111
  v146 := Tryd.zeroValue111
  g1 := by kernel_rfl }
open Go.RowKit Go.Lib in
theorem Tryd.strings_Index (s sub : ByteArray) (m : Int) (w : World) (hs : s.size < 4294967281) (hm : w.cell? ⟨3, 0, none⟩ = some (.int .i64 m)) :
    Calls Tryd.prog 41 #[.string s, .string sub] w fun e w' => e = .returned (.int .i64 (Lib.index s.data.toList sub.data.toList)) ∧ w' = w := Any.strings_Index Tryd.lays143 s sub m w hs hm
def Tryd.lays138_ren : Go.Shelf.Ren := ⟨fun | 138 => 40 | 195 => 51 | 218 => 53 | 143 => 41 | 219 => 54 | 217 => 65 | 225 => 66 | 224 => 67 | 267 => 68 | 266 => 71 | 314 => 72 | n => n, fun | 9 => 9 | 3 => 3 | 4 => 4 | 5 => 5 | 0 => 0 | 46 => 77 | 146 => 111 | 51 => 99 | n => n, fun | 1 => 3 | n => n⟩
theorem Tryd.lays138 : Go.Proofs.Lays.n138 Tryd.prog Tryd.lays138_ren := {
  mixed := by kernel_rfl
  f138 := Tryd.func40.trans (congrArg some (by kernel_rfl))
  f143 := Tryd.func41.trans (congrArg some (by kernel_rfl))
  f195 := Tryd.func51.trans (congrArg some (by kernel_rfl))
  f217 := Tryd.func65.trans (congrArg some (by kernel_rfl))
  f218 := Tryd.func53.trans (congrArg some (by kernel_rfl))
  f219 := Tryd.func54.trans (congrArg some (by kernel_rfl))
  f224 := Tryd.func67.trans (congrArg some (by kernel_rfl))
  f225 := Tryd.func66.trans (congrArg some (by kernel_rfl))
  f266 := Tryd.func71.trans (congrArg some (by kernel_rfl))
  f267 := Tryd.func68.trans (congrArg some (by kernel_rfl))
  f314 := Tryd.func72.trans (congrArg some (by kernel_rfl))
  t0 := Tryd.underlying0
  a0 := Tryd.isAgg0
  z0 := Tryd.sizeOf0
  v0 := Tryd.zeroValue0
  t3 := Tryd.underlying3
  a3 := Tryd.isAgg3
  z3 := Tryd.sizeOf3
  v3 := Tryd.zeroValue3
  t4 := Tryd.underlying4
  a4 := Tryd.isAgg4
  z4 := Tryd.sizeOf4
  v4 := Tryd.zeroValue4
  t5 := Tryd.underlying5
  a5 := Tryd.isAgg5
  z5 := Tryd.sizeOf5
  v5 := Tryd.zeroValue5
  t9 := Tryd.underlying9
  a9 := Tryd.isAgg9
  z9 := Tryd.sizeOf9
  v9 := Tryd.zeroValue9
  t46 := Tryd.underlying77
  a46 := Tryd.isAgg77
  z46 := Tryd.sizeOf77
  v46 := Tryd.zeroValue77
  t51 := Tryd.underlying99
  a51 := Tryd.isAgg99
  z51 := Tryd.sizeOf99
  v51 := Tryd.zeroValue99
  t146 := Tryd.underlying111
  a146 := Tryd.isAgg111
  z146 := Tryd.sizeOf111
  v146 := Tryd.zeroValue111
  g1 := by kernel_rfl }
open Go.RowKit Go.Lib in
theorem Tryd.strings_Count_one (s : ByteArray) (c : UInt8) (w : World) :
    Calls Tryd.prog 40 #[.string s, .string ⟨#[c]⟩] w fun e w' => e = .returned (.int .i64 (Lib.countByte s.data.toList c)) ∧ w' = w := Any.strings_Count_one Tryd.lays138 s c w
open Go.RowKit Go.Lib in
theorem Tryd.strings_Count (s sub : ByteArray) (m : Int) (w : World) (hs : s.size < 4294967281) (hm : w.cell? ⟨3, 0, none⟩ = some (.int .i64 m)) (h2 : 2 ≤ sub.size) :
    Calls Tryd.prog 40 #[.string s, .string sub] w fun e w' => e = .returned (.int .i64 (Lib.countB s sub)) ∧ w' = w := Any.strings_Count Tryd.lays138 s sub m w hs hm h2
def Tryd.lays221_ren : Go.Shelf.Ren := ⟨fun | 221 => 32 | 268 => 39 | 138 => 40 | 143 => 41 | 195 => 51 | 197 => 52 | 218 => 53 | 219 => 54 | 260 => 64 | 217 => 65 | 225 => 66 | 224 => 67 | 267 => 68 | 266 => 71 | 314 => 72 | n => n, fun | 9 => 9 | 3 => 3 | 31 => 50 | 4 => 4 | 0 => 0 | 105 => 87 | 21 => 21 | 5 => 5 | 46 => 77 | 119 => 107 | 139 => 110 | 138 => 109 | 146 => 111 | 51 => 99 | n => n, fun | 1 => 3 | 3 => 4 | 4 => 5 | n => n⟩
theorem Tryd.lays221 : Go.Proofs.Lays.n221 Tryd.prog Tryd.lays221_ren := {
  mixed := by kernel_rfl
  f138 := Tryd.func40.trans (congrArg some (by kernel_rfl))
  f143 := Tryd.func41.trans (congrArg some (by kernel_rfl))
  f195 := Tryd.func51.trans (congrArg some (by kernel_rfl))
  f197 := Tryd.func52.trans (congrArg some (by kernel_rfl))
  f217 := Tryd.func65.trans (congrArg some (by kernel_rfl))
  f218 := Tryd.func53.trans (congrArg some (by kernel_rfl))
  f219 := Tryd.func54.trans (congrArg some (by kernel_rfl))
  f221 := Tryd.func32.trans (congrArg some (by kernel_rfl))
  f224 := Tryd.func67.trans (congrArg some (by kernel_rfl))
  f225 := Tryd.func66.trans (congrArg some (by kernel_rfl))
  f260 := Tryd.func64.trans (congrArg some (by kernel_rfl))
  f266 := Tryd.func71.trans (congrArg some (by kernel_rfl))
  f267 := Tryd.func68.trans (congrArg some (by kernel_rfl))
  f268 := Tryd.func39.trans (congrArg some (by kernel_rfl))
  f314 := Tryd.func72.trans (congrArg some (by kernel_rfl))
  t0 := Tryd.underlying0
  a0 := Tryd.isAgg0
  z0 := Tryd.sizeOf0
  v0 := Tryd.zeroValue0
  t3 := Tryd.underlying3
  a3 := Tryd.isAgg3
  z3 := Tryd.sizeOf3
  v3 := Tryd.zeroValue3
  t4 := Tryd.underlying4
  a4 := Tryd.isAgg4
  z4 := Tryd.sizeOf4
  v4 := Tryd.zeroValue4
  t5 := Tryd.underlying5
  a5 := Tryd.isAgg5
  z5 := Tryd.sizeOf5
  v5 := Tryd.zeroValue5
  t9 := Tryd.underlying9
  a9 := Tryd.isAgg9
  z9 := Tryd.sizeOf9
  v9 := Tryd.zeroValue9
  t21 := Tryd.underlying21
  a21 := Tryd.isAgg21
  z21 := Tryd.sizeOf21
  v21 := Tryd.zeroValue21
  t31 := Tryd.underlying50
  a31 := Tryd.isAgg50
  z31 := Tryd.sizeOf50
  v31 := Tryd.zeroValue50
  t46 := Tryd.underlying77
  a46 := Tryd.isAgg77
  z46 := Tryd.sizeOf77
  v46 := Tryd.zeroValue77
  t51 := Tryd.underlying99
  a51 := Tryd.isAgg99
  z51 := Tryd.sizeOf99
  v51 := Tryd.zeroValue99
  t105 := Tryd.underlying87
  a105 := Tryd.isAgg87
  z105 := Tryd.sizeOf87
  v105 := Tryd.zeroValue87
  t119 := Tryd.underlying107
  a119 := Tryd.isAgg107
  z119 := Tryd.sizeOf107
  t138 := Tryd.underlying109
  a138 := Tryd.isAgg109
  z138 := Tryd.sizeOf109
  v138 := Tryd.zeroValue109
  t139 := Tryd.underlying110
  a139 := Tryd.isAgg110
  z139 := Tryd.sizeOf110
  v139 := Tryd.zeroValue110
  t146 := Tryd.underlying111
  a146 := Tryd.isAgg111
  z146 := Tryd.sizeOf111
  v146 := Tryd.zeroValue111
  g1 := by kernel_rfl
  g3 := by kernel_rfl
  g4 := by kernel_rfl }
open Go.RowKit Go.Lib in
theorem Tryd.strings_genSplit (s sep : ByteArray) (sv : Nat) (n : Int) (N : Nat) (m : Int) (w : World) (hs : s.size < 4294967281) (hm : w.cell? ⟨3, 0, none⟩ = some (.int .i64 m)) (h1 : 1 ≤ sep.size) (hsv : sv ≤ sep.size) (hn0 : n ≠ 0) (hn63 : n ≤ 9223372036854775807) (hN : (N : Int) = min (if n < 0 then (Lib.countB s sep : Int) + 1 else n) ((s.size : Int) + 1)) :
    Calls Tryd.prog 32 #[.string s, .string sep, .int .i64 sv, .int .i64 n] w fun e w' =>
      e = .returned (.slice (some ⟨w.heap.size, 0, none⟩) (Lib.splitB sep sv (N - 1) s).length N) ∧ w' = w.alloc (.cells (Lib.cellsOf (Lib.splitB sep sv (N - 1) s) N) 9) := Any.strings_genSplit Tryd.lays221 (by kernel_rfl) s sep sv n N m w hs hm h1 hsv hn0 hn63 hN
def Tryd.lays146_ren : Go.Shelf.Ren := ⟨fun | 146 => 24 | 221 => 32 | 268 => 39 | 138 => 40 | 143 => 41 | 195 => 51 | 197 => 52 | 218 => 53 | 219 => 54 | 260 => 64 | 217 => 65 | 225 => 66 | 224 => 67 | 267 => 68 | 266 => 71 | 314 => 72 | n => n, fun | 9 => 9 | 31 => 50 | 3 => 3 | 4 => 4 | 0 => 0 | 105 => 87 | 21 => 21 | 5 => 5 | 46 => 77 | 119 => 107 | 139 => 110 | 138 => 109 | 146 => 111 | 51 => 99 | n => n, fun | 1 => 3 | 3 => 4 | 4 => 5 | n => n⟩
theorem Tryd.lays146 : Go.Proofs.Lays.n146 Tryd.prog Tryd.lays146_ren := {
  mixed := by kernel_rfl
  f138 := Tryd.func40.trans (congrArg some (by kernel_rfl))
  f143 := Tryd.func41.trans (congrArg some (by kernel_rfl))
  f146 := Tryd.func24.trans (congrArg some (by kernel_rfl))
  f195 := Tryd.func51.trans (congrArg some (by kernel_rfl))
  f197 := Tryd.func52.trans (congrArg some (by kernel_rfl))
  f217 := Tryd.func65.trans (congrArg some (by kernel_rfl))
  f218 := Tryd.func53.trans (congrArg some (by kernel_rfl))
  f219 := Tryd.func54.trans (congrArg some (by kernel_rfl))
  f221 := Tryd.func32.trans (congrArg some (by kernel_rfl))
  f224 := Tryd.func67.trans (congrArg some (by kernel_rfl))
  f225 := Tryd.func66.trans (congrArg some (by kernel_rfl))
  f260 := Tryd.func64.trans (congrArg some (by kernel_rfl))
  f266 := Tryd.func71.trans (congrArg some (by kernel_rfl))
  f267 := Tryd.func68.trans (congrArg some (by kernel_rfl))
  f268 := Tryd.func39.trans (congrArg some (by kernel_rfl))
  f314 := Tryd.func72.trans (congrArg some (by kernel_rfl))
  t0 := Tryd.underlying0
  a0 := Tryd.isAgg0
  z0 := Tryd.sizeOf0
  v0 := Tryd.zeroValue0
  t3 := Tryd.underlying3
  a3 := Tryd.isAgg3
  z3 := Tryd.sizeOf3
  v3 := Tryd.zeroValue3
  t4 := Tryd.underlying4
  a4 := Tryd.isAgg4
  z4 := Tryd.sizeOf4
  v4 := Tryd.zeroValue4
  t5 := Tryd.underlying5
  a5 := Tryd.isAgg5
  z5 := Tryd.sizeOf5
  v5 := Tryd.zeroValue5
  t9 := Tryd.underlying9
  a9 := Tryd.isAgg9
  z9 := Tryd.sizeOf9
  v9 := Tryd.zeroValue9
  t21 := Tryd.underlying21
  a21 := Tryd.isAgg21
  z21 := Tryd.sizeOf21
  v21 := Tryd.zeroValue21
  t31 := Tryd.underlying50
  a31 := Tryd.isAgg50
  z31 := Tryd.sizeOf50
  v31 := Tryd.zeroValue50
  t46 := Tryd.underlying77
  a46 := Tryd.isAgg77
  z46 := Tryd.sizeOf77
  v46 := Tryd.zeroValue77
  t51 := Tryd.underlying99
  a51 := Tryd.isAgg99
  z51 := Tryd.sizeOf99
  v51 := Tryd.zeroValue99
  t105 := Tryd.underlying87
  a105 := Tryd.isAgg87
  z105 := Tryd.sizeOf87
  v105 := Tryd.zeroValue87
  t119 := Tryd.underlying107
  a119 := Tryd.isAgg107
  z119 := Tryd.sizeOf107
  t138 := Tryd.underlying109
  a138 := Tryd.isAgg109
  z138 := Tryd.sizeOf109
  v138 := Tryd.zeroValue109
  t139 := Tryd.underlying110
  a139 := Tryd.isAgg110
  z139 := Tryd.sizeOf110
  v139 := Tryd.zeroValue110
  t146 := Tryd.underlying111
  a146 := Tryd.isAgg111
  z146 := Tryd.sizeOf111
  v146 := Tryd.zeroValue111
  g1 := by kernel_rfl
  g3 := by kernel_rfl
  g4 := by kernel_rfl }
open Go.RowKit Go.Lib in
theorem Tryd.strings_Split (s sep : ByteArray) (m : Int) (w : World) (hs : s.size < 4294967281) (hm : w.cell? ⟨3, 0, none⟩ = some (.int .i64 m)) (h1 : 1 ≤ sep.size) :
    Calls Tryd.prog 24 #[.string s, .string sep] w fun e w' =>
      e = .returned (.slice (some ⟨w.heap.size, 0, none⟩) (Lib.countB s sep + 1) (Lib.countB s sep + 1)) ∧ w' = w.alloc (.cells ((Lib.splitB sep 0 (Lib.countB s sep) s).map Value.string).toArray 9) := Any.strings_Split Tryd.lays146 (by kernel_rfl) s sep m w hs hm h1
end Go.Proofs
end
section
set_option linter.unusedVariables false
set_option linter.unusedSimpArgs false
namespace Go.Gp
open Go.Vd Go.RowKit Go.Proofs
theorem sat_stringslite_Index (N : Nat) (s p : List UInt8) (r : Int) (h : stringslite_Index N s p = some r) : Sat Tryd.prog 54 noRows [.str s, .str p] (.int .i64 r) noRows := by
  obtain ⟨c, rfl, rfl⟩ := stringslite_Index_inv h
  exact sat_lib1 (vs := [.string ⟨s.toArray⟩, .string ⟨#[c]⟩]) rfl rfl fun w => Tryd.stringslite_Index_one ⟨s.toArray⟩ c w
theorem sat_strings_Count (N : Nat) (s p : List UInt8) (r : Int) (h : strings_Count N s p = some r) : Sat Tryd.prog 40 noRows [.str s, .str p] (.int .i64 r) noRows := by
  obtain ⟨c, rfl, rfl⟩ := strings_Count_inv h
  exact sat_lib1 (vs := [.string ⟨s.toArray⟩, .string ⟨#[c]⟩]) rfl rfl fun w => Tryd.strings_Count_one ⟨s.toArray⟩ c w
theorem sat_strconv_FormatInt (N : Nat) (n b : Int) (r : List UInt8) (h : strconv_FormatInt N n b = some r) : Sat Tryd.prog 30 noRows [.int .i64 n, .int .i64 b] (.str r) noRows :=
  sat_fmt (fun n h0 h1 w hw => Tryd.strconv_FormatInt_10 n h0 h1 w (show Laid w from hw).tab) h
theorem sat_strconv_Itoa (N : Nat) (n : Int) (r : List UInt8) (h : strconv_Itoa N n = some r) : Sat Tryd.prog 31 noRows [.int .i64 n] (.str r) noRows :=
  sat_itoa (fun n h0 h1 w hw => Tryd.strconv_Itoa n h0 h1 w (show Laid w from hw).tab) h
theorem sat_strconv_ParseInt (N : Nat) (s : List UInt8) (b k : Int) (r : Int × Bool) (h : strconv_ParseInt N s b k = some r) : Sat Tryd.prog 25 noRows [.str s, .int .i64 b, .int .i64 k] (.tup [.int .i64 r.1, eErr 78 r.2]) noRows := by
  refine sat_pint (fun s v hs hv w => Tryd.strconv_ParseInt_10_at64_ok s (by omega) v hv w) (fun s hs hv w hw => ?_) (fun s hs hv w hw => ?_) h
  · obtain ⟨tp, p, hk⟩ := (show Laid w from hw).syn
    refine (Tryd.strconv_ParseInt_10_at64_syntax_var s hs hv tp p w hk).mono ?_
    rintro e w' ⟨N, h1, _, _, h2⟩
    exact ⟨N, h1, h2⟩
  · obtain ⟨tp, p, hk⟩ := (show Laid w from hw).ran
    refine (Tryd.strconv_ParseInt_10_at64_range_var s hs hv tp p w hk).mono ?_
    rintro e w' ⟨N, h1, _, _, h2⟩
    exact ⟨N, h1, h2⟩
end Go.Gp
end
section
set_option linter.unusedVariables false
set_option linter.unusedSimpArgs false
set_option maxRecDepth 4000
namespace Go.Gp
open Go.Vd Go.RowKit Go.Proofs
def k41 : IC := (.seq (.reg [⟨(some 4), (.mov (.c (.int .i64 0))), none⟩]) (.seq (.reg [⟨(some 5), (.mov (.t 0)), none⟩, ⟨(some 6), (.mov (.t 1)), none⟩, ⟨(some 7), (.call 54 [(.t 5), (.t 6)]), none⟩, ⟨(some 4), (.mov (.t 7)), none⟩]) .ret))
theorem k41_cf : cfunc Tryd.prog Tryd.f41 = some ⟨8, k41, [(.tmp 4)]⟩ := by kernel_rfl
theorem sat_strings_Index (N : Nat) (a0 : List UInt8) (a1 : List UInt8) (r : Int) (h : strings_Index N a0 a1 = some r) : Sat Tryd.prog 41 noRows [.str a0, .str a1] (.int .i64 r) noRows := by
  refine xsat mixed Tryd.func41 k41_cf (rs := [.int .i64 r]) rfl rfl ?_
  refine xseq ?_
  refine xreg ?_
  refine wpp rfl rfl ?_
  refine xseq ?_
  refine xreg ?_
  refine wpp rfl rfl ?_
  refine wpp rfl rfl ?_
  obtain ⟨x7, hx7, h⟩ := bindS h
  refine woo rfl (ocal (sat_stringslite_Index N _ _ _ hx7) rfl (.cons sub_rfl (.cons sub_rfl .nil)) rfl rfl rfl) ?_
  refine wpp rfl rfl ?_
  obtain rfl := someS h
  refine xret ?_
  exact ⟨nofun, rfl, rfl⟩
end Go.Gp
end
section
set_option linter.unusedVariables false
set_option linter.unusedSimpArgs false
set_option maxRecDepth 4000
namespace Go.Gp
open Go.Vd Go.RowKit Go.Proofs
def k32_l34 : IC := (.seq (.seq (.reg [⟨(some 34), (.mov (.t 10)), none⟩, ⟨(some 35), (.mov (.t 3)), none⟩, ⟨(some 36), (.bin .lss (.t 34) (.t 35)), none⟩]) (.cond (.t 36) .skip (.exit 0))) (.block 1 (.seq (.reg [⟨(some 37), (.mov (.t 0)), none⟩, ⟨(some 38), (.mov (.t 1)), none⟩, ⟨(some 39), (.call 41 [(.t 37), (.t 38)]), none⟩, ⟨(some 11), (.mov (.t 39)), none⟩]) (.seq (.seq (.reg [⟨(some 40), (.mov (.t 11)), none⟩, ⟨(some 41), (.bin .lss (.t 40) (.c (.int .i64 0))), none⟩]) (.cond (.t 41) (.exit 0) .skip)) (.seq (.reg [⟨(some 42), (.mov (.t 9)), none⟩, ⟨(some 43), (.mov (.t 10)), none⟩, ⟨(some 44), (.mov (.t 0)), none⟩, ⟨(some 45), (.mov (.t 11)), none⟩, ⟨(some 46), (.mov (.t 2)), none⟩, ⟨(some 47), (.bin .add (.t 45) (.t 46)), none⟩, ⟨(some 48), (.slcs (.t 44) none (some (.t 47))), none⟩, ⟨(some 49), (.ixp 1 (.t 42) (.t 43)), none⟩, ⟨none, (.store 1 (.t 49) (.t 48)), none⟩]) (.seq (.reg [⟨(some 50), (.mov (.t 0)), none⟩, ⟨(some 51), (.mov (.t 11)), none⟩, ⟨(some 52), (.mov (.t 1)), none⟩, ⟨(some 53), (.len true (.t 52)), none⟩, ⟨(some 54), (.bin .add (.t 51) (.t 53)), none⟩, ⟨(some 55), (.slcs (.t 50) (some (.t 54)) none), none⟩, ⟨(some 0), (.mov (.t 55)), none⟩]) (.reg [⟨(some 56), (.mov (.t 10)), none⟩, ⟨(some 57), (.bin .add (.t 56) (.c (.int .i64 1))), none⟩, ⟨(some 10), (.mov (.t 57)), none⟩])))))))
def k32 : IC := (.seq (.reg [⟨(some 8), (.mov (.c .nl)), none⟩]) (.seq (.seq (.reg [⟨(some 12), (.mov (.t 3)), none⟩, ⟨(some 13), (.bin .eql (.t 12) (.c (.int .i64 0))), none⟩]) (.cond (.t 13) (.seq (.reg [⟨(some 8), (.mov (.c .nl)), none⟩]) .ret) .skip)) (.seq (.seq (.reg [⟨(some 14), (.mov (.t 1)), none⟩, ⟨(some 15), (.bin .eql (.t 14) (.c (.str []))), none⟩]) (.cond (.t 15) (.seq (.reg [⟨(some 16), (.mov (.t 0)), none⟩, ⟨(some 17), (.mov (.t 3)), none⟩, ⟨(some 18), (.call 39 [(.t 16), (.t 17)]), none⟩, ⟨(some 8), (.mov (.t 18)), none⟩]) .ret) .skip)) (.seq (.seq (.reg [⟨(some 19), (.mov (.t 3)), none⟩, ⟨(some 20), (.bin .lss (.t 19) (.c (.int .i64 0))), none⟩]) (.cond (.t 20) (.reg [⟨(some 21), (.mov (.t 0)), none⟩, ⟨(some 22), (.mov (.t 1)), none⟩, ⟨(some 23), (.call 40 [(.t 21), (.t 22)]), none⟩, ⟨(some 24), (.bin .add (.t 23) (.c (.int .i64 1))), none⟩, ⟨(some 3), (.mov (.t 24)), none⟩]) .skip)) (.seq (.reg [⟨(some 25), (.mov (.t 3)), none⟩, ⟨(some 26), (.mov (.t 0)), none⟩, ⟨(some 27), (.len true (.t 26)), none⟩, ⟨(some 28), (.bin .add (.t 27) (.c (.int .i64 1))), none⟩, ⟨(some 29), (.mm false (.t 25) [(.t 28)]), none⟩, ⟨(some 3), (.mov (.t 29)), none⟩]) (.seq (.reg [⟨(some 30), (.mov (.t 3)), none⟩, ⟨(some 31), (.mks 1 16 (.str []) (.t 30)), none⟩, ⟨(some 9), (.mov (.t 31)), none⟩]) (.seq (.reg [⟨(some 32), (.mov (.t 3)), none⟩, ⟨(some 33), (.bin .sub (.t 32) (.c (.int .i64 1))), none⟩, ⟨(some 3), (.mov (.t 33)), none⟩]) (.seq (.reg [⟨(some 10), (.mov (.c (.int .i64 0))), none⟩]) (.seq (.block 0 (.loop k32_l34)) (.seq (.reg [⟨(some 58), (.mov (.t 9)), none⟩, ⟨(some 59), (.mov (.t 10)), none⟩, ⟨(some 60), (.mov (.t 0)), none⟩, ⟨(some 61), (.ixp 1 (.t 58) (.t 59)), none⟩, ⟨none, (.store 1 (.t 61) (.t 60)), none⟩]) (.seq (.reg [⟨(some 62), (.mov (.t 9)), none⟩, ⟨(some 63), (.mov (.t 10)), none⟩, ⟨(some 64), (.bin .add (.t 63) (.c (.int .i64 1))), none⟩, ⟨(some 65), (.slcl 1 (.t 62) none (some (.t 64))), none⟩, ⟨(some 8), (.mov (.t 65)), none⟩]) .ret)))))))))))
theorem k32_cf : cfunc Tryd.prog Tryd.f32 = some ⟨66, k32, [(.tmp 8)]⟩ := by kernel_rfl
theorem w_strings_genSplit_l34 (N : Nat) (a0 : List UInt8) (a1 : List UInt8) (a2 : Int) (v3j18 : Int) : ∀ (n : Nat) (x : List UInt8 × Int × List (List UInt8)) (y : List UInt8 × Int × List (List UInt8)), strings_genSplit_l34 N a0 a1 a2 v3j18 n x = some y → WX Tryd.prog (fun _ => false) (.loop k32_l34) ((fun (x : List UInt8 × Int × List (List UInt8)) => ⟨ofL [(0, .str x.1), (1, .str a1), (2, .int .i64 a2), (3, .int .i64 (w64 ((mn v3j18 (w64 ((a0.length : Int) + (1 : Int)))) - (1 : Int)))), (9, .slr 51231 0 x.2.2.length), (10, .int .i64 x.2.1)], ofL [(51231, ⟨1, true, List.map PV.str x.2.2⟩)]⟩) x) ((fun y e s => e = .exit 0 ∧ s = ⟨ofL [(0, .str y.1), (9, .slr 51231 0 y.2.2.length), (10, .int .i64 y.2.1)], ofL [(51231, ⟨1, true, List.map PV.str y.2.2⟩)]⟩ : (List UInt8 × Int × List (List UInt8)) → Xt → St → Prop) y) := by
  refine xloop (fun (x : List UInt8 × Int × List (List UInt8)) => ⟨ofL [(0, .str x.1), (1, .str a1), (2, .int .i64 a2), (3, .int .i64 (w64 ((mn v3j18 (w64 ((a0.length : Int) + (1 : Int)))) - (1 : Int)))), (9, .slr 51231 0 x.2.2.length), (10, .int .i64 x.2.1)], ofL [(51231, ⟨1, true, List.map PV.str x.2.2⟩)]⟩) _ (strings_genSplit_l34 N a0 a1 a2 v3j18) (strings_genSplit_l34_b N a0 a1 a2 v3j18) (fun _ => rfl) (fun _ _ => rfl) ?_
  rintro rec ⟨v0l34, v10l34, r51231l34⟩ y h
  refine xseq ?_
  refine xseq ?_
  refine xreg ?_
  refine wpp rfl rfl ?_
  refine wpp rfl rfl ?_
  refine wpp rfl rfl ?_
  rcases bifS h with ⟨c3, h⟩ | ⟨c3, h⟩
  · refine xcT rfl c3 ?_
    refine xskip ?_
    refine xblk ?_
    refine xseq ?_
    refine xreg ?_
    refine wpp rfl rfl ?_
    refine wpp rfl rfl ?_
    obtain ⟨x39, hx39, h⟩ := bindS h
    refine woo rfl (ocal (sat_strings_Index N _ _ _ hx39) rfl (.cons sub_rfl (.cons sub_rfl .nil)) rfl rfl rfl) ?_
    refine wpp rfl rfl ?_
    refine xseq ?_
    refine xseq ?_
    refine xreg ?_
    refine wpp rfl rfl ?_
    refine wpp rfl rfl ?_
    rcases bifS h with ⟨c4, h⟩ | ⟨c4, h⟩
    · refine xcT rfl c4 ?_
      obtain rfl := someS h
      exact xexitn (st1 := ⟨ofL [(0, .str v0l34), (9, .slr 51231 0 r51231l34.length), (10, .int .i64 v10l34)], ofL [(51231, ⟨1, true, List.map PV.str r51231l34⟩)]⟩) (canon0 ⟨rfl, rfl, rfl, trivial⟩ ⟨rfl, trivial⟩ rfl rfl) ⟨rfl, rfl⟩
    · refine xcF rfl c4 ?_
      refine xskip ?_
      refine xseq ?_
      refine xreg ?_
      refine wpp rfl rfl ?_
      refine wpp rfl rfl ?_
      refine wpp rfl rfl ?_
      refine wpp rfl rfl ?_
      refine wpp rfl rfl ?_
      refine wpp (p := .int .i64 (w64 (x39 + a2))) rfl rfl ?_
      obtain ⟨x48, hx48, h⟩ := bindS h
      refine wpp rfl (p_take hx48 rfl rfl) ?_
      obtain ⟨x49, hx49, h⟩ := bindS h
      refine wpp rfl (p_ixr hx49 rfl rfl rfl rfl) ?_
      obtain ⟨x9004, hx9004, h⟩ := bindS h
      refine wsto (f := PV.str) (e' := x48) hx9004 rfl rfl rfl rfl rfl rfl rfl rfl (fun _ => rfl) rfl ?_
      refine xseq ?_
      refine xreg ?_
      refine wpp rfl rfl ?_
      refine wpp rfl rfl ?_
      refine wpp rfl rfl ?_
      refine wpp rfl rfl ?_
      refine wpp (p := .int .i64 (w64 (x39 + (a1.length : Int)))) rfl rfl ?_
      obtain ⟨x55, hx55, h⟩ := bindS h
      refine wpp rfl (p_drop hx55 rfl rfl) ?_
      refine wpp rfl rfl ?_
      refine xreg ?_
      refine wpp rfl rfl ?_
      refine wpp (p := .int .i64 (w64 (v10l34 + (1 : Int)))) rfl rfl ?_
      refine wpp rfl rfl ?_
      exact ⟨(x55, (w64 (v10l34 + (1 : Int))), (r51231l34.set x49 x48)), (Norm.trans (nsub 9 (sub_eq (congrArg (PV.slr 51231 0) (by simp only [List.length_set, List.length_replicate] : r51231l34.length = (r51231l34.set x49 x48).length))) rfl) (canon0 ⟨rfl, rfl, rfl, rfl, rfl, rfl, trivial⟩ ⟨rfl, trivial⟩ rfl rfl)), h⟩
  · refine xcF rfl c3 ?_
    obtain rfl := someS h
    exact xexitn (st1 := ⟨ofL [(0, .str v0l34), (9, .slr 51231 0 r51231l34.length), (10, .int .i64 v10l34)], ofL [(51231, ⟨1, true, List.map PV.str r51231l34⟩)]⟩) (canon0 ⟨rfl, rfl, rfl, trivial⟩ ⟨rfl, trivial⟩ rfl rfl) ⟨rfl, rfl⟩
theorem sat_strings_genSplit (N : Nat) (a0 : List UInt8) (a1 : List UInt8) (a2 : Int) (a3 : Int) (r : List (List UInt8)) (h : strings_genSplit N a0 a1 a2 a3 = some r) : Sat Tryd.prog 32 noRows [.str a0, .str a1, .int .i64 a2, .int .i64 a3] (.sl 1 (List.map PV.str r)) noRows := by
  refine xsat mixed Tryd.func32 k32_cf (rs := [.sl 1 (List.map PV.str r)]) rfl rfl ?_
  refine xseq ?_
  refine xreg ?_
  refine wpp rfl rfl ?_
  refine xseq ?_
  refine xseq ?_
  refine xreg ?_
  refine wpp rfl rfl ?_
  refine wpp rfl rfl ?_
  rcases bifS h with ⟨c1, h⟩ | ⟨c1, h⟩
  · refine xcT rfl c1 ?_
    refine xseq ?_
    refine xreg ?_
    refine wpp rfl rfl ?_
    obtain rfl := someS h
    refine xretn (st1 := ⟨ofL [(8, .sl 1 (List.map PV.str []))], ofL []⟩) (Norm.trans (nsub 8 (sub_nl 1) rfl) (canon0 ⟨rfl, trivial⟩ trivial rfl rfl)) ?_
    exact ⟨nofun, rfl, rfl⟩
  · refine xcF rfl c1 ?_
    refine xskip ?_
    refine xseq ?_
    refine xseq ?_
    refine xreg ?_
    refine wpp rfl rfl ?_
    refine wpp rfl rfl ?_
    rcases bifS h with ⟨c2, h⟩ | ⟨c2, h⟩
    · refine xcT rfl c2 ?_
      refine xseq ?_
      refine xreg ?_
      refine wpp rfl rfl ?_
      refine wpp rfl rfl ?_
      obtain ⟨x18, hx18, h⟩ := bindS h
      refine woo rfl (ocal (sat_strings_explode N _ _ _ hx18) rfl (.cons sub_rfl (.cons sub_rfl .nil)) rfl rfl rfl) ?_
      refine wpp rfl rfl ?_
      obtain rfl := someS h
      refine xret ?_
      exact ⟨nofun, rfl, rfl⟩
    · refine xcF rfl c2 ?_
      refine xskip ?_
      refine xjoin (fun (x : Int) => ⟨ofL [(0, .str a0), (1, .str a1), (2, .int .i64 a2), (3, .int .i64 x)], ofL []⟩) (fun x => strings_genSplit_j18 a0 a1 a2 N x = some r) ?_ ?_
      · rintro v3j18 h
        refine xseq ?_
        refine xreg ?_
        refine wpp rfl rfl ?_
        refine wpp rfl rfl ?_
        refine wpp rfl rfl ?_
        refine wpp (p := .int .i64 (w64 ((a0.length : Int) + (1 : Int)))) rfl rfl ?_
        refine wpp (p := .int .i64 (mn v3j18 (w64 ((a0.length : Int) + (1 : Int))))) rfl rfl ?_
        refine wpp rfl rfl ?_
        refine xseq ?_
        refine xreg ?_
        refine wpp rfl rfl ?_
        obtain ⟨x31, hx31, h⟩ := bindS h
        refine wmks (f := PV.str) (e := ([] : List UInt8)) 51231 hx31 rfl rfl rfl rfl rfl rfl ?_
        refine wpp rfl rfl ?_
        refine xseq ?_
        refine xreg ?_
        refine wpp rfl rfl ?_
        refine wpp (p := .int .i64 (w64 ((mn v3j18 (w64 ((a0.length : Int) + (1 : Int)))) - (1 : Int)))) rfl rfl ?_
        refine wpp rfl rfl ?_
        refine xseq ?_
        refine xreg ?_
        refine wpp rfl rfl ?_
        refine xseq ?_
        refine xblk ?_
        obtain ⟨y6, hy6, h⟩ := bindS h
        refine xloopU (st1 := ⟨ofL [(0, .str a0), (1, .str a1), (2, .int .i64 a2), (3, .int .i64 (w64 ((mn v3j18 (w64 ((a0.length : Int) + (1 : Int)))) - (1 : Int)))), (9, .slr 51231 0 ((List.replicate x31 ([] : List UInt8)).length)), (10, .int .i64 0)], ofL [(51231, ⟨1, true, List.map PV.str (List.replicate x31 ([] : List UInt8))⟩)]⟩) (Norm.trans (nsub 9 (sub_eq (congrArg (PV.slr 51231 0) (by simp only [List.length_set, List.length_replicate] : x31 = (List.replicate x31 ([] : List UInt8)).length))) rfl) (canon0 ⟨rfl, rfl, rfl, rfl, rfl, rfl, trivial⟩ ⟨rfl, trivial⟩ rfl rfl)) (w_strings_genSplit_l34 N a0 a1 a2 v3j18 N _ _ hy6) ?_
        rintro e s ⟨rfl, rfl⟩
        refine xseq ?_
        refine xreg ?_
        refine wpp rfl rfl ?_
        refine wpp rfl rfl ?_
        refine wpp rfl rfl ?_
        obtain ⟨x61, hx61, h⟩ := bindS h
        refine wpp rfl (p_ixr hx61 rfl rfl rfl rfl) ?_
        obtain ⟨x9006, hx9006, h⟩ := bindS h
        refine wsto (f := PV.str) (e' := y6.1) hx9006 rfl rfl rfl rfl rfl rfl rfl rfl (fun _ => rfl) rfl ?_
        refine xseq ?_
        refine xreg ?_
        refine wpp rfl rfl ?_
        refine wpp rfl rfl ?_
        refine wpp (p := .int .i64 (w64 (y6.2.1 + (1 : Int)))) rfl rfl ?_
        obtain ⟨x65, hx65, h⟩ := bindS h
        refine wpp rfl (p_taker hx65 rfl (by simp only [List.length_set, List.length_replicate]) rfl rfl rfl) ?_
        refine wpp rfl rfl ?_
        obtain rfl := someS h
        refine xretn (st1 := ⟨ofL [(8, .sl 1 (List.map PV.str x65))], ofL []⟩) (Norm.trans (Vd.freeze 51231 _ rfl rfl rfl) (Norm.trans (nsub 8 (sub_eq (congrArg (PV.sl 1) (take_row hx65))) rfl) (canon0 ⟨rfl, trivial⟩ trivial rfl rfl))) ?_
        exact ⟨nofun, rfl, rfl⟩
      · skip
        refine xseq ?_
        refine xreg ?_
        refine wpp rfl rfl ?_
        refine wpp rfl rfl ?_
        rcases bifS h with ⟨c8, h⟩ | ⟨c8, h⟩
        · refine xcT rfl c8 ?_
          refine xreg ?_
          refine wpp rfl rfl ?_
          refine wpp rfl rfl ?_
          obtain ⟨x23, hx23, h⟩ := bindS h
          refine woo rfl (ocal (sat_strings_Count N _ _ _ hx23) rfl (.cons sub_rfl (.cons sub_rfl .nil)) rfl rfl rfl) ?_
          refine wpp (p := .int .i64 (w64 (x23 + (1 : Int)))) rfl rfl ?_
          refine wpp rfl rfl ?_
          exact ⟨(w64 (x23 + (1 : Int))), (canon0 ⟨rfl, rfl, rfl, rfl, trivial⟩ trivial rfl rfl), h⟩
        · refine xcF rfl c8 ?_
          refine xskip ?_
          exact ⟨a3, (canon0 ⟨rfl, rfl, rfl, rfl, trivial⟩ trivial rfl rfl), h⟩
end Go.Gp
end
section
set_option linter.unusedVariables false
set_option linter.unusedSimpArgs false
set_option maxRecDepth 4000
namespace Go.Gp
open Go.Vd Go.RowKit Go.Proofs
def k24 : IC := (.seq (.reg [⟨(some 4), (.mov (.c .nl)), none⟩]) (.seq (.reg [⟨(some 5), (.mov (.t 0)), none⟩, ⟨(some 6), (.mov (.t 1)), none⟩, ⟨(some 7), (.call 32 [(.t 5), (.t 6), (.c (.int .i64 0)), (.c (.int .i64 (-1)))]), none⟩, ⟨(some 4), (.mov (.t 7)), none⟩]) .ret))
theorem k24_cf : cfunc Tryd.prog Tryd.f24 = some ⟨8, k24, [(.tmp 4)]⟩ := by kernel_rfl
theorem sat_strings_Split (N : Nat) (a0 : List UInt8) (a1 : List UInt8) (r : List (List UInt8)) (h : strings_Split N a0 a1 = some r) : Sat Tryd.prog 24 noRows [.str a0, .str a1] (.sl 1 (List.map PV.str r)) noRows := by
  refine xsat mixed Tryd.func24 k24_cf (rs := [.sl 1 (List.map PV.str r)]) rfl rfl ?_
  refine xseq ?_
  refine xreg ?_
  refine wpp rfl rfl ?_
  refine xseq ?_
  refine xreg ?_
  refine wpp rfl rfl ?_
  refine wpp rfl rfl ?_
  obtain ⟨x7, hx7, h⟩ := bindS h
  refine woo rfl (ocal (sat_strings_genSplit N _ _ _ _ _ hx7) rfl (.cons sub_rfl (.cons sub_rfl (.cons sub_rfl (.cons sub_rfl .nil)))) rfl rfl rfl) ?_
  refine wpp rfl rfl ?_
  obtain rfl := someS h
  refine xret ?_
  exact ⟨nofun, rfl, rfl⟩
end Go.Gp
end
section
set_option linter.unusedVariables false
set_option linter.unusedSimpArgs false
set_option maxRecDepth 4000
namespace Go.Gp
open Go.Vd Go.RowKit Go.Proofs
def k16 : IC := (.seq (.reg [⟨(some 1), (.box 23 (.t 0)), none⟩, ⟨(some 2), (.mov (.c (.str []))), none⟩]) (.seq (.regd 14 [⟨(some 3), (.fda 0 (.t 1)), none⟩, ⟨(some 4), (.load 1 false (.t 3)), none⟩, ⟨(some 5), (.call 30 [(.t 4), (.c (.int .i64 10))]), none⟩, ⟨(some 6), (.bin .add (.t 5) (.c (.str [46]))), none⟩, ⟨(some 7), (.fda 1 (.t 1)), none⟩, ⟨(some 8), (.load 1 false (.t 7)), none⟩, ⟨(some 9), (.call 31 [(.t 8)]), none⟩, ⟨(some 10), (.bin .add (.t 6) (.t 9)), none⟩, ⟨(some 11), (.bin .add (.t 10) (.c (.str [46]))), none⟩, ⟨(some 12), (.fda 2 (.t 1)), none⟩, ⟨(some 13), (.load 1 false (.t 12)), none⟩, ⟨(some 14), (.call 31 [(.t 13)]), none⟩, ⟨(some 15), (.bin .add (.t 11) (.t 14)), none⟩, ⟨(some 2), (.mov (.t 15)), none⟩]) .ret))
theorem k16_cf : cfunc Tryd.prog Tryd.f16 = some ⟨16, k16, [(.tmp 2)]⟩ := by kernel_rfl
theorem sat_csn_Text (N : Nat) (a0 : api_CSN) (r : List UInt8) (h : csn_Text N a0 = some r) : Sat Tryd.prog 16 noRows [e_api_CSN a0] (.str r) noRows := by
  refine xsat mixed Tryd.func16 k16_cf (rs := [.str r]) rfl rfl ?_
  refine xseq ?_
  refine xreg ?_
  refine woo rfl (obox 25601 rfl rfl rfl rfl rfl) ?_
  refine wpp rfl rfl ?_
  refine xseq ?_
  refine xregd ?_
  refine wdp rfl rfl ?_
  refine wdp rfl rfl ?_
  obtain ⟨x5, hx5, h⟩ := bindS h
  refine wdN rfl (pcal (sat_strconv_FormatInt N _ _ _ hx5) rfl (.cons sub_rfl (.cons sub_rfl .nil)) rfl rfl rfl) no_fresh ?_
  obtain ⟨x6, hx6, h⟩ := bindS h
  refine wdp rfl (p_cat hx6 rfl rfl) ?_
  refine wdp rfl rfl ?_
  refine wdp rfl rfl ?_
  obtain ⟨x9, hx9, h⟩ := bindS h
  refine wdN rfl (pcal (sat_strconv_Itoa N _ _ hx9) rfl (.cons sub_rfl .nil) rfl rfl rfl) no_fresh ?_
  obtain ⟨x10, hx10, h⟩ := bindS h
  refine wdp rfl (p_cat hx10 rfl rfl) ?_
  obtain ⟨x11, hx11, h⟩ := bindS h
  refine wdp rfl (p_cat hx11 rfl rfl) ?_
  refine wdp rfl rfl ?_
  refine wdp rfl rfl ?_
  obtain ⟨x14, hx14, h⟩ := bindS h
  refine wdN rfl (pcal (sat_strconv_Itoa N _ _ hx14) rfl (.cons sub_rfl .nil) rfl rfl rfl) no_fresh ?_
  obtain ⟨x15, hx15, h⟩ := bindS h
  refine wdp rfl (p_cat hx15 rfl rfl) ?_
  refine wdp rfl rfl ?_
  obtain rfl := someS h
  refine xret ?_
  exact ⟨nofun, rfl, rfl⟩
end Go.Gp
end
