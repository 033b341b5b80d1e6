/- The statement is proved for every input: the row's theorem; no conditions. -/
import Derived.Test.YtgjeiamilppafaaDoorA7
import Derived.Test.YtgjeiamilppafaaDoorA9
import Derived.Test.YtgjeiamilppafaaDoorA11
import Derived.Test.YtgjeiamilppafaaDoorRows
import Derived.WalkKit
import Derived.ProofKit
import Derived.OpenShut
import Derived.ShutString
import Derived.ChangeOld
import Derived.Below
import Derived.SizedLaws
import Derived.Test.YtgjeiamilppafaaDoorCards
import Derived.Test.YtgjeiamilppafaaDoorTie
import Derived.LaidMore
import Derived.Lay
import Derived.SevenTiedAt
import Derived.Stop.Joined
section
namespace Go.Proofs.YtgjeiamilppafaaDoor.csnTells
open Go.ChangeShapes Go.WideShapes Go.ChangeAt Go.RowKit
set_option linter.unusedVariables false
theorem own : ownKnob Tryd.prog.godebug = none := by kernel_rfl
theorem laidOut : laidOutB Tryd.prog = true := by kernel_rfl
set_option maxRecDepth 100000 in
theorem lifted (os : Os) (started : os.Started) (H : Type) (enc : TypeId × Value → H) :
    ReturnsInHanded {} Tryd.checked os 3 .any (fun w args => (Rows.csnTellsSpec.pre enc Tryd.prog Tryd.f3 Rows.csnTellsRow.domain false w args ∧ laidMetH Tryd.prog Rows.csnTellsRow.laid w) ∧ sizedMet enc Tryd.prog Tryd.f3 (OpenSpec.ofChange Rows.csnTellsSpec) false w args)
      (Rows.csnTellsSpec.post enc Tryd.prog Tryd.f3 false true false false) := by
  refine returnsInHanded_of_change_and (C := Tryd.checked) (X := fun w _ => laidMetH Tryd.prog Rows.csnTellsRow.laid w) (fun _ _ _ hh h => h.of_heap hh) own started (by kernel_rfl) Tryd.func3
    (ChangeSpec.witness_shaped (enc := enc) (C := Tryd.checked) (os := os) (X := fun w _ => laidMetH Tryd.prog Rows.csnTellsRow.laid w) false (World.laidAll Tryd.prog os Rows.csnTellsRow.laid) #[.agg #[.int .i64 0, .int .i64 0, .int .i64 0], .agg #[.int .i64 0, .int .i64 0, .int .i64 0], .string ByteArray.empty] 8 (World.laidAll_os _ _ _)
      (World.shaped_of_ZipB (by kernel_rfl) (by kernel_rfl)) (by kernel_rfl) (by kernel_rfl) (by kernel_rfl)
      (by rw [MakeChecks.laidMetH_plain _ _ _ (by kernel_rfl)]; exact laidMet_laidAll _ (by kernel_rfl) (by kernel_rfl))) ?_
  intro W base args ds gs before hval0 hW hcnd hsz0 hL _
  have hval : ∀ (j : Nat) t v, Tryd.f3.params[j]? = some t → args[j]? = some v → Value.okWide Tryd.prog W .any base t v := hval0
  have hW' := hW
  obtain ⟨p, q, hA0, hV, rfl, hfz, hnd⟩ := hW
  have hA : DataW.TrodAll enc Tryd.prog W 0 (fun _ => true) true Tryd.f3.params.toList args.toList ds p := hA0
  rw [Tryd.params3] at hA hval
  obtain ⟨v0, vs0, d0, ds0, p0, q0, hargs, rfl, rfl, h0, r0⟩ := trodAll_cons hA
  obtain ⟨v1, vs1, d1, ds1, p1, q1, rfl, rfl, rfl, h1, r1⟩ := trodAll_cons r0
  obtain ⟨v2, vs2, d2, ds2, p2, q2, rfl, rfl, rfl, h2, r2⟩ := trodAll_cons r1
  obtain ⟨rfl, rfl, rfl⟩ := trodAll_nil r2
  obtain rfl : args = #[v0, v1, v2] := by cases args; simp_all
  obtain ⟨rfl, rfl⟩ := trodVars_none hV
  obtain ⟨z0, c0, s0, l0⟩ := Vd.open_agg Gp.okTypes Tryd.underlying23 (ts := [2, 3, 3]) (by kernel_rfl) (by intro u hu e he; simp only [List.mem_cons, List.not_mem_nil, or_false] at hu; rcases hu with rfl | rfl | rfl <;> first | (rw [Tryd.underlying2] at he; cases he) | (rw [Tryd.underlying3] at he; cases he)) (hval 0 23 v0 rfl rfl) h0
  obtain ⟨a0, w0, b0⟩ := Gp.op23 z0 c0 s0
  have l0' : Vd.Rel0 W (fun _ => False) (.agg z0) v0 := l0
  rw [show Vd.PV.agg z0 = _ from w0] at l0'
  have t0 : ∀ x ∈ p0, x.block < W.heap.size := by have k := h0; obtain ⟨m, hm⟩ := k; exact DataW.trod_lt m _ _ _ hm
  obtain ⟨z1, c1, s1, l1⟩ := Vd.open_agg Gp.okTypes Tryd.underlying23 (ts := [2, 3, 3]) (by kernel_rfl) (by intro u hu e he; simp only [List.mem_cons, List.not_mem_nil, or_false] at hu; rcases hu with rfl | rfl | rfl <;> first | (rw [Tryd.underlying2] at he; cases he) | (rw [Tryd.underlying3] at he; cases he)) (hval 1 23 v1 rfl rfl) h1
  obtain ⟨a1, w1, b1⟩ := Gp.op23 z1 c1 s1
  have l1' : Vd.Rel0 W (fun _ => False) (.agg z1) v1 := l1
  rw [show Vd.PV.agg z1 = _ from w1] at l1'
  have t1 : ∀ x ∈ p1, x.block < W.heap.size := by have k := h1; obtain ⟨m, hm⟩ := k; exact DataW.trod_lt m _ _ _ hm
  obtain ⟨z2, s2, l2⟩ := Vd.open_leaf Gp.okTypes (by kernel_rfl) (by intro e he; rw [Tryd.underlying9] at he; cases he) (by kernel_rfl) (hval 2 9 v2 rfl rfl) h2
  obtain ⟨a2, rfl, b2⟩ := Gp.op9 s2
  have t2 : ∀ x ∈ p2, x.block < W.heap.size := by have k := h2; obtain ⟨m, hm⟩ := k; exact DataW.trod_lt m _ _ _ hm
  clear hA0 hval0 hsz0
  obtain ⟨N, hN⟩ := Gp.law_prefectlaw10_CsnTells a0 a1 a2 b0 b1 b2
  refine ((Gp.sat_prefectlaw10_CsnTells N a0 a1 a2 true hN).below (W := W) (Vd.cells_cons l0' (Vd.cells_cons l1' (Vd.cells_cons l2 Vd.cells_nil))) (Gp.glob_ok W hL)).mono fun e W' ⟨he, bel⟩ => ?_
  subst he
  exact ⟨_, rfl, _, _, _, [], _, [], hW', trodAll_mk1 (shut_bool Tryd.underlying4 _), (trodAll_cons_mk (Below.trod laidOut (by kernel_rfl) (of_decide_eq_true (by kernel_rfl)) h0 bel t0) (trodAll_cons_mk (Below.trod laidOut (by kernel_rfl) (of_decide_eq_true (by kernel_rfl)) h1 bel t1) (trodAll_cons_mk (Below.trod laidOut (by kernel_rfl) (of_decide_eq_true (by kernel_rfl)) h2 bel t2) trodAll_mk0))), rfl, bel.frame _, fun h => by cases h⟩
theorem over : Rows.csnTellsRow.holds Tryd.pinned (OpenSpec.ofChange Rows.csnTellsSpec) :=
  OpenClaim.holds_of_wide 3 Tryd.f3 rfl rfl rfl rfl rfl rfl rfl ⟨rfl, rfl, rfl, rfl, rfl⟩ rfl rfl rfl rfl rfl (by kernel_rfl) Tryd.func3 (by kernel_rfl)
    (of_decide_eq_true (by kernel_rfl)) (by unfold Func.isWrapper; first | (rw [if_pos (by decide +kernel)]; kernel_rfl) | (rw [if_neg (by decide +kernel)]; exact ⟨rfl, rfl⟩))
    (fun os started H enc _ => lifted os started H enc)
end Go.Proofs.YtgjeiamilppafaaDoor.csnTells
namespace Go.Proofs.YtgjeiamilppafaaDoor
theorem csnTells_holds : Rows.CsnTellsCardSaid :=
  Claim7.holds_tied_plain_at .later [] [.data, .data, .data, .data, .sentinel, .sentinel, .pinned] true (true, "172030732d2c2c8c5d5b8d827ead5fd628dfcc9947eb23a186e2070c0f7ad929") true csnTells.over (fun _ h => by cases h) (by kernel_rfl) (fun _ h => by cases h) csnTells_row_tie rfl ⟨rfl, rfl⟩ (by kernel_rfl) rfl
    (fun f fn hf hfn => by
      obtain rfl : f = 3 := Option.some.inj ((show Tryd.prog.funcNamed "prefect/prefectlaw10.CsnTells" = some 3 by kernel_rfl).symm.trans hf) |>.symm
      obtain rfl : fn = Tryd.f3 := (Option.some.inj (Tryd.func3.symm.trans hfn)).symm
      exact ⟨by kernel_rfl, fun j t ht => by
        rw [Tryd.params3] at ht
        have hm : t ∈ [23, 23, 9] := by simpa using Array.mem_of_getElem? ht
        have hall : ([23, 23, 9].all fun u => !Tryd.prog.wantsStandIn u) = true := by kernel_rfl
        exact (show Tryd.prog.wantsStandIn t = false by simpa using List.all_eq_true.1 hall t hm)⟩)
    (by kernel_rfl)
end Go.Proofs.YtgjeiamilppafaaDoor
end
