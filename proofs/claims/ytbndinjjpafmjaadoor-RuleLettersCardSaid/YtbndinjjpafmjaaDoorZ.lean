/- The statement is proved for every input: the row's theorem; no conditions. -/
import Derived.Test.YtbndinjjpafmjaaDoorA8
import Derived.Test.YtbndinjjpafmjaaDoorA13
import Derived.Test.YtbndinjjpafmjaaDoorA15
import Derived.Test.YtbndinjjpafmjaaDoorRows
import Derived.WalkKit
import Derived.ProofKit
import Derived.OpenShut
import Derived.ShutString
import Derived.ChangeOld
import Derived.Below
import Derived.SizedLaws
import Derived.Test.YtbndinjjpafmjaaDoorCards
import Derived.Test.YtbndinjjpafmjaaDoorTie
import Derived.LaidMore
import Derived.Lay
import Derived.SevenTiedAt
import Derived.Stop.Joined
section
namespace Go.Proofs.YtbndinjjpafmjaaDoor.ruleLetters
open Go.ChangeShapes Go.WideShapes Go.ChangeAt Go.RowKit
set_option linter.unusedVariables false
theorem own : ownKnob Tryd.prog.godebug = none := by kernel_rfl
theorem laidOut : laidOutB Tryd.prog = true := by kernel_rfl
set_option maxRecDepth 100000 in
theorem lifted (os : Os) (started : os.Started) (H : Type) (enc : TypeId × Value → H) :
    ReturnsInHanded {} Tryd.checked os 8 .any (fun w args => (Rows.ruleLettersSpec.pre enc Tryd.prog Tryd.f8 Rows.ruleLettersRow.domain false w args ∧ laidMetH Tryd.prog Rows.ruleLettersRow.laid w) ∧ sizedMet enc Tryd.prog Tryd.f8 (OpenSpec.ofChange Rows.ruleLettersSpec) false w args)
      (Rows.ruleLettersSpec.post enc Tryd.prog Tryd.f8 false true false false) := by
  refine returnsInHanded_of_change_and (C := Tryd.checked) (X := fun w _ => laidMetH Tryd.prog Rows.ruleLettersRow.laid w) (fun _ _ _ hh h => h.of_heap hh) own started (by kernel_rfl) Tryd.func8
    (ChangeSpec.witness_shaped (enc := enc) (C := Tryd.checked) (os := os) (X := fun w _ => laidMetH Tryd.prog Rows.ruleLettersRow.laid w) false (World.laidAll Tryd.prog os Rows.ruleLettersRow.laid) #[.int .u8 0, .int .u8 0, .int .u8 0, .bool false, .bool false] 8 (World.laidAll_os _ _ _)
      (World.shaped_of_ZipB (by kernel_rfl) (by kernel_rfl)) (by kernel_rfl) (by kernel_rfl) (by kernel_rfl)
      (by rw [MakeChecks.laidMetH_plain _ _ _ (by kernel_rfl)]; exact laidMet_laidAll _ (by kernel_rfl) (by kernel_rfl))) ?_
  intro W base args ds gs before hval0 hW hcnd hsz0 hL _
  have hval : ∀ (j : Nat) t v, Tryd.f8.params[j]? = some t → args[j]? = some v → Value.okWide Tryd.prog W .any base t v := hval0
  have hW' := hW
  obtain ⟨p, q, hA0, hV, rfl, hfz, hnd⟩ := hW
  have hA : DataW.TrodAll enc Tryd.prog W 0 (fun _ => true) true Tryd.f8.params.toList args.toList ds p := hA0
  rw [Tryd.params8] at hA hval
  obtain ⟨v0, vs0, d0, ds0, p0, q0, hargs, rfl, rfl, h0, r0⟩ := trodAll_cons hA
  obtain ⟨v1, vs1, d1, ds1, p1, q1, rfl, rfl, rfl, h1, r1⟩ := trodAll_cons r0
  obtain ⟨v2, vs2, d2, ds2, p2, q2, rfl, rfl, rfl, h2, r2⟩ := trodAll_cons r1
  obtain ⟨v3, vs3, d3, ds3, p3, q3, rfl, rfl, rfl, h3, r3⟩ := trodAll_cons r2
  obtain ⟨v4, vs4, d4, ds4, p4, q4, rfl, rfl, rfl, h4, r4⟩ := trodAll_cons r3
  obtain ⟨rfl, rfl, rfl⟩ := trodAll_nil r4
  obtain rfl : args = #[v0, v1, v2, v3, v4] := by cases args; simp_all
  obtain ⟨rfl, rfl⟩ := trodVars_none hV
  obtain ⟨z0, s0, l0⟩ := Vd.open_leaf Gp.okTypes (by kernel_rfl) (by intro e he; rw [Tryd.underlying5] at he; cases he) (by kernel_rfl) (hval 0 5 v0 rfl rfl) h0
  obtain ⟨a0, rfl, b0⟩ := Gp.op5 s0
  have t0 : ∀ x ∈ p0, x.block < W.heap.size := by have k := h0; obtain ⟨m, hm⟩ := k; exact DataW.trod_lt m _ _ _ hm
  obtain ⟨z1, s1, l1⟩ := Vd.open_leaf Gp.okTypes (by kernel_rfl) (by intro e he; rw [Tryd.underlying5] at he; cases he) (by kernel_rfl) (hval 1 5 v1 rfl rfl) h1
  obtain ⟨a1, rfl, b1⟩ := Gp.op5 s1
  have t1 : ∀ x ∈ p1, x.block < W.heap.size := by have k := h1; obtain ⟨m, hm⟩ := k; exact DataW.trod_lt m _ _ _ hm
  obtain ⟨z2, s2, l2⟩ := Vd.open_leaf Gp.okTypes (by kernel_rfl) (by intro e he; rw [Tryd.underlying5] at he; cases he) (by kernel_rfl) (hval 2 5 v2 rfl rfl) h2
  obtain ⟨a2, rfl, b2⟩ := Gp.op5 s2
  have t2 : ∀ x ∈ p2, x.block < W.heap.size := by have k := h2; obtain ⟨m, hm⟩ := k; exact DataW.trod_lt m _ _ _ hm
  obtain ⟨z3, s3, l3⟩ := Vd.open_leaf Gp.okTypes (by kernel_rfl) (by intro e he; rw [Tryd.underlying4] at he; cases he) (by kernel_rfl) (hval 3 4 v3 rfl rfl) h3
  obtain ⟨a3, rfl, b3⟩ := Gp.op4 s3
  have t3 : ∀ x ∈ p3, x.block < W.heap.size := by have k := h3; obtain ⟨m, hm⟩ := k; exact DataW.trod_lt m _ _ _ hm
  obtain ⟨z4, s4, l4⟩ := Vd.open_leaf Gp.okTypes (by kernel_rfl) (by intro e he; rw [Tryd.underlying4] at he; cases he) (by kernel_rfl) (hval 4 4 v4 rfl rfl) h4
  obtain ⟨a4, rfl, b4⟩ := Gp.op4 s4
  have t4 : ∀ x ∈ p4, x.block < W.heap.size := by have k := h4; obtain ⟨m, hm⟩ := k; exact DataW.trod_lt m _ _ _ hm
  clear hA0 hval0 hsz0
  obtain ⟨N, hN⟩ := Gp.law_prefectlaw18_RuleLetters a0 a1 a2 a3 a4 b0 b1 b2 b3 b4
  refine ((Gp.sat_prefectlaw18_RuleLetters N a0 a1 a2 a3 a4 true hN).below (W := W) (Vd.cells_cons l0 (Vd.cells_cons l1 (Vd.cells_cons l2 (Vd.cells_cons l3 (Vd.cells_cons l4 Vd.cells_nil)))))).mono fun e W' ⟨he, bel⟩ => ?_
  subst he
  exact ⟨_, rfl, _, _, _, [], _, [], hW', trodAll_mk1 (shut_bool Tryd.underlying4 _), (trodAll_cons_mk (Below.trod laidOut (by kernel_rfl) (of_decide_eq_true (by kernel_rfl)) h0 bel t0) (trodAll_cons_mk (Below.trod laidOut (by kernel_rfl) (of_decide_eq_true (by kernel_rfl)) h1 bel t1) (trodAll_cons_mk (Below.trod laidOut (by kernel_rfl) (of_decide_eq_true (by kernel_rfl)) h2 bel t2) (trodAll_cons_mk (Below.trod laidOut (by kernel_rfl) (of_decide_eq_true (by kernel_rfl)) h3 bel t3) (trodAll_cons_mk (Below.trod laidOut (by kernel_rfl) (of_decide_eq_true (by kernel_rfl)) h4 bel t4) trodAll_mk0))))), rfl, bel.frame _, fun h => by cases h⟩
theorem over : Rows.ruleLettersRow.holds Tryd.pinned (OpenSpec.ofChange Rows.ruleLettersSpec) :=
  OpenClaim.holds_of_wide 8 Tryd.f8 rfl rfl rfl rfl rfl rfl rfl ⟨rfl, rfl, rfl, rfl, rfl⟩ rfl rfl rfl rfl rfl (by kernel_rfl) Tryd.func8 (by kernel_rfl)
    (of_decide_eq_true (by kernel_rfl)) (by unfold Func.isWrapper; first | (rw [if_pos (by decide +kernel)]; kernel_rfl) | (rw [if_neg (by decide +kernel)]; exact ⟨rfl, rfl⟩))
    (fun os started H enc _ => lifted os started H enc)
end Go.Proofs.YtbndinjjpafmjaaDoor.ruleLetters
namespace Go.Proofs.YtbndinjjpafmjaaDoor
theorem ruleLetters_holds : Rows.RuleLettersCardSaid :=
  Claim7.holds_tied_plain_at .later [] [.data, .pinned] true (true, "c1bbbffd4bd783031514a793929996bb4572e902e1b454edb797af885e61f8be") false ruleLetters.over (fun _ h => by cases h) (by kernel_rfl) (fun _ h => by cases h) ruleLetters_row_tie rfl ⟨rfl, rfl⟩ (by kernel_rfl) rfl
    (fun f fn hf hfn => by
      obtain rfl : f = 8 := Option.some.inj ((show Tryd.prog.funcNamed "prefect/prefectlaw18.RuleLetters" = some 8 by kernel_rfl).symm.trans hf) |>.symm
      obtain rfl : fn = Tryd.f8 := (Option.some.inj (Tryd.func8.symm.trans hfn)).symm
      exact ⟨by kernel_rfl, fun j t ht => by
        rw [Tryd.params8] at ht
        have hm : t ∈ [5, 5, 5, 4, 4] := by simpa using Array.mem_of_getElem? ht
        have hall : ([5, 5, 5, 4, 4].all fun u => !Tryd.prog.wantsStandIn u) = true := by kernel_rfl
        exact (show Tryd.prog.wantsStandIn t = false by simpa using List.all_eq_true.1 hall t hm)⟩)
    (by kernel_rfl)
end Go.Proofs.YtbndinjjpafmjaaDoor
end
