/- What is compiled to an operation that writes nothing does what 'pop' says. -/
import Derived.Test.YtgogpopeldnddaaVdI
set_option linter.unusedVariables false
set_option linter.unusedSimpArgs false
namespace Go.Vd
open Go.RowKit

section
variable {w : World} {O : Nat → Prop} {μ : Mu} {R : Rows} {P : Program} {s : Slots} {a : Act}

theorem bin_sound {o : Oper} {op : BinOp} {t : TypeId} {x y : Operand} {yt : TypeId} (ho : o.op = .binOp op t x y yt) {io : IOp} (h : cbin P op t x y = some io) (hs : SlotsLie w O μ R s a) {p : PV} (hp : pop s R io = some p) :
    ∃ v, (execOp a.eval o).run P w = .ok (.value v) w ∧ Rel w O μ R p v := by
  have fin : ∀ {z : Value}, (eqGuard op t x y (a.eval x) (a.eval y)).run P w = .ok () w → (binOp op t (a.eval x) (a.eval y)).run P w = .ok z w → (execOp a.eval o).run P w = .ok (.value z) w := by
    intro z h1 h2
    simp only [execOp, ho]
    simp [h1, h2]
  have plain : ∀ {f : Opd → Opd → IOp}, c2 f x y = some io → (∀ p q, pop s R (f p q) = opt2 (binv op) (p.ev s) (q.ev s)) → ∃ v, (execOp a.eval o).run P w = .ok (.value v) w ∧ Rel w O μ R p v := by
    intro f hc hf
    obtain ⟨m, n, hm, hn, rfl⟩ := c2_inv hc
    rw [hf] at hp
    obtain ⟨p1, q1, e1, e2, e3⟩ := opt2_inv hp
    have r1 := ev_rel hs hm e1
    have r2 := ev_rel hs hn e2
    obtain ⟨z, hz, hr⟩ := bin_run (P := P) op t e3 r1 r2
    exact ⟨z, fin (eqGuard_plain op t x y e3 r1) hz, .base _ _ hr⟩
  unfold cbin at h
  cases ht : P.underlying t with
  | none => simp [ht] at h
  | some d =>
    cases d <;> simp only [ht] at h <;> try cases h
    case int k => exact plain h (fun _ _ => rfl)
    case string => exact plain h (fun _ _ => rfl)
    case bool =>
      obtain ⟨ne, hne, h⟩ := Option.bind_eq_some_iff.1 h
      have hop : op = (bif ne then .neq else .eql) := by cases op <;> simp at hne <;> subst hne <;> rfl
      obtain ⟨m, n, hm, hn, rfl⟩ := c2_inv h
      obtain ⟨p1, q1, e1, e2, e3⟩ := opt2_inv hp
      have r1 := ev_rel hs hm e1
      have r2 := ev_rel hs hn e2
      obtain ⟨z, hz, hr⟩ := beq_run (P := P) ne t ht e3 r1 r2
      refine ⟨z, fin ?_ (hop ▸ hz), .base _ _ hr⟩
      cases p1 <;> simp only [beqv] at e3 <;> try cases e3
      rw [r1.bool_inv, eqGuard_at_bool]
      rfl
    case struct fs =>
      obtain ⟨ne, hne, h⟩ := Option.bind_eq_some_iff.1 h
      have hop : op = (bif ne then .neq else .eql) := by cases op <;> simp at hne <;> subst hne <;> rfl
      split at h
      · cases h
      · rename_i hg
        obtain ⟨ks, hks, h⟩ := Option.bind_eq_some_iff.1 h
        obtain ⟨m, n, hm, hn, rfl⟩ := c2_inv h
        obtain ⟨p1, q1, e1, e2, e3⟩ := opt2_inv hp
        have r1 := ev_rel hs hm e1
        have r2 := ev_rel hs hn e2
        cases p1 <;> cases q1 <;> simp only [eqsv] at e3 <;> try cases e3
        rename_i xs ys
        obtain ⟨b, hb, rfl⟩ := Option.map_eq_some_iff.1 e3
        obtain ⟨us, hu, hul, _, hur⟩ := r1.agg_inv
        obtain ⟨vs, hv, hvl, _, hvr⟩ := r2.agg_inv
        have ha : isAggT P t = some true := by simp [isAggT, ht]
        have heq := eq_kinds eqDepth t ks hks (10000 - eqDepth) xs ys us vs b ⟨hul, hur⟩ ⟨hvl, hvr⟩ hb _ _ (.inl ⟨ha, rfl⟩) (.inl ⟨ha, rfl⟩)
        have hgd : P.eqGuardType P.depth t = false := by simpa using hg
        rw [show eqDepth + (10000 - eqDepth) = 10000 from rfl] at heq
        refine ⟨.bool (xneg ne b), fin ?_ ?_, .base _ _ (.bool _)⟩
        · rw [hu, hv]; exact run_eqGuard_agg w op t x y _ _ hgd
        · rw [hu, hv, hop]
          cases ne
          · show (binOp .eql t _ _).run P w = _
            rw [run_eql_struct, heq]; rfl
          · show (binOp .neq t _ _).run P w = _
            rw [run_neq_struct, heq]; rfl
    case pointer e =>
      split at h
      · rename_i hi
        obtain ⟨i, hi⟩ := Option.isSome_iff_exists.1 hi
        obtain ⟨ne, hne, h⟩ := Option.bind_eq_some_iff.1 h
        have hop : op = (bif ne then .neq else .eql) := by cases op <;> simp at hne <;> subst hne <;> rfl
        obtain ⟨m, n, hm, hn, rfl⟩ := c2_inv h
        obtain ⟨p1, q1, e1, e2, e3⟩ := opt2_inv hp
        have r1 := ev_rel hs hm e1
        have r2 := ev_rel hs hn e2
        obtain ⟨z, hz, hr⟩ := eqn_run (P := P) ne t e i ht e3 r1 r2
        refine ⟨z, fin ?_ (hop ▸ hz), .base _ _ hr⟩
        have hpt : ∀ u, Rel w O μ R p1 u → ∃ A, u = .pointer A := by
          intro u r1
          cases p1 <;> cases q1 <;> simp only [eqnv] at e3 <;> try cases e3
          case ptr.nilp =>
            cases r1 with
            | base _ _ h' => cases h'
            | ptr => exact ⟨_, rfl⟩
          case ep.nilp => cases r1 with | base _ _ h' => cases h'; exact ⟨_, rfl⟩
          case nilp.nilp => cases r1 with | base _ _ h' => cases h'; exact ⟨_, rfl⟩
        obtain ⟨A, hA⟩ := hpt _ r1
        rw [hA, eqGuard_at_pointer]
        rfl
      · cases h

theorem cop_pop_sound {o : Oper} {io : IOp} (h : cop P o = some io) (hs : SlotsLie w O μ R s a) (hR : RowsLie w O μ R) {p : PV} (hp : pop s R io = some p) :
    ∃ v, (execOp a.eval o).run P w = .ok (.value v) w ∧ Rel w O μ R p v := by
  unfold cop at h
  cases ho : o.op <;> simp only [ho] at h <;> try cases h
  case move x =>
    obtain ⟨y, hy, rfl⟩ := c1_inv h
    exact ⟨a.eval x, by simp [execOp, ho], ev_rel hs hy hp⟩
  case assign x =>
    obtain ⟨y, hy, rfl⟩ := c1_inv h
    exact ⟨a.eval x, by simp [execOp, ho], ev_rel hs hy hp⟩
  case pick c x y =>
    cases h1 : copd c with
    | none => simp [h1] at h
    | some c' =>
      cases h2 : copd x with
      | none => simp [h1, h2] at h
      | some x' =>
        cases h3 : copd y with
        | none => simp [h1, h2, h3] at h
        | some y' =>
          simp only [h1, h2, h3, Option.some.injEq] at h
          subst h
          simp only [pop] at hp
          cases hc : c'.ev s with
          | none => simp [hc] at hp
          | some q =>
            have rc := ev_rel hs h1 hc
            cases q <;> simp only [hc] at hp <;> try cases hp
            case bool t =>
              have hcv := rc.bool_inv
              cases t
              · exact ⟨a.eval y, by simp [execOp, ho, hcv, asBool], ev_rel hs h3 hp⟩
              · exact ⟨a.eval x, by simp [execOp, ho, hcv, asBool], ev_rel hs h2 hp⟩
  case binOp op t x y yt => exact bin_sound ho h hs hp
  case unOp op t x =>
    obtain ⟨y, hy, rfl⟩ := c1_inv h
    obtain ⟨q, hq, hp⟩ := Option.bind_eq_some_iff.1 hp
    obtain ⟨z, hz, hr⟩ := un_run (P := P) op hp (ev_rel hs hy hq)
    exact ⟨z, val_of (by simp only [execOp, ho]) hz, .base _ _ hr⟩
  case convert src dst x =>
    cases hsr : P.underlying src with
    | none => simp [hsr] at h
    | some d1 =>
      cases hds : P.underlying dst with
      | none => cases d1 <;> simp [hsr, hds] at h
      | some d2 =>
        cases d1 <;> cases d2 <;> simp only [hsr, hds] at h <;> try cases h
        case int.int k k' =>
          obtain ⟨y, hy, rfl⟩ := c1_inv h
          obtain ⟨q, hq, hp⟩ := Option.bind_eq_some_iff.1 hp
          have hr := ev_rel hs hy hq
          cases q <;> simp only [cviv] at hp <;> try cases hp
          rename_i k2 n
          have hrun : (convert src dst (a.eval x)).run P w = .ok (.int k' (k'.wrap n)) w := by
            rw [hr.int_inv]
            simp [convert, run_underlying hsr, run_underlying hds, Conv.intToInt]
          exact ⟨.int k' (k'.wrap n), val_of (by simp only [execOp, ho]) hrun, .base _ _ (.int _ _)⟩
        case string.string =>
          obtain ⟨y, hy, rfl⟩ := c1_inv h
          obtain ⟨q, hq, hp⟩ := Option.bind_eq_some_iff.1 hp
          have hr := ev_rel hs hy hq
          cases q <;> simp only [cvtv] at hp <;> try cases hp
          have hrun : (convert src dst (a.eval x)).run P w = .ok (a.eval x) w := by
            rw [hr.str_inv]
            simp [convert, run_underlying hsr, run_underlying hds]
          exact ⟨_, val_of (by simp only [execOp, ho]) hrun, hr⟩
        case slice.string e =>
          split at h
          · rename_i he
            obtain ⟨y, hy, rfl⟩ := c1_inv h
            obtain ⟨q, hq, hp⟩ := Option.bind_eq_some_iff.1 hp
            have he' := isU8T_spec he
            obtain ⟨z, hz, hr⟩ := cvb_run (P := P) hsr hds he' hR (ev_rel hs hy hq) hp
            exact ⟨z, val_of (by simp only [execOp, ho]) hz, hr⟩
          · cases h
  case build t parts =>
    cases ht : P.underlying t with
    | none => simp [ht] at h
    | some d =>
      cases hz : czero P t with
      | none => cases d <;> simp [ht, hz] at h
      | some z0 =>
        obtain ⟨i, zv, hi, hzv, hzr, hzl, hzp, hzo⟩ := czero_spec hz
        cases z0 <;> (try (cases d <;> simp [ht, hz] at h; done))
        rename_i z
        obtain ⟨zs, hzs, hzsl, hzso, hzsr⟩ := (Rel.base (μ := μ) (R := R) _ _ (hzr w O)).agg_inv
        have hzero : (zeroValue t).run P w = .ok zv w := by simp [zeroValue, typeInfo, hi, hzv]
        have fin : ∀ {place : Nat → Option (Nat × Nat)}, (cparts place parts.toList).map (IOp.build z) = some io →
            (∀ {B : Array Value}, Instr.fill place zv.cells (parts.toList.map fun x => (x.1, a.eval x.2)) = some B → (Instr.build t (parts.map fun (i, x) => (i, a.eval x))).run P w = .ok (.agg B) w) →
            ∃ v, (execOp a.eval o).run P w = .ok (.value v) w ∧ Rel w O μ R p v := by
          intro place hcp hrun
          obtain ⟨q, hq, rfl⟩ := Option.map_eq_some_iff.1 hcp
          obtain ⟨hlen, hpl⟩ := cparts_len _ _ hq
          obtain ⟨r, hlay, rfl⟩ := Option.map_eq_some_iff.1 hp
          obtain ⟨B, hB, hBl, hBo, hBr⟩ := fill_run (w := w) (O := O) (μ := μ) (R := R) (place := place) (s := s) (a := a) parts.toList q z zs r hlen
            (fun j i x off sz y h1 h2 => ⟨(hpl j i x off sz y h1 h2).1, fun p hp => ev_rel hs (hpl j i x off sz y h1 h2).2 hp⟩) hzsl hzso hzsr hlay
          exact ⟨.agg B.toArray, val_of (by simp only [execOp, ho]) (hrun (by rw [hzs]; exact hB)), .agg _ _ hBl hBo hBr⟩
        cases d <;> simp only [ht, hz] at h <;> try cases h
        case struct fs =>
          split at h
          · rename_i hsz
            refine fin h fun {B} hB => ?_
            have hmap : ∀ (l : List Field), (∀ f ∈ l, (szT P f.type).isSome = true) → (l.mapM (m := Sem) fun f => do pure (f.offset, ← sizeOf f.type)).run P w = .ok (l.map fun f => (f.offset, (szT P f.type).getD 0)) w := by
              intro l hl
              induction l with
              | nil => simp
              | cons f r ih =>
                obtain ⟨n, hn⟩ := Option.isSome_iff_exists.1 (hl f (by simp))
                rw [List.mapM_cons]
                simp only [Sem.run_bind, run_szT hn, Result.andThen_ok, Sem.run_pure, ih (fun f hf => hl f (by simp [hf])), hn, List.map_cons, Option.getD_some]
            have hall : ∀ f ∈ fs.toList, (szT P f.type).isSome = true := by
              unfold sized at hsz
              exact fun f hf => List.all_eq_true.1 hsz f hf
            have hm2 : (fs.mapM (m := Sem) fun f => do pure (f.offset, ← sizeOf f.type)).run P w = .ok (fs.toList.map fun f => (f.offset, (szT P f.type).getD 0)).toArray w := by
              rw [Array.mapM_eq_mapM_toList, Sem.run_map, hmap _ hall]
              rfl
            have hplace : (fun i => ((fs.toList.map fun f => (f.offset, (szT P f.type).getD 0)).toArray)[i]?) = places P fs := by
              funext i
              unfold places
              simp only [List.getElem?_toArray, List.getElem?_map, Array.getElem?_toList]
              cases hfi : fs[i]? with
              | none => rfl
              | some f =>
                obtain ⟨n, hn⟩ := Option.isSome_iff_exists.1 (hall f (Array.mem_toList_iff.2 (Array.mem_of_getElem? hfi)))
                simp [hn]
            unfold Instr.build
            simp only [Sem.run_bind, hzero, run_underlying ht, Result.andThen_ok, hm2, hplace]
            have : ((parts.map fun (x : Nat × Operand) => (x.1, a.eval x.2)).toList) = parts.toList.map fun x => (x.1, a.eval x.2) := by simp
            rw [this, hB]
            rfl
          · cases h
        case array n e =>
          obtain ⟨sz, hsz, h⟩ := Option.bind_eq_some_iff.1 h
          refine fin h fun {B} hB => ?_
          unfold Instr.build
          simp only [Sem.run_bind, hzero, run_underlying ht, Result.andThen_ok, run_szT hsz]
          have : ((parts.map fun (x : Nat × Operand) => (x.1, a.eval x.2)).toList) = parts.toList.map fun x => (x.1, a.eval x.2) := by simp
          rw [this, hB]
          rfl
  case field t x k =>
    cases ht : P.underlying t with
    | none => simp [ht] at h
    | some d =>
      cases d <;> simp only [ht] at h <;> try cases h
      rename_i fs
      cases hf : fs[k]? with
      | none => simp [hf] at h
      | some f =>
        simp only [hf] at h
        cases hz : szT P f.type with
        | none => simp [hz] at h
        | some sz =>
          cases hag : isAggT P f.type with
          | none => simp [hz, hag] at h
          | some ag =>
            simp only [hz, hag] at h
            obtain ⟨y, hy, rfl⟩ := c1_inv h
            obtain ⟨q, hq, hp⟩ := Option.bind_eq_some_iff.1 hp
            obtain ⟨z, hzz, hr⟩ := fld_run (P := P) ht hf hag hz rfl (ev_rel hs hy hq) hp
            exact ⟨z, val_of (by simp only [execOp, ho]) hzz, hr⟩
  case fieldAddr t x k =>
    cases ht : P.underlying t with
    | none => simp [ht] at h
    | some d =>
      cases d <;> simp only [ht] at h <;> try cases h
      rename_i fs
      cases hf : fs[k]? with
      | none => simp [hf] at h
      | some f =>
        simp only [hf] at h
        cases hz : szT P f.type with
        | none => simp [hz] at h
        | some sz =>
          simp only [hz] at h
          split at h
          · cases h
          · rename_i hne
            obtain ⟨y, hy, rfl⟩ := c1_inv h
            obtain ⟨q, hq, hp⟩ := Option.bind_eq_some_iff.1 hp
            obtain ⟨z, hzz, hr⟩ := fda_run (P := P) ht hf hz hne rfl (ev_rel hs hy hq) hp
            exact ⟨z, val_of (by simp only [execOp, ho]) hzz, hr⟩
  case index t x i =>
    cases ht : P.underlying t with
    | none => simp [ht] at h
    | some d =>
      cases d <;> simp only [ht] at h <;> try cases h
      case string =>
        obtain ⟨m, n, hm, hn, rfl⟩ := c2_inv h
        obtain ⟨p1, q1, e1, e2, e3⟩ := opt2_inv hp
        obtain ⟨z, hz, hr⟩ := idxs_run (P := P) ht (ev_rel hs hm e1) (ev_rel hs hn e2) e3
        exact ⟨z, val_of (by simp only [execOp, ho]) hz, hr⟩
      case array n e =>
        cases hz : szT P e with
        | none => simp [hz] at h
        | some sz =>
          cases hag : isAggT P e with
          | none => simp [hz, hag] at h
          | some ag =>
            simp only [hz, hag] at h
            obtain ⟨m, n', hm, hn, rfl⟩ := c2_inv h
            obtain ⟨p1, q1, e1, e2, e3⟩ := opt2_inv hp
            obtain ⟨z, hzz, hr⟩ := idxa_run (P := P) ht hag hz (ev_rel hs hm e1) (ev_rel hs hn e2) e3
            exact ⟨z, val_of (by simp only [execOp, ho]) hzz, hr⟩
  case indexAddr t x i =>
    cases ht : P.underlying t with
    | none => simp [ht] at h
    | some d =>
      cases d <;> simp only [ht] at h <;> try cases h
      case slice e =>
        obtain ⟨sz, hsz, h⟩ := Option.bind_eq_some_iff.1 h
        obtain ⟨m, n, hm, hn, rfl⟩ := c2_inv h
        obtain ⟨p1, q1, e1, e2, e3⟩ := opt2_inv hp
        obtain ⟨z, hz, hr⟩ := ixp_run (P := P) ht hsz (ev_rel hs hm e1) (ev_rel hs hn e2) hR e3
        exact ⟨z, val_of (by simp only [execOp, ho]) hz, hr⟩
      case array n e =>
        obtain ⟨sz, hsz, h⟩ := Option.bind_eq_some_iff.1 h
        obtain ⟨m, n', hm, hn, rfl⟩ := c2_inv h
        obtain ⟨p1, q1, e1, e2, e3⟩ := opt2_inv hp
        obtain ⟨z, hz, hr⟩ := ixq_run (P := P) ht hsz (ev_rel hs hm e1) (ev_rel hs hn e2) e3
        exact ⟨z, val_of (by simp only [execOp, ho]) hz, hr⟩
  case slice t x lo hi mx =>
    cases mx with
    | some _ => cases h
    | none =>
      cases ht : P.underlying t with
      | none => simp [ht] at h
      | some d =>
        cases hx : copd x with
        | none => cases d <;> simp [ht, hx] at h
        | some y =>
          cases hl : copdO lo with
          | none => cases d <;> simp [ht, hx, hl] at h
          | some l =>
            cases hh : copdO hi with
            | none => cases d <;> simp [ht, hx, hl, hh] at h
            | some m =>
              cases d <;> simp only [ht, hx, hl, hh] at h <;> try cases h
              case string.refl =>
                simp only [pop] at hp
                cases e1 : evO s l with
                | none => simp [e1] at hp
                | some pl =>
                  cases e2 : evO s m with
                  | none => simp [e1, e2] at hp
                  | some pm =>
                    simp only [e1, e2] at hp
                    obtain ⟨q, hq, hp⟩ := Option.bind_eq_some_iff.1 hp
                    obtain ⟨g1, g2⟩ := evO_rel hs hl e1
                    obtain ⟨g3, g4⟩ := evO_rel hs hh e2
                    obtain ⟨z, hz, hr⟩ := slcs_run (P := P) ht (ev_rel hs hx hq) hp g1 g2 g3 g4
                    exact ⟨z, val_of (by simp only [execOp, ho, Option.map_none]) hz, hr⟩
              case slice e =>
                obtain ⟨sz, hsz, rfl⟩ := Option.map_eq_some_iff.1 h
                simp only [pop] at hp
                cases e1 : evO s l with
                | none => simp [e1] at hp
                | some pl =>
                  cases e2 : evO s m with
                  | none => simp [e1, e2] at hp
                  | some pm =>
                    simp only [e1, e2] at hp
                    obtain ⟨q, hq, hp⟩ := Option.bind_eq_some_iff.1 hp
                    obtain ⟨g1, g2⟩ := evO_rel hs hl e1
                    obtain ⟨g3, g4⟩ := evO_rel hs hh e2
                    obtain ⟨z, hz, hr⟩ := slcl_run (P := P) ht hsz hR (ev_rel hs hx hq) hp g1 g2 g3 g4
                    exact ⟨z, val_of (by simp only [execOp, ho, Option.map_none]) hz, hr⟩
  case extract x i =>
    obtain ⟨y, hy, rfl⟩ := c1_inv h
    obtain ⟨q, hq, hp⟩ := Option.bind_eq_some_iff.1 hp
    obtain ⟨z, hz, hr⟩ := ext_run (P := P) (ev_rel hs hy hq) hp
    exact ⟨z, val_of (by simp only [execOp, ho]) hz, hr⟩
  case makeFunc fn first caps =>
    cases fn <;> simp only at h <;> try cases h
    case func f =>
      split at h
      · rename_i hf
        obtain ⟨m, hm, rfl⟩ := Option.map_eq_some_iff.1 h
        obtain ⟨ps, hps, rfl⟩ := Option.map_eq_some_iff.1 hp
        have hc := evs_rel hs _ _ _ hm hps
        have hf0 : first = #[] := Array.size_eq_zero_iff.1 hf
        refine ⟨.func (.func f) #[] (caps.map a.eval), by simp [execOp, ho, hf0, Instr.makeFunc], ?_⟩
        have := Rel.clo (w := w) (O := O) (μ := μ) (R := R) f ps _ hc.len hc.rel
        have e : (caps.toList.map a.eval).toArray = caps.map a.eval := by rw [← List.map_toArray, Array.toArray_toList]
        rwa [e] at this
      · cases h
  case makeInterface t x =>
    split at h
    · rename_i ht
      obtain ⟨y, hy, rfl⟩ := c1_inv h
      obtain ⟨q, hq, hp⟩ := Option.bind_eq_some_iff.1 hp
      have hr := ev_rel hs hy hq
      refine ⟨.iface t (a.eval x), val_of (by simp only [execOp, ho]) (run_makeInterface w t _ ht), ?_⟩
      cases q <;> simp only [mkiv] at hp <;> cases hp
      · rw [hr.int_inv]; exact .base _ _ (.ifc _ _ _ (.int _ _))
      · rw [hr.bool_inv]; exact .base _ _ (.ifc _ _ _ (.bool _))
      · rw [hr.str_inv]; exact .base _ _ (.ifc _ _ _ (.str _))
    · cases h
  case nilCheck x =>
    obtain ⟨y, hy, rfl⟩ := c1_inv h
    obtain ⟨q, hq, hp⟩ := Option.bind_eq_some_iff.1 hp
    exact nck_run ho (ev_rel hs hy hq) hp
  case load t x =>
    cases hz : szT P t with
    | none => simp [hz] at h
    | some sz =>
      cases hag : isAggT P t with
      | none => simp [hz, hag] at h
      | some ag =>
        simp only [hz, hag] at h
        obtain ⟨y, hy, rfl⟩ := c1_inv h
        obtain ⟨q, hq, hp⟩ := Option.bind_eq_some_iff.1 hp
        obtain ⟨z, hzz, hr⟩ := load_run (P := P) hag hz hR (ev_rel hs hy hq) hp
        exact ⟨z, val_of (by simp only [execOp, ho]) hzz, hr⟩
  case call c =>
    unfold ccall at h
    cases hc : c.callee <;> simp only [hc] at h <;> try cases h
    case builtin b =>
      have run : ∀ {v : Value} {f : Array TypeId → TypeId → Array Value → Sem Value}, (∀ ats ty cs args, builtin b ats ty cs args = (do pure (.value (← f ats ty args)))) → (f c.argTypes o.type (c.args.map a.eval)).run P w = .ok v w → (execOp a.eval o).run P w = .ok (.value v) w := by
        intro v f hb hf
        simp only [execOp, ho, resolve, hc]
        simp [invoke, hb, hf]
      cases b <;> simp only at h <;> try cases h
      case len =>
        split at h
        · rename_i x t hx ht0
          have hargs : c.args = #[x] := by rw [← Array.toArray_toList (xs := c.args), hx]
          have htys : c.argTypes = #[t] := by rw [← Array.toArray_toList (xs := c.argTypes), ht0]
          cases ht : P.underlying t with
          | none => simp [ht] at h
          | some d =>
            cases d <;> simp only [ht] at h <;> try cases h
            case string =>
              obtain ⟨y, hy, rfl⟩ := c1_inv h
              obtain ⟨q, hq, hp⟩ := Option.bind_eq_some_iff.1 hp
              obtain ⟨z, hz, hr⟩ := lens_run (P := P) (ty := o.type) ht (ev_rel hs hy hq) hp
              exact ⟨z, run (fun _ _ _ _ => rfl) (by rw [hargs, htys]; simpa using hz), hr⟩
            case slice e =>
              obtain ⟨y, hy, rfl⟩ := c1_inv h
              obtain ⟨q, hq, hp⟩ := Option.bind_eq_some_iff.1 hp
              obtain ⟨z, hz, hr⟩ := lenl_run (P := P) (ty := o.type) ht (ev_rel hs hy hq) hp
              exact ⟨z, run (fun _ _ _ _ => rfl) (by rw [hargs, htys]; simpa using hz), hr⟩
        · cases h
      case max =>
        split at h
        · rename_i x r hx
          have hargs : c.args = (x :: r).toArray := by rw [← hx, Array.toArray_toList]
          cases h1 : copd x with
          | none => simp [h1] at h
          | some y =>
            cases h2 : copds r with
            | none => simp [h1, h2] at h
            | some q =>
              simp only [h1, h2, Option.some.injEq] at h
              subst h
              simp only [pop] at hp
              cases e1 : y.ev s with
              | none => simp [e1] at hp
              | some p1 =>
                cases e2 : evs s q with
                | none => simp [e1, e2] at hp
                | some ps =>
                  simp only [e1, e2] at hp
                  obtain ⟨z, hz, hr⟩ := mm_run (P := P) (mx := true) (t := 0) (ats := #[]) ps p1 p _ _ (ev_rel hs h1 e1) (evs_rel hs _ _ _ h2 e2) hp
                  refine ⟨z, run (f := Builtin.max_) (fun _ _ _ _ => rfl) ?_, hr⟩
                  rw [hargs]
                  simpa [Builtin.max_] using hz
        · cases h
      case min =>
        split at h
        · rename_i x r hx
          have hargs : c.args = (x :: r).toArray := by rw [← hx, Array.toArray_toList]
          cases h1 : copd x with
          | none => simp [h1] at h
          | some y =>
            cases h2 : copds r with
            | none => simp [h1, h2] at h
            | some q =>
              simp only [h1, h2, Option.some.injEq] at h
              subst h
              simp only [pop] at hp
              cases e1 : y.ev s with
              | none => simp [e1] at hp
              | some p1 =>
                cases e2 : evs s q with
                | none => simp [e1, e2] at hp
                | some ps =>
                  simp only [e1, e2] at hp
                  obtain ⟨z, hz, hr⟩ := mm_run (P := P) (mx := false) (t := 0) (ats := #[]) ps p1 p _ _ (ev_rel hs h1 e1) (evs_rel hs _ _ _ h2 e2) hp
                  refine ⟨z, run (f := Builtin.min_) (fun _ _ _ _ => rfl) ?_, hr⟩
                  rw [hargs]
                  simpa [Builtin.min_] using hz
        · cases h

end
end Go.Vd
