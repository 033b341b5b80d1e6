/- A part of the proof: a logic of values, rows and steps. -/
import Derived.Test.YtlopcglohpfonaaGreatDoorA4
section
namespace Go.Vd
abbrev jn (d : Nat) (o : LH) : Ins := ⟨some d, o, none⟩
abbrev jt (g d : Nat) (o : LH) : Ins := ⟨some d, o, some (g, true)⟩
abbrev jf (g d : Nat) (o : LH) : Ins := ⟨some d, o, some (g, false)⟩
abbrev jm (d s : Nat) : Ins := ⟨some d, .mov (.t s), none⟩
abbrev jc (d : Nat) (v : PV) : Ins := ⟨some d, .mov (.c v), none⟩
abbrev jl (d k s : Nat) : Ins := ⟨some d, .load k false (.t s), none⟩
abbrev jg (d k s : Nat) : Ins := ⟨some d, .load k true (.t s), none⟩
abbrev ja (d k s : Nat) : Ins := ⟨some d, .fda k (.t s), none⟩
abbrev jp (d a b : Nat) : Ins := ⟨some d, .pick (.t a) (.t b) (.c (.bool false)), none⟩
abbrev jo (d a b : Nat) : Ins := ⟨some d, .pick (.t a) (.c (.bool true)) (.t b), none⟩
abbrev jx (d k a b : Nat) : Ins := ⟨some d, .ixp k (.t a) (.t b), none⟩
abbrev js (k a b : Nat) : Ins := ⟨none, .store k (.t a) (.t b), none⟩
abbrev je (d k s : Nat) : Ins := ⟨some d, .ext k (.t s), none⟩
abbrev jL (d s : Nat) : Ins := ⟨some d, .len false (.t s), none⟩
abbrev jS (d s : Nat) : Ins := ⟨some d, .len true (.t s), none⟩
abbrev jb (o : BinOp) (d a b : Nat) : Ins := ⟨some d, .bin o (.t a) (.t b), none⟩
abbrev ju (o : BinOp) (d a : Nat) (n : Int) : Ins := ⟨some d, .bin o (.t a) (.c (.int .i64 n)), none⟩
abbrev ji (n : Int) : DK := .c (.int .i64 n)
abbrev jB : DK := .c (.bool true)
abbrev jA : DK := .c (.bool false)
abbrev j6 (n : Int) : PV := .int .i64 n
def jZ {α : Type} (s : Nat → Option α) : List (Nat × α) → List (Option α)
 | [] => []
 | x :: r => s x.1 :: jZ s r
def ZP {α : Type} : List (Nat × α) → List (Option α)
 | [] => []
 | x :: r => some x.2 :: ZP r
theorem VI {α : Type} {s : Nat → Option α} : ∀ {l : List (Nat × α)}, jZ s l = ZP l → JA s l
 | [], _ => trivial
 | x :: r, h => by
  injection h with h1 h2
  exact ⟨h1, VI h2⟩
section
variable {P : Program} {T : Nat → Bool}
theorem cn [AZ] {st : St} {l : List (Nat × PV)} {m : List (Nat × Row)} (hs : jZ st.s l = ZP l) (hr : jZ st.r m = ZP m) (h1 : PV.tks (fun t => (AX m t).isSome) (l.map (·.2)) = true) (h2 : LJ (fun t => (AX m t).isSome) (m.map (·.2)) = true) : BX (fun _ => false) st ⟨AX l, AX m⟩ :=
 Ls (VI hs) (VI hr) h1 h2
theorem jN [AZ] (L : List Nat) {st : St} {l : List (Nat × PV)} {m : List (Nat × Row)} (hL : wH L m = true) (hs : jZ st.s l = ZP l) (hr : jZ st.r m = ZP m) (h1 : PV.tks (fun t => (AX m t).isSome) (l.map (·.2)) = true) (h2 : LJ (fun t => (AX m t).isSome) (m.map (·.2)) = true) : BX (ZU L) st ⟨AX l, AX m⟩ :=
 Lr L hL (VI hs) (VI hr) h1 h2
theorem wq [AZ] {d : Option Nat} {op : LH} {g : Option (Nat × Bool)} {r : List Ins} {st : St} {K : St → Prop} {p : PV} (h : (UV st.s g, pop st.s st.r op) = (some true, some p)) (k : Wr P T r (st.put d p) K) : Wr P T (⟨d, op, g⟩ :: r) st K :=
 AY (congrArg Prod.fst h) (congrArg Prod.snd h) k
theorem dq [AZ] {d : Option Nat} {op : LH} {g : Option (Nat × Bool)} {r : List Ins} {st : St} {K : St → Prop} {p : PV} (h : (UV st.s g, pop st.s st.r op) = (some true, some p)) (k : jO P r (st.put d p) K) : jO P (⟨d, op, g⟩ :: r) st K :=
 LM (congrArg Prod.fst h) (congrArg Prod.snd h) k
theorem cq [AZ] {st : St} {l : List (Nat × PV)} {m : List (Nat × Row)} (h : (jZ st.s l, jZ st.r m, PV.tks (fun t => (AX m t).isSome) (l.map (·.2)), LJ (fun t => (AX m t).isSome) (m.map (·.2))) = (ZP l, ZP m, true, true)) : BX (fun _ => false) st ⟨AX l, AX m⟩ :=
 cn (congrArg (·.1) h) (congrArg (·.2.1) h) (congrArg (·.2.2.1) h) (congrArg (·.2.2.2) h)
theorem R5 [AZ] {b : IC} {st st1 : St} {Q Q' : Xt → St → Prop} (h : WX P T (.loop b) st1 Q) (hn : BX T st st1) (k : ∀ e s, Q e s → Q' e s) : WX P T (.loop b) st Q' := Fy hn h k
theorem EN [AZ] {α : Type} {t : Bool} {x y : Option α} {r : α} {c : DK} {a b : IC} {st : St} {Q : Xt → St → Prop} (h : (bif t then x else y) = some r) (hc : c.ev st.s = some (.bool t)) (ha : t = true → x = some r → WX P T a st Q) (hb : t = false → y = some r → WX P T b st Q) : WX P T (.cond c a b) st Q := by
 cases t
 ·exact xcF hc rfl (hb rfl h)
 ·exact xcT hc rfl (ha rfl h)
end
end Go.Vd
end
