-- PRINTED by print.py (a twelfth state) out of the translation. Not trusted: Lean checks it.
import Derived.Test.YthfnceilapgloaaProg
import Derived.Below
import Derived.Deep.Draws
import Derived.Deep.AppendLies
import Derived.Maps.AppendAt
import Derived.OwnWalk
import Derived.Laws.BytesArg
import Derived.Laws.MakeOwn
import Derived.Laws.OwnMore
import Derived.Deep.OwnRows
import Derived.Tactics
import Derived.Lib.ConvBytes
import Derived.Laws.Slices
import Derived.WalkKit
import Derived.KernelRfl
import Derived.RowKit3
import Derived.Deep.LoopGhost
import Derived.Deep.QuietTactic
import Derived.BigQuiet
import Derived.WideLaws
import Derived.Deep.DeepCutAuto
import Derived.Deep.CutBlock
import Derived.Deep.RegionHeld3
import Derived.Laws.Rows
import Derived.Lib.AppendStr
import Derived.ArgAppend
import Derived.Laws.IdiomCopy
import Derived.OrdersHeld
import Derived.Laws.BitsLemmas
import Derived.RowKit
import Derived.Test.YthfnceilapgloaaWWords
import Derived.Test.YthfnceilapgloaaWLast
import Derived.Test.YthfnceilapgloaaWTab
import Derived.Test.YthfnceilapgloaaWFour
import Derived.Test.YthfnceilapgloaaWQPut
import Derived.Test.YthfnceilapgloaaWApart
import Derived.Test.YthfnceilapgloaaWArr
import Derived.Test.YthfnceilapgloaaWZeros
import Derived.Test.YthfnceilapgloaaWFoot
import Derived.Test.YthfnceilapgloaaWKept
import Derived.Test.YthfnceilapgloaaWShare
import Derived.Test.YthfnceilapgloaaWN
import Derived.Test.YthfnceilapgloaaWFootNe
import Derived.Test.YthfnceilapgloaaWAt
import Derived.Test.YthfnceilapgloaaWEqStruct
import Derived.Test.YthfnceilapgloaaWRepsOne
import Derived.Test.YthfnceilapgloaaWInv
import Derived.Test.YthfnceilapgloaaWInvWords
import Derived.Test.YthfnceilapgloaaWGuard
import Derived.Test.YthfnceilapgloaaWNEv
import Derived.Test.YthfnceilapgloaaWMore
namespace Go.Proofs.Ythfnceilapgloaa.P
open Go.RowKit Go.Proofs.YthfnceilapgloaaW.PrintWords Go.Proofs.YthfnceilapgloaaW.PrintLast Go.Proofs.YthfnceilapgloaaW.PrintMore
attribute [local go_sem] max2_int min2_int max_two min_two max_three min_three max_four min_four   -- for this text's walks alone
set_option linter.unusedVariables false
set_option linter.unusedSimpArgs false



def errW : Option Int → Value
  | none => .nilIface
  | some c => .iface 0 (.int .i64 c)
theorem errW_none : errW none = .nilIface := rfl
theorem errW_some (c : Int) : errW (some c) = .iface 0 (.int .i64 c) := rfl

theorem info3 : (Try.prog.info? 3).map (fun i => (i.zero, i.size, i.bytes)) = some (some (.int .i64 0), 1, 8) := by kernel_rfl
theorem info22 : (Try.prog.info? 22).map (fun i => (i.zero, i.size, i.bytes)) = some (some (.slice none 0 0), 1, 24) := by kernel_rfl
theorem info57 : (Try.prog.info? 57).map (fun i => (i.zero, i.size, i.bytes)) = some (some (.agg #[(.int .i64 0), (.int .i64 0), (.int .i64 0)]), 3, 24) := by kernel_rfl
-- the values' own types
def rd_L1 (xs : List (List Int)) (i : Int) : (List Int) := xs.getD i.toNat ([] : List Int)
theorem at_L1 {w : World} {A : Option Addr} {n : Nat} {xs : List (List Int)} (h : Kd.C (Kd.slice 3 (Kd.int .i64)) w A n xs) (i : Int) (h0 : 0 ≤ i) (h1 : i < n) : ∃ ad A0 c0, A = some ad ∧ w.cell? (ad.add i.toNat) = some (.slice A0 (rd_L1 xs i).length c0) ∧ (rd_L1 xs i).length ≤ c0 ∧ (Kd.int .i64).C w A0 (rd_L1 xs i).length (rd_L1 xs i) := by
  obtain ⟨ad, c, e, _, hK, hc0⟩ := Kd.C_get h ([] : List Int) i h0 h1
  have hc : ∀ j u, c[j]? = some u → w.cell? (ad.add (i.toNat * 1 + j)) = some u := hc0
  obtain ⟨A0, c0, rfl, l0, g0⟩ := hK
  exact ⟨ad, A0, c0, e, by have hq := hc 0 _ rfl; rwa [Nat.mul_one, Nat.add_zero] at hq, l0, g0⟩

/-! #### struct type 57 -/
structure S57 where
  f0 : Int
  f1 : Int
  f2 : Int
def z57 : S57 := ⟨(0 : Int), (0 : Int), (0 : Int)⟩
def k57 : Kd S57 := Kd.iso (Kd.pair (Kd.int .i64) (Kd.pair (Kd.int .i64) (Kd.int .i64))) (fun x : S57 => (x.f0, x.f1, x.f2))
theorem k57_open {w : World} {x : S57} {cs : List Value} (h : k57.K w x cs) : cs = [.int .i64 x.f0, .int .i64 x.f1, .int .i64 x.f2] := by
  obtain ⟨_, _, rfl, rfl, ⟨_, _, rfl, rfl, rfl⟩⟩ := h
  exact rfl
theorem k57_openM {w : World} {base : Nat} {ok : Nat → Prop} {x : S57} {cs : List Value} (h : k57.M w base ok x cs) : cs = [.int .i64 x.f0, .int .i64 x.f1, .int .i64 x.f2] := by
  obtain ⟨_, _, rfl, rfl, ⟨_, _, rfl, rfl, rfl⟩⟩ := h
  exact rfl
theorem k57_mk (w : World) (x : S57)  : k57.K w x [.int .i64 x.f0, .int .i64 x.f1, .int .i64 x.f2] := ⟨[.int .i64 x.f0], [.int .i64 x.f1, .int .i64 x.f2], rfl, rfl, ⟨[.int .i64 x.f1], [.int .i64 x.f2], rfl, rfl, rfl⟩⟩
theorem k57_mkM (w : World) (base : Nat) (ok : Nat → Prop) (x : S57)  : k57.M w base ok x [.int .i64 x.f0, .int .i64 x.f1, .int .i64 x.f2] := ⟨[.int .i64 x.f0], [.int .i64 x.f1, .int .i64 x.f2], rfl, rfl, ⟨[.int .i64 x.f1], [.int .i64 x.f2], rfl, rfl, rfl⟩⟩
theorem k57_mkF (W : World) (ok : Nat → Prop) (x : S57) : Kd.FK k57 W ok x [.int .i64 x.f0, .int .i64 x.f1, .int .i64 x.f2] := fun W2 _ => k57_mk W2 x
def rd_T57 (xs : List S57) (i : Int) : S57 := xs.getD i.toNat z57
theorem at_T57 {w : World} {A : Option Addr} {n : Nat} {xs : List S57} (h : Kd.C k57 w A n xs) (i : Int) (h0 : 0 ≤ i) (h1 : i < n) : ∃ ad , A = some ad ∧ w.cell? (ad.add (i.toNat * 3)) = some (.int .i64 (rd_T57 xs i).f0) ∧ w.cell? ⟨(ad.add (i.toNat * 3)).block, (ad.add (i.toNat * 3)).off + 1, none⟩ = some (.int .i64 (rd_T57 xs i).f1) ∧ w.cell? ⟨(ad.add (i.toNat * 3)).block, (ad.add (i.toNat * 3)).off + 2, none⟩ = some (.int .i64 (rd_T57 xs i).f2) := by
  obtain ⟨ad, c, e, _, hK, hc0⟩ := Kd.C_get h z57 i h0 h1
  have hc : ∀ j u, c[j]? = some u → w.cell? (ad.add (i.toNat * 3 + j)) = some u := hc0
  obtain rfl := k57_open hK
  exact ⟨ad, e, hc 0 _ rfl, by rw [← add_field _ _ 1 (by omega)]; exact hc 1 _ rfl, by rw [← add_field _ _ 2 (by omega)]; exact hc 2 _ rfl⟩

theorem PB {p r : Prop} (h : r) (q : r → p := by intro h_; (with_reducible repeat (first | refine blk_drewN ?_ _ | refine blk_drew ?_ | refine blk_alloc ?_ _)); exact h_) : p := q h
theorem PB1 {p r a0 : Prop} (h : r) (e0 : a0) (q : a0 → r → p := by intro e0_ h_; (try simp only [e0_]); (with_reducible repeat (first | refine blk_drewN ?_ _ | refine blk_drew ?_ | refine blk_alloc ?_ _)); exact h_) : p := q e0 h
theorem PR {p r : Prop} (h : r) (q : r → p := by intro h_; (with_reducible repeat (first | apply Kd.R_alloc | apply Kd.R_drewN | apply Kd.R_drew)); exact h_) : p := q h
theorem PS {p r : Prop} (h : r) (q : r → p := by intro h_; (with_reducible repeat (first | apply Kd.S_alloc | apply Kd.S_drewN | apply Kd.S_drew)); exact h_) : p := q h
theorem BL {p r : Prop} (h : r) (q : r → p := by intro h_; repeat (first | (with_reducible first | exact h_ | apply below_alloc | apply pw_below_drewN | apply below_drew1 | refine below_set ?_ (Aside0.out (by assumption))) | exact h_)) : p := q h
theorem OD {p : Prop} [Decidable p] (h : decide p = true := by first | (with_reducible assumption) | assumption) : p := of_decide_eq_true h
theorem LM1 {p a0 : Prop} (e0 : a0) (q : a0 → p := by intro e0_; repeat' first | (with_reducible first | apply e0_ | exact LeO.refl _ | exact LeO.none _ | refine LeO.ite ?_ ?_ | refine LeO.bind ?_ (fun _ => ?_)) | exact LeO.none _ | refine LeO.ite ?_ ?_ | refine LeO.bind ?_ (fun _ => ?_)) : p := q e0
theorem LM2 {p a0 a1 : Prop} (e0 : a0) (e1 : a1) (q : a0 → a1 → p := by intro e0_ e1_; repeat' first | (with_reducible first | apply e0_ | apply e1_ | exact LeO.refl _ | exact LeO.none _ | refine LeO.ite ?_ ?_ | refine LeO.bind ?_ (fun _ => ?_)) | exact LeO.none _ | refine LeO.ite ?_ ?_ | refine LeO.bind ?_ (fun _ => ?_)) : p := q e0 e1
theorem LM3 {p a0 a1 a2 : Prop} (e0 : a0) (e1 : a1) (e2 : a2) (q : a0 → a1 → a2 → p := by intro e0_ e1_ e2_; repeat' first | (with_reducible first | apply e0_ | apply e1_ | apply e2_ | exact LeO.refl _ | exact LeO.none _ | refine LeO.ite ?_ ?_ | refine LeO.bind ?_ (fun _ => ?_)) | exact LeO.none _ | refine LeO.ite ?_ ?_ | refine LeO.bind ?_ (fun _ => ?_)) : p := q e0 e1 e2
theorem LM4 {p a0 a1 a2 a3 : Prop} (e0 : a0) (e1 : a1) (e2 : a2) (e3 : a3) (q : a0 → a1 → a2 → a3 → p := by intro e0_ e1_ e2_ e3_; repeat' first | (with_reducible first | apply e0_ | apply e1_ | apply e2_ | apply e3_ | exact LeO.refl _ | exact LeO.none _ | refine LeO.ite ?_ ?_ | refine LeO.bind ?_ (fun _ => ?_)) | exact LeO.none _ | refine LeO.ite ?_ ?_ | refine LeO.bind ?_ (fun _ => ?_)) : p := q e0 e1 e2 e3
theorem E1 {p a0 : Prop} (x0 : a0) (k : Aside0 a0 → p) : p := k ⟨x0⟩
theorem E2 {p a0 a1 : Prop} (x0 : a0) (x1 : a1) (k : Aside0 a0 → Aside0 a1 → p) : p := k ⟨x0⟩ ⟨x1⟩
theorem E3 {p a0 a1 a2 : Prop} (x0 : a0) (x1 : a1) (x2 : a2) (k : Aside0 a0 → Aside0 a1 → Aside0 a2 → p) : p := k ⟨x0⟩ ⟨x1⟩ ⟨x2⟩
theorem E4 {p a0 a1 a2 a3 : Prop} (x0 : a0) (x1 : a1) (x2 : a2) (x3 : a3) (k : Aside0 a0 → Aside0 a1 → Aside0 a2 → Aside0 a3 → p) : p := k ⟨x0⟩ ⟨x1⟩ ⟨x2⟩ ⟨x3⟩
theorem E5 {p a0 a1 a2 a3 a4 : Prop} (x0 : a0) (x1 : a1) (x2 : a2) (x3 : a3) (x4 : a4) (k : Aside0 a0 → Aside0 a1 → Aside0 a2 → Aside0 a3 → Aside0 a4 → p) : p := k ⟨x0⟩ ⟨x1⟩ ⟨x2⟩ ⟨x3⟩ ⟨x4⟩
theorem E6 {p a0 a1 a2 a3 a4 a5 : Prop} (x0 : a0) (x1 : a1) (x2 : a2) (x3 : a3) (x4 : a4) (x5 : a5) (k : Aside0 a0 → Aside0 a1 → Aside0 a2 → Aside0 a3 → Aside0 a4 → Aside0 a5 → p) : p := k ⟨x0⟩ ⟨x1⟩ ⟨x2⟩ ⟨x3⟩ ⟨x4⟩ ⟨x5⟩
theorem E7 {p a0 a1 a2 a3 a4 a5 a6 : Prop} (x0 : a0) (x1 : a1) (x2 : a2) (x3 : a3) (x4 : a4) (x5 : a5) (x6 : a6) (k : Aside0 a0 → Aside0 a1 → Aside0 a2 → Aside0 a3 → Aside0 a4 → Aside0 a5 → Aside0 a6 → p) : p := k ⟨x0⟩ ⟨x1⟩ ⟨x2⟩ ⟨x3⟩ ⟨x4⟩ ⟨x5⟩ ⟨x6⟩
theorem E8 {p a0 a1 a2 a3 a4 a5 a6 a7 : Prop} (x0 : a0) (x1 : a1) (x2 : a2) (x3 : a3) (x4 : a4) (x5 : a5) (x6 : a6) (x7 : a7) (k : Aside0 a0 → Aside0 a1 → Aside0 a2 → Aside0 a3 → Aside0 a4 → Aside0 a5 → Aside0 a6 → Aside0 a7 → p) : p := k ⟨x0⟩ ⟨x1⟩ ⟨x2⟩ ⟨x3⟩ ⟨x4⟩ ⟨x5⟩ ⟨x6⟩ ⟨x7⟩
theorem E10 {p a0 a1 a2 a3 a4 a5 a6 a7 a8 a9 : Prop} (x0 : a0) (x1 : a1) (x2 : a2) (x3 : a3) (x4 : a4) (x5 : a5) (x6 : a6) (x7 : a7) (x8 : a8) (x9 : a9) (k : Aside0 a0 → Aside0 a1 → Aside0 a2 → Aside0 a3 → Aside0 a4 → Aside0 a5 → Aside0 a6 → Aside0 a7 → Aside0 a8 → Aside0 a9 → p) : p := k ⟨x0⟩ ⟨x1⟩ ⟨x2⟩ ⟨x3⟩ ⟨x4⟩ ⟨x5⟩ ⟨x6⟩ ⟨x7⟩ ⟨x8⟩ ⟨x9⟩
theorem E11 {p a0 a1 a2 a3 a4 a5 a6 a7 a8 a9 a10 : Prop} (x0 : a0) (x1 : a1) (x2 : a2) (x3 : a3) (x4 : a4) (x5 : a5) (x6 : a6) (x7 : a7) (x8 : a8) (x9 : a9) (x10 : a10) (k : Aside0 a0 → Aside0 a1 → Aside0 a2 → Aside0 a3 → Aside0 a4 → Aside0 a5 → Aside0 a6 → Aside0 a7 → Aside0 a8 → Aside0 a9 → Aside0 a10 → p) : p := k ⟨x0⟩ ⟨x1⟩ ⟨x2⟩ ⟨x3⟩ ⟨x4⟩ ⟨x5⟩ ⟨x6⟩ ⟨x7⟩ ⟨x8⟩ ⟨x9⟩ ⟨x10⟩
theorem cz2 {w : World} {g : Nat} {t : TypeId} {v0 v1 : Value} (h : w.heap[g]? = some (.cells #[v0, v1] t (0, 0))) : w.cell? ⟨g, 0, none⟩ = some v0 ∧ w.cell? ⟨g, 1, none⟩ = some v1 ∧ w.frozen? ⟨g, 0, none⟩ = false ∧ w.frozen? ⟨g, 1, none⟩ = false := ⟨(blk_cell h 0).trans rfl, (blk_cell h 1).trans rfl, blk_frozen h 0, blk_frozen h 1⟩
theorem cz3 {w : World} {g : Nat} {t : TypeId} {v0 v1 v2 : Value} (h : w.heap[g]? = some (.cells #[v0, v1, v2] t (0, 0))) : w.cell? ⟨g, 0, none⟩ = some v0 ∧ w.cell? ⟨g, 1, none⟩ = some v1 ∧ w.cell? ⟨g, 2, none⟩ = some v2 ∧ w.frozen? ⟨g, 0, none⟩ = false ∧ w.frozen? ⟨g, 1, none⟩ = false ∧ w.frozen? ⟨g, 2, none⟩ = false := ⟨(blk_cell h 0).trans rfl, (blk_cell h 1).trans rfl, (blk_cell h 2).trans rfl, blk_frozen h 0, blk_frozen h 1, blk_frozen h 2⟩
theorem bindA {α β : Type} {x : Option α} {g : α → Option β} {r : β} (h : x.bind g = some r) : ∃ t, Aside0 (x = some t) ∧ g t = some r := by obtain ⟨t, a, b⟩ := Option.bind_eq_some_iff.mp h; exact ⟨t, ⟨a⟩, b⟩
theorem ifN {β : Type} {p : Prop} [Decidable p] {a : Option β} {r : β} (h : (if p then a else none) = some r) : decide p = true ∧ a = some r := by
  by_cases c : p
  · rw [if_pos c] at h; exact ⟨decide_eq_true c, h⟩
  · rw [if_neg c] at h; cases h
theorem ifP {β : Type} {p : Prop} [Decidable p] {a : Option β} {r : β} (h : (if p then a else none) = some r) : p ∧ a = some r := by
  by_cases c : p
  · rw [if_pos c] at h; exact ⟨c, h⟩
  · rw [if_neg c] at h; cases h
theorem ifPf {p : Prop} [Decidable p] {a : Option Bool} (h : (if p then a else some false) = some true) : p ∧ a = some true := by
  by_cases c : p
  · rw [if_pos c] at h; exact ⟨c, h⟩
  · rw [if_neg c] at h; cases h
theorem ifB {β : Type} {p : Prop} [Decidable p] {a b r : β} (h : (if p then a else b) = r) : decide p = true ∧ a = r ∨ decide p = false ∧ b = r := by
  by_cases c : p
  · rw [if_pos c] at h; exact .inl ⟨decide_eq_true c, h⟩
  · rw [if_neg c] at h; exact .inr ⟨decide_eq_false c, h⟩
theorem ifQ {β : Type} {p : Prop} [Decidable p] {a b r : β} (h : (if p then a else b) = r) : p ∧ a = r ∨ ¬ p ∧ b = r := by
  by_cases c : p
  · rw [if_pos c] at h; exact .inl ⟨c, h⟩
  · rw [if_neg c] at h; exact .inr ⟨c, h⟩
theorem ifX {β : Type} {p : Bool} {a b r : β} (h : (if p = true then a else b) = r) : p = true ∧ a = r ∨ p = false ∧ b = r := by
  cases p
  · rw [if_neg (by decide)] at h; exact .inr ⟨rfl, h⟩
  · rw [if_pos rfl] at h; exact .inl ⟨rfl, h⟩
theorem ifT {β : Type} {p : Bool} {a b r : β} (h : (if p = true then a else b) = r) (hb : ¬ b = r) : p = true ∧ a = r := by
  cases p
  · rw [if_neg (by decide)] at h; exact absurd h hb
  · exact ⟨rfl, by rw [if_pos rfl] at h; exact h⟩
theorem ifF {β : Type} {p : Bool} {a b r : β} (h : (if p = true then a else b) = r) (ha : ¬ a = r) : p = false ∧ b = r := by
  cases p
  · exact ⟨rfl, by rw [if_neg (by decide)] at h; exact h⟩
  · rw [if_pos rfl] at h; exact absurd h ha
theorem nameB {α β : Type} {x : α} {g : α → Option β} {r : β} (h : (some x).bind g = some r) : ∃ y, Aside0 (y = x) ∧ g y = some r := ⟨x, ⟨rfl⟩, h⟩
theorem gwM {g n m : Nat} (hg : g = m) (h : n ≤ m) : n ≤ g := hg ▸ h
theorem NA {a b : Act} (h : a = b := by first | (simp only [putAll, Act.put, List.setIfInBounds_toArray, List.set_cons_zero, List.set_cons_succ]; done) | (simp only [putAll, Act.put, List.setIfInBounds_toArray, List.set_cons_zero, List.set_cons_succ]; rfl)) : a = b := h
theorem RF {p : Prop} (h : p := by first | rfl | (simp [errW_none, errW_some] <;> rfl) | (simp [*, errW_none, errW_some] <;> rfl)) : p := h
theorem RG {p : Prop} (h : p := by first | rfl | (simp; done) | (simp [*]; done)) : p := h
theorem DR {p : Prop} (h : p := by repeat (first | exact Drawn0.refl _ | apply Drawn0.step)) : p := h
theorem CB {p r : Prop} (h : r) (q : r → p := by intro h_; repeat (first | exact h_ | (with_reducible refine Kd.C_alloc ?_ _) | (with_reducible refine Kd.C_drewN ?_ _) | (with_reducible refine Kd.C_drew ?_))) : p := q h
theorem bB {w0 W w1 : World} {g : Nat} {o : Obj} (h : w0.heap[g]? = some o) (hb : Below W.heap.size W w1) (q : w0.heap[g]? = some o → W.heap[g]? = some o := by intro h_; (with_reducible repeat (first | refine blk_drewN ?_ _ | refine blk_drew ?_ | refine blk_alloc ?_ _)); exact h_) : w1.heap[g]? = some o := blk_below (q h) hb
theorem bG {w0 W w1 : World} {g : Nat} {o : Obj} {row : Option Nat} (h : w0.heap[g]? = some o) (hg : W.grownBy w1 row) (hne : some g ≠ row) (q : w0.heap[g]? = some o → W.heap[g]? = some o := by intro h_; (with_reducible repeat (first | refine blk_drewN ?_ _ | refine blk_drew ?_ | refine blk_alloc ?_ _)); exact h_) : w1.heap[g]? = some o := blk_grown (q h) hg hne
theorem nB {w0 W : World} {g g1 : Nat} {o : Obj} (h : w0.heap[g]? = some o) (hg : g1 = W.heap.size) (q : w0.heap[g]? = some o → W.heap[g]? = some o := by intro h_; (with_reducible repeat (first | refine blk_drewN ?_ _ | refine blk_drew ?_ | refine blk_alloc ?_ _)); exact h_) : g ≠ g1 := hg ▸ Nat.ne_of_lt (blk_lt (q h))
theorem nC {w0 W : World} {g g1 : Nat} {o : Obj} (h : w0.heap[g]? = some o) (hg : g1 = W.heap.size) (q : w0.heap[g]? = some o → W.heap[g]? = some o := by intro h_; (with_reducible repeat (first | refine blk_drewN ?_ _ | refine blk_drew ?_ | refine blk_alloc ?_ _)); exact h_) : g1 ≠ g := hg ▸ Nat.ne_of_gt (blk_lt (q h))
theorem E4b {w w0 W w1 : World} {g : Nat} {o : Obj} {p : Prop} (h : Below w.heap.size w w0) (hg : g = W.heap.size) (hbox : w1.heap[g]? = some o) (hb : Below W.heap.size W w1) (k : Aside0 (Below w.heap.size w w1) → Aside0 (w1.heap[g]? = some o) → Aside0 (w.heap.size ≤ g) → Aside0 (w.heap.size ≤ g) → p) (q : Below w.heap.size w w0 → Below w.heap.size w W := by intro h_; repeat (first | (with_reducible first | exact h_ | apply below_alloc | apply pw_below_drewN | apply below_drew1 | refine below_set ?_ (Aside0.out (by assumption))) | exact h_)) : p := k ⟨below_step (q h) hb⟩ ⟨hbox⟩ ⟨hg ▸ below_size (q h)⟩ ⟨hg ▸ below_size (q h)⟩
theorem bfar {w : World} {g b i : Nat} {t : TypeId} {cs : Array Value} {u : Value} (n : g ≠ b) (h : w.heap[g]? = some (.cells cs t (0, 0))) : (w.setCell ⟨b, i, none⟩ u).heap[g]? = some (.cells cs t (0, 0)) := blk_far h n u
theorem PF0 {p r  : Prop}  (h : r) (q : r → p := by intro  h_; (with_reducible repeat (first | apply blk_drewN | apply blk_drew | apply blk_alloc | apply blk_put)); exact h_; all_goals (try rfl)) : p := q  h
theorem PF1 {p r a0 : Prop} (e0 : a0) (h : r) (q : a0 → r → p := by intro e0_ h_; (with_reducible repeat (first | apply blk_drewN | apply blk_drew | apply blk_alloc | apply bfar e0_ | apply blk_put)); exact h_; all_goals (try rfl)) : p := q e0 h
theorem KL {W W1 W2 : World} {S S1 : Nat → Prop} (h : Kept W W1 S) (q : Kept W W1 S → Kept W W2 S1 := by intro h_; repeat (first | (with_reducible first | exact h_ | apply Kept.alloc | apply Kept.drewN | apply Kept.drew | refine Kept.setCell ?_ (.inr (Aside0.out (by assumption))) _) | exact h_)) : Kept W W2 S1 := q h
theorem gX {w w0 W : World} {g : Nat} (h : Below w.heap.size w w0) (hg : g = W.heap.size) (q : Below w.heap.size w w0 → Below w.heap.size w W := by intro h_; repeat (first | (with_reducible first | exact h_ | apply below_alloc | apply pw_below_drewN | apply below_drew1 | refine below_set ?_ (Aside0.out (by assumption))) | exact h_)) : w.heap.size ≤ g := hg ▸ below_size (q h)
theorem bS {w w0 W w1 : World} (h : Below w.heap.size w w0) (hb : Below W.heap.size W w1) (q : Below w.heap.size w w0 → Below w.heap.size w W := by intro h_; repeat (first | (with_reducible first | exact h_ | apply below_alloc | apply pw_below_drewN | apply below_drew1 | refine below_set ?_ (Aside0.out (by assumption))) | exact h_)) : Below w.heap.size w w1 := below_step (q h) hb
theorem bZ {w w0 W : World} (h : Below w.heap.size w w0) (q : Below w.heap.size w w0 → Below w.heap.size w W := by intro h_; repeat (first | (with_reducible first | exact h_ | apply below_alloc | apply pw_below_drewN | apply below_drew1 | refine below_set ?_ (Aside0.out (by assumption))) | exact h_)) : w.heap.size ≤ W.heap.size := below_size (q h)
theorem rB {α : Type} {K : Kd α} {t n : Nat} {w0 W w1 : World} {ok : Nat → Prop} {v : Value} {xs : List α} (h : Kd.R K t w0 n ok v xs) (hb : Below W.heap.size W w1) (q : Kd.R K t w0 n ok v xs → Kd.R K t W n ok v xs := by intro h_; (with_reducible repeat (first | apply Kd.R_alloc | apply Kd.R_drewN | apply Kd.R_drew)); exact h_) : Kd.R K t w1 n ok v xs := Kd.R_below (q h) hb
theorem sB {α : Type} {K : Kd α} {t n : Nat} {w0 W w1 : World} {ok : Nat → Prop} {v : Value} {xs : List α} (h : Kd.S K t w0 n ok v xs) (hb : Below W.heap.size W w1) (q : Kd.S K t w0 n ok v xs → Kd.S K t W n ok v xs := by intro h_; (with_reducible repeat (first | apply Kd.S_alloc | apply Kd.S_drewN | apply Kd.S_drew)); exact h_) : Kd.S K t w1 n ok v xs := Kd.S_below (q h) hb
theorem CF2 {W : World} {g b j i0 i1 : Nat} {u0 u1 : Value} {r : Option Value} (n : g ≠ b) (h : W.cell? ⟨g, j, none⟩ = r) : ((W.setCell ⟨b, i0, none⟩ u0).setCell ⟨b, i1, none⟩ u1).cell? ⟨g, j, none⟩ = r := ((cell_far (p := ⟨b, _, none⟩) n _).trans ((cell_far (p := ⟨b, _, none⟩) n _).trans h))
abbrev Yy : Bool := true
abbrev Zz : Bool := false
section
variable {P : Program} {md : Region.Mode} {ops : Array Oper} {Q : Exit → Act → World → Prop} {S : World → Prop} {ds : List Nat} {T : Bool × List (List Nat × List Nat)} {B : List Nat}
theorem pureF (i : Nat) {N : Option Tmp} {oi : Oper} {v : Value} {fuel : Nat} {l l' : Array Bool} {a a' : Act} {w : World} (hT : rtab md ops = T) (h : wpAnyLast P md ops Q S ds fuel l' a' w) (hi : ops[i]? = some oi := by exact rfl) (hN : oi.dst = N := by exact rfl) (_hl : l.setIfInBounds i true = l' := by simp only [List.setIfInBounds_toArray, List.set_cons_zero, List.set_cons_succ]; rfl) (hc : anyT T l.toList l'.toList i = true := by kernel_rfl) (hgd : Region.wanted oi (yielded ops a.tmps) = true := by rfl) (hy : ∀ w', (execOp a.eval oi).run P w' = .ok (.value v) w' := by intro w'; go_simp; with_reducible rfl) (hQ : ∀ c a w, Q (.panic c) (a.put oi.dst v) w → Q (.panic c) a w := by exact fun _ _ _ h => h) (ha : a.put N v = a' := by simp only [Act.put, List.setIfInBounds_toArray, List.set_cons_zero, List.set_cons_succ, i64_w, i32_w]; rfl) : wpAnyLast P md ops Q S ds (fuel + 1) l a w := pure_ l' hi hN (any_of hT hc) hQ (Or.inl ⟨hgd, hy⟩) ha h
theorem takeE (i : Nat) {N : Option Tmp} {oi : Oper} {v : Value} {fuel : Nat} {l l' : Array Bool} {a a' : Act} {w : World} (hT : rtab md ops = T) (hB : waitsOk T.2 B = true) (hS : S w) (h : wpAnyLast P md ops Q S ds fuel l' a' w) (hi : ops[i]? = some oi := by exact rfl) (hN : oi.dst = N := by exact rfl) (_hl : l.setIfInBounds i true = l' := by simp only [List.setIfInBounds_toArray, List.set_cons_zero, List.set_cons_succ]; rfl) (hc : takeW T B ds l.toList l'.toList i = true := by kernel_rfl) (hgd : Region.wanted oi (yielded ops a.tmps) = true := by rfl) (hy : ∀ w', S w' → (execOp a.eval oi).run P w' = .ok (.value v) w' := by intro w' hs_; repeat (obtain ⟨_, hs_⟩ := hs_); go_simp; with_reducible rfl) (hQ : ∀ c a w, Q (.panic c) (a.put oi.dst v) w → Q (.panic c) a w := by exact fun _ _ _ h => h) (ha : a.put N v = a' := by simp only [Act.put, List.setIfInBounds_toArray, List.set_cons_zero, List.set_cons_succ, i64_w, i32_w]; rfl) : wpAnyLast P md ops Q S ds (fuel + 1) l a w := take_ l' hi hN (take_ofW hT hB hc) hQ (Or.inl ⟨hgd, hy⟩) hS ha h
theorem takeF (i : Nat) {N : Option Tmp} {oi : Oper} {v : Value} {fuel : Nat} {l l' : Array Bool} {a a' : Act} {w : World} (hS : S w) (h : wpAnyLast P md ops Q S ds fuel l' a' w) (hi : ops[i]? = some oi := by exact rfl) (hN : oi.dst = N := by exact rfl) (_hl : l.setIfInBounds i true = l' := by simp only [List.setIfInBounds_toArray, List.set_cons_zero, List.set_cons_succ]; rfl) (hc : takeB md ops ds l l' i = true := by kernel_rfl) (hgd : Region.wanted oi (yielded ops a.tmps) = true := by rfl) (hy : ∀ w', S w' → (execOp a.eval oi).run P w' = .ok (.value v) w' := by intro w' hs_; repeat (obtain ⟨_, hs_⟩ := hs_); go_simp; with_reducible rfl) (hQ : ∀ c a w, Q (.panic c) (a.put oi.dst v) w → Q (.panic c) a w := by exact fun _ _ _ h => h) (ha : a.put N v = a' := by simp only [Act.put, List.setIfInBounds_toArray, List.set_cons_zero, List.set_cons_succ, i64_w, i32_w]; rfl) : wpAnyLast P md ops Q S ds (fuel + 1) l a w := take_ l' hi hN hc hQ (Or.inl ⟨hgd, hy⟩) hS ha h
end
theorem RPE {α : Type} {K : Kd α} {t n : Nat} {w W : World} {ok : Nat → Prop} {v : Value} {xs : List α} (h : Kd.R K t w n ok v xs) (q : Kd.R K t w n ok v xs → Kd.R K t W n ok v xs := by intro h_; (with_reducible repeat (first | apply Kd.R_alloc | apply Kd.R_drewN | apply Kd.R_drew)); exact h_) : Kd.R K t W n ok v xs := q h
theorem RQ {α : Type} {K : Kd α} {t n : Nat} {w : World} {ok : Nat → Prop} {v : Value} {xs : List α} (g i : Nat) (h : Kd.R K t w n (fun k => ok k ∧ k ≠ g) v xs) (u : Value) : Kd.R K t (w.setCell ⟨g, i, none⟩ u) n (fun k => ok k ∧ k ≠ g) v xs := Kd.R_far (p := ⟨g, i, none⟩) h (fun _ hk => hk.2) u
theorem SPE {α : Type} {K : Kd α} {t n : Nat} {w W : World} {ok : Nat → Prop} {v : Value} {xs : List α} (h : Kd.S K t w n ok v xs) (q : Kd.S K t w n ok v xs → Kd.S K t W n ok v xs := by intro h_; (with_reducible repeat (first | apply Kd.S_alloc | apply Kd.S_drewN | apply Kd.S_drew)); exact h_) : Kd.S K t W n ok v xs := q h
section
variable {P : Program} {ops : Array Oper} {rest : List Oper} {o : Oper} {a : Act} {Q : Exit → Act → World → Prop}
theorem boxE {W : World} {N : Tmp} {cs : Array Value} {t : TypeId} (h : ∀ g, g = W.heap.size → ∀ w1, w1.heap[g]? = some (.cells cs t (0, 0)) → Below W.heap.size W w1 → wpList P ops Q rest (a.put o.dst (.pointer (some ⟨g, 0, none⟩))) w1) (hd : o.dst = some N := by rfl) (hgd : o.guard = none := by rfl) (hrun : (execOp a.eval o).run P W = .ok (.value (.pointer (some ⟨W.heap.size, 0, none⟩))) (W.alloc (.cells cs t (0, 0))) := by first | (go_simp; done) | (go_simp; rfl)) : wpList P ops Q (o :: rest) a W := box_event hgd hd hrun h
theorem goesM {N : Option Tmp} {f : FuncId} {fn : Func} {xs_ : Array Operand} {ts : Array TypeId} {W : World} (args : Array Value) (hf : P.funcs[f]? = some fn) (h : Calls P f args W fun e w' => ∃ v, e = .returned v ∧ wpList P ops Q rest (a.put N v) w') (hd : o.dst = N := by exact rfl) (hg : o.guard = none := by exact rfl) (hname : (fn.name == "runtime.NumGoroutine") = false := by kernel_rfl) (hb : fn.body.isSome = true := by exact rfl) (hop : o.op = .call { callee := .value (.func f), args := xs_, argTypes := ts } := by exact rfl) (hargs : xs_.map a.eval = args := by ((try simp only [List.map_toArray, List.map_cons, List.map_nil]); first | done | rfl | (simp only [List.length_drop, List.length_take]; rfl))) : wpList P ops Q (o :: rest) a W := goesL_ N hd hg hf hname hb args hop hargs h
theorem storeE {W w1 : World} {t : TypeId} {p : Tmp} {v : Operand} (h : ∀ w', w' = w1 → wpList P ops Q rest a w') (ho : o.op = .store t (.tmp p) v := by rfl) (hgd : o.guard = none := by rfl) (hN : o.dst = none := by rfl) (hrun : (execOp a.eval o).run P W = .ok .skip w1 := by first | (go_simp; done) | (go_simp; rfl)) : wpList P ops Q (o :: rest) a W := store_event hgd ho hN hrun h
end


end Go.Proofs.Ythfnceilapgloaa.P
