--MINI
-- PRINTED by print.py (a twelfth state) out of the translation. Not trusted: Lean checks it.
import Derived.Test.YtbpfdbjnnlmdjaaProg
import Derived.Below
import Derived.Deep.Draws
import Derived.Deep.AppendLies
import Derived.Maps.AppendAt
import Derived.OwnWalk
import Derived.Laws.BytesArg
import Derived.Laws.MakeOwn
import Derived.Laws.OwnMore
import Derived.Deep.OwnRows
import Derived.Tactics
import Derived.Lib.ConvBytes
import Derived.Laws.Slices
import Derived.WalkKit
import Derived.KernelRfl
import Derived.RowKit3
import Derived.Deep.LoopGhost
import Derived.Deep.QuietTactic
import Derived.BigQuiet
import Derived.WideLaws
import Derived.Deep.DeepCutAuto
import Derived.Deep.CutBlock
import Derived.Deep.RegionHeld3
import Derived.Laws.Rows
import Derived.Lib.AppendStr
import Derived.ArgAppend
import Derived.Laws.IdiomCopy
import Derived.OrdersHeld
import Derived.Laws.BitsLemmas
import Derived.RowKit
import Derived.Test.YtbpfdbjnnlmdjaaWWords
import Derived.Test.YtbpfdbjnnlmdjaaWLast
import Derived.Test.YtbpfdbjnnlmdjaaWTab
import Derived.Test.YtbpfdbjnnlmdjaaWFour
import Derived.Test.YtbpfdbjnnlmdjaaWQPut
import Derived.Test.YtbpfdbjnnlmdjaaWApart
import Derived.Test.YtbpfdbjnnlmdjaaWArr
import Derived.Test.YtbpfdbjnnlmdjaaWZeros
import Derived.Test.YtbpfdbjnnlmdjaaWFoot
import Derived.Test.YtbpfdbjnnlmdjaaWKept
import Derived.Test.YtbpfdbjnnlmdjaaWShare
import Derived.Test.YtbpfdbjnnlmdjaaWN
import Derived.Test.YtbpfdbjnnlmdjaaWFootNe
import Derived.Test.YtbpfdbjnnlmdjaaWAt
import Derived.Test.YtbpfdbjnnlmdjaaWEqStruct
import Derived.Test.YtbpfdbjnnlmdjaaWRepsOne
import Derived.Test.YtbpfdbjnnlmdjaaWInv
import Derived.Test.YtbpfdbjnnlmdjaaWInvWords
import Derived.Test.YtbpfdbjnnlmdjaaWGuard
import Derived.Test.YtbpfdbjnnlmdjaaWNEv
import Derived.Test.YtbpfdbjnnlmdjaaWMore
namespace Go.Proofs.Ytbpfdbjnnlmdjaa.P
open Go.RowKit Go.Proofs.YtbpfdbjnnlmdjaaW.PrintWords Go.Proofs.YtbpfdbjnnlmdjaaW.PrintLast Go.Proofs.YtbpfdbjnnlmdjaaW.PrintMore
attribute [local go_sem] rQ rR vR vS pO pQ rT rU   -- for this text's walks alone
set_option linter.unusedVariables false
set_option linter.unusedSimpArgs false



def ar8 : Option Int → Value
  | none => .nilIface
  | some c => .iface 0 (.int .i64 c)
theorem iC : ar8 none = .nilIface := rfl
theorem iD (c : Int) : ar8 (some c) = .iface 0 (.int .i64 c) := rfl

theorem info3 : (Try.prog.info? 3).map (fun i => (i.zero, i.size, i.bytes)) = some (some (.int .i64 0), 1, 8) := by kernel_rfl
theorem Ab : (Try.prog.info? 38).map (fun i => (i.zero, i.size, i.bytes)) = some (some (.slice none 0 0), 1, 24) := by kernel_rfl
theorem Tc : (Try.prog.info? 83).map (fun i => (i.zero, i.size, i.bytes)) = some (some (.agg #[(.int .i64 0), (.int .i64 0)]), 2, 16) := by kernel_rfl
-- the values' own types
structure Ei where
  f0 : Int
  f1 : Int
def z85 : Ei := ⟨(0 : Int), (0 : Int)⟩
def Vi : Kd Ei := Kd.iso (Kd.pair (Kd.int .i64) (Kd.int .i64)) (fun x : Ei => (x.f0, x.f1))
theorem asa : Kd.Heap Vi := Kd.Qr _ (Kd.MW (Kd.uU .i64) (Kd.uU .i64))
theorem aaa {w : World} {x : Ei} {cs : List Value} (h : Vi.K w x cs) : cs = [.int .i64 x.f0, .int .i64 x.f1] := by
  obtain ⟨_, _, rfl, rfl, rfl⟩ := h
  exact rfl
theorem aqZ {w : World} {base : Nat} {ok : Nat → Prop} {x : Ei} {cs : List Value} (h : Vi.M w base ok x cs) : cs = [.int .i64 x.f0, .int .i64 x.f1] := by
  obtain ⟨_, _, rfl, rfl, rfl⟩ := h
  exact rfl
theorem aD6 (w : World) (x : Ei)  : Vi.K w x [.int .i64 x.f0, .int .i64 x.f1] := ⟨[.int .i64 x.f0], [.int .i64 x.f1], rfl, rfl, rfl⟩
theorem azp (w : World) (base : Nat) (ok : Nat → Prop) (x : Ei)  : Vi.M w base ok x [.int .i64 x.f0, .int .i64 x.f1] := ⟨[.int .i64 x.f0], [.int .i64 x.f1], rfl, rfl, rfl⟩
def yE (xs : List Ei) (i : Int) : Ei := xs.getD i.toNat z85
theorem amP {w : World} {A : Option Addr} {n : Nat} {xs : List Ei} (h : Kd.C Vi w A n xs) (i : Int) (h0 : 0 ≤ i) (h1 : i < n) : ∃ ad , A = some ad ∧ w.cell? (ad.add (i.toNat * 2)) = some (.int .i64 (yE xs i).f0) ∧ w.cell? ⟨(ad.add (i.toNat * 2)).block, (ad.add (i.toNat * 2)).off + 1, none⟩ = some (.int .i64 (yE xs i).f1) := by
  obtain ⟨ad, c, e, _, hK, hc0⟩ := Kd.aab h z85 i h0 h1
  have hc : ∀ j u, c[j]? = some u → w.cell? (ad.add (i.toNat * 2 + j)) = some u := hc0
  obtain rfl := aaa hK
  exact ⟨ad, e, hc 0 _ rfl, by rw [← MX _ _ 1 (by omega)]; exact hc 1 _ rfl⟩

structure fq where
  f0 : Int
  f1 : Int
def z83 : fq := ⟨(0 : Int), (0 : Int)⟩
def jZ : Kd fq := Kd.iso (Kd.pair (Kd.int .i64) (Kd.int .i64)) (fun x : fq => (x.f0, x.f1))
theorem asb : Kd.Heap jZ := Kd.Qr _ (Kd.MW (Kd.uU .i64) (Kd.uU .i64))
theorem aac {w : World} {x : fq} {cs : List Value} (h : jZ.K w x cs) : cs = [.int .i64 x.f0, .int .i64 x.f1] := by
  obtain ⟨_, _, rfl, rfl, rfl⟩ := h
  exact rfl
theorem jY {w : World} {base : Nat} {ok : Nat → Prop} {x : fq} {cs : List Value} (h : jZ.M w base ok x cs) : cs = [.int .i64 x.f0, .int .i64 x.f1] := by
  obtain ⟨_, _, rfl, rfl, rfl⟩ := h
  exact rfl
theorem aD7 (w : World) (x : fq)  : jZ.K w x [.int .i64 x.f0, .int .i64 x.f1] := ⟨[.int .i64 x.f0], [.int .i64 x.f1], rfl, rfl, rfl⟩
theorem uE (w : World) (base : Nat) (ok : Nat → Prop) (x : fq)  : jZ.M w base ok x [.int .i64 x.f0, .int .i64 x.f1] := ⟨[.int .i64 x.f0], [.int .i64 x.f1], rfl, rfl, rfl⟩
def aj (xs : List fq) (i : Int) : fq := xs.getD i.toNat z83
theorem iP {w : World} {A : Option Addr} {n : Nat} {xs : List fq} (h : Kd.C jZ w A n xs) (i : Int) (h0 : 0 ≤ i) (h1 : i < n) : ∃ ad , A = some ad ∧ w.cell? (ad.add (i.toNat * 2)) = some (.int .i64 (aj xs i).f0) ∧ w.cell? ⟨(ad.add (i.toNat * 2)).block, (ad.add (i.toNat * 2)).off + 1, none⟩ = some (.int .i64 (aj xs i).f1) := by
  obtain ⟨ad, c, e, _, hK, hc0⟩ := Kd.aab h z83 i h0 h1
  have hc : ∀ j u, c[j]? = some u → w.cell? (ad.add (i.toNat * 2 + j)) = some u := hc0
  obtain rfl := aac hK
  exact ⟨ad, e, hc 0 _ rfl, by rw [← MX _ _ 1 (by omega)]; exact hc 1 _ rfl⟩

def aT (xs : List (List Int)) (i : Int) : (List Int) := xs.getD i.toNat ([] : List Int)
theorem tT {w : World} {A : Option Addr} {n : Nat} {xs : List (List Int)} (h : Kd.C (Kd.slice 3 (Kd.int .i64)) w A n xs) (i : Int) (h0 : 0 ≤ i) (h1 : i < n) : ∃ ad A0 c0, A = some ad ∧ w.cell? (ad.add i.toNat) = some (.slice A0 (aT xs i).length c0) ∧ (aT xs i).length ≤ c0 ∧ (Kd.int .i64).C w A0 (aT xs i).length (aT xs i) := by
  obtain ⟨ad, c, e, _, hK, hc0⟩ := Kd.aab h ([] : List Int) i h0 h1
  have hc : ∀ j u, c[j]? = some u → w.cell? (ad.add (i.toNat * 1 + j)) = some u := hc0
  obtain ⟨A0, c0, rfl, l0, g0⟩ := hK
  exact ⟨ad, A0, c0, e, by have hq := hc 0 _ rfl; rwa [Nat.mul_one, Nat.add_zero] at hq, l0, g0⟩

theorem PB {p r : Prop} (h : r) (q : r → p := by intro h_; (with_reducible repeat (first | refine ak ?_ _ | refine ag ?_ | refine au ?_ _)); exact h_) : p := q h
theorem Er {p r a0 : Prop} (h : r) (e0 : a0) (q : a0 → r → p := by intro BO h_; (try simp only [BO]); (with_reducible repeat (first | refine ak ?_ _ | refine ag ?_ | refine au ?_ _)); exact h_) : p := q e0 h
theorem HY {p r a0 a1 : Prop} (h : r) (e0 : a0) (e1 : a1) (q : a0 → a1 → r → p := by intro BO I1 h_; (try simp only [BO]); (try simp only [I1]); (with_reducible repeat (first | refine ak ?_ _ | refine ag ?_ | refine au ?_ _)); exact h_) : p := q e0 e1 h
theorem PB3 {p r a0 a1 a2 : Prop} (h : r) (e0 : a0) (e1 : a1) (e2 : a2) (q : a0 → a1 → a2 → r → p := by intro BO I1 Qs h_; (try simp only [BO]); (try simp only [I1]); (try simp only [Qs]); (with_reducible repeat (first | refine ak ?_ _ | refine ag ?_ | refine au ?_ _)); exact h_) : p := q e0 e1 e2 h
theorem SC {p r a0 a1 a2 a3 : Prop} (h : r) (e0 : a0) (e1 : a1) (e2 : a2) (e3 : a3) (q : a0 → a1 → a2 → a3 → r → p := by intro BO I1 Qs e3_ h_; (try simp only [BO]); (try simp only [I1]); (try simp only [Qs]); (try simp only [e3_]); (with_reducible repeat (first | refine ak ?_ _ | refine ag ?_ | refine au ?_ _)); exact h_) : p := q e0 e1 e2 e3 h
theorem PR {p r : Prop} (h : r) (q : r → p := by intro h_; (with_reducible repeat (first | apply Kd.aV | apply Kd.aW | apply Kd.aQ)); exact h_) : p := q h
theorem ER {p r a0 : Prop} (h : r) (e0 : a0) (q : a0 → r → p := by intro BO h_; (try simp only [BO]); (with_reducible repeat (first | apply Kd.aV | apply Kd.aW | apply Kd.aQ)); exact h_) : p := q e0 h
theorem MZ {p r a0 a1 : Prop} (h : r) (e0 : a0) (e1 : a1) (q : a0 → a1 → r → p := by intro BO I1 h_; (try simp only [BO]); (try simp only [I1]); (with_reducible repeat (first | apply Kd.aV | apply Kd.aW | apply Kd.aQ)); exact h_) : p := q e0 e1 h
theorem PR3 {p r a0 a1 a2 : Prop} (h : r) (e0 : a0) (e1 : a1) (e2 : a2) (q : a0 → a1 → a2 → r → p := by intro BO I1 Qs h_; (try simp only [BO]); (try simp only [I1]); (try simp only [Qs]); (with_reducible repeat (first | apply Kd.aV | apply Kd.aW | apply Kd.aQ)); exact h_) : p := q e0 e1 e2 h
theorem X5 {p r a0 a1 a2 a3 : Prop} (h : r) (e0 : a0) (e1 : a1) (e2 : a2) (e3 : a3) (q : a0 → a1 → a2 → a3 → r → p := by intro BO I1 Qs e3_ h_; (try simp only [BO]); (try simp only [I1]); (try simp only [Qs]); (try simp only [e3_]); (with_reducible repeat (first | apply Kd.aV | apply Kd.aW | apply Kd.aQ)); exact h_) : p := q e0 e1 e2 e3 h
theorem PS {p r : Prop} (h : r) (q : r → p := by intro h_; (with_reducible repeat (first | apply Kd.jF | apply Kd.jG | apply Kd.iV)); exact h_) : p := q h
theorem PS1 {p r a0 : Prop} (h : r) (e0 : a0) (q : a0 → r → p := by intro BO h_; (try simp only [BO]); (with_reducible repeat (first | apply Kd.jF | apply Kd.jG | apply Kd.iV)); exact h_) : p := q e0 h
theorem PS2 {p r a0 a1 : Prop} (h : r) (e0 : a0) (e1 : a1) (q : a0 → a1 → r → p := by intro BO I1 h_; (try simp only [BO]); (try simp only [I1]); (with_reducible repeat (first | apply Kd.jF | apply Kd.jG | apply Kd.iV)); exact h_) : p := q e0 e1 h
theorem BL {p r : Prop} (h : r) (q : r → p := by intro h_; repeat (first | (with_reducible first | exact h_ | apply jB | apply j3 | apply dm | refine il ?_ (aa.out (by assumption))) | exact h_)) : p := q h
theorem OD {p : Prop} [Decidable p] (h : decide p = true := by first | (with_reducible assumption) | assumption) : p := of_decide_eq_true h
theorem BA {p a0 : Prop} (e0 : a0) (q : a0 → p := by intro BO; repeat' first | (with_reducible first | apply BO | exact dO.refl _ | exact dO.none _ | refine dO.ite ?_ ?_ | refine dO.bind ?_ (fun _ => ?_)) | exact dO.none _ | refine dO.ite ?_ ?_ | refine dO.bind ?_ (fun _ => ?_)) : p := q e0
theorem Qj {p a0 a1 : Prop} (e0 : a0) (e1 : a1) (q : a0 → a1 → p := by intro BO I1; repeat' first | (with_reducible first | apply BO | apply I1 | exact dO.refl _ | exact dO.none _ | refine dO.ite ?_ ?_ | refine dO.bind ?_ (fun _ => ?_)) | exact dO.none _ | refine dO.ite ?_ ?_ | refine dO.bind ?_ (fun _ => ?_)) : p := q e0 e1
theorem LM3 {p a0 a1 a2 : Prop} (e0 : a0) (e1 : a1) (e2 : a2) (q : a0 → a1 → a2 → p := by intro BO I1 Qs; repeat' first | (with_reducible first | apply BO | apply I1 | apply Qs | exact dO.refl _ | exact dO.none _ | refine dO.ite ?_ ?_ | refine dO.bind ?_ (fun _ => ?_)) | exact dO.none _ | refine dO.ite ?_ ?_ | refine dO.bind ?_ (fun _ => ?_)) : p := q e0 e1 e2
theorem LM4 {p a0 a1 a2 a3 : Prop} (e0 : a0) (e1 : a1) (e2 : a2) (e3 : a3) (q : a0 → a1 → a2 → a3 → p := by intro BO I1 Qs e3_; repeat' first | (with_reducible first | apply BO | apply I1 | apply Qs | apply e3_ | exact dO.refl _ | exact dO.none _ | refine dO.ite ?_ ?_ | refine dO.bind ?_ (fun _ => ?_)) | exact dO.none _ | refine dO.ite ?_ ?_ | refine dO.bind ?_ (fun _ => ?_)) : p := q e0 e1 e2 e3
theorem LM5 {p a0 a1 a2 a3 a4 : Prop} (e0 : a0) (e1 : a1) (e2 : a2) (e3 : a3) (e4 : a4) (q : a0 → a1 → a2 → a3 → a4 → p := by intro BO I1 Qs e3_ e4_; repeat' first | (with_reducible first | apply BO | apply I1 | apply Qs | apply e3_ | apply e4_ | exact dO.refl _ | exact dO.none _ | refine dO.ite ?_ ?_ | refine dO.bind ?_ (fun _ => ?_)) | exact dO.none _ | refine dO.ite ?_ ?_ | refine dO.bind ?_ (fun _ => ?_)) : p := q e0 e1 e2 e3 e4
theorem LM6 {p a0 a1 a2 a3 a4 a5 : Prop} (e0 : a0) (e1 : a1) (e2 : a2) (e3 : a3) (e4 : a4) (e5 : a5) (q : a0 → a1 → a2 → a3 → a4 → a5 → p := by intro BO I1 Qs e3_ e4_ e5_; repeat' first | (with_reducible first | apply BO | apply I1 | apply Qs | apply e3_ | apply e4_ | apply e5_ | exact dO.refl _ | exact dO.none _ | refine dO.ite ?_ ?_ | refine dO.bind ?_ (fun _ => ?_)) | exact dO.none _ | refine dO.ite ?_ ?_ | refine dO.bind ?_ (fun _ => ?_)) : p := q e0 e1 e2 e3 e4 e5
theorem LM7 {p a0 a1 a2 a3 a4 a5 a6 : Prop} (e0 : a0) (e1 : a1) (e2 : a2) (e3 : a3) (e4 : a4) (e5 : a5) (e6 : a6) (q : a0 → a1 → a2 → a3 → a4 → a5 → a6 → p := by intro BO I1 Qs e3_ e4_ e5_ e6_; repeat' first | (with_reducible first | apply BO | apply I1 | apply Qs | apply e3_ | apply e4_ | apply e5_ | apply e6_ | exact dO.refl _ | exact dO.none _ | refine dO.ite ?_ ?_ | refine dO.bind ?_ (fun _ => ?_)) | exact dO.none _ | refine dO.ite ?_ ?_ | refine dO.bind ?_ (fun _ => ?_)) : p := q e0 e1 e2 e3 e4 e5 e6
theorem E1 {p a0 : Prop} (x0 : a0) (k : aa a0 → p) : p := k ⟨x0⟩
theorem E2 {p a0 a1 : Prop} (x0 : a0) (x1 : a1) (k : aa a0 → aa a1 → p) : p := k ⟨x0⟩ ⟨x1⟩
theorem E3 {p a0 a1 a2 : Prop} (x0 : a0) (x1 : a1) (x2 : a2) (k : aa a0 → aa a1 → aa a2 → p) : p := k ⟨x0⟩ ⟨x1⟩ ⟨x2⟩
theorem E4 {p a0 a1 a2 a3 : Prop} (x0 : a0) (x1 : a1) (x2 : a2) (x3 : a3) (k : aa a0 → aa a1 → aa a2 → aa a3 → p) : p := k ⟨x0⟩ ⟨x1⟩ ⟨x2⟩ ⟨x3⟩
theorem E5 {p a0 a1 a2 a3 a4 : Prop} (x0 : a0) (x1 : a1) (x2 : a2) (x3 : a3) (x4 : a4) (k : aa a0 → aa a1 → aa a2 → aa a3 → aa a4 → p) : p := k ⟨x0⟩ ⟨x1⟩ ⟨x2⟩ ⟨x3⟩ ⟨x4⟩
theorem E6 {p a0 a1 a2 a3 a4 a5 : Prop} (x0 : a0) (x1 : a1) (x2 : a2) (x3 : a3) (x4 : a4) (x5 : a5) (k : aa a0 → aa a1 → aa a2 → aa a3 → aa a4 → aa a5 → p) : p := k ⟨x0⟩ ⟨x1⟩ ⟨x2⟩ ⟨x3⟩ ⟨x4⟩ ⟨x5⟩
theorem E7 {p a0 a1 a2 a3 a4 a5 a6 : Prop} (x0 : a0) (x1 : a1) (x2 : a2) (x3 : a3) (x4 : a4) (x5 : a5) (x6 : a6) (k : aa a0 → aa a1 → aa a2 → aa a3 → aa a4 → aa a5 → aa a6 → p) : p := k ⟨x0⟩ ⟨x1⟩ ⟨x2⟩ ⟨x3⟩ ⟨x4⟩ ⟨x5⟩ ⟨x6⟩
theorem E8 {p a0 a1 a2 a3 a4 a5 a6 a7 : Prop} (x0 : a0) (x1 : a1) (x2 : a2) (x3 : a3) (x4 : a4) (x5 : a5) (x6 : a6) (x7 : a7) (k : aa a0 → aa a1 → aa a2 → aa a3 → aa a4 → aa a5 → aa a6 → aa a7 → p) : p := k ⟨x0⟩ ⟨x1⟩ ⟨x2⟩ ⟨x3⟩ ⟨x4⟩ ⟨x5⟩ ⟨x6⟩ ⟨x7⟩
theorem E9 {p a0 a1 a2 a3 a4 a5 a6 a7 a8 : Prop} (x0 : a0) (x1 : a1) (x2 : a2) (x3 : a3) (x4 : a4) (x5 : a5) (x6 : a6) (x7 : a7) (x8 : a8) (k : aa a0 → aa a1 → aa a2 → aa a3 → aa a4 → aa a5 → aa a6 → aa a7 → aa a8 → p) : p := k ⟨x0⟩ ⟨x1⟩ ⟨x2⟩ ⟨x3⟩ ⟨x4⟩ ⟨x5⟩ ⟨x6⟩ ⟨x7⟩ ⟨x8⟩
theorem E10 {p a0 a1 a2 a3 a4 a5 a6 a7 a8 a9 : Prop} (x0 : a0) (x1 : a1) (x2 : a2) (x3 : a3) (x4 : a4) (x5 : a5) (x6 : a6) (x7 : a7) (x8 : a8) (x9 : a9) (k : aa a0 → aa a1 → aa a2 → aa a3 → aa a4 → aa a5 → aa a6 → aa a7 → aa a8 → aa a9 → p) : p := k ⟨x0⟩ ⟨x1⟩ ⟨x2⟩ ⟨x3⟩ ⟨x4⟩ ⟨x5⟩ ⟨x6⟩ ⟨x7⟩ ⟨x8⟩ ⟨x9⟩
theorem E11 {p a0 a1 a2 a3 a4 a5 a6 a7 a8 a9 Fw : Prop} (x0 : a0) (x1 : a1) (x2 : a2) (x3 : a3) (x4 : a4) (x5 : a5) (x6 : a6) (x7 : a7) (x8 : a8) (x9 : a9) (j6 : Fw) (k : aa a0 → aa a1 → aa a2 → aa a3 → aa a4 → aa a5 → aa a6 → aa a7 → aa a8 → aa a9 → aa Fw → p) : p := k ⟨x0⟩ ⟨x1⟩ ⟨x2⟩ ⟨x3⟩ ⟨x4⟩ ⟨x5⟩ ⟨x6⟩ ⟨x7⟩ ⟨x8⟩ ⟨x9⟩ ⟨j6⟩
theorem E12 {p a0 a1 a2 a3 a4 a5 a6 a7 a8 a9 Fw IJ : Prop} (x0 : a0) (x1 : a1) (x2 : a2) (x3 : a3) (x4 : a4) (x5 : a5) (x6 : a6) (x7 : a7) (x8 : a8) (x9 : a9) (j6 : Fw) (qR : IJ) (k : aa a0 → aa a1 → aa a2 → aa a3 → aa a4 → aa a5 → aa a6 → aa a7 → aa a8 → aa a9 → aa Fw → aa IJ → p) : p := k ⟨x0⟩ ⟨x1⟩ ⟨x2⟩ ⟨x3⟩ ⟨x4⟩ ⟨x5⟩ ⟨x6⟩ ⟨x7⟩ ⟨x8⟩ ⟨x9⟩ ⟨j6⟩ ⟨qR⟩
theorem E13 {p a0 a1 a2 a3 a4 a5 a6 a7 a8 a9 Fw IJ a12 : Prop} (x0 : a0) (x1 : a1) (x2 : a2) (x3 : a3) (x4 : a4) (x5 : a5) (x6 : a6) (x7 : a7) (x8 : a8) (x9 : a9) (j6 : Fw) (qR : IJ) (pz : a12) (k : aa a0 → aa a1 → aa a2 → aa a3 → aa a4 → aa a5 → aa a6 → aa a7 → aa a8 → aa a9 → aa Fw → aa IJ → aa a12 → p) : p := k ⟨x0⟩ ⟨x1⟩ ⟨x2⟩ ⟨x3⟩ ⟨x4⟩ ⟨x5⟩ ⟨x6⟩ ⟨x7⟩ ⟨x8⟩ ⟨x9⟩ ⟨j6⟩ ⟨qR⟩ ⟨pz⟩
theorem E14 {p a0 a1 a2 a3 a4 a5 a6 a7 a8 a9 Fw IJ a12 M0 : Prop} (x0 : a0) (x1 : a1) (x2 : a2) (x3 : a3) (x4 : a4) (x5 : a5) (x6 : a6) (x7 : a7) (x8 : a8) (x9 : a9) (j6 : Fw) (qR : IJ) (pz : a12) (wy : M0) (k : aa a0 → aa a1 → aa a2 → aa a3 → aa a4 → aa a5 → aa a6 → aa a7 → aa a8 → aa a9 → aa Fw → aa IJ → aa a12 → aa M0 → p) : p := k ⟨x0⟩ ⟨x1⟩ ⟨x2⟩ ⟨x3⟩ ⟨x4⟩ ⟨x5⟩ ⟨x6⟩ ⟨x7⟩ ⟨x8⟩ ⟨x9⟩ ⟨j6⟩ ⟨qR⟩ ⟨pz⟩ ⟨wy⟩
theorem E15 {p a0 a1 a2 a3 a4 a5 a6 a7 a8 a9 Fw IJ a12 M0 Qt : Prop} (x0 : a0) (x1 : a1) (x2 : a2) (x3 : a3) (x4 : a4) (x5 : a5) (x6 : a6) (x7 : a7) (x8 : a8) (x9 : a9) (j6 : Fw) (qR : IJ) (pz : a12) (wy : M0) (x14 : Qt) (k : aa a0 → aa a1 → aa a2 → aa a3 → aa a4 → aa a5 → aa a6 → aa a7 → aa a8 → aa a9 → aa Fw → aa IJ → aa a12 → aa M0 → aa Qt → p) : p := k ⟨x0⟩ ⟨x1⟩ ⟨x2⟩ ⟨x3⟩ ⟨x4⟩ ⟨x5⟩ ⟨x6⟩ ⟨x7⟩ ⟨x8⟩ ⟨x9⟩ ⟨j6⟩ ⟨qR⟩ ⟨pz⟩ ⟨wy⟩ ⟨x14⟩
theorem E16 {p a0 a1 a2 a3 a4 a5 a6 a7 a8 a9 Fw IJ a12 M0 Qt Vz : Prop} (x0 : a0) (x1 : a1) (x2 : a2) (x3 : a3) (x4 : a4) (x5 : a5) (x6 : a6) (x7 : a7) (x8 : a8) (x9 : a9) (j6 : Fw) (qR : IJ) (pz : a12) (wy : M0) (x14 : Qt) (Mg : Vz) (k : aa a0 → aa a1 → aa a2 → aa a3 → aa a4 → aa a5 → aa a6 → aa a7 → aa a8 → aa a9 → aa Fw → aa IJ → aa a12 → aa M0 → aa Qt → aa Vz → p) : p := k ⟨x0⟩ ⟨x1⟩ ⟨x2⟩ ⟨x3⟩ ⟨x4⟩ ⟨x5⟩ ⟨x6⟩ ⟨x7⟩ ⟨x8⟩ ⟨x9⟩ ⟨j6⟩ ⟨qR⟩ ⟨pz⟩ ⟨wy⟩ ⟨x14⟩ ⟨Mg⟩
theorem E17 {p a0 a1 a2 a3 a4 a5 a6 a7 a8 a9 Fw IJ a12 M0 Qt Vz a16 : Prop} (x0 : a0) (x1 : a1) (x2 : a2) (x3 : a3) (x4 : a4) (x5 : a5) (x6 : a6) (x7 : a7) (x8 : a8) (x9 : a9) (j6 : Fw) (qR : IJ) (pz : a12) (wy : M0) (x14 : Qt) (Mg : Vz) (HZ : a16) (k : aa a0 → aa a1 → aa a2 → aa a3 → aa a4 → aa a5 → aa a6 → aa a7 → aa a8 → aa a9 → aa Fw → aa IJ → aa a12 → aa M0 → aa Qt → aa Vz → aa a16 → p) : p := k ⟨x0⟩ ⟨x1⟩ ⟨x2⟩ ⟨x3⟩ ⟨x4⟩ ⟨x5⟩ ⟨x6⟩ ⟨x7⟩ ⟨x8⟩ ⟨x9⟩ ⟨j6⟩ ⟨qR⟩ ⟨pz⟩ ⟨wy⟩ ⟨x14⟩ ⟨Mg⟩ ⟨HZ⟩
theorem E18 {p a0 a1 a2 a3 a4 a5 a6 a7 a8 a9 Fw IJ a12 M0 Qt Vz a16 a17 : Prop} (x0 : a0) (x1 : a1) (x2 : a2) (x3 : a3) (x4 : a4) (x5 : a5) (x6 : a6) (x7 : a7) (x8 : a8) (x9 : a9) (j6 : Fw) (qR : IJ) (pz : a12) (wy : M0) (x14 : Qt) (Mg : Vz) (HZ : a16) (xC : a17) (k : aa a0 → aa a1 → aa a2 → aa a3 → aa a4 → aa a5 → aa a6 → aa a7 → aa a8 → aa a9 → aa Fw → aa IJ → aa a12 → aa M0 → aa Qt → aa Vz → aa a16 → aa a17 → p) : p := k ⟨x0⟩ ⟨x1⟩ ⟨x2⟩ ⟨x3⟩ ⟨x4⟩ ⟨x5⟩ ⟨x6⟩ ⟨x7⟩ ⟨x8⟩ ⟨x9⟩ ⟨j6⟩ ⟨qR⟩ ⟨pz⟩ ⟨wy⟩ ⟨x14⟩ ⟨Mg⟩ ⟨HZ⟩ ⟨xC⟩
theorem E19 {p a0 a1 a2 a3 a4 a5 a6 a7 a8 a9 Fw IJ a12 M0 Qt Vz a16 a17 a18 : Prop} (x0 : a0) (x1 : a1) (x2 : a2) (x3 : a3) (x4 : a4) (x5 : a5) (x6 : a6) (x7 : a7) (x8 : a8) (x9 : a9) (j6 : Fw) (qR : IJ) (pz : a12) (wy : M0) (x14 : Qt) (Mg : Vz) (HZ : a16) (xC : a17) (Qk : a18) (k : aa a0 → aa a1 → aa a2 → aa a3 → aa a4 → aa a5 → aa a6 → aa a7 → aa a8 → aa a9 → aa Fw → aa IJ → aa a12 → aa M0 → aa Qt → aa Vz → aa a16 → aa a17 → aa a18 → p) : p := k ⟨x0⟩ ⟨x1⟩ ⟨x2⟩ ⟨x3⟩ ⟨x4⟩ ⟨x5⟩ ⟨x6⟩ ⟨x7⟩ ⟨x8⟩ ⟨x9⟩ ⟨j6⟩ ⟨qR⟩ ⟨pz⟩ ⟨wy⟩ ⟨x14⟩ ⟨Mg⟩ ⟨HZ⟩ ⟨xC⟩ ⟨Qk⟩
theorem E24 {p a0 a1 a2 a3 a4 a5 a6 a7 a8 a9 Fw IJ a12 M0 Qt Vz a16 a17 a18 a19 a20 a21 a22 a23 : Prop} (x0 : a0) (x1 : a1) (x2 : a2) (x3 : a3) (x4 : a4) (x5 : a5) (x6 : a6) (x7 : a7) (x8 : a8) (x9 : a9) (j6 : Fw) (qR : IJ) (pz : a12) (wy : M0) (x14 : Qt) (Mg : Vz) (HZ : a16) (xC : a17) (Qk : a18) (x19 : a19) (x20 : a20) (Oc : a21) (Mh : a22) (Hu : a23) (k : aa a0 → aa a1 → aa a2 → aa a3 → aa a4 → aa a5 → aa a6 → aa a7 → aa a8 → aa a9 → aa Fw → aa IJ → aa a12 → aa M0 → aa Qt → aa Vz → aa a16 → aa a17 → aa a18 → aa a19 → aa a20 → aa a21 → aa a22 → aa a23 → p) : p := k ⟨x0⟩ ⟨x1⟩ ⟨x2⟩ ⟨x3⟩ ⟨x4⟩ ⟨x5⟩ ⟨x6⟩ ⟨x7⟩ ⟨x8⟩ ⟨x9⟩ ⟨j6⟩ ⟨qR⟩ ⟨pz⟩ ⟨wy⟩ ⟨x14⟩ ⟨Mg⟩ ⟨HZ⟩ ⟨xC⟩ ⟨Qk⟩ ⟨x19⟩ ⟨x20⟩ ⟨Oc⟩ ⟨Mh⟩ ⟨Hu⟩
theorem nO {w : World} {g : Nat} {t : TypeId} {v0 v1 : Value} (h : w.heap[g]? = some (.cells #[v0, v1] t (0, 0))) : w.cell? ⟨g, 0, none⟩ = some v0 ∧ w.cell? ⟨g, 1, none⟩ = some v1 ∧ w.frozen? ⟨g, 0, none⟩ = false ∧ w.frozen? ⟨g, 1, none⟩ = false := ⟨(ai h 0).trans rfl, (ai h 1).trans rfl, mK h 0, mK h 1⟩
theorem gB {w : World} {g : Nat} {t : TypeId} {v0 v1 v2 : Value} (h : w.heap[g]? = some (.cells #[v0, v1, v2] t (0, 0))) : w.cell? ⟨g, 0, none⟩ = some v0 ∧ w.cell? ⟨g, 1, none⟩ = some v1 ∧ w.cell? ⟨g, 2, none⟩ = some v2 ∧ w.frozen? ⟨g, 0, none⟩ = false ∧ w.frozen? ⟨g, 1, none⟩ = false ∧ w.frozen? ⟨g, 2, none⟩ = false := ⟨(ai h 0).trans rfl, (ai h 1).trans rfl, (ai h 2).trans rfl, mK h 0, mK h 1, mK h 2⟩
theorem dz {α β : Type} {x : Option α} {g : α → Option β} {r : β} (h : x.bind g = some r) : ∃ t, aa (x = some t) ∧ g t = some r := by obtain ⟨t, a, b⟩ := Option.bind_eq_some_iff.mp h; exact ⟨t, ⟨a⟩, b⟩
theorem ji {β : Type} {p : Prop} [Decidable p] {a : Option β} {r : β} (h : (if p then a else none) = some r) : decide p = true ∧ a = some r := by
  by_cases c : p
  · rw [if_pos c] at h; exact ⟨decide_eq_true c, h⟩
  · rw [if_neg c] at h; cases h
theorem oC {β : Type} {p : Prop} [Decidable p] {a : Option β} {r : β} (h : (if p then a else none) = some r) : p ∧ a = some r := by
  by_cases c : p
  · rw [if_pos c] at h; exact ⟨c, h⟩
  · rw [if_neg c] at h; cases h
theorem ar6 {p : Prop} [Decidable p] {a : Option Bool} (h : (if p then a else some false) = some true) : p ∧ a = some true := by
  by_cases c : p
  · rw [if_pos c] at h; exact ⟨c, h⟩
  · rw [if_neg c] at h; cases h
theorem pu {β : Type} {p : Prop} [Decidable p] {a b r : β} (h : (if p then a else b) = r) : decide p = true ∧ a = r ∨ decide p = false ∧ b = r := by
  by_cases c : p
  · rw [if_pos c] at h; exact .inl ⟨decide_eq_true c, h⟩
  · rw [if_neg c] at h; exact .inr ⟨decide_eq_false c, h⟩
theorem oP {β : Type} {p : Prop} [Decidable p] {a b r : β} (h : (if p then a else b) = r) : p ∧ a = r ∨ ¬ p ∧ b = r := by
  by_cases c : p
  · rw [if_pos c] at h; exact .inl ⟨c, h⟩
  · rw [if_neg c] at h; exact .inr ⟨c, h⟩
theorem Cm {β : Type} {p : Bool} {a b r : β} (h : (if p = true then a else b) = r) : p = true ∧ a = r ∨ p = false ∧ b = r := by
  cases p
  · rw [if_neg (by decide)] at h; exact .inr ⟨rfl, h⟩
  · rw [if_pos rfl] at h; exact .inl ⟨rfl, h⟩
theorem ifT {β : Type} {p : Bool} {a b r : β} (h : (if p = true then a else b) = r) (hb : ¬ b = r) : p = true ∧ a = r := by
  cases p
  · rw [if_neg (by decide)] at h; exact absurd h hb
  · exact ⟨rfl, by rw [if_pos rfl] at h; exact h⟩
theorem ifF {β : Type} {p : Bool} {a b r : β} (h : (if p = true then a else b) = r) (ha : ¬ a = r) : p = false ∧ b = r := by
  cases p
  · exact ⟨rfl, by rw [if_neg (by decide)] at h; exact h⟩
  · rw [if_pos rfl] at h; exact absurd h ha
theorem nR {α β : Type} {x : α} {g : α → Option β} {r : β} (h : (some x).bind g = some r) : ∃ y, aa (y = x) ∧ g y = some r := ⟨x, ⟨rfl⟩, h⟩
theorem Qm {g n m : Nat} (hg : g = m) (h : n ≤ m) : n ≤ g := hg ▸ h
theorem NA {a b : Act} (h : a = b := by first | (simp only [oQ, Act.put, List.setIfInBounds_toArray, List.set_cons_zero, List.set_cons_succ]; done) | (simp only [oQ, Act.put, List.setIfInBounds_toArray, List.set_cons_zero, List.set_cons_succ]; rfl)) : a = b := h
theorem RF {p : Prop} (h : p := by first | rfl | (simp [iC, iD] <;> rfl) | (simp [*, iC, iD] <;> rfl)) : p := h
theorem RG {p : Prop} (h : p := by first | rfl | (simp; done) | (simp [*]; done)) : p := h
theorem DR {p : Prop} (h : p := by repeat (first | exact lY.refl _ | apply lY.step)) : p := h
theorem CB {p r : Prop} (h : r) (q : r → p := by intro h_; repeat (first | exact h_ | (with_reducible refine Kd.kg ?_ _) | (with_reducible refine Kd.ko ?_ _) | (with_reducible refine Kd.kH ?_))) : p := q h
theorem bB {w0 W w1 : World} {g : Nat} {o : Obj} (h : w0.heap[g]? = some o) (hb : Below W.heap.size W w1) (q : w0.heap[g]? = some o → W.heap[g]? = some o := by intro h_; (with_reducible repeat (first | refine ak ?_ _ | refine ag ?_ | refine au ?_ _)); exact h_) : w1.heap[g]? = some o := dh (q h) hb
theorem bG {w0 W w1 : World} {g : Nat} {o : Obj} {row : Option Nat} (h : w0.heap[g]? = some o) (hg : W.grownBy w1 row) (hne : some g ≠ row) (q : w0.heap[g]? = some o → W.heap[g]? = some o := by intro h_; (with_reducible repeat (first | refine ak ?_ _ | refine ag ?_ | refine au ?_ _)); exact h_) : w1.heap[g]? = some o := yQ (q h) hg hne
theorem nB {w0 W : World} {g g1 : Nat} {o : Obj} (h : w0.heap[g]? = some o) (hg : g1 = W.heap.size) (q : w0.heap[g]? = some o → W.heap[g]? = some o := by intro h_; (with_reducible repeat (first | refine ak ?_ _ | refine ag ?_ | refine au ?_ _)); exact h_) : g ≠ g1 := hg ▸ Nat.ne_of_lt (Es (q h))
theorem nC {w0 W : World} {g g1 : Nat} {o : Obj} (h : w0.heap[g]? = some o) (hg : g1 = W.heap.size) (q : w0.heap[g]? = some o → W.heap[g]? = some o := by intro h_; (with_reducible repeat (first | refine ak ?_ _ | refine ag ?_ | refine au ?_ _)); exact h_) : g1 ≠ g := hg ▸ Nat.ne_of_gt (Es (q h))
theorem mJ {w w0 W w1 : World} {g : Nat} {o : Obj} {p : Prop} (h : Below w.heap.size w w0) (hg : g = W.heap.size) (hbox : w1.heap[g]? = some o) (hb : Below W.heap.size W w1) (k : aa (Below w.heap.size w w1) → aa (w1.heap[g]? = some o) → aa (w.heap.size ≤ g) → aa (w.heap.size ≤ g) → p) (q : Below w.heap.size w w0 → Below w.heap.size w W := by intro h_; repeat (first | (with_reducible first | exact h_ | apply jB | apply j3 | apply dm | refine il ?_ (aa.out (by assumption))) | exact h_)) : p := k ⟨Et (q h) hb⟩ ⟨hbox⟩ ⟨hg ▸ wX (q h)⟩ ⟨hg ▸ wX (q h)⟩
theorem aEd {w : World} {g b i : Nat} {t : TypeId} {cs : Array Value} {u : Value} (n : g ≠ b) (h : w.heap[g]? = some (.cells cs t (0, 0))) : (w.setCell ⟨b, i, none⟩ u).heap[g]? = some (.cells cs t (0, 0)) := bu h n u
theorem BB {p r  : Prop}  (h : r) (q : r → p := by intro  h_; (with_reducible repeat (first | apply ak | apply ag | apply au | apply gy)); exact h_; all_goals (try rfl)) : p := q  h
theorem xB {p r a0 : Prop} (e0 : a0) (h : r) (q : a0 → r → p := by intro BO h_; (with_reducible repeat (first | apply ak | apply ag | apply au | apply aEd BO | apply gy)); exact h_; all_goals (try rfl)) : p := q e0 h
theorem KL {W W1 W2 : World} {S S1 : Nat → Prop} (h : Kept W W1 S) (q : Kept W W1 S → Kept W W2 S1 := by intro h_; repeat (first | (with_reducible first | exact h_ | apply Kept.alloc | apply Kept.drewN | apply Kept.drew | refine Kept.setCell ?_ (.inr (aa.out (by assumption))) _) | exact h_)) : Kept W W2 S1 := q h
theorem gX {w w0 W : World} {g : Nat} (h : Below w.heap.size w w0) (hg : g = W.heap.size) (q : Below w.heap.size w w0 → Below w.heap.size w W := by intro h_; repeat (first | (with_reducible first | exact h_ | apply jB | apply j3 | apply dm | refine il ?_ (aa.out (by assumption))) | exact h_)) : w.heap.size ≤ g := hg ▸ wX (q h)
theorem bS {w w0 W w1 : World} (h : Below w.heap.size w w0) (hb : Below W.heap.size W w1) (q : Below w.heap.size w w0 → Below w.heap.size w W := by intro h_; repeat (first | (with_reducible first | exact h_ | apply jB | apply j3 | apply dm | refine il ?_ (aa.out (by assumption))) | exact h_)) : Below w.heap.size w w1 := Et (q h) hb
theorem bZ {w w0 W : World} (h : Below w.heap.size w w0) (q : Below w.heap.size w w0 → Below w.heap.size w W := by intro h_; repeat (first | (with_reducible first | exact h_ | apply jB | apply j3 | apply dm | refine il ?_ (aa.out (by assumption))) | exact h_)) : w.heap.size ≤ W.heap.size := wX (q h)
theorem rB {α : Type} {K : Kd α} {t n : Nat} {w0 W w1 : World} {ok : Nat → Prop} {v : Value} {xs : List α} (h : Kd.R K t w0 n ok v xs) (hb : Below W.heap.size W w1) (q : Kd.R K t w0 n ok v xs → Kd.R K t W n ok v xs := by intro h_; (with_reducible repeat (first | apply Kd.aV | apply Kd.aW | apply Kd.aQ)); exact h_) : Kd.R K t w1 n ok v xs := Kd.jf (q h) hb
theorem sB {α : Type} {K : Kd α} {t n : Nat} {w0 W w1 : World} {ok : Nat → Prop} {v : Value} {xs : List α} (h : Kd.S K t w0 n ok v xs) (hb : Below W.heap.size W w1) (q : Kd.S K t w0 n ok v xs → Kd.S K t W n ok v xs := by intro h_; (with_reducible repeat (first | apply Kd.jF | apply Kd.jG | apply Kd.iV)); exact h_) : Kd.S K t w1 n ok v xs := Kd.Cy (q h) hb
theorem rP {W : World} {g b j i0 i1 i2 : Nat} {u0 u1 u2 : Value} {r : Option Value} (n : g ≠ b) (h : W.cell? ⟨g, j, none⟩ = r) : (((W.setCell ⟨b, i0, none⟩ u0).setCell ⟨b, i1, none⟩ u1).setCell ⟨b, i2, none⟩ u2).cell? ⟨g, j, none⟩ = r := ((cell_far (p := ⟨b, _, none⟩) n _).trans ((cell_far (p := ⟨b, _, none⟩) n _).trans ((cell_far (p := ⟨b, _, none⟩) n _).trans h)))
abbrev Yy : Bool := true
abbrev Zz : Bool := false
section
variable {P : Program} {md : Region.Mode} {ops : Array Oper} {Q : Exit → Act → World → Prop} {S : World → Prop} {ds : List Nat} {T : Bool × List (List Nat × List Nat)} {B : List Nat}
theorem aU (i : Nat) {N : Option Tmp} {oi : Oper} {v : Value} {fuel : Nat} {l l' : Array Bool} {a a' : Act} {w : World} (hT : mX md ops = T) (h : dJ P md ops Q S ds fuel l' a' w) (hi : ops[i]? = some oi := by exact rfl) (hN : oi.dst = N := by exact rfl) (_hl : l.setIfInBounds i true = l' := by simp only [List.setIfInBounds_toArray, List.set_cons_zero, List.set_cons_succ]; rfl) (hc : amR T l.toList l'.toList i = true := by kernel_rfl) (hgd : Region.wanted oi (yielded ops a.tmps) = true := by rfl) (hy : ∀ w', (execOp a.eval oi).run P w' = .ok (.value v) w' := by intro w'; go_simp; with_reducible rfl) (hQ : ∀ c a w, Q (.panic c) (a.put oi.dst v) w → Q (.panic c) a w := by exact fun _ _ _ h => h) (ha : a.put N v = a' := by simp only [Act.put, List.setIfInBounds_toArray, List.set_cons_zero, List.set_cons_succ, cz, dF]; rfl) : dJ P md ops Q S ds (fuel + 1) l a w := ll l' hi hN (nX hT hc) hQ (Or.inl ⟨hgd, hy⟩) ha h
theorem gF (i : Nat) {N : Option Tmp} {oi : Oper} {v : Value} {fuel : Nat} {l l' : Array Bool} {a a' : Act} {w : World} (hT : mX md ops = T) (hB : kr T.2 B = true) (hS : S w) (h : dJ P md ops Q S ds fuel l' a' w) (hi : ops[i]? = some oi := by exact rfl) (hN : oi.dst = N := by exact rfl) (_hl : l.setIfInBounds i true = l' := by simp only [List.setIfInBounds_toArray, List.set_cons_zero, List.set_cons_succ]; rfl) (hc : aaf T B ds l.toList l'.toList i = true := by kernel_rfl) (hgd : Region.wanted oi (yielded ops a.tmps) = true := by rfl) (hy : ∀ w', S w' → (execOp a.eval oi).run P w' = .ok (.value v) w' := by intro w' hs_; repeat (obtain ⟨_, hs_⟩ := hs_); go_simp; with_reducible rfl) (hQ : ∀ c a w, Q (.panic c) (a.put oi.dst v) w → Q (.panic c) a w := by exact fun _ _ _ h => h) (ha : a.put N v = a' := by simp only [Act.put, List.setIfInBounds_toArray, List.set_cons_zero, List.set_cons_succ, cz, dF]; rfl) : dJ P md ops Q S ds (fuel + 1) l a w := Qu l' hi hN (Qv hT hB hc) hQ (Or.inl ⟨hgd, hy⟩) hS ha h
theorem xQ (i : Nat) {N : Option Tmp} {oi : Oper} {v : Value} {fuel : Nat} {l l' : Array Bool} {a a' : Act} {w : World} (hS : S w) (h : dJ P md ops Q S ds fuel l' a' w) (hi : ops[i]? = some oi := by exact rfl) (hN : oi.dst = N := by exact rfl) (_hl : l.setIfInBounds i true = l' := by simp only [List.setIfInBounds_toArray, List.set_cons_zero, List.set_cons_succ]; rfl) (hc : takeB md ops ds l l' i = true := by kernel_rfl) (hgd : Region.wanted oi (yielded ops a.tmps) = true := by rfl) (hy : ∀ w', S w' → (execOp a.eval oi).run P w' = .ok (.value v) w' := by intro w' hs_; repeat (obtain ⟨_, hs_⟩ := hs_); go_simp; with_reducible rfl) (hQ : ∀ c a w, Q (.panic c) (a.put oi.dst v) w → Q (.panic c) a w := by exact fun _ _ _ h => h) (ha : a.put N v = a' := by simp only [Act.put, List.setIfInBounds_toArray, List.set_cons_zero, List.set_cons_succ, cz, dF]; rfl) : dJ P md ops Q S ds (fuel + 1) l a w := Qu l' hi hN hc hQ (Or.inl ⟨hgd, hy⟩) hS ha h
end
theorem pm {α : Type} {K : Kd α} {t n : Nat} {w W : World} {ok : Nat → Prop} {v : Value} {xs : List α} (h : Kd.R K t w n ok v xs) (q : Kd.R K t w n ok v xs → Kd.R K t W n ok v xs := by intro h_; (with_reducible repeat (first | apply Kd.aV | apply Kd.aW | apply Kd.aQ)); exact h_) : Kd.R K t W n ok v xs := q h
theorem RQ {α : Type} {K : Kd α} {t n : Nat} {w : World} {ok : Nat → Prop} {v : Value} {xs : List α} (g i : Nat) (h : Kd.R K t w n (fun k => ok k ∧ k ≠ g) v xs) (u : Value) : Kd.R K t (w.setCell ⟨g, i, none⟩ u) n (fun k => ok k ∧ k ≠ g) v xs := Kd.mY (p := ⟨g, i, none⟩) h (fun _ hk => hk.2) u
theorem ES {α : Type} {K : Kd α} {t n : Nat} {w W : World} {ok : Nat → Prop} {v : Value} {xs : List α} (h : Kd.S K t w n ok v xs) (q : Kd.S K t w n ok v xs → Kd.S K t W n ok v xs := by intro h_; (with_reducible repeat (first | apply Kd.jF | apply Kd.jG | apply Kd.iV)); exact h_) : Kd.S K t W n ok v xs := q h
theorem SQ {α : Type} {K : Kd α} {t n : Nat} {w : World} {ok : Nat → Prop} {v : Value} {xs : List α} (g i : Nat) (h : Kd.S K t w n (fun k => ok k ∧ k ≠ g) v xs) (u : Value) : Kd.S K t (w.setCell ⟨g, i, none⟩ u) n (fun k => ok k ∧ k ≠ g) v xs := Kd.xR (p := ⟨g, i, none⟩) h (fun _ hk => hk.2) u
section
variable {P : Program} {ops : Array Oper} {rest : List Oper} {o : Oper} {a : Act} {Q : Exit → Act → World → Prop}
theorem dN {W : World} {N : Tmp} {cs : Array Value} {t : TypeId} (h : ∀ g, g = W.heap.size → ∀ w1, w1.heap[g]? = some (.cells cs t (0, 0)) → Below W.heap.size W w1 → wpList P ops Q rest (a.put o.dst (.pointer (some ⟨g, 0, none⟩))) w1) (hd : o.dst = some N := by rfl) (hgd : o.guard = none := by rfl) (hrun : (execOp a.eval o).run P W = .ok (.value (.pointer (some ⟨W.heap.size, 0, none⟩))) (W.alloc (.cells cs t (0, 0))) := by first | (go_simp; done) | (go_simp; rfl)) : wpList P ops Q (o :: rest) a W := X6 hgd hd hrun h
theorem cK {N : Option Tmp} {f : FuncId} {fn : Func} {xs_ : Array Operand} {ts : Array TypeId} {W : World} (args : Array Value) (hf : P.funcs[f]? = some fn) (h : Calls P f args W fun e w' => ∃ v, e = .returned v ∧ wpList P ops Q rest (a.put N v) w') (hd : o.dst = N := by exact rfl) (hg : o.guard = none := by exact rfl) (hname : (fn.name == "runtime.NumGoroutine") = false := by kernel_rfl) (hb : fn.body.isSome = true := by exact rfl) (hop : o.op = .call { callee := .value (.func f), args := xs_, argTypes := ts } := by exact rfl) (hargs : xs_.map a.eval = args := by ((try simp only [List.map_toArray, List.map_cons, List.map_nil]); first | done | rfl | (simp only [List.length_drop, List.length_take]; rfl))) : wpList P ops Q (o :: rest) a W := Ep N hd hg hf hname hb args hop hargs h
theorem lX {W w1 : World} {t : TypeId} {p : Tmp} {v : Operand} (h : ∀ w', w' = w1 → wpList P ops Q rest a w') (ho : o.op = .store t (.tmp p) v := by rfl) (hgd : o.guard = none := by rfl) (hN : o.dst = none := by rfl) (hrun : (execOp a.eval o).run P W = .ok .skip w1 := by first | (go_simp; done) | (go_simp; rfl)) : wpList P ops Q (o :: rest) a W := Qw hgd ho hN hrun h
end


end Go.Proofs.Ytbpfdbjnnlmdjaa.P
