-- PRINTED by print.py (a twelfth state) out of the translation. Not trusted: Lean checks it.
import Derived.Test.YthnehlphifegaaaPx0
import Derived.Test.YthnehlphifegaaaPx7
import Derived.Test.YthnehlphifegaaaPx8
namespace Go.Proofs.Ythnehlphifegaaa.P
open Go.RowKit Go.Proofs.YthnehlphifegaaaW.PrintWords Go.Proofs.YthnehlphifegaaaW.PrintLast Go.Proofs.YthnehlphifegaaaW.PrintMore
attribute [local go_sem] max2_int min2_int max_two min_two max_three min_three max_four min_four   -- for this text's walks alone
set_option linter.unusedVariables false
set_option linter.unusedSimpArgs false
set_option maxHeartbeats 8000000
set_option maxRecDepth 100000

/-! ### impl_runSteps: function 33 -/
open Kd
open Kd
/-- A machine on its way: its block, its board's row, the groups' row, and what stays. -/
def SSt (w0 w wc : World) (gm : Nat) (m : Array Value) (A0 : Option Addr) (n c0 : Nat) (cs : List S98) (A1 : Option Addr) (c1 : Nat) (g : List Int) : Prop :=
 Below w0.heap.size w0 wc /\ w0.heap.size <= gm /\ wc.heap[gm]? = some (.cells m 35 (0, 0)) /\ Kd.R k98 98 wc w0.heap.size (fun k => some k = (Value.slice A0 n c0).ownBlock) (.slice A0 n c0) cs /\ Kd.R (Kd.int .i64) 3 wc w0.heap.size (fun k => some k = (Value.slice A1 g.length c1).ownBlock) (.slice A1 g.length c1) g /\ Kept w wc (fun k => some k = (Value.slice A0 n c0).ownBlock ∨ k = gm)
theorem SSt.below {w0 w wc wd : World} {gm : Nat} {m : Array Value} {A0 A1 : Option Addr} {n c0 c1 : Nat} {cs : List S98} {g : List Int} (h : SSt w0 w wc gm m A0 n c0 cs A1 c1 g) (hb : Below wc.heap.size wc wd) : SSt w0 w wd gm m A0 n c0 cs A1 c1 g :=
 ⟨h.1.trans (hb.mono h.1.size), h.2.1, blk_below h.2.2.1 hb, R_below h.2.2.2.1 hb, R_below h.2.2.2.2.1 hb, h.2.2.2.2.2.below hb⟩
theorem SSt.put {w0 w wc : World} {gm : Nat} {m m' : Array Value} {A0 A1 : Option Addr} {n c0 c1 : Nat} {cs : List S98} {g : List Int} (h : SSt w0 w wc gm m A0 n c0 cs A1 c1 g) (i : Nat) (u : Value) (e : m.setIfInBounds i u = m') : SSt w0 w (wc.setCell ⟨gm, i, none⟩ u) gm m' A0 n c0 cs A1 c1 g :=
 ⟨h.1.setCell (p := ⟨gm, i, none⟩) h.2.1 u, h.2.1, blk_put h.2.2.1 i u e, R_set h.2.2.2.1 h.2.2.1 (by decide) i u, R_set h.2.2.2.2.1 h.2.2.1 (by decide) i u, h.2.2.2.2.2.setCell (p := ⟨gm, i, none⟩) (.inl (.inr rfl)) u⟩
theorem SSt.far {w0 w wc : World} {gm : Nat} {m : Array Value} {A0 A1 : Option Addr} {n c0 c1 : Nat} {cs : List S98} {g : List Int} (h : SSt w0 w wc gm m A0 n c0 cs A1 c1 g) {ge : Nat} {cells : Array Value} (hge : wc.heap[ge]? = some (.cells cells 61 (0, 0))) (h0 : w0.heap.size <= ge) (h1 : w.heap.size <= ge) (i : Nat) (u : Value) : SSt w0 w (wc.setCell ⟨ge, i, none⟩ u) gm m A0 n c0 cs A1 c1 g :=
 ⟨h.1.setCell (p := ⟨ge, i, none⟩) h0 u, h.2.1, blk_far h.2.2.1 (p := ⟨ge, i, none⟩) (by rintro rfl; rw [h.2.2.1] at hge; cases hge) u, R_set h.2.2.2.1 hge (by decide) i u, R_set h.2.2.2.2.1 hge (by decide) i u, h.2.2.2.2.2.setCell (p := ⟨ge, i, none⟩) (.inr h1) u⟩
theorem own_ne {w : World} {gm : Nat} {m : Array Value} {t : TypeId} {v : Value} {base : Nat} {ok : Nat -> Prop} {cs : List S98} (h : w.heap[gm]? = some (.cells m t (0, 0))) (hR : Kd.R k98 98 w base ok v cs) (ht : 98 ≠ t) : ¬ some gm = v.ownBlock := fun e => by
 obtain ⟨c, hc⟩ := R_typed hR gm e.symm
 rw [h] at hc
 cases hc
 exact ht rfl
theorem SSt.groups {w0 w wc W : World} {gm : Nat} {m : Array Value} {A0 A1 : Option Addr} {n c0 c1 : Nat} {cs : List S98} {g : List Int} (h : SSt w0 w wc gm m A0 n c0 cs A1 c1 g) (hk : Kept wc W (fun k => some k = (Value.slice A0 n c0).ownBlock)) : Kd.R (Kd.int .i64) 3 W w0.heap.size (fun k => some k = (Value.slice A1 g.length c1).ownBlock) (.slice A1 g.length c1) g :=
 R_step h.2.2.2.2.1 (fun k ho hlt => hk.2 k hlt (by
  obtain ⟨c, hc⟩ := R_typed h.2.2.2.2.1 k ho.symm
  exact own_ne hc h.2.2.2.1 (by decide)))
theorem SSt.drop {w0 w wc W : World} {gm : Nat} {m : Array Value} {A0 A1 : Option Addr} {n c0 c1 : Nat} {cs cs' : List S98} {g : List Int} (h : SSt w0 w wc gm m A0 n c0 cs A1 c1 g) {ok : Nat -> Prop} (hcs : Kd.R k98 98 W w0.heap.size ok (.slice A0 n c0) cs') (hb : Below w0.heap.size w0 W) (hk : Kept wc W (fun k => some k = (Value.slice A0 n c0).ownBlock)) : SSt w0 w W gm m A0 n c0 cs' A1 c1 g :=
 ⟨hb, h.2.1, (hk.2 gm (blk_lt h.2.2.1) (own_ne h.2.2.1 h.2.2.2.1 (by decide))).trans h.2.2.1, R_tight rfl hcs, h.groups hk, h.2.2.2.2.2.then_ hk (fun _ hh => .inl (.inl hh))⟩
theorem SSt.box3 {w0 w wc : World} {gm : Nat} {m : Array Value} {A0 A1 : Option Addr} {n c0 c1 : Nat} {cs : List S98} {g : List Int} (h : SSt w0 w wc gm m A0 n c0 cs A1 c1 g) {gf : Nat} {a b c : Value} (hf : wc.heap[gf]? = some (.cells #[a, b, c] 61 (0, 0))) (h0 : w0.heap.size <= gf) (h1 : w.heap.size <= gf) (x y z : Value) :
 SSt w0 w (((wc.setCell ⟨gf, 0, none⟩ x).setCell ⟨gf, 1, none⟩ y).setCell ⟨gf, 2, none⟩ z) gm m A0 n c0 cs A1 c1 g /\ (((wc.setCell ⟨gf, 0, none⟩ x).setCell ⟨gf, 1, none⟩ y).setCell ⟨gf, 2, none⟩ z).heap[gf]? = some (.cells #[x, y, z] 61 (0, 0)) := by
 have k1 := blk_put hf 0 x (cs' := #[x, b, c]) rfl
 have k2 := blk_put k1 1 y (cs' := #[x, y, c]) rfl
 exact ⟨((h.far hf h0 h1 0 x).far k1 h0 h1 1 y).far k2 h0 h1 2 z, blk_put k2 2 z rfl⟩
theorem far3 {wc : World} {ge gf : Nat} {t : TypeId} {cells : Array Value} (h : wc.heap[ge]? = some (.cells cells t (0, 0))) (hne : ge ≠ gf) (x y z : Value) : (((wc.setCell ⟨gf, 0, none⟩ x).setCell ⟨gf, 1, none⟩ y).setCell ⟨gf, 2, none⟩ z).heap[ge]? = some (.cells cells t (0, 0)) :=
 blk_far (blk_far (blk_far h (p := ⟨gf, 0, none⟩) hne x) (p := ⟨gf, 1, none⟩) hne y) (p := ⟨gf, 2, none⟩) hne z
/-- What a step leaves: the marble's end, the board, the hopper's numbers and the next colour. -/
def mNext (e1 e3 c : Int) : Int := if e1 = 1 then (if wrap64 (2 * e3) < c then 0 else 1) else 2
theorem step_calls (k : Nat) (r c left right blue red next : Int) (A0 : Option Addr) (n c0 : Nat) (cs cs' : List S98) (A1 : Option Addr) (c1 : Nat) (g : List Int) (gm : Nat) (e1 e2 e3 : Int) (way : List Int) (w0 w : World)
 (hS : SSt w0 w w gm #[.int .i64 r, .int .i64 c, .slice A0 n c0, .int .i64 left, .int .i64 right, .int .i64 blue, .int .i64 red, .int .i64 next] A0 n c0 cs A1 c1 g) (hc1 : g.length <= c1) (hw : w0.heap.size <= w.heap.size)
 (hd : impl_drop.f k r c cs g (if next = 0 then left else right) = some (e1, e2, e3, way, cs')) :
 Calls Try.prog 55 #[.pointer (some ⟨gm, 0, none⟩), .slice A1 g.length c1] w fun e w' => e = .returned (.agg #[.int .i64 e1, .int .i64 e2, .int .i64 e3]) /\
  SSt w0 w w' gm #[.int .i64 r, .int .i64 c, .slice A0 n c0, .int .i64 left, .int .i64 right, .int .i64 (if next = 0 then wrap64 (blue - 1) else blue), .int .i64 (if next = 0 then red else wrap64 (red - 1)), .int .i64 (mNext e1 e3 c)] A0 n c0 cs' A1 c1 g := by
 have hu33 := Try.underlying33
 have hu35 := Try.underlying35
 have hu61 := Try.underlying61
 have HS := Aside0.mk hS
 have HC1 := Aside0.mk hc1
 have HD := Aside0.mk hd
 have HW := Aside0.mk hw
 clear hS hc1 hd hw
 obtain ⟨hcz0, hcz1, hcz2, hcz3, hcz4, hcz5, hcz6, hcz7, hfz0, hfz1, hfz2, hfz3, hfz4, hfz5, hfz6, hfz7⟩ := cz8 HS.1.2.2.1
 go_enter Try.func55, Try.ntmps55
 by_cases hn : next = 0
 · subst hn
   have HD' := Aside0.mk (show impl_drop.f k r c cs g left = some (e1, e2, e3, way, cs') from by have := HD.1; first | exact this | (rw [if_neg hn] at this; exact this))
   clear HD
   rcases (by by_cases h1 : e1 = 1 <;> by_cases h2 : wrap64 (2 * e3) < c <;> simp [h1, h2] : (e1 = 1 /\ wrap64 (2 * e3) < c) ∨ (e1 = 1 /\ ¬ wrap64 (2 * e3) < c) ∨ (e1 ≠ 1)) with ⟨rfl, hE⟩ | ⟨rfl, hE⟩ | hE
   · have HE := Aside0.mk hE
     have q1 := decide_eq_true hE
     have q2 := eq_true hE
     clear hE
     go_wp2_with (first
      | ((with_reducible refine gate_dst (N := 4) rfl ?_); refine boxE (cs := #[.int .i64 0, .int .i64 0, .int .i64 0]) (t := 61) ?_; intro ge hg w4 hbox hb; have n0_ := Aside0.mk (HS.1.below hb); have BE := Aside0.mk hbox; have GE := Aside0.mk (hg ▸ Nat.le_refl _ : w.heap.size <= ge); clear HS hcz0 hcz1 hcz2 hcz3 hcz4 hcz5 hcz6 hcz7 hfz0 hfz1 hfz2 hfz3 hfz4 hfz5 hfz6 hfz7; have HS := n0_; clear n0_ hbox hg hb; obtain ⟨hcz0, hcz1, hcz2, hcz3, hcz4, hcz5, hcz6, hcz7, hfz0, hfz1, hfz2, hfz3, hfz4, hfz5, hfz6, hfz7⟩ := cz8 HS.1.2.2.1)
      | ((with_reducible refine gate_callee (f := 69) rfl ?_); refine goesM (N := some 42) #[.agg #[.int .i64 r, .int .i64 c, .slice A0 n c0], .slice A1 g.length c1, .int .i64 left] Try.func69 ?_; have n0_ := Aside0.mk (HS.1.put 5 (.int .i64 (wrap64 (blue - 1))) rfl); have nE := Aside0.mk (blk_far BE.1 (p := ⟨gm, 5, none⟩) (fun e_ => by have a_ := HS.1.2.2.1; have b_ := BE.1; rw [e_, a_] at b_; cases b_) (.int .i64 (wrap64 (blue - 1)))); refine (impl_drop.calls k r c (fun k_ => some k_ = (Value.slice A0 n c0).ownBlock) (.slice A0 n c0) cs A1 c1 g left _ e2 e3 way cs' w0 _ n0_.1.1 n0_.1.2.2.2.1 (fun W_ hW_ => (R_reads' (n0_.1.groups hW_)).2.2) HC1.1 HD'.1).mono ?_; rintro e w5 ⟨v3_, rfl, hw, hcs, hb, hk⟩; refine ⟨_, rfl, ?_⟩; have n1_ := Aside0.mk (n0_.1.drop hcs hb hk); have m1_ := Aside0.mk ((hk.2 ge (blk_lt nE.1) (own_ne nE.1 n0_.1.2.2.2.1 (by decide))).trans nE.1); clear HS BE n0_ nE hw hcs hb hk hcz0 hcz1 hcz2 hcz3 hcz4 hcz5 hcz6 hcz7 hfz0 hfz1 hfz2 hfz3 hfz4 hfz5 hfz6 hfz7; have HS := n1_; have BE := m1_; clear n1_ m1_; obtain ⟨hcz0, hcz1, hcz2, hcz3, hcz4, hcz5, hcz6, hcz7, hfz0, hfz1, hfz2, hfz3, hfz4, hfz5, hfz6, hfz7⟩ := cz8 HS.1.2.2.1; obtain ⟨hc0_0, hc0_1, hc0_2, hf0_0, hf0_1, hf0_2⟩ := cz3 BE.1)
      | ((with_reducible refine gate_dst (N := 6) rfl ?_); refine boxE (cs := #[.int .i64 0, .int .i64 0, .int .i64 0]) (t := 61) ?_; intro gf hg w6 hbox hb; have n0_ := Aside0.mk (HS.1.below hb); have m0_ := Aside0.mk (blk_below BE.1 hb); have BF := Aside0.mk hbox; have GF := Aside0.mk (Nat.le_trans HS.1.2.2.2.2.2.1 (Nat.le_of_eq hg.symm) : w.heap.size <= gf); have NF := Aside0.mk (nB BE.1 hg); clear HS BE hcz0 hcz1 hcz2 hcz3 hcz4 hcz5 hcz6 hcz7 hfz0 hfz1 hfz2 hfz3 hfz4 hfz5 hfz6 hfz7 hc0_0 hc0_1 hc0_2 hf0_0 hf0_1 hf0_2; have HS := n0_; have BE := m0_; clear n0_ m0_ hbox hg hb; obtain ⟨hcz0, hcz1, hcz2, hcz3, hcz4, hcz5, hcz6, hcz7, hfz0, hfz1, hfz2, hfz3, hfz4, hfz5, hfz6, hfz7⟩ := cz8 HS.1.2.2.1; obtain ⟨hc0_0, hc0_1, hc0_2, hf0_0, hf0_1, hf0_2⟩ := cz3 BE.1; obtain ⟨hd0_0, hd0_1, hd0_2, hg0_0, hg0_1, hg0_2⟩ := cz3 BF.1; have hnb := NF.1; have hnc := NF.1.symm))
     obtain ⟨n0_, n1_⟩ := HS.1.box3 BF.1 (Nat.le_trans HW.1 GF.1) GF.1 (.int .i64 1) (.int .i64 e2) (.int .i64 e3)
     have n2_ := far3 BE.1 NF.1 (.int .i64 1) (.int .i64 e2) (.int .i64 e3)
     replace HS := Aside0.mk (n0_.below (below_drew (Below.refl _ _)))
     replace BF := Aside0.mk (blk_drew n1_)
     replace BE := Aside0.mk (blk_drew n2_)
     clear n0_ n1_ n2_ hcz0 hcz1 hcz2 hcz3 hcz4 hcz5 hcz6 hcz7 hfz0 hfz1 hfz2 hfz3 hfz4 hfz5 hfz6 hfz7 hc0_0 hc0_1 hc0_2 hf0_0 hf0_1 hf0_2 hd0_0 hd0_1 hd0_2 hg0_0 hg0_1 hg0_2
     refine start_ (n := 10) (S := fun w' => w'.cell? ⟨gf, 2, none⟩ = some (.int .i64 e3) /\ w'.cell? ⟨gm, 1, none⟩ = some (.int .i64 c)) (ds := []) #[Zz,Zz,Zz,Zz,Zz,Zz,Zz,Zz,Zz,Zz] (by kernel_rfl) rfl rfl ⟨(blk_cell BF.1 2).trans rfl, (blk_cell HS.1.2.2.1 1).trans rfl⟩ (fun hHeld => ?_)
     generalize World.drew _ = w8 at HS BF BE hHeld ⊢
     refine pureF 0 (N := some 56) rfl ?_
     refine pureF 3 (N := some 59) rfl ?_
     refine takeF 1 (N := some 57) hHeld ?_
     refine pureF 2 (N := some 58) rfl ?_
     refine pureF 4 (N := some 60) rfl ?_
     refine pureF 5 (N := some 61) rfl ?_
     refine pureF 6 (N := some 62) rfl ?_
     refine takeF 7 (N := some 63) hHeld ?_
     refine pureF 8 (N := some 64) rfl ?_
     refine pureF 9 (N := some 55) rfl ?_
     refine done_ (by kernel_rfl) ?_
     obtain ⟨hcz0, hcz1, hcz2, hcz3, hcz4, hcz5, hcz6, hcz7, hfz0, hfz1, hfz2, hfz3, hfz4, hfz5, hfz6, hfz7⟩ := cz8 HS.1.2.2.1
     obtain ⟨hc0_0, hc0_1, hc0_2, hf0_0, hf0_1, hf0_2⟩ := cz3 BE.1
     obtain ⟨hd0_0, hd0_1, hd0_2, hg0_0, hg0_1, hg0_2⟩ := cz3 BF.1
     go_wp2
     have n0_ := HS.1.put 7 (.int .i64 0) rfl
     have n1_ := blk_far BE.1 (p := ⟨gm, 7, none⟩) (fun e_ => by have a_ := HS.1.2.2.1; have b_ := BE.1; rw [e_, a_] at b_; cases b_) (.int .i64 0)
     obtain ⟨n2_, n3_⟩ := n0_.box3 n1_ (Nat.le_trans HW.1 GE.1) GE.1 (.int .i64 1) (.int .i64 e2) (.int .i64 e3)
     refine bodyPost_ret (results_cell_row rfl _ _ ge 61 #[.int .i64 1, .int .i64 e2, .int .i64 e3] (0, 0) _ rfl n3_ Try.underlying61 rfl (by kernel_rfl)) rfl ?_
     refine ⟨rfl, ?_⟩
     rw [show mNext 1 e3 c = 0 from by simp only [mNext, if_true]; exact if_pos HE.1]
     exact n2_
   · have HE := Aside0.mk hE
     have q1 := decide_eq_false hE
     have q2 := eq_false hE
     clear hE
     go_wp2_with (first
      | ((with_reducible refine gate_dst (N := 4) rfl ?_); refine boxE (cs := #[.int .i64 0, .int .i64 0, .int .i64 0]) (t := 61) ?_; intro ge hg w4 hbox hb; have n0_ := Aside0.mk (HS.1.below hb); have BE := Aside0.mk hbox; have GE := Aside0.mk (hg ▸ Nat.le_refl _ : w.heap.size <= ge); clear HS hcz0 hcz1 hcz2 hcz3 hcz4 hcz5 hcz6 hcz7 hfz0 hfz1 hfz2 hfz3 hfz4 hfz5 hfz6 hfz7; have HS := n0_; clear n0_ hbox hg hb; obtain ⟨hcz0, hcz1, hcz2, hcz3, hcz4, hcz5, hcz6, hcz7, hfz0, hfz1, hfz2, hfz3, hfz4, hfz5, hfz6, hfz7⟩ := cz8 HS.1.2.2.1)
      | ((with_reducible refine gate_callee (f := 69) rfl ?_); refine goesM (N := some 42) #[.agg #[.int .i64 r, .int .i64 c, .slice A0 n c0], .slice A1 g.length c1, .int .i64 left] Try.func69 ?_; have n0_ := Aside0.mk (HS.1.put 5 (.int .i64 (wrap64 (blue - 1))) rfl); have nE := Aside0.mk (blk_far BE.1 (p := ⟨gm, 5, none⟩) (fun e_ => by have a_ := HS.1.2.2.1; have b_ := BE.1; rw [e_, a_] at b_; cases b_) (.int .i64 (wrap64 (blue - 1)))); refine (impl_drop.calls k r c (fun k_ => some k_ = (Value.slice A0 n c0).ownBlock) (.slice A0 n c0) cs A1 c1 g left _ e2 e3 way cs' w0 _ n0_.1.1 n0_.1.2.2.2.1 (fun W_ hW_ => (R_reads' (n0_.1.groups hW_)).2.2) HC1.1 HD'.1).mono ?_; rintro e w5 ⟨v3_, rfl, hw, hcs, hb, hk⟩; refine ⟨_, rfl, ?_⟩; have n1_ := Aside0.mk (n0_.1.drop hcs hb hk); have m1_ := Aside0.mk ((hk.2 ge (blk_lt nE.1) (own_ne nE.1 n0_.1.2.2.2.1 (by decide))).trans nE.1); clear HS BE n0_ nE hw hcs hb hk hcz0 hcz1 hcz2 hcz3 hcz4 hcz5 hcz6 hcz7 hfz0 hfz1 hfz2 hfz3 hfz4 hfz5 hfz6 hfz7; have HS := n1_; have BE := m1_; clear n1_ m1_; obtain ⟨hcz0, hcz1, hcz2, hcz3, hcz4, hcz5, hcz6, hcz7, hfz0, hfz1, hfz2, hfz3, hfz4, hfz5, hfz6, hfz7⟩ := cz8 HS.1.2.2.1; obtain ⟨hc0_0, hc0_1, hc0_2, hf0_0, hf0_1, hf0_2⟩ := cz3 BE.1)
      | ((with_reducible refine gate_dst (N := 6) rfl ?_); refine boxE (cs := #[.int .i64 0, .int .i64 0, .int .i64 0]) (t := 61) ?_; intro gf hg w6 hbox hb; have n0_ := Aside0.mk (HS.1.below hb); have m0_ := Aside0.mk (blk_below BE.1 hb); have BF := Aside0.mk hbox; have GF := Aside0.mk (Nat.le_trans HS.1.2.2.2.2.2.1 (Nat.le_of_eq hg.symm) : w.heap.size <= gf); have NF := Aside0.mk (nB BE.1 hg); clear HS BE hcz0 hcz1 hcz2 hcz3 hcz4 hcz5 hcz6 hcz7 hfz0 hfz1 hfz2 hfz3 hfz4 hfz5 hfz6 hfz7 hc0_0 hc0_1 hc0_2 hf0_0 hf0_1 hf0_2; have HS := n0_; have BE := m0_; clear n0_ m0_ hbox hg hb; obtain ⟨hcz0, hcz1, hcz2, hcz3, hcz4, hcz5, hcz6, hcz7, hfz0, hfz1, hfz2, hfz3, hfz4, hfz5, hfz6, hfz7⟩ := cz8 HS.1.2.2.1; obtain ⟨hc0_0, hc0_1, hc0_2, hf0_0, hf0_1, hf0_2⟩ := cz3 BE.1; obtain ⟨hd0_0, hd0_1, hd0_2, hg0_0, hg0_1, hg0_2⟩ := cz3 BF.1; have hnb := NF.1; have hnc := NF.1.symm))
     obtain ⟨n0_, n1_⟩ := HS.1.box3 BF.1 (Nat.le_trans HW.1 GF.1) GF.1 (.int .i64 1) (.int .i64 e2) (.int .i64 e3)
     have n2_ := far3 BE.1 NF.1 (.int .i64 1) (.int .i64 e2) (.int .i64 e3)
     replace HS := Aside0.mk (n0_.below (below_drew (Below.refl _ _)))
     replace BF := Aside0.mk (blk_drew n1_)
     replace BE := Aside0.mk (blk_drew n2_)
     clear n0_ n1_ n2_ hcz0 hcz1 hcz2 hcz3 hcz4 hcz5 hcz6 hcz7 hfz0 hfz1 hfz2 hfz3 hfz4 hfz5 hfz6 hfz7 hc0_0 hc0_1 hc0_2 hf0_0 hf0_1 hf0_2 hd0_0 hd0_1 hd0_2 hg0_0 hg0_1 hg0_2
     refine start_ (n := 10) (S := fun w' => w'.cell? ⟨gf, 2, none⟩ = some (.int .i64 e3) /\ w'.cell? ⟨gm, 1, none⟩ = some (.int .i64 c)) (ds := []) #[Zz,Zz,Zz,Zz,Zz,Zz,Zz,Zz,Zz,Zz] (by kernel_rfl) rfl rfl ⟨(blk_cell BF.1 2).trans rfl, (blk_cell HS.1.2.2.1 1).trans rfl⟩ (fun hHeld => ?_)
     generalize World.drew _ = w8 at HS BF BE hHeld ⊢
     refine pureF 0 (N := some 56) rfl ?_
     refine pureF 3 (N := some 59) rfl ?_
     refine takeF 1 (N := some 57) hHeld ?_
     refine pureF 2 (N := some 58) rfl ?_
     refine pureF 4 (N := some 60) rfl ?_
     refine pureF 5 (N := some 61) rfl ?_
     refine pureF 6 (N := some 62) rfl ?_
     refine takeF 7 (N := some 63) hHeld ?_
     refine pureF 8 (N := some 64) rfl ?_
     refine pureF 9 (N := some 55) rfl ?_
     refine done_ (by kernel_rfl) ?_
     obtain ⟨hcz0, hcz1, hcz2, hcz3, hcz4, hcz5, hcz6, hcz7, hfz0, hfz1, hfz2, hfz3, hfz4, hfz5, hfz6, hfz7⟩ := cz8 HS.1.2.2.1
     obtain ⟨hc0_0, hc0_1, hc0_2, hf0_0, hf0_1, hf0_2⟩ := cz3 BE.1
     obtain ⟨hd0_0, hd0_1, hd0_2, hg0_0, hg0_1, hg0_2⟩ := cz3 BF.1
     go_wp2
     have n0_ := HS.1.put 7 (.int .i64 1) rfl
     have n1_ := blk_far BE.1 (p := ⟨gm, 7, none⟩) (fun e_ => by have a_ := HS.1.2.2.1; have b_ := BE.1; rw [e_, a_] at b_; cases b_) (.int .i64 1)
     obtain ⟨n2_, n3_⟩ := n0_.box3 n1_ (Nat.le_trans HW.1 GE.1) GE.1 (.int .i64 1) (.int .i64 e2) (.int .i64 e3)
     refine bodyPost_ret (results_cell_row rfl _ _ ge 61 #[.int .i64 1, .int .i64 e2, .int .i64 e3] (0, 0) _ rfl n3_ Try.underlying61 rfl (by kernel_rfl)) rfl ?_
     refine ⟨rfl, ?_⟩
     rw [show mNext 1 e3 c = 1 from by simp only [mNext, if_true]; exact if_neg (by have := HE.1; omega)]
     exact n2_
   · have HE := Aside0.mk hE
     have q3 := bne_iff_ne.mpr hE
     have q4 := beq_eq_false_iff_ne.mpr hE
     clear hE
     go_wp2_with (first
      | ((with_reducible refine gate_dst (N := 4) rfl ?_); refine boxE (cs := #[.int .i64 0, .int .i64 0, .int .i64 0]) (t := 61) ?_; intro ge hg w4 hbox hb; have n0_ := Aside0.mk (HS.1.below hb); have BE := Aside0.mk hbox; have GE := Aside0.mk (hg ▸ Nat.le_refl _ : w.heap.size <= ge); clear HS hcz0 hcz1 hcz2 hcz3 hcz4 hcz5 hcz6 hcz7 hfz0 hfz1 hfz2 hfz3 hfz4 hfz5 hfz6 hfz7; have HS := n0_; clear n0_ hbox hg hb; obtain ⟨hcz0, hcz1, hcz2, hcz3, hcz4, hcz5, hcz6, hcz7, hfz0, hfz1, hfz2, hfz3, hfz4, hfz5, hfz6, hfz7⟩ := cz8 HS.1.2.2.1)
      | ((with_reducible refine gate_callee (f := 69) rfl ?_); refine goesM (N := some 42) #[.agg #[.int .i64 r, .int .i64 c, .slice A0 n c0], .slice A1 g.length c1, .int .i64 left] Try.func69 ?_; have n0_ := Aside0.mk (HS.1.put 5 (.int .i64 (wrap64 (blue - 1))) rfl); have nE := Aside0.mk (blk_far BE.1 (p := ⟨gm, 5, none⟩) (fun e_ => by have a_ := HS.1.2.2.1; have b_ := BE.1; rw [e_, a_] at b_; cases b_) (.int .i64 (wrap64 (blue - 1)))); refine (impl_drop.calls k r c (fun k_ => some k_ = (Value.slice A0 n c0).ownBlock) (.slice A0 n c0) cs A1 c1 g left _ e2 e3 way cs' w0 _ n0_.1.1 n0_.1.2.2.2.1 (fun W_ hW_ => (R_reads' (n0_.1.groups hW_)).2.2) HC1.1 HD'.1).mono ?_; rintro e w5 ⟨v3_, rfl, hw, hcs, hb, hk⟩; refine ⟨_, rfl, ?_⟩; have n1_ := Aside0.mk (n0_.1.drop hcs hb hk); have m1_ := Aside0.mk ((hk.2 ge (blk_lt nE.1) (own_ne nE.1 n0_.1.2.2.2.1 (by decide))).trans nE.1); clear HS BE n0_ nE hw hcs hb hk hcz0 hcz1 hcz2 hcz3 hcz4 hcz5 hcz6 hcz7 hfz0 hfz1 hfz2 hfz3 hfz4 hfz5 hfz6 hfz7; have HS := n1_; have BE := m1_; clear n1_ m1_; obtain ⟨hcz0, hcz1, hcz2, hcz3, hcz4, hcz5, hcz6, hcz7, hfz0, hfz1, hfz2, hfz3, hfz4, hfz5, hfz6, hfz7⟩ := cz8 HS.1.2.2.1; obtain ⟨hc0_0, hc0_1, hc0_2, hf0_0, hf0_1, hf0_2⟩ := cz3 BE.1)
      | ((with_reducible refine gate_dst (N := 6) rfl ?_); refine boxE (cs := #[.int .i64 0, .int .i64 0, .int .i64 0]) (t := 61) ?_; intro gf hg w6 hbox hb; have n0_ := Aside0.mk (HS.1.below hb); have m0_ := Aside0.mk (blk_below BE.1 hb); have BF := Aside0.mk hbox; have GF := Aside0.mk (Nat.le_trans HS.1.2.2.2.2.2.1 (Nat.le_of_eq hg.symm) : w.heap.size <= gf); have NF := Aside0.mk (nB BE.1 hg); clear HS BE hcz0 hcz1 hcz2 hcz3 hcz4 hcz5 hcz6 hcz7 hfz0 hfz1 hfz2 hfz3 hfz4 hfz5 hfz6 hfz7 hc0_0 hc0_1 hc0_2 hf0_0 hf0_1 hf0_2; have HS := n0_; have BE := m0_; clear n0_ m0_ hbox hg hb; obtain ⟨hcz0, hcz1, hcz2, hcz3, hcz4, hcz5, hcz6, hcz7, hfz0, hfz1, hfz2, hfz3, hfz4, hfz5, hfz6, hfz7⟩ := cz8 HS.1.2.2.1; obtain ⟨hc0_0, hc0_1, hc0_2, hf0_0, hf0_1, hf0_2⟩ := cz3 BE.1; obtain ⟨hd0_0, hd0_1, hd0_2, hg0_0, hg0_1, hg0_2⟩ := cz3 BF.1; have hnb := NF.1; have hnc := NF.1.symm))
     obtain ⟨n0_, n1_⟩ := HS.1.box3 BF.1 (Nat.le_trans HW.1 GF.1) GF.1 (.int .i64 e1) (.int .i64 e2) (.int .i64 e3)
     have n2_ := far3 BE.1 NF.1 (.int .i64 e1) (.int .i64 e2) (.int .i64 e3)
     have n3_ := n0_.put 7 (.int .i64 2) rfl
     have n4_ := blk_far n2_ (p := ⟨gm, 7, none⟩) (fun e_ => by have a_ := n0_.2.2.1; have b_ := n2_; rw [e_, a_] at b_; cases b_) (.int .i64 2)
     obtain ⟨n5_, n6_⟩ := n3_.box3 n4_ (Nat.le_trans HW.1 GE.1) GE.1 (.int .i64 e1) (.int .i64 e2) (.int .i64 e3)
     refine bodyPost_ret (results_cell_row rfl _ _ ge 61 #[.int .i64 e1, .int .i64 e2, .int .i64 e3] (0, 0) _ rfl n6_ Try.underlying61 rfl (by kernel_rfl)) rfl ?_
     refine ⟨rfl, ?_⟩
     rw [show mNext e1 e3 c = 2 from if_neg HE.1]
     exact n5_
 · have qn := decide_eq_false hn
   have qn2 := eq_false hn
   have HD' := Aside0.mk (show impl_drop.f k r c cs g right = some (e1, e2, e3, way, cs') from by have := HD.1; first | exact this | (rw [if_neg hn] at this; exact this))
   clear HD
   rcases (by by_cases h1 : e1 = 1 <;> by_cases h2 : wrap64 (2 * e3) < c <;> simp [h1, h2] : (e1 = 1 /\ wrap64 (2 * e3) < c) ∨ (e1 = 1 /\ ¬ wrap64 (2 * e3) < c) ∨ (e1 ≠ 1)) with ⟨rfl, hE⟩ | ⟨rfl, hE⟩ | hE
   · have HE := Aside0.mk hE
     have q1 := decide_eq_true hE
     have q2 := eq_true hE
     clear hE
     go_wp2_with (first
      | ((with_reducible refine gate_dst (N := 4) rfl ?_); refine boxE (cs := #[.int .i64 0, .int .i64 0, .int .i64 0]) (t := 61) ?_; intro ge hg w4 hbox hb; have n0_ := Aside0.mk (HS.1.below hb); have BE := Aside0.mk hbox; have GE := Aside0.mk (hg ▸ Nat.le_refl _ : w.heap.size <= ge); clear HS hcz0 hcz1 hcz2 hcz3 hcz4 hcz5 hcz6 hcz7 hfz0 hfz1 hfz2 hfz3 hfz4 hfz5 hfz6 hfz7; have HS := n0_; clear n0_ hbox hg hb; obtain ⟨hcz0, hcz1, hcz2, hcz3, hcz4, hcz5, hcz6, hcz7, hfz0, hfz1, hfz2, hfz3, hfz4, hfz5, hfz6, hfz7⟩ := cz8 HS.1.2.2.1)
      | ((with_reducible refine gate_callee (f := 69) rfl ?_); refine goesM (N := some 42) #[.agg #[.int .i64 r, .int .i64 c, .slice A0 n c0], .slice A1 g.length c1, .int .i64 right] Try.func69 ?_; have n0_ := Aside0.mk (HS.1.put 6 (.int .i64 (wrap64 (red - 1))) rfl); have nE := Aside0.mk (blk_far BE.1 (p := ⟨gm, 6, none⟩) (fun e_ => by have a_ := HS.1.2.2.1; have b_ := BE.1; rw [e_, a_] at b_; cases b_) (.int .i64 (wrap64 (red - 1)))); refine (impl_drop.calls k r c (fun k_ => some k_ = (Value.slice A0 n c0).ownBlock) (.slice A0 n c0) cs A1 c1 g right _ e2 e3 way cs' w0 _ n0_.1.1 n0_.1.2.2.2.1 (fun W_ hW_ => (R_reads' (n0_.1.groups hW_)).2.2) HC1.1 HD'.1).mono ?_; rintro e w5 ⟨v3_, rfl, hw, hcs, hb, hk⟩; refine ⟨_, rfl, ?_⟩; have n1_ := Aside0.mk (n0_.1.drop hcs hb hk); have m1_ := Aside0.mk ((hk.2 ge (blk_lt nE.1) (own_ne nE.1 n0_.1.2.2.2.1 (by decide))).trans nE.1); clear HS BE n0_ nE hw hcs hb hk hcz0 hcz1 hcz2 hcz3 hcz4 hcz5 hcz6 hcz7 hfz0 hfz1 hfz2 hfz3 hfz4 hfz5 hfz6 hfz7; have HS := n1_; have BE := m1_; clear n1_ m1_; obtain ⟨hcz0, hcz1, hcz2, hcz3, hcz4, hcz5, hcz6, hcz7, hfz0, hfz1, hfz2, hfz3, hfz4, hfz5, hfz6, hfz7⟩ := cz8 HS.1.2.2.1; obtain ⟨hc0_0, hc0_1, hc0_2, hf0_0, hf0_1, hf0_2⟩ := cz3 BE.1)
      | ((with_reducible refine gate_dst (N := 6) rfl ?_); refine boxE (cs := #[.int .i64 0, .int .i64 0, .int .i64 0]) (t := 61) ?_; intro gf hg w6 hbox hb; have n0_ := Aside0.mk (HS.1.below hb); have m0_ := Aside0.mk (blk_below BE.1 hb); have BF := Aside0.mk hbox; have GF := Aside0.mk (Nat.le_trans HS.1.2.2.2.2.2.1 (Nat.le_of_eq hg.symm) : w.heap.size <= gf); have NF := Aside0.mk (nB BE.1 hg); clear HS BE hcz0 hcz1 hcz2 hcz3 hcz4 hcz5 hcz6 hcz7 hfz0 hfz1 hfz2 hfz3 hfz4 hfz5 hfz6 hfz7 hc0_0 hc0_1 hc0_2 hf0_0 hf0_1 hf0_2; have HS := n0_; have BE := m0_; clear n0_ m0_ hbox hg hb; obtain ⟨hcz0, hcz1, hcz2, hcz3, hcz4, hcz5, hcz6, hcz7, hfz0, hfz1, hfz2, hfz3, hfz4, hfz5, hfz6, hfz7⟩ := cz8 HS.1.2.2.1; obtain ⟨hc0_0, hc0_1, hc0_2, hf0_0, hf0_1, hf0_2⟩ := cz3 BE.1; obtain ⟨hd0_0, hd0_1, hd0_2, hg0_0, hg0_1, hg0_2⟩ := cz3 BF.1; have hnb := NF.1; have hnc := NF.1.symm))
     obtain ⟨n0_, n1_⟩ := HS.1.box3 BF.1 (Nat.le_trans HW.1 GF.1) GF.1 (.int .i64 1) (.int .i64 e2) (.int .i64 e3)
     have n2_ := far3 BE.1 NF.1 (.int .i64 1) (.int .i64 e2) (.int .i64 e3)
     replace HS := Aside0.mk (n0_.below (below_drew (Below.refl _ _)))
     replace BF := Aside0.mk (blk_drew n1_)
     replace BE := Aside0.mk (blk_drew n2_)
     clear n0_ n1_ n2_ hcz0 hcz1 hcz2 hcz3 hcz4 hcz5 hcz6 hcz7 hfz0 hfz1 hfz2 hfz3 hfz4 hfz5 hfz6 hfz7 hc0_0 hc0_1 hc0_2 hf0_0 hf0_1 hf0_2 hd0_0 hd0_1 hd0_2 hg0_0 hg0_1 hg0_2
     refine start_ (n := 10) (S := fun w' => w'.cell? ⟨gf, 2, none⟩ = some (.int .i64 e3) /\ w'.cell? ⟨gm, 1, none⟩ = some (.int .i64 c)) (ds := []) #[Zz,Zz,Zz,Zz,Zz,Zz,Zz,Zz,Zz,Zz] (by kernel_rfl) rfl rfl ⟨(blk_cell BF.1 2).trans rfl, (blk_cell HS.1.2.2.1 1).trans rfl⟩ (fun hHeld => ?_)
     generalize World.drew _ = w8 at HS BF BE hHeld ⊢
     refine pureF 0 (N := some 56) rfl ?_
     refine pureF 3 (N := some 59) rfl ?_
     refine takeF 1 (N := some 57) hHeld ?_
     refine pureF 2 (N := some 58) rfl ?_
     refine pureF 4 (N := some 60) rfl ?_
     refine pureF 5 (N := some 61) rfl ?_
     refine pureF 6 (N := some 62) rfl ?_
     refine takeF 7 (N := some 63) hHeld ?_
     refine pureF 8 (N := some 64) rfl ?_
     refine pureF 9 (N := some 55) rfl ?_
     refine done_ (by kernel_rfl) ?_
     obtain ⟨hcz0, hcz1, hcz2, hcz3, hcz4, hcz5, hcz6, hcz7, hfz0, hfz1, hfz2, hfz3, hfz4, hfz5, hfz6, hfz7⟩ := cz8 HS.1.2.2.1
     obtain ⟨hc0_0, hc0_1, hc0_2, hf0_0, hf0_1, hf0_2⟩ := cz3 BE.1
     obtain ⟨hd0_0, hd0_1, hd0_2, hg0_0, hg0_1, hg0_2⟩ := cz3 BF.1
     go_wp2
     have n0_ := HS.1.put 7 (.int .i64 0) rfl
     have n1_ := blk_far BE.1 (p := ⟨gm, 7, none⟩) (fun e_ => by have a_ := HS.1.2.2.1; have b_ := BE.1; rw [e_, a_] at b_; cases b_) (.int .i64 0)
     obtain ⟨n2_, n3_⟩ := n0_.box3 n1_ (Nat.le_trans HW.1 GE.1) GE.1 (.int .i64 1) (.int .i64 e2) (.int .i64 e3)
     refine bodyPost_ret (results_cell_row rfl _ _ ge 61 #[.int .i64 1, .int .i64 e2, .int .i64 e3] (0, 0) _ rfl n3_ Try.underlying61 rfl (by kernel_rfl)) rfl ?_
     refine ⟨rfl, ?_⟩
     rw [show mNext 1 e3 c = 0 from by simp only [mNext, if_true]; exact if_pos HE.1]
     first | exact n2_ | (simp only [if_neg hn]; exact n2_)
   · have HE := Aside0.mk hE
     have q1 := decide_eq_false hE
     have q2 := eq_false hE
     clear hE
     go_wp2_with (first
      | ((with_reducible refine gate_dst (N := 4) rfl ?_); refine boxE (cs := #[.int .i64 0, .int .i64 0, .int .i64 0]) (t := 61) ?_; intro ge hg w4 hbox hb; have n0_ := Aside0.mk (HS.1.below hb); have BE := Aside0.mk hbox; have GE := Aside0.mk (hg ▸ Nat.le_refl _ : w.heap.size <= ge); clear HS hcz0 hcz1 hcz2 hcz3 hcz4 hcz5 hcz6 hcz7 hfz0 hfz1 hfz2 hfz3 hfz4 hfz5 hfz6 hfz7; have HS := n0_; clear n0_ hbox hg hb; obtain ⟨hcz0, hcz1, hcz2, hcz3, hcz4, hcz5, hcz6, hcz7, hfz0, hfz1, hfz2, hfz3, hfz4, hfz5, hfz6, hfz7⟩ := cz8 HS.1.2.2.1)
      | ((with_reducible refine gate_callee (f := 69) rfl ?_); refine goesM (N := some 42) #[.agg #[.int .i64 r, .int .i64 c, .slice A0 n c0], .slice A1 g.length c1, .int .i64 right] Try.func69 ?_; have n0_ := Aside0.mk (HS.1.put 6 (.int .i64 (wrap64 (red - 1))) rfl); have nE := Aside0.mk (blk_far BE.1 (p := ⟨gm, 6, none⟩) (fun e_ => by have a_ := HS.1.2.2.1; have b_ := BE.1; rw [e_, a_] at b_; cases b_) (.int .i64 (wrap64 (red - 1)))); refine (impl_drop.calls k r c (fun k_ => some k_ = (Value.slice A0 n c0).ownBlock) (.slice A0 n c0) cs A1 c1 g right _ e2 e3 way cs' w0 _ n0_.1.1 n0_.1.2.2.2.1 (fun W_ hW_ => (R_reads' (n0_.1.groups hW_)).2.2) HC1.1 HD'.1).mono ?_; rintro e w5 ⟨v3_, rfl, hw, hcs, hb, hk⟩; refine ⟨_, rfl, ?_⟩; have n1_ := Aside0.mk (n0_.1.drop hcs hb hk); have m1_ := Aside0.mk ((hk.2 ge (blk_lt nE.1) (own_ne nE.1 n0_.1.2.2.2.1 (by decide))).trans nE.1); clear HS BE n0_ nE hw hcs hb hk hcz0 hcz1 hcz2 hcz3 hcz4 hcz5 hcz6 hcz7 hfz0 hfz1 hfz2 hfz3 hfz4 hfz5 hfz6 hfz7; have HS := n1_; have BE := m1_; clear n1_ m1_; obtain ⟨hcz0, hcz1, hcz2, hcz3, hcz4, hcz5, hcz6, hcz7, hfz0, hfz1, hfz2, hfz3, hfz4, hfz5, hfz6, hfz7⟩ := cz8 HS.1.2.2.1; obtain ⟨hc0_0, hc0_1, hc0_2, hf0_0, hf0_1, hf0_2⟩ := cz3 BE.1)
      | ((with_reducible refine gate_dst (N := 6) rfl ?_); refine boxE (cs := #[.int .i64 0, .int .i64 0, .int .i64 0]) (t := 61) ?_; intro gf hg w6 hbox hb; have n0_ := Aside0.mk (HS.1.below hb); have m0_ := Aside0.mk (blk_below BE.1 hb); have BF := Aside0.mk hbox; have GF := Aside0.mk (Nat.le_trans HS.1.2.2.2.2.2.1 (Nat.le_of_eq hg.symm) : w.heap.size <= gf); have NF := Aside0.mk (nB BE.1 hg); clear HS BE hcz0 hcz1 hcz2 hcz3 hcz4 hcz5 hcz6 hcz7 hfz0 hfz1 hfz2 hfz3 hfz4 hfz5 hfz6 hfz7 hc0_0 hc0_1 hc0_2 hf0_0 hf0_1 hf0_2; have HS := n0_; have BE := m0_; clear n0_ m0_ hbox hg hb; obtain ⟨hcz0, hcz1, hcz2, hcz3, hcz4, hcz5, hcz6, hcz7, hfz0, hfz1, hfz2, hfz3, hfz4, hfz5, hfz6, hfz7⟩ := cz8 HS.1.2.2.1; obtain ⟨hc0_0, hc0_1, hc0_2, hf0_0, hf0_1, hf0_2⟩ := cz3 BE.1; obtain ⟨hd0_0, hd0_1, hd0_2, hg0_0, hg0_1, hg0_2⟩ := cz3 BF.1; have hnb := NF.1; have hnc := NF.1.symm))
     obtain ⟨n0_, n1_⟩ := HS.1.box3 BF.1 (Nat.le_trans HW.1 GF.1) GF.1 (.int .i64 1) (.int .i64 e2) (.int .i64 e3)
     have n2_ := far3 BE.1 NF.1 (.int .i64 1) (.int .i64 e2) (.int .i64 e3)
     replace HS := Aside0.mk (n0_.below (below_drew (Below.refl _ _)))
     replace BF := Aside0.mk (blk_drew n1_)
     replace BE := Aside0.mk (blk_drew n2_)
     clear n0_ n1_ n2_ hcz0 hcz1 hcz2 hcz3 hcz4 hcz5 hcz6 hcz7 hfz0 hfz1 hfz2 hfz3 hfz4 hfz5 hfz6 hfz7 hc0_0 hc0_1 hc0_2 hf0_0 hf0_1 hf0_2 hd0_0 hd0_1 hd0_2 hg0_0 hg0_1 hg0_2
     refine start_ (n := 10) (S := fun w' => w'.cell? ⟨gf, 2, none⟩ = some (.int .i64 e3) /\ w'.cell? ⟨gm, 1, none⟩ = some (.int .i64 c)) (ds := []) #[Zz,Zz,Zz,Zz,Zz,Zz,Zz,Zz,Zz,Zz] (by kernel_rfl) rfl rfl ⟨(blk_cell BF.1 2).trans rfl, (blk_cell HS.1.2.2.1 1).trans rfl⟩ (fun hHeld => ?_)
     generalize World.drew _ = w8 at HS BF BE hHeld ⊢
     refine pureF 0 (N := some 56) rfl ?_
     refine pureF 3 (N := some 59) rfl ?_
     refine takeF 1 (N := some 57) hHeld ?_
     refine pureF 2 (N := some 58) rfl ?_
     refine pureF 4 (N := some 60) rfl ?_
     refine pureF 5 (N := some 61) rfl ?_
     refine pureF 6 (N := some 62) rfl ?_
     refine takeF 7 (N := some 63) hHeld ?_
     refine pureF 8 (N := some 64) rfl ?_
     refine pureF 9 (N := some 55) rfl ?_
     refine done_ (by kernel_rfl) ?_
     obtain ⟨hcz0, hcz1, hcz2, hcz3, hcz4, hcz5, hcz6, hcz7, hfz0, hfz1, hfz2, hfz3, hfz4, hfz5, hfz6, hfz7⟩ := cz8 HS.1.2.2.1
     obtain ⟨hc0_0, hc0_1, hc0_2, hf0_0, hf0_1, hf0_2⟩ := cz3 BE.1
     obtain ⟨hd0_0, hd0_1, hd0_2, hg0_0, hg0_1, hg0_2⟩ := cz3 BF.1
     go_wp2
     have n0_ := HS.1.put 7 (.int .i64 1) rfl
     have n1_ := blk_far BE.1 (p := ⟨gm, 7, none⟩) (fun e_ => by have a_ := HS.1.2.2.1; have b_ := BE.1; rw [e_, a_] at b_; cases b_) (.int .i64 1)
     obtain ⟨n2_, n3_⟩ := n0_.box3 n1_ (Nat.le_trans HW.1 GE.1) GE.1 (.int .i64 1) (.int .i64 e2) (.int .i64 e3)
     refine bodyPost_ret (results_cell_row rfl _ _ ge 61 #[.int .i64 1, .int .i64 e2, .int .i64 e3] (0, 0) _ rfl n3_ Try.underlying61 rfl (by kernel_rfl)) rfl ?_
     refine ⟨rfl, ?_⟩
     rw [show mNext 1 e3 c = 1 from by simp only [mNext, if_true]; exact if_neg (by have := HE.1; omega)]
     first | exact n2_ | (simp only [if_neg hn]; exact n2_)
   · have HE := Aside0.mk hE
     have q3 := bne_iff_ne.mpr hE
     have q4 := beq_eq_false_iff_ne.mpr hE
     clear hE
     go_wp2_with (first
      | ((with_reducible refine gate_dst (N := 4) rfl ?_); refine boxE (cs := #[.int .i64 0, .int .i64 0, .int .i64 0]) (t := 61) ?_; intro ge hg w4 hbox hb; have n0_ := Aside0.mk (HS.1.below hb); have BE := Aside0.mk hbox; have GE := Aside0.mk (hg ▸ Nat.le_refl _ : w.heap.size <= ge); clear HS hcz0 hcz1 hcz2 hcz3 hcz4 hcz5 hcz6 hcz7 hfz0 hfz1 hfz2 hfz3 hfz4 hfz5 hfz6 hfz7; have HS := n0_; clear n0_ hbox hg hb; obtain ⟨hcz0, hcz1, hcz2, hcz3, hcz4, hcz5, hcz6, hcz7, hfz0, hfz1, hfz2, hfz3, hfz4, hfz5, hfz6, hfz7⟩ := cz8 HS.1.2.2.1)
      | ((with_reducible refine gate_callee (f := 69) rfl ?_); refine goesM (N := some 42) #[.agg #[.int .i64 r, .int .i64 c, .slice A0 n c0], .slice A1 g.length c1, .int .i64 right] Try.func69 ?_; have n0_ := Aside0.mk (HS.1.put 6 (.int .i64 (wrap64 (red - 1))) rfl); have nE := Aside0.mk (blk_far BE.1 (p := ⟨gm, 6, none⟩) (fun e_ => by have a_ := HS.1.2.2.1; have b_ := BE.1; rw [e_, a_] at b_; cases b_) (.int .i64 (wrap64 (red - 1)))); refine (impl_drop.calls k r c (fun k_ => some k_ = (Value.slice A0 n c0).ownBlock) (.slice A0 n c0) cs A1 c1 g right _ e2 e3 way cs' w0 _ n0_.1.1 n0_.1.2.2.2.1 (fun W_ hW_ => (R_reads' (n0_.1.groups hW_)).2.2) HC1.1 HD'.1).mono ?_; rintro e w5 ⟨v3_, rfl, hw, hcs, hb, hk⟩; refine ⟨_, rfl, ?_⟩; have n1_ := Aside0.mk (n0_.1.drop hcs hb hk); have m1_ := Aside0.mk ((hk.2 ge (blk_lt nE.1) (own_ne nE.1 n0_.1.2.2.2.1 (by decide))).trans nE.1); clear HS BE n0_ nE hw hcs hb hk hcz0 hcz1 hcz2 hcz3 hcz4 hcz5 hcz6 hcz7 hfz0 hfz1 hfz2 hfz3 hfz4 hfz5 hfz6 hfz7; have HS := n1_; have BE := m1_; clear n1_ m1_; obtain ⟨hcz0, hcz1, hcz2, hcz3, hcz4, hcz5, hcz6, hcz7, hfz0, hfz1, hfz2, hfz3, hfz4, hfz5, hfz6, hfz7⟩ := cz8 HS.1.2.2.1; obtain ⟨hc0_0, hc0_1, hc0_2, hf0_0, hf0_1, hf0_2⟩ := cz3 BE.1)
      | ((with_reducible refine gate_dst (N := 6) rfl ?_); refine boxE (cs := #[.int .i64 0, .int .i64 0, .int .i64 0]) (t := 61) ?_; intro gf hg w6 hbox hb; have n0_ := Aside0.mk (HS.1.below hb); have m0_ := Aside0.mk (blk_below BE.1 hb); have BF := Aside0.mk hbox; have GF := Aside0.mk (Nat.le_trans HS.1.2.2.2.2.2.1 (Nat.le_of_eq hg.symm) : w.heap.size <= gf); have NF := Aside0.mk (nB BE.1 hg); clear HS BE hcz0 hcz1 hcz2 hcz3 hcz4 hcz5 hcz6 hcz7 hfz0 hfz1 hfz2 hfz3 hfz4 hfz5 hfz6 hfz7 hc0_0 hc0_1 hc0_2 hf0_0 hf0_1 hf0_2; have HS := n0_; have BE := m0_; clear n0_ m0_ hbox hg hb; obtain ⟨hcz0, hcz1, hcz2, hcz3, hcz4, hcz5, hcz6, hcz7, hfz0, hfz1, hfz2, hfz3, hfz4, hfz5, hfz6, hfz7⟩ := cz8 HS.1.2.2.1; obtain ⟨hc0_0, hc0_1, hc0_2, hf0_0, hf0_1, hf0_2⟩ := cz3 BE.1; obtain ⟨hd0_0, hd0_1, hd0_2, hg0_0, hg0_1, hg0_2⟩ := cz3 BF.1; have hnb := NF.1; have hnc := NF.1.symm))
     obtain ⟨n0_, n1_⟩ := HS.1.box3 BF.1 (Nat.le_trans HW.1 GF.1) GF.1 (.int .i64 e1) (.int .i64 e2) (.int .i64 e3)
     have n2_ := far3 BE.1 NF.1 (.int .i64 e1) (.int .i64 e2) (.int .i64 e3)
     have n3_ := n0_.put 7 (.int .i64 2) rfl
     have n4_ := blk_far n2_ (p := ⟨gm, 7, none⟩) (fun e_ => by have a_ := n0_.2.2.1; have b_ := n2_; rw [e_, a_] at b_; cases b_) (.int .i64 2)
     obtain ⟨n5_, n6_⟩ := n3_.box3 n4_ (Nat.le_trans HW.1 GE.1) GE.1 (.int .i64 e1) (.int .i64 e2) (.int .i64 e3)
     refine bodyPost_ret (results_cell_row rfl _ _ ge 61 #[.int .i64 e1, .int .i64 e2, .int .i64 e3] (0, 0) _ rfl n6_ Try.underlying61 rfl (by kernel_rfl)) rfl ?_
     refine ⟨rfl, ?_⟩
     rw [show mNext e1 e3 c = 2 from if_neg HE.1]
     first | exact n5_ | (simp only [if_neg hn]; exact n5_)
def impl_runSteps.l0 : Nat -> Int -> List Int -> Int -> Int -> List S98 -> Int -> Int -> Int -> Int -> Int -> List S66 -> Option (Int × Int × List S98 × Int × Int × Int × Int × Int × List S66)
 | 0, _, _, _, _, _, _, _, _, _, _, _ => none
 | k + 1, n, g, r, c, cs, left, right, blue, red, next, es => if (es.length : Int) < n then ((impl_canStep.f r c cs left right blue red next).bind fun t => if t = true then ((impl_drop.f k r c cs g (if next = 0 then left else right)).bind fun b => if es.length < 4398046511104 then impl_runSteps.l0 k n g r c b.2.2.2.2 left right (if next = 0 then wrap64 (blue - 1) else blue) (if next = 0 then red else wrap64 (red - 1)) (mNext b.1 b.2.2.1 c) (es ++ [(⟨next, ⟨b.1, b.2.1, b.2.2.1⟩⟩ : S66)]) else none) else some (r, c, cs, left, right, blue, red, next, es)) else some (r, c, cs, left, right, blue, red, next, es)
def impl_runSteps.f (k : Nat) (r c : Int) (cs : List S98) (left right blue red next n : Int) : Option (Int × Int × List S98 × Int × Int × Int × Int × Int × List S66) := (impl_copyMachine.f r c cs left right blue red next).bind fun m => (impl_groupNumbers.f k r c cs).bind fun g => impl_runSteps.l0 k n g m.1 m.2.1 m.2.2.1 m.2.2.2.1 m.2.2.2.2.1 m.2.2.2.2.2.1 m.2.2.2.2.2.2.1 m.2.2.2.2.2.2.2 []
theorem impl_runSteps.mono_l : ∀ k n g r c cs left right blue red next es, LeO (impl_runSteps.l0 k n g r c cs left right blue red next es) (impl_runSteps.l0 (k + 1) n g r c cs left right blue red next es)
 | 0, _, _, _, _, _, _, _, _, _, _, _ => LeO.none _
 | k + 1, n, g, r, c, cs, left, right, blue, red, next, es => by
  rw [impl_runSteps.l0, impl_runSteps.l0]
  exact LeO.ite (LeO.bind (LeO.refl _) fun t => LeO.ite (LeO.bind (impl_drop.mono _ _ _ _ _ _) fun b => LeO.ite (impl_runSteps.mono_l k _ _ _ _ _ _ _ _ _ _ _) (LeO.refl _)) (LeO.refl _)) (LeO.refl _)
theorem impl_runSteps.mono : ∀ a0 a1 a2 a3 a4 a5 a6 a7 a8 k, LeO (impl_runSteps.f k a0 a1 a2 a3 a4 a5 a6 a7 a8) (impl_runSteps.f (k + 1) a0 a1 a2 a3 a4 a5 a6 a7 a8) := fun _ _ _ _ _ _ _ _ _ k => LeO.bind (LeO.refl _) fun _ => LeO.bind (impl_groupNumbers.mono _ _ _ _) fun _ => impl_runSteps.mono_l k _ _ _ _ _ _ _ _ _ _ _
/-- Eight cells stored. -/
abbrev set8 (w : World) (g : Nat) (v0 v1 v2 v3 v4 v5 v6 v7 : Value) : World := (((((((w.setCell ⟨g, 0, none⟩ v0).setCell ⟨g, 1, none⟩ v1).setCell ⟨g, 2, none⟩ v2).setCell ⟨g, 3, none⟩ v3).setCell ⟨g, 4, none⟩ v4).setCell ⟨g, 5, none⟩ v5).setCell ⟨g, 6, none⟩ v6).setCell ⟨g, 7, none⟩ v7
theorem set8_blk {w : World} {g : Nat} {u0 u1 u2 u3 u4 u5 u6 u7 : Value} (h : w.heap[g]? = some (.cells #[u0, u1, u2, u3, u4, u5, u6, u7] 35 (0, 0))) (v0 v1 v2 v3 v4 v5 v6 v7 : Value) : (set8 w g v0 v1 v2 v3 v4 v5 v6 v7).heap[g]? = some (.cells #[v0, v1, v2, v3, v4, v5, v6, v7] 35 (0, 0)) :=
 blk_put (blk_put (blk_put (blk_put (blk_put (blk_put (blk_put (blk_put h 0 v0 (cs' := #[v0, u1, u2, u3, u4, u5, u6, u7]) rfl) 1 v1 (cs' := #[v0, v1, u2, u3, u4, u5, u6, u7]) rfl) 2 v2 (cs' := #[v0, v1, v2, u3, u4, u5, u6, u7]) rfl) 3 v3 (cs' := #[v0, v1, v2, v3, u4, u5, u6, u7]) rfl) 4 v4 (cs' := #[v0, v1, v2, v3, v4, u5, u6, u7]) rfl) 5 v5 (cs' := #[v0, v1, v2, v3, v4, v5, u6, u7]) rfl) 6 v6 (cs' := #[v0, v1, v2, v3, v4, v5, v6, u7]) rfl) 7 v7 rfl
theorem set8_far {w : World} {g g' : Nat} {t : TypeId} {cells : Array Value} (h : w.heap[g']? = some (.cells cells t (0, 0))) (hne : g' ≠ g) (v0 v1 v2 v3 v4 v5 v6 v7 : Value) : (set8 w g v0 v1 v2 v3 v4 v5 v6 v7).heap[g']? = some (.cells cells t (0, 0)) :=
 blk_far (blk_far (blk_far (blk_far (blk_far (blk_far (blk_far (blk_far h (p := ⟨g, 0, none⟩) hne v0) (p := ⟨g, 1, none⟩) hne v1) (p := ⟨g, 2, none⟩) hne v2) (p := ⟨g, 3, none⟩) hne v3) (p := ⟨g, 4, none⟩) hne v4) (p := ⟨g, 5, none⟩) hne v5) (p := ⟨g, 6, none⟩) hne v6) (p := ⟨g, 7, none⟩) hne v7
theorem set8_R {α : Type} {d : Kd α} {e base : Nat} {ok : Nat -> Prop} {v : Value} {xs : List α} {w : World} {g : Nat} {u0 u1 u2 u3 u4 u5 u6 u7 : Value} (hR : d.R e w base ok v xs) (h : w.heap[g]? = some (.cells #[u0, u1, u2, u3, u4, u5, u6, u7] 35 (0, 0))) (ht : ∀ q, q ∈ e :: d.E -> q ≠ 35) (v0 v1 v2 v3 v4 v5 v6 v7 : Value) : d.R e (set8 w g v0 v1 v2 v3 v4 v5 v6 v7) base ok v xs := by
 have k1 := blk_put h 0 v0 (cs' := #[v0, u1, u2, u3, u4, u5, u6, u7]) rfl
 have k2 := blk_put k1 1 v1 (cs' := #[v0, v1, u2, u3, u4, u5, u6, u7]) rfl
 have k3 := blk_put k2 2 v2 (cs' := #[v0, v1, v2, u3, u4, u5, u6, u7]) rfl
 have k4 := blk_put k3 3 v3 (cs' := #[v0, v1, v2, v3, u4, u5, u6, u7]) rfl
 have k5 := blk_put k4 4 v4 (cs' := #[v0, v1, v2, v3, v4, u5, u6, u7]) rfl
 have k6 := blk_put k5 5 v5 (cs' := #[v0, v1, v2, v3, v4, v5, u6, u7]) rfl
 have k7 := blk_put k6 6 v6 (cs' := #[v0, v1, v2, v3, v4, v5, v6, u7]) rfl
 exact R_set (R_set (R_set (R_set (R_set (R_set (R_set (R_set hR h ht 0 v0) k1 ht 1 v1) k2 ht 2 v2) k3 ht 3 v3) k4 ht 4 v4) k5 ht 5 v5) k6 ht 6 v6) k7 ht 7 v7
theorem set8_below {B : Nat} {a w : World} {g : Nat} (h : Below B a w) (hg : B <= g) (v0 v1 v2 v3 v4 v5 v6 v7 : Value) : Below B a (set8 w g v0 v1 v2 v3 v4 v5 v6 v7) :=
 (((((((h.setCell (p := ⟨g, 0, none⟩) hg v0).setCell (p := ⟨g, 1, none⟩) hg v1).setCell (p := ⟨g, 2, none⟩) hg v2).setCell (p := ⟨g, 3, none⟩) hg v3).setCell (p := ⟨g, 4, none⟩) hg v4).setCell (p := ⟨g, 5, none⟩) hg v5).setCell (p := ⟨g, 6, none⟩) hg v6).setCell (p := ⟨g, 7, none⟩) hg v7
theorem SSt.here {w0 w wc : World} {gm : Nat} {m : Array Value} {A0 A1 : Option Addr} {n c0 c1 : Nat} {cs : List S98} {g : List Int} (h : SSt w0 w wc gm m A0 n c0 cs A1 c1 g) : SSt w0 wc wc gm m A0 n c0 cs A1 c1 g := ⟨h.1, h.2.1, h.2.2.1, h.2.2.2.1, h.2.2.2.2.1, Kept.refl _ _⟩
theorem SSt.home {w0 w wc : World} {gm : Nat} {m : Array Value} {A0 A1 : Option Addr} {n c0 c1 : Nat} {cs : List S98} {g : List Int} (h : SSt w0 w wc gm m A0 n c0 cs A1 c1 g) : SSt w0 w0 wc gm m A0 n c0 cs A1 c1 g := ⟨h.1, h.2.1, h.2.2.1, h.2.2.2.1, h.2.2.2.2.1, Kept.of_below h.1 _⟩
/-- What a step leaves of a block of another type. -/
theorem SSt.other {w0 w wc : World} {gm : Nat} {m m0 : Array Value} {A0 A1 : Option Addr} {n c0 c1 : Nat} {cs cs0 : List S98} {g g0 : List Int} (h0 : SSt w0 w w gm m0 A0 n c0 cs0 A1 c1 g0) (h : SSt w0 w wc gm m A0 n c0 cs A1 c1 g) {k : Nat} {cells : Array Value} {t : TypeId} (hk : w.heap[k]? = some (.cells cells t (0, 0))) (ht : 98 ≠ t) (hne : k ≠ gm) : wc.heap[k]? = some (.cells cells t (0, 0)) :=
 (h.2.2.2.2.2.2 k (blk_lt hk) (fun e => e.elim (own_ne hk h0.2.2.2.1 ht) hne)).trans hk
theorem SSt.rows {w0 w wc : World} {gm : Nat} {m m0 : Array Value} {A0 A1 : Option Addr} {n c0 c1 : Nat} {cs cs0 : List S98} {g g0 : List Int} (h0 : SSt w0 w w gm m0 A0 n c0 cs0 A1 c1 g0) (h : SSt w0 w wc gm m A0 n c0 cs A1 c1 g) {base : Nat} {v : Value} {es : List S66} (hR : Kd.R k66 66 w base (fun k => some k = v.ownBlock) v es) : Kd.R k66 66 wc base (fun k => some k = v.ownBlock) v es :=
 R_step hR (fun k ho hlt => by
  obtain ⟨c, hc⟩ := R_typed hR k ho.symm
  rw [h0.other h hc (by decide) (fun e => by rw [e, h0.2.2.1] at hc; cases hc), hc])
theorem far3_R {α : Type} {d : Kd α} {e base : Nat} {ok : Nat -> Prop} {v : Value} {xs : List α} {w : World} {gf : Nat} {a b c : Value} (hR : d.R e w base ok v xs) (h : w.heap[gf]? = some (.cells #[a, b, c] 61 (0, 0))) (ht : ∀ q, q ∈ e :: d.E -> q ≠ 61) (x y z : Value) : d.R e (((w.setCell ⟨gf, 0, none⟩ x).setCell ⟨gf, 1, none⟩ y).setCell ⟨gf, 2, none⟩ z) base ok v xs := by
 have k1 := blk_put h 0 x (cs' := #[x, b, c]) rfl
 have k2 := blk_put k1 1 y (cs' := #[x, y, c]) rfl
 exact R_set (R_set (R_set hR h ht 0 x) k1 ht 1 y) k2 ht 2 z
theorem SSt.grown {w W w9 : World} {gm : Nat} {m : Array Value} {A0 A1 : Option Addr} {n c0 c1 : Nat} {cs : List S98} {g : List Int} (h : SSt w w W gm m A0 n c0 cs A1 c1 g) {ok : Nat -> Prop} {v : Value} {es : List S66} (hE : Kd.R k66 66 W w.heap.size ok v es) (hg : W.grownBy w9 v.ownBlock) (hb : Below w.heap.size w w9) : SSt w w w9 gm m A0 n c0 cs A1 c1 g :=
 ⟨hb, h.2.1, blk_grown h.2.2.1 hg (R_ne hE h.2.2.1 (by decide)), R_over' h.2.2.2.1 (R_typed hE) (by decide) hg, R_over' h.2.2.2.2.1 (R_typed hE) (by decide) hg, Kept.of_below hb _⟩
theorem impl_runSteps.calls (k : Nat) (a0_0 : Int) (a0_1 : Int) (A0_2 : Option Addr) (c0_2 : Nat) (l0_2 : List (S98)) (a0_3 : Int) (a0_4 : Int) (a0_5 : Int) (a0_6 : Int) (a0_7 : Int) (a1 : Int) (r1 : Int) (r2 : Int) (r3 : List (S98)) (r4 : Int) (r5 : Int) (r6 : Int) (r7 : Int) (r8 : Int) (r9 : List S66) (w : World) (hr0_2 : Kd.C k98 w A0_2 l0_2.length l0_2) (hc0_2 : l0_2.length <= c0_2) (h : impl_runSteps.f k a0_0 a0_1 l0_2 a0_3 a0_4 a0_5 a0_6 a0_7 a1 = some (r1, r2, r3, r4, r5, r6, r7, r8, r9)) :
 Calls Try.prog 33 #[.agg #[.int .i64 a0_0, .int .i64 a0_1, .slice A0_2 l0_2.length c0_2, .int .i64 a0_3, .int .i64 a0_4, .int .i64 a0_5, .int .i64 a0_6, .int .i64 a0_7], .int .i64 a1] w fun e w' => ∃ v2_ v8_ : Value, e = .returned (.tuple #[.agg #[.int .i64 r1, .int .i64 r2, v2_, .int .i64 r4, .int .i64 r5, .int .i64 r6, .int .i64 r7, .int .i64 r8], v8_]) /\ Kd.R k98 98 w' w.heap.size (fun _ => True) v2_ r3 /\ Kd.R k66 66 w' w.heap.size (fun _ => True) v8_ r9 /\ Below w.heap.size w w' := by
 have hu33 := Try.underlying33
 have hu35 := Try.underlying35
 have hu61 := Try.underlying61
 have hu66 := Try.underlying66
 have HR0_2 := Aside0.mk hr0_2
 have HC0_2 := Aside0.mk hc0_2
 clear hr0_2 hc0_2
 have HB := Aside0.mk (Below.refl w.heap.size w)
 have H := h
 clear h
 unfold impl_runSteps.f at H
 replace H := bindA H; obtain ⟨⟨t1, t2, t3, t4, t5, t6, t7, t8⟩, A1, H⟩ := H
 dsimp only at H
 replace H := bindA H; obtain ⟨g, A2, H⟩ := H
 have H' := Aside0.mk H
 clear H
 go_enter Try.func33, Try.ntmps33
 go_wp2_with (first
  | ((with_reducible refine gate_dst (N := 2) rfl ?_); refine boxE (cs := #[.int .i64 a0_0, .int .i64 a0_1, .slice A0_2 l0_2.length c0_2, .int .i64 a0_3, .int .i64 a0_4, .int .i64 a0_5, .int .i64 a0_6, .int .i64 a0_7]) (t := 35) ?_; intro gb2 hg w4 hbox hb; have n0_ := Aside0.mk (HB.1.trans (hb.mono HB.1.size)); have BK2 := Aside0.mk hbox; clear HB; have HB := n0_; clear n0_ hbox hg hb)
  | ((with_reducible refine gate_dst (N := 4) rfl ?_); refine boxE (cs := #[.int .i64 0, .int .i64 0, .slice none 0 0, .int .i64 0, .int .i64 0, .int .i64 0, .int .i64 0, .int .i64 0]) (t := 35) ?_; intro gb4 hg w5 hbox hb; have n0_ := Aside0.mk (HB.1.trans (hb.mono HB.1.size)); have n1_ := Aside0.mk (blk_below BK2.1 hb); have BK4 := Aside0.mk hbox; have GE4 := Aside0.mk (hg ▸ HB.1.size : w.heap.size <= gb4); clear HB BK2; have HB := n0_; have BK2 := n1_; clear n0_ n1_ hbox hg hb; obtain ⟨pcz0, pcz1, pcz2, pcz3, pcz4, pcz5, pcz6, pcz7, pfz0, pfz1, pfz2, pfz3, pfz4, pfz5, pfz6, pfz7⟩ := cz8 BK2.1)
  | ((with_reducible refine gate_callee (f := 52) rfl ?_); refine goesM (N := some 12) #[.agg #[.int .i64 a0_0, .int .i64 a0_1, .slice A0_2 l0_2.length c0_2, .int .i64 a0_3, .int .i64 a0_4, .int .i64 a0_5, .int .i64 a0_6, .int .i64 a0_7]] Try.func52 ?_; refine (impl_copyMachine.calls a0_0 a0_1 _ _ l0_2 a0_3 a0_4 a0_5 a0_6 a0_7 t1 t2 t3 t4 t5 t6 t7 t8 _ (CB (C_below HR0_2.1 HB.1)) HC0_2.1 A1.1).mono ?_; rintro e w6 ⟨v2_, rfl, ho, hb⟩; refine ⟨_, rfl, ?_⟩; have HO := Aside0.mk (R_tight rfl (R_lower ho HB.1.size)); refine E3 (HB.1.trans (hb.mono HB.1.size)) (blk_below BK2.1 hb) (blk_below BK4.1 hb) ?_; clear HB BK2 BK4 pcz0 pcz1 pcz2 pcz3 pcz4 pcz5 pcz6 pcz7 pfz0 pfz1 pfz2 pfz3 pfz4 pfz5 pfz6 pfz7 ho hb; intro HB BK2 BK4; obtain ⟨Ao, co, eo⟩ := R_slice HO.1; subst eo)
  | ((with_reducible refine gate_dst (N := 6) rfl ?_); refine boxE (cs := #[.int .i64 0, .int .i64 0, .slice none 0 0, .int .i64 0, .int .i64 0, .int .i64 0, .int .i64 0, .int .i64 0]) (t := 35) ?_; intro gm hg w7 hbox hb; have n0_ := Aside0.mk (HB.1.trans (hb.mono HB.1.size)); have n1_ := Aside0.mk (blk_below BK2.1 hb); have n2_ := Aside0.mk (blk_below BK4.1 hb); have n3_ := Aside0.mk (R_below HO.1 hb); have BM := Aside0.mk hbox; have GM := Aside0.mk (hg ▸ HB.1.size : w.heap.size <= gm); have N2 := Aside0.mk (nB BK2.1 hg); have N4 := Aside0.mk (nB BK4.1 hg); clear HB BK2 BK4 HO; have HB := n0_; have BK2 := n1_; have BK4 := n2_; have HO := n3_; clear n0_ n1_ n2_ n3_ hbox hg hb; obtain ⟨pcz0, pcz1, pcz2, pcz3, pcz4, pcz5, pcz6, pcz7, pfz0, pfz1, pfz2, pfz3, pfz4, pfz5, pfz6, pfz7⟩ := cz8 BK2.1; obtain ⟨qcz0, qcz1, qcz2, qcz3, qcz4, qcz5, qcz6, qcz7, qfz0, qfz1, qfz2, qfz3, qfz4, qfz5, qfz6, qfz7⟩ := cz8 BM.1; have hnb := N2.1; have hnc := N2.1.symm)
  | ((with_reducible refine gate_callee (f := 53) rfl ?_); refine goesM (N := some 15) #[.agg #[.int .i64 a0_0, .int .i64 a0_1, .slice A0_2 l0_2.length c0_2]] Try.func53 ?_; have n0_ := Aside0.mk (set8_below HB.1 GM.1 (.int .i64 t1) (.int .i64 t2) (.slice Ao t3.length co) (.int .i64 t4) (.int .i64 t5) (.int .i64 t6) (.int .i64 t7) (.int .i64 t8)); have n2_ := Aside0.mk (set8_far BK4.1 N4.1 (.int .i64 t1) (.int .i64 t2) (.slice Ao t3.length co) (.int .i64 t4) (.int .i64 t5) (.int .i64 t6) (.int .i64 t7) (.int .i64 t8)); have n3_ := Aside0.mk (set8_R HO.1 BM.1 (by decide) (.int .i64 t1) (.int .i64 t2) (.slice Ao t3.length co) (.int .i64 t4) (.int .i64 t5) (.int .i64 t6) (.int .i64 t7) (.int .i64 t8)); have n4_ := Aside0.mk (set8_blk BM.1 (.int .i64 t1) (.int .i64 t2) (.slice Ao t3.length co) (.int .i64 t4) (.int .i64 t5) (.int .i64 t6) (.int .i64 t7) (.int .i64 t8)); refine (impl_groupNumbers.calls k a0_0 a0_1 _ _ l0_2 g _ (CB (C_below HR0_2.1 n0_.1)) HC0_2.1 A2.1).mono ?_; rintro e w8 ⟨v0_, rfl, ho, hb⟩; refine ⟨_, rfl, ?_⟩; have HG := Aside0.mk (R_tight rfl (R_lower ho n0_.1.size)); have m0_ := Aside0.mk (n0_.1.trans (hb.mono n0_.1.size)); have m2_ := Aside0.mk (blk_below n2_.1 hb); have m3_ := Aside0.mk (R_below n3_.1 hb); have m4_ := Aside0.mk (blk_below n4_.1 hb); clear HB BK2 BK4 HO BM n0_ n2_ n3_ n4_ ho hb pcz0 pcz1 pcz2 pcz3 pcz4 pcz5 pcz6 pcz7 pfz0 pfz1 pfz2 pfz3 pfz4 pfz5 pfz6 pfz7 qcz0 qcz1 qcz2 qcz3 qcz4 qcz5 qcz6 qcz7 qfz0 qfz1 qfz2 qfz3 qfz4 qfz5 qfz6 qfz7 hnb hnc; have HB := m0_; have BK4 := m2_; have HO := m3_; have BM := m4_; clear m0_ m2_ m3_ m4_; obtain ⟨Ag, cg, eg⟩ := R_slice HG.1; subst eg)
  | ((with_reducible refine gate_dst (N := 16) rfl ?_); refine R_lit k66 _ 66 ?hg (N := 16) ?hd (xs := ([] : List S66)) (inner := []) (ok := fun _ => True) (okp := fun _ => True) ?hr ?hp (fun _ hk => hk) trivial (Below.refl _ _) (Nat.le_refl _) (by simp) ?_; (case hd => rfl); (case hg => rfl); (case hr => first | (go_simp; done) | (go_simp; rfl)); (case hp => exact (Reps.none _ _)); intro v8 w9 ho hb hg_ hnew_; clear hg_ hnew_; have n0_ := Aside0.mk (HB.1.trans (hb.mono HB.1.size)); have n1_ := Aside0.mk (blk_below BK4.1 hb); have n2_ := Aside0.mk (R_below HO.1 hb); have n3_ := Aside0.mk (blk_below BM.1 hb); have n4_ := Aside0.mk (R_below HG.1 hb); have HE := Aside0.mk (R_tight rfl (R_lower ho HB.1.size)); clear HB BK4 HO BM HG ho hb; have HS : Aside0 (SSt w w w9 gm #[.int .i64 t1, .int .i64 t2, .slice Ao t3.length co, .int .i64 t4, .int .i64 t5, .int .i64 t6, .int .i64 t7, .int .i64 t8] Ao t3.length co t3 Ag cg g) := ⟨n0_.1, GM.1, n3_.1, n2_.1, n4_.1, Kept.of_below n0_.1 _⟩; have BK4 := n1_; clear n0_ n1_ n2_ n3_ n4_))
 go_loopg [8] k (fun kq v8 w' => ∃ (xc : List S98) (xb xr xn : Int) (xe : List S66), Aside0 (impl_runSteps.l0 kq a1 g t1 t2 xc t4 t5 xb xr xn xe = some (r1, r2, r3, r4, r5, r6, r7, r8, r9)) /\ Aside0 (kq <= k) /\ Aside0 (SSt w w w' gm #[.int .i64 t1, .int .i64 t2, .slice Ao t3.length co, .int .i64 t4, .int .i64 t5, .int .i64 xb, .int .i64 xr, .int .i64 xn] Ao t3.length co xc Ag cg g) /\ Aside0 (w'.heap[gb4]? = some (.cells #[.int .i64 0, .int .i64 0, .slice none 0 0, .int .i64 0, .int .i64 0, .int .i64 0, .int .i64 0, .int .i64 0] 35 (0, 0))) /\ Aside0 (Kd.R k66 66 w' w.heap.size (fun k => some k = v8.ownBlock) v8 xe))
 case atStart => exact ⟨t3, t6, t7, t8, [], H', ⟨Nat.le_refl _⟩, HS, BK4, HE⟩
 clear H' HS BK4 HE
 obtain ⟨xc, xb, xr, xn, xe, HA, HK, HS, BK4, HE⟩ := hrel
 cases gk with
 | zero => exact absurd HA.1 (by simp [impl_runSteps.l0])
 | succ k1 => ?_
 have H := HA.1
 clear HA
 simp only [impl_runSteps.l0] at H
 obtain ⟨Ae, ce, ee⟩ := R_slice HE.1
 subst ee
 have EL := Aside0.mk (R_reads' HS.1.2.2.2.1).1
 rw [EL.1] at HS
 obtain ⟨pcz0, pcz1, pcz2, pcz3, pcz4, pcz5, pcz6, pcz7, pfz0, pfz1, pfz2, pfz3, pfz4, pfz5, pfz6, pfz7⟩ := cz8 HS.1.2.2.1
 replace H := ifB H; rcases H with ⟨c11b0, H⟩ | ⟨c11b0, H⟩
 · replace H := bindA H; obtain ⟨tt, AC, H⟩ := H
   replace H := ifX H; rcases H with ⟨rfl, H⟩ | ⟨rfl, H⟩
   · replace H := bindA H; obtain ⟨⟨e1, e2, e3, way, cs'⟩, AD, H⟩ := H
     dsimp only at H
     replace H := ifP H; obtain ⟨c14, H⟩ := H
     have LM := Aside0.mk c14
     clear c14
     have H' := Aside0.mk H
     clear H
     go_wp2_with (first
      | (go_at_call 54; refine (impl_canStep.calls t1 t2 _ _ xc t4 t5 xb xr xn true _ (CB (R_reads' HS.1.2.2.2.1).2.2) (R_reads' HS.1.2.2.2.1).2.1 AC.1).mono ?_; rintro e w21 ⟨rfl, hb⟩; refine E3 (HS.1.below hb) (blk_below BK4.1 hb) (R_below HE.1 hb) ?_; clear HS BK4 HE pcz0 pcz1 pcz2 pcz3 pcz4 pcz5 pcz6 pcz7 pfz0 pfz1 pfz2 pfz3 pfz4 pfz5 pfz6 pfz7 hb; intro HS BK4 HE; obtain ⟨pcz0, pcz1, pcz2, pcz3, pcz4, pcz5, pcz6, pcz7, pfz0, pfz1, pfz2, pfz3, pfz4, pfz5, pfz6, pfz7⟩ := cz8 HS.1.2.2.1)
      | ((with_reducible refine gate_callee (f := 55) rfl ?_); refine goesM (N := some 28) #[.pointer (some ⟨gm, 0, none⟩), .slice Ag g.length cg] Try.func55 ?_; refine (step_calls k1 t1 t2 t4 t5 xb xr xn Ao xc.length co xc cs' Ag cg g gm e1 e2 e3 way w _ HS.1.here (R_reads' HS.1.2.2.2.2.1).2.1 HS.1.1.size AD.1).mono ?_; rintro e w22 ⟨rfl, hS'⟩; refine ⟨_, rfl, ?_⟩; refine E3 (hS'.home) (HS.1.here.other hS' BK4.1 (by decide) N4.1) (HS.1.here.rows hS' HE.1) ?_; clear HS BK4 HE pcz0 pcz1 pcz2 pcz3 pcz4 pcz5 pcz6 pcz7 pfz0 pfz1 pfz2 pfz3 pfz4 pfz5 pfz6 pfz7 hS'; intro HS BK4 HE)
      | ((with_reducible refine gate_dst (N := 10) rfl ?_); refine boxE (cs := #[.int .i64 0, .int .i64 0, .int .i64 0]) (t := 61) ?_; intro gf hg w23 hbox hb; have n0_ := Aside0.mk (HS.1.below hb); have n1_ := Aside0.mk (blk_below BK4.1 hb); have n2_ := Aside0.mk (R_below HE.1 hb); have BF := Aside0.mk hbox; have GF := Aside0.mk (hg ▸ HS.1.1.size : w.heap.size <= gf); have NF := Aside0.mk (nB BK4.1 hg); clear HS BK4 HE hbox hg hb; have HS := n0_; have BK4 := n1_; have HE := n2_; clear n0_ n1_ n2_; obtain ⟨hd0_0, hd0_1, hd0_2, hg0_0, hg0_1, hg0_2⟩ := cz3 BF.1)
      | ((with_reducible refine gate_builtin (b := .append) (xs := #[.tmp 29, .tmp 33]) rfl ?_); at_builtin; have n0_ := Aside0.mk (HS.1.box3 BF.1 GF.1 GF.1 (.int .i64 e1) (.int .i64 e2) (.int .i64 e3)).1; have n1_ := Aside0.mk (far3 BK4.1 NF.1 (.int .i64 e1) (.int .i64 e2) (.int .i64 e3)); have n2_ := Aside0.mk (far3_R HE.1 BF.1 (by decide) (.int .i64 e1) (.int .i64 e2) (.int .i64 e3)); clear HS BK4 HE BF hd0_0 hd0_1 hd0_2 hg0_0 hg0_1 hg0_2; refine R_append k66 (w0 := w) w.heap.size rfl (.tmp 29) (.tmp 33) 42 66 (.agg #[(.int .i64 0), (.int .i64 0), (.int .i64 0), (.int .i64 0)]) 32 rfl Try.underlying42 info66 rfl (by decide) (by omega) (.slice Ae xe.length ce) xe (⟨xn, ⟨e1, e2, e3⟩⟩ : S66) [.int .i64 xn, .int .i64 e1, .int .i64 e2, .int .i64 e3] (fun _ => True) (fun _ => False) rfl (by first | (go_simp; done) | (go_simp; rfl)) (k66_mkM _ _ _ _) (fun _ hk => hk.elim) (fun _ _ => trivial) (R_mono n2_.1 (fun _ _ => trivial)) n0_.1.1 n0_.1.1.size (by have := LM.1; omega) ?_; intro v9 w9 ho hb hg hat; have HS := Aside0.mk (n0_.1.grown n2_.1 hg hb); have BK4 := Aside0.mk (blk_grown n1_.1 hg (R_ne n2_.1 n1_.1 (by decide))); have HE := Aside0.mk (R_tight rfl ho); clear n0_ n1_ n2_ ho hb hg hat))
     go_roundg k1
     case measure => exact Nat.lt_succ_self _
     case rel =>
      rw [<- EL.1] at HS
      exact ⟨cs', _, _, _, _, H', ⟨by have := HK.1; omega⟩, HS, BK4, HE⟩
   simp only [Option.some.injEq, Prod.mk.injEq] at H
   obtain ⟨rfl, rfl, rfl, rfl, rfl, rfl, rfl, rfl, rfl⟩ := H
   go_wp2_with (first | (go_at_call 54; refine (impl_canStep.calls t1 t2 _ _ xc t4 t5 xb xr xn false _ (CB (R_reads' HS.1.2.2.2.1).2.2) (R_reads' HS.1.2.2.2.1).2.1 AC.1).mono ?_; rintro e w21 ⟨rfl, hb⟩; refine E3 (HS.1.below hb) (blk_below BK4.1 hb) (R_below HE.1 hb) ?_; clear HS BK4 HE pcz0 pcz1 pcz2 pcz3 pcz4 pcz5 pcz6 pcz7 pfz0 pfz1 pfz2 pfz3 pfz4 pfz5 pfz6 pfz7 hb; intro HS BK4 HE; obtain ⟨pcz0, pcz1, pcz2, pcz3, pcz4, pcz5, pcz6, pcz7, pfz0, pfz1, pfz2, pfz3, pfz4, pfz5, pfz6, pfz7⟩ := cz8 HS.1.2.2.1; obtain ⟨qcz0, qcz1, qcz2, qcz3, qcz4, qcz5, qcz6, qcz7, qfz0, qfz1, qfz2, qfz3, qfz4, qfz5, qfz6, qfz7⟩ := cz8 BK4.1; have hnb := N4.1; have hnc := N4.1.symm))
   refine bodyPost_ret (results_ct rfl _ _ gb4 35 #[.int .i64 t1, .int .i64 t2, .slice Ao xc.length co, .int .i64 t4, .int .i64 t5, .int .i64 xb, .int .i64 xr, .int .i64 xn] (0, 0) _ rfl (set8_blk BK4.1 (.int .i64 t1) (.int .i64 t2) (.slice Ao xc.length co) (.int .i64 t4) (.int .i64 t5) (.int .i64 xb) (.int .i64 xr) (.int .i64 xn)) Try.underlying35 rfl (by kernel_rfl)) rfl ?_
   exact ⟨_, _, rfl, R_mono (set8_R HS.1.2.2.2.1 BK4.1 (by decide) (.int .i64 t1) (.int .i64 t2) (.slice Ao xc.length co) (.int .i64 t4) (.int .i64 t5) (.int .i64 xb) (.int .i64 xr) (.int .i64 xn)) (fun _ _ => trivial), R_mono (set8_R HE.1 BK4.1 (by decide) (.int .i64 t1) (.int .i64 t2) (.slice Ao xc.length co) (.int .i64 t4) (.int .i64 t5) (.int .i64 xb) (.int .i64 xr) (.int .i64 xn)) (fun _ _ => trivial), set8_below HS.1.1 GE4.1 (.int .i64 t1) (.int .i64 t2) (.slice Ao xc.length co) (.int .i64 t4) (.int .i64 t5) (.int .i64 xb) (.int .i64 xr) (.int .i64 xn)⟩
 simp only [Option.some.injEq, Prod.mk.injEq] at H
 obtain ⟨rfl, rfl, rfl, rfl, rfl, rfl, rfl, rfl, rfl⟩ := H
 obtain ⟨qcz0, qcz1, qcz2, qcz3, qcz4, qcz5, qcz6, qcz7, qfz0, qfz1, qfz2, qfz3, qfz4, qfz5, qfz6, qfz7⟩ := cz8 BK4.1
 have hnb := N4.1
 have hnc := N4.1.symm
 go_wp2
 refine bodyPost_ret (results_ct rfl _ _ gb4 35 #[.int .i64 t1, .int .i64 t2, .slice Ao xc.length co, .int .i64 t4, .int .i64 t5, .int .i64 xb, .int .i64 xr, .int .i64 xn] (0, 0) _ rfl (set8_blk BK4.1 (.int .i64 t1) (.int .i64 t2) (.slice Ao xc.length co) (.int .i64 t4) (.int .i64 t5) (.int .i64 xb) (.int .i64 xr) (.int .i64 xn)) Try.underlying35 rfl (by kernel_rfl)) rfl ?_
 exact ⟨_, _, rfl, R_mono (set8_R HS.1.2.2.2.1 BK4.1 (by decide) (.int .i64 t1) (.int .i64 t2) (.slice Ao xc.length co) (.int .i64 t4) (.int .i64 t5) (.int .i64 xb) (.int .i64 xr) (.int .i64 xn)) (fun _ _ => trivial), R_mono (set8_R HE.1 BK4.1 (by decide) (.int .i64 t1) (.int .i64 t2) (.slice Ao xc.length co) (.int .i64 t4) (.int .i64 t5) (.int .i64 xb) (.int .i64 xr) (.int .i64 xn)) (fun _ _ => trivial), set8_below HS.1.1 GE4.1 (.int .i64 t1) (.int .i64 t2) (.slice Ao xc.length co) (.int .i64 t4) (.int .i64 t5) (.int .i64 xb) (.int .i64 xr) (.int .i64 xn)⟩

/-! ### laws_eqCell: function 70 -/
open Kd
def laws_eqCell.f (a0_0 : Int) (a0_1 : Int) (a1_0 : Int) (a1_1 : Int) : Option (Bool) := if a0_0 = a1_0 then (if a0_1 = a1_1 then (some true) else (some false)) else (some false)
theorem laws_eqCell.calls (a0_0 : Int) (a0_1 : Int) (a1_0 : Int) (a1_1 : Int) (r : Bool) (w : World) (h : laws_eqCell.f a0_0 a0_1 a1_0 a1_1 = some r) :
 Calls Try.prog 70 #[.agg #[.int .i64 a0_0, .int .i64 a0_1], .agg #[.int .i64 a1_0, .int .i64 a1_1]] w fun e w' => e = .returned (.bool r) /\ Below w.heap.size w w' := by
 have hu98 := Try.underlying98
 have HB := Aside0.mk (Below.refl w.heap.size w)
 have H := h
 clear h
 unfold laws_eqCell.f at H
 replace H := ifQ H; rcases H with ⟨c3, H⟩ | ⟨c3, H⟩
 · have c3b0 := beq_iff_eq.mpr c3
   have c3b1 := bne_eq_false_iff_eq.mpr c3
   clear c3
   replace H := ifQ H; rcases H with ⟨c4, H⟩ | ⟨c4, H⟩
   · have c4b0 := beq_iff_eq.mpr c4
     have c4b1 := bne_eq_false_iff_eq.mpr c4
     clear c4
     obtain rfl := Option.some.inj H
     go_enter Try.func70, Try.ntmps70
     go_wp2_with (first | ((with_reducible refine gate_dst (N := 2) rfl ?_); refine boxE (cs := #[.int .i64 a0_0, .int .i64 a0_1]) (t := 98) ?_; intro gb435 hg w5 hbox hb; refine E4b HB.1 hg hbox hb ?_; clear HB; intro HB BK435 GW435 GE435; clear hb hbox hg) | ((with_reducible refine gate_dst (N := 3) rfl ?_); refine boxE (cs := #[.int .i64 a1_0, .int .i64 a1_1]) (t := 98) ?_; intro gb436 hg w6 hbox hb; refine E7 (bB BK435.1 hb) (bS HB.1 hb) (hbox) (gX HB.1 hg) (gX HB.1 hg) (nB BK435.1 hg) (nC BK435.1 hg) ?_; clear BK435 HB; intro BK435 HB BK436 GW436 GE436 NB435_436 NB436_435; clear hb hbox hg; have hnb7 := NB435_436.1; have hnc7 := NB436_435.1; obtain ⟨hcz8_0, hcz8_1, hfz8_0, hfz8_1⟩ := cz2 BK435.1; obtain ⟨hcz9_0, hcz9_1, hfz9_0, hfz9_1⟩ := cz2 BK436.1))
     go_ret
     exact ⟨RF, BL HB.1⟩
   have c4b0 := beq_eq_false_iff_ne.mpr c4
   have c4b1 := bne_iff_ne.mpr c4
   obtain rfl := Option.some.inj H
   go_enter Try.func70, Try.ntmps70
   go_wp2_with (first | ((with_reducible refine gate_dst (N := 2) rfl ?_); refine boxE (cs := #[.int .i64 a0_0, .int .i64 a0_1]) (t := 98) ?_; intro gb435 hg w10 hbox hb; refine E4b HB.1 hg hbox hb ?_; clear HB; intro HB BK435 GW435 GE435; clear hb hbox hg) | ((with_reducible refine gate_dst (N := 3) rfl ?_); refine boxE (cs := #[.int .i64 a1_0, .int .i64 a1_1]) (t := 98) ?_; intro gb436 hg w11 hbox hb; refine E7 (bB BK435.1 hb) (bS HB.1 hb) (hbox) (gX HB.1 hg) (gX HB.1 hg) (nB BK435.1 hg) (nC BK435.1 hg) ?_; clear BK435 HB; intro BK435 HB BK436 GW436 GE436 NB435_436 NB436_435; clear hb hbox hg; have hnb12 := NB435_436.1; have hnc12 := NB436_435.1; obtain ⟨hcz13_0, hcz13_1, hfz13_0, hfz13_1⟩ := cz2 BK435.1; obtain ⟨hcz14_0, hcz14_1, hfz14_0, hfz14_1⟩ := cz2 BK436.1))
   go_ret
   exact ⟨RF, BL HB.1⟩
 have c3b0 := beq_eq_false_iff_ne.mpr c3
 have c3b1 := bne_iff_ne.mpr c3
 obtain rfl := Option.some.inj H
 go_enter Try.func70, Try.ntmps70
 go_wp2_with (first | ((with_reducible refine gate_dst (N := 2) rfl ?_); refine boxE (cs := #[.int .i64 a0_0, .int .i64 a0_1]) (t := 98) ?_; intro gb435 hg w15 hbox hb; refine E4b HB.1 hg hbox hb ?_; clear HB; intro HB BK435 GW435 GE435; clear hb hbox hg) | ((with_reducible refine gate_dst (N := 3) rfl ?_); refine boxE (cs := #[.int .i64 a1_0, .int .i64 a1_1]) (t := 98) ?_; intro gb436 hg w16 hbox hb; refine E7 (bB BK435.1 hb) (bS HB.1 hb) (hbox) (gX HB.1 hg) (gX HB.1 hg) (nB BK435.1 hg) (nC BK435.1 hg) ?_; clear BK435 HB; intro BK435 HB BK436 GW436 GE436 NB435_436 NB436_435; clear hb hbox hg; have hnb17 := NB435_436.1; have hnc17 := NB436_435.1; obtain ⟨hcz18_0, hcz18_1, hfz18_0, hfz18_1⟩ := cz2 BK435.1; obtain ⟨hcz19_0, hcz19_1, hfz19_0, hfz19_1⟩ := cz2 BK436.1))
 go_ret
 exact ⟨RF, BL HB.1⟩
/-! ### laws_eqCellS: function 56 -/
open Kd
def laws_eqCellS.l0 : Nat -> List (S98) -> List (S98) -> Int -> Option (Bool)
 | 0, _, _, _ => none
 | k + 1, x0, x1, x5 => if x5 < (x0.length : Int) then (if 0 <= x5 then (if x5 < (x1.length : Int) then ((laws_eqCell.f ((rd_T98 x0 x5).f0) ((rd_T98 x0 x5).f1) ((rd_T98 x1 x5).f0) ((rd_T98 x1 x5).f1)).bind fun t439 => (if t439 = true then (laws_eqCellS.l0 k x0 x1 (wrap64 (x5 + 1))) else (some false))) else (none)) else (none)) else (some true)
def laws_eqCellS.f (k : Nat) (l0 : List (S98)) (l1 : List (S98)) : Option (Bool) := if (l0.length : Int) = (l1.length : Int) then (laws_eqCellS.l0 k l0 l1 0) else (some false)
theorem laws_eqCellS.mono_l : ∀ k, (∀ y0 y1 y2, LeO (laws_eqCellS.l0 k y0 y1 y2) (laws_eqCellS.l0 (k + 1) y0 y1 y2))
 | 0 => fun _ _ _ r h => by simp [laws_eqCellS.l0] at h
 | k + 1 => by
  have ih0 := laws_eqCellS.mono_l k
  intros
  first | unfold laws_eqCellS.l0
  exact LM1 ih0
theorem laws_eqCellS.mono : ∀ a0 a1 k, LeO (laws_eqCellS.f k a0 a1) (laws_eqCellS.f (k + 1) a0 a1) := by
 intro a0 a1 k
 have ih0 := laws_eqCellS.mono_l k
 unfold laws_eqCellS.f
 exact LM1 ih0
def laws_eqCellS.T6 : Bool × List (List Nat × List Nat) := (true, [([], []), ([], []), ([0, 1], [0, 1]), ([2], [2]), ([], []), ([], []), ([4, 5], [4, 5]), ([6], [6]), ([3, 7], [3, 7]), ([8], [8])])
def laws_eqCellS.B6 : List Nat := [0, 0, 3, 7, 0, 0, 48, 112, 255, 511]
theorem laws_eqCellS.tab6 : rtab .any (opsOf Try.f56 6) = laws_eqCellS.T6 := by kernel_rfl
theorem laws_eqCellS.bits6 : waitsOk laws_eqCellS.T6.2 laws_eqCellS.B6 = true := by kernel_rfl
theorem laws_eqCellS.calls (k : Nat) (A0 : Option Addr) (c0 : Nat) (l0 : List (S98)) (A1 : Option Addr) (c1 : Nat) (l1 : List (S98)) (r : Bool) (w : World) (hr0 : Kd.C k98 w A0 l0.length l0) (hc0 : l0.length <= c0) (hr1 : Kd.C k98 w A1 l1.length l1) (hc1 : l1.length <= c1) (h : laws_eqCellS.f k l0 l1 = some r) :
 Calls Try.prog 56 #[.slice A0 l0.length c0, .slice A1 l1.length c1] w fun e w' => e = .returned (.bool r) /\ Below w.heap.size w w' := by
 have hu98 := Try.underlying98
 have HR0 := Aside0.mk hr0
 have HC0 := Aside0.mk hc0
 clear hr0 hc0
 have HR1 := Aside0.mk hr1
 have HC1 := Aside0.mk hc1
 clear hr1 hc1
 have HB := Aside0.mk (Below.refl w.heap.size w)
 have H := h
 clear h
 unfold laws_eqCellS.f at H
 replace H := ifQ H; rcases H with ⟨c3, H⟩ | ⟨c3, H⟩
 · have c3b0 := beq_iff_eq.mpr c3
   have c3b1 := bne_eq_false_iff_eq.mpr c3
   have c3b2 : (l0.length == l1.length) = true := by first | simpa using c3 | (simp at c3 ⊢; omega)
   clear c3
   have H' := Aside0.mk H
   clear H
   go_enter Try.func56, Try.ntmps56
   go_wp2
   go_loopg [5] k (fun kq v5 w' => ∃ (x5_1 : Int), v5 = .int .i64 x5_1 /\ Aside0 (laws_eqCellS.l0 kq l0 l1 x5_1 = some r) /\ Aside0 (kq <= k) /\ Aside0 (Below w.heap.size w w'))
   case atStart => exact ⟨(0), RG, H', ⟨Nat.le_refl _⟩, ⟨BL HB.1⟩⟩
   clear H'
   try clear c1; clear c3b0 c3b1 c3b2
   obtain ⟨x5_1, rfl, HA, HK1, HB⟩ := hrel
   cases gk with
   | zero => exact absurd HA.1 (by simp [laws_eqCellS.l0])
   | succ k1 => ?_
   have H := HA.1
   clear HA
   simp only [laws_eqCellS.l0] at H
   replace H := ifB H; rcases H with ⟨c4b0, H⟩ | ⟨c4b0, H⟩
   · replace H := ifN H; obtain ⟨c5b0, H⟩ := H
     replace H := ifN H; obtain ⟨c6b0, H⟩ := H
     replace H := bindA H; obtain ⟨t439, A7, H⟩ := H
     replace H := ifX H; rcases H with ⟨rfl, H⟩ | ⟨rfl, H⟩
     · have H' := Aside0.mk H
       clear H
       try go_wp2
       refine E1 (below_drew1 HB.1) ?_
       clear HB
       intro HB
       have p437 : 0 <= (x5_1 : Int) := OD
       have q437 : x5_1 < (l0.length : Int) := OD
       obtain ⟨ad437, e437, hx437_0, hx437_1⟩ := at_T98 HR0.1 x5_1 p437 q437
       have hw437_1 := hx437_1
       have hw437_0 := hx437_0
       cases e437
       replace hx437_0 := (HB.1.cell (World.block_lt_of_cell? w _ hx437_0)).trans hx437_0
       replace hx437_1 := (HB.1.cell (World.block_lt_of_cell? w _ hx437_1)).trans hx437_1
       replace p437 := eq_true p437
       replace q437 := eq_true q437
       have p438 : 0 <= (x5_1 : Int) := OD
       have q438 : x5_1 < (l1.length : Int) := OD
       obtain ⟨ad438, e438, hx438_0, hx438_1⟩ := at_T98 HR1.1 x5_1 p438 q438
       have hw438_1 := hx438_1
       have hw438_0 := hx438_0
       cases e438
       replace hx438_0 := (HB.1.cell (World.block_lt_of_cell? w _ hx438_0)).trans hx438_0
       replace hx438_1 := (HB.1.cell (World.block_lt_of_cell? w _ hx438_1)).trans hx438_1
       replace p438 := eq_true p438
       replace q438 := eq_true q438
       refine start_ (n := 10) (S := fun w' => w'.cell? (ad437.add ((x5_1).toNat * 2)) = some (.int .i64 ((rd_T98 l0 x5_1).f0)) /\ w'.cell? ⟨(ad437.add ((x5_1).toNat * 2)).block, (ad437.add ((x5_1).toNat * 2)).off + 1, none⟩ = some (.int .i64 ((rd_T98 l0 x5_1).f1)) /\ w'.cell? (ad438.add ((x5_1).toNat * 2)) = some (.int .i64 ((rd_T98 l1 x5_1).f0)) /\ w'.cell? ⟨(ad438.add ((x5_1).toNat * 2)).block, (ad438.add ((x5_1).toNat * 2)).off + 1, none⟩ = some (.int .i64 ((rd_T98 l1 x5_1).f1))) (ds := []) #[Zz,Zz,Zz,Zz,Zz,Zz,Zz,Zz,Zz,Zz] (by kernel_rfl) rfl rfl ⟨((HB.1.cell (World.block_lt_of_cell? w _ hw437_0)).trans hw437_0), ((HB.1.cell (World.block_lt_of_cell? w _ hw437_1)).trans hw437_1), ((HB.1.cell (World.block_lt_of_cell? w _ hw438_0)).trans hw438_0), ((HB.1.cell (World.block_lt_of_cell? w _ hw438_1)).trans hw438_1)⟩ (fun hHeld => ?_); refine with_tabW laws_eqCellS.tab6 laws_eqCellS.bits6 (fun HT_ HW_ => ?_)
       generalize wr.drew = w9 at HB hx437_0 hx437_1 hx438_0 hx438_1 hHeld ⊢
       refine pureF 0 (N := some 17) HT_.1 ?_
       refine pureF 1 (N := some 18) HT_.1 ?_
       refine pureF 2 (N := some 19) HT_.1 ?_
       refine pureF 4 (N := some 21) HT_.1 ?_
       refine pureF 5 (N := some 22) HT_.1 ?_
       refine pureF 6 (N := some 23) HT_.1 ?_
       refine takeE 3 (N := some 20) HT_.1 HW_.1 hHeld ?_
       refine takeE 7 (N := some 24) HT_.1 HW_.1 hHeld ?_
       refine one_ (i := 8) (N := some 25) #[Yy,Yy,Yy,Yy,Yy,Yy,Yy,Yy,Yy,Zz] rfl rfl (one_of HT_.1 (by kernel_rfl)) (by decide) (fun K hK => ?_)
       refine goes_ Try.func70 (by kernel_rfl) rfl #[.agg #[.int .i64 ((rd_T98 l0 x5_1).f0), .int .i64 ((rd_T98 l0 x5_1).f1)], .agg #[.int .i64 ((rd_T98 l1 x5_1).f0), .int .i64 ((rd_T98 l1 x5_1).f1)]] (by rfl) rfl rfl (by (try simp only [List.map_toArray, List.map_cons, List.map_nil]); first | done | rfl | (simp only [List.length_drop, List.length_take]; rfl)) ?_
       with_reducible refine (laws_eqCell.calls ((rd_T98 l0 x5_1).f0) ((rd_T98 l0 x5_1).f1) ((rd_T98 l1 x5_1).f0) ((rd_T98 l1 x5_1).f1) true _ A7.1).mono ?_
       rintro e w10 ⟨rfl, hb⟩
       refine ⟨_, rfl, ?_⟩
       refine E1 (bS HB.1 hb) ?_
       clear HB
       intro HB
       (try clear hb)
       (try clear hb2)
       (try clear hk)
       (try clear hi)
       refine hK.out _ _ ⟨((HB.1.cell (World.block_lt_of_cell? w _ hw437_0)).trans hw437_0), ((HB.1.cell (World.block_lt_of_cell? w _ hw437_1)).trans hw437_1), ((HB.1.cell (World.block_lt_of_cell? w _ hw438_0)).trans hw438_0), ((HB.1.cell (World.block_lt_of_cell? w _ hw438_1)).trans hw438_1)⟩ (fun hHeld => ?_)
       clear hK K
       refine norm_ (a' := ?_) ?_ ?_
       rotate_left
       · show Act.put _ (some 25) _ = _
         simp only [Act.put, List.setIfInBounds_toArray, List.set_cons_zero, List.set_cons_succ, i64_w, i32_w]
         rfl
       refine pureF 9 (N := some 26) HT_.1 ?_
       refine done_ (done_of HT_.1 (by kernel_rfl)) ?_
       try go_wp2
       go_roundg k1
       case measure => have := HK1.1; omega
       case rel => exact ⟨(wrap64 (x5_1 + 1)), RG, H', ⟨by have := HK1.1; omega⟩, ⟨BL HB.1⟩⟩
     obtain rfl := Option.some.inj H
     try go_wp2
     refine E1 (below_drew1 HB.1) ?_
     clear HB
     intro HB
     have p437 : 0 <= (x5_1 : Int) := OD
     have q437 : x5_1 < (l0.length : Int) := OD
     obtain ⟨ad437, e437, hx437_0, hx437_1⟩ := at_T98 HR0.1 x5_1 p437 q437
     have hw437_1 := hx437_1
     have hw437_0 := hx437_0
     cases e437
     replace hx437_0 := (HB.1.cell (World.block_lt_of_cell? w _ hx437_0)).trans hx437_0
     replace hx437_1 := (HB.1.cell (World.block_lt_of_cell? w _ hx437_1)).trans hx437_1
     replace p437 := eq_true p437
     replace q437 := eq_true q437
     have p438 : 0 <= (x5_1 : Int) := OD
     have q438 : x5_1 < (l1.length : Int) := OD
     obtain ⟨ad438, e438, hx438_0, hx438_1⟩ := at_T98 HR1.1 x5_1 p438 q438
     have hw438_1 := hx438_1
     have hw438_0 := hx438_0
     cases e438
     replace hx438_0 := (HB.1.cell (World.block_lt_of_cell? w _ hx438_0)).trans hx438_0
     replace hx438_1 := (HB.1.cell (World.block_lt_of_cell? w _ hx438_1)).trans hx438_1
     replace p438 := eq_true p438
     replace q438 := eq_true q438
     refine start_ (n := 10) (S := fun w' => w'.cell? (ad437.add ((x5_1).toNat * 2)) = some (.int .i64 ((rd_T98 l0 x5_1).f0)) /\ w'.cell? ⟨(ad437.add ((x5_1).toNat * 2)).block, (ad437.add ((x5_1).toNat * 2)).off + 1, none⟩ = some (.int .i64 ((rd_T98 l0 x5_1).f1)) /\ w'.cell? (ad438.add ((x5_1).toNat * 2)) = some (.int .i64 ((rd_T98 l1 x5_1).f0)) /\ w'.cell? ⟨(ad438.add ((x5_1).toNat * 2)).block, (ad438.add ((x5_1).toNat * 2)).off + 1, none⟩ = some (.int .i64 ((rd_T98 l1 x5_1).f1))) (ds := []) #[Zz,Zz,Zz,Zz,Zz,Zz,Zz,Zz,Zz,Zz] (by kernel_rfl) rfl rfl ⟨((HB.1.cell (World.block_lt_of_cell? w _ hw437_0)).trans hw437_0), ((HB.1.cell (World.block_lt_of_cell? w _ hw437_1)).trans hw437_1), ((HB.1.cell (World.block_lt_of_cell? w _ hw438_0)).trans hw438_0), ((HB.1.cell (World.block_lt_of_cell? w _ hw438_1)).trans hw438_1)⟩ (fun hHeld => ?_); refine with_tabW laws_eqCellS.tab6 laws_eqCellS.bits6 (fun HT_ HW_ => ?_)
     generalize wr.drew = w11 at HB hx437_0 hx437_1 hx438_0 hx438_1 hHeld ⊢
     refine pureF 0 (N := some 17) HT_.1 ?_
     refine pureF 1 (N := some 18) HT_.1 ?_
     refine pureF 2 (N := some 19) HT_.1 ?_
     refine pureF 4 (N := some 21) HT_.1 ?_
     refine pureF 5 (N := some 22) HT_.1 ?_
     refine pureF 6 (N := some 23) HT_.1 ?_
     refine takeE 3 (N := some 20) HT_.1 HW_.1 hHeld ?_
     refine takeE 7 (N := some 24) HT_.1 HW_.1 hHeld ?_
     refine one_ (i := 8) (N := some 25) #[Yy,Yy,Yy,Yy,Yy,Yy,Yy,Yy,Yy,Zz] rfl rfl (one_of HT_.1 (by kernel_rfl)) (by decide) (fun K hK => ?_)
     refine goes_ Try.func70 (by kernel_rfl) rfl #[.agg #[.int .i64 ((rd_T98 l0 x5_1).f0), .int .i64 ((rd_T98 l0 x5_1).f1)], .agg #[.int .i64 ((rd_T98 l1 x5_1).f0), .int .i64 ((rd_T98 l1 x5_1).f1)]] (by rfl) rfl rfl (by (try simp only [List.map_toArray, List.map_cons, List.map_nil]); first | done | rfl | (simp only [List.length_drop, List.length_take]; rfl)) ?_
     with_reducible refine (laws_eqCell.calls ((rd_T98 l0 x5_1).f0) ((rd_T98 l0 x5_1).f1) ((rd_T98 l1 x5_1).f0) ((rd_T98 l1 x5_1).f1) false _ A7.1).mono ?_
     rintro e w12 ⟨rfl, hb⟩
     refine ⟨_, rfl, ?_⟩
     refine E1 (bS HB.1 hb) ?_
     clear HB
     intro HB
     (try clear hb)
     (try clear hb2)
     (try clear hk)
     (try clear hi)
     refine hK.out _ _ ⟨((HB.1.cell (World.block_lt_of_cell? w _ hw437_0)).trans hw437_0), ((HB.1.cell (World.block_lt_of_cell? w _ hw437_1)).trans hw437_1), ((HB.1.cell (World.block_lt_of_cell? w _ hw438_0)).trans hw438_0), ((HB.1.cell (World.block_lt_of_cell? w _ hw438_1)).trans hw438_1)⟩ (fun hHeld => ?_)
     clear hK K
     refine norm_ (a' := ?_) ?_ ?_
     rotate_left
     · show Act.put _ (some 25) _ = _
       simp only [Act.put, List.setIfInBounds_toArray, List.set_cons_zero, List.set_cons_succ, i64_w, i32_w]
       rfl
     refine pureF 9 (N := some 26) HT_.1 ?_
     refine done_ (done_of HT_.1 (by kernel_rfl)) ?_
     try go_wp2
     go_ret
     exact ⟨RF, BL HB.1⟩
   obtain rfl := Option.some.inj H
   go_wp2
   go_ret
   exact ⟨RF, BL HB.1⟩
 have c3b0 := beq_eq_false_iff_ne.mpr c3
 have c3b1 := bne_iff_ne.mpr c3
 have c3b2 : (l0.length == l1.length) = false := by first | simpa using c3 | (simp at c3 ⊢; omega)
 obtain rfl := Option.some.inj H
 go_enter Try.func56, Try.ntmps56
 go_wp2
 go_ret
 exact ⟨RF, BL HB.1⟩
/-! ### laws_eqBoard: function 34 -/
open Kd
def laws_eqBoard.f (k : Nat) (a0_0 : Int) (a0_1 : Int) (l0_2 : List (S98)) (a1_0 : Int) (a1_1 : Int) (l1_2 : List (S98)) : Option (Bool) := if a0_0 = a1_0 then (if a0_1 = a1_1 then ((laws_eqCellS.f k l0_2 l1_2).bind fun t442 => (if t442 = true then (some true) else (some false))) else (some false)) else (some false)
theorem laws_eqBoard.mono : ∀ a0 a1 a2 a3 a4 a5 k, LeO (laws_eqBoard.f k a0 a1 a2 a3 a4 a5) (laws_eqBoard.f (k + 1) a0 a1 a2 a3 a4 a5) := by
 intro a0 a1 a2 a3 a4 a5 k
 unfold laws_eqBoard.f
 repeat' first
  | (with_reducible exact laws_eqCellS.mono _ _ _)
  | (with_reducible exact LeO.refl _)
  | (with_reducible exact LeO.none _)
  | (with_reducible refine LeO.ite ?_ ?_)
  | (with_reducible refine LeO.bind ?_ (fun _ => ?_))
  | exact laws_eqCellS.mono _ _ _
  | exact LeO.none _
  | refine LeO.ite ?_ ?_
  | refine LeO.bind ?_ (fun _ => ?_)
theorem laws_eqBoard.calls (k : Nat) (a0_0 : Int) (a0_1 : Int) (A0_2 : Option Addr) (c0_2 : Nat) (l0_2 : List (S98)) (a1_0 : Int) (a1_1 : Int) (A1_2 : Option Addr) (c1_2 : Nat) (l1_2 : List (S98)) (r : Bool) (w : World) (hr0_2 : Kd.C k98 w A0_2 l0_2.length l0_2) (hc0_2 : l0_2.length <= c0_2) (hr1_2 : Kd.C k98 w A1_2 l1_2.length l1_2) (hc1_2 : l1_2.length <= c1_2) (h : laws_eqBoard.f k a0_0 a0_1 l0_2 a1_0 a1_1 l1_2 = some r) :
 Calls Try.prog 34 #[.agg #[.int .i64 a0_0, .int .i64 a0_1, .slice A0_2 l0_2.length c0_2], .agg #[.int .i64 a1_0, .int .i64 a1_1, .slice A1_2 l1_2.length c1_2]] w fun e w' => e = .returned (.bool r) /\ Below w.heap.size w w' := by
 have hu33 := Try.underlying33
 have HR0_2 := Aside0.mk hr0_2
 have HC0_2 := Aside0.mk hc0_2
 clear hr0_2 hc0_2
 have HR1_2 := Aside0.mk hr1_2
 have HC1_2 := Aside0.mk hc1_2
 clear hr1_2 hc1_2
 have HB := Aside0.mk (Below.refl w.heap.size w)
 have H := h
 clear h
 unfold laws_eqBoard.f at H
 replace H := ifQ H; rcases H with ⟨c3, H⟩ | ⟨c3, H⟩
 · have c3b0 := beq_iff_eq.mpr c3
   have c3b1 := bne_eq_false_iff_eq.mpr c3
   clear c3
   replace H := ifQ H; rcases H with ⟨c4, H⟩ | ⟨c4, H⟩
   · have c4b0 := beq_iff_eq.mpr c4
     have c4b1 := bne_eq_false_iff_eq.mpr c4
     clear c4
     replace H := bindA H; obtain ⟨t442, A5, H⟩ := H
     replace H := ifX H; rcases H with ⟨rfl, H⟩ | ⟨rfl, H⟩
     · obtain rfl := Option.some.inj H
       go_enter Try.func34, Try.ntmps34
       go_wp2_with (first | ((with_reducible refine gate_dst (N := 2) rfl ?_); refine boxE (cs := #[.int .i64 a0_0, .int .i64 a0_1, .slice A0_2 l0_2.length c0_2]) (t := 33) ?_; intro gb440 hg w7 hbox hb; refine E4b HB.1 hg hbox hb ?_; clear HB; intro HB BK440 GW440 GE440; clear hb hbox hg) | ((with_reducible refine gate_dst (N := 3) rfl ?_); refine boxE (cs := #[.int .i64 a1_0, .int .i64 a1_1, .slice A1_2 l1_2.length c1_2]) (t := 33) ?_; intro gb441 hg w8 hbox hb; refine E7 (bB BK440.1 hb) (bS HB.1 hb) (hbox) (gX HB.1 hg) (gX HB.1 hg) (nB BK440.1 hg) (nC BK440.1 hg) ?_; clear BK440 HB; intro BK440 HB BK441 GW441 GE441 NB440_441 NB441_440; clear hb hbox hg; have hnb9 := NB440_441.1; have hnc9 := NB441_440.1; obtain ⟨hcz10_0, hcz10_1, hcz10_2, hfz10_0, hfz10_1, hfz10_2⟩ := cz3 BK440.1; obtain ⟨hcz11_0, hcz11_1, hcz11_2, hfz11_0, hfz11_1, hfz11_2⟩ := cz3 BK441.1) | ((with_reducible refine gate_callee (f := 56) rfl ?_); refine goesM (N := (some 19)) #[.slice A0_2 l0_2.length c0_2, .slice A1_2 l1_2.length c1_2] Try.func56 ?_; (with_reducible refine (laws_eqCellS.calls k _ _ l0_2 _ _ l1_2 true _ ?side1 ?side2 ?side3 ?side4 A5.1).mono ?_); (case side1 => exact CB (C_below HR0_2.1 HB.1)); (case side2 => exact HC0_2.1); (case side3 => exact CB (C_below HR1_2.1 HB.1)); (case side4 => exact HC1_2.1); rintro e w12 ⟨rfl, hb⟩; refine ⟨_, rfl, ?_⟩; refine E3 (bB BK440.1 hb) (bB BK441.1 hb) (bS HB.1 hb) ?_; clear BK440 BK441 HB; intro BK440 BK441 HB; (try clear hb)))
       go_ret
       exact ⟨RF, BL HB.1⟩
     obtain rfl := Option.some.inj H
     go_enter Try.func34, Try.ntmps34
     go_wp2_with (first | ((with_reducible refine gate_dst (N := 2) rfl ?_); refine boxE (cs := #[.int .i64 a0_0, .int .i64 a0_1, .slice A0_2 l0_2.length c0_2]) (t := 33) ?_; intro gb440 hg w13 hbox hb; refine E4b HB.1 hg hbox hb ?_; clear HB; intro HB BK440 GW440 GE440; clear hb hbox hg) | ((with_reducible refine gate_dst (N := 3) rfl ?_); refine boxE (cs := #[.int .i64 a1_0, .int .i64 a1_1, .slice A1_2 l1_2.length c1_2]) (t := 33) ?_; intro gb441 hg w14 hbox hb; refine E7 (bB BK440.1 hb) (bS HB.1 hb) (hbox) (gX HB.1 hg) (gX HB.1 hg) (nB BK440.1 hg) (nC BK440.1 hg) ?_; clear BK440 HB; intro BK440 HB BK441 GW441 GE441 NB440_441 NB441_440; clear hb hbox hg; have hnb15 := NB440_441.1; have hnc15 := NB441_440.1; obtain ⟨hcz16_0, hcz16_1, hcz16_2, hfz16_0, hfz16_1, hfz16_2⟩ := cz3 BK440.1; obtain ⟨hcz17_0, hcz17_1, hcz17_2, hfz17_0, hfz17_1, hfz17_2⟩ := cz3 BK441.1) | ((with_reducible refine gate_callee (f := 56) rfl ?_); refine goesM (N := (some 19)) #[.slice A0_2 l0_2.length c0_2, .slice A1_2 l1_2.length c1_2] Try.func56 ?_; (with_reducible refine (laws_eqCellS.calls k _ _ l0_2 _ _ l1_2 false _ ?side1 ?side2 ?side3 ?side4 A5.1).mono ?_); (case side1 => exact CB (C_below HR0_2.1 HB.1)); (case side2 => exact HC0_2.1); (case side3 => exact CB (C_below HR1_2.1 HB.1)); (case side4 => exact HC1_2.1); rintro e w18 ⟨rfl, hb⟩; refine ⟨_, rfl, ?_⟩; refine E3 (bB BK440.1 hb) (bB BK441.1 hb) (bS HB.1 hb) ?_; clear BK440 BK441 HB; intro BK440 BK441 HB; (try clear hb)))
     go_ret
     exact ⟨RF, BL HB.1⟩
   have c4b0 := beq_eq_false_iff_ne.mpr c4
   have c4b1 := bne_iff_ne.mpr c4
   obtain rfl := Option.some.inj H
   go_enter Try.func34, Try.ntmps34
   go_wp2_with (first | ((with_reducible refine gate_dst (N := 2) rfl ?_); refine boxE (cs := #[.int .i64 a0_0, .int .i64 a0_1, .slice A0_2 l0_2.length c0_2]) (t := 33) ?_; intro gb440 hg w19 hbox hb; refine E4b HB.1 hg hbox hb ?_; clear HB; intro HB BK440 GW440 GE440; clear hb hbox hg) | ((with_reducible refine gate_dst (N := 3) rfl ?_); refine boxE (cs := #[.int .i64 a1_0, .int .i64 a1_1, .slice A1_2 l1_2.length c1_2]) (t := 33) ?_; intro gb441 hg w20 hbox hb; refine E7 (bB BK440.1 hb) (bS HB.1 hb) (hbox) (gX HB.1 hg) (gX HB.1 hg) (nB BK440.1 hg) (nC BK440.1 hg) ?_; clear BK440 HB; intro BK440 HB BK441 GW441 GE441 NB440_441 NB441_440; clear hb hbox hg; have hnb21 := NB440_441.1; have hnc21 := NB441_440.1; obtain ⟨hcz22_0, hcz22_1, hcz22_2, hfz22_0, hfz22_1, hfz22_2⟩ := cz3 BK440.1; obtain ⟨hcz23_0, hcz23_1, hcz23_2, hfz23_0, hfz23_1, hfz23_2⟩ := cz3 BK441.1))
   go_ret
   exact ⟨RF, BL HB.1⟩
 have c3b0 := beq_eq_false_iff_ne.mpr c3
 have c3b1 := bne_iff_ne.mpr c3
 obtain rfl := Option.some.inj H
 go_enter Try.func34, Try.ntmps34
 go_wp2_with (first | ((with_reducible refine gate_dst (N := 2) rfl ?_); refine boxE (cs := #[.int .i64 a0_0, .int .i64 a0_1, .slice A0_2 l0_2.length c0_2]) (t := 33) ?_; intro gb440 hg w24 hbox hb; refine E4b HB.1 hg hbox hb ?_; clear HB; intro HB BK440 GW440 GE440; clear hb hbox hg) | ((with_reducible refine gate_dst (N := 3) rfl ?_); refine boxE (cs := #[.int .i64 a1_0, .int .i64 a1_1, .slice A1_2 l1_2.length c1_2]) (t := 33) ?_; intro gb441 hg w25 hbox hb; refine E7 (bB BK440.1 hb) (bS HB.1 hb) (hbox) (gX HB.1 hg) (gX HB.1 hg) (nB BK440.1 hg) (nC BK440.1 hg) ?_; clear BK440 HB; intro BK440 HB BK441 GW441 GE441 NB440_441 NB441_440; clear hb hbox hg; have hnb26 := NB440_441.1; have hnc26 := NB441_440.1; obtain ⟨hcz27_0, hcz27_1, hcz27_2, hfz27_0, hfz27_1, hfz27_2⟩ := cz3 BK440.1; obtain ⟨hcz28_0, hcz28_1, hcz28_2, hfz28_0, hfz28_1, hfz28_2⟩ := cz3 BK441.1))
 go_ret
 exact ⟨RF, BL HB.1⟩
/-! ### laws_eqMachine: function 12 -/
open Kd
def laws_eqMachine.f (k : Nat) (a0_0 : Int) (a0_1 : Int) (l0_2 : List (S98)) (a0_3 : Int) (a0_4 : Int) (a0_5 : Int) (a0_6 : Int) (a0_7 : Int) (a1_0 : Int) (a1_1 : Int) (l1_2 : List (S98)) (a1_3 : Int) (a1_4 : Int) (a1_5 : Int) (a1_6 : Int) (a1_7 : Int) : Option (Bool) := (laws_eqBoard.f k a0_0 a0_1 l0_2 a1_0 a1_1 l1_2).bind fun t445 => (if t445 = true then (if a0_3 = a1_3 then (if a0_4 = a1_4 then (if a0_5 = a1_5 then (if a0_6 = a1_6 then (if a0_7 = a1_7 then (some true) else (some false)) else (some false)) else (some false)) else (some false)) else (some false)) else (some false))
theorem laws_eqMachine.mono : ∀ a0 a1 a2 a3 a4 a5 a6 a7 a8 a9 a10 a11 a12 a13 a14 a15 k, LeO (laws_eqMachine.f k a0 a1 a2 a3 a4 a5 a6 a7 a8 a9 a10 a11 a12 a13 a14 a15) (laws_eqMachine.f (k + 1) a0 a1 a2 a3 a4 a5 a6 a7 a8 a9 a10 a11 a12 a13 a14 a15) := by
 intro a0 a1 a2 a3 a4 a5 a6 a7 a8 a9 a10 a11 a12 a13 a14 a15 k
 unfold laws_eqMachine.f
 repeat' first
  | (with_reducible exact laws_eqBoard.mono _ _ _ _ _ _ _)
  | (with_reducible exact LeO.refl _)
  | (with_reducible exact LeO.none _)
  | (with_reducible refine LeO.ite ?_ ?_)
  | (with_reducible refine LeO.bind ?_ (fun _ => ?_))
  | exact laws_eqBoard.mono _ _ _ _ _ _ _
  | exact LeO.none _
  | refine LeO.ite ?_ ?_
  | refine LeO.bind ?_ (fun _ => ?_)
theorem laws_eqMachine.calls (k : Nat) (a0_0 : Int) (a0_1 : Int) (A0_2 : Option Addr) (c0_2 : Nat) (l0_2 : List (S98)) (a0_3 : Int) (a0_4 : Int) (a0_5 : Int) (a0_6 : Int) (a0_7 : Int) (a1_0 : Int) (a1_1 : Int) (A1_2 : Option Addr) (c1_2 : Nat) (l1_2 : List (S98)) (a1_3 : Int) (a1_4 : Int) (a1_5 : Int) (a1_6 : Int) (a1_7 : Int) (r : Bool) (w : World) (hr0_2 : Kd.C k98 w A0_2 l0_2.length l0_2) (hc0_2 : l0_2.length <= c0_2) (hr1_2 : Kd.C k98 w A1_2 l1_2.length l1_2) (hc1_2 : l1_2.length <= c1_2) (h : laws_eqMachine.f k a0_0 a0_1 l0_2 a0_3 a0_4 a0_5 a0_6 a0_7 a1_0 a1_1 l1_2 a1_3 a1_4 a1_5 a1_6 a1_7 = some r) :
 Calls Try.prog 12 #[.agg #[.int .i64 a0_0, .int .i64 a0_1, .slice A0_2 l0_2.length c0_2, .int .i64 a0_3, .int .i64 a0_4, .int .i64 a0_5, .int .i64 a0_6, .int .i64 a0_7], .agg #[.int .i64 a1_0, .int .i64 a1_1, .slice A1_2 l1_2.length c1_2, .int .i64 a1_3, .int .i64 a1_4, .int .i64 a1_5, .int .i64 a1_6, .int .i64 a1_7]] w fun e w' => e = .returned (.bool r) /\ Below w.heap.size w w' := by
 have hu35 := Try.underlying35
 have hu33 := Try.underlying33
 have HR0_2 := Aside0.mk hr0_2
 have HC0_2 := Aside0.mk hc0_2
 clear hr0_2 hc0_2
 have HR1_2 := Aside0.mk hr1_2
 have HC1_2 := Aside0.mk hc1_2
 clear hr1_2 hc1_2
 have HB := Aside0.mk (Below.refl w.heap.size w)
 have H := h
 clear h
 unfold laws_eqMachine.f at H
 replace H := bindA H; obtain ⟨t445, A3, H⟩ := H
 replace H := ifX H; rcases H with ⟨rfl, H⟩ | ⟨rfl, H⟩
 · replace H := ifQ H; rcases H with ⟨c5, H⟩ | ⟨c5, H⟩
   · have c5b0 := beq_iff_eq.mpr c5
     have c5b1 := bne_eq_false_iff_eq.mpr c5
     clear c5
     replace H := ifQ H; rcases H with ⟨c6, H⟩ | ⟨c6, H⟩
     · have c6b0 := beq_iff_eq.mpr c6
       have c6b1 := bne_eq_false_iff_eq.mpr c6
       clear c6
       replace H := ifQ H; rcases H with ⟨c7, H⟩ | ⟨c7, H⟩
       · have c7b0 := beq_iff_eq.mpr c7
         have c7b1 := bne_eq_false_iff_eq.mpr c7
         clear c7
         replace H := ifQ H; rcases H with ⟨c8, H⟩ | ⟨c8, H⟩
         · have c8b0 := beq_iff_eq.mpr c8
           have c8b1 := bne_eq_false_iff_eq.mpr c8
           clear c8
           replace H := ifQ H; rcases H with ⟨c9, H⟩ | ⟨c9, H⟩
           · have c9b0 := beq_iff_eq.mpr c9
             have c9b1 := bne_eq_false_iff_eq.mpr c9
             clear c9
             obtain rfl := Option.some.inj H
             go_enter Try.func12, Try.ntmps12
             go_wp2_with (first | ((with_reducible refine gate_dst (N := 2) rfl ?_); refine boxE (cs := #[.int .i64 a0_0, .int .i64 a0_1, .slice A0_2 l0_2.length c0_2, .int .i64 a0_3, .int .i64 a0_4, .int .i64 a0_5, .int .i64 a0_6, .int .i64 a0_7]) (t := 35) ?_; intro gb443 hg w10 hbox hb; refine E4b HB.1 hg hbox hb ?_; clear HB; intro HB BK443 GW443 GE443; clear hb hbox hg) | ((with_reducible refine gate_dst (N := 3) rfl ?_); refine boxE (cs := #[.int .i64 a1_0, .int .i64 a1_1, .slice A1_2 l1_2.length c1_2, .int .i64 a1_3, .int .i64 a1_4, .int .i64 a1_5, .int .i64 a1_6, .int .i64 a1_7]) (t := 35) ?_; intro gb444 hg w11 hbox hb; refine E7 (bB BK443.1 hb) (bS HB.1 hb) (hbox) (gX HB.1 hg) (gX HB.1 hg) (nB BK443.1 hg) (nC BK443.1 hg) ?_; clear BK443 HB; intro BK443 HB BK444 GW444 GE444 NB443_444 NB444_443; clear hb hbox hg; have hnb12 := NB443_444.1; have hnc12 := NB444_443.1; obtain ⟨hcz13_0, hcz13_1, hcz13_2, hcz13_3, hcz13_4, hcz13_5, hcz13_6, hcz13_7, hfz13_0, hfz13_1, hfz13_2, hfz13_3, hfz13_4, hfz13_5, hfz13_6, hfz13_7⟩ := cz8 BK443.1; obtain ⟨hcz14_0, hcz14_1, hcz14_2, hcz14_3, hcz14_4, hcz14_5, hcz14_6, hcz14_7, hfz14_0, hfz14_1, hfz14_2, hfz14_3, hfz14_4, hfz14_5, hfz14_6, hfz14_7⟩ := cz8 BK444.1) | ((with_reducible refine gate_callee (f := 34) rfl ?_); refine goesM (N := (some 9)) #[.agg #[.int .i64 a0_0, .int .i64 a0_1, .slice A0_2 l0_2.length c0_2], .agg #[.int .i64 a1_0, .int .i64 a1_1, .slice A1_2 l1_2.length c1_2]] Try.func34 ?_; (with_reducible refine (laws_eqBoard.calls k a0_0 a0_1 _ _ l0_2 a1_0 a1_1 _ _ l1_2 true _ ?side1 ?side2 ?side3 ?side4 A3.1).mono ?_); (case side1 => exact CB (C_below HR0_2.1 HB.1)); (case side2 => exact HC0_2.1); (case side3 => exact CB (C_below HR1_2.1 HB.1)); (case side4 => exact HC1_2.1); rintro e w15 ⟨rfl, hb⟩; refine ⟨_, rfl, ?_⟩; refine E3 (bB BK443.1 hb) (bB BK444.1 hb) (bS HB.1 hb) ?_; clear BK443 BK444 HB; intro BK443 BK444 HB; (try clear hb); obtain ⟨hcz16_0, hcz16_1, hcz16_2, hcz16_3, hcz16_4, hcz16_5, hcz16_6, hcz16_7, hfz16_0, hfz16_1, hfz16_2, hfz16_3, hfz16_4, hfz16_5, hfz16_6, hfz16_7⟩ := cz8 BK443.1; obtain ⟨hcz17_0, hcz17_1, hcz17_2, hcz17_3, hcz17_4, hcz17_5, hcz17_6, hcz17_7, hfz17_0, hfz17_1, hfz17_2, hfz17_3, hfz17_4, hfz17_5, hfz17_6, hfz17_7⟩ := cz8 BK444.1))
             go_ret
             exact ⟨RF, BL HB.1⟩
           have c9b0 := beq_eq_false_iff_ne.mpr c9
           have c9b1 := bne_iff_ne.mpr c9
           obtain rfl := Option.some.inj H
           go_enter Try.func12, Try.ntmps12
           go_wp2_with (first | ((with_reducible refine gate_dst (N := 2) rfl ?_); refine boxE (cs := #[.int .i64 a0_0, .int .i64 a0_1, .slice A0_2 l0_2.length c0_2, .int .i64 a0_3, .int .i64 a0_4, .int .i64 a0_5, .int .i64 a0_6, .int .i64 a0_7]) (t := 35) ?_; intro gb443 hg w18 hbox hb; refine E4b HB.1 hg hbox hb ?_; clear HB; intro HB BK443 GW443 GE443; clear hb hbox hg) | ((with_reducible refine gate_dst (N := 3) rfl ?_); refine boxE (cs := #[.int .i64 a1_0, .int .i64 a1_1, .slice A1_2 l1_2.length c1_2, .int .i64 a1_3, .int .i64 a1_4, .int .i64 a1_5, .int .i64 a1_6, .int .i64 a1_7]) (t := 35) ?_; intro gb444 hg w19 hbox hb; refine E7 (bB BK443.1 hb) (bS HB.1 hb) (hbox) (gX HB.1 hg) (gX HB.1 hg) (nB BK443.1 hg) (nC BK443.1 hg) ?_; clear BK443 HB; intro BK443 HB BK444 GW444 GE444 NB443_444 NB444_443; clear hb hbox hg; have hnb20 := NB443_444.1; have hnc20 := NB444_443.1; obtain ⟨hcz21_0, hcz21_1, hcz21_2, hcz21_3, hcz21_4, hcz21_5, hcz21_6, hcz21_7, hfz21_0, hfz21_1, hfz21_2, hfz21_3, hfz21_4, hfz21_5, hfz21_6, hfz21_7⟩ := cz8 BK443.1; obtain ⟨hcz22_0, hcz22_1, hcz22_2, hcz22_3, hcz22_4, hcz22_5, hcz22_6, hcz22_7, hfz22_0, hfz22_1, hfz22_2, hfz22_3, hfz22_4, hfz22_5, hfz22_6, hfz22_7⟩ := cz8 BK444.1) | ((with_reducible refine gate_callee (f := 34) rfl ?_); refine goesM (N := (some 9)) #[.agg #[.int .i64 a0_0, .int .i64 a0_1, .slice A0_2 l0_2.length c0_2], .agg #[.int .i64 a1_0, .int .i64 a1_1, .slice A1_2 l1_2.length c1_2]] Try.func34 ?_; (with_reducible refine (laws_eqBoard.calls k a0_0 a0_1 _ _ l0_2 a1_0 a1_1 _ _ l1_2 true _ ?side1 ?side2 ?side3 ?side4 A3.1).mono ?_); (case side1 => exact CB (C_below HR0_2.1 HB.1)); (case side2 => exact HC0_2.1); (case side3 => exact CB (C_below HR1_2.1 HB.1)); (case side4 => exact HC1_2.1); rintro e w23 ⟨rfl, hb⟩; refine ⟨_, rfl, ?_⟩; refine E3 (bB BK443.1 hb) (bB BK444.1 hb) (bS HB.1 hb) ?_; clear BK443 BK444 HB; intro BK443 BK444 HB; (try clear hb); obtain ⟨hcz24_0, hcz24_1, hcz24_2, hcz24_3, hcz24_4, hcz24_5, hcz24_6, hcz24_7, hfz24_0, hfz24_1, hfz24_2, hfz24_3, hfz24_4, hfz24_5, hfz24_6, hfz24_7⟩ := cz8 BK443.1; obtain ⟨hcz25_0, hcz25_1, hcz25_2, hcz25_3, hcz25_4, hcz25_5, hcz25_6, hcz25_7, hfz25_0, hfz25_1, hfz25_2, hfz25_3, hfz25_4, hfz25_5, hfz25_6, hfz25_7⟩ := cz8 BK444.1))
           go_ret
           exact ⟨RF, BL HB.1⟩
         have c8b0 := beq_eq_false_iff_ne.mpr c8
         have c8b1 := bne_iff_ne.mpr c8
         obtain rfl := Option.some.inj H
         go_enter Try.func12, Try.ntmps12
         go_wp2_with (first | ((with_reducible refine gate_dst (N := 2) rfl ?_); refine boxE (cs := #[.int .i64 a0_0, .int .i64 a0_1, .slice A0_2 l0_2.length c0_2, .int .i64 a0_3, .int .i64 a0_4, .int .i64 a0_5, .int .i64 a0_6, .int .i64 a0_7]) (t := 35) ?_; intro gb443 hg w26 hbox hb; refine E4b HB.1 hg hbox hb ?_; clear HB; intro HB BK443 GW443 GE443; clear hb hbox hg) | ((with_reducible refine gate_dst (N := 3) rfl ?_); refine boxE (cs := #[.int .i64 a1_0, .int .i64 a1_1, .slice A1_2 l1_2.length c1_2, .int .i64 a1_3, .int .i64 a1_4, .int .i64 a1_5, .int .i64 a1_6, .int .i64 a1_7]) (t := 35) ?_; intro gb444 hg w27 hbox hb; refine E7 (bB BK443.1 hb) (bS HB.1 hb) (hbox) (gX HB.1 hg) (gX HB.1 hg) (nB BK443.1 hg) (nC BK443.1 hg) ?_; clear BK443 HB; intro BK443 HB BK444 GW444 GE444 NB443_444 NB444_443; clear hb hbox hg; have hnb28 := NB443_444.1; have hnc28 := NB444_443.1; obtain ⟨hcz29_0, hcz29_1, hcz29_2, hcz29_3, hcz29_4, hcz29_5, hcz29_6, hcz29_7, hfz29_0, hfz29_1, hfz29_2, hfz29_3, hfz29_4, hfz29_5, hfz29_6, hfz29_7⟩ := cz8 BK443.1; obtain ⟨hcz30_0, hcz30_1, hcz30_2, hcz30_3, hcz30_4, hcz30_5, hcz30_6, hcz30_7, hfz30_0, hfz30_1, hfz30_2, hfz30_3, hfz30_4, hfz30_5, hfz30_6, hfz30_7⟩ := cz8 BK444.1) | ((with_reducible refine gate_callee (f := 34) rfl ?_); refine goesM (N := (some 9)) #[.agg #[.int .i64 a0_0, .int .i64 a0_1, .slice A0_2 l0_2.length c0_2], .agg #[.int .i64 a1_0, .int .i64 a1_1, .slice A1_2 l1_2.length c1_2]] Try.func34 ?_; (with_reducible refine (laws_eqBoard.calls k a0_0 a0_1 _ _ l0_2 a1_0 a1_1 _ _ l1_2 true _ ?side1 ?side2 ?side3 ?side4 A3.1).mono ?_); (case side1 => exact CB (C_below HR0_2.1 HB.1)); (case side2 => exact HC0_2.1); (case side3 => exact CB (C_below HR1_2.1 HB.1)); (case side4 => exact HC1_2.1); rintro e w31 ⟨rfl, hb⟩; refine ⟨_, rfl, ?_⟩; refine E3 (bB BK443.1 hb) (bB BK444.1 hb) (bS HB.1 hb) ?_; clear BK443 BK444 HB; intro BK443 BK444 HB; (try clear hb); obtain ⟨hcz32_0, hcz32_1, hcz32_2, hcz32_3, hcz32_4, hcz32_5, hcz32_6, hcz32_7, hfz32_0, hfz32_1, hfz32_2, hfz32_3, hfz32_4, hfz32_5, hfz32_6, hfz32_7⟩ := cz8 BK443.1; obtain ⟨hcz33_0, hcz33_1, hcz33_2, hcz33_3, hcz33_4, hcz33_5, hcz33_6, hcz33_7, hfz33_0, hfz33_1, hfz33_2, hfz33_3, hfz33_4, hfz33_5, hfz33_6, hfz33_7⟩ := cz8 BK444.1))
         go_ret
         exact ⟨RF, BL HB.1⟩
       have c7b0 := beq_eq_false_iff_ne.mpr c7
       have c7b1 := bne_iff_ne.mpr c7
       obtain rfl := Option.some.inj H
       go_enter Try.func12, Try.ntmps12
       go_wp2_with (first | ((with_reducible refine gate_dst (N := 2) rfl ?_); refine boxE (cs := #[.int .i64 a0_0, .int .i64 a0_1, .slice A0_2 l0_2.length c0_2, .int .i64 a0_3, .int .i64 a0_4, .int .i64 a0_5, .int .i64 a0_6, .int .i64 a0_7]) (t := 35) ?_; intro gb443 hg w34 hbox hb; refine E4b HB.1 hg hbox hb ?_; clear HB; intro HB BK443 GW443 GE443; clear hb hbox hg) | ((with_reducible refine gate_dst (N := 3) rfl ?_); refine boxE (cs := #[.int .i64 a1_0, .int .i64 a1_1, .slice A1_2 l1_2.length c1_2, .int .i64 a1_3, .int .i64 a1_4, .int .i64 a1_5, .int .i64 a1_6, .int .i64 a1_7]) (t := 35) ?_; intro gb444 hg w35 hbox hb; refine E7 (bB BK443.1 hb) (bS HB.1 hb) (hbox) (gX HB.1 hg) (gX HB.1 hg) (nB BK443.1 hg) (nC BK443.1 hg) ?_; clear BK443 HB; intro BK443 HB BK444 GW444 GE444 NB443_444 NB444_443; clear hb hbox hg; have hnb36 := NB443_444.1; have hnc36 := NB444_443.1; obtain ⟨hcz37_0, hcz37_1, hcz37_2, hcz37_3, hcz37_4, hcz37_5, hcz37_6, hcz37_7, hfz37_0, hfz37_1, hfz37_2, hfz37_3, hfz37_4, hfz37_5, hfz37_6, hfz37_7⟩ := cz8 BK443.1; obtain ⟨hcz38_0, hcz38_1, hcz38_2, hcz38_3, hcz38_4, hcz38_5, hcz38_6, hcz38_7, hfz38_0, hfz38_1, hfz38_2, hfz38_3, hfz38_4, hfz38_5, hfz38_6, hfz38_7⟩ := cz8 BK444.1) | ((with_reducible refine gate_callee (f := 34) rfl ?_); refine goesM (N := (some 9)) #[.agg #[.int .i64 a0_0, .int .i64 a0_1, .slice A0_2 l0_2.length c0_2], .agg #[.int .i64 a1_0, .int .i64 a1_1, .slice A1_2 l1_2.length c1_2]] Try.func34 ?_; (with_reducible refine (laws_eqBoard.calls k a0_0 a0_1 _ _ l0_2 a1_0 a1_1 _ _ l1_2 true _ ?side1 ?side2 ?side3 ?side4 A3.1).mono ?_); (case side1 => exact CB (C_below HR0_2.1 HB.1)); (case side2 => exact HC0_2.1); (case side3 => exact CB (C_below HR1_2.1 HB.1)); (case side4 => exact HC1_2.1); rintro e w39 ⟨rfl, hb⟩; refine ⟨_, rfl, ?_⟩; refine E3 (bB BK443.1 hb) (bB BK444.1 hb) (bS HB.1 hb) ?_; clear BK443 BK444 HB; intro BK443 BK444 HB; (try clear hb); obtain ⟨hcz40_0, hcz40_1, hcz40_2, hcz40_3, hcz40_4, hcz40_5, hcz40_6, hcz40_7, hfz40_0, hfz40_1, hfz40_2, hfz40_3, hfz40_4, hfz40_5, hfz40_6, hfz40_7⟩ := cz8 BK443.1; obtain ⟨hcz41_0, hcz41_1, hcz41_2, hcz41_3, hcz41_4, hcz41_5, hcz41_6, hcz41_7, hfz41_0, hfz41_1, hfz41_2, hfz41_3, hfz41_4, hfz41_5, hfz41_6, hfz41_7⟩ := cz8 BK444.1))
       go_ret
       exact ⟨RF, BL HB.1⟩
     have c6b0 := beq_eq_false_iff_ne.mpr c6
     have c6b1 := bne_iff_ne.mpr c6
     obtain rfl := Option.some.inj H
     go_enter Try.func12, Try.ntmps12
     go_wp2_with (first | ((with_reducible refine gate_dst (N := 2) rfl ?_); refine boxE (cs := #[.int .i64 a0_0, .int .i64 a0_1, .slice A0_2 l0_2.length c0_2, .int .i64 a0_3, .int .i64 a0_4, .int .i64 a0_5, .int .i64 a0_6, .int .i64 a0_7]) (t := 35) ?_; intro gb443 hg w42 hbox hb; refine E4b HB.1 hg hbox hb ?_; clear HB; intro HB BK443 GW443 GE443; clear hb hbox hg) | ((with_reducible refine gate_dst (N := 3) rfl ?_); refine boxE (cs := #[.int .i64 a1_0, .int .i64 a1_1, .slice A1_2 l1_2.length c1_2, .int .i64 a1_3, .int .i64 a1_4, .int .i64 a1_5, .int .i64 a1_6, .int .i64 a1_7]) (t := 35) ?_; intro gb444 hg w43 hbox hb; refine E7 (bB BK443.1 hb) (bS HB.1 hb) (hbox) (gX HB.1 hg) (gX HB.1 hg) (nB BK443.1 hg) (nC BK443.1 hg) ?_; clear BK443 HB; intro BK443 HB BK444 GW444 GE444 NB443_444 NB444_443; clear hb hbox hg; have hnb44 := NB443_444.1; have hnc44 := NB444_443.1; obtain ⟨hcz45_0, hcz45_1, hcz45_2, hcz45_3, hcz45_4, hcz45_5, hcz45_6, hcz45_7, hfz45_0, hfz45_1, hfz45_2, hfz45_3, hfz45_4, hfz45_5, hfz45_6, hfz45_7⟩ := cz8 BK443.1; obtain ⟨hcz46_0, hcz46_1, hcz46_2, hcz46_3, hcz46_4, hcz46_5, hcz46_6, hcz46_7, hfz46_0, hfz46_1, hfz46_2, hfz46_3, hfz46_4, hfz46_5, hfz46_6, hfz46_7⟩ := cz8 BK444.1) | ((with_reducible refine gate_callee (f := 34) rfl ?_); refine goesM (N := (some 9)) #[.agg #[.int .i64 a0_0, .int .i64 a0_1, .slice A0_2 l0_2.length c0_2], .agg #[.int .i64 a1_0, .int .i64 a1_1, .slice A1_2 l1_2.length c1_2]] Try.func34 ?_; (with_reducible refine (laws_eqBoard.calls k a0_0 a0_1 _ _ l0_2 a1_0 a1_1 _ _ l1_2 true _ ?side1 ?side2 ?side3 ?side4 A3.1).mono ?_); (case side1 => exact CB (C_below HR0_2.1 HB.1)); (case side2 => exact HC0_2.1); (case side3 => exact CB (C_below HR1_2.1 HB.1)); (case side4 => exact HC1_2.1); rintro e w47 ⟨rfl, hb⟩; refine ⟨_, rfl, ?_⟩; refine E3 (bB BK443.1 hb) (bB BK444.1 hb) (bS HB.1 hb) ?_; clear BK443 BK444 HB; intro BK443 BK444 HB; (try clear hb); obtain ⟨hcz48_0, hcz48_1, hcz48_2, hcz48_3, hcz48_4, hcz48_5, hcz48_6, hcz48_7, hfz48_0, hfz48_1, hfz48_2, hfz48_3, hfz48_4, hfz48_5, hfz48_6, hfz48_7⟩ := cz8 BK443.1; obtain ⟨hcz49_0, hcz49_1, hcz49_2, hcz49_3, hcz49_4, hcz49_5, hcz49_6, hcz49_7, hfz49_0, hfz49_1, hfz49_2, hfz49_3, hfz49_4, hfz49_5, hfz49_6, hfz49_7⟩ := cz8 BK444.1))
     go_ret
     exact ⟨RF, BL HB.1⟩
   have c5b0 := beq_eq_false_iff_ne.mpr c5
   have c5b1 := bne_iff_ne.mpr c5
   obtain rfl := Option.some.inj H
   go_enter Try.func12, Try.ntmps12
   go_wp2_with (first | ((with_reducible refine gate_dst (N := 2) rfl ?_); refine boxE (cs := #[.int .i64 a0_0, .int .i64 a0_1, .slice A0_2 l0_2.length c0_2, .int .i64 a0_3, .int .i64 a0_4, .int .i64 a0_5, .int .i64 a0_6, .int .i64 a0_7]) (t := 35) ?_; intro gb443 hg w50 hbox hb; refine E4b HB.1 hg hbox hb ?_; clear HB; intro HB BK443 GW443 GE443; clear hb hbox hg) | ((with_reducible refine gate_dst (N := 3) rfl ?_); refine boxE (cs := #[.int .i64 a1_0, .int .i64 a1_1, .slice A1_2 l1_2.length c1_2, .int .i64 a1_3, .int .i64 a1_4, .int .i64 a1_5, .int .i64 a1_6, .int .i64 a1_7]) (t := 35) ?_; intro gb444 hg w51 hbox hb; refine E7 (bB BK443.1 hb) (bS HB.1 hb) (hbox) (gX HB.1 hg) (gX HB.1 hg) (nB BK443.1 hg) (nC BK443.1 hg) ?_; clear BK443 HB; intro BK443 HB BK444 GW444 GE444 NB443_444 NB444_443; clear hb hbox hg; have hnb52 := NB443_444.1; have hnc52 := NB444_443.1; obtain ⟨hcz53_0, hcz53_1, hcz53_2, hcz53_3, hcz53_4, hcz53_5, hcz53_6, hcz53_7, hfz53_0, hfz53_1, hfz53_2, hfz53_3, hfz53_4, hfz53_5, hfz53_6, hfz53_7⟩ := cz8 BK443.1; obtain ⟨hcz54_0, hcz54_1, hcz54_2, hcz54_3, hcz54_4, hcz54_5, hcz54_6, hcz54_7, hfz54_0, hfz54_1, hfz54_2, hfz54_3, hfz54_4, hfz54_5, hfz54_6, hfz54_7⟩ := cz8 BK444.1) | ((with_reducible refine gate_callee (f := 34) rfl ?_); refine goesM (N := (some 9)) #[.agg #[.int .i64 a0_0, .int .i64 a0_1, .slice A0_2 l0_2.length c0_2], .agg #[.int .i64 a1_0, .int .i64 a1_1, .slice A1_2 l1_2.length c1_2]] Try.func34 ?_; (with_reducible refine (laws_eqBoard.calls k a0_0 a0_1 _ _ l0_2 a1_0 a1_1 _ _ l1_2 true _ ?side1 ?side2 ?side3 ?side4 A3.1).mono ?_); (case side1 => exact CB (C_below HR0_2.1 HB.1)); (case side2 => exact HC0_2.1); (case side3 => exact CB (C_below HR1_2.1 HB.1)); (case side4 => exact HC1_2.1); rintro e w55 ⟨rfl, hb⟩; refine ⟨_, rfl, ?_⟩; refine E3 (bB BK443.1 hb) (bB BK444.1 hb) (bS HB.1 hb) ?_; clear BK443 BK444 HB; intro BK443 BK444 HB; (try clear hb); obtain ⟨hcz56_0, hcz56_1, hcz56_2, hcz56_3, hcz56_4, hcz56_5, hcz56_6, hcz56_7, hfz56_0, hfz56_1, hfz56_2, hfz56_3, hfz56_4, hfz56_5, hfz56_6, hfz56_7⟩ := cz8 BK443.1; obtain ⟨hcz57_0, hcz57_1, hcz57_2, hcz57_3, hcz57_4, hcz57_5, hcz57_6, hcz57_7, hfz57_0, hfz57_1, hfz57_2, hfz57_3, hfz57_4, hfz57_5, hfz57_6, hfz57_7⟩ := cz8 BK444.1))
   go_ret
   exact ⟨RF, BL HB.1⟩
 obtain rfl := Option.some.inj H
 go_enter Try.func12, Try.ntmps12
 go_wp2_with (first | ((with_reducible refine gate_dst (N := 2) rfl ?_); refine boxE (cs := #[.int .i64 a0_0, .int .i64 a0_1, .slice A0_2 l0_2.length c0_2, .int .i64 a0_3, .int .i64 a0_4, .int .i64 a0_5, .int .i64 a0_6, .int .i64 a0_7]) (t := 35) ?_; intro gb443 hg w58 hbox hb; refine E4b HB.1 hg hbox hb ?_; clear HB; intro HB BK443 GW443 GE443; clear hb hbox hg) | ((with_reducible refine gate_dst (N := 3) rfl ?_); refine boxE (cs := #[.int .i64 a1_0, .int .i64 a1_1, .slice A1_2 l1_2.length c1_2, .int .i64 a1_3, .int .i64 a1_4, .int .i64 a1_5, .int .i64 a1_6, .int .i64 a1_7]) (t := 35) ?_; intro gb444 hg w59 hbox hb; refine E7 (bB BK443.1 hb) (bS HB.1 hb) (hbox) (gX HB.1 hg) (gX HB.1 hg) (nB BK443.1 hg) (nC BK443.1 hg) ?_; clear BK443 HB; intro BK443 HB BK444 GW444 GE444 NB443_444 NB444_443; clear hb hbox hg; have hnb60 := NB443_444.1; have hnc60 := NB444_443.1; obtain ⟨hcz61_0, hcz61_1, hcz61_2, hcz61_3, hcz61_4, hcz61_5, hcz61_6, hcz61_7, hfz61_0, hfz61_1, hfz61_2, hfz61_3, hfz61_4, hfz61_5, hfz61_6, hfz61_7⟩ := cz8 BK443.1; obtain ⟨hcz62_0, hcz62_1, hcz62_2, hcz62_3, hcz62_4, hcz62_5, hcz62_6, hcz62_7, hfz62_0, hfz62_1, hfz62_2, hfz62_3, hfz62_4, hfz62_5, hfz62_6, hfz62_7⟩ := cz8 BK444.1) | ((with_reducible refine gate_callee (f := 34) rfl ?_); refine goesM (N := (some 9)) #[.agg #[.int .i64 a0_0, .int .i64 a0_1, .slice A0_2 l0_2.length c0_2], .agg #[.int .i64 a1_0, .int .i64 a1_1, .slice A1_2 l1_2.length c1_2]] Try.func34 ?_; (with_reducible refine (laws_eqBoard.calls k a0_0 a0_1 _ _ l0_2 a1_0 a1_1 _ _ l1_2 false _ ?side1 ?side2 ?side3 ?side4 A3.1).mono ?_); (case side1 => exact CB (C_below HR0_2.1 HB.1)); (case side2 => exact HC0_2.1); (case side3 => exact CB (C_below HR1_2.1 HB.1)); (case side4 => exact HC1_2.1); rintro e w63 ⟨rfl, hb⟩; refine ⟨_, rfl, ?_⟩; refine E3 (bB BK443.1 hb) (bB BK444.1 hb) (bS HB.1 hb) ?_; clear BK443 BK444 HB; intro BK443 BK444 HB; (try clear hb)))
 go_ret
 exact ⟨RF, BL HB.1⟩

end Go.Proofs.Ythnehlphifegaaa.P
