--MINI
/- A marble that falls: the program's way and the reference's are one; what it leaves is a valid board with the same kinds of cells. -/
import Derived.Test.YtbpfdbjnnlmdjaaLike
import Derived.Test.YtbpfdbjnnlmdjaaPx0
import Derived.Test.YtbpfdbjnnlmdjaaPx2
import Derived.Test.YtbpfdbjnnlmdjaaPx3
import Derived.Test.YtbpfdbjnnlmdjaaPx4
import Derived.Test.YtbpfdbjnnlmdjaaPx8
import Derived.Test.YtbpfdbjnnlmdjaaPx9
namespace Go.Proofs.Ytbpfdbjnnlmdjaa.Fall
open Go.RowKit Go.Proofs.Ytbpfdbjnnlmdjaa.P Go.Proofs.Ytbpfdbjnnlmdjaa.Base Go.Proofs.Ytbpfdbjnnlmdjaa.Board Go.Proofs.YtbpfdbjnnlmdjaaW.PrintWords Go.Proofs.YtbpfdbjnnlmdjaaW.PrintLast Go.Proofs.YtbpfdbjnnlmdjaaW.PrintMore
set_option linter.unusedVariables false
set_option linter.unusedSimpArgs false
/-- The gears of a group turn, from cell i on. -/
def tg (G : List Int) (v : Int) : Nat → Nat → List C → List C
  | 0, _, cs => cs
  | d + 1, i, cs => tg G v d (i + 1) (if (aj cs i).f0 = 6 then (if rd G i = v then vJ cs i else cs) else cs)
theorem XW (G : List Int) (v : Int) : ∀ (d i : Nat) (cs : List C), i + d ≤ cs.length → uD (tg G v d i cs) cs ∧ (Cells cs → Cells (tg G v d i cs))
  | 0, i, cs, _ => ⟨uD.refl _, fun h => h⟩
  | d + 1, i, cs, hi => by
    simp only [tg]
    by_cases h6 : (aj cs i).f0 = 6
    · by_cases hv : rd G i = v
      · rw [if_pos h6, if_pos hv]
        have hl := (wV cs i).1
        obtain ⟨a, b⟩ := XW G v d (i + 1) (vJ cs i) (by omega)
        exact ⟨a.trans (wV cs i), fun h => b (EP h (by omega) (by omega) (.inr h6))⟩
      · rw [if_pos h6, if_neg hv]; exact XW G v d (i + 1) cs (by omega)
    · rw [if_neg h6]; exact XW G v d (i + 1) cs (by omega)
theorem MO {r c : Int} {G : List Int} {a : Int} (h0 : 0 ≤ a) (h1 : a < G.length) {n : Nat} (hn : n ≤ 90) (hG : G.length = n) (d : Nat) : ∀ (i : Nat) (cs : List C), i + d = n → cs.length = n →
    Ev (fun k => bT.l0 k G a n i r c cs) (tg G (rd G a) d i cs) := by
  induction d with
  | zero =>
    intro i cs hi hc
    refine Ev.succ ?_
    simp only [bT.l0, tg]
    exact Ev.neg (by omega) (Ev.now _)
  | succ d ih =>
    intro i cs hi hc
    refine Ev.succ ?_
    simp only [bT.l0, tg, kR.f, Option.bind_some]
    refine Ev.pos (by omega) (Ev.pos (by omega) (Ev.pos (by omega) ?_))
    rw [bI (by omega)]
    refine Ev.split (fun h6 => ?_) (fun h6 => ?_)
    · refine Ev.pos (by omega) (Ev.pos (by omega) (Ev.pos (by omega) (Ev.split (fun hv => ?_) (fun hv => ?_))))
      · rw [if_pos h6, if_pos hv]; exact ih (i + 1) (vJ cs i) (by omega) (by rw [(wV cs i).1]; exact hc)
      · rw [if_pos h6, if_neg hv]; exact ih (i + 1) cs (by omega) hc
    · rw [if_neg h6]; exact ih (i + 1) cs (by omega) hc
theorem MP {r c : Int} {G : List Int} {a : Int} (h0 : 0 ≤ a) (h1 : a < G.length) {n : Nat} (hn : n ≤ 90) (hG : G.length = n) (d : Nat) : ∀ (i : Nat) (cs : List C), i + d = n → cs.length = n →
    Ev (fun k => aX.l0 k G a n i r c cs) (tg G (rd G a) d i cs) := by
  induction d with
  | zero =>
    intro i cs hi hc
    refine Ev.succ ?_
    simp only [aX.l0, tg]
    exact Ev.neg (by omega) (Ev.now _)
  | succ d ih =>
    intro i cs hi hc
    refine Ev.succ ?_
    simp only [aX.l0, tg]
    refine Ev.pos (by omega) (Ev.pos (by omega) (Ev.pos (by omega) ?_))
    rw [bI (by omega)]
    refine Ev.split (fun h6 => ?_) (fun h6 => ?_)
    · refine Ev.pos (by omega) (Ev.pos (by omega) (Ev.pos (by omega) (Ev.split (fun hv => ?_) (fun hv => ?_))))
      · rw [if_pos h6, if_pos hv]; exact ih (i + 1) (vJ cs i) (by omega) (by rw [(wV cs i).1]; exact hc)
      · rw [if_pos h6, if_neg hv]; exact ih (i + 1) cs (by omega) hc
    · rw [if_neg h6]; exact ih (i + 1) cs (by omega) hc
/-- What a marble turns in a cell. -/
def pass (G : List Int) (a : Int) (cs : List C) : List C := if (aj cs a).f0 = 3 then vJ cs a else if (aj cs a).f0 = 6 then tg G (rd G a) cs.length 0 cs else cs
theorem ahU (G : List Int) {a : Int} {cs : List C} (h0 : 0 ≤ a) (h1 : a < cs.length) (hc : Cells cs) : uD (pass G a cs) cs ∧ Cells (pass G a cs) := by
  unfold pass
  split
  · next h3 => exact ⟨wV _ _, EP hc h0 h1 (.inl h3)⟩
  · split
    · obtain ⟨x, y⟩ := XW G (rd G a) cs.length 0 cs (by omega)
      exact ⟨x, y hc⟩
    · exact ⟨uD.refl _, hc⟩
theorem aqL {r c : Int} {G : List Int} {a : Int} {cs : List C} (h0 : 0 ≤ a) (h1 : a < cs.length) (hn : cs.length ≤ 90) (hG : G.length = cs.length) : Ev (fun k => bT.f k r c cs G a) (pass G a cs) := by
  unfold bT.f pass
  simp only [kR.f, Option.bind_some]
  refine Ev.pos h0 (Ev.pos h1 (Ev.split (fun h3 => ?_) (fun h3 => Ev.split (fun h6 => ?_) (fun h6 => ?_))))
  · rw [if_pos h3]; exact Ev.now _
  · rw [if_neg h3, if_pos h6]; exact MO h0 (by omega) hn hG cs.length 0 cs (by omega) rfl
  · rw [if_neg h3, if_neg h6]; exact Ev.now _
def goes (x : C) (side : Int) : Int := if x.f0 = 1 then -1 else if x.f0 = 2 then 1 else if x.f0 = 3 ∨ x.f0 = 6 then 2 * x.f1 - 1 else if x.f0 = 4 then -side else 0
theorem ahV {x : C} (h : Cell x) {side : Int} (h0 : -1 ≤ side) (h1 : side ≤ 1) : -1 ≤ goes x side ∧ goes x side ≤ 1 := by
  unfold goes
  unfold Cell at h
  repeat' split
  all_goals omega
theorem aqM {x : C} (h : Cell x) {side : Int} (h0 : -1 ≤ side) (h1 : side ≤ 1) : Ev (fun k => fo.f k x.f0 x.f1 side) (goes x side) := by
  unfold fo.f goes
  unfold Cell at h
  have e1 : wrap64 (wrap64 (2 * x.f1) - 1) = 2 * x.f1 - 1 := by rw [gH (x := 2 * x.f1) (by omega) (by omega)]; exact gH (by omega) (by omega)
  have e2 : wrap64 (-side) = -side := gH (by omega) (by omega)
  refine Ev.split (fun k1 => ?_) (fun k1 => Ev.split (fun k2 => ?_) (fun k2 => Ev.split (fun k3 => ?_) (fun k3 => ?_)))
  · rw [if_pos k1]; exact Ev.now _
  · rw [if_neg k1, if_pos k2]; exact Ev.now _
  · rw [if_neg k1, if_neg k2, if_pos (.inl k3)]
    refine Ev.succ ?_
    simp only [fo.j0, e1]
    exact Ev.pos (by simp [k3]) (Ev.now _)
  · rw [if_neg k1, if_neg k2]
    refine Ev.succ ?_
    simp only [fo.j0, e1, e2]
    by_cases k6 : x.f0 = 6
    · exact Ev.pos (by simp [k6]) (Ev.val (Ev.now _) (by rw [if_pos (.inr k6)]))
    · exact Ev.neg (by simp [k6]) (Ev.split (fun k4 => Ev.val (Ev.now _) (by rw [if_neg (by omega), if_pos k4])) (fun k4 => Ev.val (Ev.now _) (by rw [if_neg (by omega), if_neg k4])))
theorem ad3 {x : C} (h : Cell x) {side : Int} (h0 : -1 ≤ side) (h1 : side ≤ 1) : Ev (fun k => bY.f k x.f0 x.f1 side) (if x.f0 = 5 then (0, false) else (goes x side, true)) := by
  unfold bY.f goes
  rw [adN, decide_eq_true h]
  simp only [Option.bind_some, if_true]
  unfold Cell at h
  have e1 : wrap64 (wrap64 (2 * x.f1) - 1) = 2 * x.f1 - 1 := by rw [gH (x := 2 * x.f1) (by omega) (by omega)]; exact gH (by omega) (by omega)
  have e2 : wrap64 (-side) = -side := gH (by omega) (by omega)
  refine Ev.neg (by omega) (Ev.neg (by omega) (Ev.succ ?_))
  simp only [bY.j0]
  by_cases k5 : x.f0 = 5
  · rw [if_pos k5]; exact Ev.pos (by simp [k5]) (Ev.now _)
  rw [if_neg k5]
  refine Ev.neg (by simp [k5]) (Ev.split (fun k1 => ?_) (fun k1 => Ev.split (fun k2 => ?_) (fun k2 => Ev.split (fun k3 => ?_) (fun k3 => ?_))))
  · rw [if_pos k1]; exact Ev.now _
  · rw [if_neg k1, if_pos k2]; exact Ev.now _
  · rw [if_neg k1, if_neg k2, if_pos (.inl k3)]
    refine Ev.succ ?_
    simp only [bY.j1, e1]
    exact Ev.pos (by simp [k3]) (Ev.now _)
  · rw [if_neg k1, if_neg k2]
    refine Ev.succ ?_
    simp only [bY.j1, e1, e2]
    by_cases k6 : x.f0 = 6
    · exact Ev.pos (by simp [k6]) (Ev.val (Ev.now _) (by rw [if_pos (.inr k6)]))
    · exact Ev.neg (by simp [k6]) (Ev.split (fun k4 => Ev.val (Ev.now _) (by rw [if_neg (by omega), if_pos k4])) (fun k4 => Ev.val (Ev.now _) (by rw [if_neg (by omega), if_neg k4])))
theorem index {r c row col : Int} (h : 1 ≤ r ∧ r ≤ 10 ∧ 1 ≤ c ∧ c ≤ 9) (h0 : 0 ≤ row) (h1 : row < r) (h2 : 0 ≤ col) (h3 : col < c) : 0 ≤ row * c + col ∧ row * c + col < r * c ∧ wrap64 (wrap64 (row * c) + col) = row * c + col := by
  have a1 : 0 ≤ row * c := Int.mul_nonneg h0 (by omega)
  have a2 : (row + 1) * c ≤ r * c := Int.mul_le_mul_of_nonneg_right (by omega) (by omega)
  rw [Int.add_mul] at a2
  have a3 := Zr h
  have e : wrap64 (row * c) = row * c := gH (by omega) (by omega)
  refine ⟨by omega, by omega, ?_⟩
  rw [e]
  exact gH (by omega) (by omega)
theorem ay3 (a b c : Int) : iw.f a b c = some (decide (b ≤ a ∧ a ≤ c)) := by
  unfold iw.f
  by_cases h : a ≥ b <;> simp [h]
/-- The fall from a row on. -/
theorem ZE {r c : Int} (h : 1 ≤ r ∧ r ≤ 10 ∧ 1 ≤ c ∧ c ≤ 9) {cs0 b0 : List C} (hl : (cs0.length : Int) = r * c) {G : List Int} (hG : G.length = cs0.length) (d : Nat) :
    ∀ (row : Nat) (col side : Int) (way : List Int) (way' : List (List Int)) (cs : List C), (row : Int) + d = r → 0 ≤ col → col < c → -1 ≤ side → side ≤ 1 → way.length ≤ row → way'.length ≤ row → uD cs cs0 → Cells cs →
    ∃ (e rw cl : Int) (R : List C) (W : List Int) (W' : List (List Int)), Ev (fun k => bJ.l0 k G col way' side row r c b0 r c cs) (e, rw, cl, r, c, R, W') ∧ Ev (fun k => cZ.l0 k G col way side row r c cs) (e, rw, cl, W, R) ∧
      uD R cs0 ∧ Cells R ∧ 1 ≤ e ∧ e ≤ 3 ∧ 0 ≤ rw ∧ rw ≤ 10 ∧ -1 ≤ cl ∧ cl ≤ 9 ∧ (e = 1 → 0 ≤ cl ∧ cl < c) ∧ W.length ≤ 10 ∧ W'.length ≤ 10 := by
  have ha := Zr h
  induction d with
  | zero =>
    intro row col side way way' cs hd h0 h1 hs0 hs1 hw hw' hL hC
    refine ⟨1, r, col, cs, way, way', Ev.succ ?_, Ev.succ ?_, hL, hC, by omega, by omega, by omega, by omega, by omega, by omega, fun _ => ⟨h0, h1⟩, by omega, by omega⟩
    · simp only [bJ.l0]; exact Ev.neg (by omega) (Ev.now _)
    · simp only [cZ.l0]; exact Ev.neg (by omega) (Ev.now _)
  | succ d ih =>
    intro row col side way way' cs hd h0 h1 hs0 hs1 hw hw' hL hC
    obtain ⟨i0, i1, ie⟩ := index h (show (0 : Int) ≤ (row : Int) by omega) (show (row : Int) < r by omega) h0 h1
    have hlen : (cs.length : Int) = r * c := by rw [hL.1]; exact hl
    have hx := Ou hC i0 (by omega)
    have hgo := ahV hx hs0 hs1
    have hp := ahU G i0 (by omega) hC
    generalize hx0 : aj cs ((row : Int) * c + col) = x at hx hgo
    have atS : pX.f r c cs row col = some (x.f0, x.f1) := by
      unfold pX.f
      rw [ie, if_pos i0, if_pos (by omega), hx0]
    by_cases k5 : x.f0 = 5
    · refine ⟨2, row, col, cs, way ++ [(row : Int) * c + col], way' ++ [[(row : Int), col]], Ev.succ ?_, Ev.succ ?_, hL, hC, by omega, by omega, by omega, by omega, by omega, by omega, fun e => absurd e (by omega), by simp; omega, by simp; omega⟩
      · simp only [bJ.l0, Option.bind_some]
        refine Ev.pos (by omega) (Ev.pos (by omega) ?_)
        rw [atS]
        simp only [Option.bind_some]
        exact Ev.pos k5 (Ev.now _)
      · simp only [cZ.l0, Option.bind_some, ie, hx0]
        refine Ev.pos (by omega) (Ev.pos (by omega) (Ev.pos i0 (Ev.pos (by omega) (Ev.bind (ad3 hx hs0 hs1) ?_))))
        rw [if_pos k5]
        exact Ev.neg (by simp) (Ev.now _)
    · have e1 : wrap64 (col + goes x side) = col + goes x side := gH (by omega) (by omega)
      have e2 : wrap64 (c - 1) = c - 1 := gH (by omega) (by omega)
      have e3 : wrap64 (-(goes x side)) = -(goes x side) := gH (by omega) (by omega)
      have specN : ∀ {res : Int × Int × Int × Int × Int × List C × List (List Int)}, Ev (fun k => if decide (0 ≤ col + goes x side ∧ col + goes x side ≤ c - 1) = true then bJ.l0 k G (col + goes x side) (way' ++ [[(row : Int), col]]) (-(goes x side)) ((row + 1 : Nat) : Int) r c b0 r c (pass G ((row : Int) * c + col) cs) else some (3, (row : Int), col + goes x side, r, c, pass G ((row : Int) * c + col) cs, way' ++ [[(row : Int), col]])) res →
          Ev (fun k => bJ.l0 k G col way' side row r c b0 r c cs) res := by
        intro res hres
        refine Ev.succ ?_
        simp only [bJ.l0, Option.bind_some]
        refine Ev.pos (by omega) (Ev.pos (by omega) ?_)
        rw [atS]
        simp only [Option.bind_some]
        refine Ev.neg k5 (Ev.bind (aqM hx hs0 hs1) ?_)
        rw [ie]
        refine Ev.bind (aqL i0 (by omega) (by omega) (by rw [hG, ← hL.1])) ?_
        rw [e1, e2, e3, ay3, bI (by omega)]
        simp only [Option.bind_some]
        exact hres
      have implN : ∀ {res : Int × Int × Int × List Int × List C}, Ev (fun k => if col + goes x side < 0 then some (3, (row : Int), col + goes x side, way ++ [(row : Int) * c + col], pass G ((row : Int) * c + col) cs) else if col + goes x side ≥ c then some (3, (row : Int), col + goes x side, way ++ [(row : Int) * c + col], pass G ((row : Int) * c + col) cs) else cZ.l0 k G (col + goes x side) (way ++ [(row : Int) * c + col]) (-(goes x side)) ((row + 1 : Nat) : Int) r c (pass G ((row : Int) * c + col) cs)) res →
          Ev (fun k => cZ.l0 k G col way side row r c cs) res := by
        intro res hres
        refine Ev.succ ?_
        simp only [cZ.l0, Option.bind_some, ie]
        refine Ev.pos (by omega) (Ev.pos (by omega) (Ev.pos i0 (Ev.pos (by omega) ?_)))
        refine Ev.bind (by rw [hx0]; exact ad3 hx hs0 hs1) ?_
        rw [if_neg k5]
        refine Ev.pos rfl ?_
        have hpd : pass G ((row : Int) * c + col) cs = if x.f0 = 3 then vJ cs ((row : Int) * c + col) else if x.f0 = 6 then tg G (rd G ((row : Int) * c + col)) cs.length 0 cs else cs := by unfold pass; rw [hx0]
        refine Ev.split (fun k3 => Ev.succ ?_) (fun k3 => Ev.succ ?_)
        · rw [hx0] at k3
          simp only [cZ.j1, hx0]
          refine Ev.neg (by omega) ?_
          rw [e1, e3, bI (by omega)]
          rw [hpd, if_pos k3] at hres
          unfold vJ at hres
          rw [hx0] at hres
          exact hres
        · rw [hx0] at k3
          simp only [cZ.j1, hx0]
          rw [hpd, if_neg k3] at hres
          refine Ev.split (fun k6 => ?_) (fun k6 => ?_)
          · rw [if_pos k6] at hres
            refine Ev.bind (a := tg G (rd G ((row : Int) * c + col)) cs.length 0 cs) ?_ ?_
            · unfold aX.f
              exact MP i0 (by omega) (show cs.length ≤ 90 by omega) (by rw [hG, ← hL.1]) cs.length 0 cs (by omega) rfl
            · rw [e1, e3, bI (by omega)]; exact hres
          · rw [if_neg k6] at hres
            rw [e1, e3, bI (by omega)]; exact hres
      by_cases hin : 0 ≤ col + goes x side ∧ col + goes x side < c
      · obtain ⟨e, rw', cl, R, W, W', q1, q2, q3⟩ := ih (row + 1) (col + goes x side) (-(goes x side)) (way ++ [(row : Int) * c + col]) (way' ++ [[(row : Int), col]]) (pass G ((row : Int) * c + col) cs) (by omega) hin.1 hin.2 (by omega) (by omega) (by simp; omega) (by simp; omega) (hp.1.trans hL) hp.2
        refine ⟨e, rw', cl, R, W, W', specN (Ev.pos (by rw [decide_eq_true_eq]; omega) q1), implN (Ev.neg (by omega) (Ev.neg (by omega) q2)), q3⟩
      · refine ⟨3, row, col + goes x side, pass G ((row : Int) * c + col) cs, way ++ [(row : Int) * c + col], way' ++ [[(row : Int), col]], specN (Ev.neg (by rw [decide_eq_true_eq]; omega) (Ev.now _)), implN ?_, hp.1.trans hL, hp.2, by omega, by omega, by omega, by omega, by omega, by omega, fun e => absurd e (by omega), by simp; omega, by simp; omega⟩
        refine Ev.split (fun _ => Ev.now _) (fun _ => Ev.split (fun _ => Ev.now _) (fun _ => absurd (And.intro (by omega) (by omega)) hin))
/-- A marble's fall, and the board that it leaves. -/
theorem fall {r c col : Int} {cs : List C} (h : Board.Good r c cs) (h0 : 0 ≤ col) (h1 : col < c) {G : List Int} (hG : G.length = cs.length) (b0 : List C) :
    ∃ (e rw cl : Int) (R : List C) (W : List Int) (W' : List (List Int)), Ev (fun k => bJ.l0 k G col [] 0 0 r c b0 r c cs) (e, rw, cl, r, c, R, W') ∧ Ev (fun k => cZ.f k r c cs G col) (e, rw, cl, W, R) ∧
      uD R cs ∧ Board.Good r c R ∧ 1 ≤ e ∧ e ≤ 3 ∧ 0 ≤ rw ∧ rw ≤ 10 ∧ -1 ≤ cl ∧ cl ≤ 9 ∧ (e = 1 → 0 ≤ cl ∧ cl < c) ∧ W.length ≤ 10 ∧ W'.length ≤ 10 := by
  obtain ⟨⟨a1, a2, a3, a4, a5⟩, hC⟩ := h
  obtain ⟨n, rfl⟩ := Int.eq_ofNat_of_zero_le (show 0 ≤ r by omega)
  obtain ⟨e, rw', cl, R, W, W', q1, q2, q3, q4, q5⟩ := ZE ⟨a1, a2, a3, a4⟩ (b0 := b0) a5 hG n 0 col 0 [] [] cs (by omega) h0 h1 (by omega) (by omega) (by simp) (by simp) (uD.refl _) hC
  refine ⟨e, rw', cl, R, W, W', q1, ?_, q3, ⟨⟨a1, a2, a3, a4, by rw [q3.1]; exact a5⟩, q4⟩, q5⟩
  unfold cZ.f
  exact q2
end Go.Proofs.Ytbpfdbjnnlmdjaa.Fall
