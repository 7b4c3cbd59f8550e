--MINI
/- The state behind a marble: the reference's number and the program's table are one. -/
import Derived.Test.YtbpfdbjnnlmdjaaInState
import Derived.Test.YtbpfdbjnnlmdjaaBitNum
import Derived.Test.YtbpfdbjnnlmdjaaFall
import Derived.Test.YtbpfdbjnnlmdjaaSameU
import Derived.Test.YtbpfdbjnnlmdjaaPx2
import Derived.Test.YtbpfdbjnnlmdjaaPx3
import Derived.Test.YtbpfdbjnnlmdjaaPx4
import Derived.Test.YtbpfdbjnnlmdjaaPx5
import Derived.Test.YtbpfdbjnnlmdjaaPx6
import Derived.Test.YtbpfdbjnnlmdjaaPx7
import Derived.Test.YtbpfdbjnnlmdjaaPx8
import Derived.Test.YtbpfdbjnnlmdjaaPx9
namespace Go.Proofs.Ytbpfdbjnnlmdjaa.Units
open Go.RowKit Go.Proofs.Ytbpfdbjnnlmdjaa.P Go.Proofs.Ytbpfdbjnnlmdjaa.Base Go.Proofs.Ytbpfdbjnnlmdjaa.Board Go.Proofs.Ytbpfdbjnnlmdjaa.Groups Go.Proofs.YtbpfdbjnnlmdjaaW.PrintWords Go.Proofs.YtbpfdbjnnlmdjaaW.PrintLast Go.Proofs.YtbpfdbjnnlmdjaaW.PrintMore
set_option linter.unusedVariables false
set_option linter.unusedSimpArgs false
theorem XU {i : Nat} (hi : i ≤ 16) : shl .i64 1 (i : Int) = ((2 ^ i : Nat) : Int) := by
  have := Sv hi
  unfold shl
  rw [show min (Int.toNat (i : Int)) IntKind.i64.bits = i by simp [IntKind.bits]; omega, Int.one_mul, cz, gH (by omega) (by omega)]
  simp
theorem DD {i : Nat} (hi : i ≤ 16) : 1 ≤ 2 ^ i ∧ 2 ^ i ≤ 65536 := ⟨Nat.one_le_two_pow, Nat.le_trans (Nat.pow_le_pow_right (by decide) hi) (by decide)⟩
theorem Su (i : Nat) : ((2 ^ i : Nat) : Int) = 2 ^ i := by simp
theorem Us.like {a b : List C} {n : Nat} {U : List (List Int)} (hU : Us b n U) (h : uD a b) : Us a n U :=
  ⟨hU.some, hU.small, fun k hk x hx => by
    obtain ⟨j, hj, e, hi, kd⟩ := hU.at_ k hk x hx
    have h2 := h.2 (j : Int)
    rw [jI (by rw [h.1]; exact hj), jI hj] at h2
    exact ⟨j, by rw [h.1]; exact hj, e, hi, by rw [h2]; exact kd⟩, hU.own, hU.few⟩
/-- A marble in a column, in the state with a number: the number of the state behind it, its end. -/
structure Step (r c : Int) (cs : List C) (U : List (List Int)) (G : List Int) (n col N e : Int) : Prop where
  spec : ∃ rw cl, Ev (fun k => iE.f k r c cs n col) (N, e, rw, cl)
  impl : ∃ (R0 R : List C) (W : List Int) (rw cl : Int), Ev (fun k => aM.f k r c cs U (yA n U.length)) R0 ∧ Ev (fun k => cZ.f k r c R0 G col) (e, rw, cl, W, R) ∧ R0.length = cs.length ∧ uD R cs ∧ Ev (fun k => bC.f k (U.map (nE R))) N
  lo : 0 ≤ N
  hi : N < ((2 ^ U.length : Nat) : Int)
  elo : 1 ≤ e
  ehi : e ≤ 3
theorem next {r c : Int} {cs : List C} (h : Board.Good r c cs) {U : List (List Int)} (hU : Us cs cs.length U) (u1 : Ev (fun k => aD.f k r c cs) U) (h16 : U.length ≤ 16) {G : List Int} (g1 : Ev (fun k => ax.f k r c cs) G) (hG : G.length = cs.length)
    (n col : Int) (h0 : 0 ≤ col) (h1 : col < c) : ∃ N e, Step r c cs U G n col N e := by
  obtain ⟨R0, i1, i2, hl0, hL0, hg0⟩ := ahN h hU u1 n
  obtain ⟨e, rw', cl, R, W, W', f1, f2, hLR, hgR, e1, e2, _⟩ := Fall.fall hg0 h0 h1 (G := G) (by rw [hG, hl0]) R0
  have hL : uD R cs := hLR.trans hL0
  obtain ⟨U', hU', v1, _, b1, _, b01⟩ := adT hgR
  have eU : U' = U := by rw [U8 hL] at v1; exact det v1 u1
  subst eU
  have hB : (U'.map (nE R)).length ≤ 16 := by simpa using h16
  have hv := zL (U'.map (nE R)) b01 _ (Nat.le_refl _)
  have hl := h.len
  refine ⟨value (U'.map (nE R)) (U'.map (nE R)).length, e, ⟨rw', cl, ?_⟩, ⟨R0, R, W, rw', cl, i2, f2, hl0, hL, ?_⟩, hv.1, ?_, e1, e2⟩
  · unfold iE.f
    refine Ev.bind i1 (Ev.bind (a := (e, rw', cl, r, c, R)) ?_ (Ev.bind (a := value (U'.map (nE R)) (U'.map (nE R)).length) ?_ (Ev.now _)))
    · unfold iU.f
      refine Ev.bind (a := G) (by rw [IY hL0]; exact g1) (Ev.bind (a := (e, rw', cl, r, c, R, W')) ?_ (Ev.now _))
      unfold bJ.f
      rw [al8 (by show R0.length ≤ _; omega)]
      simp only [Option.bind_some]
      exact f1
    · unfold bR.f
      exact Ev.bind b1 (Bv hB b01 (U'.map (nE R)).length 0 (by omega))
  · unfold bC.f
    exact Bw hB b01 (U'.map (nE R)).length 0 (by omega)
  · have := hv.2
    rw [List.length_map] at this ⊢
    rw [Su]; exact this
theorem nexts {r c : Int} {cs : List C} (h : Board.Good r c cs) {U : List (List Int)} (hU : Us cs cs.length U) (u1 : Ev (fun k => aD.f k r c cs) U) (h16 : U.length ≤ 16) {G : List Int} (g1 : Ev (fun k => ax.f k r c cs) G) (hG : G.length = cs.length) :
    ∃ NX EX : Int → Int → Int, ∀ n col, 0 ≤ col → col < c → Step r c cs U G n col (NX n col) (EX n col) := by
  have hp : ∀ p : Int × Int, ∃ q : Int × Int, 0 ≤ p.2 → p.2 < c → Step r c cs U G p.1 p.2 q.1 q.2 := fun p => by
    by_cases hp : 0 ≤ p.2 ∧ p.2 < c
    · obtain ⟨N, e, s⟩ := next h hU u1 h16 g1 hG p.1 p.2 hp.1 hp.2
      exact ⟨(N, e), fun _ _ => s⟩
    · exact ⟨(0, 0), fun a b => absurd ⟨a, b⟩ hp⟩
  obtain ⟨f, hf⟩ := Classical.skolem.1 hp
  exact ⟨fun n col => (f (n, col)).1, fun n col => (f (n, col)).2, fun n col a b => hf (n, col) a b⟩
/-- The numbers behind all states, for a column. -/
def Bu (NX : Int → Int → Int) (m : Nat) (col : Int) : List Int := (List.range (2 ^ m)).map fun (n : Nat) => NX n col
theorem Hq (NX : Int → Int → Int) (m : Nat) (col : Int) : (Bu NX m col).length = 2 ^ m := by simp [Bu]
theorem ahM (NX : Int → Int → Int) (m : Nat) (col : Int) {n : Nat} (hn : n < 2 ^ m) : rd (Bu NX m col) (n : Int) = NX n col := by
  rw [lh (by rw [Hq]; exact hn)]; simp [Bu]
theorem IB {α : Type} {a b : List α} {i : Nat} (ha : i < a.length) (hb : i < b.length) (h : a.take i = b.take i) (he : a[i] = b[i]) : a.take (i + 1) = b.take (i + 1) := by
  rw [List.take_succ_eq_append_getElem ha, List.take_succ_eq_append_getElem hb, h, he]
theorem ahO {r c : Int} {cs R : List C} {U out : List (List Int)} (hU : Us R R.length U) (hR : R.length ≤ 90) {G cols : List Int} {x8 x9 j6 Mh Hu x39 x40 : Int} {res : List (List Int)}
    (K : Ev (fun k => if 0 ≤ x8 then (if x8 < (out.length : Int) then ((bC.f k (U.map (nE R))).bind fun t => (if 0 ≤ j6 then (if j6 < ((aT out x8).length : Int) then (az.l1 k U G (out.set (x8 : Int).toNat ((aT out x8).set (j6 : Int).toNat t)) x8 x9 cols Mh Hu x39 (wrap64 (x40 + 1)) r c cs) else (none)) else (none))) else (none)) else (none)) res) (d : Nat) :
    ∀ (i : Nat) (pz : List Int), i + d = U.length → pz.length = U.length → pz.take i = (U.map (nE R)).take i → Ev (fun k => az.l2 k U G out x8 x9 j6 pz cols Mh Hu x39 x40 U.length i r c cs r c R) res := by
  have hf := hU.few
  induction d with
  | zero =>
    intro i pz hi hx ht
    have e : pz = U.map (nE R) := by
      rw [List.take_of_length_le (by omega), List.take_of_length_le (by simp; omega)] at ht
      exact ht
    refine Ev.succ ?_
    simp only [az.l2]
    refine Ev.neg (by omega) ?_
    rw [e]; exact K
  | succ d ih =>
    intro i pz hi hx ht
    have hk : i < U.length := by omega
    have h0 := hU.some i hk
    obtain ⟨j, hj, e, _, _, _⟩ := hU.first hk
    refine Ev.succ ?_
    simp only [az.l2]
    refine Ev.pos (by omega) (Ev.pos (by omega) (Ev.pos (by omega) ?_))
    rw [oz hk]
    refine Ev.pos (by omega) (Ev.pos (by omega) (Ev.pos (by omega) (Ev.pos (by omega) ?_)))
    rw [bI (by omega), Int.toNat_natCast]
    refine ih (i + 1) _ (by omega) (by simpa using hx) (IB (by simp; omega) (by simp; omega) (by rw [List.take_set_of_le (Nat.le_refl _)]; exact ht) ?_)
    simp [nE]
theorem aqH {r c : Int} {cs : List C} (h : Board.Good r c cs) {U : List (List Int)} (hU : Us cs cs.length U) (h16 : U.length ≤ 16) {G : List Int} {NX EX : Int → Int → Int} {col : Int} (hN : ∀ n, Step r c cs U G n col (NX n col) (EX n col)) {cols : List Int} {T : List (List Int)} {i : Nat} {res : List (List Int)}
    (K : ∀ out : List (List Int), out.length = cols.length → out.take i = T.take i → (hi : i < out.length) → out[i] = Bu NX U.length col → Ev (fun k => az.l0 k U G out cols cols.length (wrap64 ((i : Int) + 1)) r c cs) res) (hi : i < cols.length) (d : Nat) :
    ∀ (n : Nat) (out : List (List Int)), n + d = 2 ^ U.length → out.length = cols.length → (hi : i < out.length) → out.take i = T.take i → out[i].length = 2 ^ U.length → out[i].take n = (Bu NX U.length col).take n →
      Ev (fun k => az.l1 k U G out i col cols cols.length i ((2 ^ U.length : Nat) : Int) n r c cs) res := by
  have hp := DD h16
  have hl := h.len
  have hf := hU.few
  induction d with
  | zero =>
    intro n out hn ho hi ht hM hr
    refine Ev.succ ?_
    simp only [az.l1]
    refine Ev.neg (by omega) (K out ho ht hi ?_)
    rw [List.take_of_length_le (by omega), List.take_of_length_le (by rw [Hq]; omega)] at hr
    exact hr
  | succ d ih =>
    intro n out hn ho hi ht hM hr
    obtain ⟨R0, R, W, rw', cl, s1, s2, hl0, hLR, s3⟩ := (hN n).impl
    have hlR := hLR.1
    have hUR : Us R R.length U := by rw [hlR]; exact hU.like hLR
    refine Ev.succ ?_
    simp only [az.l1]
    refine Ev.pos (by omega) ?_
    rw [NK (by omega)]
    simp only [Option.bind_some]
    refine Ev.bind (XT (by omega)) (Ev.bind s1 (Ev.bind s2 (Ev.pos (by omega) (Ev.pos (by omega) ?_))))
    rw [Int.toNat_natCast]
    refine ahO hUR (by omega) ?_ U.length 0 _ (by omega) (by simp) rfl
    refine Ev.pos (by omega) (Ev.pos (by omega) (Ev.bind s3 ?_))
    rw [oz hi, Int.toNat_natCast, Int.toNat_natCast]
    refine Ev.pos (by omega) (Ev.pos (by omega) ?_)
    rw [bI (by omega)]
    refine ih (n + 1) _ (by omega) (by simpa using ho) (by simpa using hi) (by rw [List.take_set_of_le (Nat.le_refl _)]; exact ht) (by simpa using hM) ?_
    rw [List.getElem_set_self]
    refine IB (by simp; omega) (by rw [Hq]; omega) (by rw [List.take_set_of_le (Nat.le_refl _)]; exact hr) ?_
    simp [Bu]
theorem ahP {r c : Int} {cs : List C} (h : Board.Good r c cs) {U : List (List Int)} (hU : Us cs cs.length U) (h16 : U.length ≤ 16) {G : List Int} {NX EX : Int → Int → Int} (hN : ∀ n col, 0 ≤ col → col < c → Step r c cs U G n col (NX n col) (EX n col)) {cols : List Int} (hb : cols.length ≤ 1048576) (hc : ∀ x ∈ cols, 0 ≤ x ∧ x < c) (d : Nat) :
    ∀ (i : Nat) (out : List (List Int)), i + d = cols.length → out.length = cols.length → out.take i = (cols.map (Bu NX U.length)).take i → Ev (fun k => az.l0 k U G out cols cols.length i r c cs) (cols.map (Bu NX U.length)) := by
  have hp := DD h16
  induction d with
  | zero =>
    intro i out hi ho ht
    refine Ev.succ ?_
    simp only [az.l0]
    refine Ev.neg (by omega) (Ev.val (Ev.now _) ?_)
    rw [List.take_of_length_le (by omega), List.take_of_length_le (by simp; omega)] at ht
    exact ht
  | succ d ih =>
    intro i out hi ho ht
    have hx := hc cols[i] (List.getElem_mem (by omega))
    refine Ev.succ ?_
    simp only [az.l0, Option.bind_some]
    rw [XU h16]
    refine Ev.pos (by omega) (Ev.pos (by omega) (Ev.pos (by omega) (Ev.pos (by omega) (Ev.pos (by omega) (Ev.pos (by omega) ?_)))))
    rw [Int.toNat_natCast, Int.toNat_natCast, lh (by omega), oz (by simp; omega), List.getElem_set_self, List.length_replicate]
    refine aqH h hU h16 (fun n => hN n cols[i] hx.1 hx.2) (T := cols.map (Bu NX U.length)) (fun out' ho' ht' hi' he => ?_) (by omega) (2 ^ U.length) 0 _ (by omega) (by simpa using ho) (by simp; omega) (by rw [List.take_set_of_le (Nat.le_refl _)]; exact ht) (by rw [List.getElem_set_self]; simp) rfl
    rw [bI (by omega)]
    exact ih (i + 1) out' (by omega) ho' (IB hi' (by simp; omega) ht' (by rw [he]; simp))
/-- The program's table of all states and columns. -/
theorem Qc {r c : Int} {cs : List C} (h : Board.Good r c cs) {U : List (List Int)} (hU : Us cs cs.length U) (u2 : Ev (fun k => bn.f k r c cs) U) (h16 : U.length ≤ 16) {G : List Int} (g2 : Ev (fun k => av.f k r c cs) G) {NX EX : Int → Int → Int} (hN : ∀ n col, 0 ≤ col → col < c → Step r c cs U G n col (NX n col) (EX n col)) {cols : List Int} (hb : cols.length ≤ 1048576) (hc : ∀ x ∈ cols, 0 ≤ x ∧ x < c) :
    Ev (fun k => az.f k r c cs cols) (cols.map (Bu NX U.length)) := by
  unfold az.f
  refine Ev.bind u2 (Ev.bind g2 ?_)
  unfold az.g
  refine Ev.pos (by omega) (Ev.pos (by omega) ?_)
  exact ahP h hU h16 hN hb hc cols.length 0 _ (by omega) (by simp) (by simp)
end Go.Proofs.Ytbpfdbjnnlmdjaa.Units
