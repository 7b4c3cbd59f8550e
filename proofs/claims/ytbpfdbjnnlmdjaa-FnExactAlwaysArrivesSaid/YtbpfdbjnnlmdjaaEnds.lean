--MINI
/- The ends that marbles have in reached states: the reference's list and the program's marks tell the same. -/
import Derived.Test.YtbpfdbjnnlmdjaaReach
import Derived.Test.YtbpfdbjnnlmdjaaPut
import Derived.Test.YtbpfdbjnnlmdjaaPx4
import Derived.Test.YtbpfdbjnnlmdjaaPx6
namespace Go.Proofs.Ytbpfdbjnnlmdjaa.Ends
open Go.RowKit Go.Proofs.Ytbpfdbjnnlmdjaa.P Go.Proofs.Ytbpfdbjnnlmdjaa.Base Go.Proofs.Ytbpfdbjnnlmdjaa.Board Go.Proofs.Ytbpfdbjnnlmdjaa.Units Go.Proofs.Ytbpfdbjnnlmdjaa.Reach Go.Proofs.Ytbpfdbjnnlmdjaa.Put Go.Proofs.YtbpfdbjnnlmdjaaW.PrintWords Go.Proofs.YtbpfdbjnnlmdjaaW.PrintLast Go.Proofs.YtbpfdbjnnlmdjaaW.PrintMore
set_option linter.unusedVariables false
set_option linter.unusedSimpArgs false
/-- Whether a marble out of a list of columns ends so, in a state. -/
def tY (EX : Int → Int → Int) (n : Int) (cols : List Int) (j : Nat) : Bool := cols.any fun c => EX n c == (j : Int)
theorem LX {EX : Int → Int → Int} {n : Int} {cols : List Int} {i : Nat} (h : i < cols.length) (j : Nat) : tY EX n (cols.take (i + 1)) j = (tY EX n (cols.take i) j || EX n cols[i] == (j : Int)) := by
  rw [List.take_succ_eq_append_getElem h]
  simp only [tY, List.any_append, List.any_cons, List.any_nil, Bool.or_false]
theorem yz {p q : Nat → Bool} (h : ∀ j, p j = q j) (a m : Nat) : those p a m = those q a m := by
  rw [show p = q from funext h]
theorem ahH {p : Nat → Bool} {e : Int} (h1 : 1 ≤ e) (h3 : e ≤ 3) : put e (those p 1 3) = those (fun j => p j || e == (j : Int)) 1 3 := by
  obtain ⟨x, rfl⟩ := Int.eq_ofNat_of_zero_le (show 0 ≤ e by omega)
  rw [Zw p x 3 1 (by omega) (by omega)]
  apply yz
  intro j
  by_cases hj : j = x
  · subst hj; simp
  · have h' : ¬ (x : Int) = (j : Int) := by omega
    have h2 : (j == x) = false := by simpa using hj
    have h3 : (((x : Nat) : Int) == (j : Int)) = false := by simpa using h'
    rw [h2, h3]
theorem LY (p : Nat → Bool) : (those p 1 3).length ≤ 3 := by
  simp only [those, List.length_map]
  exact Nat.le_trans (List.length_filter_le _ _) (by simp)
theorem Sn {r c : Int} {cs : List C} {U : List (List Int)} {NX EX : Int → Int → Int} {G B : List Int} {N0 : Int} (hF : Few r c cs U NX EX G B N0) {cols : List Int} (hl : cols.length ≤ 1048576) (hc : ∀ x ∈ cols, 0 ≤ x ∧ x < c) {N : List Int} {k0 : Nat} {n : Int} {P : Nat → Bool} {res : List Int}
    (K : Ev (fun k => bM.l0 k cols (those (fun j => P j || tY EX n cols j) 1 3) N N.length (wrap64 ((k0 : Int) + 1)) r c cs) res) (d : Nat) : ∀ i : Nat, i + d = cols.length →
    Ev (fun k => bM.l1 k cols (those (fun j => P j || tY EX n (cols.take i) j) 1 3) n N N.length k0 cols cols.length i r c cs) res := by
  induction d with
  | zero =>
    intro i hi
    refine Ev.succ ?_
    simp only [bM.l1]
    refine Ev.neg (by omega) ?_
    rw [List.take_of_length_le (by omega)]
    exact K
  | succ d ih =>
    intro i hi
    have hci := hc cols[i] (List.getElem_mem (by omega))
    have st := hF.step n cols[i] hci.1 hci.2
    obtain ⟨rw', cl, sp⟩ := st.spec
    have := LY (fun j => P j || tY EX n (cols.take i) j)
    refine Ev.succ ?_
    simp only [bM.l1]
    refine Ev.pos (by omega) (Ev.pos (by omega) (Ev.pos (by omega) ?_))
    rw [lh (by omega)]
    refine Ev.bind sp (Ev.bind (aqF _ _ (by omega)) ?_)
    rw [bI (by omega), ahH st.elo st.ehi]
    have := ih (i + 1) (by omega)
    rw [yz (q := fun j => (P j || tY EX n (cols.take i) j) || EX n cols[i] == (j : Int)) (fun j => by rw [LX (by omega), Bool.or_assoc])] at this
    exact this
/-- Whether some of the first numbers ends so. -/
def BI (EX : Int → Int → Int) (N cols : List Int) (j : Nat) : Bool := N.any fun n => tY EX n cols j
theorem U6 {EX : Int → Int → Int} {N cols : List Int} {i : Nat} (h : i < N.length) (j : Nat) : BI EX (N.take (i + 1)) cols j = (BI EX (N.take i) cols j || tY EX N[i] cols j) := by
  rw [List.take_succ_eq_append_getElem h]
  simp only [BI, List.any_append, List.any_cons, List.any_nil, Bool.or_false]
theorem Sq {r c : Int} {cs : List C} {U : List (List Int)} {NX EX : Int → Int → Int} {G B : List Int} {N0 : Int} (hF : Few r c cs U NX EX G B N0) {cols : List Int} (hl : cols.length ≤ 1048576) (hc : ∀ x ∈ cols, 0 ≤ x ∧ x < c) {N : List Int} (hN : N.length ≤ 65536) (d : Nat) : ∀ i : Nat, i + d = N.length →
    Ev (fun k => bM.l0 k cols (those (BI EX (N.take i) cols) 1 3) N N.length i r c cs) (those (BI EX N cols) 1 3) := by
  induction d with
  | zero =>
    intro i hi
    refine Ev.succ ?_
    simp only [bM.l0]
    refine Ev.neg (by omega) (Ev.val (Ev.now _) ?_)
    rw [List.take_of_length_le (by omega)]
  | succ d ih =>
    intro i hi
    refine Ev.succ ?_
    simp only [bM.l0]
    refine Ev.pos (by omega) (Ev.pos (by omega) (Ev.pos (by omega) ?_))
    rw [lh (by omega)]
    have h := ih (i + 1) (by omega)
    rw [yz (fun j => U6 (show i < N.length by omega) j)] at h
    have := Sn hF hl hc (N := N) (k0 := i) (n := N[i]) (P := BI EX (N.take i) cols) (res := those (BI EX N cols) 1 3) (by rw [bI (by omega)]; exact h) cols.length 0 (by omega)
    simpa [tY] using this
/-! the program's marks -/
def ZN (Q : Nat → Bool) : List Bool := [Q 0, Q 1, Q 2, Q 3]
theorem ahI {Q : Nat → Bool} {e : Int} (h1 : 1 ≤ e) (h3 : e ≤ 3) : (ZN Q).set e.toNat true = ZN (fun j => Q j || e == (j : Int)) := by
  rcases (show e = 1 ∨ e = 2 ∨ e = 3 by omega) with rfl | rfl | rfl <;> simp [ZN]
theorem Zx {r c : Int} {cs : List C} {U : List (List Int)} {NX EX : Int → Int → Int} {G B : List Int} {N0 : Int} (hF : Few r c cs U NX EX G B N0) {cols : List Int} (hl : cols.length ≤ 1048576) (hc : ∀ x ∈ cols, 0 ≤ x ∧ x < c) {S : List Bool} {M : Nat} {n : Nat} {Q : Nat → Bool} {res : List Int}
    (K : Ev (fun k => bi.l0 k cols U G (ZN (fun j => Q j || tY EX n cols j)) S M (wrap64 ((n : Int) + 1)) r c cs) res) (d : Nat) : ∀ i : Nat, i + d = cols.length →
    Ev (fun k => bi.l1 k cols U G (ZN (fun j => Q j || tY EX n (cols.take i) j)) n S M n cols cols.length i r c cs) res := by
  have hlen := hF.good.len
  have hf := hF.few
  induction d with
  | zero =>
    intro i hi
    refine Ev.succ ?_
    simp only [bi.l1]
    refine Ev.neg (by omega) ?_
    rw [List.take_of_length_le (by omega)]
    exact K
  | succ d ih =>
    intro i hi
    have hci := hc cols[i] (List.getElem_mem (by omega))
    have st := hF.step n cols[i] hci.1 hci.2
    obtain ⟨R0, R, W, rw', cl, s1, s2, _⟩ := st.impl
    have e1 := st.elo
    have e3 := st.ehi
    refine Ev.succ ?_
    simp only [bi.l1]
    refine Ev.pos (by omega) (Ev.pos (by omega) (Ev.pos (by omega) ?_))
    rw [NK (by omega), lh (by omega)]
    simp only [Option.bind_some]
    refine Ev.bind (XT (by omega)) (Ev.bind s1 (Ev.bind s2 (Ev.pos (by omega) (Ev.pos (by simp [ZN]; omega) ?_))))
    rw [bI (by omega), ahI e1 e3]
    have := ih (i + 1) (by omega)
    rw [show (fun j => Q j || tY EX n (cols.take (i + 1)) j) = (fun j => (Q j || tY EX n (cols.take i) j) || EX n cols[i] == (j : Int)) from funext fun j => by rw [LX (by omega), Bool.or_assoc]] at this
    exact this
/-- Whether some marked number below n ends so. -/
def xA (EX : Int → Int → Int) (S : List Bool) (cols : List Int) (n j : Nat) : Bool := (List.range n).any fun q => S.getD q false && tY EX q cols j
theorem LZ (EX : Int → Int → Int) (S : List Bool) (cols : List Int) (n j : Nat) : xA EX S cols (n + 1) j = (xA EX S cols n j || (S.getD n false && tY EX n cols j)) := by
  simp [xA, List.range_succ]
theorem ahJ (Q : Nat → Bool) (d : Nat) : ∀ i : Nat, i + d = 3 → Ev (fun k => bi.l2 k (ZN Q) (those Q 1 i) ((i + 1 : Nat) : Int)) (those Q 1 3) := by
  have hs : ∀ m, those Q 1 (m + 1) = if Q (m + 1) then those Q 1 m ++ [((m + 1 : Nat) : Int)] else those Q 1 m := by
    intro m
    simp only [those, List.range'_concat, List.filter_append, List.map_append]
    rw [show 1 + 1 * m = m + 1 by omega]
    by_cases h : Q (m + 1) = true <;> simp [h]
  have hr : ∀ i : Nat, i < 4 → Eu false (ZN Q) ((i : Nat) : Int) = Q i := by
    intro i hi
    rcases (show i = 0 ∨ i = 1 ∨ i = 2 ∨ i = 3 by omega) with rfl | rfl | rfl | rfl <;> rfl
  induction d with
  | zero =>
    intro i hi
    obtain rfl : i = 3 := by omega
    refine Ev.succ ?_
    simp only [bi.l2]
    exact Ev.neg (by omega) (Ev.now _)
  | succ d ih =>
    intro i hi
    have h := ih (i + 1) (by omega)
    rw [hs] at h
    have hl : (those Q 1 i).length ≤ i := by
      simp only [those, List.length_map]
      exact Nat.le_trans (List.length_filter_le _ _) (by simp)
    refine Ev.succ ?_
    simp only [bi.l2]
    refine Ev.pos (by omega) (Ev.pos (by omega) (Ev.pos (by simp [ZN]; omega) ?_))
    rw [hr (i + 1) (by omega), bI (by omega)]
    refine Ev.split (fun hq => Ev.pos (by omega) ?_) (fun hq => ?_)
    · rw [if_pos hq] at h; exact h
    · rw [if_neg hq] at h; exact h
theorem Zy {r c : Int} {cs : List C} {U : List (List Int)} {NX EX : Int → Int → Int} {G B : List Int} {N0 : Int} (hF : Few r c cs U NX EX G B N0) {cols : List Int} (hl : cols.length ≤ 1048576) (hc : ∀ x ∈ cols, 0 ≤ x ∧ x < c) {S : List Bool} (hS : S.length ≤ 65536) (d : Nat) : ∀ n : Nat, n + d = S.length →
    Ev (fun k => bi.l0 k cols U G (ZN (xA EX S cols n)) S S.length n r c cs) (those (xA EX S cols S.length) 1 3) := by
  induction d with
  | zero =>
    intro n hn
    refine Ev.succ ?_
    simp only [bi.l0]
    refine Ev.neg (by omega) ?_
    obtain rfl : n = S.length := by omega
    exact ahJ (xA EX S cols S.length) 3 0 (by omega)
  | succ d ih =>
    intro n hn
    have h := ih (n + 1) (by omega)
    have hr : Eu false S (n : Int) = S.getD n false := rfl
    refine Ev.succ ?_
    simp only [bi.l0]
    refine Ev.pos (by omega) (Ev.pos (by omega) (Ev.pos (by omega) ?_))
    rw [hr]
    refine Ev.split (fun hq => ?_) (fun hq => ?_)
    · rw [show xA EX S cols (n + 1) = fun j => xA EX S cols n j || tY EX n cols j from funext fun j => by rw [LZ, hq, Bool.true_and]] at h
      have := Zx hF hl hc (S := S) (M := S.length) (n := n) (Q := xA EX S cols n) (by rw [bI (by omega)]; exact h) cols.length 0 (by omega)
      simpa [tY] using this
    · have hq' : S.getD n false = false := Bool.eq_false_iff.mpr hq
      rw [show xA EX S cols (n + 1) = xA EX S cols n from funext fun j => by rw [LZ, hq', Bool.false_and, Bool.or_false]] at h
      rw [bI (by omega)]
      exact h
/-- Both lists of ends are one. -/
theorem ends {r c : Int} {cs : List C} {U : List (List Int)} {NX EX : Int → Int → Int} {G B : List Int} {N0 : Int} (hF : Few r c cs U NX EX G B N0) {cols : List Int} (hl : cols.length ≤ 1048576) (hc : ∀ x ∈ cols, 0 ≤ x ∧ x < c) :
    ∃ L : List Int, L.length ≤ 3 ∧ Ev (fun k => bM.f k r c cs cols) L ∧ Ev (fun k => bi.f k r c cs cols) L := by
  have hp := DD (show U.length ≤ 16 by have := hF.few; omega)
  obtain ⟨N, W, S, hI, q1, q2⟩ := reached hF hl hc
  have hfit := hI.fit
  have hsl := hI.sl
  refine ⟨those (BI EX N cols) 1 3, LY _, ?_, ?_⟩
  · unfold bM.f
    refine Ev.bind q1 ?_
    have h := Sq hF hl hc (N := N) (by omega) N.length 0 (by omega)
    have h0 : those (BI EX (N.take 0) cols) 1 3 = [] := by simp [BI, those]
    rw [h0] at h
    exact h
  · unfold bi.f
    refine Ev.bind hF.u2 (Ev.bind hF.g2 (Ev.bind q2 ?_))
    have h := Zy hF hl hc (S := S) (by omega) S.length 0 (by omega)
    have e : ∀ j, xA EX S cols S.length j = BI EX N cols j := by
      intro j
      rw [Bool.eq_iff_iff]
      simp only [xA, BI, List.any_eq_true, List.mem_range, Bool.and_eq_true]
      constructor
      · rintro ⟨q, hq, hs, hb⟩
        rw [hI.seen q (by omega)] at hs
        exact ⟨q, of_decide_eq_true hs, hb⟩
      · rintro ⟨x, hx, hb⟩
        have hlt := hI.lt x hx
        obtain ⟨q, rfl⟩ := Int.eq_ofNat_of_zero_le hlt.1
        exact ⟨q, by omega, by rw [hI.seen q (by omega)]; exact decide_eq_true hx, hb⟩
    rw [yz e] at h
    have h0 : ZN (xA EX S cols 0) = [false, false, false, false] := by simp [ZN, xA]
    rw [h0] at h
    exact h
end Go.Proofs.Ytbpfdbjnnlmdjaa.Ends
