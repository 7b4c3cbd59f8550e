/- SwapInputs: the program's and the reference's function come to the same. No condition beyond the length named. -/
import Derived.Test.YtgekdgggpfiamaaSwap
import Derived.Test.YtgekdgggpfiamaaPx2
import Derived.Test.YtgekdgggpfiamaaPx3
import Derived.Test.YtgekdgggpfiamaaPx4
namespace Go.Proofs.Ytgekdgggpfiamaa.Swap
open Go.RowKit Go.Proofs.Ytgekdgggpfiamaa.P Go.Proofs.Ytgekdgggpfiamaa.Base Go.Proofs.Ytgekdgggpfiamaa.Bit Go.Proofs.Ytgekdgggpfiamaa.Tab Go.Proofs.Ytgekdgggpfiamaa.Reord Go.Proofs.YtgekdgggpfiamaaW.PrintWords Go.Proofs.YtgekdgggpfiamaaW.PrintLast Go.Proofs.YtgekdgggpfiamaaW.PrintMore
set_option linter.unusedVariables false
set_option linter.unusedSimpArgs false
def swappedTo (n : Int) (l : List Int) (i k : Int) : Int × List Int × Bool :=
  if TGood n l ∧ 0 ≤ i ∧ i < n ∧ 0 ≤ k ∧ k < n then (n, reVals l (order n.toNat i.toNat k.toNat) l.length, true) else (0, [], false)
theorem swappedTo_length (n : Int) (l : List Int) (i k : Int) (hb : l.length ≤ 1048576) : (swappedTo n l i k).2.1.length ≤ 1048576 := by
  unfold swappedTo
  split
  · simp only [reVals_length]; exact hb
  · simp
theorem ttHas (n : Int) (l : List Int) (x : Int) (hb : l.length ≤ 1048576) : Ev (fun k => spec_ttHas.f k n l x) (decide (TGood n l ∧ 0 ≤ x ∧ x < n)) := by
  unfold spec_ttHas.f
  by_cases h : TGood n l
  · have hn := h.2.1
    have hn0 := h.1
    refine Ev.bind (Ev.val (ttGood n l (by omega)) (decide_eq_true h)) (Ev.pos rfl ?_)
    rw [l1In, wrap_id (by omega) (by omega)]
    refine Ev.val (Ev.now _) ?_
    have : (0 ≤ x ∧ x ≤ n - 1) ↔ (TGood n l ∧ 0 ≤ x ∧ x < n) := ⟨fun hh => ⟨h, by omega, by omega⟩, fun hh => by omega⟩
    simp only [this]
  · exact Ev.bind (Ev.val (ttGood n l (by omega)) (decide_eq_false h)) (Ev.neg (by simp) (Ev.val (Ev.now _) (by symm; rw [decide_eq_false_iff_not]; exact fun hh => h hh.1)))
theorem specSwap (n : Int) (l : List Int) (i k : Int) (hb : l.length ≤ 1048576) : Ev (fun z => spec_SwapInputs.f z n l i k) (swappedTo n l i k) := by
  unfold spec_SwapInputs.f
  have out : ∀ (b : Bool), b = true → ¬ (TGood n l ∧ 0 ≤ i ∧ i < n ∧ 0 ≤ k ∧ k < n) → Ev (fun z => spec_SwapInputs.j0 z i k b n l) (swappedTo n l i k) := by
    intro b hbt h
    refine Ev.succ ?_
    simp only [spec_SwapInputs.j0]
    refine Ev.pos hbt (Ev.val (Ev.now _) ?_)
    unfold swappedTo; rw [if_neg h]
  refine Ev.bind (ttHas n l i hb) ?_
  refine Ev.split (fun c => ?_) (fun c => out _ rfl (fun hh => c (decide_eq_true ⟨hh.1, hh.2.1, hh.2.2.1⟩)))
  have c1 := of_decide_eq_true c
  refine Ev.bind (ttHas n l k hb) ?_
  by_cases h2 : TGood n l ∧ 0 ≤ k ∧ k < n
  · rw [decide_eq_true h2]
    refine Ev.succ ?_
    simp only [spec_SwapInputs.j0]
    refine Ev.neg (by simp) ?_
    obtain ⟨⟨h0, h1, hl, _⟩, hi0, hi⟩ := id c1
    obtain ⟨_, hk0, hk⟩ := id h2
    obtain ⟨m, rfl⟩ := Int.eq_ofNat_of_zero_le h0
    obtain ⟨a, rfl⟩ := Int.eq_ofNat_of_zero_le hi0
    obtain ⟨b, rfl⟩ := Int.eq_ofNat_of_zero_le hk0
    rw [Int.toNat_natCast] at hl
    have hval : swappedTo m l a b = ((m : Int), reVals l (order m a b) l.length, true) := by unfold swappedTo; rw [if_pos ⟨c1.1, c1.2.1, c1.2.2, h2.2.1, h2.2.2⟩]; rfl
    rw [hval]
    refine Ev.split (fun e => ?_) (fun e => ?_)
    · obtain rfl : a = b := by omega
      rw [reVals_same m (by omega) l hl a (by omega)]
      unfold spec_l1Own.f
      simp only [Option.bind_some, List.length_nil, List.nil_append]
      have hs : (if 0 + l.length < 17592186044416 then some l else none) = some l := if_pos (by omega)
      rw [hs]
      exact Ev.now _
    · exact Ev.bind (specSwapped m (by omega) l hl a b (by omega) (by omega) (fun h => e (by rw [h]))) (Ev.now _)
  · rw [decide_eq_false h2]
    exact out _ rfl (fun hh => h2 ⟨hh.1, hh.2.2.2.1, hh.2.2.2.2⟩)
theorem implSwap (n : Int) (l : List Int) (i k : Int) (hb : l.length ≤ 1048576) : Ev (fun z => impl_SwapInputs.f z n l i k) (swappedTo n l i k) := by
  unfold impl_SwapInputs.f
  have out : ¬ (TGood n l ∧ 0 ≤ i ∧ i < n ∧ 0 ≤ k ∧ k < n) → (0, ([] : List Int), false) = swappedTo n l i k := by
    intro h
    unfold swappedTo; rw [if_neg h]
  refine Ev.bind (implIsTable n l (by omega)) ?_
  refine Ev.split (fun c => ?_) (fun c => Ev.val (Ev.now _) (out fun hh => c (decide_eq_true hh.1)))
  have c1 := of_decide_eq_true c
  refine Ev.split (fun c2 => Ev.val (Ev.now _) (out (by omega))) (fun c2 => ?_)
  refine Ev.split (fun c3 => Ev.val (Ev.now _) (out (by omega))) (fun c3 => ?_)
  refine Ev.split (fun c4 => Ev.val (Ev.now _) (out (by omega))) (fun c4 => ?_)
  refine Ev.split (fun c5 => Ev.val (Ev.now _) (out (by omega))) (fun c5 => ?_)
  obtain ⟨h0, h1, hl, _⟩ := id c1
  obtain ⟨m, rfl⟩ := Int.eq_ofNat_of_zero_le h0
  obtain ⟨a, rfl⟩ := Int.eq_ofNat_of_zero_le (show 0 ≤ i by omega)
  obtain ⟨b, rfl⟩ := Int.eq_ofNat_of_zero_le (show 0 ≤ k by omega)
  rw [Int.toNat_natCast] at hl
  have hval : swappedTo m l a b = ((m : Int), reVals l (order m a b) l.length, true) := by unfold swappedTo; rw [if_pos ⟨c1, by omega, by omega, by omega, by omega⟩]; rfl
  rw [hval]
  exact Ev.bind (implSwapped m (by omega) l hl a b (by omega) (by omega)) (Ev.now _)
theorem both (n : Int) (l : List Int) (i k : Int) (hb : l.length ≤ 1048576) : ∃ a L ok, (L : List Int).length ≤ 1048576 ∧ Ev (fun z => spec_SwapInputs.f z n l i k) (a, L, ok) ∧ Ev (fun z => impl_SwapInputs.f z n l i k) (a, L, ok) :=
  ⟨(swappedTo n l i k).1, (swappedTo n l i k).2.1, (swappedTo n l i k).2.2, swappedTo_length n l i k hb, specSwap n l i k hb, implSwap n l i k hb⟩
end Go.Proofs.Ytgekdgggpfiamaa.Swap
