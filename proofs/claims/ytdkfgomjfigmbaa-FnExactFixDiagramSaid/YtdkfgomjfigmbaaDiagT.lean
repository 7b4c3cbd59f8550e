/- A diagram's values, as the program finds them: the same as the reference's. -/
import Derived.Test.YtdkfgomjfigmbaaDiagI
import Derived.Test.YtdkfgomjfigmbaaPx11
import Derived.Test.YtdkfgomjfigmbaaPx15
namespace Go.Proofs.Ytdkfgomjfigmbaa.Diag
open Go.RowKit Go.Proofs.Ytdkfgomjfigmbaa.P Go.Proofs.Ytdkfgomjfigmbaa.Base Go.Proofs.Ytdkfgomjfigmbaa.Bit Go.Proofs.Ytdkfgomjfigmbaa.Nodes Go.Proofs.Ytdkfgomjfigmbaa.Dd Go.Proofs.YtdkfgomjfigmbaaW.PrintWords Go.Proofs.YtdkfgomjfigmbaaW.PrintLast Go.Proofs.YtdkfgomjfigmbaaW.PrintMore
set_option linter.unusedVariables false
set_option linter.unusedSimpArgs false
theorem implValue {m : Nat} {n root : Int} {ns : List Nd} (hI : In m n root ns) {x : Nat} {l : List Int} (hl : l.length = m) (hx : ∀ j, j < m → rd l (j : Int) = ((x / 2 ^ j % 2 : Nat) : Int)) {r v : Int} (h : Val ns x r v) : Ev (fun k => impl_diagramValue.l0 k l r n ns root) v := by
  have hlen := hI.len
  have bitAt : ∀ i : Int, 0 ≤ i → i < m → rd l i = ((bitI x i : Nat) : Int) := fun i h0 h1 => by
    obtain ⟨j, rfl⟩ := Int.eq_ofNat_of_zero_le h0
    rw [hx j (by omega)]; rfl
  have b2 : ∀ i : Int, bitI x i < 2 := fun i => Nat.mod_lt _ (by decide)
  induction h with
  | leaf h =>
    refine Ev.succ ?_
    simp only [impl_diagramValue.l0]
    exact Ev.neg (by omega) (Ev.now _)
  | @lo r i l' u v h e b hv ih =>
    obtain ⟨q1, q2, q3, q4⟩ := at_node hlen h e
    have hi := hI.bnd.inp _ _ e
    simp only at hi
    refine Ev.succ ?_
    simp only [impl_diagramValue.l0, q1, q4]
    refine Ev.pos (by omega) (Ev.pos q2 (Ev.pos q3 (Ev.pos hi.1 (Ev.pos (by omega) (Ev.neg ?_ ih)))))
    rw [bitAt _ hi.1 hi.2, b]; decide
  | @hi r i l' u v h e b hv ih =>
    obtain ⟨q1, q2, q3, q4⟩ := at_node hlen h e
    have hi := hI.bnd.inp _ _ e
    simp only at hi
    have := b2 i
    refine Ev.succ ?_
    simp only [impl_diagramValue.l0, q1, q4]
    refine Ev.pos (by omega) (Ev.pos q2 (Ev.pos q3 (Ev.pos hi.1 (Ev.pos (by omega) (Ev.pos ?_ ih)))))
    rw [bitAt _ hi.1 hi.2]; omega
/-- The bits of an index. -/
def bl (x m : Nat) : List Int := (List.range m).map fun (j : Nat) => ((bit x j : Nat) : Int)
theorem bl_len (x m : Nat) : (bl x m).length = m := by simp [bl]
theorem bl_rd (x : Nat) {m j : Nat} (h : j < m) : rd (bl x m) (j : Int) = ((x / 2 ^ j % 2 : Nat) : Int) := by
  rw [rd_get (by rw [bl_len]; exact h)]; simp [bl, bit]
theorem bits_loop {x m : Nat} (hx : x < 2 ^ 62) (hm : m ≤ 4) (d : Nat) : ∀ (i : Nat) (acc : List Int), i + d = m → acc.length = m → acc.take i = (bl x m).take i → Ev (fun k => impl_bitList.l0 k (x : Int) acc (m : Int) (i : Int)) (bl x m) := by
  induction d with
  | zero =>
    intro i acc hi ha ht
    refine Ev.succ ?_
    simp only [impl_bitList.l0]
    refine Ev.neg (by omega) (Ev.val (Ev.now _) ?_)
    rw [List.take_of_length_le (by omega), List.take_of_length_le (by rw [bl_len]; omega)] at ht
    exact ht
  | succ d ih =>
    intro i acc hi ha ht
    refine Ev.succ ?_
    simp only [impl_bitList.l0]
    refine Ev.pos (by omega) (Ev.pos (by omega) (Ev.pos (by omega) ?_))
    rw [bit_printed x i hx (by omega), wrap_nat (by omega), Int.toNat_natCast]
    refine ih (i + 1) _ (by omega) (by simpa using ha) ?_
    rw [List.take_succ_eq_append_getElem (by simp; omega), List.take_succ_eq_append_getElem (by rw [bl_len]; omega), List.take_set_of_le (Nat.le_refl _), ht]
    simp [bl]
theorem bitList {x m : Nat} (hx : x < 2 ^ 62) (hm : m ≤ 4) : Ev (fun k => impl_bitList.f k (x : Int) (m : Int)) (bl x m) := by
  unfold impl_bitList.f
  refine Ev.pos (by omega) (Ev.pos (by omega) ?_)
  simp only [Option.bind_some, List.length_replicate, Int.toNat_natCast]
  exact bits_loop hx hm m 0 _ (by omega) (by simp) (by simp)
theorem implTable_loop {m : Nat} {n root : Int} {ns : List Nd} (hI : In m n root ns) {f : Nat → Int} (hf : ∀ x, Val ns x root (f x) ∧ 0 ≤ f x ∧ f x ≤ 1) (d : Nat) : ∀ (i : Nat) (acc : List Int), i + d = 2 ^ m → acc.length = 2 ^ m → acc.take i = (tab f m).take i → Ev (fun k => impl_tableOfDiagram.l0 k ((2 ^ m : Nat) : Int) (i : Int) n ns root n acc) (n, tab f m) := by
  have hp := pow16 hI.four
  have hn := hI.n
  have hm := hI.four
  induction d with
  | zero =>
    intro i acc hi ha ht
    refine Ev.succ ?_
    simp only [impl_tableOfDiagram.l0]
    refine Ev.neg (by omega) (Ev.val (Ev.now _) ?_)
    rw [List.take_of_length_le (by omega), List.take_of_length_le (by rw [tab_len]; omega)] at ht
    rw [ht]
  | succ d ih =>
    intro i acc hi ha ht
    refine Ev.succ ?_
    simp only [impl_tableOfDiagram.l0]
    refine Ev.pos (by omega) (Ev.bind (by rw [hn]; exact bitList (by omega) hm) (Ev.bind (a := f i) ?_ (Ev.pos (by omega) (Ev.pos (by omega) ?_))))
    · unfold impl_diagramValue.f
      exact implValue hI (bl_len i m) (fun j hj => bl_rd i hj) (hf i).1
    · rw [wrap_nat (by omega), Int.toNat_natCast]
      refine ih (i + 1) _ (by omega) (by simpa using ha) ?_
      rw [List.take_succ_eq_append_getElem (by simp; omega), List.take_succ_eq_append_getElem (by rw [tab_len]; omega), List.take_set_of_le (Nat.le_refl _), ht]
      simp [tab]
theorem implTable {m : Nat} {n root : Int} {ns : List Nd} (hI : In m n root ns) {f : Nat → Int} (hf : ∀ x, Val ns x root (f x) ∧ 0 ≤ f x ∧ f x ≤ 1) : Ev (fun k => impl_tableOfDiagram.f k n ns root) (n, tab f m) := by
  have hp := pow16 hI.four
  have hn := hI.n
  have hm := hI.four
  have e1 : shl .i64 1 n = ((2 ^ m : Nat) : Int) := by rw [hn]; exact shl_one_nat m (by omega)
  unfold impl_tableOfDiagram.f
  rw [e1]
  refine Ev.pos (by omega) (Ev.pos (by omega) (Ev.pos (by omega) ?_))
  simp only [Option.bind_some, List.length_replicate, Int.toNat_natCast]
  exact implTable_loop hI hf (2 ^ m) 0 _ (by omega) (by simp) (by simp)
end Go.Proofs.Ytdkfgomjfigmbaa.Diag
