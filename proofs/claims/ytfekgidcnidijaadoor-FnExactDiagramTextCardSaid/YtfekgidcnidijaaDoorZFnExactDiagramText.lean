/- The pure statement of the law FnExactDiagramText: its printed function comes to true, whatever the diagram. -/
import Derived.Test.YtfekgidcnidijaaDoorNodes
import Derived.Test.YtfekgidcnidijaaDoorDiagI
import Derived.Test.YtfekgidcnidijaaDoorItoaText
import Derived.Test.YtfekgidcnidijaaDoorPx3
import Derived.Test.YtfekgidcnidijaaDoorPx4
import Derived.Test.YtfekgidcnidijaaDoorPx5
namespace Go.Proofs.YtfekgidcnidijaaDoor.PureFnExactDiagramText
open Go.RowKit Go.Proofs.YtfekgidcnidijaaDoor.P Go.Proofs.YtfekgidcnidijaaDoor.Base Go.Proofs.YtfekgidcnidijaaDoor.Nodes Go.Proofs.YtfekgidcnidijaaDoor.Dd Go.Proofs.YtfekgidcnidijaaDoor.Diag Go.Proofs.YtfekgidcnidijaaDoor.Bytes Go.Proofs.YtfekgidcnidijaaDoorW.PrintWords Go.Proofs.YtfekgidcnidijaaDoorW.PrintLast Go.Proofs.YtfekgidcnidijaaDoorW.PrintMore
set_option linter.unusedVariables false
set_option linter.unusedSimpArgs false
theorem b32 : bytesOf (⟨#[32]⟩ : ByteArray) = [32] := rfl
theorem b10 : bytesOf (⟨#[10]⟩ : ByteArray) = [10] := rfl
theorem s32 : (⟨#[32]⟩ : ByteArray).size = 1 := rfl
theorem s10 : (⟨#[10]⟩ : ByteArray).size = 1 := rfl
theorem digits_few {n : Nat} (h : n < 100) : (digits n).length ≤ 2 := by
  by_cases h1 : n < 10
  · rw [digits_small h1]; simp
  · rw [digits_big h1, digits_small (by omega)]; simp
def ok (x : Int) : Prop := 0 ≤ x ∧ x < 100
theorem num {x : Int} (h : ok x) : ∃ u : ByteArray, Ev (fun k => spec_l1Num.f k x) u ∧ bytesOf u = digits x.toNat ∧ u.size ≤ 2 := by
  have h0 := h.1
  have h1 := h.2
  obtain ⟨u, hu, hd⟩ := l1Num x.toNat (by omega)
  rw [Int.toNat_of_nonneg h0] at hu
  exact ⟨u, hu, hd, by rw [size_of, hd]; exact digits_few (by omega)⟩
theorem ita {x : Int} (h : ok x) : ∃ u : ByteArray, strconv_Itoa_31.f x = some u ∧ bytesOf u = digits x.toNat ∧ u.size ≤ 2 := by
  have h0 := h.1
  have h1 := h.2
  obtain ⟨u, hu, hd⟩ := itoa x.toNat (by omega)
  rw [Int.toNat_of_nonneg h0] at hu
  exact ⟨u, hu, hd, by rw [size_of, hd]; exact digits_few (by omega)⟩
def lineB (x : Nd) : List Int := digits x.f0.toNat ++ [32] ++ digits x.f1.toNat ++ [32] ++ digits x.f2.toNat
theorem join3 {a b c : ByteArray} (ha : a.size ≤ 2) (hb : b.size ≤ 2) (hc : c.size ≤ 2) : ∃ t, strings_Join.f [a, b, c] ⟨#[32]⟩ = some t ∧ bytesOf t = bytesOf a ++ [32] ++ bytesOf b ++ [32] ++ bytesOf c := by
  have e : Lib.join ([a, b, c].map (fun x => x.data.toList)) (⟨#[32]⟩ : ByteArray).data.toList = a.data.toList ++ ([32] ++ (b.data.toList ++ ([32] ++ c.data.toList))) := by
    simp [Lib.join, List.intercalate]
  have sa : a.data.toList.length = a.size := by rw [Array.length_toList]; rfl
  have sb : b.data.toList.length = b.size := by rw [Array.length_toList]; rfl
  have sc : c.data.toList.length = c.size := by rw [Array.length_toList]; rfl
  refine ⟨⟨(Lib.join ([a, b, c].map (fun x => x.data.toList)) (⟨#[32]⟩ : ByteArray).data.toList).toArray⟩, ?_, ?_⟩
  · unfold strings_Join.f
    rw [if_pos (by rw [e]; simp only [List.length_append, List.length_singleton]; omega), if_pos (by simp)]
  · rw [e, bytesOf_list]
    simp only [List.map_append, List.map_cons, List.map_nil, List.append_assoc]
    rfl
theorem numbers {x y z : Int} (hx : ok x) (hy : ok y) (hz : ok z) : ∃ t, Ev (fun k => impl_numbersText.f k [x, y, z]) t ∧ bytesOf t = digits x.toNat ++ [32] ++ digits y.toNat ++ [32] ++ digits z.toNat := by
  obtain ⟨a, ea, da, sa⟩ := ita hx
  obtain ⟨b, eb, db, sb⟩ := ita hy
  obtain ⟨c, ec, dc, sc⟩ := ita hz
  obtain ⟨t, et, dt⟩ := join3 sa sb sc
  refine ⟨t, ?_, by rw [dt, da, db, dc]⟩
  have r0 : rd [x, y, z] 0 = x := rfl
  have r1 : rd [x, y, z] 1 = y := rfl
  have r2 : rd [x, y, z] 2 = z := rfl
  have w0 : wrap64 ((0 : Int) + 1) = 1 := wrap_id (by omega) (by omega)
  have w1 : wrap64 ((1 : Int) + 1) = 2 := wrap_id (by omega) (by omega)
  have w2 : wrap64 ((2 : Int) + 1) = 3 := wrap_id (by omega) (by omega)
  have hl : (([x, y, z] : List Int).length : Int) = 3 := rfl
  unfold impl_numbersText.f
  rw [hl]
  refine Ev.succ ?_
  simp only [impl_numbersText.l0, hl, r0, ea, w0, Option.bind_some]
  refine Ev.pos (by omega) (Ev.pos (by omega) (Ev.pos (by omega) (Ev.pos (by simp) (Ev.succ ?_))))
  simp only [impl_numbersText.l0, hl, r1, eb, w1, Option.bind_some]
  refine Ev.pos (by omega) (Ev.pos (by omega) (Ev.pos (by omega) (Ev.pos (by simp) (Ev.succ ?_))))
  simp only [impl_numbersText.l0, hl, r2, ec, w2, Option.bind_some]
  refine Ev.pos (by omega) (Ev.pos (by omega) (Ev.pos (by omega) (Ev.pos (by simp) (Ev.succ ?_))))
  simp only [impl_numbersText.l0, List.nil_append, List.cons_append, et, Option.bind_some]
  exact Ev.neg (by omega) (Ev.now _)
def Ok (ns : List Nd) : Prop := ∀ x ∈ ns, ok x.f0 ∧ ok x.f1 ∧ ok x.f2
theorem spec_loop (n root : Int) (ns : List Nd) (hl : ns.length ≤ 40) (hg : Ok ns) (hr : ok root) (d : Nat) : ∀ (i : Nat) (s : ByteArray), i + d = ns.length → s.size ≤ 20 * i →
    ∃ t, Ev (fun k => spec_DiagramText.l0 k s ns ns.length i n ns root) (t, true) ∧ bytesOf t = bytesOf s ++ (ns.drop i).flatMap (fun x => lineB x ++ [10]) ++ digits root.toNat ++ [10] := by
  induction d with
  | zero =>
    intro i s hi hs
    obtain ⟨u, eu, du, su⟩ := num hr
    refine ⟨(s ++ u) ++ ⟨#[10]⟩, Ev.succ ?_, ?_⟩
    · simp only [spec_DiagramText.l0]
      exact Ev.neg (by omega) (Ev.bind eu (Ev.pos (by omega) (Ev.pos (by simp only [ByteArray.size_append]; omega) (Ev.now _))))
    · rw [List.drop_of_length_le (by omega), bytesOf_append, bytesOf_append, du, b10]; simp
  | succ d ih =>
    intro i s hi hs
    obtain ⟨h0, h1, h2⟩ := hg _ (List.getElem_mem (show i < ns.length by omega))
    obtain ⟨a, ea, da, sa⟩ := num h0
    obtain ⟨b, eb, db, sb⟩ := num h1
    obtain ⟨c, ec, dc, sc⟩ := num h2
    obtain ⟨t, ht, dt⟩ := ih (i + 1) (s ++ (((((a ++ ⟨#[32]⟩) ++ b) ++ ⟨#[32]⟩) ++ c) ++ ⟨#[10]⟩)) (by omega) (by simp only [ByteArray.size_append, s32, s10]; omega)
    refine ⟨t, Ev.succ ?_, ?_⟩
    · simp only [spec_DiagramText.l0]
      refine Ev.pos (by omega) (Ev.pos (by omega) (Ev.pos (by omega) ?_))
      rw [rdN_get (by omega), wrap_nat (by omega)]
      refine Ev.bind ea (Ev.pos (by omega) (Ev.bind eb (Ev.pos (by simp only [ByteArray.size_append, s32]; omega) (Ev.pos (by simp only [ByteArray.size_append, s32]; omega) (Ev.bind ec ?_)))))
      exact Ev.pos (by simp only [ByteArray.size_append, s32]; omega) (Ev.pos (by simp only [ByteArray.size_append, s32]; omega) (Ev.pos (by simp only [ByteArray.size_append, s32, s10]; omega) ht))
    · rw [dt, drop_cons (xs := ns) (i := i) (by omega), List.flatMap_cons]
      simp only [lineB, bytesOf_append, b32, b10, da, db, dc, List.append_assoc, List.cons_append, List.nil_append]
theorem impl_loop (n root : Int) (ns : List Nd) (hl : ns.length ≤ 40) (hg : Ok ns) (hr : ok root) (d : Nat) : ∀ (i : Nat) (s : ByteArray), i + d = ns.length → s.size ≤ 20 * i →
    ∃ t, Ev (fun k => impl_DiagramText.l0 k s ns ns.length i n ns root) (t, true) ∧ bytesOf t = bytesOf s ++ (ns.drop i).flatMap (fun x => lineB x ++ [10]) ++ digits root.toNat ++ [10] := by
  induction d with
  | zero =>
    intro i s hi hs
    obtain ⟨u, eu, du, su⟩ := ita hr
    refine ⟨(s ++ u) ++ ⟨#[10]⟩, Ev.succ ?_, ?_⟩
    · simp only [impl_DiagramText.l0, eu, Option.bind_some]
      exact Ev.neg (by omega) (Ev.pos (by omega) (Ev.pos (by simp only [ByteArray.size_append]; omega) (Ev.now _)))
    · rw [List.drop_of_length_le (by omega), bytesOf_append, bytesOf_append, du, b10]; simp
  | succ d ih =>
    intro i s hi hs
    obtain ⟨h0, h1, h2⟩ := hg _ (List.getElem_mem (show i < ns.length by omega))
    obtain ⟨u, eu, du⟩ := numbers h0 h1 h2
    have l0 := digits_few (show ns[i].f0.toNat < 100 by have := h0.1; have := h0.2; omega)
    have l1 := digits_few (show ns[i].f1.toNat < 100 by have := h1.1; have := h1.2; omega)
    have l2 := digits_few (show ns[i].f2.toNat < 100 by have := h2.1; have := h2.2; omega)
    have su : u.size ≤ 8 := by rw [size_of, du]; simp only [List.length_append, List.length_singleton]; omega
    obtain ⟨t, ht, dt⟩ := ih (i + 1) (s ++ (u ++ ⟨#[10]⟩)) (by omega) (by simp only [ByteArray.size_append, s10]; omega)
    refine ⟨t, Ev.succ ?_, ?_⟩
    · simp only [impl_DiagramText.l0]
      refine Ev.pos (by omega) (Ev.pos (by omega) (Ev.pos (by omega) ?_))
      rw [rdN_get (by omega), wrap_nat (by omega)]
      exact Ev.bind eu (Ev.pos (by omega) (Ev.pos (by simp only [ByteArray.size_append, s10]; omega) ht))
    · rw [dt, drop_cons (xs := ns) (i := i) (by omega), List.flatMap_cons]
      simp only [lineB, bytesOf_append, b10, du, List.append_assoc, List.cons_append, List.nil_append]
theorem both (n root : Int) (ns : List Nd) (hb : ns.length ≤ 1048576) : ∃ (a b : ByteArray) (o : Bool), a.toList = b.toList ∧ Ev (fun k => spec_DiagramText.f k n ns root) (a, o) ∧ Ev (fun k => impl_DiagramText.f k n ns root) (b, o) := by
  rcases test (n := n) (root := root) hb with ⟨m, f, hI, hf, hS, hs, hi⟩ | ⟨hs, hi⟩
  · have hl := hI.len
    have h4 := hI.four
    have hB := hI.bnd
    have hg : Ok ns := fun x hx => by
      obtain ⟨j, hj, e⟩ := List.getElem_of_mem hx
      have e' : ns[j]? = some x := by rw [List.getElem?_eq_getElem hj, e]
      have q0 := hS.inp j x e'
      have q1 := hB.refs j hj
      rw [e] at q1
      exact ⟨⟨by omega, by omega⟩, ⟨by omega, by omega⟩, ⟨by omega, by omega⟩⟩
    have hr : ok root := ⟨hB.lo, by have := hB.hi; omega⟩
    obtain ⟨a, e1, b1⟩ := spec_loop n root ns hl hg hr ns.length 0 ⟨#[]⟩ (by omega) (by decide)
    obtain ⟨b, e2, b2⟩ := impl_loop n root ns hl hg hr ns.length 0 ⟨#[]⟩ (by omega) (by decide)
    refine ⟨a, b, true, ?_, ?_, ?_⟩
    · rw [toList_iff, b1, b2]
    · unfold spec_DiagramText.f
      exact Ev.bind hs (Ev.pos rfl e1)
    · unfold impl_DiagramText.f
      exact Ev.bind hi (Ev.pos rfl e2)
  · refine ⟨⟨#[]⟩, ⟨#[]⟩, false, rfl, ?_, ?_⟩
    · unfold spec_DiagramText.f
      exact Ev.bind hs (Ev.neg (by simp) (Ev.now _))
    · unfold impl_DiagramText.f
      exact Ev.bind hi (Ev.neg (by simp) (Ev.now _))
theorem law : ∀ (a0_0 : Int) (l0_1 : List NdL) (a0_2 : Int), l0_1.length ≤ 9223372036854775807 → ∃ k, laws_FnExactDiagramText.f k a0_0 l0_1 a0_2 = some true := by
  intro n l root hl
  apply Ev.rounds
  unfold laws_FnExactDiagramText.f
  rw [szDiagram n root l 1048576 hl (by omega) (by omega)]
  simp only [Option.bind_some]
  refine Ev.split (fun _ => Ev.now _) (fun c0 => ?_)
  have hb : l.length ≤ 1048576 := by split at c0 <;> omega
  have hm : (l.map convN).length ≤ 1048576 := by simpa using hb
  obtain ⟨a, b, o, he, e1, e2⟩ := both n root (l.map convN) hm
  refine Ev.bind (toDiagram _ _ _ hb) (Ev.bind e1 (Ev.bind (toDiagram _ _ _ hb) (Ev.bind e2 (Ev.pos he.symm (Ev.succ ?_)))))
  simp only [laws_FnExactDiagramText.j0]
  exact Ev.neg (by simp) (Ev.bind (toDiagram _ _ _ hb) (Ev.bind (eqDiagram_self _ _ _ (by omega)) (Ev.pos rfl (Ev.now _))))
end Go.Proofs.YtfekgidcnidijaaDoor.PureFnExactDiagramText
