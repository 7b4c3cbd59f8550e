/- The reference's text of a log, as bytes. Condition: a valid log. -/
import Derived.Test.YtfekgidcnidijaaDoorLog
import Derived.Test.YtfekgidcnidijaaDoorNumText
import Derived.Test.YtfekgidcnidijaaDoorPx1
namespace Go.Proofs.YtfekgidcnidijaaDoor.ParseL
open Go.RowKit Go.Proofs.YtfekgidcnidijaaDoor.P Go.Proofs.YtfekgidcnidijaaDoor.Base Go.Proofs.YtfekgidcnidijaaDoor.Log Go.Proofs.YtfekgidcnidijaaDoor.Bytes Go.Proofs.YtfekgidcnidijaaDoorW.PrintWords Go.Proofs.YtfekgidcnidijaaDoorW.PrintLast Go.Proofs.YtfekgidcnidijaaDoorW.PrintMore
set_option linter.unusedVariables false
set_option linter.unusedSimpArgs false
def cN (i : Int) : ByteArray := rdOf ByteArray.empty ([(⟨#[98, 108, 117, 101]⟩ : ByteArray), (⟨#[114, 101, 100]⟩ : ByteArray)] : List ByteArray) i
def eN (i : Int) : ByteArray := rdOf ByteArray.empty ([(⟨#[]⟩ : ByteArray), (⟨#[98, 111, 116, 116, 111, 109]⟩ : ByteArray), (⟨#[115, 116, 111, 112]⟩ : ByteArray), (⟨#[108, 111, 115, 116]⟩ : ByteArray)] : List ByteArray) i
theorem cN_fold (i : Int) : rdOf ByteArray.empty ([(⟨#[98, 108, 117, 101]⟩ : ByteArray), (⟨#[114, 101, 100]⟩ : ByteArray)] : List ByteArray) i = cN i := rfl
theorem eN_fold (i : Int) : rdOf ByteArray.empty ([(⟨#[]⟩ : ByteArray), (⟨#[98, 111, 116, 116, 111, 109]⟩ : ByteArray), (⟨#[115, 116, 111, 112]⟩ : ByteArray), (⟨#[108, 111, 115, 116]⟩ : ByteArray)] : List ByteArray) i = eN i := rfl
theorem cN_size {x : LE} (h : Entry x) : (cN x.f0).size ≤ 4 := by
  have h0 : x.f0 = 0 ∨ x.f0 = 1 := by have := h.1; have := h.2.1; omega
  rcases h0 with h0 | h0 <;> rw [h0] <;> decide
theorem eN_size {x : LE} (h : Entry x) : (eN x.f1.f0).size ≤ 6 := by
  have h0 : x.f1.f0 = 1 ∨ x.f1.f0 = 2 ∨ x.f1.f0 = 3 := by have := h.2.2.1; have := h.2.2.2.1; omega
  rcases h0 with h0 | h0 | h0 <;> rw [h0] <;> decide
def lineB (x : LE) : List Int := bytesOf (cN x.f0) ++ [32] ++ bytesOf (eN x.f1.f0) ++ [32] ++ digits x.f1.f1.toNat ++ [32] ++ (if 0 ≤ x.f1.f2 then digits x.f1.f2.toNat else [45]) ++ [10]
theorem b32 : bytesOf (⟨#[32]⟩ : ByteArray) = [32] := rfl
theorem b10 : bytesOf (⟨#[10]⟩ : ByteArray) = [10] := rfl
theorem b45 : bytesOf (⟨#[45]⟩ : ByteArray) = [45] := rfl
theorem b4510 : bytesOf (⟨#[45, 10]⟩ : ByteArray) = [45, 10] := rfl
theorem s32 : (⟨#[32]⟩ : ByteArray).size = 1 := rfl
theorem s10 : (⟨#[10]⟩ : ByteArray).size = 1 := rfl
theorem s45 : (⟨#[45]⟩ : ByteArray).size = 1 := rfl
theorem s4510 : (⟨#[45, 10]⟩ : ByteArray).size = 2 := rfl
theorem spec_loop (l : List LE) (hl : l.length ≤ 60) (hg : Entries l) (d : Nat) : ∀ (i : Nat) (s : ByteArray), i + d = l.length → s.size ≤ 100 * i →
    ∃ t, Ev (fun k => spec_loText.l0 k s l l.length i) t ∧ bytesOf t = bytesOf s ++ (l.drop i).flatMap lineB := by
  induction d with
  | zero =>
    intro i s hi hs
    refine ⟨s, Ev.succ ?_, ?_⟩
    · simp only [spec_loText.l0]
      exact Ev.neg (by omega) (Ev.now _)
    · rw [List.drop_of_length_le (by omega)]; simp
  | succ d ih =>
    intro i s hi hs
    have hx : Entry l[i] := hg _ (List.getElem_mem (by omega))
    have hc := cN_size hx
    have he := eN_size hx
    have hB : lineB l[i] = bytesOf (cN l[i].f0) ++ [32] ++ bytesOf (eN l[i].f1.f0) ++ [32] ++ digits l[i].f1.f1.toNat ++ [32] ++ (if 0 ≤ l[i].f1.f2 then digits l[i].f1.f2.toNat else [45]) ++ [10] := rfl
    have hget := rdE_get (xs := l) (i := i) (by omega)
    obtain ⟨h0, h1, h2, h3, h4, h5, h6, h7⟩ := hx
    obtain ⟨u, hu, hd⟩ := l1Num l[i].f1.f1.toNat (by omega)
    rw [Int.toNat_of_nonneg h4] at hu
    have hus : u.size ≤ 11 := by rw [size_of, hd]; have := digits_length l[i].f1.f1.toNat; omega
    by_cases hcol : l[i].f1.f2 < 0
    · obtain ⟨t, ht, hb⟩ := ih (i + 1) ((s ++ (((((cN l[i].f0 ++ ⟨#[32]⟩) ++ eN l[i].f1.f0) ++ ⟨#[32]⟩) ++ u) ++ ⟨#[32]⟩)) ++ ⟨#[45, 10]⟩) (by omega) (by simp only [ByteArray.size_append, s32, s4510]; omega)
      refine ⟨t, Ev.succ ?_, ?_⟩
      · simp only [spec_loText.l0, spec_loColours.f, spec_loEnds.f, Option.bind_some]
        refine Ev.pos (by omega) (Ev.pos (by omega) (Ev.pos (by omega) ?_))
        rw [hget, wrap_nat (by omega)]
        simp only [cN_fold, eN_fold]
        refine Ev.pos h0 (Ev.pos (by simp only [List.length_cons, List.length_nil]; omega) (Ev.pos (by omega) (Ev.pos (by omega) (Ev.pos (by simp only [List.length_cons, List.length_nil]; omega) ?_))))
        refine Ev.pos (by simp only [ByteArray.size_append, s32]; omega) (Ev.pos (by simp only [ByteArray.size_append, s32]; omega) (Ev.bind hu ?_))
        refine Ev.pos (by simp only [ByteArray.size_append, s32]; omega) (Ev.pos (by simp only [ByteArray.size_append, s32]; omega) (Ev.pos (by simp only [ByteArray.size_append, s32]; omega) ?_))
        exact Ev.pos hcol (Ev.pos (by simp only [ByteArray.size_append, s32]; omega) ht)
      · rw [hb, drop_cons (xs := l) (i := i) (by omega), List.flatMap_cons, hB, if_neg (by omega)]
        simp only [bytesOf_append, b32, b4510, hd, List.append_assoc, List.cons_append, List.nil_append]
    · obtain ⟨v, hv, hd2⟩ := l1Num l[i].f1.f2.toNat (by omega)
      rw [Int.toNat_of_nonneg (by omega)] at hv
      have hvs : v.size ≤ 10 := by rw [size_of, hd2]; have := digits_length l[i].f1.f2.toNat; omega
      obtain ⟨t, ht, hb⟩ := ih (i + 1) ((s ++ (((((cN l[i].f0 ++ ⟨#[32]⟩) ++ eN l[i].f1.f0) ++ ⟨#[32]⟩) ++ u) ++ ⟨#[32]⟩)) ++ (v ++ ⟨#[10]⟩)) (by omega) (by simp only [ByteArray.size_append, s32, s10]; omega)
      refine ⟨t, Ev.succ ?_, ?_⟩
      · simp only [spec_loText.l0, spec_loColours.f, spec_loEnds.f, Option.bind_some]
        refine Ev.pos (by omega) (Ev.pos (by omega) (Ev.pos (by omega) ?_))
        rw [hget, wrap_nat (by omega)]
        simp only [cN_fold, eN_fold]
        refine Ev.pos h0 (Ev.pos (by simp only [List.length_cons, List.length_nil]; omega) (Ev.pos (by omega) (Ev.pos (by omega) (Ev.pos (by simp only [List.length_cons, List.length_nil]; omega) ?_))))
        refine Ev.pos (by simp only [ByteArray.size_append, s32]; omega) (Ev.pos (by simp only [ByteArray.size_append, s32]; omega) (Ev.bind hu ?_))
        refine Ev.pos (by simp only [ByteArray.size_append, s32]; omega) (Ev.pos (by simp only [ByteArray.size_append, s32]; omega) (Ev.pos (by simp only [ByteArray.size_append, s32]; omega) ?_))
        exact Ev.neg hcol (Ev.bind hv (Ev.pos (by omega) (Ev.pos (by simp only [ByteArray.size_append, s32, s10]; omega) ht)))
      · rw [hb, drop_cons (xs := l) (i := i) (by omega), List.flatMap_cons, hB, if_pos (by omega)]
        simp only [bytesOf_append, b32, b10, hd, hd2, List.append_assoc, List.cons_append, List.nil_append]
theorem loText (l : List LE) (h : LGood l) : ∃ t, Ev (fun k => spec_loText.f k l) t ∧ bytesOf t = l.flatMap lineB := by
  obtain ⟨a, e1, b1⟩ := spec_loop l h.1 h.2 l.length 0 ⟨#[]⟩ (by omega) (by decide)
  exact ⟨a, e1, by rw [b1]; rfl⟩
end Go.Proofs.YtfekgidcnidijaaDoor.ParseL
