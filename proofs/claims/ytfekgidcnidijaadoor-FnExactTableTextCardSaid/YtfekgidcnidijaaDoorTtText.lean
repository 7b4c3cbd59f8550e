/- A valid table's text, as the reference writes it. No condition beyond a valid table. -/
import Derived.Test.YtfekgidcnidijaaDoorNumText
import Derived.Test.YtfekgidcnidijaaDoorTab
import Derived.Test.YtfekgidcnidijaaDoorPx1
namespace Go.Proofs.YtfekgidcnidijaaDoor.Bytes
open Go.RowKit Go.Proofs.YtfekgidcnidijaaDoor.P Go.Proofs.YtfekgidcnidijaaDoor.Base Go.Proofs.YtfekgidcnidijaaDoor.Tab Go.Proofs.YtfekgidcnidijaaDoorW.PrintWords Go.Proofs.YtfekgidcnidijaaDoorW.PrintLast Go.Proofs.YtfekgidcnidijaaDoorW.PrintMore
set_option linter.unusedVariables false
set_option linter.unusedSimpArgs false
def textB (n : Int) (l : List Int) : List Int := [48 + n, 58] ++ l.map (fun x => 48 + x)
theorem ttText_loop (l : List Int) (hl : l.length ≤ 16) (hb : Bits l) (d : Nat) : ∀ (i : Nat) (s : ByteArray), i + d = l.length → s.size ≤ 100 + i → ∃ t, Ev (fun k => spec_ttText.l0 k s l l.length i) t ∧ bytesOf t = bytesOf s ++ (l.drop i).map (fun x => 48 + x) := by
  induction d with
  | zero =>
    intro i s hi hs
    refine ⟨s, Ev.succ ?_, ?_⟩
    · simp only [spec_ttText.l0]
      exact Ev.neg (by omega) (Ev.now _)
    · rw [List.drop_of_length_le (by omega)]; simp
  | succ d ih =>
    intro i s hi hs
    have hbi := hb.get (i := i) (by omega)
    obtain ⟨n, hn, hn1⟩ : ∃ n : Nat, l[i] = (n : Int) ∧ n < 10 := by
      rcases hbi with h | h
      · exact ⟨0, by rw [h]; rfl, by omega⟩
      · exact ⟨1, by rw [h]; rfl, by omega⟩
    obtain ⟨u, hu, hd⟩ := l1Num n (by omega)
    rw [digits_small hn1] at hd
    have hus : u.size = 1 := by rw [size_of, hd]; rfl
    have hsz : (s ++ u).size = s.size + 1 := by rw [size_of, bytesOf_append, List.length_append, bytesOf_length, bytesOf_length, hus]
    obtain ⟨t, ht, hd'⟩ := ih (i + 1) (s ++ u) (by omega) (by omega)
    refine ⟨t, Ev.succ ?_, ?_⟩
    · simp only [spec_ttText.l0]
      refine Ev.pos (by omega) (Ev.pos (by omega) (Ev.pos (by omega) ?_))
      rw [rd_get (by omega), hn, wrap_nat (by omega)]
      exact Ev.bind hu (Ev.pos (by omega) ht)
    · rw [hd', bytesOf_append, hd, drop_cons (xs := l) (i := i) (by omega), List.map_cons, hn, List.append_assoc]
      rfl
theorem ttText (n : Int) (l : List Int) (h : TGood n l) : ∃ t, Ev (fun k => spec_ttText.f k n l) t ∧ bytesOf t = textB n l := by
  have hl := h.len
  obtain ⟨h0, h1, _, hb⟩ := h
  obtain ⟨z, rfl⟩ := Int.eq_ofNat_of_zero_le h0
  obtain ⟨u, hu, hd⟩ := l1Num z (by omega)
  rw [digits_small (by omega)] at hd
  have hus : u.size = 1 := by rw [size_of, hd]; rfl
  have hc : bytesOf (⟨#[58]⟩ : ByteArray) = [58] := rfl
  have hsz : (u ++ (⟨#[58]⟩ : ByteArray)).size = 2 := by rw [size_of, bytesOf_append, List.length_append, bytesOf_length, hc, hus]; rfl
  obtain ⟨t, ht, hd'⟩ := ttText_loop l (by omega) hb l.length 0 (u ++ ⟨#[58]⟩) (by omega) (by omega)
  refine ⟨t, ?_, ?_⟩
  · unfold spec_ttText.f
    exact Ev.bind hu (Ev.pos (by omega) ht)
  · rw [hd', bytesOf_append, hd, hc]; simp [textB]
end Go.Proofs.YtfekgidcnidijaaDoor.Bytes
