/- ParseTable: the program's and the reference's function come to the same. Condition: at most 2^20 bytes. -/
import Derived.Test.YtegbbmnlfijbbaaTtText
import Derived.Test.YtegbbmnlfijbbaaSplit
import Derived.Test.YtegbbmnlfijbbaaPx2
import Derived.Test.YtegbbmnlfijbbaaPx31
import Derived.Test.YtegbbmnlfijbbaaPx32
import Derived.Test.YtegbbmnlfijbbaaPx33
namespace Go.Proofs.Ytegbbmnlfijbbaa.Bytes
open Go.RowKit Go.Proofs.Ytegbbmnlfijbbaa.P Go.Proofs.Ytegbbmnlfijbbaa.Base Go.Proofs.Ytegbbmnlfijbbaa.Tab Go.Proofs.YtegbbmnlfijbbaaW.PrintWords Go.Proofs.YtegbbmnlfijbbaaW.PrintLast Go.Proofs.YtegbbmnlfijbbaaW.PrintMore
set_option linter.unusedVariables false
set_option linter.unusedSimpArgs false
/-- s is the text of a valid table. -/
def IsText (s : ByteArray) (n : Int) (l : List Int) : Prop := TGood n l ∧ bytesOf s = textB n l
theorem text_inj {s : ByteArray} {n m : Int} {l l' : List Int} (h : IsText s n l) (h' : IsText s m l') : n = m ∧ l = l' := by
  have e := h.2.symm.trans h'.2
  simp only [textB, List.cons_append, List.nil_append, List.cons.injEq] at e
  refine ⟨by omega, ?_⟩
  exact List.map_inj_right (f := fun (x : Int) => 48 + x) (by intro x y hxy; replace hxy : 48 + x = 48 + y := hxy; omega) |>.1 e.2.2
/-- The bytes of s from i on, less 48. -/
def vals (s : ByteArray) (i : Nat) : List Int := ((bytesOf s).drop i).map fun b => b - 48
theorem vals_cons {s : ByteArray} {i : Nat} (h : i < s.size) : vals s i = (bt s (i : Int) - 48) :: vals s (i + 1) := by
  unfold vals
  rw [drop_cons (xs := bytesOf s) (i := i) (by rw [bytesOf_length]; exact h), List.map_cons, bt_get s h]
theorem vals_length (s : ByteArray) (i : Nat) : (vals s i).length = s.size - i := by simp [vals, bytesOf_length]
theorem byte_val (s : ByteArray) (i : Int) : wrap64 (wrap64 (bt s i) - 48) = bt s i - 48 := by
  have := bt_range s i
  rw [wrap_id (x := bt s i) (by omega) (by omega), wrap_id (by omega) (by omega)]
theorem impl_loop (s : ByteArray) (hs : s.size ≤ 1048576) (n : Int) (d : Nat) : ∀ (i : Nat) (acc : List Int), i + d = s.size → acc.length ≤ i →
    Ev (fun k => impl_ParseTable.l0 k s i n acc) (if TGood n (acc ++ vals s i) then (n, acc ++ vals s i, true) else (0, [], false)) := by
  induction d with
  | zero =>
    intro i acc hi ha
    refine Ev.succ ?_
    simp only [impl_ParseTable.l0]
    have hv : vals s i = [] := List.eq_nil_of_length_eq_zero (by rw [vals_length]; omega)
    rw [hv, List.append_nil]
    refine Ev.neg (by omega) (Ev.bind (implIsTable n acc (by omega)) ?_)
    refine Ev.split (fun c => Ev.val (Ev.now _) ?_) (fun c => Ev.val (Ev.now _) ?_)
    · rw [if_pos (of_decide_eq_true c)]
    · rw [if_neg (fun h => c (decide_eq_true h))]
  | succ d ih =>
    intro i acc hi ha
    refine Ev.succ ?_
    simp only [impl_ParseTable.l0]
    refine Ev.pos (by omega) (Ev.pos (by omega) (Ev.pos (by omega) ?_))
    rw [wrap_nat (by omega), byte_val]
    refine Ev.val (ih (i + 1) _ (by omega) (by simp; omega)) ?_
    rw [vals_cons (s := s) (i := i) (by omega)]
    simp only [List.append_assoc, List.singleton_append]
theorem impl_yes (s : ByteArray) (hs : s.size ≤ 1048576) (n : Int) (l : List Int) (h : IsText s n l) : Ev (fun k => impl_ParseTable.f k s) (n, l, true) := by
  have hl := h.1.len
  obtain ⟨hg, hb⟩ := id h
  have hsz : s.size = l.length + 2 := by rw [size_of, hb]; simp [textB]
  have h0 : bt s 0 = 48 + n := by rw [← rd_bytesOf, hb]; rfl
  have h1 : bt s 1 = 58 := by rw [← rd_bytesOf, hb]; rfl
  have hv : vals s 2 = l := by
    unfold vals
    rw [hb]
    simp only [textB, List.cons_append, List.nil_append, List.drop_succ_cons, List.drop_zero, List.map_map]
    conv => rhs; rw [← List.map_id l]
    apply List.map_congr_left
    intro x _
    simp only [Function.comp, id]; omega
  have hn0 := hg.1
  have hn4 := hg.2.1
  unfold impl_ParseTable.f
  refine Ev.neg (by omega) (Ev.pos (by omega) (Ev.neg (by omega) (Ev.neg (by omega) (Ev.pos (by omega) (Ev.succ ?_)))))
  simp only [impl_ParseTable.j0]
  refine Ev.neg (by rw [h1]; decide) (Ev.pos (by omega) ?_)
  have e : (bt s 0 - 48) % 256 = n := by omega
  rw [e]
  refine Ev.val (impl_loop s hs n (s.size - 2) 2 [] (by omega) (by simp)) ?_
  rw [List.nil_append, hv, if_pos hg]
theorem impl_no (s : ByteArray) (hs : s.size ≤ 1048576) (h : ¬ ∃ n l, IsText s n l) : Ev (fun k => impl_ParseTable.f k s) (0, [], false) := by
  unfold impl_ParseTable.f
  have out : ∀ b : Bool, b = true → Ev (fun k => impl_ParseTable.j0 k s b) (0, [], false) := by
    intro b hb
    refine Ev.succ ?_
    simp only [impl_ParseTable.j0]
    exact Ev.pos hb (Ev.now _)
  refine Ev.split (fun _ => out _ rfl) (fun c => Ev.pos (by omega) ?_)
  refine Ev.split (fun _ => out _ rfl) (fun c1 => ?_)
  refine Ev.split (fun _ => out _ rfl) (fun c2 => Ev.pos (by omega) ?_)
  by_cases c3 : bt s 1 = 58
  · refine Ev.succ ?_
    simp only [impl_ParseTable.j0]
    refine Ev.neg (by rw [c3]; decide) (Ev.pos (by omega) ?_)
    have e : (bt s 0 - 48) % 256 = bt s 0 - 48 := by omega
    rw [e]
    refine Ev.val (impl_loop s hs (bt s 0 - 48) (s.size - 2) 2 [] (by omega) (by simp)) ?_
    rw [List.nil_append]
    rw [if_neg]
    intro hg
    refine h ⟨bt s 0 - 48, vals s 2, hg, ?_⟩
    have hlen : (bytesOf s).length = s.size := bytesOf_length s
    have e0 : bytesOf s = bt s 0 :: bt s 1 :: (bytesOf s).drop 2 := by
      have a0 := drop_cons (xs := bytesOf s) (i := 0) (by omega)
      have a1 := drop_cons (xs := bytesOf s) (i := 1) (by omega)
      rw [List.drop_zero] at a0
      have b0 := bt_get s (i := 0) (by omega)
      have b1 := bt_get s (i := 1) (by omega)
      rw [a1] at a0
      have b0' : bt s 0 = (bytesOf s)[0]'(by omega) := b0
      have b1' : bt s 1 = (bytesOf s)[1]'(by omega) := b1
      rw [b0', b1']
      exact a0
    have e1 : (bytesOf s).drop 2 = (vals s 2).map (fun x => 48 + x) := by
      unfold vals
      rw [List.map_map]
      conv => lhs; rw [← List.map_id ((bytesOf s).drop 2)]
      apply List.map_congr_left
      intro x _
      simp only [Function.comp, id]; omega
    unfold textB
    rw [← e1, show 48 + (bt s 0 - 48) = bt s 0 by omega]
    conv => lhs; rw [e0, c3]
    rfl
  · exact out _ (by simpa using c3)
theorem l1Read_any (s : ByteArray) (hs : s.size ≤ 1048576) : ∃ r, Ev (fun k => spec_l1Read.f k s) r := by
  have core : ∀ (d i : Nat) (x : Int), s.size ≤ i + d → i ≤ s.size → ∃ r, Ev (fun k => spec_l1Read.l0 k s x i) r := by
    intro d
    induction d with
    | zero =>
      intro i x h1 h2
      refine ⟨x, Ev.succ ?_⟩
      simp only [spec_l1Read.l0]
      exact Ev.neg (by omega) (Ev.now _)
    | succ d ih =>
      intro i x h1 h2
      by_cases c : i < s.size
      · by_cases c1 : bt s (i : Int) < 48
        · refine ⟨-1, Ev.succ ?_⟩
          simp only [spec_l1Read.l0]
          exact Ev.pos (by omega) (Ev.pos (by omega) (Ev.pos c1 (Ev.now _)))
        · by_cases c2 : bt s (i : Int) > 57
          · refine ⟨-1, Ev.succ ?_⟩
            simp only [spec_l1Read.l0]
            exact Ev.pos (by omega) (Ev.pos (by omega) (Ev.neg c1 (Ev.pos c2 (Ev.now _))))
          · obtain ⟨r, hr⟩ := ih (i + 1) (wrap64 (wrap64 (10 * x) + (bt s (i : Int) - 48) % 256)) (by omega) (by omega)
            refine ⟨r, Ev.succ ?_⟩
            simp only [spec_l1Read.l0]
            refine Ev.pos (by omega) (Ev.pos (by omega) (Ev.neg c1 (Ev.neg c2 ?_)))
            rw [wrap_nat (by omega)]; exact hr
      · refine ⟨x, Ev.succ ?_⟩
        simp only [spec_l1Read.l0]
        exact Ev.neg (by omega) (Ev.now _)
  have jn : ∀ b : Bool, ∃ r, Ev (fun k => spec_l1Read.j0 k s b) r := by
    intro b
    cases b with
    | true =>
      refine ⟨-1, Ev.succ ?_⟩
      simp only [spec_l1Read.j0]
      exact Ev.pos trivial (Ev.now _)
    | false =>
      obtain ⟨r, hr⟩ := core s.size 0 0 (by omega) (by omega)
      refine ⟨r, Ev.succ ?_⟩
      simp only [spec_l1Read.j0]
      exact Ev.neg (by simp) hr
  unfold spec_l1Read.f spec_l1In.f
  by_cases c : (s.size : Int) ≥ 1
  · by_cases c1 : (s.size : Int) ≤ 6
    · by_cases c2 : bt s 0 = 48
      · obtain ⟨r, hr⟩ := jn (decide ((s.size : Int) > 1))
        refine ⟨r, ?_⟩
        simp only [if_pos c, decide_eq_true c1, Option.bind_some]
        exact Ev.pos trivial (Ev.pos (by omega) (Ev.pos c2 hr))
      · obtain ⟨r, hr⟩ := jn false
        refine ⟨r, ?_⟩
        simp only [if_pos c, decide_eq_true c1, Option.bind_some]
        exact Ev.pos trivial (Ev.pos (by omega) (Ev.neg c2 hr))
    · obtain ⟨r, hr⟩ := jn true
      refine ⟨r, ?_⟩
      simp only [if_pos c, decide_eq_false c1, Option.bind_some]
      exact Ev.neg (by simp) hr
  · obtain ⟨r, hr⟩ := jn true
    refine ⟨r, ?_⟩
    simp only [if_neg c, Option.bind_some]
    exact Ev.neg (by simp) hr
theorem l1Read_one (s : ByteArray) (hs : s.size = 1) (n : Int) (h0 : 0 ≤ n) (h9 : n ≤ 9) (h : bt s 0 = 48 + n) : Ev (fun k => spec_l1Read.f k s) n := by
  unfold spec_l1Read.f spec_l1In.f
  simp only [hs, show ((1 : Nat) : Int) ≥ 1 by omega, if_true, show decide (((1 : Nat) : Int) ≤ 6) = true by decide, Option.bind_some]
  have core : Ev (fun k => spec_l1Read.l0 k s 0 0) n := by
    refine Ev.succ ?_
    simp only [spec_l1Read.l0]
    refine Ev.pos (by omega) (Ev.pos (by omega) (Ev.neg (by omega) (Ev.neg (by omega) (Ev.succ ?_))))
    have e : wrap64 (wrap64 (10 * 0) + (bt s 0 - 48) % 256) = n := by
      rw [h, wrap_id (x := 10 * 0) (by omega) (by omega), wrap_id (by omega) (by omega)]; omega
    rw [e, show wrap64 (0 + 1) = 1 from wrap_id (by omega) (by omega)]
    simp only [spec_l1Read.l0]
    exact Ev.neg (by omega) (Ev.now _)
  have jn : Ev (fun k => spec_l1Read.j0 k s false) n := by
    refine Ev.succ ?_
    simp only [spec_l1Read.j0]
    exact Ev.neg (by simp) core
  refine Ev.pos (by omega) (Ev.split (fun c => ?_) (fun c => jn))
  rw [show decide (((1 : Nat) : Int) > 1) = false by decide]
  exact jn
theorem rdOf0 (a b : ByteArray) (t : List ByteArray) : rdOf ByteArray.empty (a :: b :: t) 0 = a := rfl
theorem rdOf1 (a b : ByteArray) (t : List ByteArray) : rdOf ByteArray.empty (a :: b :: t) 1 = b := rfl
theorem spec_loop (s a b : ByteArray) (hs : s.size ≤ 1048576) (hb : b.size ≤ 16) (n : Int) (d : Nat) : ∀ (i : Nat) (acc : List Int), i + d = b.size → acc.length ≤ i →
    Ev (fun k => spec_ttParse.l0 k s [a, b] i n acc) (if TGood n (acc ++ vals b i) ∧ bytesOf s = textB n (acc ++ vals b i) then (n, acc ++ vals b i, true) else (0, [], false)) := by
  induction d with
  | zero =>
    intro i acc hi ha
    refine Ev.succ ?_
    simp only [spec_ttParse.l0, rdOf1]
    have hv : vals b i = [] := List.eq_nil_of_length_eq_zero (by rw [vals_length]; omega)
    rw [hv, List.append_nil]
    refine Ev.pos (by simp) (Ev.neg (by omega) (Ev.bind (ttGood n acc (by omega)) ?_))
    refine Ev.split (fun c => ?_) (fun c => Ev.val (Ev.now _) ?_)
    · have hg := of_decide_eq_true c
      obtain ⟨t, ht, hd⟩ := ttText n acc hg
      refine Ev.bind ht ?_
      refine Ev.split (fun e => Ev.val (Ev.now _) ?_) (fun e => Ev.val (Ev.now _) ?_)
      · rw [if_pos ⟨hg, by rw [← (toList_iff t s).1 e, hd]⟩]
      · rw [if_neg (fun hh => e ((toList_iff t s).2 (by rw [hd, hh.2])))]
    · rw [if_neg (fun h => c (decide_eq_true h.1))]
  | succ d ih =>
    intro i acc hi ha
    refine Ev.succ ?_
    simp only [spec_ttParse.l0, rdOf1]
    refine Ev.pos (by simp) (Ev.pos (by omega) (Ev.pos (by omega) (Ev.pos (by omega) ?_)))
    rw [wrap_nat (by omega), byte_val]
    refine Ev.val (ih (i + 1) _ (by omega) (by simp; omega)) ?_
    rw [vals_cons (s := b) (i := i) (by omega)]
    simp only [List.append_assoc, List.singleton_append]
theorem spec_out (s : ByteArray) (w : List ByteArray) (b : Bool) (hb : b = true) : Ev (fun k => spec_ttParse.j0 k s w b) (0, [], false) := by
  refine Ev.succ ?_
  simp only [spec_ttParse.j0]
  exact Ev.pos hb (Ev.now _)
theorem spec_no (s : ByteArray) (hs : s.size ≤ 1048576) (h : ¬ ∃ n l, IsText s n l) : Ev (fun k => spec_ParseTable.f k s) (0, [], false) := by
  have core : Ev (fun k => spec_ttParse.f k s) (0, [], false) := by
    unfold spec_ttParse.f
    refine Ev.bind (l1Split s 58 hs) ?_
    generalize pieces s 58 0 0 s.size = w
    refine Ev.split (fun c => Ev.pos (by omega) ?_) (fun c => spec_out s w true rfl)
    obtain ⟨a, b, rfl⟩ : ∃ a b, w = [a, b] := by
      match w, c with
      | [a, b], _ => exact ⟨a, b, rfl⟩
      | [], c => simp at c
      | [a], c => simp at c
      | a :: b :: e :: t, c => simp at c; omega
    rw [rdOf1]
    by_cases c2 : (b.size : Int) > 16
    · exact spec_out s _ _ (decide_eq_true c2)
    · rw [decide_eq_false c2]
      refine Ev.succ ?_
      simp only [spec_ttParse.j0, rdOf0]
      refine Ev.neg (by simp) (Ev.pos (by simp) ?_)
      have ha : a.size ≤ 1048576 ∨ 1048576 < a.size := by omega
      rcases ha with ha | ha
      · obtain ⟨r, hr⟩ := l1Read_any a ha
        refine Ev.bind hr ?_
        refine Ev.val (spec_loop s a b hs (by omega) r b.size 0 [] (by omega) (by simp)) ?_
        rw [if_neg]
        exact fun hh => h ⟨_, _, hh⟩
      · obtain ⟨r, hr⟩ : ∃ r, Ev (fun k => spec_l1Read.f k a) r := by
          refine ⟨-1, ?_⟩
          unfold spec_l1Read.f spec_l1In.f
          simp only [show (a.size : Int) ≥ 1 by omega, if_true, show decide ((a.size : Int) ≤ 6) = false from decide_eq_false (by omega), Option.bind_some]
          refine Ev.neg (by simp) (Ev.succ ?_)
          simp only [spec_l1Read.j0]
          exact Ev.pos trivial (Ev.now _)
        refine Ev.bind hr ?_
        refine Ev.val (spec_loop s a b hs (by omega) r b.size 0 [] (by omega) (by simp)) ?_
        rw [if_neg]
        exact fun hh => h ⟨_, _, hh⟩
  unfold spec_ParseTable.f
  exact Ev.bind core (Ev.now _)
theorem spec_yes (s : ByteArray) (hs : s.size ≤ 1048576) (n : Int) (l : List Int) (h : IsText s n l) : Ev (fun k => spec_ParseTable.f k s) (n, l, true) := by
  have hl := h.1.len
  obtain ⟨hg, hb⟩ := id h
  have hsz : s.size = l.length + 2 := by rw [size_of, hb]; simp [textB]
  have h0 : bt s 0 = 48 + n := by rw [← rd_bytesOf, hb]; rfl
  have h1 : bt s 1 = 58 := by rw [← rd_bytesOf, hb]; rfl
  have hrest : ∀ j : Nat, 2 ≤ j → j < 2 + l.length → bt s (j : Int) ≠ 58 := by
    intro j hj1 hj2
    obtain ⟨q, rfl⟩ : ∃ q, j = q + 2 := ⟨j - 2, by omega⟩
    have hq : q < l.length := by omega
    have hbq := hg.2.2.2.get hq
    have : bt s ((q + 2 : Nat) : Int) = 48 + l[q] := by
      rw [← rd_bytesOf, hb, rd_get (by simp [textB]; omega)]
      simp [textB]
    rw [this]; omega
  have hp : pieces s 58 0 0 s.size = [s.extract 0 1, s.extract 2 s.size] := by
    obtain ⟨d, hd⟩ : ∃ d, s.size = d + 2 := ⟨l.length, hsz⟩
    have hpn := pieces_none s 58 d 2 2 (fun j hj1 hj2 => hrest j hj1 (by omega))
    have e0 : ¬ bt s ((0 : Nat) : Int) = 58 := by
      have hn := hg.2.1
      have : bt s ((0 : Nat) : Int) = 48 + n := h0
      omega
    have e1 : bt s ((0 + 1 : Nat) : Int) = 58 := h1
    have : pieces s 58 0 0 (d + 2) = [s.extract 0 1, s.extract 2 s.size] := by
      rw [show d + 2 = d + 1 + 1 from rfl]
      simp only [pieces]
      rw [if_neg e0, if_pos e1, hpn]
    rw [hd] at *
    rw [this, hd]
  have ha : bytesOf (s.extract 0 1) = [48 + n] := by rw [bytesOf_extract, hb]; rfl
  have hbb : bytesOf (s.extract 2 s.size) = l.map (fun x => 48 + x) := by
    rw [bytesOf_extract, List.take_of_length_le (by rw [bytesOf_length]; omega), hb]; rfl
  have hbs : (s.extract 2 s.size).size = l.length := by rw [size_of, hbb]; simp
  have core : Ev (fun k => spec_ttParse.f k s) (n, l, true) := by
    unfold spec_ttParse.f
    refine Ev.bind (l1Split s 58 hs) ?_
    rw [hp, rdOf1]
    refine Ev.pos rfl (Ev.pos (by simp) ?_)
    rw [decide_eq_false (by omega)]
    refine Ev.succ ?_
    simp only [spec_ttParse.j0, rdOf0]
    refine Ev.neg (by simp) (Ev.pos (by simp) ?_)
    refine Ev.bind (l1Read_one (s.extract 0 1) (by rw [size_of, ha]; rfl) n hg.1 (by have := hg.2.1; omega) (by rw [← rd_bytesOf, ha]; rfl)) ?_
    refine Ev.val (spec_loop s (s.extract 0 1) (s.extract 2 s.size) hs (by omega) n (s.extract 2 s.size).size 0 [] (by omega) (by simp)) ?_
    have hv : vals (s.extract 2 s.size) 0 = l := by
      unfold vals
      rw [hbb]
      simp only [List.drop_zero, List.map_map]
      conv => rhs; rw [← List.map_id l]
      apply List.map_congr_left
      intro x _
      simp only [Function.comp, id]; omega
    rw [List.nil_append, hv, if_pos ⟨hg, hb⟩]
  unfold spec_ParseTable.f
  exact Ev.bind core (Ev.now _)
theorem both (s : ByteArray) (hs : s.size ≤ 1048576) : ∃ a L ok, (L : List Int).length ≤ 1048576 ∧ Ev (fun z => spec_ParseTable.f z s) (a, L, ok) ∧ Ev (fun z => impl_ParseTable.f z s) (a, L, ok) := by
  by_cases h : ∃ n l, IsText s n l
  · obtain ⟨n, l, h⟩ := h
    exact ⟨n, l, true, by have := h.1.len; omega, spec_yes s hs n l h, impl_yes s hs n l h⟩
  · exact ⟨0, [], false, by simp, spec_no s hs h, impl_no s hs h⟩
end Go.Proofs.Ytegbbmnlfijbbaa.Bytes
