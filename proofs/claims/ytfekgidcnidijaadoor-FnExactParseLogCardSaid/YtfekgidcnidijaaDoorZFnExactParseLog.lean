/- The pure statement of the law FnExactParseLog: its printed function comes to true, whatever the string. -/
import Derived.Test.YtfekgidcnidijaaDoorLogMark
import Derived.Test.YtfekgidcnidijaaDoorLogHeld
import Derived.Test.YtfekgidcnidijaaDoorLoText
import Derived.Test.YtfekgidcnidijaaDoorLines
import Derived.Test.YtfekgidcnidijaaDoorReadNum
import Derived.Test.YtfekgidcnidijaaDoorPx1
import Derived.Test.YtfekgidcnidijaaDoorPx2
import Derived.Test.YtfekgidcnidijaaDoorPx3
namespace Go.Proofs.YtfekgidcnidijaaDoor.PureFnExactParseLog
open Go.RowKit Go.Proofs.YtfekgidcnidijaaDoor.P Go.Proofs.YtfekgidcnidijaaDoor.Base Go.Proofs.YtfekgidcnidijaaDoor.Log Go.Proofs.YtfekgidcnidijaaDoor.Bytes Go.Proofs.YtfekgidcnidijaaDoor.ParseL Go.Proofs.YtfekgidcnidijaaDoorW.PrintWords Go.Proofs.YtfekgidcnidijaaDoorW.PrintLast Go.Proofs.YtfekgidcnidijaaDoorW.PrintMore
set_option linter.unusedVariables false
set_option linter.unusedSimpArgs false

theorem ev_uniq {α : Type} {g : Nat → Option α} {r q : α} (h : Ev g r) (h' : Ev g q) : r = q := by
  obtain ⟨a, ha⟩ := h
  obtain ⟨b, hb⟩ := h'
  exact Option.some.inj ((ha (max a b) (Nat.le_max_left _ _)).symm.trans (hb (max a b) (Nat.le_max_right _ _)))
/-! a line's words -/
def colB (x : LE) : List Int := if 0 ≤ x.f1.f2 then digits x.f1.f2.toNat else [45]
def wordsB (x : LE) : List (List Int) := [bytesOf (cN x.f0), bytesOf (eN x.f1.f0), digits x.f1.f1.toNat, colB x]
def body (x : LE) : List Int := joinC 32 (wordsB x)
theorem lineB_body (x : LE) : lineB x = body x ++ [10] := by
  simp only [lineB, body, wordsB, joinC, colB, List.append_assoc, List.cons_append, List.nil_append]
def textL (l : List LE) : List Int := l.flatMap lineB
theorem textL_body (l : List LE) : textL l = (l.map body).flatMap fun y => y ++ [10] := by
  unfold textL
  induction l with
  | nil => rfl
  | cons x l ih => rw [List.flatMap_cons, List.map_cons, List.flatMap_cons, ih, lineB_body]
def Clean (l : List Int) : Prop := ∀ y, y ∈ l → 33 ≤ y
theorem clean_digits (n : Nat) : Clean (digits n) := fun y hy => by have := digit_range n y hy; omega
theorem clean_cN {x : LE} (h : Entry x) : Clean (bytesOf (cN x.f0)) := by
  have h0 : x.f0 = 0 ∨ x.f0 = 1 := by have := h.1; have := h.2.1; omega
  rcases h0 with h0 | h0 <;> rw [h0] <;> unfold Clean <;> decide
theorem clean_eN {x : LE} (h : Entry x) : Clean (bytesOf (eN x.f1.f0)) := by
  have h0 : x.f1.f0 = 1 ∨ x.f1.f0 = 2 ∨ x.f1.f0 = 3 := by have := h.2.2.1; have := h.2.2.2.1; omega
  rcases h0 with h0 | h0 | h0 <;> rw [h0] <;> unfold Clean <;> decide
theorem clean_col (x : LE) (h : -1 ≤ x.f1.f2) : ∀ y, y ∈ colB x → 33 ≤ y := by
  unfold colB
  split
  · exact clean_digits _
  · intro y hy; simp at hy; omega
theorem Clean.no {l : List Int} (h : Clean l) {c : Int} (hc : c < 33) : c ∉ l := fun hm => by have := h c hm; omega
theorem cut_body {x : LE} (h : Entry x) : cut 32 (body x) = wordsB x := by
  unfold body wordsB
  simp only [joinC]
  rw [cut_append _ _ _ ((clean_cN h).no (by omega)), cut_append _ _ _ ((clean_eN h).no (by omega)), cut_append _ _ _ ((clean_digits _).no (by omega)), cut_none _ _ (Clean.no (clean_col x h.2.2.2.2.2.2.1) (by omega))]
theorem body_no {x : LE} (h : Entry x) : (10 : Int) ∉ body x := by
  unfold body wordsB
  simp only [joinC]
  intro hm
  have a := (clean_cN h).no (c := 10) (by omega)
  have b := (clean_eN h).no (c := 10) (by omega)
  have c := (clean_digits x.f1.f1.toNat).no (c := 10) (by omega)
  have d := Clean.no (clean_col x h.2.2.2.2.2.2.1) (c := 10) (by omega)
  simp only [List.mem_append, List.mem_cons, a, b, c, d, or_false, false_or] at hm
  omega
theorem cut_text {l : List LE} (h : Entries l) : cut 10 (textL l) = l.map body ++ [[]] := by
  rw [textL_body]
  refine cut_lines 10 _ (fun y hy => ?_)
  obtain ⟨x, hx, rfl⟩ := List.mem_map.1 hy
  exact body_no (h x hx)
theorem cut_len {c : Int} : ∀ {xs : List Int} {y : List Int}, y ∈ cut c xs → y.length ≤ xs.length
  | [], y, h => by simp [cut] at h; simp [h]
  | x :: xs, y, h => by
    simp only [cut] at h
    split at h
    · rcases List.mem_cons.1 h with rfl | h
      · simp
      · have := cut_len h; simp only [List.length_cons]; omega
    · cases hc : cut c xs with
      | nil => exact absurd hc (cut_ne _ _)
      | cons z zs =>
        rw [hc] at h
        simp only [preH] at h
        rcases List.mem_cons.1 h with rfl | h
        · have := cut_len (c := c) (xs := xs) (y := z) (by rw [hc]; simp)
          simp only [List.length_append, List.length_cons, List.length_nil]; omega
        · have := cut_len (c := c) (xs := xs) (y := y) (by rw [hc]; simp [h])
          simp only [List.length_cons]; omega
theorem four {ls : List ByteArray} {a b c d : List Int} (h : ls.map bytesOf = [a, b, c, d]) : ∃ w0 w1 w2 w3, ls = [w0, w1, w2, w3] ∧ bytesOf w0 = a ∧ bytesOf w1 = b ∧ bytesOf w2 = c ∧ bytesOf w3 = d := by
  match ls, h with
  | [w0, w1, w2, w3], h => simp only [List.map_cons, List.map_nil, List.cons.injEq, and_true] at h; exact ⟨w0, w1, w2, w3, rfl, h.1, h.2.1, h.2.2.1, h.2.2.2⟩
theorem four_len {ls : List ByteArray} (h : (ls.length : Int) = 4) : ∃ w0 w1 w2 w3, ls = [w0, w1, w2, w3] := by
  match ls, h with
  | [w0, w1, w2, w3], _ => exact ⟨w0, w1, w2, w3, rfl⟩
  | [], h => simp at h
  | [_], h => simp at h
  | [_, _], h => simp at h
  | [_, _, _], h => simp at h
  | _ :: _ :: _ :: _ :: _ :: _, h => simp at h; omega
theorem rd40 (a b c d : ByteArray) : rdOf ByteArray.empty [a, b, c, d] 0 = a := rfl
theorem rd41 (a b c d : ByteArray) : rdOf ByteArray.empty [a, b, c, d] 1 = b := rfl
theorem rd42 (a b c d : ByteArray) : rdOf ByteArray.empty [a, b, c, d] 2 = c := rfl
theorem rd43 (a b c d : ByteArray) : rdOf ByteArray.empty [a, b, c, d] 3 = d := rfl
theorem entry_eq {x y : LE} (h0 : x.f0 = y.f0) (h1 : x.f1.f0 = y.f1.f0) (h2 : x.f1.f1 = y.f1.f1) (h3 : x.f1.f2 = y.f1.f2) : x = y := by
  cases x with | mk a b => cases b with | mk p q r => cases y with | mk a' b' => cases b' with | mk p' q' r' => simp_all

/-! the reference -/
def nameAt (w : ByteArray) : List ByteArray → Nat → Int
  | [], _ => -1
  | a :: l, i => if bytesOf a = bytesOf w then (i : Int) else nameAt w l (i + 1)
theorem loName_loop (w : ByteArray) (xs : List ByteArray) (hl : xs.length ≤ 100) (d : Nat) : ∀ i : Nat, i + d = xs.length → Ev (fun k => spec_loName.l0 k w xs xs.length i) (nameAt w (xs.drop i) i) := by
  induction d with
  | zero =>
    intro i hi
    refine Ev.succ ?_
    simp only [spec_loName.l0]
    refine Ev.neg (by omega) (Ev.val (Ev.now _) ?_)
    rw [List.drop_of_length_le (by omega)]; rfl
  | succ d ih =>
    intro i hi
    refine Ev.succ ?_
    simp only [spec_loName.l0]
    have hg : rdOf ByteArray.empty xs (i : Int) = xs[i] := by simp [rdOf, List.getElem?_eq_getElem (show i < xs.length by omega)]
    rw [hg, wrap_nat (by omega), drop_cons (xs := xs) (by omega)]
    refine Ev.pos (by omega) (Ev.pos (by omega) (Ev.pos (by omega) ?_))
    simp only [nameAt]
    refine Ev.split (fun c => Ev.val (Ev.now _) ?_) (fun c => Ev.val (ih (i + 1) (by omega)) ?_)
    · rw [if_pos ((toList_iff _ _).1 c)]
    · rw [if_neg (fun h => c ((toList_iff _ _).2 h))]
theorem loName (w : ByteArray) (xs : List ByteArray) (hl : xs.length ≤ 100) : Ev (fun k => spec_loName.f k xs w) (nameAt w xs 0) := by
  unfold spec_loName.f
  exact loName_loop w xs hl xs.length 0 (by omega)
theorem name_c {x : LE} (h : Entry x) (w : ByteArray) (hw : bytesOf w = bytesOf (cN x.f0)) : nameAt w [(⟨#[98, 108, 117, 101]⟩ : ByteArray), (⟨#[114, 101, 100]⟩ : ByteArray)] 0 = x.f0 := by
  have h0 : x.f0 = 0 ∨ x.f0 = 1 := by have := h.1; have := h.2.1; omega
  rcases h0 with h0 | h0 <;> rw [h0] at hw ⊢ <;> simp only [nameAt, hw] <;> decide
theorem name_e {x : LE} (h : Entry x) (w : ByteArray) (hw : bytesOf w = bytesOf (eN x.f1.f0)) : nameAt w [(⟨#[]⟩ : ByteArray), (⟨#[98, 111, 116, 116, 111, 109]⟩ : ByteArray), (⟨#[115, 116, 111, 112]⟩ : ByteArray), (⟨#[108, 111, 115, 116]⟩ : ByteArray)] 0 = x.f1.f0 := by
  have h0 : x.f1.f0 = 1 ∨ x.f1.f0 = 2 ∨ x.f1.f0 = 3 := by have := h.2.2.1; have := h.2.2.2.1; omega
  rcases h0 with h0 | h0 | h0 <;> rw [h0] at hw ⊢ <;> simp only [nameAt, hw] <;> decide
theorem read_col {x : LE} (h : Entry x) (w : ByteArray) (hw : bytesOf w = colB x) : Ev (fun k => spec_l1Read.f k w) x.f1.f2 := by
  unfold colB at hw
  have := h.2.2.2.2.2.2.1
  have := h.2.2.2.2.2.2.2
  split at hw
  · exact Ev.val (l1Read_digits w _ (by omega) hw) (by omega)
  · exact Ev.val (l1Read_minus w hw) (by omega)
theorem size_mem {s y : ByteArray} {c : Int} {ls : List ByteArray} (h : ls.map bytesOf = cut c (bytesOf s)) (hy : y ∈ ls) : y.size ≤ s.size := by
  have := cut_len (c := c) (xs := bytesOf s) (y := bytesOf y) (by rw [← h]; exact List.mem_map_of_mem hy)
  rw [size_of, size_of]; exact this
theorem spec_loop (s : ByteArray) (hs : s.size ≤ 1048576) (ls : List ByteArray) (hn : ls.length ≤ 60) (hsz : ∀ y, y ∈ ls → y.size ≤ 1048576) (d : Nat) : ∀ (i : Nat) (acc : List LE), i + d = ls.length → acc.length ≤ i →
    ∃ R : List LE × Bool, Ev (fun k => spec_ParseLog.l0 k s acc ls ls.length i) R ∧ (∀ es, (ls.drop i).map bytesOf = es.map body → LGood (acc ++ es) → bytesOf s = textL (acc ++ es) → R = (acc ++ es, true)) ∧
      (R = ([], false) ∨ ∃ es, LGood es ∧ bytesOf s = textL es ∧ R = (es, true)) := by
  induction d with
  | zero =>
    intro i acc hi ha
    have hnil : ls.drop i = [] := List.drop_of_length_le (by omega)
    have hes : ∀ es : List LE, (ls.drop i).map bytesOf = es.map body → es = [] := by
      intro es h
      rw [hnil] at h
      cases es with
      | nil => rfl
      | cons e es => simp at h
    by_cases hg : LGood acc
    · obtain ⟨t, ht, hd⟩ := loText acc hg
      by_cases ht' : t.toList = s.toList
      · have hb : bytesOf s = textL acc := by rw [← (toList_iff t s).1 ht', hd]; rfl
        refine ⟨(acc, true), Ev.succ ?_, fun es h _ _ => ?_, .inr ⟨acc, hg, hb, rfl⟩⟩
        · simp only [spec_ParseLog.l0]
          exact Ev.neg (by omega) (Ev.bind (loGood acc (by omega)) (Ev.pos (decide_eq_true hg) (Ev.bind ht (Ev.pos ht' (Ev.now _)))))
        · rw [hes es h]; simp
      · refine ⟨([], false), Ev.succ ?_, fun es h _ hb => ?_, .inl rfl⟩
        · simp only [spec_ParseLog.l0]
          exact Ev.neg (by omega) (Ev.bind (loGood acc (by omega)) (Ev.pos (decide_eq_true hg) (Ev.bind ht (Ev.neg ht' (Ev.now _)))))
        · rw [hes es h, List.append_nil] at hb
          exact absurd ((toList_iff t s).2 (by rw [hd, hb]; rfl)) ht'
    · refine ⟨([], false), Ev.succ ?_, fun es h hg' _ => ?_, .inl rfl⟩
      · simp only [spec_ParseLog.l0]
        exact Ev.neg (by omega) (Ev.bind (loGood acc (by omega)) (Ev.neg (by simpa using hg) (Ev.now _)))
      · rw [hes es h, List.append_nil] at hg'
        exact absurd hg' hg
  | succ d ih =>
    intro i acc hi ha
    have hil : i < ls.length := by omega
    have hg : rdOf ByteArray.empty ls (i : Int) = ls[i] := by simp [rdOf, List.getElem?_eq_getElem hil]
    have hdr : ls.drop i = ls[i] :: ls.drop (i + 1) := drop_cons hil
    have hls := hsz _ (List.getElem_mem hil)
    have hcut := l1Split_cut ls[i] 32
    have hw := l1Split ls[i] 32 hls
    have hmem : ∀ y, y ∈ pieces ls[i] 32 0 0 ls[i].size → y.size ≤ 1048576 := fun y hy => by have := size_mem hcut hy; omega
    generalize pieces ls[i] 32 0 0 ls[i].size = W at hcut hw hmem
    by_cases c4 : (W.length : Int) = 4
    · obtain ⟨w0, w1, w2, w3, rfl⟩ := four_len c4
      obtain ⟨a, ea⟩ := l1Read_any w2 (hmem _ (by simp))
      obtain ⟨b, eb⟩ := l1Read_any w3 (hmem _ (by simp))
      obtain ⟨R, hR, h1, h2⟩ := ih (i + 1) (acc ++ [(⟨nameAt w0 [(⟨#[98, 108, 117, 101]⟩ : ByteArray), (⟨#[114, 101, 100]⟩ : ByteArray)] 0, ⟨nameAt w1 [(⟨#[]⟩ : ByteArray), (⟨#[98, 111, 116, 116, 111, 109]⟩ : ByteArray), (⟨#[115, 116, 111, 112]⟩ : ByteArray), (⟨#[108, 111, 115, 116]⟩ : ByteArray)] 0, a, b⟩⟩ : LE)]) (by omega) (by simp; omega)
      refine ⟨R, Ev.succ ?_, fun es h hgood hb => ?_, h2⟩
      · simp only [spec_ParseLog.l0, spec_loColours.f, spec_loEnds.f, Option.bind_some]
        rw [hg, wrap_nat (by omega)]
        refine Ev.pos (by omega) (Ev.pos (by omega) (Ev.pos (by omega) (Ev.bind hw (Ev.pos c4 (Ev.pos (by simp) ?_)))))
        rw [rd40, rd41, rd42, rd43]
        refine Ev.bind (loName w0 _ (by simp)) (Ev.pos (by simp) (Ev.bind (loName w1 _ (by simp)) (Ev.pos (by simp) (Ev.bind ea (Ev.pos (by simp) (Ev.bind eb (Ev.pos (by omega) hR)))))))
      · cases es with
        | nil => rw [hdr] at h; exact absurd h (by simp; exact hil)
        | cons e es =>
          rw [hdr, List.map_cons, List.map_cons] at h
          injection h with hh ht
          have he : Entry e := hgood.2 e (by simp)
          rw [hh, cut_body he] at hcut
          simp only [List.map_cons, List.map_nil, wordsB, List.cons.injEq, and_true] at hcut
          obtain ⟨q0, q1, q2, q3⟩ := hcut
          have ee : (⟨nameAt w0 [(⟨#[98, 108, 117, 101]⟩ : ByteArray), (⟨#[114, 101, 100]⟩ : ByteArray)] 0, ⟨nameAt w1 [(⟨#[]⟩ : ByteArray), (⟨#[98, 111, 116, 116, 111, 109]⟩ : ByteArray), (⟨#[115, 116, 111, 112]⟩ : ByteArray), (⟨#[108, 111, 115, 116]⟩ : ByteArray)] 0, a, b⟩⟩ : LE) = e := by
            have r0 := he.2.2.2.2.1
            have r1 := he.2.2.2.2.2.1
            refine entry_eq (name_c he w0 q0) (name_e he w1 q1) ?_ ?_
            · have := ev_uniq ea (l1Read_digits w2 e.f1.f1.toNat (by omega) q2)
              show a = _
              omega
            · exact ev_uniq eb (read_col he w3 q3)
          rw [ee] at h1
          have := h1 es ht (by rw [List.append_assoc]; exact hgood) (by rw [List.append_assoc]; exact hb)
          rw [this, List.append_assoc]; rfl
    · refine ⟨([], false), Ev.succ ?_, fun es h hgood hb => ?_, .inl rfl⟩
      · simp only [spec_ParseLog.l0]
        rw [hg]
        exact Ev.pos (by omega) (Ev.pos (by omega) (Ev.pos (by omega) (Ev.bind hw (Ev.neg c4 (Ev.now _)))))
      · cases es with
        | nil => rw [hdr] at h; exact absurd h (by simp; exact hil)
        | cons e es =>
          rw [hdr, List.map_cons, List.map_cons] at h
          injection h with hh ht
          have he : Entry e := hgood.2 e (by simp)
          rw [hh, cut_body he] at hcut
          have := congrArg List.length hcut
          simp [wordsB] at this
          omega
theorem spec (s : ByteArray) (hs : s.size ≤ 1048576) : ∃ R : List LE × Bool, Ev (fun k => spec_ParseLog.f k s) R ∧ (∀ es, LGood es → bytesOf s = textL es → R = (es, true)) ∧ (R = ([], false) ∨ ∃ es, LGood es ∧ bytesOf s = textL es ∧ R = (es, true)) := by
  have hcut := l1Split_cut s 10
  have hw := l1Split s 10 hs
  have hlen := pieces_length s 10 s.size 0 0
  generalize pieces s 10 0 0 s.size = W at hcut hw hlen
  have hne : W ≠ [] := by
    intro h
    rw [h] at hcut
    exact cut_ne _ _ hcut.symm
  have hpos : 0 < W.length := List.length_pos_iff.2 hne
  unfold spec_ParseLog.f
  by_cases c : (W.length : Int) > 61
  · refine ⟨([], false), Ev.bind hw (Ev.pos c (Ev.now _)), fun es hg hb => ?_, .inl rfl⟩
    rw [hb, cut_text hg.2] at hcut
    have := congrArg List.length hcut
    have := hg.1
    simp only [List.length_map, List.length_append, List.length_cons, List.length_nil] at *
    omega
  · have e : wrap64 ((W.length : Int) - 1) = ((W.length - 1 : Nat) : Int) := by rw [wrap_id (by omega) (by omega)]; omega
    obtain ⟨R, hR, h1, h2⟩ := spec_loop s hs (W.take (W.length - 1)) (by simp; omega) (fun y hy => by have := size_mem hcut (List.mem_of_mem_take hy); omega) (W.take (W.length - 1)).length 0 [] (by omega) (by simp)
    refine ⟨R, Ev.bind hw (Ev.neg c ?_), fun es hg hb => ?_, h2⟩
    · rw [e]
      refine Ev.pos (by omega) (Ev.pos (by omega) ?_)
      rw [Int.toNat_natCast]
      simp only [Option.bind_some]
      exact hR
    · refine h1 es ?_ (by simpa using hg) (by simpa using hb)
      rw [List.drop_zero, List.map_take, hcut, hb, cut_text hg.2]
      have : W.length = es.length + 1 := by
        have := congrArg List.length hcut
        rw [hb, cut_text hg.2] at this
        simpa using this
      rw [this, Nat.add_sub_cancel, List.take_left' (by simp)]

/-! the program -/
theorem linesOf (s : ByteArray) (hs : s.size ≤ 1048576) : ∃ (ls : List ByteArray) (ok : Bool), impl_linesOf.f s = some (ls, ok) ∧ (∀ y, y ∈ ls → y.size ≤ 1048576) ∧
    ((ok = false ∧ ∀ es, LGood es → bytesOf s ≠ textL es) ∨ (ok = true ∧ bytesOf s = (ls.map bytesOf).flatMap (fun y => y ++ [10]) ∧ ∀ es, LGood es → bytesOf s = textL es → ls.map bytesOf = es.map body)) := by
  unfold impl_linesOf.f
  have hlen : (bytesOf s).length = s.size := bytesOf_length s
  by_cases c : s.toList = ([] : List UInt8)
  · have hb : bytesOf s = [] := by rw [toList_eq] at c; unfold bytesOf; rw [c]; rfl
    refine ⟨[], true, by rw [if_pos c], by simp, .inr ⟨rfl, by rw [hb]; rfl, fun es _ h => ?_⟩⟩
    cases es with
    | nil => rfl
    | cons e es =>
      rw [hb] at h
      have := congrArg List.length h
      simp [textL, lineB_body] at this
  have hpos : 0 < s.size := by
    apply Nat.pos_of_ne_zero
    intro h
    apply c
    rw [toList_eq]
    exact List.eq_nil_of_length_eq_zero (by rw [Array.length_toList]; exact h)
  have hsuf : strings_HasSuffix.f s (⟨#[10]⟩ : ByteArray) = some (Lib.hasSuffix s.data.toList [10]) := by
    unfold strings_HasSuffix.f
    rw [if_pos (by omega)]
  rw [if_neg c, hsuf]
  simp only [Option.bind_some]
  by_cases c1 : Lib.hasSuffix s.data.toList [10] = true
  · obtain ⟨pre, hpre⟩ : ∃ pre, pre ++ [(10 : UInt8)] = s.data.toList := by
      have h1 : ([10] : List UInt8) <:+ s.data.toList := List.isSuffixOf_iff_suffix.1 c1
      exact h1
    have hb : bytesOf s = (pre.map fun b => ((b.toNat : Nat) : Int)) ++ [10] := by
      unfold bytesOf; rw [← hpre]; simp
    have hp : (pre.map fun b => ((b.toNat : Nat) : Int)).length = s.size - 1 := by
      have := congrArg List.length hb
      rw [hlen] at this
      simp only [List.length_append, List.length_cons, List.length_nil] at this
      omega
    have hx : bytesOf (s.extract 0 (s.size - 1)) = pre.map fun b => ((b.toNat : Nat) : Int) := by
      rw [bytesOf_extract, hb, List.take_left' hp]; rfl
    have hxs : (s.extract 0 (s.size - 1)).size = s.size - 1 := by rw [size_of, hx, hp]
    have e : wrap64 ((s.size : Int) - 1) = ((s.size - 1 : Nat) : Int) := by rw [wrap_id (by omega) (by omega)]; omega
    have hsp : strings_Split.f (s.extract 0 (s.size - 1)) (⟨#[10]⟩ : ByteArray) = some (Lib.splitB ⟨#[10]⟩ 0 (Lib.countB (s.extract 0 (s.size - 1)) ⟨#[10]⟩) (s.extract 0 (s.size - 1))) := by
      unfold strings_Split.f
      rw [if_pos (by omega), if_pos (by decide)]
    have hcut := libSplit (s.extract 0 (s.size - 1)) 10
    rw [show (((10 : UInt8).toNat : Nat) : Int) = 10 from rfl] at hcut
    refine ⟨Lib.splitB ⟨#[10]⟩ 0 (Lib.countB (s.extract 0 (s.size - 1)) ⟨#[10]⟩) (s.extract 0 (s.size - 1)), true, ?_, fun y hy => ?_, .inr ⟨rfl, ?_, fun es hg h => ?_⟩⟩
    · rw [if_pos c1, e, if_pos (by omega), if_pos (by omega), Int.toNat_natCast, hsp]
      simp only [Option.bind_some]
    · have := size_mem hcut hy; omega
    · rw [← join_lines 10 _ (by rw [hcut]; exact cut_ne _ _), hcut, join_cut, hx, hb]
    · rw [hcut, hx]
      have hq : cut 10 (bytesOf s) = cut 10 (pre.map fun b => ((b.toNat : Nat) : Int)) ++ [[]] := by rw [hb, cut_snoc]
      rw [h, cut_text hg.2] at hq
      exact (List.append_cancel_right hq).symm
  · refine ⟨[], false, by rw [if_neg c1], by simp, .inl ⟨rfl, fun es hg h => c1 ?_⟩⟩
    rcases List.eq_nil_or_concat es with rfl | ⟨es', e', rfl⟩
    · exfalso
      rw [h] at hlen
      simp [textL] at hlen
      omega
    · have h2 : bytesOf s = (textL es' ++ body e') ++ [10] := by
        rw [h]; simp [textL, lineB_body]
      have h3 : s.data.toList ≠ [] := by
        intro h0
        have := congrArg List.length h2
        rw [show bytesOf s = [] by unfold bytesOf; rw [h0]; rfl] at this
        simp at this
      have h4 : s.data.toList = s.data.toList.dropLast ++ [s.data.toList.getLast h3] := (List.dropLast_concat_getLast h3).symm
      have h5 : (((s.data.toList.getLast h3).toNat : Nat) : Int) = 10 := by
        have : bytesOf s = (s.data.toList.dropLast.map fun b => ((b.toNat : Nat) : Int)) ++ [(((s.data.toList.getLast h3).toNat : Nat) : Int)] := by
          show s.data.toList.map _ = _
          conv => lhs; rw [h4]
          simp
        rw [h2] at this
        have := List.append_inj_right' this rfl
        simpa using this.symm
      have h6 : s.data.toList.getLast h3 = 10 := UInt8.toNat_inj.1 (by rw [show (10 : UInt8).toNat = 10 from rfl]; omega)
      rw [h6] at h4
      show ([10] : List UInt8).isSuffixOf _ = true
      rw [List.isSuffixOf_iff_suffix]
      exact ⟨_, h4.symm⟩
def colI (w : ByteArray) : Int := if bytesOf w = bytesOf (⟨#[114, 101, 100]⟩ : ByteArray) then 1 else if bytesOf w = bytesOf (⟨#[98, 108, 117, 101]⟩ : ByteArray) then 0 else -1
def endI (w : ByteArray) : Int := if bytesOf w = bytesOf (⟨#[108, 111, 115, 116]⟩ : ByteArray) then 3 else if bytesOf w = bytesOf (⟨#[115, 116, 111, 112]⟩ : ByteArray) then 2 else if bytesOf w = bytesOf (⟨#[98, 111, 116, 116, 111, 109]⟩ : ByteArray) then 1 else 0
theorem colI_iff {x : LE} (h : Entry x) (w : ByteArray) : colI w = x.f0 ↔ bytesOf w = bytesOf (cN x.f0) := by
  have h0 : x.f0 = 0 ∨ x.f0 = 1 := by have := h.1; have := h.2.1; omega
  unfold colI
  rcases h0 with h0 | h0 <;> rw [h0]
  · refine ⟨fun q => ?_, fun q => ?_⟩
    · split at q
      · omega
      · split at q
        · assumption
        · omega
    · rw [q]; decide
  · refine ⟨fun q => ?_, fun q => ?_⟩
    · split at q
      · assumption
      · split at q <;> omega
    · rw [q]; decide
theorem endI_iff {x : LE} (h : Entry x) (w : ByteArray) : endI w = x.f1.f0 ↔ bytesOf w = bytesOf (eN x.f1.f0) := by
  have h0 : x.f1.f0 = 1 ∨ x.f1.f0 = 2 ∨ x.f1.f0 = 3 := by have := h.2.2.1; have := h.2.2.2.1; omega
  unfold endI
  rcases h0 with h0 | h0 | h0 <;> rw [h0]
  · refine ⟨fun q => ?_, fun q => ?_⟩
    · split at q
      · omega
      · split at q
        · omega
        · split at q
          · assumption
          · omega
    · rw [q]; decide
  · refine ⟨fun q => ?_, fun q => ?_⟩
    · split at q
      · omega
      · split at q
        · assumption
        · split at q <;> omega
    · rw [q]; decide
  · refine ⟨fun q => ?_, fun q => ?_⟩
    · split at q
      · assumption
      · split at q
        · omega
        · split at q <;> omega
    · rw [q]; decide
theorem l0_step (E W : List ByteArray) (i : Nat) (c : Int) {r : Int × Int × Int × Int × Bool} (hi : i < 2) (hW : 0 < (W.length : Int))
    (h : Ev (fun k => impl_readEntry.l0 k E W cNames ((i + 1 : Nat) : Int) (if bytesOf (rdOf ByteArray.empty W 0) = bytesOf (rdOf ByteArray.empty cNames (i : Int)) then (i : Int) else c) 0 0 0) r) : Ev (fun k => impl_readEntry.l0 k E W cNames (i : Int) c 0 0 0) r := by
  have hl : (cNames.length : Int) = 2 := rfl
  refine Ev.succ ?_
  simp only [impl_readEntry.l0]
  rw [wrap_nat (by omega)]
  refine Ev.pos (by omega) (Ev.pos (by omega) (Ev.pos (by omega) (Ev.pos hW ?_)))
  refine Ev.split (fun q => ?_) (fun q => ?_)
  · rw [if_pos ((toList_iff _ _).1 q)] at h; exact h
  · rw [if_neg (fun z => q ((toList_iff _ _).2 z))] at h; exact h
theorem l0_end (E W : List ByteArray) (c : Int) {r : Int × Int × Int × Int × Bool} (h : Ev (fun k => impl_readEntry.l1 k W E 0 c 0 0 0) r) : Ev (fun k => impl_readEntry.l0 k E W cNames ((2 : Nat) : Int) c 0 0 0) r := by
  refine Ev.succ ?_
  simp only [impl_readEntry.l0]
  exact Ev.neg (by omega) h
theorem l1_step (W : List ByteArray) (i : Nat) (c e : Int) {r : Int × Int × Int × Int × Bool} (hi : i < 3) (hW : 1 < (W.length : Int))
    (h : Ev (fun k => impl_readEntry.l1 k W eNames ((i + 1 : Nat) : Int) c (if bytesOf (rdOf ByteArray.empty W 1) = bytesOf (rdOf ByteArray.empty eNames (i : Int)) then ((i + 1 : Nat) : Int) else e) 0 0) r) : Ev (fun k => impl_readEntry.l1 k W eNames (i : Int) c e 0 0) r := by
  have hl : (eNames.length : Int) = 3 := rfl
  refine Ev.succ ?_
  simp only [impl_readEntry.l1]
  rw [wrap_nat (by omega)]
  refine Ev.pos (by omega) (Ev.pos (by omega) (Ev.pos (by omega) (Ev.pos hW ?_)))
  refine Ev.split (fun q => ?_) (fun q => ?_)
  · rw [if_pos ((toList_iff _ _).1 q)] at h; exact h
  · rw [if_neg (fun z => q ((toList_iff _ _).2 z))] at h; exact h
theorem dec_iff {w : ByteArray} {r : Int × Bool} (h : (r.2 = false ∧ ∀ n : Nat, n ≤ 10 → bytesOf w ≠ digits n) ∨ ∃ v : Nat, r = ((v : Int), true) ∧ digits v = bytesOf w) {n : Int} (h0 : 0 ≤ n) (hn : n ≤ 10) : (r.1 = n ∧ r.2 = true) ↔ bytesOf w = digits n.toNat := by
  rcases h with ⟨h1, h2⟩ | ⟨v, rfl, hv⟩
  · refine ⟨fun q => ?_, fun q => absurd q (h2 _ (by omega))⟩
    rw [h1] at q; exact absurd q.2 (by simp)
  · refine ⟨fun q => ?_, fun q => ?_⟩
    · rw [← hv, show n.toNat = v by have := q.1; simp only at this; omega]
    · have := digits_inj (hv.trans q)
      refine ⟨?_, rfl⟩
      show (v : Int) = n
      omega
theorem dec_pos {w : ByteArray} {r : Int × Bool} (h : (r.2 = false ∧ ∀ n : Nat, n ≤ 10 → bytesOf w ≠ digits n) ∨ ∃ v : Nat, r = ((v : Int), true) ∧ digits v = bytesOf w) (ht : r.2 = true) : 0 ≤ r.1 := by
  rcases h with ⟨h1, h2⟩ | ⟨v, rfl, hv⟩
  · rw [h1] at ht; exact absurd ht (by simp)
  · show (0 : Int) ≤ (v : Int); omega
theorem minus_iff (w : ByteArray) : w.toList = ([45] : List UInt8) ↔ bytesOf w = [45] := by
  have : ([45] : List UInt8) = (⟨#[45]⟩ : ByteArray).toList := by rw [toList_eq]
  rw [this, toList_iff]; rfl
theorem words_iff {s : ByteArray} {W : List ByteArray} (hcut : W.map bytesOf = cut 32 (bytesOf s)) {x : LE} (h : Entry x) : bytesOf s = body x ↔ W.map bytesOf = wordsB x := by
  refine ⟨fun q => by rw [hcut, q, cut_body h], fun q => ?_⟩
  rw [← join_cut 32 (bytesOf s), ← hcut, q]; rfl
theorem readEntry (s : ByteArray) (hs : s.size ≤ 1048576) : ∃ r : Int × Int × Int × Int × Bool, Ev (fun k => impl_readEntry.f k s) r ∧ ∀ x : LE, Entry x → (r = (x.f0, x.f1.f0, x.f1.f1, x.f1.f2, true) ↔ bytesOf s = body x) := by
  have hcut := libSplit s 32
  rw [show (((32 : UInt8).toNat : Nat) : Int) = 32 from rfl] at hcut
  have hsp : strings_Split.f s (⟨#[32]⟩ : ByteArray) = some (Lib.splitB ⟨#[32]⟩ 0 (Lib.countB s ⟨#[32]⟩) s) := by
    unfold strings_Split.f
    rw [if_pos hs, if_pos (by decide)]
  unfold impl_readEntry.f impl_readEntry.g
  rw [hsp]
  simp only [Option.bind_some]
  generalize Lib.splitB ⟨#[32]⟩ 0 (Lib.countB s ⟨#[32]⟩) s = W at hcut
  by_cases c4 : (W.length : Int) = 4
  · obtain ⟨w0, w1, w2, w3, rfl⟩ := four_len c4
    obtain ⟨a, ea, ia⟩ := decimal w2
    obtain ⟨b, eb, ib⟩ := decimal w3
    have start : ∀ r : Int × Int × Int × Int × Bool, Ev (fun k => impl_readEntry.l1 k [w0, w1, w2, w3] eNames ((3 : Nat) : Int) (colI w0) (endI w1) 0 0) r →
        Ev (fun k => if (([w0, w1, w2, w3] : List ByteArray).length : Int) = 4 then impl_readEntry.l0 k eNames [w0, w1, w2, w3] cNames 0 (-1) 0 0 0 else some (0, 0, 0, 0, false)) r := by
      intro r h
      refine Ev.pos c4 ?_
      refine l0_step eNames _ 0 (-1) (by omega) (by simp) (l0_step eNames _ 1 _ (by omega) (by simp) (l0_end eNames _ _ ?_))
      refine l1_step _ 0 _ 0 (by omega) (by simp) (l1_step _ 1 _ _ (by omega) (by simp) (l1_step _ 2 _ _ (by omega) (by simp) ?_))
      exact h
    have hx : ∀ x : LE, Entry x → (bytesOf s = body x ↔ (bytesOf w0 = bytesOf (cN x.f0) ∧ bytesOf w1 = bytesOf (eN x.f1.f0) ∧ bytesOf w2 = digits x.f1.f1.toNat ∧ bytesOf w3 = colB x)) := by
      intro x h
      rw [words_iff hcut h]
      simp only [wordsB, List.map_cons, List.map_nil, List.cons.injEq, and_true]
    by_cases cm : bytesOf w3 = [45]
    · refine ⟨(colI w0, endI w1, a.1, -1, a.2), start _ (Ev.succ ?_), fun x h => ?_⟩
      · simp only [impl_readEntry.l1]
        refine Ev.neg (by omega) (Ev.pos (by simp) ?_)
        rw [rd42, rd43]
        refine Ev.bind ea (Ev.pos (by simp) (Ev.bind eb (Ev.pos ((minus_iff w3).2 cm) ?_)))
        refine Ev.split (fun q => Ev.val (Ev.now _) (by rw [q])) (fun q => Ev.val (Ev.now _) (by rw [Bool.eq_false_iff.2 q]))
      · have r0 := h.2.2.2.2.1
        have r1 := h.2.2.2.2.2.1
        rw [hx x h, ← colI_iff h w0, ← endI_iff h w1, ← dec_iff ia r0 r1, cm]
        simp only [Prod.mk.injEq]
        have hc : ([45] : List Int) = colB x ↔ -1 = x.f1.f2 := by
          unfold colB
          have := h.2.2.2.2.2.2.1
          split
          · refine ⟨fun q => ?_, fun q => by omega⟩
            have := digit_range x.f1.f2.toNat 45 (by rw [← q]; simp)
            omega
          · exact ⟨fun _ => by omega, fun _ => rfl⟩
        rw [hc]
        exact ⟨fun ⟨q0, q1, q2, q3, q4⟩ => ⟨q0, q1, ⟨q2, q4⟩, q3⟩, fun ⟨q0, q1, ⟨q2, q4⟩, q3⟩ => ⟨q0, q1, q2, q3, q4⟩⟩
    · refine ⟨(colI w0, endI w1, a.1, b.1, a.2 && b.2), start _ (Ev.succ ?_), fun x h => ?_⟩
      · simp only [impl_readEntry.l1]
        refine Ev.neg (by omega) (Ev.pos (by simp) ?_)
        rw [rd42, rd43]
        refine Ev.bind ea (Ev.pos (by simp) (Ev.bind eb (Ev.neg (fun z => cm ((minus_iff w3).1 z)) ?_)))
        refine Ev.split (fun q => Ev.val (Ev.now _) (by rw [q, Bool.true_and])) (fun q => Ev.val (Ev.now _) (by rw [Bool.eq_false_iff.2 q, Bool.false_and]))
      · have r0 := h.2.2.2.2.1
        have r1 := h.2.2.2.2.2.1
        rw [hx x h, ← colI_iff h w0, ← endI_iff h w1, ← dec_iff ia r0 r1]
        simp only [Prod.mk.injEq, Bool.and_eq_true]
        have q9 := h.2.2.2.2.2.2.2
        have hc : bytesOf w3 = colB x ↔ (b.1 = x.f1.f2 ∧ b.2 = true) := by
          unfold colB
          split
          · rename_i hp
            rw [dec_iff ib hp (by omega)]
          · refine ⟨fun q => absurd q cm, fun q => ?_⟩
            have := dec_pos ib q.2
            omega
        rw [hc]
        exact ⟨fun ⟨q0, q1, q2, q3, q4, q5⟩ => ⟨q0, q1, ⟨q2, q4⟩, q3, q5⟩, fun ⟨q0, q1, ⟨q2, q4⟩, q3, q5⟩ => ⟨q0, q1, q2, q3, q4, q5⟩⟩
  · refine ⟨(0, 0, 0, 0, false), Ev.neg c4 (Ev.now _), fun x h => ?_⟩
    rw [words_iff hcut h]
    refine ⟨fun q => ?_, fun q => ?_⟩
    · simp only [Prod.mk.injEq] at q
      exact absurd q.2.2.2.2 (by simp)
    · have := congrArg List.length q
      simp [wordsB] at this
      omega
theorem impl_loop (ls : List ByteArray) (hn : ls.length ≤ 60) (hsz : ∀ y, y ∈ ls → y.size ≤ 1048576) (d : Nat) : ∀ (i : Nat) (acc : List LE), i + d = ls.length → acc.length ≤ i →
    ∃ R : List LE × Bool, Ev (fun k => impl_ParseLog.l0 k acc ls ls.length i) R ∧ (∀ es, (ls.drop i).map bytesOf = es.map body → LGood (acc ++ es) → R = (acc ++ es, true)) ∧
      (R = ([], false) ∨ ∃ es, (ls.drop i).map bytesOf = es.map body ∧ LGood (acc ++ es) ∧ R = (acc ++ es, true)) := by
  induction d with
  | zero =>
    intro i acc hi ha
    have hnil : ls.drop i = [] := List.drop_of_length_le (by omega)
    have hes : ∀ es : List LE, (ls.drop i).map bytesOf = es.map body → es = [] := by
      intro es h
      rw [hnil] at h
      cases es with
      | nil => rfl
      | cons e es => simp at h
    by_cases hg : LGood acc
    · refine ⟨(acc, true), Ev.succ ?_, fun es h _ => ?_, .inr ⟨[], by rw [hnil]; rfl, by simpa using hg, by simp⟩⟩
      · simp only [impl_ParseLog.l0]
        exact Ev.neg (by omega) (Ev.bind (implIsLog acc (by omega)) (Ev.pos (decide_eq_true hg) (Ev.now _)))
      · rw [hes es h]; simp
    · refine ⟨([], false), Ev.succ ?_, fun es h hg' => ?_, .inl rfl⟩
      · simp only [impl_ParseLog.l0]
        exact Ev.neg (by omega) (Ev.bind (implIsLog acc (by omega)) (Ev.neg (by simpa using hg) (Ev.now _)))
      · rw [hes es h, List.append_nil] at hg'
        exact absurd hg' hg
  | succ d ih =>
    intro i acc hi ha
    have hil : i < ls.length := by omega
    have hg : rdOf ByteArray.empty ls (i : Int) = ls[i] := by simp [rdOf, List.getElem?_eq_getElem hil]
    have hdr : ls.drop i = ls[i] :: ls.drop (i + 1) := drop_cons hil
    have hls := hsz _ (List.getElem_mem hil)
    obtain ⟨⟨a, b, c, e, ok⟩, hr, hx⟩ := readEntry ls[i] hls
    cases ok with
    | false =>
      refine ⟨([], false), Ev.succ ?_, fun es h hgood => ?_, .inl rfl⟩
      · simp only [impl_ParseLog.l0]
        rw [hg]
        exact Ev.pos (by omega) (Ev.pos (by omega) (Ev.pos (by omega) (Ev.bind hr (Ev.neg (by simp) (Ev.now _)))))
      · cases es with
        | nil => rw [hdr] at h; exact absurd h (by simp; exact hil)
        | cons x es =>
          rw [hdr, List.map_cons, List.map_cons] at h
          injection h with hh ht
          have := (hx x (hgood.2 x (by simp))).2 hh
          simp at this
    | true =>
      obtain ⟨R, hR, h1, h2⟩ := ih (i + 1) (acc ++ [(⟨a, ⟨b, c, e⟩⟩ : LE)]) (by omega) (by simp; omega)
      refine ⟨R, Ev.succ ?_, fun es h hgood => ?_, ?_⟩
      · simp only [impl_ParseLog.l0]
        rw [hg, wrap_nat (by omega)]
        exact Ev.pos (by omega) (Ev.pos (by omega) (Ev.pos (by omega) (Ev.bind hr (Ev.pos rfl (Ev.pos (by omega) hR)))))
      · cases es with
        | nil => rw [hdr] at h; exact absurd h (by simp; exact hil)
        | cons x es =>
          rw [hdr, List.map_cons, List.map_cons] at h
          injection h with hh ht
          have q := (hx x (hgood.2 x (by simp))).2 hh
          simp only [Prod.mk.injEq, and_true] at q
          have ee : (⟨a, ⟨b, c, e⟩⟩ : LE) = x := entry_eq q.1 q.2.1 q.2.2.1 q.2.2.2
          rw [ee] at h1
          have := h1 es ht (by rw [List.append_assoc]; exact hgood)
          rw [this, List.append_assoc]; rfl
      · rcases h2 with h2 | ⟨es, q1, q2, q3⟩
        · exact .inl h2
        · refine .inr ⟨⟨a, ⟨b, c, e⟩⟩ :: es, ?_, ?_, ?_⟩
          · have he : Entry (⟨a, ⟨b, c, e⟩⟩ : LE) := q2.2 _ (by simp)
            rw [hdr, List.map_cons, List.map_cons, q1, (hx _ he).1 rfl]
          · rw [List.append_assoc] at q2; exact q2
          · rw [q3, List.append_assoc]; rfl
theorem impl (s : ByteArray) (hs : s.size ≤ 1048576) : ∃ R : List LE × Bool, Ev (fun k => impl_ParseLog.f k s) R ∧ (∀ es, LGood es → bytesOf s = textL es → R = (es, true)) ∧ (R = ([], false) ∨ ∃ es, LGood es ∧ bytesOf s = textL es ∧ R = (es, true)) := by
  obtain ⟨ls, ok, hl, hsz, ho⟩ := linesOf s hs
  have out : Ev (fun k => impl_ParseLog.j0 k ls true) ([], false) := by
    refine Ev.succ ?_
    simp only [impl_ParseLog.j0]
    exact Ev.pos trivial (Ev.now _)
  unfold impl_ParseLog.f
  rw [hl]
  simp only [Option.bind_some]
  rcases ho with ⟨rfl, h⟩ | ⟨rfl, h1, h2⟩
  · exact ⟨([], false), Ev.neg (by simp) out, fun es hg hb => absurd hb (h es hg), .inl rfl⟩
  · by_cases c : (ls.length : Int) > 60
    · refine ⟨([], false), Ev.pos rfl (by rw [decide_eq_true c]; exact out), fun es hg hb => ?_, .inl rfl⟩
      have := congrArg List.length (h2 es hg hb)
      have := hg.1
      simp only [List.length_map] at *
      omega
    · obtain ⟨R, hR, q1, q2⟩ := impl_loop ls (by omega) hsz ls.length 0 [] (by omega) (by simp)
      refine ⟨R, Ev.pos rfl ?_, fun es hg hb => ?_, ?_⟩
      · rw [decide_eq_false c]
        refine Ev.succ ?_
        simp only [impl_ParseLog.j0]
        exact Ev.neg (by simp) hR
      · exact q1 es (by rw [List.drop_zero]; exact h2 es hg hb) (by simpa using hg)
      · rcases q2 with q2 | ⟨es, e1, e2, e3⟩
        · exact .inl q2
        · refine .inr ⟨es, by simpa using e2, ?_, by simpa using e3⟩
          rw [List.drop_zero] at e1
          rw [h1, e1, textL_body]
theorem both (s : ByteArray) (hs : s.size ≤ 1048576) : ∃ (L : List LE) (ok : Bool), L.length ≤ 60 ∧ Ev (fun k => spec_ParseLog.f k s) (L, ok) ∧ Ev (fun k => impl_ParseLog.f k s) (L, ok) := by
  obtain ⟨R, e1, a1, a2⟩ := spec s hs
  obtain ⟨Q, e2, b1, b2⟩ := impl s hs
  have e : Q = R := by
    rcases b2 with rfl | ⟨es, hg, hb, rfl⟩
    · rcases a2 with rfl | ⟨es, hg, hb, rfl⟩
      · rfl
      · exact absurd (b1 es hg hb) (by simp)
    · exact (a1 es hg hb).symm
  subst e
  refine ⟨Q.1, Q.2, ?_, e1, e2⟩
  rcases a2 with rfl | ⟨es, hg, hb, rfl⟩
  · simp
  · exact hg.1
theorem law : ∀ (a0 : ByteArray), a0.size ≤ 140737488351232 → ∃ k, laws_FnExactParseLog.f k a0 = some true := by
  intro s _
  apply Ev.rounds
  unfold laws_FnExactParseLog.f
  refine Ev.split (fun _ => Ev.now _) (fun c0 => ?_)
  obtain ⟨L, ok, hL, hs, hi⟩ := both s (by omega)
  repeat' first
    | exact Ev.now true
    | dsimp only
    | with_reducible refine Ev.bind hs ?_
    | with_reducible refine Ev.bind hi ?_
    | with_reducible refine Ev.bind (eqLog_self _ (by omega)) ?_
    | with_reducible refine Ev.bind (markLog _ _ (by omega) (by omega)) ?_
    | with_reducible refine Ev.bind (heldLog _ _ (by omega) (by omega)) ?_
    | refine Ev.pos rfl ?_
    | (refine Ev.neg ?_ ?_; focus (first | omega | (simp; done)))
    | (with_reducible refine Ev.succ (g := fun k => laws_FnExactParseLog.j0 k _ _ _ _ _) ?_; simp only [laws_FnExactParseLog.j0])
    | (with_reducible refine Ev.succ (g := fun k => laws_FnExactParseLog.j1 k _ _ _) ?_; simp only [laws_FnExactParseLog.j1])
end Go.Proofs.YtfekgidcnidijaaDoor.PureFnExactParseLog
