/- Numbers read from a text, by the reference and by the program. Condition: at most 2^20 bytes where the reference reads. -/
import Derived.Test.YtfekgidcnidijaaDoorNumText
import Derived.Test.YtfekgidcnidijaaDoorPx1
import Derived.Test.YtfekgidcnidijaaDoorPx2
import Derived.Test.YtfekgidcnidijaaDoorPx3
namespace Go.Proofs.YtfekgidcnidijaaDoor.Bytes
open Go.RowKit Go.Proofs.YtfekgidcnidijaaDoor.P Go.Proofs.YtfekgidcnidijaaDoor.Base Go.Proofs.YtfekgidcnidijaaDoorW.PrintWords Go.Proofs.YtfekgidcnidijaaDoorW.PrintLast Go.Proofs.YtfekgidcnidijaaDoorW.PrintMore
set_option linter.unusedVariables false
set_option linter.unusedSimpArgs false
theorem l1Read_any (s : ByteArray) (hs : s.size ≤ 1048576) : ∃ r, Ev (fun k => spec_l1Read.f k s) r := by
  have core : ∀ (d i : Nat) (x : Int), s.size ≤ i + d → i ≤ s.size → ∃ r, Ev (fun k => spec_l1Read.l0 k s x i) r := by
    intro d
    induction d with
    | zero =>
      intro i x h1 h2
      refine ⟨x, Ev.succ ?_⟩
      simp only [spec_l1Read.l0]
      exact Ev.neg (by omega) (Ev.now _)
    | succ d ih =>
      intro i x h1 h2
      by_cases c : i < s.size
      · by_cases c1 : bt s (i : Int) < 48
        · refine ⟨-1, Ev.succ ?_⟩
          simp only [spec_l1Read.l0]
          exact Ev.pos (by omega) (Ev.pos (by omega) (Ev.pos c1 (Ev.now _)))
        · by_cases c2 : bt s (i : Int) > 57
          · refine ⟨-1, Ev.succ ?_⟩
            simp only [spec_l1Read.l0]
            exact Ev.pos (by omega) (Ev.pos (by omega) (Ev.neg c1 (Ev.pos c2 (Ev.now _))))
          · obtain ⟨r, hr⟩ := ih (i + 1) (wrap64 (wrap64 (10 * x) + (bt s (i : Int) - 48) % 256)) (by omega) (by omega)
            refine ⟨r, Ev.succ ?_⟩
            simp only [spec_l1Read.l0]
            refine Ev.pos (by omega) (Ev.pos (by omega) (Ev.neg c1 (Ev.neg c2 ?_)))
            rw [wrap_nat (by omega)]; exact hr
      · refine ⟨x, Ev.succ ?_⟩
        simp only [spec_l1Read.l0]
        exact Ev.neg (by omega) (Ev.now _)
  have jn : ∀ b : Bool, ∃ r, Ev (fun k => spec_l1Read.j0 k s b) r := by
    intro b
    cases b with
    | true =>
      refine ⟨-1, Ev.succ ?_⟩
      simp only [spec_l1Read.j0]
      exact Ev.pos trivial (Ev.now _)
    | false =>
      obtain ⟨r, hr⟩ := core s.size 0 0 (by omega) (by omega)
      refine ⟨r, Ev.succ ?_⟩
      simp only [spec_l1Read.j0]
      exact Ev.neg (by simp) hr
  unfold spec_l1Read.f spec_l1In.f
  by_cases c : (s.size : Int) ≥ 1
  · by_cases c1 : (s.size : Int) ≤ 6
    · by_cases c2 : bt s 0 = 48
      · obtain ⟨r, hr⟩ := jn (decide ((s.size : Int) > 1))
        refine ⟨r, ?_⟩
        simp only [if_pos c, decide_eq_true c1, Option.bind_some]
        exact Ev.pos trivial (Ev.pos (by omega) (Ev.pos c2 hr))
      · obtain ⟨r, hr⟩ := jn false
        refine ⟨r, ?_⟩
        simp only [if_pos c, decide_eq_true c1, Option.bind_some]
        exact Ev.pos trivial (Ev.pos (by omega) (Ev.neg c2 hr))
    · obtain ⟨r, hr⟩ := jn true
      refine ⟨r, ?_⟩
      simp only [if_pos c, decide_eq_false c1, Option.bind_some]
      exact Ev.neg (by simp) hr
  · obtain ⟨r, hr⟩ := jn true
    refine ⟨r, ?_⟩
    simp only [if_neg c, Option.bind_some]
    exact Ev.neg (by simp) hr
theorem l1Read_one (s : ByteArray) (hs : s.size = 1) (n : Int) (h0 : 0 ≤ n) (h9 : n ≤ 9) (h : bt s 0 = 48 + n) : Ev (fun k => spec_l1Read.f k s) n := by
  unfold spec_l1Read.f spec_l1In.f
  simp only [hs, show ((1 : Nat) : Int) ≥ 1 by omega, if_true, show decide (((1 : Nat) : Int) ≤ 6) = true by decide, Option.bind_some]
  have core : Ev (fun k => spec_l1Read.l0 k s 0 0) n := by
    refine Ev.succ ?_
    simp only [spec_l1Read.l0]
    refine Ev.pos (by omega) (Ev.pos (by omega) (Ev.neg (by omega) (Ev.neg (by omega) (Ev.succ ?_))))
    have e : wrap64 (wrap64 (10 * 0) + (bt s 0 - 48) % 256) = n := by
      rw [h, wrap_id (x := 10 * 0) (by omega) (by omega), wrap_id (by omega) (by omega)]; omega
    rw [e, show wrap64 (0 + 1) = 1 from wrap_id (by omega) (by omega)]
    simp only [spec_l1Read.l0]
    exact Ev.neg (by omega) (Ev.now _)
  have jn : Ev (fun k => spec_l1Read.j0 k s false) n := by
    refine Ev.succ ?_
    simp only [spec_l1Read.j0]
    exact Ev.neg (by simp) core
  refine Ev.pos (by omega) (Ev.split (fun c => ?_) (fun c => jn))
  rw [show decide (((1 : Nat) : Int) > 1) = false by decide]
  exact jn
theorem bt_of {s : ByteArray} {l : List Int} (h : bytesOf s = l) (i : Nat) (x : Int) (hi : l[i]? = some x) : bt s (i : Int) = x := by
  have hl : i < l.length := (List.getElem?_eq_some_iff.1 hi).1
  have := bt_get s (i := i) (by rw [size_of, h]; exact hl)
  rw [this]
  have e := (List.getElem?_eq_some_iff.1 hi).2
  simpa [h] using e
theorem l1Read_ten (s : ByteArray) (h : bytesOf s = [49, 48]) : Ev (fun k => spec_l1Read.f k s) 10 := by
  have hs : s.size = 2 := by rw [size_of, h]; rfl
  have b0 : bt s 0 = 49 := bt_of h 0 49 rfl
  have b1 : bt s 1 = 48 := bt_of h 1 48 rfl
  unfold spec_l1Read.f spec_l1In.f
  simp only [hs, show ((2 : Nat) : Int) ≥ 1 by omega, if_true, show decide (((2 : Nat) : Int) ≤ 6) = true by decide, Option.bind_some]
  refine Ev.pos (by omega) (Ev.neg (by omega) (Ev.succ ?_))
  simp only [spec_l1Read.j0]
  refine Ev.neg (by simp) (Ev.succ ?_)
  simp only [spec_l1Read.l0]
  refine Ev.pos (by omega) (Ev.pos (by omega) (Ev.neg (by omega) (Ev.neg (by omega) (Ev.succ ?_))))
  rw [b0, show wrap64 (wrap64 (10 * 0) + (49 - 48) % 256) = 1 by decide +kernel, show wrap64 (0 + 1) = 1 by decide +kernel]
  simp only [spec_l1Read.l0]
  refine Ev.pos (by omega) (Ev.pos (by omega) (Ev.neg (by omega) (Ev.neg (by omega) (Ev.succ ?_))))
  rw [b1, show wrap64 (wrap64 (10 * 1) + (48 - 48) % 256) = 10 by decide +kernel, show wrap64 (1 + 1) = 2 by decide +kernel]
  simp only [spec_l1Read.l0]
  exact Ev.neg (by omega) (Ev.now _)
theorem l1Read_digits (s : ByteArray) (n : Nat) (hn : n ≤ 10) (h : bytesOf s = digits n) : Ev (fun k => spec_l1Read.f k s) (n : Int) := by
  by_cases c : n < 10
  · rw [digits_small c] at h
    exact l1Read_one s (by rw [size_of, h]; rfl) n (by omega) (by omega) (bt_of h 0 _ rfl)
  · obtain rfl : n = 10 := by omega
    rw [digits_big (by omega), digits_small (by omega)] at h
    exact l1Read_ten s h
theorem l1Read_minus (s : ByteArray) (h : bytesOf s = [45]) : Ev (fun k => spec_l1Read.f k s) (-1) := by
  have hs : s.size = 1 := by rw [size_of, h]; rfl
  have b0 : bt s 0 = 45 := bt_of h 0 45 rfl
  unfold spec_l1Read.f spec_l1In.f
  simp only [hs, show ((1 : Nat) : Int) ≥ 1 by omega, if_true, show decide (((1 : Nat) : Int) ≤ 6) = true by decide, Option.bind_some]
  refine Ev.pos (by omega) (Ev.neg (by omega) (Ev.succ ?_))
  simp only [spec_l1Read.j0]
  refine Ev.neg (by simp) (Ev.succ ?_)
  simp only [spec_l1Read.l0]
  exact Ev.pos (by omega) (Ev.pos (by omega) (Ev.pos (by omega) (Ev.now _)))
theorem digit_range (n : Nat) : ∀ y, y ∈ digits n → 48 ≤ y ∧ y ≤ 57 := by
  induction n using Nat.strongRecOn with
  | _ n ih =>
    by_cases h : n < 10
    · rw [digits_small h]; intro y hy; simp at hy; omega
    · rw [digits_big h]
      intro y hy
      rcases List.mem_append.1 hy with hy | hy
      · exact ih (n / 10) (by omega) y hy
      · simp at hy; omega
theorem digits_ne (n : Nat) : digits n ≠ [] := by
  by_cases h : n < 10
  · rw [digits_small h]; simp
  · rw [digits_big h]; simp
def valL (l : List Int) : Int := l.foldl (fun x b => 10 * x + (b - 48)) 0
theorem valL_digits (n : Nat) : valL (digits n) = n := by
  induction n using Nat.strongRecOn with
  | _ n ih =>
    by_cases h : n < 10
    · rw [digits_small h]; simp [valL]; omega
    · rw [digits_big h]
      have := ih (n / 10) (by omega)
      unfold valL at this ⊢
      rw [List.foldl_append, this]
      simp only [List.foldl_cons, List.foldl_nil]
      omega
theorem digits_inj {n m : Nat} (h : digits n = digits m) : n = m := by
  have a := valL_digits n
  rw [h, valL_digits m] at a
  omega
theorem digits_snoc (x b : Nat) (hx : 1 ≤ x) (hb : b < 10) : digits (10 * x + b) = digits x ++ [48 + (b : Int)] := by
  rw [digits_big (by omega), show (10 * x + b) / 10 = x by omega, show (10 * x + b) % 10 = b by omega]
theorem dec_loop (s : ByteArray) (hs : s.size ≤ 18) (d : Nat) : ∀ (i x : Nat), i + d = s.size → digits x = (bytesOf s).take i → (1 ≤ x ∨ d = 0) → x < 10 ^ i →
    ∃ r : Int × Bool, Ev (fun k => impl_decimal.l0 k s x i) r ∧ ((r.2 = false ∧ ∃ y, y ∈ bytesOf s ∧ (y < 48 ∨ y > 57)) ∨ ∃ v : Nat, r = ((v : Int), true) ∧ digits v = bytesOf s) := by
  have hlen : (bytesOf s).length = s.size := bytesOf_length s
  induction d with
  | zero =>
    intro i x hi hd hx hp
    refine ⟨((x : Int), true), Ev.succ ?_, .inr ⟨x, rfl, ?_⟩⟩
    · simp only [impl_decimal.l0]
      exact Ev.neg (by omega) (Ev.now _)
    · rw [hd, List.take_of_length_le (by omega)]
  | succ d ih =>
    intro i x hi hd hx hp
    have hil : i < (bytesOf s).length := by omega
    have hb := bt_get s (i := i) (by omega)
    have hmem : bt s (i : Int) ∈ bytesOf s := by rw [hb]; exact List.getElem_mem hil
    by_cases c1 : bt s (i : Int) < 48
    · refine ⟨(0, false), Ev.succ ?_, .inl ⟨rfl, _, hmem, .inl c1⟩⟩
      simp only [impl_decimal.l0]
      exact Ev.pos (by omega) (Ev.pos (by omega) (Ev.pos c1 (Ev.now _)))
    by_cases c2 : bt s (i : Int) > 57
    · refine ⟨(0, false), Ev.succ ?_, .inl ⟨rfl, _, hmem, .inr c2⟩⟩
      simp only [impl_decimal.l0]
      exact Ev.pos (by omega) (Ev.pos (by omega) (Ev.neg c1 (Ev.pos c2 (Ev.now _))))
    have hx1 : 1 ≤ x := by omega
    obtain ⟨b, hbb⟩ : ∃ b : Nat, bt s (i : Int) = 48 + (b : Int) := ⟨(bt s (i : Int) - 48).toNat, by omega⟩
    have hb9 : b < 10 := by omega
    have hpow : 10 ^ i ≤ 10 ^ 17 := Nat.pow_le_pow_right (by omega) (by omega)
    have hpow1 : 10 ^ (i + 1) = 10 * 10 ^ i := by rw [Nat.pow_succ]; omega
    have h17 : (10 : Nat) ^ 17 = 100000000000000000 := by decide
    rw [h17] at hpow
    obtain ⟨r, hr, ho⟩ := ih (i + 1) (10 * x + b) (by omega) (by
      rw [digits_snoc x b hx1 hb9, hd, List.take_succ_eq_append_getElem hil, ← hb, hbb]) (.inl (by omega)) (by rw [hpow1]; omega)
    refine ⟨r, Ev.succ ?_, ho⟩
    simp only [impl_decimal.l0]
    refine Ev.pos (by omega) (Ev.pos (by omega) (Ev.neg c1 (Ev.neg c2 ?_)))
    have e : wrap64 (wrap64 (10 * (x : Int)) + (bt s (i : Int) - 48) % 256) = ((10 * x + b : Nat) : Int) := by
      rw [wrap_id (x := 10 * (x : Int)) (by omega) (by omega), wrap_id (by omega) (by omega)]; omega
    rw [e, wrap_nat (by omega)]
    exact hr
theorem decimal (s : ByteArray) : ∃ r : Int × Bool, Ev (fun k => impl_decimal.f k s) r ∧ ((r.2 = false ∧ ∀ n : Nat, n ≤ 10 → bytesOf s ≠ digits n) ∨ ∃ v : Nat, r = ((v : Int), true) ∧ digits v = bytesOf s) := by
  have hlen : (bytesOf s).length = s.size := bytesOf_length s
  have out : Ev (fun k => impl_decimal.j0 k s true) (0, false) := by
    refine Ev.succ ?_
    simp only [impl_decimal.j0]
    exact Ev.pos trivial (Ev.now _)
  unfold impl_decimal.f
  by_cases c0 : s.toList = ([] : List UInt8)
  · refine ⟨(0, false), Ev.pos c0 out, .inl ⟨rfl, fun n _ h => ?_⟩⟩
    have : bytesOf s = [] := by rw [toList_eq] at c0; unfold bytesOf; rw [c0]; rfl
    exact digits_ne n (h.symm.trans this)
  have hpos : 0 < s.size := by
    apply Nat.pos_of_ne_zero
    intro h
    apply c0
    rw [toList_eq]
    exact List.eq_nil_of_length_eq_zero (by rw [Array.length_toList]; exact h)
  by_cases c1 : (s.size : Int) > 18
  · refine ⟨(0, false), Ev.neg c0 (Ev.pos c1 out), .inl ⟨rfl, fun n hn h => ?_⟩⟩
    have h1 := digits_length n
    rw [← h] at h1
    omega
  have h0 : bt s ((0 : Nat) : Int) = (bytesOf s)[0]'(by omega) := bt_get s (i := 0) hpos
  have h0' : bt s 0 = (bytesOf s)[0]'(by omega) := h0
  by_cases c2 : bt s 0 = 48 ∧ (s.size : Int) > 1
  · refine ⟨(0, false), Ev.neg c0 (Ev.neg c1 (Ev.pos (by omega) (Ev.pos c2.1 (Ev.val (r := (0, false)) ?_ rfl)))), .inl ⟨rfl, fun n hn h => ?_⟩⟩
    · rw [decide_eq_true c2.2]; exact out
    · by_cases hn9 : n < 10
      · have : (bytesOf s).length = 1 := by rw [h, digits_small hn9]; rfl
        omega
      · obtain rfl : n = 10 := by omega
        rw [digits_big (by omega), digits_small (by omega)] at h
        have := bt_of h 0 49 rfl
        have := c2.1
        omega
  · have core : ∃ r : Int × Bool, Ev (fun k => impl_decimal.l0 k s 0 0) r ∧ ((r.2 = false ∧ ∀ n : Nat, n ≤ 10 → bytesOf s ≠ digits n) ∨ ∃ v : Nat, r = ((v : Int), true) ∧ digits v = bytesOf s) := by
      have hmem : bt s 0 ∈ bytesOf s := by rw [h0']; exact List.getElem_mem _
      by_cases d1 : bt s 0 < 48
      · refine ⟨(0, false), Ev.succ ?_, .inl ⟨rfl, fun n _ h => ?_⟩⟩
        · simp only [impl_decimal.l0]
          exact Ev.pos (by omega) (Ev.pos (by omega) (Ev.pos d1 (Ev.now _)))
        · have := digit_range n _ (h ▸ hmem); omega
      by_cases d2 : bt s 0 > 57
      · refine ⟨(0, false), Ev.succ ?_, .inl ⟨rfl, fun n _ h => ?_⟩⟩
        · simp only [impl_decimal.l0]
          exact Ev.pos (by omega) (Ev.pos (by omega) (Ev.neg d1 (Ev.pos d2 (Ev.now _))))
        · have := digit_range n _ (h ▸ hmem); omega
      obtain ⟨b, hbb⟩ : ∃ b : Nat, bt s 0 = 48 + (b : Int) := ⟨(bt s 0 - 48).toNat, by omega⟩
      have hb9 : b < 10 := by omega
      obtain ⟨r, hr, ho⟩ := dec_loop s (by omega) (s.size - 1) 1 b (by omega) (by
        rw [digits_small hb9, List.take_succ_eq_append_getElem (i := 0) (by omega), ← h0', hbb]; rfl) (by omega) (by omega)
      refine ⟨r, Ev.succ ?_, ?_⟩
      · simp only [impl_decimal.l0]
        refine Ev.pos (by omega) (Ev.pos (by omega) (Ev.neg d1 (Ev.neg d2 ?_)))
        have e : wrap64 (wrap64 (10 * 0) + (bt s 0 - 48) % 256) = (b : Int) := by
          rw [wrap_id (x := 10 * 0) (by omega) (by omega), wrap_id (by omega) (by omega)]; omega
        rw [e, show wrap64 (0 + 1) = ((1 : Nat) : Int) from wrap_id (by omega) (by omega)]
        exact hr
      · rcases ho with ⟨h1, y, hy, hr⟩ | ho
        · exact .inl ⟨h1, fun n _ h => by have := digit_range n y (h ▸ hy); omega⟩
        · exact .inr ho
    obtain ⟨r, hr, ho⟩ := core
    have jr : Ev (fun k => impl_decimal.j0 k s false) r := by
      refine Ev.succ ?_
      simp only [impl_decimal.j0]
      exact Ev.neg (by simp) hr
    refine ⟨r, Ev.neg c0 (Ev.neg c1 (Ev.pos (by omega) (Ev.split (fun e => ?_) (fun _ => jr)))), ho⟩
    rw [decide_eq_false (fun h => c2 ⟨e, h⟩)]
    exact jr
end Go.Proofs.YtfekgidcnidijaaDoor.Bytes
