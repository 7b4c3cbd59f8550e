/- Texts cut at a byte, as lists of byte numbers. No condition beyond the sizes named. -/
import Derived.Test.YtfekgidcnidijaaDoorNumText
import Derived.Test.YtfekgidcnidijaaDoorSplit
import Derived.Lib.SplitLaws
namespace Go.Proofs.YtfekgidcnidijaaDoor.Bytes
open Go.RowKit Go.Proofs.YtfekgidcnidijaaDoor.P Go.Proofs.YtfekgidcnidijaaDoor.Base Go.Proofs.YtfekgidcnidijaaDoorW.PrintWords Go.Proofs.YtfekgidcnidijaaDoorW.PrintLast Go.Proofs.YtfekgidcnidijaaDoorW.PrintMore
set_option linter.unusedVariables false
set_option linter.unusedSimpArgs false
def preH {α : Type} (a : List α) : List (List α) → List (List α)
  | [] => [a]
  | y :: ys => (a ++ y) :: ys
/-- A list cut at each c. -/
def cut {α : Type} [DecidableEq α] (c : α) : List α → List (List α)
  | [] => [[]]
  | x :: xs => if x = c then [] :: cut c xs else preH [x] (cut c xs)
theorem cut_ne {α : Type} [DecidableEq α] (c : α) (xs : List α) : cut c xs ≠ [] := by
  cases xs with
  | nil => simp [cut]
  | cons x xs =>
    simp only [cut]
    split
    · simp
    · cases cut c xs <;> simp [preH]
theorem preH_nil {α : Type} {l : List (List α)} (h : l ≠ []) : preH [] l = l := by
  cases l with
  | nil => exact absurd rfl h
  | cons y ys => rfl
theorem preH_preH {α : Type} (a b : List α) (l : List (List α)) (h : l ≠ []) : preH a (preH b l) = preH (a ++ b) l := by
  cases l with
  | nil => exact absurd rfl h
  | cons y ys => simp [preH]
theorem pieces_cut (s : ByteArray) (c : Int) : ∀ (d a i : Nat), i + d = s.size → a ≤ i → (pieces s c a i d).map bytesOf = preH (((bytesOf s).take i).drop a) (cut c ((bytesOf s).drop i))
  | 0, a, i, h, ha => by
    have h1 : (bytesOf s).length = s.size := bytesOf_length s
    simp only [pieces, List.map_cons, List.map_nil, bytesOf_extract]
    rw [show (bytesOf s).drop i = [] from List.drop_of_length_le (by omega), List.take_of_length_le (l := bytesOf s) (by omega), List.take_of_length_le (l := bytesOf s) (by omega)]
    simp [cut, preH]
  | d + 1, a, i, h, ha => by
    have h1 : (bytesOf s).length = s.size := bytesOf_length s
    have hi : i < (bytesOf s).length := by omega
    have e := drop_cons hi
    have hb := bt_get s (i := i) (by omega)
    simp only [pieces]
    rw [hb, e]
    simp only [cut]
    split
    · rw [List.map_cons, pieces_cut s c d (i + 1) (i + 1) (by omega) (by omega), bytesOf_extract, show ((bytesOf s).take (i + 1)).drop (i + 1) = [] from List.drop_of_length_le (by simp; omega), preH_nil (cut_ne _ _)]
      simp [preH]
    · rw [pieces_cut s c d a (i + 1) (by omega) (by omega), preH_preH _ _ _ (cut_ne _ _), List.take_succ_eq_append_getElem hi, List.drop_append_of_le_length (by simp; omega)]
theorem l1Split_cut (s : ByteArray) (c : Int) : (pieces s c 0 0 s.size).map bytesOf = cut c (bytesOf s) := by
  rw [pieces_cut s c s.size 0 0 (by omega) (by omega)]
  simp only [List.take_zero, List.drop_zero]
  exact preH_nil (cut_ne _ _)

/-! the library's split -/
theorem prefix_cons (c b : UInt8) (l : List UInt8) : [c].isPrefixOf (b :: l) = (c == b) := by
  simp [List.isPrefixOf]
theorem index_cons (c b : UInt8) (l : List UInt8) (h : b ≠ c) : Lib.index (b :: l) [c] = if Lib.index l [c] == -1 then -1 else Lib.index l [c] + 1 := by
  have : ¬ [c].isPrefixOf (b :: l) = true := by rw [prefix_cons, beq_iff_eq]; exact fun e => h e.symm
  rw [Lib.index]
  rw [if_neg this]
theorem index_here (c : UInt8) (l : List UInt8) : Lib.index (c :: l) [c] = 0 := by
  have : [c].isPrefixOf (c :: l) = true := by rw [prefix_cons, beq_iff_eq]
  rw [Lib.index, if_pos this]
theorem splitK_other (c b : UInt8) (l : List UInt8) (h : b ≠ c) : ∀ k : Nat, Lib.splitK [c] 0 k (b :: l) = preH [b] (Lib.splitK [c] 0 k l)
  | 0 => rfl
  | k + 1 => by
    have hge := Lib.index_ge l [c]
    unfold Lib.splitK
    rw [index_cons c b l h]
    by_cases e : Lib.index l [c] = -1
    · rw [e]; rfl
    · have e1 : (Lib.index l [c] == -1) = false := by simpa using e
      have e2 : (Lib.index l [c] + 1 == -1) = false := by rw [beq_eq_false_iff_ne]; omega
      simp only [e1, e2, Bool.false_eq_true, if_false]
      have e3 : (Lib.index l [c] + 1).toNat = (Lib.index l [c]).toNat + 1 := by omega
      rw [e3]
      simp only [Nat.add_zero, List.length_singleton, List.take_succ_cons, List.drop_succ_cons]
      rfl
theorem splitK_cut (c : UInt8) : ∀ s : List UInt8, Lib.splitK [c] 0 (s.count c) s = cut c s
  | [] => rfl
  | b :: l => by
    by_cases h : b = c
    · subst h
      rw [List.count_cons_self, Lib.splitK, index_here]
      simp only [cut, if_true]
      rw [← splitK_cut b l]
      simp
    · rw [List.count_cons_of_ne h, splitK_other c b l h, splitK_cut c l]
      simp only [cut, if_neg h]
theorem cut_map (c : UInt8) : ∀ s : List UInt8, (cut c s).map (List.map fun b => ((b.toNat : Nat) : Int)) = cut ((c.toNat : Nat) : Int) (s.map fun b => ((b.toNat : Nat) : Int))
  | [] => rfl
  | b :: l => by
    have ih := cut_map c l
    have hne := cut_ne c l
    simp only [cut, List.map_cons]
    by_cases h : b = c
    · rw [if_pos h, if_pos (by rw [h]), List.map_cons, ih]; rfl
    · rw [if_neg h, if_neg (fun e => h (UInt8.toNat_inj.1 (by omega))), ← ih]
      cases hc : cut c l with
      | nil => exact absurd hc hne
      | cons y ys => rfl
theorem libSplit (s : ByteArray) (c : UInt8) : (Lib.splitB ⟨#[c]⟩ 0 (Lib.countB s ⟨#[c]⟩) s).map bytesOf = cut ((c.toNat : Nat) : Int) (bytesOf s) := by
  have h1 := Lib.splitB_data ⟨#[c]⟩ 0 (Lib.countB s ⟨#[c]⟩) s
  have h2 : Lib.countB s ⟨#[c]⟩ = s.data.toList.count c := Lib.count_one c s.data.toList
  have h3 : (Lib.splitB ⟨#[c]⟩ 0 (Lib.countB s ⟨#[c]⟩) s).map bytesOf = ((Lib.splitB ⟨#[c]⟩ 0 (Lib.countB s ⟨#[c]⟩) s).map (·.data.toList)).map (List.map fun b => ((b.toNat : Nat) : Int)) := by
    rw [List.map_map]; rfl
  rw [h3, h1, h2]
  show List.map _ (Lib.splitK [c] 0 _ _) = _
  rw [splitK_cut, cut_map]; rfl

/-! cut and joined -/
def joinC {α : Type} (c : α) : List (List α) → List α
  | [] => []
  | [y] => y
  | y :: z :: ys => y ++ c :: joinC c (z :: ys)
theorem joinC_preH {α : Type} (c : α) (a : List α) : ∀ (l : List (List α)), joinC c (preH a l) = a ++ joinC c l
  | [] => by simp [preH, joinC]
  | [y] => by simp [preH, joinC]
  | y :: z :: ys => by simp [preH, joinC]
theorem join_cut {α : Type} [DecidableEq α] (c : α) : ∀ xs : List α, joinC c (cut c xs) = xs
  | [] => rfl
  | x :: xs => by
    have ih := join_cut c xs
    have hne := cut_ne c xs
    simp only [cut]
    split
    · rename_i h
      cases hc : cut c xs with
      | nil => exact absurd hc hne
      | cons y ys =>
        rw [hc] at ih
        simp only [joinC, ih, List.nil_append, h]
    · rw [joinC_preH, ih]; rfl
theorem cut_none {α : Type} [DecidableEq α] (c : α) : ∀ y : List α, c ∉ y → cut c y = [y]
  | [], _ => rfl
  | x :: y, h => by
    simp only [List.mem_cons, not_or] at h
    simp only [cut, if_neg (fun e : x = c => h.1 e.symm), cut_none c y h.2]; rfl
theorem cut_append {α : Type} [DecidableEq α] (c : α) (r : List α) : ∀ y : List α, c ∉ y → cut c (y ++ c :: r) = y :: cut c r
  | [], _ => by simp [cut]
  | x :: y, h => by
    simp only [List.mem_cons, not_or] at h
    simp only [List.cons_append, cut, if_neg (fun e : x = c => h.1 e.symm), cut_append c r y h.2]; rfl
theorem cut_snoc {α : Type} [DecidableEq α] (c : α) : ∀ xs : List α, cut c (xs ++ [c]) = cut c xs ++ [[]]
  | [] => by simp [cut]
  | x :: xs => by
    have hne := cut_ne c xs
    simp only [List.cons_append, cut, cut_snoc c xs]
    split
    · rfl
    · cases hc : cut c xs with
      | nil => exact absurd hc hne
      | cons y ys => rfl
theorem cut_lines {α : Type} [DecidableEq α] (c : α) : ∀ L : List (List α), (∀ y, y ∈ L → c ∉ y) → cut c (L.flatMap fun y => y ++ [c]) = L ++ [[]]
  | [], _ => rfl
  | y :: L, h => by
    rw [List.flatMap_cons, List.append_assoc, List.singleton_append, cut_append c _ y (h y (by simp)), cut_lines c L (fun z hz => h z (by simp [hz]))]; rfl
theorem join_lines {α : Type} (c : α) : ∀ L : List (List α), L ≠ [] → joinC c L ++ [c] = L.flatMap fun y => y ++ [c]
  | [], h => absurd rfl h
  | [y], _ => by simp [joinC]
  | y :: z :: L, _ => by
    rw [List.flatMap_cons, ← join_lines c (z :: L) (by simp)]
    simp [joinC]
end Go.Proofs.YtfekgidcnidijaaDoor.Bytes
