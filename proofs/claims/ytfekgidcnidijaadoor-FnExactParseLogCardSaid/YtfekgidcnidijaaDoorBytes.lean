/- Strings as lists of byte numbers. No condition. -/
import Derived.Test.YtfekgidcnidijaaDoorBase

namespace Go.Proofs.YtfekgidcnidijaaDoor.Bytes
open Go.RowKit Go.Proofs.YtfekgidcnidijaaDoor.P Go.Proofs.YtfekgidcnidijaaDoor.Base Go.Proofs.YtfekgidcnidijaaDoorW.PrintWords Go.Proofs.YtfekgidcnidijaaDoorW.PrintLast Go.Proofs.YtfekgidcnidijaaDoorW.PrintMore
set_option linter.unusedVariables false
set_option linter.unusedSimpArgs false
theorem toList_loop (b : ByteArray) (d : Nat) : ∀ (i : Nat) (r : List UInt8), b.size ≤ i + d → ByteArray.toList.loop b i r = r.reverse ++ b.data.toList.drop i := by
  induction d with
  | zero =>
    intro i r h
    unfold ByteArray.toList.loop
    have h1 : b.data.toList.length = b.size := by rw [Array.length_toList]; rfl
    rw [if_neg (by omega), List.drop_of_length_le (by omega), List.append_nil]
  | succ d ih =>
    intro i r h
    unfold ByteArray.toList.loop
    have h1 : b.data.toList.length = b.size := by rw [Array.length_toList]; rfl
    by_cases c : i < b.size
    · have h2 : i < b.data.toList.length := by omega
      rw [if_pos c, ih (i + 1) _ (by omega), List.drop_eq_getElem_cons h2, List.reverse_cons, List.append_assoc]
      have h3 : b.get! i = b.data.toList[i] := by
        have h4 : i < b.data.size := c
        show b.data[i]! = _
        rw [getElem!_pos b.data i h4, Array.getElem_toList]
      rw [h3]; rfl
    · rw [if_neg c, List.drop_of_length_le (by omega), List.append_nil]
theorem toList_eq (b : ByteArray) : b.toList = b.data.toList := by
  unfold ByteArray.toList
  rw [toList_loop b b.size 0 [] (by omega)]; simp
theorem bytesOf_inj {a b : ByteArray} (h : bytesOf a = bytesOf b) : a.data.toList = b.data.toList := by
  unfold bytesOf at h
  have := List.map_inj_right (f := fun (x : UInt8) => (x.toNat : Int)) (by intro x y hxy; exact UInt8.toNat_inj.1 (by omega)) |>.1 h
  exact this
theorem toList_iff (a b : ByteArray) : a.toList = b.toList ↔ bytesOf a = bytesOf b := by
  rw [toList_eq, toList_eq]
  exact ⟨fun h => by unfold bytesOf; rw [h], bytesOf_inj⟩
theorem bytesOf_append (a b : ByteArray) : bytesOf (a ++ b) = bytesOf a ++ bytesOf b := by
  unfold bytesOf
  rw [ByteArray.data_append]; simp
theorem bytesOf_extract (a : ByteArray) (i j : Nat) : bytesOf (a.extract i j) = ((bytesOf a).take j).drop i := by
  unfold bytesOf
  rw [ByteArray.data_extract]
  simp [List.extract_eq_take_drop, ← List.map_take, ← List.map_drop, List.drop_take]
theorem bytesOf_range (a : ByteArray) : ∀ x, x ∈ bytesOf a → 0 ≤ x ∧ x ≤ 255 := by
  intro x hx
  unfold bytesOf at hx
  obtain ⟨b, _, rfl⟩ := List.mem_map.1 hx
  have := b.toNat_lt
  omega
theorem bt_get (a : ByteArray) {i : Nat} (h : i < a.size) : bt a (i : Int) = (bytesOf a)[i]'(by rw [bytesOf_length]; exact h) := by
  rw [← rd_bytesOf, rd_get (by rw [bytesOf_length]; exact h)]
theorem size_of (a : ByteArray) : a.size = (bytesOf a).length := (bytesOf_length a).symm
end Go.Proofs.YtfekgidcnidijaaDoor.Bytes
