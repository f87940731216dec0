/- Plain words for the texts of layer 7: a text as a list of numbers, its parts; numbers that do not wrap. No program here. -/
import Derived.Test.YtnihjlnnllngeaaDoorF0
namespace Go.Proofs.YtnihjlnnllngeaaDoor.Lx
open Go.RowKit Go.Proofs.YtnihjlnnllngeaaDoorW.PrintWords
set_option linter.unusedVariables false
set_option linter.unusedSimpArgs false
set_option linter.unusedSectionVars false

/-- A text's bytes. -/
def B (s : ByteArray) : List Nat := s.data.toList.map (·.toNat)
theorem B_length (s : ByteArray) : (B s).length = s.size := by
  rw [B, List.length_map, Array.length_toList]; rfl
theorem B_lt {s : ByteArray} {x : Nat} (h : x ∈ B s) : x < 256 := by
  simp only [B, List.mem_map] at h
  obtain ⟨u, _, rfl⟩ := h
  exact u.toNat_lt
theorem B_get {s : ByteArray} {i : Nat} (h : i < s.size) : (B s)[i]? = some (s[i].toNat) := by
  simp only [B, List.getElem?_map]
  have : s.data.toList[i]? = some s[i] := by
    rw [List.getElem?_eq_getElem (by rw [Array.length_toList]; exact h)]
    rfl
  rw [this]; rfl
theorem bt_eq {s : ByteArray} {i : Nat} (h : i < s.size) : bt s (i : Int) = ((B s)[i]?.getD 0 : Nat) := by
  rw [B_get h]
  simp [bt, h]
/-- The byte in front of a rest. -/
theorem bt_drop {s : ByteArray} {i c : Nat} {r : List Nat} (h : (B s).drop i = c :: r) : bt s (i : Int) = c ∧ i < s.size ∧ (B s).drop (i + 1) = r := by
  have hl : i < s.size := by
    have : ((B s).drop i).length = (c :: r).length := by rw [h]
    rw [List.length_drop, B_length] at this
    simp at this
    omega
  refine ⟨?_, hl, ?_⟩
  · rw [bt_eq hl]
    have h2 : ((B s).drop i)[0]? = some c := by rw [h]; rfl
    rw [List.getElem?_drop, Nat.add_zero] at h2
    rw [h2]; rfl
  · have h3 : ((B s).drop i).drop 1 = r := by rw [h]; rfl
    rw [List.drop_drop] at h3
    exact h3
theorem drop_nil {s : ByteArray} {i : Nat} (h : (B s).drop i = []) : s.size ≤ i := by
  have := List.drop_eq_nil_iff.1 h
  rwa [B_length] at this
theorem drop_ex (s : ByteArray) {i : Nat} (h : i < s.size) : ∃ c r, (B s).drop i = c :: r := by
  cases hd : (B s).drop i with
  | nil => have := drop_nil hd; omega
  | cons c r => exact ⟨c, r, rfl⟩
theorem B_inj {a b : ByteArray} (h : B a = B b) : a = b := by
  have h1 : a.data.toList = b.data.toList := by
    apply List.ext_getElem?
    intro i
    have h2 : (B a)[i]? = (B b)[i]? := by rw [h]
    simp only [B, List.getElem?_map] at h2
    cases ha : a.data.toList[i]? <;> cases hb : b.data.toList[i]? <;> simp [ha, hb] at h2 ⊢
    exact UInt8.toNat_inj.1 h2
  cases a; cases b
  simp at h1
  simp [h1]
theorem toList_B (s : ByteArray) : B s = s.toList.map (·.toNat) := by
  rw [B, ByteArray.toList_eq s]
theorem toList_eq_iff (s : ByteArray) (l : List UInt8) : s.toList = l ↔ B s = l.map (·.toNat) := by
  rw [toList_B]
  constructor
  · intro h; rw [h]
  · intro h
    apply List.ext_getElem?
    intro i
    have h2 : (s.toList.map (·.toNat))[i]? = (l.map (·.toNat))[i]? := by rw [h]
    simp only [List.getElem?_map] at h2
    cases ha : s.toList[i]? <;> cases hb : l[i]? <;> simp [ha, hb] at h2 ⊢
    exact UInt8.toNat_inj.1 h2
theorem toList_inj {a b : ByteArray} : a.toList = b.toList ↔ a = b := by
  constructor
  · intro h; exact B_inj (by rw [toList_B, toList_B, h])
  · rintro rfl; rfl
theorem B_extract (s : ByteArray) (i j : Nat) : B (s.extract i j) = ((B s).drop i).take (j - i) := by
  simp only [B, ByteArray.data_extract, Array.toList_extract, List.extract_eq_take_drop, List.map_take, List.map_drop]
theorem B_rest (s : ByteArray) (i : Nat) : B (s.extract i s.size) = (B s).drop i := by
  rw [B_extract, List.take_of_length_le (by rw [List.length_drop, B_length]; omega)]
theorem size_rest (s : ByteArray) (i : Nat) : (s.extract i s.size).size = s.size - i := by
  rw [← B_length, B_rest, List.length_drop, B_length]
/-- The text of some bytes. -/
def M (l : List Nat) : ByteArray := ⟨(l.map UInt8.ofNat).toArray⟩
theorem B_M {l : List Nat} (h : ∀ x ∈ l, x < 256) : B (M l) = l := by
  simp only [B, M, List.map_map]
  conv => rhs; rw [← List.map_id l]
  apply List.map_congr_left
  intro x hx
  simp [UInt8.toNat_ofNat', Nat.mod_eq_of_lt (h x hx)]
theorem M_B (s : ByteArray) : M (B s) = s := B_inj (B_M fun _ h => B_lt h)
theorem w64 {x : Int} (h0 : -9223372036854775808 ≤ x) (h1 : x ≤ 9223372036854775807) : wrap64 x = x := by
  unfold wrap64; omega
theorem w64_1 {i : Nat} {n : Nat} (h : i ≤ n) (hn : n ≤ 140737488351232) : wrap64 ((i : Int) + 1) = ((i + 1 : Nat) : Int) := by
  rw [w64 (by omega) (by omega)]; rfl
theorem w64_2 {i : Nat} {n : Nat} (h : i ≤ n) (hn : n ≤ 140737488351232) : wrap64 ((i : Int) + 2) = ((i + 2 : Nat) : Int) := by
  rw [w64 (by omega) (by omega)]; rfl
theorem w64_add {i j n : Nat} (h : i + j ≤ n) (hn : n ≤ 140737488351240) : wrap64 ((i : Int) + (j : Int)) = ((i + j : Nat) : Int) := by
  rw [w64 (by omega) (by omega)]; rfl
end Go.Proofs.YtnihjlnnllngeaaDoor.Lx
