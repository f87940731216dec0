/- How many values an operation takes; what a step needs. -/
import Derived.Test.YtfdgoenmdalphaaDoorS4
namespace Go.Proofs.YtfdgoenmdalphaaDoor
open Go.Ev Go.RowKit
noncomputable section
set_option maxRecDepth 100000
set_option linter.unusedVariables false
set_option linter.unusedSimpArgs false
def tbl : List (List Value) := [[(.string ⟨⟨[]⟩⟩), (.string ⟨⟨[]⟩⟩), (.string ⟨⟨[]⟩⟩), (.string ⟨⟨[]⟩⟩)],
  [(.string ⟨⟨[105, 110, 116]⟩⟩), (.string ⟨⟨[97, 110]⟩⟩), (.string ⟨⟨[]⟩⟩), (.string ⟨⟨[97]⟩⟩)],
  [(.string ⟨⟨[108, 105, 116]⟩⟩), (.string ⟨⟨[97, 110]⟩⟩), (.string ⟨⟨[]⟩⟩), (.string ⟨⟨[97]⟩⟩)],
  [(.string ⟨⟨[109, 111, 118, 101]⟩⟩), (.string ⟨⟨[97, 98]⟩⟩), (.string ⟨⟨[98]⟩⟩), (.string ⟨⟨[97]⟩⟩)],
  [(.string ⟨⟨[112, 117, 116]⟩⟩), (.string ⟨⟨[97, 110]⟩⟩), (.string ⟨⟨[97]⟩⟩), (.string ⟨⟨[]⟩⟩)],
  [(.string ⟨⟨[108, 111, 97, 100]⟩⟩), (.string ⟨⟨[97, 110]⟩⟩), (.string ⟨⟨[]⟩⟩), (.string ⟨⟨[97]⟩⟩)],
  [(.string ⟨⟨[115, 97, 118, 101]⟩⟩), (.string ⟨⟨[97, 110]⟩⟩), (.string ⟨⟨[97]⟩⟩), (.string ⟨⟨[]⟩⟩)],
  [(.string ⟨⟨[97, 100, 100]⟩⟩), (.string ⟨⟨[97, 98, 99]⟩⟩), (.string ⟨⟨[98, 99]⟩⟩), (.string ⟨⟨[97]⟩⟩)],
  [(.string ⟨⟨[115, 117, 98]⟩⟩), (.string ⟨⟨[97, 98, 99]⟩⟩), (.string ⟨⟨[98, 99]⟩⟩), (.string ⟨⟨[97]⟩⟩)],
  [(.string ⟨⟨[109, 117, 108]⟩⟩), (.string ⟨⟨[97, 98, 99]⟩⟩), (.string ⟨⟨[98, 99]⟩⟩), (.string ⟨⟨[97]⟩⟩)],
  [(.string ⟨⟨[100, 105, 118]⟩⟩), (.string ⟨⟨[97, 98, 99]⟩⟩), (.string ⟨⟨[98, 99]⟩⟩), (.string ⟨⟨[97]⟩⟩)],
  [(.string ⟨⟨[109, 111, 100]⟩⟩), (.string ⟨⟨[97, 98, 99]⟩⟩), (.string ⟨⟨[98, 99]⟩⟩), (.string ⟨⟨[97]⟩⟩)],
  [(.string ⟨⟨[110, 101, 103]⟩⟩), (.string ⟨⟨[97, 98]⟩⟩), (.string ⟨⟨[98]⟩⟩), (.string ⟨⟨[97]⟩⟩)],
  [(.string ⟨⟨[108, 101, 115, 115]⟩⟩), (.string ⟨⟨[97, 98, 99]⟩⟩), (.string ⟨⟨[98, 99]⟩⟩), (.string ⟨⟨[97]⟩⟩)],
  [(.string ⟨⟨[97, 116, 109, 111, 115, 116]⟩⟩), (.string ⟨⟨[97, 98, 99]⟩⟩), (.string ⟨⟨[98, 99]⟩⟩), (.string ⟨⟨[97]⟩⟩)],
  [(.string ⟨⟨[115, 97, 109, 101]⟩⟩), (.string ⟨⟨[97, 98, 99]⟩⟩), (.string ⟨⟨[98, 99]⟩⟩), (.string ⟨⟨[97]⟩⟩)],
  [(.string ⟨⟨[116, 117, 112, 108, 101]⟩⟩), (.string ⟨⟨[97, 110]⟩⟩), (.string ⟨⟨[]⟩⟩), (.string ⟨⟨[97]⟩⟩)],
  [(.string ⟨⟨[99, 108, 111, 115, 117, 114, 101]⟩⟩), (.string ⟨⟨[97, 110]⟩⟩), (.string ⟨⟨[]⟩⟩), (.string ⟨⟨[97]⟩⟩)],
  [(.string ⟨⟨[114, 101, 102]⟩⟩), (.string ⟨⟨[97, 98]⟩⟩), (.string ⟨⟨[98]⟩⟩), (.string ⟨⟨[97]⟩⟩)],
  [(.string ⟨⟨[102, 105, 101, 108, 100]⟩⟩), (.string ⟨⟨[97, 98, 110]⟩⟩), (.string ⟨⟨[98]⟩⟩), (.string ⟨⟨[97]⟩⟩)],
  [(.string ⟨⟨[102, 105, 108, 108]⟩⟩), (.string ⟨⟨[97, 98, 110]⟩⟩), (.string ⟨⟨[97, 98]⟩⟩), (.string ⟨⟨[]⟩⟩)],
  [(.string ⟨⟨[97, 115, 115, 105, 103, 110]⟩⟩), (.string ⟨⟨[97, 98]⟩⟩), (.string ⟨⟨[97, 98]⟩⟩), (.string ⟨⟨[]⟩⟩)],
  [(.string ⟨⟨[116, 97, 103]⟩⟩), (.string ⟨⟨[97, 98]⟩⟩), (.string ⟨⟨[98]⟩⟩), (.string ⟨⟨[97]⟩⟩)],
  [(.string ⟨⟨[106, 117, 109, 112]⟩⟩), (.string ⟨⟨[110]⟩⟩), (.string ⟨⟨[]⟩⟩), (.string ⟨⟨[]⟩⟩)],
  [(.string ⟨⟨[117, 110, 108, 101, 115, 115]⟩⟩), (.string ⟨⟨[97, 110]⟩⟩), (.string ⟨⟨[97]⟩⟩), (.string ⟨⟨[]⟩⟩)],
  [(.string ⟨⟨[101, 110, 116, 101, 114]⟩⟩), (.string ⟨⟨[110]⟩⟩), (.string ⟨⟨[]⟩⟩), (.string ⟨⟨[]⟩⟩)],
  [(.string ⟨⟨[99, 97, 108, 108]⟩⟩), (.string ⟨⟨[97, 98]⟩⟩), (.string ⟨⟨[97, 98]⟩⟩), (.string ⟨⟨[48]⟩⟩)],
  [(.string ⟨⟨[116, 97, 105, 108]⟩⟩), (.string ⟨⟨[97, 98]⟩⟩), (.string ⟨⟨[97, 98]⟩⟩), (.string ⟨⟨[]⟩⟩)],
  [(.string ⟨⟨[114, 101, 116, 117, 114, 110]⟩⟩), (.string ⟨⟨[97]⟩⟩), (.string ⟨⟨[97]⟩⟩), (.string ⟨⟨[]⟩⟩)],
  [(.string ⟨⟨[104, 97, 110, 100, 108, 101]⟩⟩), (.string ⟨⟨[110]⟩⟩), (.string ⟨⟨[]⟩⟩), (.string ⟨⟨[]⟩⟩)],
  [(.string ⟨⟨[117, 110, 104, 97, 110, 100, 108, 101]⟩⟩), (.string ⟨⟨[]⟩⟩), (.string ⟨⟨[]⟩⟩), (.string ⟨⟨[]⟩⟩)],
  [(.string ⟨⟨[114, 97, 105, 115, 101]⟩⟩), (.string ⟨⟨[97]⟩⟩), (.string ⟨⟨[97]⟩⟩), (.string ⟨⟨[]⟩⟩)],
  [(.string ⟨⟨[106, 111, 105, 110]⟩⟩), (.string ⟨⟨[97, 98, 99]⟩⟩), (.string ⟨⟨[98, 99]⟩⟩), (.string ⟨⟨[97]⟩⟩)],
  [(.string ⟨⟨[115, 105, 122, 101]⟩⟩), (.string ⟨⟨[97, 98]⟩⟩), (.string ⟨⟨[98]⟩⟩), (.string ⟨⟨[97]⟩⟩)],
  [(.string ⟨⟨[115, 116, 114]⟩⟩), (.string ⟨⟨[97, 98]⟩⟩), (.string ⟨⟨[98]⟩⟩), (.string ⟨⟨[97]⟩⟩)],
  [(.string ⟨⟨[111, 114, 100]⟩⟩), (.string ⟨⟨[97, 98, 99]⟩⟩), (.string ⟨⟨[98, 99]⟩⟩), (.string ⟨⟨[97]⟩⟩)],
  [(.string ⟨⟨[100, 105, 103, 105, 116, 115]⟩⟩), (.string ⟨⟨[97, 98]⟩⟩), (.string ⟨⟨[98]⟩⟩), (.string ⟨⟨[97]⟩⟩)]]

theorem fill_tbl : Instr.fill (fun i => some (i * 4, 4)) (zeroRow [.string ⟨⟨[]⟩⟩, .string ⟨⟨[]⟩⟩, .string ⟨⟨[]⟩⟩, .string ⟨⟨[]⟩⟩] (37 * 4)) (tbl.mapIdx fun i x => (i, .agg ⟨x⟩)) = some ⟨tbl.flatten⟩ := by kernel_rfl
theorem idx_tbl : (tbl.mapIdx fun i x => (i, Value.agg ⟨x⟩)) = (tbl.mapIdx fun i x => (i, Value.agg ⟨x⟩)) := rfl
/-- How many values an operation takes; 0: none's. -/
def takesOf (n : Int) : Int := if n = 12 ∨ n = 18 ∨ n = 22 ∨ n = 33 ∨ n = 34 ∨ n = 36 then 1 else if (7 ≤ n ∧ n ≤ 15) ∨ n = 21 ∨ n = 32 ∨ n = 35 then 2 else 0
def chk (k : Nat) : Bool := match tbl[k]? with
  | some [.string a, .string b, .string c, .string d] => !(Nat.ble 7 k && Nat.ble k 15 || Nat.beq k 18 || Nat.beq k 22 || Nat.ble 32 k && Nat.ble k 36) || decide ((b.size : Int) - 1 = takesOf k)
  | _ => false
theorem chk_all : (List.range 37).all chk = true := by kernel_rfl
theorem tbl_row (k : Nat) (hk : k < 37) : ∃ a b c d : ByteArray, tbl[k]? = some [.string a, .string b, .string c, .string d] ∧ (7 ≤ k ∧ k ≤ 15 ∨ k = 18 ∨ k = 22 ∨ 32 ≤ k ∧ k ≤ 36 → (b.size : Int) - 1 = takesOf k) := by
  have h := List.all_eq_true.1 chk_all k (List.mem_range.2 hk)
  unfold chk at h
  split at h
  · rename_i a b c d e
    refine ⟨a, b, c, d, e, fun hc => ?_⟩
    have : (Nat.ble 7 k && Nat.ble k 15 || Nat.beq k 18 || Nat.beq k 22 || Nat.ble 32 k && Nat.ble k 36) = true := by
      simp only [Bool.or_eq_true, Bool.and_eq_true, Nat.ble_eq, Nat.beq_eq]
      omega
    rw [this] at h
    simpa using h
  · cases h
end
end Go.Proofs.YtfdgoenmdalphaaDoor
