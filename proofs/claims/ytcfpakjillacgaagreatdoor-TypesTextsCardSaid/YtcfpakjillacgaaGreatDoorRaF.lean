/- What the types are that the functions name. -/
import Derived.Test.YtcfpakjillacgaaGreatDoorRa0
import Derived.KernelRfl
import Derived.Test.YtcfpakjillacgaaGreatDoorQQ
namespace Go.Proofs.YtcfpakjillacgaaGreatDoor
open Go.Ev Go.RowKit
noncomputable section
@[simp] theorem fa_24_0 (c0 c1 c2 c3 : Value) : rdFieldAddr P 24 (some (eptrV (.agg ⟨[c0, c1, c2, c3]⟩))) 0 = optK (bif oneCell c0 then some c0 else none) (fun x => some (eptrV x)) none := by kernel_rfl
@[simp] theorem fa_24_1 (c0 c1 c2 c3 : Value) : rdFieldAddr P 24 (some (eptrV (.agg ⟨[c0, c1, c2, c3]⟩))) 1 = optK (bif oneCell c1 then some c1 else none) (fun x => some (eptrV x)) none := by kernel_rfl
@[simp] theorem fa_24_2 (c0 c1 c2 c3 : Value) : rdFieldAddr P 24 (some (eptrV (.agg ⟨[c0, c1, c2, c3]⟩))) 2 = optK (bif oneCell c2 then some c2 else none) (fun x => some (eptrV x)) none := by kernel_rfl
@[simp] theorem fa_24_3 (c0 c1 c2 c3 : Value) : rdFieldAddr P 24 (some (eptrV (.agg ⟨[c0, c1, c2, c3]⟩))) 3 = optK (bif oneCell c3 then some c3 else none) (fun x => some (eptrV x)) none := by kernel_rfl
@[simp] theorem fp_24_0 (b : Nat) : rdFieldAddr P 24 (some (.pointer (some ⟨b, 0, none⟩))) 0 = some (.pointer (some ⟨b, 0, none⟩)) := by kernel_rfl
@[simp] theorem fp_24_1 (b : Nat) : rdFieldAddr P 24 (some (.pointer (some ⟨b, 0, none⟩))) 1 = some (.pointer (some ⟨b, 1, none⟩)) := by kernel_rfl
@[simp] theorem fp_24_2 (b : Nat) : rdFieldAddr P 24 (some (.pointer (some ⟨b, 0, none⟩))) 2 = some (.pointer (some ⟨b, 2, none⟩)) := by kernel_rfl
@[simp] theorem fp_24_3 (b : Nat) : rdFieldAddr P 24 (some (.pointer (some ⟨b, 0, none⟩))) 3 = some (.pointer (some ⟨b, 3, none⟩)) := by kernel_rfl
theorem fpo_24_0 (b o : Nat) : rdFieldAddr P 24 (some (.pointer (some ⟨b, o, none⟩))) 0 = some (.pointer (some ⟨b, o + 0, none⟩)) := rdFA_ptr (by kernel_rfl)
theorem fpo_24_1 (b o : Nat) : rdFieldAddr P 24 (some (.pointer (some ⟨b, o, none⟩))) 1 = some (.pointer (some ⟨b, o + 1, none⟩)) := rdFA_ptr (by kernel_rfl)
theorem fpo_24_2 (b o : Nat) : rdFieldAddr P 24 (some (.pointer (some ⟨b, o, none⟩))) 2 = some (.pointer (some ⟨b, o + 2, none⟩)) := rdFA_ptr (by kernel_rfl)
theorem fpo_24_3 (b o : Nat) : rdFieldAddr P 24 (some (.pointer (some ⟨b, o, none⟩))) 3 = some (.pointer (some ⟨b, o + 3, none⟩)) := rdFA_ptr (by kernel_rfl)
@[simp] theorem ld_3 (H : T OB) (u : Value) : rdLoad P H 3 (some (eptrV u)) = ldV (some false) (some 1) u := by kernel_rfl
@[simp] theorem ld_5 (H : T OB) (u : Value) : rdLoad P H 5 (some (eptrV u)) = ldV (some false) (some 1) u := by kernel_rfl
@[simp] theorem ld_9 (H : T OB) (u : Value) : rdLoad P H 9 (some (eptrV u)) = ldV (some false) (some 1) u := by kernel_rfl
@[simp] theorem ld_22 (H : T OB) (u : Value) : rdLoad P H 22 (some (eptrV u)) = ldV (some false) (some 1) u := by kernel_rfl
@[simp] theorem ld_24 (H : T OB) (c0 c1 c2 c3 : Value) : rdLoad P H 24 (some (eptrV (.agg ⟨[c0, c1, c2, c3]⟩))) = some (.agg ⟨[c0, c1, c2, c3]⟩) := by kernel_rfl
@[simp] theorem ld_161 (H : T OB) (u : Value) : rdLoad P H 161 (some (eptrV u)) = ldV (some false) (some 1) u := by kernel_rfl
theorem ix_22 {es : List Value} {i : Nat} {u : Value} (h : es[i]? = some u) (k : IntKind) : rdIndexAddr P 22 (some (rowV 4 es)) (some (.int k (i : Int))) = some (eptrV u) := rdIndex_row (by kernel_rfl) h k
theorem ix_82 {es : List Value} {i : Nat} {u : Value} (h : es[i]? = some u) (k : IntKind) : rdIndexAddr P 82 (some (rowV 1 es)) (some (.int k (i : Int))) = some (eptrV u) := rdIndex_row (by kernel_rfl) h k
theorem ixs_22 {b off len c i : Nat} (h : i < len) (k : IntKind) : rdIndexAddr P 22 (some (.slice (some ⟨b, off, none⟩) len c)) (some (.int k (i : Int))) = some (.pointer (some ⟨b, off + i * 4, none⟩)) := rdIndex_sl (by kernel_rfl) h k
theorem ixs_82 {b off len c i : Nat} (h : i < len) (k : IntKind) : rdIndexAddr P 82 (some (.slice (some ⟨b, off, none⟩) len c)) (some (.int k (i : Int))) = some (.pointer (some ⟨b, off + i * 1, none⟩)) := rdIndex_sl (by kernel_rfl) h k
theorem und_22 : P.underlying 22 = some (.slice 24) := by kernel_rfl
theorem und_31 : P.underlying 31 = some (.slice 33) := by kernel_rfl
theorem und_34 : P.underlying 34 = some (.slice 37) := by kernel_rfl
theorem und_35 : P.underlying 35 = some (.slice 52) := by kernel_rfl
theorem und_39 : P.underlying 39 = some (.slice 54) := by kernel_rfl
theorem und_43 : P.underlying 43 = some (.slice 105) := by kernel_rfl
theorem und_44 : P.underlying 44 = some (.slice 9) := by kernel_rfl
theorem und_45 : P.underlying 45 = some (.slice 50) := by kernel_rfl
theorem und_48 : P.underlying 48 = some (.slice 133) := by kernel_rfl
theorem und_54 : P.underlying 54 = some (.slice 58) := by kernel_rfl
theorem und_62 : P.underlying 62 = some (.slice 72) := by kernel_rfl
theorem und_68 : P.underlying 68 = some (.slice 75) := by kernel_rfl
theorem und_82 : P.underlying 82 = some (.slice 5) := by kernel_rfl
theorem und_83 : P.underlying 83 = some (.slice 99) := by kernel_rfl
theorem und_110 : P.underlying 110 = some (.slice 118) := by kernel_rfl
theorem und_111 : P.underlying 111 = some (.slice 114) := by kernel_rfl
@[simp] theorem len_9 (s : ByteArray) (ty : TypeId) : rdLen P #[9] ty (some [.string s]) = some (.int .i64 (s.size : Int)) := rdLen_str s (by kernel_rfl)
@[simp] theorem len_22 (s : Nat) (es : List Value) (ty : TypeId) : rdLen P #[22] ty (some [rowV s es]) = some (.int .i64 (es.length : Int)) := rdLen_row s es (by kernel_rfl)
@[simp] theorem lenS_22 (ty : TypeId) (a : Addr) (n c : Nat) : rdLen P #[22] ty (some [.slice (some a) n c]) = some (.int .i64 (n : Int)) := rdLen_sl (by kernel_rfl)
@[simp] theorem lenN_22 (ty : TypeId) : rdLen P #[22] ty (some [.slice none 0 0]) = some (.int .i64 0) := by kernel_rfl
@[simp] theorem len_82 (s : Nat) (es : List Value) (ty : TypeId) : rdLen P #[82] ty (some [rowV s es]) = some (.int .i64 (es.length : Int)) := rdLen_row s es (by kernel_rfl)
@[simp] theorem lenS_82 (ty : TypeId) (a : Addr) (n c : Nat) : rdLen P #[82] ty (some [.slice (some a) n c]) = some (.int .i64 (n : Int)) := rdLen_sl (by kernel_rfl)
@[simp] theorem lenN_82 (ty : TypeId) : rdLen P #[82] ty (some [.slice none 0 0]) = some (.int .i64 0) := by kernel_rfl
theorem zero_24 : zeroC P 24 = some [(.int .i64 0), (.int .i64 0), (.string ⟨⟨[]⟩⟩), (.slice none 0 0)] := by kernel_rfl
theorem zero_160 : zeroC P 160 = some [(.int .u8 0), (.int .u8 0), (.int .u8 0), (.int .u8 0), (.int .u8 0), (.int .u8 0), (.int .u8 0), (.int .u8 0), (.int .u8 0), (.int .u8 0), (.int .u8 0), (.int .u8 0), (.int .u8 0), (.int .u8 0), (.int .u8 0), (.int .u8 0), (.int .u8 0), (.int .u8 0), (.int .u8 0), (.int .u8 0), (.int .u8 0), (.int .u8 0), (.int .u8 0), (.int .u8 0)] := by kernel_rfl
theorem agg_3 : aggQ P 3 = some false := by kernel_rfl
theorem agg_5 : aggQ P 5 = some false := by kernel_rfl
theorem agg_9 : aggQ P 9 = some false := by kernel_rfl
theorem agg_22 : aggQ P 22 = some false := by kernel_rfl
theorem agg_24 : aggQ P 24 = some true := by kernel_rfl
theorem agg_160 : aggQ P 160 = some true := by kernel_rfl
theorem agg_161 : aggQ P 161 = some false := by kernel_rfl
theorem agg_177 : aggQ P 177 = some true := by kernel_rfl
theorem sz_3 : szOf P 3 = some 1 := by kernel_rfl
theorem sz_5 : szOf P 5 = some 1 := by kernel_rfl
theorem sz_9 : szOf P 9 = some 1 := by kernel_rfl
theorem sz_22 : szOf P 22 = some 1 := by kernel_rfl
theorem sz_24 : szOf P 24 = some 4 := by kernel_rfl
theorem sz_161 : szOf P 161 = some 1 := by kernel_rfl
end
end Go.Proofs.YtcfpakjillacgaaGreatDoor
