/- What the printed walks need of package-level tables of texts: a table loaded whole, and an element of it. -/
import Derived.Test.YtnihjlnnllngeaaDoorA0
import Derived.Laws.Rows
import Derived.ChangeKeysEq
namespace Go.Proofs.YtnihjlnnllngeaaDoorW.PrintWords
open Go.RowKit
theorem ai {p : Prop} [h : Aside0 p] : p := h.out
/-- W' is W some allocations and draws on. -/
class Up (W W' : World) : Prop where
  out : Below W.heap.size W W'
instance (W : World) : Up W W := ⟨Below.refl _ _⟩
section
variable {w W W' : World} {g : Nat}
instance (o : Obj) [h : Up W W'] : Up W (W'.alloc o) := ⟨below_alloc h.out o⟩
instance (m : Nat) [h : Up W W'] : Up W (W'.drewN m) := ⟨pw_below_drewN h.out m⟩
instance [h : Up W W'] : Up W W'.drew := ⟨below_drew1 h.out⟩
theorem blk_up {o : Obj} (h : W.heap[g]? = some o) [u : Up W W'] : W'.heap[g]? = some o := blk_below h u.out
theorem Kd.R_up {α : Type} {d : Kd α} {e base : Nat} {ok : Nat → Prop} {v : Value} {xs : List α} (h : d.R e W base ok v xs) [u : Up W W'] : d.R e W' base ok v xs := Kd.R_below h u.out
theorem Kd.C_up {α : Type} {d : Kd α} {A : Option Addr} {n : Nat} {xs : List α} (h : d.C W A n xs) [u : Up W W'] : d.C W' A n xs := Kd.C_below h u.out
instance (o : Obj) [h : Aside0 (Below w.heap.size w W)] : Aside0 (Below w.heap.size w (W.alloc o)) := ⟨below_alloc h.out o⟩
instance (m : Nat) [h : Aside0 (Below w.heap.size w W)] : Aside0 (Below w.heap.size w (W.drewN m)) := ⟨pw_below_drewN h.out m⟩
instance [h : Aside0 (Below w.heap.size w W)] : Aside0 (Below w.heap.size w W.drew) := ⟨below_drew1 h.out⟩
instance {j : Nat} {v : Value} [h : Aside0 (Below w.heap.size w W)] [hg : Aside0 (w.heap.size ≤ g)] : Aside0 (Below w.heap.size w (W.setCell ⟨g, j, none⟩ v)) := ⟨below_set h.out hg.out⟩
instance (o : Obj) [h : Aside0 (KeepBut w W g none)] : Aside0 (KeepBut w (W.alloc o) g none) := ⟨keep_alloc h.out o⟩
instance (m : Nat) [h : Aside0 (KeepBut w W g none)] : Aside0 (KeepBut w (W.drewN m) g none) := ⟨keep_drewN h.out m⟩
instance [h : Aside0 (KeepBut w W g none)] : Aside0 (KeepBut w W.drew g none) := ⟨keep_drew h.out⟩
instance {j : Nat} {v : Value} [h : Aside0 (KeepBut w W g none)] : Aside0 (KeepBut w (W.setCell ⟨g, j, none⟩ v) g none) := ⟨KeepBut.set_ h.out j v⟩
instance {b j : Nat} {v : Value} [h : Aside0 (KeepBut w W g none)] [hb : Aside0 (w.heap.size ≤ b)] : Aside0 (KeepBut w (W.setCell ⟨b, j, none⟩ v) g none) := ⟨keep_far (p := ⟨b, j, none⟩) h.out hb.out v⟩
end
theorem u8_w (n : Int) : IntKind.u8.wrap n = n % 256 := by simp [IntKind.wrap, IntKind.signed, IntKind.bits]
theorem isEmpty_bne (l : List UInt8) : (l.isEmpty = !l != []) = True := by cases l <;> simp
/-- A table's texts, as a value's cells. -/
def tabA (l : List ByteArray) : Array Value := (l.map Value.string).toArray
section
variable {P : Program} {ops : Array Oper} {rest : List Oper} {o : Oper} {a : Act} {w : World} {Q : Exit → Act → World → Prop}
theorem gate_list (h : wpList P ops Q (o :: rest) a w) : wpList P ops Q (o :: rest) a w := h
theorem wpList_load_glob (hgd : o.guard = none) {g : Nat} {ty : TypeId} (ho : o.op = .load ty (.global g)) {v : Value} (hrun : (loadVar ty ⟨g, 0, none⟩).run P w = .ok v w)
    (h : wpList P ops Q rest (a.put o.dst v) w) : wpList P ops Q (o :: rest) a w :=
  wpList_plain hgd fun K hK => by
    unfold Oper.wp execOp
    simp only [ho, Act.eval, Instr.loadAt, Instr.sureAddr, Sem.run_bind, Sem.run_pure, Result.andThen_ok, hrun]
    exact hK _ _ h
theorem wpList_index_tab (hgd : o.guard = none) {ty e : TypeId} {x y : Operand} (ho : o.op = .index ty x y) {l : List ByteArray} {i : Int} {n : Nat} (hx : a.eval x = .agg (tabA l)) (hy : a.eval y = .int .i64 i)
    (hu : P.underlying ty = some (.array n e)) (hn : l.length = n) (hE : P.plainKey e = true ∧ P.cellsOf e = 1 ∧ (P.info? e).isSome = true) (h0 : 0 ≤ i) (h1 : i < (n : Int))
    (h : wpList P ops Q rest (a.put o.dst (.string (rdOf ByteArray.empty l i))) w) : wpList P ops Q (o :: rest) a w :=
  wpList_plain hgd fun K hK => by
    obtain ⟨he, hs, hf⟩ := hE
    obtain ⟨inf, hinf⟩ := Option.isSome_iff_exists.1 hf
    have hc : (tabA l)[i.toNat]? = some (.string (rdOf ByteArray.empty l i)) := by
      have hl : i.toNat < l.length := by omega
      simp [tabA, rdOf, List.getD_eq_getElem?_getD, List.getElem?_eq_getElem hl]
    have hrun : (Instr.index ty (.agg (tabA l)) (.int .i64 i)).run P w = .ok (.string (rdOf ByteArray.empty l i)) w := by
      simp [Instr.index, asIntOf, run_underlying hu, h0, h1, run_sizeOf w hinf, hs, run_part_plain w he hc]
    unfold Oper.wp execOp
    simp only [ho, hx, hy, Sem.run_bind, hrun, Result.andThen_ok, Sem.run_pure]
    exact hK _ _ h
theorem run_tab {g : Nat} {ty e : TypeId} {n : Nat} {l : List ByteArray} (hu : P.underlying ty = some (.array n e)) (hi : (P.info? ty).map (·.size) = some n) (hn : l.length = n) (h0 : 0 < n)
    (h : Kd.C Kd.string w (some ⟨g, 0, none⟩) l.length l) : (loadVar ty ⟨g, 0, none⟩).run P w = .ok (.agg (tabA l)) w := by
  obtain ⟨_, _, hc⟩ := h
  obtain ⟨ad, he, hc⟩ := hc (by omega)
  injection he with he
  subst he
  have hl : (loadCells ⟨g, 0, none⟩ (tabA l).toList.length).run P w = .ok (tabA l).toList.toArray w :=
    run_loadCells_list (P := P) w ⟨g, 0, none⟩ (tabA l).toList (fun j v hv => by
      have hv' : (l.map Value.string)[j]? = some v := by simpa [tabA] using hv
      rw [List.getElem?_map] at hv'
      cases hj : l[j]? with
      | none => rw [hj] at hv'; cases hv'
      | some p =>
        rw [hj] at hv'
        obtain ⟨c, hcl, hK, hcell⟩ := hc j p hj
        have hK' : c = [Value.string p] := hK
        subst hK'
        have := hcell 0 _ rfl
        simp only [Option.map_some, Option.some.injEq] at hv'
        rw [← hv']
        simpa [Kd.string, Kd.scalar] using this)
  cases hq : P.info? ty with
  | none => simp [hq] at hi
  | some i =>
    have hs : i.size = n := by simpa [hq] using hi
    have hagg : (isAgg ty).run P w = .ok true w := by
      unfold isAgg
      rw [Sem.run_bind, run_underlying hu w]
      simp
    have hlen : (tabA l).toList.length = n := by simp [tabA, hn]
    rw [hlen] at hl
    simp [loadVar, Sem.run_bind, hagg, sizeOf, typeInfo, hq, hs, hl]
end
end Go.Proofs.YtnihjlnnllngeaaDoorW.PrintWords
