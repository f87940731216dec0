/- What is known: a fixed run, behind a table; the library's text of a number. -/
import Derived.Test.YtcfpakjillacgaaGreatDoorTI
import Derived.Test.YtcfpakjillacgaaGreatDoorQW
import Derived.Test.YtcfpakjillacgaaGreatDoorSh
import Derived.Test.YtcfpakjillacgaaGreatDoorRows
import Derived.Lib.AppendIntMem
import Derived.Stop.LaidErr
namespace Go.Proofs.YtcfpakjillacgaaGreatDoor
open Go.Ev Go.RowKit Go.ChangeShapes Go.WideShapes Go.ChangeAt
noncomputable section
set_option maxRecDepth 100000
set_option linter.unusedVariables false
set_option linter.unusedSimpArgs false
variable {W : World}
def isTrue (r : Option Rt) : Bool := match r with
  | some ⟨.ret (.bool true), false, _, _⟩ => true
  | _ => false
def pl0 : Pol := ⟨[], [], [], [], false⟩
def lKeys : List ByteArray := [⟨⟨[97, 110, 100]⟩⟩, ⟨⟨[97, 110, 100, 97, 108, 115, 111]⟩⟩, ⟨⟨[99, 97, 115, 101]⟩⟩, ⟨⟨[100, 97, 116, 97, 116, 121, 112, 101]⟩⟩, ⟨⟨[100, 105, 118]⟩⟩, ⟨⟨[101, 108, 115, 101]⟩⟩, ⟨⟨[101, 110, 100]⟩⟩, ⟨⟨[101, 120, 99, 101, 112, 116, 105, 111, 110]⟩⟩, ⟨⟨[102, 110]⟩⟩, ⟨⟨[102, 117, 110]⟩⟩, ⟨⟨[104, 97, 110, 100, 108, 101]⟩⟩, ⟨⟨[105, 102]⟩⟩, ⟨⟨[105, 110]⟩⟩, ⟨⟨[105, 116, 111, 115]⟩⟩, ⟨⟨[108, 101, 116]⟩⟩, ⟨⟨[109, 111, 100]⟩⟩, ⟨⟨[110, 111, 116]⟩⟩, ⟨⟨[111, 102]⟩⟩, ⟨⟨[111, 114, 100]⟩⟩, ⟨⟨[111, 114, 101, 108, 115, 101]⟩⟩, ⟨⟨[114, 97, 105, 115, 101]⟩⟩, ⟨⟨[114, 101, 102]⟩⟩, ⟨⟨[115, 105, 122, 101]⟩⟩, ⟨⟨[115, 116, 114]⟩⟩, ⟨⟨[116, 104, 101, 110]⟩⟩, ⟨⟨[118, 97, 108]⟩⟩]
def tabs : List (Nat × List Value) := [(4, lKeys.map Value.string)]
theorem known_run : memK tabs .leaf (fun H => isTrue (FD P pl0 (fun _ _ => none) 1000 (.call 5 [] false none H P.globals.size))) = true := by kernel_rfl
theorem isTrue_inv {r : Option Rt} (h : isTrue r = true) : ∃ H nx, r = some ⟨.ret (.bool true), false, H, nx⟩ := by
  unfold isTrue at h
  split at h
  · exact ⟨_, _, rfl⟩
  · cases h
theorem ext_none (w : World) : ExtOK P w (fun _ _ => none) := fun f args v h => by cases h
/-- The tables that are read. -/
structure Tabs (w : World) : Prop where
  size : P.globals.size ≤ w.heap.size
  keys : TabsAt w P.globals.size tabs
  pow : Lib.TabIs P w "internal/strconv.uint64pow10" .u64 Lib.pow10Tab
theorem globals_7 : P.globals.size = 7 := by kernel_rfl
theorem pow_named : P.globalNamed "internal/strconv.uint64pow10" = some 3 := by kernel_rfl
theorem Tabs.below {w : World} (h : Tabs W) (hb : Below W.heap.size W w) : Tabs w where
  size := Nat.le_trans h.size hb.size
  keys := h.keys.below h.size hb
  pow := by
    have hp := h.pow
    unfold Lib.TabIs World.var? at hp ⊢
    rw [pow_named] at hp ⊢
    simp only [Option.bind_some] at hp ⊢
    rw [hb.block 3 (by have := h.size; rw [globals_7] at this; omega)]
    exact hp
theorem flat_strs (l : List ByteArray) : ∀ y ∈ l.map Value.string, Ev.flat y = true := fun y hy => by
  obtain ⟨s, _, rfl⟩ := List.mem_map.1 hy
  rfl
theorem X_ok (hT : Tabs W) : ExtOK P W X := by
  intro f args v h
  unfold X at h
  split at h
  · cases h
    refine ⟨fun x hx => (nomatch hx), rfl, fun w hb => ?_⟩
    have hw := hT.below hb
    have hk := known_run
    rw [memK_eq] at hk
    obtain ⟨H', nx', hr⟩ := isTrue_inv hk
    refine (calls_of_F (pl := pl0) (ext_none w) (HR_GM hw.size hw.keys) (phiG_length _) .nil rfl (F_of hr)).mono fun e w' ⟨he, hb'⟩ => ⟨he, hb'⟩
  · rename_i n
    split at h
    · rename_i hn
      cases h
      refine ⟨fun x hx => by rw [List.mem_singleton.1 hx]; rfl, rfl, fun w hb => ?_⟩
      refine (Tryz.strconv_Itoa n hn.1 hn.2 w (hT.below hb).pow).mono fun e w' ⟨he, k, os, hw⟩ => ⟨he, ?_⟩
      subst hw
      exact Lib.below_grow _ w (Nat.le_refl _) k os
    · cases h
  · cases h
theorem law_calls (hT : Tabs W) {v : Value} (t : Ty) (hv : VR (phiW W) t.v v) (hs : tOk t) : Calls P 3 #[v] W fun e w' => e = .returned (.bool true) ∧ Below W.heap.size W w' := by
  obtain ⟨H', nx', _, h⟩ := pu_3 t hs .leaf W.heap.size
  exact calls_of_F (X_ok hT) (HR_W hT.size) (phiW_length W) (.cons hv .nil) rfl h
/-- The tables, as the row lists them. -/
theorem tabs_of (hL : laidMetH Tryz.prog Rows.typesTextsRow.laid W) (hsh : W.ShapedOpen Tryz.prog) : Tabs W := by
  have h : laidMet Tryz.prog [("math/bits.deBruijn32tab", Rows.laid_math_bits_deBruijn32tab), ("math/bits.deBruijn64tab", Rows.laid_math_bits_deBruijn64tab), ("internal/strconv.uint64pow10", Lib.tabData .u64 Lib.pow10Tab), ("kindling/lex.keys", Ev.strData lKeys), ("kindling/lex.signs", Rows.laid_kindling_lex_signs), ("kindling/syntax.levels", Rows.laid_kindling_syntax_levels), ("kindling/syntax.words", Rows.laid_kindling_syntax_words)] W := hL
  refine ⟨Ev.globals_le hsh (of_decide_eq_true (by kernel_rfl)), fun x hx => ?_, ?_⟩
  · rcases List.mem_cons.1 hx with rfl | hx
    · exact ⟨by rw [globals_7]; show 4 < 7; omega, flat_strs _, Ev.tab_of_head (g := 4) (by kernel_rfl) (by kernel_rfl) Tryz.underlying181 Tryz.underlying9 (by kernel_rfl) (by kernel_rfl) h.tail.tail.tail⟩
    · cases hx
  · exact Lib.tabIs_of_head (g := 3) (by kernel_rfl) (by kernel_rfl) Tryz.underlying175 Tryz.underlying161 (by kernel_rfl) (by kernel_rfl) h.tail.tail
end
end Go.Proofs.YtcfpakjillacgaaGreatDoor
