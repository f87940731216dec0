/- TypesNil is true of any arguments: the law's row and its card. -/
import Derived.Test.YtnlpbmifjdkejaaGreatDoorCards
import Derived.Test.YtnlpbmifjdkejaaGreatDoorTie
import Derived.Test.YtnlpbmifjdkejaaGreatDoorTnA
import Derived.Test.YtnlpbmifjdkejaaGreatDoorTnE
import Derived.WalkKit
import Derived.ProofKit
import Derived.OpenShut
import Derived.ShutString
import Derived.ChangeOld
import Derived.Below
import Derived.Lay
import Derived.Deep.DeepHandedRow
import Derived.Deep.DeepWitnessRowRef
namespace Go.Proofs.YtnlpbmifjdkejaaGreatDoor
open Go.ChangeShapes Go.WideShapes Go.ChangeAt Go.RowKit
open Go.ChangeMaps (open_string shut_string)
set_option linter.unusedVariables false
theorem own : ownKnob Tryz.prog.godebug = none := by kernel_rfl
theorem laidOut : laidOutB Tryz.prog = true := by kernel_rfl
/-- A table that stands there. -/
def Tab (w : World) (g : Nat) (l : List ByteArray) : Prop := ∃ c el fz, w.heap[g]? = some (.cells c el fz) ∧ c.toList = l.map Value.string
def Tabs (w : World) : Prop := 7 ≤ w.heap.size ∧ Tab w 2 lSigns ∧ Tab w 3 lKeys
theorem Tab.below {w w' : World} {g : Nat} {l : List ByteArray} (hb : Below w.heap.size w w') (h : Tab w g l) : Tab w' g l := by
  obtain ⟨c, el, fz, h1, h2⟩ := h
  exact ⟨c, el, fz, by rw [hb.block g (Array.getElem?_eq_some_iff.1 h1).1]; exact h1, h2⟩
theorem Tabs.below {w w' : World} (hb : Below w.heap.size w w') (h : Tabs w) : Tabs w' :=
  ⟨Nat.le_trans h.1 hb.size, h.2.1.below hb, h.2.2.below hb⟩
theorem flat_strs (l : List ByteArray) : ∀ y ∈ l.map Value.string, Ev.flat y = true := fun y hy => by
  obtain ⟨s, _, rfl⟩ := List.mem_map.1 hy
  rfl
theorem known_ok : Tn.KnownOk Tabs := fun w ⟨hsz, h1, h2⟩ =>
  Ev.calls_of_evalsG (P := Tryz.prog) (n := 4470) (args := []) (tabs := tabs) (by kernel_rfl) hsz (fun x hx => by
    rcases List.mem_cons.1 hx with rfl | hx
    · exact ⟨by show 2 < 7; omega, flat_strs _, h1⟩
    · rcases List.mem_cons.1 hx with rfl | hx
      · exact ⟨by show 3 < 7; omega, flat_strs _, h2⟩
      · cases hx) (fun x hx => by cases hx) rfl known_eval
theorem tabs_of {W : World} (hL : laidMetH Tryz.prog Rows.typesNilRow.laid W) (hsh : W.ShapedOpen Tryz.prog) : Tabs W := by
  have h : laidMet Tryz.prog [("math/bits.deBruijn32tab", Rows.laid_math_bits_deBruijn32tab), ("math/bits.deBruijn64tab", Rows.laid_math_bits_deBruijn64tab), ("internal/strconv.uint64pow10", Rows.laid_internal_strconv_uint64pow10), ("kindling/lex.keys", Ev.strData lKeys), ("kindling/lex.signs", Ev.strData lSigns), ("kindling/syntax.levels", Rows.laid_kindling_syntax_levels), ("kindling/syntax.words", Rows.laid_kindling_syntax_words)] W := hL
  have hg : Tryz.prog.globals.size = 7 := by kernel_rfl
  refine ⟨?_, ?_, ?_⟩
  · have := Ev.globals_le hsh (of_decide_eq_true (by kernel_rfl))
    omega
  · exact Ev.tab_of_head (by kernel_rfl) (by kernel_rfl) Tryz.underlying159 Tryz.underlying9 (by kernel_rfl) (by kernel_rfl) h.tail.tail.tail.tail
  · exact Ev.tab_of_head (by kernel_rfl) (by kernel_rfl) Tryz.underlying165 Tryz.underlying9 (by kernel_rfl) (by kernel_rfl) h.tail.tail.tail
set_option maxRecDepth 100000 in
theorem contract (H : Type) (enc : TypeId × Value → H) (W : World) (base : Nat) (args : Array Value) (ds gs : List (DataW H)) (before : List MemPlace)
    (hval : ∀ (j : Nat) t v, Tryz.f3.params[j]? = some t → args[j]? = some v → Value.okWide Tryz.prog W .any base t v)
    (hW : DataW.Whole enc Tryz.prog Tryz.f3.params.toList Rows.typesNilSpec.vars false W args.toList ds gs before) (hL : laidMetH Tryz.prog Rows.typesNilRow.laid W) (hsh : W.ShapedOpen Tryz.prog) :
    Calls Tryz.prog 3 args W fun e W' => ∃ v, e = .returned v ∧ Rows.typesNilSpec.post enc Tryz.prog Tryz.f3 false true false false W args v W' := by
  have hW' := hW
  obtain ⟨p, q, hA0, hV, rfl, hfz, hnd⟩ := hW
  have hA : DataW.TrodAll enc Tryz.prog W 0 (fun _ => true) true Tryz.f3.params.toList args.toList ds p := hA0
  rw [Tryz.params3] at hA hval
  obtain ⟨v0, v1, d0, d1, p0, p1, hargs, rfl, rfl, h0, h1⟩ := trodAll_two hA
  obtain rfl : args = #[v0, v1] := by cases args; simp_all
  obtain ⟨rfl, rfl⟩ := trodVars_none hV
  obtain ⟨a1, rfl, rfl, rfl, y1⟩ := open_string Tryz.underlying9 (hval 1 9 v1 rfl rfl) h1
  clear hA0
  have ht := tabs_of hL hsh
  refine (Tn.nil_law known_ok (fun _ _ hb h => h.below hb) v0 a1 W ht ht.1).mono fun e W' ⟨he, hb⟩ => ?_
  subst he
  have hlt : ∀ x ∈ p0, x.block < W.heap.size := fun x hx => by simpa using hW'.lt x (by simpa using hx)
  exact ⟨_, rfl, _, _, _, [], _, [], hW', trodAll_mk1 (shut_bool Tryz.underlying4 _), trodAll_mk2 (Below.trod laidOut (by kernel_rfl) (of_decide_eq_true (by kernel_rfl)) h0 hb hlt) (shut_string Tryz.underlying9 y1), rfl, hb.frame _, fun h => by cases h⟩
/-- A world for the witness. -/
noncomputable abbrev laidWorld (os : Os) : World := World.laidAll Tryz.prog os Rows.typesNilRow.laid
theorem laid_met (os : Os) (args : Array Value) : laidMet Tryz.prog Rows.typesNilRow.laid ((laidWorld os).forCall (fun _ _ => 0) ⟨#[], args, []⟩).memory :=
  laidMet_laidAll args (by kernel_rfl) (by kernel_rfl)
theorem reads (os : Os) {H : Type} (enc : TypeId × Value → H) : ∃ places, DataW.whole enc Tryz.prog ((laidWorld os).forCall (fun _ _ => 0) ⟨#[], #[.slice none 0 0, .string ByteArray.empty], []⟩).memory Tryz.f3.params.toList Rows.typesNilSpec.vars false #[Value.slice none 0 0, Value.string ByteArray.empty].toList 8 = some ([.nil, .lit (.string [])], [], places) :=
  ⟨[], by kernel_rfl⟩
set_option maxRecDepth 100000 in
theorem lifted (os : Os) (started : os.Started) (H : Type) (enc : TypeId × Value → H) (F : Stop.Interp) :
    ReturnsInHanded {} Tryz.checked os 3 .any ((OpenSpec.ofChange Rows.typesNilSpec).preRow enc Tryz.prog Tryz.f3 Rows.typesNilRow.domain false Rows.typesNilRow.laid) (((OpenSpec.ofChange Rows.typesNilSpec).at F).post enc Tryz.prog Tryz.f3 false true false false) := by
  obtain ⟨places, hx⟩ := reads os enc
  refine returnsInHanded_of_row (C := Tryz.checked) (s := OpenSpec.ofChange Rows.typesNilSpec) own started (by kernel_rfl) Tryz.func3
    (witness_row_atRef (enc := enc) (C := Tryz.checked) false (laidWorld os) #[.slice none 0 0, .string ByteArray.empty] (World.laidAll_os _ _ _) (by kernel_rfl) (by kernel_rfl) (by kernel_rfl)
      (OpenSpec.preRow_of_cond 8 hx (by kernel_rfl) (fun k hk => by cases hk) (by kernel_rfl) (laid_met os _))) ?_
  intro W base args ds gs before hval hW _ _ _ hL hsh _
  exact contract H enc W base args ds gs before hval hW hL hsh
theorem said : Rows.TypesNilSaid :=
  OpenClaim.holds_of_cond 3 Tryz.f3 rfl rfl rfl rfl rfl rfl rfl ⟨rfl, rfl, rfl, rfl, rfl⟩ rfl rfl rfl rfl rfl (by kernel_rfl) Tryz.func3 (by kernel_rfl)
    (of_decide_eq_true (by kernel_rfl)) (by unfold Func.isWrapper; first | (rw [if_pos (by decide +kernel)]; kernel_rfl) | (rw [if_neg (by decide +kernel)]; exact ⟨rfl, rfl⟩))
    (fun os started H enc _ F => by rw [OpenClaim.pre_eq_preRow]; exact lifted os started H enc F)
theorem plain (f : FuncId) (fn : Func) (hf : Tryz.pinned.checked.prog.funcNamed "kindling/kindlinglaw09.TypesNil" = some f) (hfn : Tryz.pinned.checked.prog.funcs[f]? = some fn) :
    true = Tryz.pinned.checked.prog.looks [] ∧ ∀ (j : Nat) t, fn.params[j]? = some t → Tryz.pinned.checked.prog.wantsStandIn t = false := by
  obtain rfl : f = 3 := Option.some.inj ((show Tryz.prog.funcNamed "kindling/kindlinglaw09.TypesNil" = some 3 by kernel_rfl).symm.trans hf) |>.symm
  obtain rfl : fn = Tryz.f3 := (Option.some.inj (Tryz.func3.symm.trans hfn)).symm
  refine ⟨by kernel_rfl, fun j t ht => ?_⟩
  rw [Tryz.params3] at ht
  have : t = 22 ∨ t = 9 := by simpa using Array.mem_of_getElem? ht
  rcases this with rfl | rfl
  · exact (show Tryz.prog.wantsStandIn 22 = false by kernel_rfl)
  · exact (show Tryz.prog.wantsStandIn 9 = false by kernel_rfl)
theorem typesNil_card : Rows.TypesNilCardSaid :=
  Claim7.holds_tied_plain_at .later [] _ _ _ _ said (fun _ h => by cases h) (by kernel_rfl) (fun _ h => by cases h) typesNil_row_tie rfl ⟨rfl, rfl⟩ (by kernel_rfl) rfl plain (by kernel_rfl)
end Go.Proofs.YtnlpbmifjdkejaaGreatDoor
