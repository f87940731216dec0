/- What small functions answer. -/
import Derived.Test.YtcfpakjillacgaaGreatDoorRaF
import Derived.Lib.ItoaNum
import Derived.Test.YtcfpakjillacgaaGreatDoorRa1
import Derived.Test.YtcfpakjillacgaaGreatDoorRa2
import Derived.Test.YtcfpakjillacgaaGreatDoorRa3
import Derived.Test.YtcfpakjillacgaaGreatDoorRa4
namespace Go.Proofs.YtcfpakjillacgaaGreatDoor
open Go.Ev Go.RowKit
noncomputable section
set_option linter.unusedVariables false
set_option linter.unusedSimpArgs false
/-- The calls that are proved elsewhere: the fixed ones, and the library's text of a number. -/
def X : Ext := fun f args => match f, args with
  | 5, [] => some (.bool true)
  | 29, [.int .i64 n] => if -9223372036854775808 ≤ n ∧ n ≤ 9223372036854775807 then some (.string ⟨(Lib.itoa n).toArray⟩) else none
  | _, _ => none
abbrev Pu (f : FuncId) (args : List Value) (v : Value) : Prop := Pure P pl X f args v
abbrev i64 (n : Int) : Value := .int .i64 n
def ints (l : List Int) : Value := rowV 1 (l.map i64)

theorem lt_len {i : Nat} {n : Nat} : decide ((i : Int) < (n : Int)) = decide (i < n) := by simp
theorem wrap_succ {i : Nat} (h : i < 9223372036854775807) : IntKind.i64.wrap ((i : Int) + 1) = ((i + 1 : Nat) : Int) := by rw [wrap_id (by omega)]; omega

/-- A loop through a list, with something that it carries. -/
theorem Wq.each {nx0 : Nat} {H0 : T OB} {α σ : Type} (l : List α) (q : Nat → σ → T OB → Nat → Q) (R : List α → σ → Value) (hend : ∀ s H1 nx1, Ag nx0 H0 nx1 H1 → Wq P pl X (q l.length s H1 nx1) nx0 H0 (R [] s))
    (hstep : ∀ i a t s H1 nx1, l[i]? = some a → i < l.length → l.drop (i + 1) = t → Ag nx0 H0 nx1 H1 → (∀ s H2 nx2, Ag nx0 H0 nx2 H2 → Wq P pl X (q (i + 1) s H2 nx2) nx0 H0 (R t s)) → Wq P pl X (q i s H1 nx1) nx0 H0 (R (a :: t) s))
    (s : σ) (H1 : T OB) (nx1 : Nat) (hA : Ag nx0 H0 nx1 H1) : Wq P pl X (q 0 s H1 nx1) nx0 H0 (R l s) := by
  have h := Wq.up l.length q (fun i s => R (l.drop i) s) (fun s H1 nx1 h => by simpa using hend s H1 nx1 h)
    (fun i s H1 nx1 hi ih hA => by
      have := hstep i l[i] _ s H1 nx1 (List.getElem?_eq_getElem hi) hi rfl hA ih
      simp only [List.drop_eq_getElem_cons hi]
      exact this) 0 s H1 nx1 (Nat.zero_le _) hA
  simpa using h
/-- The same, what it carries being such as it is. -/
theorem Wq.eachI {nx0 : Nat} {H0 : T OB} {α σ : Type} (l : List α) (I : List α → σ → Prop) (q : Nat → σ → T OB → Nat → Q) (R : List α → σ → Value) (hend : ∀ s H1 nx1, I [] s → Ag nx0 H0 nx1 H1 → Wq P pl X (q l.length s H1 nx1) nx0 H0 (R [] s))
    (hstep : ∀ i a t s H1 nx1, l[i]? = some a → i < l.length → l.drop (i + 1) = t → I (a :: t) s → Ag nx0 H0 nx1 H1 → (∀ s H2 nx2, I t s → Ag nx0 H0 nx2 H2 → Wq P pl X (q (i + 1) s H2 nx2) nx0 H0 (R t s)) → Wq P pl X (q i s H1 nx1) nx0 H0 (R (a :: t) s))
    (s : σ) (H1 : T OB) (nx1 : Nat) (hI : I l s) (hA : Ag nx0 H0 nx1 H1) : Wq P pl X (q 0 s H1 nx1) nx0 H0 (R l s) := by
  have h : ∀ (d i : Nat), l.length - i = d → i ≤ l.length → ∀ (s : σ) (H1 : T OB) (nx1 : Nat), I (l.drop i) s → Ag nx0 H0 nx1 H1 → Wq P pl X (q i s H1 nx1) nx0 H0 (R (l.drop i) s) := by
    intro d
    induction d with
    | zero =>
      intro i hd hi s H1 nx1 hI hA
      obtain rfl : i = l.length := by omega
      rw [List.drop_of_length_le (Nat.le_refl _)] at hI ⊢
      exact hend s H1 nx1 hI hA
    | succ d ih =>
      intro i hd hi s H1 nx1 hI hA
      have hlt : i < l.length := by omega
      rw [List.drop_eq_getElem_cons hlt] at hI ⊢
      exact hstep i l[i] _ s H1 nx1 (List.getElem?_eq_getElem hlt) hlt rfl hI hA fun s H2 nx2 h1 h2 => ih (i + 1) (by omega) (by omega) s H2 nx2 h1 h2
  have := h l.length 0 (by omega) (Nat.zero_le _) s H1 nx1 (by simpa using hI) hA
  simpa using this
theorem not_lt_len {α : Type} (l : List α) : decide ((l.length : Int) < (l.length : Int)) = false := by simp
theorem is_lt_len {α : Type} {l : List α} {i : Nat} (h : i < l.length) : decide ((i : Int) < (l.length : Int)) = true := by simp [h]
abbrev w (n : Int) : Int := IntKind.i64.wrap n
theorem Wq.retE {nx0 : Nat} {H0 : T OB} {nx : Nat} {H : T OB} {u v : Value} (e : u = v) (h : Ag nx0 H0 nx H) : Wq P pl X (.ret ⟨.ret u, false, H, nx⟩) nx0 H0 v := by subst e; exact Wq.ret h
theorem Wq.jmp {nx0 : Nat} {H0 : T OB} {R : Value → T OB → Nat → Prop} {q : Cfg} {t : Q} (e : evT P pl q = t) (hq : ∀ k, extQ X q k = k) (h : WqR P pl X t nx0 H0 R) : WqR P pl X (.jump q) nx0 H0 R := Wq.jump hq (by rw [e]; exact h)
/-- A list of numbers: by value, or nil. -/
def IsI (v : Value) (l : List Int) : Prop := v = ints l ∨ (l = [] ∧ v = .slice none 0 0)
/-- One cell of a block is written. -/
theorem Wq.put {nx0 : Nat} {H0 : T OB} {nx : Nat} {H : T OB} {R : Value → T OB → Nat → Prop} {b off : Nat} {l l' : List Value} {e t : TypeId} {u : Value} {k : Value → T OB → Nat → Q} (hb : IsB H b l e) (hs : szOf P t = some 1) (hc : u.cells.toList = [u]) (ho : oneCell u = true)
    (hn : off < l.length) (hl : l.set off u = l') (h : Ag nx0 H0 nx H) (hbn : nx0 ≤ b) (hk : ∀ H', IsB H' b l' e → (∀ c l e, c ≠ b → IsB H c l e → IsB H' c l e) → Ag nx0 H0 nx H' → WqR P pl X (k undef H' nx) nx0 H0 R) :
    WqR P pl X (effQ (efStore P H nx t (some (.pointer (some ⟨b, off, none⟩))) (some u)) k) nx0 H0 R := by
  refine Wq.store hb hs (by omega) (by rw [hc]; rfl) (by rw [hc]; simp [ho]) h hbn fun H' hb' hh hA' => hk H' ?_ hh hA'
  rw [hc] at hb'
  have e1 : overL l [u] off = l' := by
    rw [← hl, List.set_eq_take_append_cons_drop, if_pos hn]
    unfold overL
    simp
  rw [e1] at hb'
  exact hb'
/-- A call, and what stays behind it. -/
theorem Wq.callB {nx0 : Nat} {H0 : T OB} {nx : Nat} {H : T OB} {R : Value → T OB → Nat → Prop} {f : FuncId} {args : List Value} {u : Value} {k p : Value → T OB → Nat → Q} (hp : Pu f args u) (h : Ag nx0 H0 nx H)
    (hk : ∀ H' nx', Ag nx0 H0 nx' H' → nx ≤ nx' → (∀ b l e, b < nx → IsB H b l e → IsB H' b l e) → WqR P pl X (k u H' nx') nx0 H0 R) : WqR P pl X (callQ (.call f args false none H nx) k p) nx0 H0 R := by
  obtain ⟨H1, nx1, h1, h2⟩ := hp H nx
  obtain ⟨v, H2, nx2, h3, hR, h4⟩ := hk H1 nx1 (h.trans h1) h1.1 (fun b l e hb h => h.ag h1 hb)
  refine ⟨v, H2, nx2, h3, hR, ?_⟩
  show optK (F P pl X (.call f args false none H nx)) (fun r => (match r.o with | .ret v => k v r.H r.nx | .pan v => p v r.H r.nx : Q).run (F P pl X)) none = _
  rw [h2]
  exact h4
end
end Go.Proofs.YtcfpakjillacgaaGreatDoor
