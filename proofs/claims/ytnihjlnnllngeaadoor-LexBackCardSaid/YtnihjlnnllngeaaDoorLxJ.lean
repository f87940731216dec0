/- A text cut into tokens: both ways of doing it are the same. -/
import Derived.Test.YtnihjlnnllngeaaDoorLxB
import Derived.Test.YtnihjlnnllngeaaDoorLxI
import Derived.Test.YtnihjlnnllngeaaDoorF0
import Derived.Test.YtnihjlnnllngeaaDoorFPass
import Derived.Test.YtnihjlnnllngeaaDoorFScan
import Derived.Test.YtnihjlnnllngeaaDoorHTok
namespace Go.Proofs.YtnihjlnnllngeaaDoor.Lx
open Go.RowKit Go.Proofs.YtnihjlnnllngeaaDoorW.PrintWords Go.Proofs.YtnihjlnnllngeaaDoor.PL
set_option linter.unusedVariables false
set_option linter.unusedSimpArgs false
set_option linter.unusedSectionVars false

/-- A text from a place on, cut into tokens behind those that there are. -/
def scanS (s : ByteArray) : Nat → List S32 → Nat → List S32 × Int × Int
  | 0, _, _ => ([], 0, 0)
  | m + 1, out, i =>
    if (skip ((B s).drop i)).2 = true then
      if s.size ≤ i + (skip ((B s).drop i)).1 then (out ++ [⟨0, ⟨#[]⟩, 0, (s.size : Int)⟩], 0, 0)
      else match lexS (s.extract (i + (skip ((B s).drop i)).1) s.size) with
        | none => ([], ((i + (skip ((B s).drop i)).1 : Nat) : Int), 70)
        | some (a, b, c, n) => if 1000 ≤ out.length then ([], ((i + (skip ((B s).drop i)).1 : Nat) : Int), 3)
          else scanS s m (out ++ [⟨a, b, c, ((i + (skip ((B s).drop i)).1 : Nat) : Int)⟩]) (i + (skip ((B s).drop i)).1 + n)
    else ([], ((i + (skip ((B s).drop i)).1 : Nat) : Int), 70)
theorem lex_l0 (s : ByteArray) (out : List S32) (i k : Nat) : lex_Scan.l0 (k + 1) s out s (i : Int) = (lex_scanner_pass.f k s (i : Int)).bind fun bt123 => (if bt123.1 = true then (if bt123.2.2 ≥ (s.size : Int) then (if out.length < 3518437208883 then (some ((out ++ [(⟨0, (⟨#[]⟩ : ByteArray), 0, (s.size : Int)⟩ : S32)]), 0, 0)) else (none)) else ((lex_scanner_token.f k bt123.2.1 bt123.2.2).bind fun bt129 => (if bt129.2.2.2.2.1 = 0 then (some (([] : List (S32)), bt129.2.2.2.2.2.2, 70)) else (if (out.length : Int) ≥ 1000 then (some (([] : List (S32)), bt129.2.2.2.2.2.2, 3)) else (if out.length < 3518437208883 then (lex_Scan.l0 k s (out ++ [(⟨bt129.1, bt129.2.1, bt129.2.2.1, bt129.2.2.2.1⟩ : S32)]) bt129.2.2.2.2.2.1 (wrap64 (bt129.2.2.2.2.2.2 + bt129.2.2.2.2.1))) else (none)))))) else (some (([] : List (S32)), bt123.2.2, 70))) := rfl
section
variable {s : ByteArray} (hs : s.size ≤ 140737488351232)
include hs
theorem skip_in {i : Nat} (hi : i ≤ s.size) : i + (skip ((B s).drop i)).1 ≤ s.size := by
  have := skip_le ((B s).drop i)
  rw [List.length_drop, B_length] at this
  omega
theorem lexScan_all : ∀ (m i : Nat) (out : List S32), i ≤ s.size → s.size - i < m → out.length ≤ 1000 → Ev (fun k => lex_Scan.l0 k s out s (i : Int)) (scanS s m out i) := by
  intro m
  induction m with
  | zero => intro i out _ h _; omega
  | succ m ih =>
    intro i out hi hm ho
    have hj := skip_in hs hi
    refine Ev.step (lex_l0 s out i) ?_
    refine Ev.bind (pass_f hs (i := i)) ?_
    rw [scanS]
    generalize hJ : i + (skip ((B s).drop i)).1 = j at hj
    by_cases h1 : (skip ((B s).drop i)).2 = true
    case neg =>
      rw [if_neg h1]
      exact Ev.congr (fun k => by rw [if_neg h1]) (Ev.now _)
    rw [if_pos h1]
    by_cases h2 : s.size ≤ j
    · rw [if_pos h2]
      exact Ev.congr (fun k => by rw [if_pos h1, if_pos (by simp only; omega), if_pos (by omega)]) (Ev.now _)
    rw [if_neg h2]
    obtain ⟨a, b, c, n, hE, hL⟩ := token_f hs (p := j) (by omega)
    refine Ev.congr (fun k => by rw [if_pos h1, if_neg (by simp only; omega)]) (Ev.bind hE ?_)
    cases hl : lexS (s.extract j s.size) with
    | none =>
      rw [hl] at hL
      simp only at hL
      subst hL
      exact Ev.congr (fun k => by rw [if_pos (by simp)]) (Ev.now _)
    | some q =>
      rw [hl] at hL
      simp only at hL
      obtain ⟨rfl, hn, hjn⟩ := hL
      simp only
      by_cases h3 : 1000 ≤ out.length
      · rw [if_pos h3]
        exact Ev.congr (fun k => by rw [if_neg (by omega), if_pos (by omega)]) (Ev.now _)
      · rw [if_neg h3]
        refine Ev.congr (fun k => ?_) (ih (j + n) (out ++ [⟨a, b, c, (j : Int)⟩]) hjn (by omega) (by simp; omega))
        rw [if_neg (by omega), if_neg (by omega), if_pos (by omega), w64_add (n := s.size) hjn (by omega)]
end
/-- What a text is cut into. -/
def scan (s : ByteArray) : List S32 × Int × Int := if 4096 < s.size then ([], 0, 3) else scanS s (s.size + 1) [] 0
theorem lexScan_f (s : ByteArray) : Ev (fun k => lex_Scan.f k s) (scan s) := by
  unfold lex_Scan.f scan
  by_cases h : 4096 < s.size
  · rw [if_pos h]
    exact Ev.congr (fun k => by rw [if_pos (by omega)]) (Ev.now _)
  · rw [if_neg h]
    exact Ev.congr (fun k => by rw [if_neg (by omega)]; rfl) (lexScan_all (by omega) (s.size + 1) 0 [] (by omega) (by omega) (by simp))
end Go.Proofs.YtnihjlnnllngeaaDoor.Lx
