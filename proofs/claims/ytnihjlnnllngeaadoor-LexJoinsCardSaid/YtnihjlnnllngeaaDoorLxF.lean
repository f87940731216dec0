/- Quoted texts: the program's and the reference's functions in plain words. -/
import Derived.Test.YtnihjlnnllngeaaDoorLxE
import Derived.Test.YtnihjlnnllngeaaDoorFText
namespace Go.Proofs.YtnihjlnnllngeaaDoor.Lx
open Go.RowKit Go.Proofs.YtnihjlnnllngeaaDoorW.PrintWords Go.Proofs.YtnihjlnnllngeaaDoor.PL
set_option linter.unusedVariables false
set_option linter.unusedSimpArgs false
set_option linter.unusedSectionVars false

theorem sgnS_pos {l : List Nat} {b n : Nat} (h : sgnS l = some (b, n)) : 1 ≤ n := by
  cases l with
  | nil => simp [sgnS] at h
  | cons c r =>
    rw [sgnS] at h
    split at h
    · simp at h
    · split at h
      · obtain ⟨q, hq, he⟩ := Option.map_eq_some_iff.1 h
        cases he
        omega
      · simp at h; omega
/-- What stands behind an opening quote: what it says, how many bytes it takes with the closing one. -/
def qt : List Nat → Option (List Nat × Nat)
  | [] => none
  | c :: r => if c = 34 then some ([], 1) else match sgnS (c :: r) with
    | none => none
    | some (b, n) => (qt (r.drop (n - 1))).map fun q => (b :: q.1, q.2 + n)
termination_by l => l.length
decreasing_by simp; omega
theorem qt_cons (c : Nat) (r : List Nat) : qt (c :: r) = if c = 34 then some ([], 1) else match sgnS (c :: r) with
    | none => none
    | some (b, n) => (qt (r.drop (n - 1))).map fun q => (b :: q.1, q.2 + n) := by rw [qt]
theorem drop_cons {c n : Nat} {r : List Nat} (h : 1 ≤ n) : (c :: r).drop n = r.drop (n - 1) := by
  obtain ⟨m, rfl⟩ : ∃ m, n = m + 1 := ⟨n - 1, by omega⟩
  rfl
def nI (l : List Nat) : List Int := l.map fun x : Nat => (x : Int)
def textR (s : ByteArray) (acc : List Int) (i : Nat) : ByteArray × Int := match qt ((B s).drop i) with
  | none => (⟨#[]⟩, 0)
  | some (o, m) => (strOfNums (acc ++ nI o), ((i + m : Nat) : Int))
theorem sgnS_le {l : List Nat} {b n : Nat} (h : sgnS l = some (b, n)) : n ≤ l.length := by
  cases l with
  | nil => simp [sgnS] at h
  | cons c r =>
    rw [sgnS] at h
    split at h
    · simp at h
    · split at h
      · obtain ⟨q, hq, he⟩ := Option.map_eq_some_iff.1 h
        cases he
        cases r with
        | nil => simp [escS] at hq
        | cons d t =>
          rw [escS] at hq
          split at hq
          · simp at hq; subst hq; simp
          · split at hq
            · simp at hq; subst hq; simp
            · split at hq
              · simp at hq; subst hq; simp
              · split at hq
                · match t, hq with
                  | [], hq => simp [hx2] at hq
                  | [_], hq => simp [hx2] at hq
                  | x :: y :: u, hq =>
                    rw [hx2] at hq
                    obtain ⟨a, ha, hq⟩ := Option.bind_eq_some_iff.1 hq
                    obtain ⟨b', hb', hq⟩ := Option.map_eq_some_iff.1 hq
                    subst hq
                    simp
                · simp at hq
      · simp at h; simp; omega
section
variable {s : ByteArray} (hs : s.size ≤ 140737488351232)
include hs
theorem text_all : ∀ (m i : Nat) (acc : List Int), s.size - i ≤ m → acc.length ≤ i → Ev (fun k => lex_text.l0 k s acc (i : Int)) (textR s acc i) := by
  intro m
  induction m with
  | zero =>
    intro i acc hm ha
    have hd : (B s).drop i = [] := List.drop_eq_nil_iff.2 (by rw [B_length]; omega)
    refine Ev.step (f := fun _ => some (textR s acc i)) (fun k => ?_) (Ev.now _)
    simp only [lex_text.l0]
    rw [if_neg (by omega)]
    unfold textR
    rw [hd, qt]
  | succ m ih =>
    intro i acc hm ha
    by_cases hi : i < s.size
    case neg => exact ih i acc (by omega) ha
    obtain ⟨c, r, h⟩ := drop_ex s hi
    obtain ⟨hb, hl, hr⟩ := bt_drop h
    have hc256 := at_n h
    by_cases h34 : c = 34
    · refine Ev.step (f := fun _ => some (textR s acc i)) (fun k => ?_) (Ev.now _)
      simp only [lex_text.l0]
      rw [if_pos (by omega), if_pos (by omega), hb, if_pos (by omega), w64_1 (Nat.le_of_lt hl) hs]
      unfold textR
      rw [h, qt_cons, if_pos h34]
      simp [nI]
    have hq : ∀ b n, sgnS (c :: r) = some (b, n) → textR s acc i = textR s (acc ++ [(b : Int)]) (i + n) := by
      intro b n hn
      have hp := sgnS_pos hn
      unfold textR
      rw [← List.drop_drop, h, drop_cons hp, qt_cons, if_neg h34, hn]
      simp only
      cases qt (r.drop (n - 1)) with
      | none => rfl
      | some q =>
        simp only [Option.map_some, nI, List.map_cons, List.append_assoc, List.singleton_append]
        congr 2
        omega
    have hqn : sgnS (c :: r) = none → textR s acc i = (⟨#[]⟩, 0) := by
      intro hn
      unfold textR
      rw [h, qt_cons, if_neg h34, hn]
    by_cases h92 : c = 92
    · have e0 : sgnS (c :: r) = (escS r).map (fun q => (q.1, q.2 + 1)) := by
        rw [sgnS, if_neg (by omega), if_pos h92]
      have hB : B (s.extract (i + 1) s.size) = r := by rw [B_rest, hr]
      have he : Ev (fun k => lex_escape.f k (s.extract (i + 1) s.size)) (pr (escS r)) := by
        have := escape_f (s := s.extract (i + 1) s.size)
        rwa [hB] at this
      refine Ev.step (f := fun k => (lex_escape.f k (s.extract (i + 1) s.size)).bind fun bt113 => (if bt113.2 = 0 then (some ((⟨#[]⟩ : ByteArray), 0)) else (if acc.length < 140737488355328 then (lex_text.l0 k s (acc ++ [bt113.1]) (wrap64 ((wrap64 ((i : Int) + bt113.2)) + 1))) else (none)))) (fun k => ?_) ?_
      · simp only [lex_text.l0]
        rw [if_pos (by omega), if_pos (by omega), hb, if_neg (by omega), if_pos (by omega), w64_1 (Nat.le_of_lt hl) hs, if_pos (by omega), if_pos (by omega), Int.toNat_natCast]
      refine Ev.bind he ?_
      cases h1 : escS r with
      | none =>
        rw [hqn (by rw [e0, h1]; rfl)]
        exact Ev.congr (fun k => by simp only [pr]; rw [if_pos trivial]) (Ev.now _)
      | some q =>
        obtain ⟨b, n⟩ := q
        have h2 : sgnS (c :: r) = some (b, n + 1) := by rw [e0, h1]; rfl
        have hle := sgnS_le h2
        have hlen : r.length + 1 = s.size - i := by rw [← B_length, ← List.length_drop, h]; rfl
        simp at hle
        have hn1 : 1 ≤ n := by
          cases r with
          | nil => simp [escS] at h1
          | cons d t =>
            rw [escS] at h1
            split at h1
            · simp at h1; omega
            · split at h1
              · simp at h1; omega
              · split at h1
                · simp at h1; omega
                · split at h1
                  · match t, h1 with
                    | [], h1 => simp [hx2] at h1
                    | [_], h1 => simp [hx2] at h1
                    | x :: y :: u, h1 =>
                      rw [hx2] at h1
                      obtain ⟨a, ha, h1⟩ := Option.bind_eq_some_iff.1 h1
                      obtain ⟨b', hb', h1⟩ := Option.map_eq_some_iff.1 h1
                      simp at h1; omega
                  · simp at h1
        rw [hq b (n + 1) h2]
        refine Ev.congr (fun k => ?_) (ih (i + (n + 1)) (acc ++ [(b : Int)]) (by omega) (by simp; omega))
        show (if (n : Int) = 0 then some ((⟨#[]⟩ : ByteArray), (0 : Int)) else (if acc.length < 140737488355328 then (lex_text.l0 k s (acc ++ [(b : Int)]) (wrap64 ((wrap64 ((i : Int) + (n : Int))) + 1))) else (none))) = _
        rw [if_neg (by omega), if_pos (by omega), w64_add (n := s.size) (by omega) (by omega), w64_1 (n := s.size) (by omega) hs]
        rfl
    · have e0 : ∀ h3 : ¬ (c < 32 ∨ c > 126), sgnS (c :: r) = some (c, 1) := fun h3 => by rw [sgnS, if_neg (by omega), if_neg h92]
      refine Ev.step (f := fun k => lex_text.j1 k s acc (i : Int) (c : Int) (decide (c < 32 ∨ c > 126))) (fun k => ?_) ?_
      · simp only [lex_text.l0]
        rw [if_pos (by omega), if_pos (by omega), hb, if_neg (by omega), if_neg (by omega)]
        by_cases h1 : c < 32
        · rw [if_pos (by omega)]; simp [h1]
        · rw [if_neg (by omega)]
          congr 1
          rw [Bool.eq_iff_iff]
          simp
          omega
      by_cases h3 : c < 32 ∨ c > 126
      · rw [hqn (by rw [sgnS, if_pos (by omega)])]
        refine Ev.step (f := fun _ => some ((⟨#[]⟩ : ByteArray), 0)) (fun k => ?_) (Ev.now _)
        simp only [lex_text.j1]
        rw [if_pos (by simpa using h3)]
      · rw [hq c 1 (e0 h3)]
        refine Ev.step (f := fun k => lex_text.l0 k s (acc ++ [(c : Int)]) ((i + 1 : Nat) : Int)) (fun k => ?_) (ih (i + 1) _ (by omega) (by simp; omega))
        simp only [lex_text.j1]
        rw [if_neg (by simpa using h3), if_pos (by omega), w64_1 (Nat.le_of_lt hl) hs]
theorem text_f : Ev (fun k => lex_text.f k s) (textR s [] 1) := text_all hs s.size 1 [] (by omega) (by simp)
end
end Go.Proofs.YtnihjlnnllngeaaDoor.Lx
