/- Quoted texts: the program's and the reference's functions in plain words. -/
import Derived.Test.YtnihjlnnllngeaaDoorLxE
import Derived.Test.YtnihjlnnllngeaaDoorFText
import Derived.Test.YtnihjlnnllngeaaDoorFRNum
import Derived.Test.YtnihjlnnllngeaaDoorFRQuoted
namespace Go.Proofs.YtnihjlnnllngeaaDoor.Lx
open Go.RowKit Go.Proofs.YtnihjlnnllngeaaDoorW.PrintWords Go.Proofs.YtnihjlnnllngeaaDoor.PL
set_option linter.unusedVariables false
set_option linter.unusedSimpArgs false
set_option linter.unusedSectionVars false

theorem sgnS_pos {l : List Nat} {b n : Nat} (h : sgnS l = some (b, n)) : 1 ≤ n := by
  cases l with
  | nil => simp [sgnS] at h
  | cons c r =>
    rw [sgnS] at h
    split at h
    · simp at h
    · split at h
      · obtain ⟨q, hq, he⟩ := Option.map_eq_some_iff.1 h
        cases he
        omega
      · simp at h; omega
/-- What stands behind an opening quote: what it says, how many bytes it takes with the closing one. -/
def qt : List Nat → Option (List Nat × Nat)
  | [] => none
  | c :: r => if c = 34 then some ([], 1) else match sgnS (c :: r) with
    | none => none
    | some (b, n) => (qt (r.drop (n - 1))).map fun q => (b :: q.1, q.2 + n)
termination_by l => l.length
decreasing_by simp; omega
theorem qt_cons (c : Nat) (r : List Nat) : qt (c :: r) = if c = 34 then some ([], 1) else match sgnS (c :: r) with
    | none => none
    | some (b, n) => (qt (r.drop (n - 1))).map fun q => (b :: q.1, q.2 + n) := by rw [qt]
theorem drop_cons {c n : Nat} {r : List Nat} (h : 1 ≤ n) : (c :: r).drop n = r.drop (n - 1) := by
  obtain ⟨m, rfl⟩ : ∃ m, n = m + 1 := ⟨n - 1, by omega⟩
  rfl
def nI (l : List Nat) : List Int := l.map fun x : Nat => (x : Int)
def textR (s : ByteArray) (acc : List Int) (i : Nat) : ByteArray × Int := match qt ((B s).drop i) with
  | none => (⟨#[]⟩, 0)
  | some (o, m) => (strOfNums (acc ++ nI o), ((i + m : Nat) : Int))
theorem sgnS_le {l : List Nat} {b n : Nat} (h : sgnS l = some (b, n)) : n ≤ l.length := by
  cases l with
  | nil => simp [sgnS] at h
  | cons c r =>
    rw [sgnS] at h
    split at h
    · simp at h
    · split at h
      · obtain ⟨q, hq, he⟩ := Option.map_eq_some_iff.1 h
        cases he
        cases r with
        | nil => simp [escS] at hq
        | cons d t =>
          rw [escS] at hq
          split at hq
          · simp at hq; subst hq; simp
          · split at hq
            · simp at hq; subst hq; simp
            · split at hq
              · simp at hq; subst hq; simp
              · split at hq
                · match t, hq with
                  | [], hq => simp [hx2] at hq
                  | [_], hq => simp [hx2] at hq
                  | x :: y :: u, hq =>
                    rw [hx2] at hq
                    obtain ⟨a, ha, hq⟩ := Option.bind_eq_some_iff.1 hq
                    obtain ⟨b', hb', hq⟩ := Option.map_eq_some_iff.1 hq
                    subst hq
                    simp
                · simp at hq
      · simp at h; simp; omega
/-- What a quoted text says; none: it is none. -/
def quoS : List Nat → Option (List Nat)
  | [] => none
  | c :: t => if c = 34 then (match qt t with
      | none => none
      | some (o, m) => if m = t.length then some o else none) else none
section
variable {s : ByteArray} (hs : s.size ≤ 140737488351232)
include hs
theorem text_all : ∀ (m i : Nat) (acc : List Int), s.size - i ≤ m → acc.length ≤ i → Ev (fun k => lex_text.l0 k s acc (i : Int)) (textR s acc i) := by
  intro m
  induction m with
  | zero =>
    intro i acc hm ha
    have hd : (B s).drop i = [] := List.drop_eq_nil_iff.2 (by rw [B_length]; omega)
    refine Ev.step (f := fun _ => some (textR s acc i)) (fun k => ?_) (Ev.now _)
    simp only [lex_text.l0]
    rw [if_neg (by omega)]
    unfold textR
    rw [hd, qt]
  | succ m ih =>
    intro i acc hm ha
    by_cases hi : i < s.size
    case neg => exact ih i acc (by omega) ha
    obtain ⟨c, r, h⟩ := drop_ex s hi
    obtain ⟨hb, hl, hr⟩ := bt_drop h
    have hc256 := at_n h
    by_cases h34 : c = 34
    · refine Ev.step (f := fun _ => some (textR s acc i)) (fun k => ?_) (Ev.now _)
      simp only [lex_text.l0]
      rw [if_pos (by omega), if_pos (by omega), hb, if_pos (by omega), w64_1 (Nat.le_of_lt hl) hs]
      unfold textR
      rw [h, qt_cons, if_pos h34]
      simp [nI]
    have hq : ∀ b n, sgnS (c :: r) = some (b, n) → textR s acc i = textR s (acc ++ [(b : Int)]) (i + n) := by
      intro b n hn
      have hp := sgnS_pos hn
      unfold textR
      rw [← List.drop_drop, h, drop_cons hp, qt_cons, if_neg h34, hn]
      simp only
      cases qt (r.drop (n - 1)) with
      | none => rfl
      | some q =>
        simp only [Option.map_some, nI, List.map_cons, List.append_assoc, List.singleton_append]
        congr 2
        omega
    have hqn : sgnS (c :: r) = none → textR s acc i = (⟨#[]⟩, 0) := by
      intro hn
      unfold textR
      rw [h, qt_cons, if_neg h34, hn]
    by_cases h92 : c = 92
    · have e0 : sgnS (c :: r) = (escS r).map (fun q => (q.1, q.2 + 1)) := by
        rw [sgnS, if_neg (by omega), if_pos h92]
      have hB : B (s.extract (i + 1) s.size) = r := by rw [B_rest, hr]
      have he : Ev (fun k => lex_escape.f k (s.extract (i + 1) s.size)) (pr (escS r)) := by
        have := escape_f (s := s.extract (i + 1) s.size)
        rwa [hB] at this
      refine Ev.step (f := fun k => (lex_escape.f k (s.extract (i + 1) s.size)).bind fun bt113 => (if bt113.2 = 0 then (some ((⟨#[]⟩ : ByteArray), 0)) else (if acc.length < 140737488355328 then (lex_text.l0 k s (acc ++ [bt113.1]) (wrap64 ((wrap64 ((i : Int) + bt113.2)) + 1))) else (none)))) (fun k => ?_) ?_
      · simp only [lex_text.l0]
        rw [if_pos (by omega), if_pos (by omega), hb, if_neg (by omega), if_pos (by omega), w64_1 (Nat.le_of_lt hl) hs, if_pos (by omega), if_pos (by omega), Int.toNat_natCast]
      refine Ev.bind he ?_
      cases h1 : escS r with
      | none =>
        rw [hqn (by rw [e0, h1]; rfl)]
        exact Ev.congr (fun k => by simp only [pr]; rw [if_pos trivial]) (Ev.now _)
      | some q =>
        obtain ⟨b, n⟩ := q
        have h2 : sgnS (c :: r) = some (b, n + 1) := by rw [e0, h1]; rfl
        have hle := sgnS_le h2
        have hlen : r.length + 1 = s.size - i := by rw [← B_length, ← List.length_drop, h]; rfl
        simp at hle
        have hn1 : 1 ≤ n := by
          cases r with
          | nil => simp [escS] at h1
          | cons d t =>
            rw [escS] at h1
            split at h1
            · simp at h1; omega
            · split at h1
              · simp at h1; omega
              · split at h1
                · simp at h1; omega
                · split at h1
                  · match t, h1 with
                    | [], h1 => simp [hx2] at h1
                    | [_], h1 => simp [hx2] at h1
                    | x :: y :: u, h1 =>
                      rw [hx2] at h1
                      obtain ⟨a, ha, h1⟩ := Option.bind_eq_some_iff.1 h1
                      obtain ⟨b', hb', h1⟩ := Option.map_eq_some_iff.1 h1
                      simp at h1; omega
                  · simp at h1
        rw [hq b (n + 1) h2]
        refine Ev.congr (fun k => ?_) (ih (i + (n + 1)) (acc ++ [(b : Int)]) (by omega) (by simp; omega))
        show (if (n : Int) = 0 then some ((⟨#[]⟩ : ByteArray), (0 : Int)) else (if acc.length < 140737488355328 then (lex_text.l0 k s (acc ++ [(b : Int)]) (wrap64 ((wrap64 ((i : Int) + (n : Int))) + 1))) else (none))) = _
        rw [if_neg (by omega), if_pos (by omega), w64_add (n := s.size) (by omega) (by omega), w64_1 (n := s.size) (by omega) hs]
        rfl
    · have e0 : ∀ h3 : ¬ (c < 32 ∨ c > 126), sgnS (c :: r) = some (c, 1) := fun h3 => by rw [sgnS, if_neg (by omega), if_neg h92]
      refine Ev.step (f := fun k => lex_text.j1 k s acc (i : Int) (c : Int) (decide (c < 32 ∨ c > 126))) (fun k => ?_) ?_
      · simp only [lex_text.l0]
        rw [if_pos (by omega), if_pos (by omega), hb, if_neg (by omega), if_neg (by omega)]
        by_cases h1 : c < 32
        · rw [if_pos (by omega)]; simp [h1]
        · rw [if_neg (by omega)]
          congr 1
          rw [Bool.eq_iff_iff]
          simp
          omega
      by_cases h3 : c < 32 ∨ c > 126
      · rw [hqn (by rw [sgnS, if_pos (by omega)])]
        refine Ev.step (f := fun _ => some ((⟨#[]⟩ : ByteArray), 0)) (fun k => ?_) (Ev.now _)
        simp only [lex_text.j1]
        rw [if_pos (by simpa using h3)]
      · rw [hq c 1 (e0 h3)]
        refine Ev.step (f := fun k => lex_text.l0 k s (acc ++ [(c : Int)]) ((i + 1 : Nat) : Int)) (fun k => ?_) (ih (i + 1) _ (by omega) (by simp; omega))
        simp only [lex_text.j1]
        rw [if_neg (by simpa using h3), if_pos (by omega), w64_1 (Nat.le_of_lt hl) hs]
theorem text_f : Ev (fun k => lex_text.f k s) (textR s [] 1) := text_all hs s.size 1 [] (by omega) (by simp)
/-- The reference's: all of it. -/
def qok (s : ByteArray) (i : Nat) : Bool := match qt ((B s).drop i) with
  | none => false
  | some (_, m) => decide (i + m = s.size)
theorem quoted_all : ∀ (m i : Nat) (acc : List Int), s.size - i ≤ m → 1 ≤ i → i ≤ s.size → acc.length ≤ i → ∃ x : ByteArray, (∀ o n, qt ((B s).drop i) = some (o, n) → i + n = s.size → x = strOfNums (acc ++ nI o)) ∧ Ev (fun k => kindlingref07_Quoted.l0 k s acc (i : Int)) (x, qok s i) := by
  intro m
  induction m with
  | zero =>
    intro i acc hm h1i his ha
    have hd : (B s).drop i = [] := List.drop_eq_nil_iff.2 (by rw [B_length]; omega)
    refine ⟨strOfNums acc, fun o n hq => ?_, Ev.step (f := fun _ => some (strOfNums acc, qok s i)) (fun k => ?_) (Ev.now _)⟩
    · rw [hd, qt] at hq
      simp at hq
    · simp only [kindlingref07_Quoted.l0]
      rw [w64 (by omega) (by omega), if_neg (by omega), if_neg (by omega)]
      unfold qok
      rw [hd, qt]
  | succ m ih =>
    intro i acc hm h1i his ha
    by_cases hi : i < s.size
    case neg => exact ih i acc (by omega) h1i his ha
    obtain ⟨c, r, h⟩ := drop_ex s hi
    obtain ⟨hb, hl, hr⟩ := bt_drop h
    have hlen : r.length + 1 = s.size - i := by rw [← B_length, ← List.length_drop, h]; rfl
    by_cases hlast : i + 1 = s.size
    · have hr0 : r = [] := List.length_eq_zero_iff.1 (by omega)
      subst hr0
      refine ⟨strOfNums acc, fun o n hq hn => ?_, Ev.step (f := fun _ => some (strOfNums acc, qok s i)) (fun k => ?_) (Ev.now _)⟩
      · rw [h, qt_cons] at hq
        split at hq
        · simp at hq
          rw [hq.1]
          simp [nI]
        · split at hq
          · simp at hq
          · simp [qt] at hq
      · simp only [kindlingref07_Quoted.l0]
        rw [w64 (by omega) (by omega), if_neg (by omega), if_pos (by omega), if_pos (by omega), if_pos (by omega), hb]
        unfold qok
        rw [h, qt_cons]
        by_cases h34 : c = 34
        · subst h34
          simp [hlast]
        · rw [if_neg h34]
          have : ((c : Int) == 34) = false := by rw [beq_eq_false_iff_ne]; omega
          rw [this]
          cases hg : sgnS [c] with
          | none => rfl
          | some q => simp [qt]
    have hsg : Ev (fun k => kindlingref07_Sign.f k (s.extract i s.size)) (pr (sgnS (c :: r))) := by
      have := sign_f (s := s.extract i s.size)
      rwa [B_rest, h] at this
    have step : ∀ k, kindlingref07_Quoted.l0 (k + 1) s acc (i : Int) = (kindlingref07_Sign.f k (s.extract i s.size)).bind fun bt233 => (if bt233.2 = 0 then (some ((⟨#[]⟩ : ByteArray), false)) else (if acc.length < 140737488355328 then (kindlingref07_Quoted.l0 k s (acc ++ [bt233.1]) (wrap64 ((i : Int) + bt233.2))) else (none))) := by
      intro k
      simp only [kindlingref07_Quoted.l0]
      rw [w64 (x := (s.size : Int) - 1) (by omega) (by omega), if_pos (by omega), if_pos (by omega), if_pos (by omega), Int.toNat_natCast]
    cases hg : sgnS (c :: r) with
    | none =>
      have hno : ∀ o n, qt ((B s).drop i) = some (o, n) → i + n = s.size → False := by
        intro o n hq hn
        rw [h, qt_cons, hg] at hq
        split at hq
        · simp at hq; omega
        · simp at hq
      refine ⟨⟨#[]⟩, fun o n hq hn => (hno o n hq hn).elim, Ev.step step (Ev.bind hsg ?_)⟩
      rw [hg]
      have e : qok s i = false := by
        unfold qok
        cases hq : qt ((B s).drop i) with
        | none => rfl
        | some q => exact decide_eq_false (fun e => hno q.1 q.2 hq e)
      rw [e]
      exact Ev.congr (fun k => by simp only [pr]; rw [if_pos trivial]) (Ev.now _)
    | some q =>
      obtain ⟨b, n⟩ := q
      have hp := sgnS_pos hg
      have hle := sgnS_le hg
      simp at hle
      have h34 : c ≠ 34 := fun e => by rw [sgnS, if_pos (by omega)] at hg; simp at hg
      have e1 : qt ((B s).drop i) = (qt ((B s).drop (i + n))).map fun q => (b :: q.1, q.2 + n) := by
        rw [← List.drop_drop, h, drop_cons hp, qt_cons, if_neg h34, hg]
      obtain ⟨x, hx, hE⟩ := ih (i + n) (acc ++ [(b : Int)]) (by omega) (by omega) (by omega) (by simp; omega)
      refine ⟨x, fun o k hq hk => ?_, Ev.step step (Ev.bind hsg ?_)⟩
      · rw [e1] at hq
        obtain ⟨q, hq1, hq2⟩ := Option.map_eq_some_iff.1 hq
        cases hq2
        rw [hx q.1 q.2 hq1 (by omega)]
        simp [nI]
      · rw [hg]
        have e2 : qok s i = qok s (i + n) := by
          unfold qok
          rw [e1]
          cases qt ((B s).drop (i + n)) with
          | none => rfl
          | some q =>
            simp only [Option.map_some]
            rw [Bool.eq_iff_iff]
            simp
            omega
        rw [e2]
        refine Ev.congr (fun k => ?_) hE
        show (if (n : Int) = 0 then some ((⟨#[]⟩ : ByteArray), false) else (if acc.length < 140737488355328 then (kindlingref07_Quoted.l0 k s (acc ++ [(b : Int)]) (wrap64 ((i : Int) + (n : Int)))) else (none))) = _
        rw [if_neg (by omega), if_pos (by omega), w64_add (n := s.size) (by omega) (by omega)]
theorem quoted_f : ∃ x : ByteArray, (∀ o, quoS (B s) = some o → x = strOfNums (nI o)) ∧
    Ev (fun k => kindlingref07_Quoted.f k s) (x, (quoS (B s)).isSome) := by
  have jt : Ev (fun k => kindlingref07_Quoted.j0 k s true) (⟨#[]⟩, false) := Ev.step (f := fun _ => some ((⟨#[]⟩ : ByteArray), false)) (fun k => by simp only [kindlingref07_Quoted.j0]; rw [if_pos trivial]) (Ev.now _)
  have fall : ∀ (k : Unit), quoS (B s) = none → Ev (fun k => kindlingref07_Quoted.f k s) (⟨#[]⟩, false) → ∃ x : ByteArray, (∀ o, quoS (B s) = some o → x = strOfNums (nI o)) ∧ Ev (fun k => kindlingref07_Quoted.f k s) (x, (quoS (B s)).isSome) := by
    intro _ e h
    refine ⟨⟨#[]⟩, fun o ho => ?_, ?_⟩
    · rw [e] at ho
      simp at ho
    · rw [e]
      exact h
  by_cases h2 : s.size < 2
  · refine fall () ?_ (Ev.congr (fun k => ?_) jt)
    · have hl := B_length s
      match hB : B s with
      | [] => rfl
      | [c] => simp [quoS, qt]
      | _ :: _ :: _ => rw [hB] at hl; simp at hl; omega
    · unfold kindlingref07_Quoted.f
      rw [if_pos (by omega)]
  · cases hB : B s with
    | nil => have := B_length s; rw [hB] at this; simp at this; omega
    | cons c t =>
      rw [hB] at fall
      obtain ⟨hb, hl, hr, hsz, hc256⟩ := cons_at hB
      have step : ∀ k, kindlingref07_Quoted.f k s = kindlingref07_Quoted.j0 k s ((c : Int) != 34) := by
        intro k
        unfold kindlingref07_Quoted.f
        rw [if_neg (by omega), if_pos (by omega), hb]
      by_cases h34 : c = 34
      · subst h34
        obtain ⟨x, hx, hE⟩ := quoted_all hs s.size 1 [] (by omega) (by omega) (by omega) (by simp)
        rw [hr] at hx
        have hE2 : Ev (fun k => kindlingref07_Quoted.f k s) (x, qok s 1) := Ev.congr step (Ev.step (f := fun k => kindlingref07_Quoted.l0 k s ([] : List Int) ((1 : Nat) : Int)) (fun k => rfl) hE)
        have e : qok s 1 = (quoS (34 :: t)).isSome := by
          unfold qok
          rw [hr, quoS, if_pos rfl]
          cases qt t with
          | none => rfl
          | some q =>
            obtain ⟨o, n⟩ := q
            simp only
            by_cases hn : n = t.length
            · rw [if_pos hn, decide_eq_true (by omega)]
              rfl
            · rw [if_neg hn, decide_eq_false (by omega)]
              rfl
        rw [e] at hE2
        refine ⟨x, fun o ho => ?_, hE2⟩
        rw [quoS, if_pos rfl] at ho
        cases hq : qt t with
        | none => rw [hq] at ho; simp at ho
        | some q =>
          obtain ⟨o', n⟩ := q
          rw [hq] at ho
          simp only at ho
          split at ho
          · rename_i hn
            cases ho
            have := hx o n hq (by omega)
            simpa using this
          · simp at ho
      · refine fall () (by rw [quoS, if_neg h34]) (Ev.congr (fun k => ?_) jt)
        rw [step, bne_iff_ne.2 (by omega)]
end
end Go.Proofs.YtnihjlnnllngeaaDoor.Lx
