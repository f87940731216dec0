/- What stands in quotes: the program's and the reference's functions in plain words. -/
import Derived.Test.YtnihjlnnllngeaaDoorLxD
import Derived.Test.YtnihjlnnllngeaaDoorF0
import Derived.Test.YtnihjlnnllngeaaDoorFText
namespace Go.Proofs.YtnihjlnnllngeaaDoor.Lx
open Go.RowKit Go.Proofs.YtnihjlnnllngeaaDoorW.PrintWords Go.Proofs.YtnihjlnnllngeaaDoor.PL
set_option linter.unusedVariables false
set_option linter.unusedSimpArgs false
set_option linter.unusedSectionVars false

def hexd (c : Nat) : Option Nat := if dig c = true then some (c - 48) else if rng 65 70 c = true then some (c - 55) else none
def hexI (c : Nat) : Int := match hexd c with
  | none => -1
  | some v => v
def hx2 : List Nat → Option (Nat × Nat)
  | x :: y :: _ => (hexd x).bind fun a => (hexd y).map fun b => (16 * a + b, 3)
  | _ => none
/-- A sign behind a backslash: its byte, how long it is. -/
def escS : List Nat → Option (Nat × Nat)
  | [] => none
  | c :: r =>
    if c = 34 ∨ c = 92 then some (c, 1)
    else if c = 110 then some (10, 1)
    else if c = 116 then some (9, 1)
    else if c = 120 then hx2 r
    else none
/-- A sign of what stands in quotes. -/
def sgnS : List Nat → Option (Nat × Nat)
  | [] => none
  | c :: r => if c < 32 ∨ c > 126 ∨ c = 34 then none else if c = 92 then (escS r).map (fun q => (q.1, q.2 + 1)) else some (c, 1)
def pr (q : Option (Nat × Nat)) : Int × Int := match q with
  | none => (0, 0)
  | some (b, n) => ((b : Int), (n : Int))
theorem hexd_lt {c v : Nat} (h : hexd c = some v) : v < 16 := by
  unfold hexd at h
  split at h
  · rename_i hd
    have := dig_iff.1 hd
    simp at h; omega
  · split at h
    · rename_i hd
      simp [rng] at hd
      simp at h; omega
    · simp at h
theorem hexI_nn {c : Nat} : (hexI c ≥ 0) ↔ ∃ v, hexd c = some v := by
  unfold hexI
  cases h : hexd c <;> simp
theorem hex_f (c : Nat) : Ev (fun k => lex_hex.f k (c : Int)) (hexI c) := by
  unfold lex_hex.f
  rw [digit_f]
  simp only [Option.bind_some]
  by_cases hd : dig c = true
  · have := dig_iff.1 hd
    have e : hexI c = ((c : Int) - 48) % 256 := by
      unfold hexI hexd
      rw [if_pos hd]
      simp only
      omega
    rw [e]
    exact Ev.congr (fun k => by rw [if_pos hd]) (Ev.now _)
  · have e : ∀ k, (if dig c = true then (some (((c : Int) - 48) % 256)) else (if (c : Int) ≥ 65 then (lex_hex.j0 k (c : Int) (decide ((c : Int) ≤ 70))) else (lex_hex.j0 k (c : Int) false))) = lex_hex.j0 k (c : Int) (rng 65 70 c) := by
      intro k
      rw [if_neg hd]
      unfold rng
      by_cases h : (c : Int) ≥ 65
      · rw [if_pos h]
        congr 1
        rw [Bool.eq_iff_iff]
        simp
        omega
      · rw [if_neg h]
        congr 1
        rw [Bool.eq_iff_iff]
        simp
        omega
    refine Ev.congr e (Ev.step (f := fun _ => some (hexI c)) (fun k => ?_) (Ev.now _))
    simp only [lex_hex.j0]
    unfold hexI hexd
    rw [if_neg hd]
    by_cases hr : rng 65 70 c = true
    · rw [if_pos hr, if_pos hr]
      simp [rng] at hr
      simp only
      congr 1
      omega
    · rw [if_neg hr, if_neg hr]
theorem cons_at {s : ByteArray} {c : Nat} {r : List Nat} (h : B s = c :: r) : bt s 0 = (c : Int) ∧ 0 < s.size ∧ (B s).drop 1 = r ∧ s.size = r.length + 1 ∧ c < 256 :=
  ⟨(bt_drop (i := 0) h).1, (bt_drop (i := 0) h).2.1, (bt_drop (i := 0) h).2.2, by rw [← B_length, h]; rfl, B_lt (s := s) (by rw [h]; simp)⟩
theorem at_n {s : ByteArray} {n c : Nat} {r : List Nat} (h : (B s).drop n = c :: r) : c < 256 := B_lt (s := s) (List.mem_of_mem_drop (i := n) (by rw [h]; simp))
theorem escape_f {s : ByteArray} : Ev (fun k => lex_escape.f k s) (pr (escS (B s))) := by
  cases hB : B s with
  | nil =>
    have : s.size = 0 := by rw [← B_length, hB]; rfl
    refine Ev.congr (f := fun _ => some _) (fun k => ?_) (Ev.now _)
    unfold lex_escape.f
    rw [if_pos (by omega)]
    rfl
  | cons c r =>
    obtain ⟨hb, hl, hr, hsz, hc256⟩ := cons_at hB
    refine Ev.congr (f := fun k => lex_escape.j0 k s (c : Int) (decide (c = 34 ∨ c = 92))) (fun k => ?_) ?_
    · unfold lex_escape.f
      rw [if_neg (by omega), if_pos (by omega), hb]
      by_cases h34 : c = 34
      · subst h34; rfl
      · rw [if_neg (by omega)]
        congr 1
        rw [Bool.eq_iff_iff]
        simp
        omega
    by_cases h1 : c = 34 ∨ c = 92
    · refine Ev.step (f := fun _ => some _) (fun k => ?_) (Ev.now _)
      simp only [lex_escape.j0]
      rw [if_pos (by simpa using h1), if_pos (by omega), hb]
      rw [escS]
      rw [if_pos h1]
      rfl
    by_cases h2 : c = 110
    · subst h2
      exact Ev.step (f := fun _ => some _) (fun k => rfl) (Ev.now _)
    by_cases h3 : c = 116
    · subst h3
      exact Ev.step (f := fun _ => some _) (fun k => rfl) (Ev.now _)
    by_cases h4 : c = 120
    case neg =>
      refine Ev.step (f := fun _ => some _) (fun k => ?_) (Ev.now _)
      simp only [lex_escape.j0]
      rw [if_neg (by simpa using h1), if_neg (by omega), if_neg (by omega), if_neg (by omega)]
      rw [escS]
      rw [if_neg h1, if_neg h2, if_neg h3, if_neg h4]
      rfl
    have e0 : escS (c :: r) = hx2 r := by
      rw [escS]
      rw [if_neg h1, if_neg h2, if_neg h3, if_pos h4]
    have jf : Ev (fun k => lex_escape.j1 k s false) (0, 0) := Ev.step (f := fun _ => some (0, 0)) (fun k => by simp only [lex_escape.j1]; rw [if_neg (by simp)]) (Ev.now _)
    have step : ∀ k, lex_escape.j0 (k + 1) s (c : Int) (decide (c = 34 ∨ c = 92)) = (if (s.size : Int) ≥ 3 then (if 1 < (s.size : Int) then ((lex_hex.f k (bt s 1)).bind fun t109 => (if t109 ≥ 0 then (if 2 < (s.size : Int) then ((lex_hex.f k (bt s 2)).bind fun t110 => (lex_escape.j1 k s (decide (t110 ≥ 0)))) else (none)) else (lex_escape.j1 k s false))) else (none)) else (lex_escape.j1 k s false)) := by
      intro k
      simp only [lex_escape.j0]
      rw [if_neg (by simpa using h1), if_neg (by omega), if_neg (by omega), if_pos (by omega)]
    by_cases h5 : 3 ≤ s.size
    case neg =>
      have e : escS (c :: r) = none := by
        rw [e0]
        match r, hsz with
        | [], _ => rfl
        | [_], _ => rfl
        | _ :: _ :: _, hsz => simp at hsz; omega
      rw [e]
      refine Ev.step (f := fun k => lex_escape.j1 k s false) (fun k => ?_) jf
      rw [step, if_neg (by omega)]
    match r, hsz, hr, e0 with
    | [], hsz, _, _ => simp at hsz; omega
    | [_], hsz, _, _ => simp at hsz; omega
    | x :: y :: t, hsz, hr, e0 =>
      have hx := bt_drop hr
      have hy := bt_drop hx.2.2
      have hbx : bt s 1 = (x : Int) := hx.1
      have hby : bt s 2 = (y : Int) := hy.1
      refine Ev.step (f := fun k => (lex_hex.f k (x : Int)).bind fun t109 => (if t109 ≥ 0 then ((lex_hex.f k (y : Int)).bind fun t110 => (lex_escape.j1 k s (decide (t110 ≥ 0)))) else (lex_escape.j1 k s false))) (fun k => ?_) ?_
      · rw [step, if_pos (by omega), if_pos (by omega), hbx, hby]
        simp only [if_pos (show (2 : Int) < (s.size : Int) by omega)]
      rw [e0, hx2]
      refine Ev.bind (hex_f x) ?_
      cases hx1 : hexd x with
      | none =>
        have : ¬ hexI x ≥ 0 := fun e => by obtain ⟨v, hv⟩ := hexI_nn.1 e; rw [hx1] at hv; simp at hv
        refine Ev.congr (fun k => by rw [if_neg this]) jf
      | some a =>
        have ha : hexI x = (a : Int) := by unfold hexI; rw [hx1]
        refine Ev.congr (fun k => by rw [if_pos (by omega)]) (Ev.bind (hex_f y) ?_)
        cases hy1 : hexd y with
        | none =>
          have : ¬ hexI y ≥ 0 := fun e => by obtain ⟨v, hv⟩ := hexI_nn.1 e; rw [hy1] at hv; simp at hv
          rw [decide_eq_false this]
          exact jf
        | some b =>
          have hbI : hexI y = (b : Int) := by unfold hexI; rw [hy1]
          have ha2 := hexd_lt hx1
          have hb2 := hexd_lt hy1
          rw [decide_eq_true (by omega : hexI y ≥ 0)]
          refine Ev.step (f := fun k => (lex_hex.f k (x : Int)).bind fun t111 => (lex_hex.f k (y : Int)).bind fun t112 => (some ((wrap64 ((wrap64 (t111 * 16)) + t112)) % 256, 3))) (fun k => ?_) ?_
          · simp only [lex_escape.j1]
            rw [if_pos trivial, if_pos (by omega), hbx, hby]
            simp only [if_pos (show (2 : Int) < (s.size : Int) by omega)]
          · refine Ev.bind (hex_f x) (Ev.bind (hex_f y) ?_)
            rw [ha, hbI, w64 (x := (a : Int) * 16) (by omega) (by omega), w64 (by omega) (by omega)]
            have e : pr ((some a).bind fun a => (some b).map fun b => (16 * a + b, 3)) = (((a : Int) * 16 + (b : Int)) % 256, 3) := by
              simp only [Option.bind_some, Option.map_some, pr]
              congr 1
              omega
            rw [e]
            exact Ev.now _
end Go.Proofs.YtnihjlnnllngeaaDoor.Lx
