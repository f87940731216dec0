/- What stands in quotes: the program's and the reference's functions in plain words. -/
import Derived.Test.YtnihjlnnllngeaaDoorLxD
import Derived.Test.YtnihjlnnllngeaaDoorF0
import Derived.Test.YtnihjlnnllngeaaDoorFText
import Derived.Test.YtnihjlnnllngeaaDoorFRWord
import Derived.Test.YtnihjlnnllngeaaDoorFRNum
namespace Go.Proofs.YtnihjlnnllngeaaDoor.Lx
open Go.RowKit Go.Proofs.YtnihjlnnllngeaaDoorW.PrintWords Go.Proofs.YtnihjlnnllngeaaDoor.PL
set_option linter.unusedVariables false
set_option linter.unusedSimpArgs false
set_option linter.unusedSectionVars false

def hexd (c : Nat) : Option Nat := if dig c = true then some (c - 48) else if rng 65 70 c = true then some (c - 55) else none
def hexI (c : Nat) : Int := match hexd c with
  | none => -1
  | some v => v
def hx2 : List Nat → Option (Nat × Nat)
  | x :: y :: _ => (hexd x).bind fun a => (hexd y).map fun b => (16 * a + b, 3)
  | _ => none
/-- A sign behind a backslash: its byte, how long it is. -/
def escS : List Nat → Option (Nat × Nat)
  | [] => none
  | c :: r =>
    if c = 34 ∨ c = 92 then some (c, 1)
    else if c = 110 then some (10, 1)
    else if c = 116 then some (9, 1)
    else if c = 120 then hx2 r
    else none
/-- A sign of what stands in quotes. -/
def sgnS : List Nat → Option (Nat × Nat)
  | [] => none
  | c :: r => if c < 32 ∨ c > 126 ∨ c = 34 then none else if c = 92 then (escS r).map (fun q => (q.1, q.2 + 1)) else some (c, 1)
def pr (q : Option (Nat × Nat)) : Int × Int := match q with
  | none => (0, 0)
  | some (b, n) => ((b : Int), (n : Int))
theorem hexd_lt {c v : Nat} (h : hexd c = some v) : v < 16 := by
  unfold hexd at h
  split at h
  · rename_i hd
    have := dig_iff.1 hd
    simp at h; omega
  · split at h
    · rename_i hd
      simp [rng] at hd
      simp at h; omega
    · simp at h
theorem hexI_nn {c : Nat} : (hexI c ≥ 0) ↔ ∃ v, hexd c = some v := by
  unfold hexI
  cases h : hexd c <;> simp
theorem hex_f (c : Nat) : Ev (fun k => lex_hex.f k (c : Int)) (hexI c) := by
  unfold lex_hex.f
  rw [digit_f]
  simp only [Option.bind_some]
  by_cases hd : dig c = true
  · have := dig_iff.1 hd
    have e : hexI c = ((c : Int) - 48) % 256 := by
      unfold hexI hexd
      rw [if_pos hd]
      simp only
      omega
    rw [e]
    exact Ev.congr (fun k => by rw [if_pos hd]) (Ev.now _)
  · have e : ∀ k, (if dig c = true then (some (((c : Int) - 48) % 256)) else (if (c : Int) ≥ 65 then (lex_hex.j0 k (c : Int) (decide ((c : Int) ≤ 70))) else (lex_hex.j0 k (c : Int) false))) = lex_hex.j0 k (c : Int) (rng 65 70 c) := by
      intro k
      rw [if_neg hd]
      unfold rng
      by_cases h : (c : Int) ≥ 65
      · rw [if_pos h]
        congr 1
        rw [Bool.eq_iff_iff]
        simp
        omega
      · rw [if_neg h]
        congr 1
        rw [Bool.eq_iff_iff]
        simp
        omega
    refine Ev.congr e (Ev.step (f := fun _ => some (hexI c)) (fun k => ?_) (Ev.now _))
    simp only [lex_hex.j0]
    unfold hexI hexd
    rw [if_neg hd]
    by_cases hr : rng 65 70 c = true
    · rw [if_pos hr, if_pos hr]
      simp [rng] at hr
      simp only
      congr 1
      omega
    · rw [if_neg hr, if_neg hr]
theorem digit16_f (c : Nat) (hc : c < 256) : kindlingref07_digit16.f (c : Int) = some (hexI c) := by
  unfold kindlingref07_digit16.f
  have h1 : kindlingref07_between.f (c : Int) 48 57 = some (dig c) := between_f c 48 57
  have h2 : kindlingref07_between.f (c : Int) 65 70 = some (rng 65 70 c) := between_f c 65 70
  rw [h1, h2]
  simp only [Option.bind_some]
  unfold hexI hexd
  by_cases hd : dig c = true
  · have := dig_iff.1 hd
    rw [if_pos hd, if_pos hd, w64 (x := (c : Int)) (by omega) (by omega), w64 (by omega) (by omega)]
    simp only
    congr 1
    omega
  · rw [if_neg hd, if_neg hd]
    by_cases hr : rng 65 70 c = true
    · rw [if_pos hr, if_pos hr]
      simp [rng] at hr
      rw [w64 (x := (c : Int)) (by omega) (by omega), w64 (x := (c : Int) - 65) (by omega) (by omega), w64 (by omega) (by omega)]
      simp only
      congr 1
      omega
    · rw [if_neg hr, if_neg hr]
theorem cons_at {s : ByteArray} {c : Nat} {r : List Nat} (h : B s = c :: r) : bt s 0 = (c : Int) ∧ 0 < s.size ∧ (B s).drop 1 = r ∧ s.size = r.length + 1 ∧ c < 256 :=
  ⟨(bt_drop (i := 0) h).1, (bt_drop (i := 0) h).2.1, (bt_drop (i := 0) h).2.2, by rw [← B_length, h]; rfl, B_lt (s := s) (by rw [h]; simp)⟩
theorem at_n {s : ByteArray} {n c : Nat} {r : List Nat} (h : (B s).drop n = c :: r) : c < 256 := B_lt (s := s) (List.mem_of_mem_drop (i := n) (by rw [h]; simp))
theorem escape_f {s : ByteArray} : Ev (fun k => lex_escape.f k s) (pr (escS (B s))) := by
  cases hB : B s with
  | nil =>
    have : s.size = 0 := by rw [← B_length, hB]; rfl
    refine Ev.congr (f := fun _ => some _) (fun k => ?_) (Ev.now _)
    unfold lex_escape.f
    rw [if_pos (by omega)]
    rfl
  | cons c r =>
    obtain ⟨hb, hl, hr, hsz, hc256⟩ := cons_at hB
    refine Ev.congr (f := fun k => lex_escape.j0 k s (c : Int) (decide (c = 34 ∨ c = 92))) (fun k => ?_) ?_
    · unfold lex_escape.f
      rw [if_neg (by omega), if_pos (by omega), hb]
      by_cases h34 : c = 34
      · subst h34; rfl
      · rw [if_neg (by omega)]
        congr 1
        rw [Bool.eq_iff_iff]
        simp
        omega
    by_cases h1 : c = 34 ∨ c = 92
    · refine Ev.step (f := fun _ => some _) (fun k => ?_) (Ev.now _)
      simp only [lex_escape.j0]
      rw [if_pos (by simpa using h1), if_pos (by omega), hb]
      rw [escS]
      rw [if_pos h1]
      rfl
    by_cases h2 : c = 110
    · subst h2
      exact Ev.step (f := fun _ => some _) (fun k => rfl) (Ev.now _)
    by_cases h3 : c = 116
    · subst h3
      exact Ev.step (f := fun _ => some _) (fun k => rfl) (Ev.now _)
    by_cases h4 : c = 120
    case neg =>
      refine Ev.step (f := fun _ => some _) (fun k => ?_) (Ev.now _)
      simp only [lex_escape.j0]
      rw [if_neg (by simpa using h1), if_neg (by omega), if_neg (by omega), if_neg (by omega)]
      rw [escS]
      rw [if_neg h1, if_neg h2, if_neg h3, if_neg h4]
      rfl
    have e0 : escS (c :: r) = hx2 r := by
      rw [escS]
      rw [if_neg h1, if_neg h2, if_neg h3, if_pos h4]
    have jf : Ev (fun k => lex_escape.j1 k s false) (0, 0) := Ev.step (f := fun _ => some (0, 0)) (fun k => by simp only [lex_escape.j1]; rw [if_neg (by simp)]) (Ev.now _)
    have step : ∀ k, lex_escape.j0 (k + 1) s (c : Int) (decide (c = 34 ∨ c = 92)) = (if (s.size : Int) ≥ 3 then (if 1 < (s.size : Int) then ((lex_hex.f k (bt s 1)).bind fun t109 => (if t109 ≥ 0 then (if 2 < (s.size : Int) then ((lex_hex.f k (bt s 2)).bind fun t110 => (lex_escape.j1 k s (decide (t110 ≥ 0)))) else (none)) else (lex_escape.j1 k s false))) else (none)) else (lex_escape.j1 k s false)) := by
      intro k
      simp only [lex_escape.j0]
      rw [if_neg (by simpa using h1), if_neg (by omega), if_neg (by omega), if_pos (by omega)]
    by_cases h5 : 3 ≤ s.size
    case neg =>
      have e : escS (c :: r) = none := by
        rw [e0]
        match r, hsz with
        | [], _ => rfl
        | [_], _ => rfl
        | _ :: _ :: _, hsz => simp at hsz; omega
      rw [e]
      refine Ev.step (f := fun k => lex_escape.j1 k s false) (fun k => ?_) jf
      rw [step, if_neg (by omega)]
    match r, hsz, hr, e0 with
    | [], hsz, _, _ => simp at hsz; omega
    | [_], hsz, _, _ => simp at hsz; omega
    | x :: y :: t, hsz, hr, e0 =>
      have hx := bt_drop hr
      have hy := bt_drop hx.2.2
      have hbx : bt s 1 = (x : Int) := hx.1
      have hby : bt s 2 = (y : Int) := hy.1
      refine Ev.step (f := fun k => (lex_hex.f k (x : Int)).bind fun t109 => (if t109 ≥ 0 then ((lex_hex.f k (y : Int)).bind fun t110 => (lex_escape.j1 k s (decide (t110 ≥ 0)))) else (lex_escape.j1 k s false))) (fun k => ?_) ?_
      · rw [step, if_pos (by omega), if_pos (by omega), hbx, hby]
        simp only [if_pos (show (2 : Int) < (s.size : Int) by omega)]
      rw [e0, hx2]
      refine Ev.bind (hex_f x) ?_
      cases hx1 : hexd x with
      | none =>
        have : ¬ hexI x ≥ 0 := fun e => by obtain ⟨v, hv⟩ := hexI_nn.1 e; rw [hx1] at hv; simp at hv
        refine Ev.congr (fun k => by rw [if_neg this]) jf
      | some a =>
        have ha : hexI x = (a : Int) := by unfold hexI; rw [hx1]
        refine Ev.congr (fun k => by rw [if_pos (by omega)]) (Ev.bind (hex_f y) ?_)
        cases hy1 : hexd y with
        | none =>
          have : ¬ hexI y ≥ 0 := fun e => by obtain ⟨v, hv⟩ := hexI_nn.1 e; rw [hy1] at hv; simp at hv
          rw [decide_eq_false this]
          exact jf
        | some b =>
          have hbI : hexI y = (b : Int) := by unfold hexI; rw [hy1]
          have ha2 := hexd_lt hx1
          have hb2 := hexd_lt hy1
          rw [decide_eq_true (by omega : hexI y ≥ 0)]
          refine Ev.step (f := fun k => (lex_hex.f k (x : Int)).bind fun t111 => (lex_hex.f k (y : Int)).bind fun t112 => (some ((wrap64 ((wrap64 (t111 * 16)) + t112)) % 256, 3))) (fun k => ?_) ?_
          · simp only [lex_escape.j1]
            rw [if_pos trivial, if_pos (by omega), hbx, hby]
            simp only [if_pos (show (2 : Int) < (s.size : Int) by omega)]
          · refine Ev.bind (hex_f x) (Ev.bind (hex_f y) ?_)
            rw [ha, hbI, w64 (x := (a : Int) * 16) (by omega) (by omega), w64 (by omega) (by omega)]
            have e : pr ((some a).bind fun a => (some b).map fun b => (16 * a + b, 3)) = (((a : Int) * 16 + (b : Int)) % 256, 3) := by
              simp only [Option.bind_some, Option.map_some, pr]
              congr 1
              omega
            rw [e]
            exact Ev.now _
theorem sign_f {s : ByteArray} : Ev (fun k => kindlingref07_Sign.f k s) (pr (sgnS (B s))) := by
  have jt : Ev (fun k => kindlingref07_Sign.j0 k s true) (0, 0) := Ev.step (f := fun _ => some (0, 0)) (fun k => by simp only [kindlingref07_Sign.j0]; rw [if_pos trivial]) (Ev.now _)
  have jf : Ev (fun k => kindlingref07_Sign.j1 k s false) (0, 0) := Ev.step (f := fun _ => some (0, 0)) (fun k => by simp only [kindlingref07_Sign.j1]; rw [if_neg (by simp)]) (Ev.now _)
  cases hB : B s with
  | nil =>
    have h0 : s.toList = [] := (toList_eq_iff s []).2 hB
    refine Ev.congr (fun k => ?_) jt
    unfold kindlingref07_Sign.f
    rw [if_pos h0]
  | cons c r =>
    obtain ⟨hb, hl, hr, hsz, hc256⟩ := cons_at hB
    have h0 : s.toList ≠ [] := fun e => by have := (toList_eq_iff s []).1 e; rw [hB] at this; simp at this
    refine Ev.congr (f := fun k => kindlingref07_Sign.j0 k s (decide (c < 32 ∨ c > 126 ∨ c = 34))) (fun k => ?_) ?_
    · unfold kindlingref07_Sign.f
      rw [if_neg h0, if_pos (by omega), hb]
      by_cases h1 : c < 32
      · rw [if_pos (by omega)]
        simp [h1]
      · rw [if_neg (by omega)]
        by_cases h2 : c > 126
        · rw [if_pos (by omega)]
          simp [h2]
        · rw [if_neg (by omega)]
          congr 1
          rw [Bool.eq_iff_iff]
          simp
          omega
    by_cases h1 : c < 32 ∨ c > 126 ∨ c = 34
    · rw [decide_eq_true h1]
      rw [sgnS]
      rw [if_pos h1]
      exact jt
    by_cases h92 : c = 92
    case neg =>
      refine Ev.step (f := fun _ => some _) (fun k => ?_) (Ev.now _)
      simp only [kindlingref07_Sign.j0]
      rw [if_neg (by simpa using h1), if_pos (by omega), hb, if_neg (by omega)]
      rw [sgnS]
      rw [if_neg h1, if_neg h92]
      rfl
    have e0 : sgnS (c :: r) = (escS r).map (fun q => (q.1, q.2 + 1)) := by
      rw [sgnS]
      rw [if_neg h1, if_pos h92]
    rw [e0]
    cases r with
    | nil =>
      refine Ev.step (f := fun _ => some _) (fun k => ?_) (Ev.now _)
      simp only [kindlingref07_Sign.j0]
      rw [if_neg (by simpa using h1), if_pos (by omega), hb, if_pos (by omega), if_pos (by simp at hsz; omega)]
      rfl
    | cons d t =>
      obtain ⟨hd, hl1, hr1⟩ := bt_drop hr
      have hd : bt s 1 = (d : Int) := hd
      have hd256 := at_n hr
      have step : ∀ k, kindlingref07_Sign.j0 (k + 1) s (decide (c < 32 ∨ c > 126 ∨ c = 34)) = (if (d : Int) = 34 then (some (34, 2)) else (if (d : Int) = 92 then (some (92, 2)) else (if (d : Int) = 110 then (some (10, 2)) else (if (d : Int) = 116 then (some (9, 2)) else (if (d : Int) = 120 then (if (s.size : Int) ≥ 4 then (if 2 < (s.size : Int) then ((kindlingref07_digit16.f (bt s 2)).bind fun t229 => (if t229 ≥ 0 then (if 3 < (s.size : Int) then ((kindlingref07_digit16.f (bt s 3)).bind fun t230 => (kindlingref07_Sign.j1 k s (decide (t230 ≥ 0)))) else (none)) else (kindlingref07_Sign.j1 k s false))) else (none)) else (kindlingref07_Sign.j1 k s false)) else (kindlingref07_Sign.j1 k s false)))))) := by
        intro k
        simp only [kindlingref07_Sign.j0]
        rw [if_neg (by simpa using h1), if_pos (by omega), hb, if_pos (by omega), if_neg (by simp at hsz; omega), if_pos (by omega), hd]
      by_cases g1 : d = 34
      · subst g1
        exact Ev.step (f := fun _ => some _) (fun k => by rw [step, if_pos (by omega)]; rfl) (Ev.now _)
      by_cases g2 : d = 92
      · subst g2
        exact Ev.step (f := fun _ => some _) (fun k => by rw [step, if_neg (by omega), if_pos (by omega)]; rfl) (Ev.now _)
      by_cases g3 : d = 110
      · subst g3
        exact Ev.step (f := fun _ => some _) (fun k => by rw [step, if_neg (by omega), if_neg (by omega), if_pos (by omega)]; rfl) (Ev.now _)
      by_cases g4 : d = 116
      · subst g4
        exact Ev.step (f := fun _ => some _) (fun k => by rw [step, if_neg (by omega), if_neg (by omega), if_neg (by omega), if_pos (by omega)]; rfl) (Ev.now _)
      by_cases g5 : d = 120
      case neg =>
        have e : escS (d :: t) = none := by
          rw [escS]
          rw [if_neg (by omega), if_neg g3, if_neg g4, if_neg g5]
        rw [e]
        exact Ev.step (fun k => by rw [step, if_neg (by omega), if_neg (by omega), if_neg (by omega), if_neg (by omega), if_neg (by omega)]) jf
      have e1 : escS (d :: t) = hx2 t := by
        rw [escS]
        rw [if_neg (by omega), if_neg g3, if_neg g4, if_pos g5]
      by_cases h5 : 4 ≤ s.size
      case neg =>
        have e : escS (d :: t) = none := by
          rw [e1]
          match t, hsz with
          | [], _ => rfl
          | [_], _ => rfl
          | _ :: _ :: _, hsz => simp at hsz; omega
        rw [e]
        exact Ev.step (fun k => by rw [step, if_neg (by omega), if_neg (by omega), if_neg (by omega), if_neg (by omega), if_pos (by omega), if_neg (by omega)]) jf
      match t, hsz, hr1, e1 with
      | [], hsz, _, _ => simp at hsz; omega
      | [_], hsz, _, _ => simp at hsz; omega
      | x :: y :: u, hsz, hr1, e1 =>
        have hx := bt_drop hr1
        have hy := bt_drop hx.2.2
        have hbx : bt s 2 = (x : Int) := hx.1
        have hby : bt s 3 = (y : Int) := hy.1
        have hx256 := at_n hr1
        have hy256 := at_n hx.2.2
        have step2 : ∀ k, kindlingref07_Sign.j0 (k + 1) s (decide (c < 32 ∨ c > 126 ∨ c = 34)) = if hexI x ≥ 0 then kindlingref07_Sign.j1 k s (decide (hexI y ≥ 0)) else kindlingref07_Sign.j1 k s false := by
          intro k
          rw [step, if_neg (by omega), if_neg (by omega), if_neg (by omega), if_neg (by omega), if_pos (by omega), if_pos (by omega), if_pos (by omega), hbx, hby, digit16_f x hx256, digit16_f y hy256]
          simp only [Option.bind_some, if_pos (show (3 : Int) < (s.size : Int) by omega)]
        rw [e1, hx2]
        cases hx1 : hexd x with
        | none =>
          have : ¬ hexI x ≥ 0 := fun e => by obtain ⟨v, hv⟩ := hexI_nn.1 e; rw [hx1] at hv; simp at hv
          exact Ev.step (fun k => by rw [step2, if_neg this]) jf
        | some a =>
          have ha : hexI x = (a : Int) := by unfold hexI; rw [hx1]
          cases hy1 : hexd y with
          | none =>
            have : ¬ hexI y ≥ 0 := fun e => by obtain ⟨v, hv⟩ := hexI_nn.1 e; rw [hy1] at hv; simp at hv
            exact Ev.step (fun k => by rw [step2, if_pos (by omega), decide_eq_false this]) jf
          | some b =>
            have hbI : hexI y = (b : Int) := by unfold hexI; rw [hy1]
            have ha2 := hexd_lt hx1
            have hb2 := hexd_lt hy1
            refine Ev.step (fun k => by rw [step2, if_pos (by omega), decide_eq_true (by omega : hexI y ≥ 0)]) (Ev.step (f := fun _ => some _) (fun k => ?_) (Ev.now _))
            simp only [kindlingref07_Sign.j1]
            rw [if_pos trivial, if_pos (by omega), hbx, hby, digit16_f x hx256, digit16_f y hy256]
            simp only [Option.bind_some, if_pos (show (3 : Int) < (s.size : Int) by omega)]
            rw [ha, hbI, w64 (x := 16 * (a : Int)) (by omega) (by omega), w64 (by omega) (by omega)]
            simp only [Option.map_some, pr]
            congr 2
            omega
end Go.Proofs.YtnihjlnnllngeaaDoor.Lx
