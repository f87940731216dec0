/- Tokens as a text: both ways of putting them together are the same. -/
import Derived.Test.YtnihjlnnllngeaaDoorLxV
import Derived.Test.YtnihjlnnllngeaaDoorLxQ
import Derived.Test.YtnihjlnnllngeaaDoorFRight
import Derived.Test.YtnihjlnnllngeaaDoorFQuote
import Derived.Test.YtnihjlnnllngeaaDoorFPrint
namespace Go.Proofs.YtnihjlnnllngeaaDoor.Lx
open Go.RowKit Go.Proofs.YtnihjlnnllngeaaDoorW.PrintWords Go.Proofs.YtnihjlnnllngeaaDoor.PL
set_option linter.unusedVariables false
set_option linter.unusedSimpArgs false
set_option linter.unusedSectionVars false
theorem bits15 {c : Nat} (h : c < 256) : Go.bits .and .u8 (c : Int) 15 = ((c % 16 : Nat) : Int) := by
  have : ∀ m : Fin 256, Go.bits .and .u8 (m.val : Int) 15 = ((m.val % 16 : Nat) : Int) := by decide +kernel
  exact this ⟨c, h⟩
section
variable {s : ByteArray} (hs : s.size ≤ 1000000)
include hs
theorem lexQuote_all : ∀ (m i : Nat) (acc : List Int), s.size - i ≤ m → i ≤ s.size → acc.length ≤ 1 + 4 * i → Ev (fun k => lex_quote.l0 k s acc (i : Int)) (acc ++ nI (((B s).drop i).flatMap qb ++ [34])) := by
  intro m
  induction m with
  | zero =>
    intro i acc hm hi ha
    have hd : (B s).drop i = [] := List.drop_eq_nil_iff.2 (by rw [B_length]; omega)
    refine Ev.step (f := fun _ => some (acc ++ [34])) (fun k => ?_) (by rw [hd]; exact Ev.now _)
    simp only [lex_quote.l0]
    rw [if_neg (by omega), if_pos (by omega)]
  | succ m ih =>
    intro i acc hm hi ha
    by_cases hl : i < s.size
    case neg => exact ih i acc (by omega) hi ha
    obtain ⟨c, r, h⟩ := drop_ex s hl
    obtain ⟨hb, _, hr⟩ := bt_drop h
    have hc : c < 256 := at_n h
    have hw : wrap64 ((i : Int) + 1) = ((i + 1 : Nat) : Int) := w64_1 hi (by omega)
    have fwd : ∀ ys : List Int, ys = nI (qb c) → Ev (fun k => lex_quote.l0 k s (acc ++ ys) ((i + 1 : Nat) : Int)) (acc ++ nI (((B s).drop i).flatMap qb ++ [34])) := by
      rintro ys rfl
      have := ih (i + 1) (acc ++ nI (qb c)) (by omega) (by omega) (by have := (qb_len c).2; simp [nI]; omega)
      rw [hr] at this
      rw [h, List.flatMap_cons]
      simpa [nI, List.append_assoc] using this
    have j1 : Ev (fun k => lex_quote.j1 k s acc (i : Int) (c : Int) (decide (c = 34 ∨ c = 92))) (acc ++ nI (((B s).drop i).flatMap qb ++ [34])) := by
      by_cases c1 : c = 34 ∨ c = 92
      · rw [decide_eq_true c1]
        refine Ev.step (fun k => ?_) (fwd [92, (c : Int)] (by unfold qb; rw [if_pos c1]; rfl))
        simp only [lex_quote.j1]
        rw [if_pos trivial]
        simp only [Option.bind_some]
        rw [if_pos (by simp; omega), hw]
      rw [decide_eq_false c1]
      by_cases c2 : c = 10
      · refine Ev.step (fun k => ?_) (fwd [92, 110] (by unfold qb; rw [if_neg c1, if_pos c2]; rfl))
        simp only [lex_quote.j1]
        rw [if_neg (by simp), if_pos (by omega)]
        simp only [Option.bind_some]
        rw [if_pos (by simp; omega), hw]
      by_cases c3 : c = 9
      · refine Ev.step (fun k => ?_) (fwd [92, 116] (by unfold qb; rw [if_neg c1, if_neg c2, if_pos c3]; rfl))
        simp only [lex_quote.j1]
        rw [if_neg (by simp), if_neg (by omega), if_pos (by omega)]
        simp only [Option.bind_some]
        rw [if_pos (by simp; omega), hw]
      refine Ev.step (f := fun k => lex_quote.j2 k s acc (i : Int) (c : Int) (decide (c < 32 ∨ c > 126))) (fun k => ?_) ?_
      · simp only [lex_quote.j1]
        rw [if_neg (by simp), if_neg (by omega), if_neg (by omega)]
        by_cases c4 : c < 32
        · rw [if_pos (by omega), decide_eq_true (.inl c4)]
        · rw [if_neg (by omega)]
          congr 1
          rw [decide_eq_decide]
          omega
      by_cases c4 : c < 32 ∨ c > 126
      · rw [decide_eq_true c4]
        have e1 : (c : Int) / 16 = ((c / 16 : Nat) : Int) := by omega
        have e2 := bits15 hc
        refine Ev.step (fun k => ?_) (fwd [92, 120, ((hxd (c / 16) : Nat) : Int), ((hxd (c % 16) : Nat) : Int)] (by unfold qb; rw [if_neg c1, if_neg c2, if_neg c3, if_pos c4]; rfl))
        simp only [lex_quote.j2]
        rw [if_pos trivial, e1, e2, if_pos (by omega), if_pos (by omega), if_pos (by omega), if_pos (by omega), tab_hex (by omega), tab_hex (by omega)]
        simp only [Option.bind_some]
        rw [if_pos (by simp; omega), hw]
      · rw [decide_eq_false c4]
        refine Ev.step (fun k => ?_) (fwd [(c : Int)] (by unfold qb; rw [if_neg c1, if_neg c2, if_neg c3, if_neg c4]; rfl))
        simp only [lex_quote.j2]
        rw [if_neg (by simp), if_pos (by omega), hw]
    refine Ev.step (fun k => ?_) j1
    simp only [lex_quote.l0]
    rw [if_pos (by omega), if_pos (by omega), hb]
    by_cases c1 : c = 34
    · rw [if_pos (by omega), decide_eq_true (.inl c1)]
    · rw [if_neg (by omega)]
      congr 1
      rw [Bool.eq_iff_iff]
      simp
      omega
theorem lexQuote_f : Ev (fun k => lex_quote.f k s) (nI (quoL (B s))) := by
  have := lexQuote_all hs s.size 0 [34] (by omega) (by omega) (by simp)
  rw [List.drop_zero] at this
  exact this
end
theorem dec_dN : ∀ (f u : Nat) (acc : List Nat), decD f u (nI acc) = nI (dN f u acc)
  | 0, _, _ => rfl
  | f + 1, u, acc => by
    rw [decD, dN]
    have e : (48 + (u : Int) % 10) :: nI acc = nI ((48 + u % 10) :: acc) := by
      rw [nI, nI, List.map_cons]
      congr 1
    split
    · exact e
    · rw [e]; exact dec_dN f _ _
theorem lexText_f {v : Int} (h0 : 0 ≤ v) (h1 : v ≤ 4611686018427387903) : num_Text.f v = some (M (numN v.toNat)) := by
  unfold num_Text.f numL numN
  rw [if_pos ⟨by omega, by omega⟩, if_neg (by omega), show v.natAbs = v.toNat by omega]
  have := dec_dN 19 v.toNat []
  rw [show nI [] = ([] : List Int) from rfl] at this
  rw [this, nums_M]
theorem bytes_nI (s : ByteArray) : bytesOf s = nI (B s) := by
  unfold bytesOf nI B
  rw [List.map_map]
  rfl
theorem nI_app (a b : List Nat) : nI a ++ nI b = nI (a ++ b) := by simp [nI]
theorem nI_len (a : List Nat) : (nI a).length = a.length := by simp [nI]
/-- More than a token's text ever is long. -/
def bigW : Nat := 4000101
theorem bigW_eq : bigW = 4000101 := rfl
/-- Tokens as a text, behind what there is; none: one of them is not right. -/
def prS : List S32 → List Nat → Option (List Nat)
  | [], acc => some acc
  | t :: r, acc => if rightS t.f0 t.f1 t.f2 = true then prS r (if t.f0 = 0 then acc else (if acc = [] then acc else acc ++ [32]) ++ B (wrtS t.f0 t.f1 t.f2)) else none
def prR (q : Option (List Nat)) : ByteArray × Int := match q with
  | some b => (M b, 0)
  | none => (⟨#[]⟩, 1)
theorem right_num {a v : Int} {s : ByteArray} (h : rightS a s v = true) (h1 : a = 1) : 0 ≤ v ∧ v ≤ 4611686018427387903 := by
  unfold rightS at h
  rw [if_neg (by omega), if_pos h1] at h
  simp only [Bool.and_eq_true, decide_eq_true_eq] at h
  exact h.2
section
variable {l : List S32} (hl : l.length ≤ 100000) (hz : ∀ t ∈ l, t.f1.size ≤ 1000000)
include hl hz
theorem lexPrint_all : ∀ (m i : Nat) (acc : List Nat), l.length - i ≤ m → i ≤ l.length → acc.length ≤ i * bigW → Ev (fun k => lex_Print.l0 k (nI acc) l (l.length : Int) (i : Int)) (prR (prS (l.drop i) acc)) := by
  intro m
  induction m with
  | zero =>
    intro i acc hm hi ha
    obtain rfl : i = l.length := by omega
    refine Ev.step (f := fun _ => some (strOfNums (nI acc), 0)) (fun k => ?_) (by rw [List.drop_length, nums_M]; exact Ev.now _)
    simp only [lex_Print.l0]
    rw [if_neg (by omega)]
  | succ m ih =>
    intro i acc hm hi ha
    by_cases hi2 : i < l.length
    case neg => exact ih i acc (by omega) hi ha
    have hd : l.drop i = l[i] :: l.drop (i + 1) := List.drop_eq_getElem_cons hi2
    have hsz := hz l[i] (List.getElem_mem hi2)
    have hmul : i * bigW ≤ 100000 * bigW := Nat.mul_le_mul_right _ (by omega)
    have hsucc : (i + 1) * bigW = i * bigW + bigW := Nat.succ_mul i bigW
    have hcap : 100000 * bigW = 400010100000 := by rw [bigW_eq]
    have hW := bigW_eq
    have hw : wrap64 ((i : Int) + 1) = ((i + 1 : Nat) : Int) := w64_1 hi (by omega)
    rw [hd, prS]
    refine Ev.step (f := fun k => (lex_Right.f k (l[i]).f0 (l[i]).f1 (l[i]).f2 (l[i]).f3).bind fun t183 => (if t183 = true then (if (l[i]).f0 = 0 then (lex_Print.l0 k (nI acc) l (l.length : Int) ((i + 1 : Nat) : Int)) else (if ((nI acc).length : Int) > 0 then (if (nI acc).length < 140737488355328 then (lex_Print.j1 k (nI acc ++ [32]) l (l.length : Int) (i : Int) (l[i]).f0 (l[i]).f1 (l[i]).f2 (l[i]).f3) else (none)) else (lex_Print.j1 k (nI acc) l (l.length : Int) (i : Int) (l[i]).f0 (l[i]).f1 (l[i]).f2 (l[i]).f3))) else (some ((⟨#[]⟩ : ByteArray), 1)))) (fun k => ?_) (Ev.bind (lexRight_f hsz _ _ _) ?_)
    · simp only [lex_Print.l0]
      rw [if_pos (by omega), if_pos (by omega), if_pos (by omega), rd_get hi2, hw]
    cases hr : rightS (l[i]).f0 (l[i]).f1 (l[i]).f2
    · rw [if_neg (by simp)]
      exact Ev.congr (fun k => by rw [if_neg (by simp)]; rfl) (Ev.now _)
    rw [if_pos rfl]
    refine Ev.congr (fun k => by rw [if_pos rfl]) ?_
    by_cases h0 : (l[i]).f0 = 0
    · rw [if_pos h0]
      exact Ev.congr (fun k => by rw [if_pos h0]) (ih (i + 1) acc (by omega) (by omega) (by omega))
    rw [if_neg h0]
    have hwl := wrt_small hsz (l[i]).f0 (l[i]).f2
    have j1 : ∀ a2 : List Nat, a2.length ≤ i * bigW + 1 → Ev (fun k => lex_Print.j1 k (nI a2) l (l.length : Int) (i : Int) (l[i]).f0 (l[i]).f1 (l[i]).f2 (l[i]).f3) (prR (prS (l.drop (i + 1)) (a2 ++ B (wrtS (l[i]).f0 (l[i]).f1 (l[i]).f2)))) := by
      intro a2 h2
      have go := ih (i + 1) (a2 ++ B (wrtS (l[i]).f0 (l[i]).f1 (l[i]).f2)) (by omega) (by omega) (by rw [List.length_append, B_length]; omega)
      rw [← nI_app] at go
      have hlen : (nI (B (wrtS (l[i]).f0 (l[i]).f1 (l[i]).f2))).length ≤ 4000100 := by rw [nI_len, B_length]; exact hwl
      by_cases c1 : (l[i]).f0 = 1
      · obtain ⟨v0, v1⟩ := right_num hr c1
        have hwr : wrtS (l[i]).f0 (l[i]).f1 (l[i]).f2 = M (numN (l[i]).f2.toNat) := by unfold wrtS; rw [if_neg h0, if_pos c1]
        refine Ev.step (fun k => ?_) go
        simp only [lex_Print.j1]
        rw [if_pos c1, lexText_f v0 v1]
        simp only [Option.bind_some]
        rw [← hwr, if_pos (by rw [nI_len]; omega), bytes_nI, hw]
      by_cases c2 : (l[i]).f0 = 2
      · have hwr : B (wrtS (l[i]).f0 (l[i]).f1 (l[i]).f2) = quoL (B (l[i]).f1) := by unfold wrtS; rw [if_neg h0, if_neg c1, if_pos c2, B_M (quoL_byt (byt_B _))]
        rw [hwr] at go hlen ⊢
        refine Ev.step (f := fun k => (lex_quote.f k (l[i]).f1).bind fun t191 => (if (nI a2).length + t191.length < 140737488355328 then (lex_Print.l0 k (nI a2 ++ t191) l (l.length : Int) ((i + 1 : Nat) : Int)) else (none))) (fun k => ?_) (Ev.bind (lexQuote_f hsz) (Ev.congr (fun k => ?_) go))
        · simp only [lex_Print.j1]
          rw [if_neg c1, if_pos c2, hw]
        · rw [if_pos (by rw [nI_len a2]; omega)]
      · have hwr : wrtS (l[i]).f0 (l[i]).f1 (l[i]).f2 = (l[i]).f1 := by unfold wrtS; rw [if_neg h0, if_neg c1, if_neg c2]
        rw [hwr] at go ⊢
        refine Ev.step (fun k => ?_) go
        simp only [lex_Print.j1]
        rw [if_neg c1, if_neg c2, if_pos (by rw [nI_len]; omega), bytes_nI, hw]
    by_cases hacc : acc = []
    · rw [if_pos hacc]
      exact Ev.congr (fun k => by rw [if_neg h0, if_neg (by rw [nI_len, hacc]; simp)]) (j1 acc (by omega))
    · have hpos : 0 < acc.length := List.length_pos_iff.2 hacc
      rw [if_neg hacc]
      refine Ev.congr (fun k => ?_) (j1 (acc ++ [32]) (by simp; omega))
      rw [if_neg h0, if_pos (by rw [nI_len]; omega), if_pos (by rw [nI_len]; omega), ← nI_app]
      rfl
theorem lexPrint_f : Ev (fun k => lex_Print.f k l) (prR (prS l [])) := lexPrint_all hl hz l.length 0 [] (by omega) (by omega) (by simp)
end
/-- How much a list weighs. -/
def wsum (l : List S32) : Nat := (l.map fun t => 1 + t.f1.size).sum
theorem wsum_len : ∀ l : List S32, l.length ≤ wsum l
  | [] => by simp [wsum]
  | t :: r => by have := wsum_len r; simp [wsum] at this ⊢; omega
theorem wsum_mem : ∀ {l : List S32} {t : S32}, t ∈ l → t.f1.size ≤ wsum l
  | x :: r, t, h => by
    rcases List.mem_cons.1 h with rfl | h
    · simp [wsum]; omega
    · have := wsum_mem h; simp [wsum] at this ⊢; omega
theorem wsum_next (l : List S32) {i : Nat} (h : i < l.length) : wsum (l.take (i + 1)) = wsum (l.take i) + 1 + (l[i]).f1.size := by
  rw [← List.take_append_getElem h, wsum, List.map_append, List.sum_append]
  simp [wsum]
  omega
end Go.Proofs.YtnihjlnnllngeaaDoor.Lx
