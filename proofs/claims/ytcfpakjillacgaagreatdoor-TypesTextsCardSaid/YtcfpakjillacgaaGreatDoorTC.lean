/- Types as values; their text; how many parts they have. -/
import Derived.Test.YtcfpakjillacgaaGreatDoorTB
namespace Go.Proofs.YtcfpakjillacgaaGreatDoor
open Go.Ev Go.RowKit
noncomputable section
set_option maxRecDepth 100000
set_option linter.unusedVariables false
set_option linter.unusedSimpArgs false
inductive Ty where
  | mk (k n : Int) (name : List UInt8) (l : List Ty)
def Ty.k : Ty → Int | .mk k _ _ _ => k
def Ty.n : Ty → Int | .mk _ n _ _ => n
def Ty.name : Ty → List UInt8 | .mk _ _ s _ => s
def Ty.l : Ty → List Ty | .mk _ _ _ l => l
mutual
def Ty.v : Ty → Value
  | .mk k n s l => .agg ⟨[i64 k, i64 n, txt s, rowV 4 (tysL l)]⟩
def tysL : List Ty → List Value
  | [] => []
  | t :: l => t.v :: tysL l
end
theorem tysL_eq (l : List Ty) : tysL l = l.map Ty.v := by
  induction l with
  | nil => rw [tysL]; rfl
  | cons s l ih => rw [tysL, ih]; rfl
theorem Ty.v_eq (t : Ty) : t.v = .agg ⟨[i64 t.k, i64 t.n, txt t.name, rowV 4 (t.l.map Ty.v)]⟩ := by
  cases t; rw [Ty.v, tysL_eq]; rfl
theorem Ty.ind {p : Ty → Prop} (h : ∀ t : Ty, (∀ c, c ∈ t.l → p c) → p t) (t : Ty) : p t :=
  Ty.rec (motive_1 := p) (motive_2 := fun l => ∀ c, c ∈ l → p c) (fun k n s l h1 => h _ h1) (fun c hc => nomatch hc) (fun a l h1 h2 c hc => (List.mem_cons.1 hc).elim (fun e => e ▸ h1) (h2 c)) t
/-! texts -/
def isArr (t : Ty) : Prop := t.k = 2 ∧ t.n = 5 ∧ t.l.length = 2
def isTup (t : Ty) : Prop := t.k = 2 ∧ t.n = 6 ∧ 2 ≤ t.l.length
instance (t : Ty) : Decidable (isArr t) := by unfold isArr; infer_instance
instance (t : Ty) : Decidable (isTup t) := by unfold isTup; infer_instance
/-- A text in brackets, where they are needed. -/
def wr (how : Bool) (t : Ty) (s : List UInt8) : List UInt8 := if isArr t ∨ (isTup t ∧ how = true) then 40 :: (s ++ [41]) else s
def letter (n : Int) : UInt8 := (97 + (n % 26).toNat).toUInt8
def var (n : Int) : List UInt8 := 39 :: letter n :: (if 26 ≤ n then dig (n.tdiv 26) else [])
def body (n : Int) (name : List UInt8) : List (Ty × List UInt8) → List UInt8
  | [] => name
  | [a] => wr true a.1 a.2 ++ (32 :: name)
  | a :: b :: r => if n = 5 ∧ r.isEmpty = true then wr false a.1 a.2 ++ ([32, 45, 62, 32] ++ b.2)
    else if n = 6 then wr true a.1 a.2 ++ (b :: r).flatMap fun x => [32, 42, 32] ++ wr true x.1 x.2
    else 40 :: (a.2 ++ ((b :: r).flatMap (fun x => [44, 32] ++ x.2) ++ ([41, 32] ++ name)))
mutual
def tx : Ty → List UInt8
  | .mk k n name l => if k = 1 then var n else if k = 2 then body n name (tps l) else [63]
def tps : List Ty → List (Ty × List UInt8)
  | [] => []
  | t :: l => (t, tx t) :: tps l
end
theorem tps_eq (l : List Ty) : tps l = l.map fun t => (t, tx t) := by
  induction l with
  | nil => rw [tps]; rfl
  | cons s l ih => rw [tps, ih]; rfl
theorem tx_eq (t : Ty) : tx t = if t.k = 1 then var t.n else if t.k = 2 then body t.n t.name (t.l.map fun c => (c, tx c)) else [63] := by
  cases t; rw [tx, tps_eq]; rfl
/-- The text of a part. -/
def bx (how : Bool) (t : Ty) : List UInt8 := wr how t (tx t)
/-! parts -/
mutual
def lt : Ty → Int → Int
  | .mk _ _ _ l, most => ltL l most 1
def ltL : List Ty → Int → Int → Int
  | [], most, n => n
  | t :: l, most, n => if n ≤ most then ltL l most (w (w (n + w ((t.name.length : Int).tdiv 8)) + lt t (w (most - n)))) else n
end
theorem lt_eq (t : Ty) (most : Int) : lt t most = ltL t.l most 1 := by cases t; rw [lt]; rfl
/-- What is not too large. -/
abbrev rg (n : Int) : Prop := -9223372036854775808 ≤ n ∧ n < 9223372036854775808
mutual
def tOk : Ty → Prop
  | .mk _ n name l => rg n ∧ name.length < 140737488355328 ∧ l.length < 1125899906842624 ∧ lOk l
def lOk : List Ty → Prop
  | [] => True
  | t :: l => tOk t ∧ lOk l
end
theorem lOk_iff (l : List Ty) : lOk l ↔ ∀ c, c ∈ l → tOk c := by
  induction l with
  | nil => simp [lOk]
  | cons s l ih => simp [lOk, ih]
theorem tOk_iff (t : Ty) : tOk t ↔ rg t.n ∧ t.name.length < 140737488355328 ∧ t.l.length < 1125899906842624 ∧ ∀ c, c ∈ t.l → tOk c := by
  cases t; rw [tOk, lOk_iff]; rfl
theorem w_name {t : Ty} (h : t.name.length < 140737488355328) : w ((t.name.length : Int).tdiv 8) = ((t.name.length / 8 : Nat) : Int) := by
  have e1 : ((t.name.length : Int).tdiv 8) = ((t.name.length / 8 : Nat) : Int) := by rw [Int.tdiv_eq_ediv_of_nonneg (by omega)]; omega
  rw [e1]; exact wrap_id (by omega)
def okB (t : Ty) : Prop := tOk t → ∀ most : Int, 0 ≤ most → most ≤ 500 → 1 ≤ lt t most ∧ lt t most ≤ 1 + most * 35184372088832
theorem ltL_b (l : List Ty) (hp : ∀ c, c ∈ l → okB c) (hs : ∀ c, c ∈ l → tOk c) (most : Int) (h0 : 0 ≤ most) (h5 : most ≤ 500) : ∀ n : Int, 1 ≤ n → n ≤ 1 + most * 35184372088832 → n ≤ ltL l most n ∧ ltL l most n ≤ 1 + most * 35184372088832 := by
  induction l with
  | nil => intro n _ _; rw [ltL]; omega
  | cons c l ih =>
    intro n hn hn2
    rw [ltL]
    split
    · rename_i hle
      have hc0 := hs c List.mem_cons_self
      have hc1 := (tOk_iff c).1 hc0
      have e1 : w (most - n) = most - n := wrap_id (by omega)
      have hc := hp c List.mem_cons_self hc0 (most - n) (by omega) (by omega)
      have e2 := w_name hc1.2.1
      have e3 : w (n + w ((c.name.length : Int).tdiv 8)) = n + ((c.name.length / 8 : Nat) : Int) := by rw [e2]; exact wrap_id (by omega)
      have e4 : w (w (n + w ((c.name.length : Int).tdiv 8)) + lt c (w (most - n))) = n + ((c.name.length / 8 : Nat) : Int) + lt c (most - n) := by rw [e3, e1]; exact wrap_id (by omega)
      rw [e4]
      have := ih (fun x hx => hp x (List.mem_cons_of_mem _ hx)) (fun x hx => hs x (List.mem_cons_of_mem _ hx)) (n + ((c.name.length / 8 : Nat) : Int) + lt c (most - n)) (by omega) (by omega)
      omega
    · omega
theorem okB_all (t : Ty) : okB t := by
  refine Ty.ind (p := okB) (fun t hp => ?_) t
  intro hs most h0 h5
  rw [tOk_iff] at hs
  rw [lt_eq]
  exact ltL_b t.l hp hs.2.2.2 most h0 h5 1 (by omega) (by omega)
theorem wr_length (how : Bool) (t : Ty) (s : List UInt8) : (wr how t s).length ≤ s.length + 2 := by
  unfold wr; split <;> simp
/-- So long are the texts of parts. -/
def sumL : List Ty → Nat
  | [] => 0
  | c :: l => (tx c).length + 6 + sumL l
theorem flat_sum (l : List Ty) : (l.flatMap fun x => [32, 42, 32] ++ bx true x).length ≤ sumL l ∧ (l.flatMap fun x => [44, 32] ++ tx x).length ≤ sumL l := by
  induction l with
  | nil => simp [sumL]
  | cons c l ih =>
    have := wr_length true c (tx c)
    unfold bx at ih ⊢
    rw [sumL]
    simp only [List.flatMap_cons, List.length_append, List.length_cons, List.length_nil] at ih ⊢
    omega
def okT (t : Ty) : Prop := tOk t → ∀ most : Int, 0 ≤ most → most ≤ 500 → lt t most ≤ most → ((tx t).length : Int) + 20 ≤ 64 * lt t most + t.name.length
theorem ltL_t (l : List Ty) (hp : ∀ c, c ∈ l → okT c) (hs : ∀ c, c ∈ l → tOk c) (most : Int) (h0 : 0 ≤ most) (h5 : most ≤ 500) : ∀ n : Int, 1 ≤ n → n ≤ 1 + most * 35184372088832 → ltL l most n ≤ most → (sumL l : Int) + 64 * n ≤ 64 * ltL l most n := by
  induction l with
  | nil => intro n _ _ _; rw [ltL, sumL]; omega
  | cons c l ih =>
    intro n hn hn2 hle0
    rw [ltL] at hle0 ⊢
    rw [sumL]
    split at hle0
    · rename_i hle
      rw [if_pos hle]
      have hc0 := hs c List.mem_cons_self
      have hc1 := (tOk_iff c).1 hc0
      have e1 : w (most - n) = most - n := wrap_id (by omega)
      have hb := okB_all c hc0 (most - n) (by omega) (by omega)
      have e2 := w_name hc1.2.1
      have e3 : w (n + w ((c.name.length : Int).tdiv 8)) = n + ((c.name.length / 8 : Nat) : Int) := by rw [e2]; exact wrap_id (by omega)
      have e4 : w (w (n + w ((c.name.length : Int).tdiv 8)) + lt c (w (most - n))) = n + ((c.name.length / 8 : Nat) : Int) + lt c (most - n) := by rw [e3, e1]; exact wrap_id (by omega)
      rw [e4] at hle0 ⊢
      have hm := ltL_b l (fun x _ => okB_all x) (fun x hx => hs x (List.mem_cons_of_mem _ hx)) most h0 h5 (n + ((c.name.length / 8 : Nat) : Int) + lt c (most - n)) (by omega) (by omega)
      have hc := hp c List.mem_cons_self hc0 (most - n) (by omega) (by omega) (by omega)
      have := ih (fun x hx => hp x (List.mem_cons_of_mem _ hx)) (fun x hx => hs x (List.mem_cons_of_mem _ hx)) (n + ((c.name.length / 8 : Nat) : Int) + lt c (most - n)) (by omega) (by omega) hle0
      omega
    · omega
theorem rg_div {n : Int} (h : rg n) : rg (n.tdiv 26) := by
  have : (n.tdiv 26).natAbs = n.natAbs / 26 := by rw [Int.natAbs_tdiv]; rfl
  unfold rg at h ⊢
  omega
theorem var_length (n : Int) (h : rg n) : (var n).length ≤ 22 := by
  have := dig_length (n.tdiv 26) (rg_div h)
  unfold var
  simp only [List.length_cons]
  split <;> simp <;> omega
theorem body_length (n : Int) (name : List UInt8) (l : List Ty) : (body n name (l.map fun c => (c, tx c))).length ≤ sumL l + name.length + 6 := by
  match l with
  | [] => simp [body, sumL]
  | [a] =>
    have := wr_length true a (tx a)
    simp only [List.map_cons, List.map_nil, body, List.length_append, List.length_cons, sumL]; omega
  | a :: b :: r =>
    have h1 := wr_length false a (tx a)
    have h2 := wr_length true a (tx a)
    have h3 := flat_sum (b :: r)
    have e1 : ((b :: r).map fun c => (c, tx c)).flatMap (fun x => [32, 42, 32] ++ wr true x.1 x.2) = (b :: r).flatMap fun x => [32, 42, 32] ++ bx true x := by rw [List.flatMap_map]; rfl
    have e2 : ((b :: r).map fun c => (c, tx c)).flatMap (fun x => [44, 32] ++ x.2) = (b :: r).flatMap fun x => [44, 32] ++ tx x := by rw [List.flatMap_map]
    have e3 : sumL (a :: b :: r) = (tx a).length + 6 + sumL (b :: r) := by rw [sumL]
    have e4 : sumL (b :: r) = (tx b).length + 6 + sumL r := by rw [sumL]
    simp only [List.map_cons] at e1 e2
    simp only [List.map_cons, body]
    split
    · simp only [List.length_append, List.length_cons, List.length_nil]; omega
    · split
      · rw [e1, List.length_append]; omega
      · rw [e2]; simp only [List.length_append, List.length_cons, List.length_nil]; omega
theorem okT_all (t : Ty) : okT t := by
  refine Ty.ind (p := okT) (fun t hp => ?_) t
  intro hs most h0 h5 hle
  rw [tOk_iff] at hs
  have hv := var_length t.n hs.1
  have hb := body_length t.n t.name t.l
  rw [lt_eq] at hle ⊢
  have hm := ltL_b t.l (fun x _ => okB_all x) hs.2.2.2 most h0 h5 1 (by omega) (by omega)
  have ht := ltL_t t.l hp hs.2.2.2 most h0 h5 1 (by omega) (by omega) hle
  rw [tx_eq]
  split
  · omega
  · split
    · omega
    · simp only [List.length_cons, List.length_nil]; omega
end
end Go.Proofs.YtcfpakjillacgaaGreatDoor
