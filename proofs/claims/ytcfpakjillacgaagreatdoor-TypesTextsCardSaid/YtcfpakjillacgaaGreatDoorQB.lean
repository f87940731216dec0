/- Laws of the evaluator's tries and of its forced values. -/
import Derived.Test.YtcfpakjillacgaaGreatDoorQA
namespace Go.Ev
noncomputable section

@[simp] theorem get_leaf {α : Type} (bs : List Bool) : T.get bs (.leaf : T α) = none := by cases bs <;> rfl
@[simp] theorem get_nil {α : Type} (x : Option α) (l r : T α) : T.get [] (.node x l r) = x := rfl
@[simp] theorem get_false {α : Type} (bs : List Bool) (x : Option α) (l r : T α) : T.get (false :: bs) (.node x l r) = l.get bs := rfl
@[simp] theorem get_true {α : Type} (bs : List Bool) (x : Option α) (l r : T α) : T.get (true :: bs) (.node x l r) = r.get bs := rfl

theorem setK_eq {α β : Type} : ∀ (bs : List Bool) (t : T α) (v : Option α) (k : T α → β), setK bs t v k = k (setK bs t v id)
  | [], t, v, k => by cases t <;> rfl
  | false :: bs, t, v, k => by
    cases t with
    | leaf => exact (setK_eq bs .leaf v (fun l' => k (.node none l' .leaf))).trans (congrArg k (setK_eq bs .leaf v (fun l' => T.node none l' .leaf)).symm)
    | node x l r => exact (setK_eq bs l v (fun l' => k (.node x l' r))).trans (congrArg k (setK_eq bs l v (fun l' => T.node x l' r)).symm)
  | true :: bs, t, v, k => by
    cases t with
    | leaf => exact (setK_eq bs .leaf v (fun l' => k (.node none .leaf l'))).trans (congrArg k (setK_eq bs .leaf v (fun l' => T.node none .leaf l')).symm)
    | node x l r => exact (setK_eq bs r v (fun l' => k (.node x l l'))).trans (congrArg k (setK_eq bs r v (fun l' => T.node x l l')).symm)

/-- The trie with 'v' at 'bs'. -/
def set {α : Type} (t : T α) (bs : List Bool) (v : Option α) : T α := setK bs t v id

theorem setK_set {α β : Type} (bs : List Bool) (t : T α) (v : Option α) (k : T α → β) : setK bs t v k = k (set t bs v) := setK_eq bs t v k

theorem set_false_leaf {α : Type} (bs : List Bool) (v : Option α) : set (.leaf : T α) (false :: bs) v = .node none (set .leaf bs v) .leaf := setK_eq bs .leaf v _
theorem set_true_leaf {α : Type} (bs : List Bool) (v : Option α) : set (.leaf : T α) (true :: bs) v = .node none .leaf (set .leaf bs v) := setK_eq bs .leaf v _
theorem set_false_node {α : Type} (bs : List Bool) (v x : Option α) (l r : T α) : set (.node x l r) (false :: bs) v = .node x (set l bs v) r := setK_eq bs l v _
theorem set_true_node {α : Type} (bs : List Bool) (v x : Option α) (l r : T α) : set (.node x l r) (true :: bs) v = .node x l (set r bs v) := setK_eq bs r v _

theorem get_set {α : Type} (v : Option α) : ∀ (bs cs : List Bool) (t : T α), (set t bs v).get cs = if cs = bs then v else t.get cs
  | [], [], t => by cases t <;> rfl
  | [], c :: cs, t => by cases t <;> cases c <;> rw [if_neg (by simp)] <;> first | rfl | (rw [get_leaf]; exact get_leaf _)
  | false :: bs, [], t => by cases t <;> simp [set_false_leaf, set_false_node]
  | true :: bs, [], t => by cases t <;> simp [set_true_leaf, set_true_node]
  | false :: bs, c :: cs, t => by cases t <;> cases c <;> simp [set_false_leaf, set_false_node, get_set v bs cs]
  | true :: bs, c :: cs, t => by cases t <;> cases c <;> simp [set_true_leaf, set_true_node, get_set v bs cs]

def unb : List Bool → Nat
  | [] => 0
  | false :: l => 2 * unb l + 1
  | true :: l => 2 * unb l + 2

theorem unb_bitsF : ∀ f k, k ≤ f → unb (bitsF f k) = k := by
  intro f
  induction f with
  | zero => intro k h; cases Nat.le_zero.1 h; rfl
  | succ f ih =>
    intro k h
    cases k with
    | zero => rfl
    | succ m =>
      have hd : m / 2 ≤ f := by omega
      have e : bitsF (f + 1) (m + 1) = Nat.casesOn (motive := fun _ => List Bool) (m % 2) (false :: bitsF f (m / 2)) fun _ => true :: bitsF f (m / 2) := rfl
      rw [e]
      rcases Nat.mod_two_eq_zero_or_one m with h2 | h2
      · rw [h2]; show 2 * unb (bitsF f (m / 2)) + 1 = m + 1; rw [ih _ hd]; omega
      · rw [h2]; show 2 * unb (bitsF f (m / 2)) + 2 = m + 1; rw [ih _ hd]; omega

theorem bits_inj {a b : Nat} (h : bits a = bits b) : a = b := by
  have h1 := unb_bitsF a a (Nat.le_refl a)
  have h2 := unb_bitsF b b (Nat.le_refl b)
  unfold bits at h
  rw [h] at h1
  omega

theorem unb_lt : ∀ l : List Bool, 2 ^ l.length ≤ unb l + 1
  | [] => Nat.le_refl _
  | false :: l => by have := unb_lt l; simp only [unb, List.length_cons, Nat.pow_succ]; omega
  | true :: l => by have := unb_lt l; simp only [unb, List.length_cons, Nat.pow_succ]; omega

theorem bits_length {k d : Nat} (h : k + 1 < 2 ^ d) : (bits k).length < d := by
  have h1 := unb_lt (bitsF k k)
  rw [unb_bitsF k k (Nat.le_refl k)] at h1
  show (bitsF k k).length < d
  rcases Nat.lt_or_ge (bitsF k k).length d with h2 | h2
  · exact h2
  · have := Nat.pow_le_pow_right (n := 2) (by omega) h2
    omega

theorem get_full {α : Type} (v : α) : ∀ (d : Nat) (bs : List Bool), bs.length < d → (full d v).get bs = some v
  | 0, bs, h => by omega
  | d + 1, [], _ => rfl
  | d + 1, false :: bs, h => get_full v d bs (by simpa using h)
  | d + 1, true :: bs, h => get_full v d bs (by simpa using h)

theorem get_at {α : Type} (t : T α) (i j : Nat) (v : Option α) : (set t (bits i) v).get (bits j) = if j = i then v else t.get (bits j) := by
  rw [get_set]
  by_cases h : j = i
  · simp [h]
  · rw [if_neg h, if_neg (fun e => h (bits_inj e))]

/-! many cells -/
theorem fromLK_eq {α β : Type} : ∀ (l : List α) (i : Nat) (t : T α) (k : T α → β), fromLK l i t k = k (fromLK l i t id)
  | [], _, _, _ => rfl
  | v :: l, i, t, k => by
    have e : ∀ {γ : Type} (k : T α → γ), fromLK (v :: l) i t k = setK (bits i) t (some v) fun t' => fromLK l (i + 1) t' k := fun _ => rfl
    rw [e, e, setK_set, setK_set]
    exact fromLK_eq l (i + 1) _ k
def fromL {α : Type} (l : List α) (i : Nat) (t : T α) : T α := fromLK l i t id
theorem fromLK_fromL {α β : Type} (l : List α) (i : Nat) (t : T α) (k : T α → β) : fromLK l i t k = k (fromL l i t) := fromLK_eq l i t k
theorem fromL_nil {α : Type} (i : Nat) (t : T α) : fromL [] i t = t := rfl
theorem fromL_cons {α : Type} (v : α) (l : List α) (i : Nat) (t : T α) : fromL (v :: l) i t = fromL l (i + 1) (set t (bits i) (some v)) := by
  show setK (bits i) t (some v) (fun t' => fromLK l (i + 1) t' id) = _
  rw [setK_set]; rfl
theorem get_fromL {α : Type} : ∀ (l : List α) (i : Nat) (t : T α) (j : Nat), (fromL l i t).get (bits j) = if i ≤ j ∧ j < i + l.length then l[j - i]? else t.get (bits j)
  | [], i, t, j => by rw [fromL_nil, if_neg (by simp)]
  | v :: l, i, t, j => by
    rw [fromL_cons, get_fromL l (i + 1), get_at]
    by_cases h : j = i
    · subst h
      rw [if_neg (by omega), if_pos rfl, if_pos (by simp)]
      simp
    · rw [if_neg h]
      by_cases h2 : i + 1 ≤ j ∧ j < i + 1 + l.length
      · rw [if_pos h2, if_pos (by simp; omega)]
        obtain ⟨d, rfl⟩ : ∃ d, j = i + 1 + d := ⟨j - (i + 1), by omega⟩
        have e1 : i + 1 + d - (i + 1) = d := by omega
        have e2 : i + 1 + d - i = d + 1 := by omega
        rw [e1, e2, List.getElem?_cons_succ]
      · rw [if_neg h2, if_neg (by simp; omega)]

theorem toL_zero {α : Type} (t : T α) (i : Nat) : toL t 0 i = some [] := rfl
theorem toL_succ {α : Type} (t : T α) (n i : Nat) : toL t (n + 1) i =
    Option.casesOn (motive := fun _ => Option (List α)) (t.get (bits i)) none fun v => Option.casesOn (motive := fun _ => Option (List α)) (toL t n (i + 1)) none fun l => some (v :: l) := rfl
theorem toL_some {α : Type} (t : T α) : ∀ (n i : Nat) (l : List α), toL t n i = some l → l.length = n ∧ ∀ j, j < n → t.get (bits (i + j)) = l[j]?
  | 0, i, l, h => by
    rw [toL_zero] at h
    cases h
    exact ⟨rfl, fun j hj => by omega⟩
  | n + 1, i, l, h => by
    rw [toL_succ] at h
    cases hv : t.get (bits i) with
    | none => rw [hv] at h; cases h
    | some v =>
      rw [hv] at h
      cases hl : toL t n (i + 1) with
      | none => rw [hl] at h; cases h
      | some l' =>
        rw [hl] at h
        cases h
        obtain ⟨h1, h2⟩ := toL_some t n (i + 1) l' hl
        refine ⟨by simp [h1], fun j hj => ?_⟩
        cases j with
        | zero => simpa using hv
        | succ j =>
          have := h2 j (by omega)
          rw [show i + 1 + j = i + (j + 1) from by omega] at this
          simpa using this

/-! forced values -/
theorem natF_eq {β : Type} (n : Nat) (k : Nat → β) : natF n k = k n := by cases n <;> rfl
theorem intF_eq {β : Type} (n : Int) (k : Int → β) : intF n k = k n := by cases n <;> simp [intF, natF_eq]
theorem kindF_eq {β : Type} (i : IntKind) (k : IntKind → β) : kindF i k = k i := by cases i <;> rfl
theorem boolF_eq {β : Type} (b : Bool) (k : Bool → β) : boolF b k = k b := by cases b <;> rfl
theorem addrF_eq {β : Type} (a : Addr) (k : Addr → β) : addrF a k = k a := by
  obtain ⟨b, o, s⟩ := a
  cases s <;> simp [addrF, natF_eq]
theorem valF1_eq {β : Type} (v : Value) (k : Value → β) : valF1 v k = k v := by
  cases v with
  | pointer a => cases a <;> simp [valF1, addrF_eq]
  | slice a l c => cases a <;> simp [valF1, addrF_eq, natF_eq]
  | _ => simp [valF1, boolF_eq, kindF_eq, intF_eq]
theorem listF_eq {β : Type} : ∀ (l : List Value) (k : List Value → β), listF l k = k l
  | [], _ => rfl
  | v :: l, k => by simp only [listF, valF1_eq, listF_eq l]
theorem valF_eq {β : Type} (v : Value) (k : Value → β) : valF v k = k v := by
  cases v with
  | agg c => obtain ⟨l⟩ := c; simp [valF, listF_eq]
  | tuple c => obtain ⟨l⟩ := c; simp [valF, listF_eq]
  | _ => simp only [valF, valF1_eq]

@[simp] theorem optK_some {α β : Type} (a : α) (k : α → β) (bad : β) : optK (some a) k bad = k a := rfl
@[simp] theorem optK_none {α β : Type} (k : α → β) (bad : β) : optK none k bad = bad := rfl
@[simp] theorem bK_true {β : Type} (x y : β) : bK true x y = x := rfl
@[simp] theorem bK_false {β : Type} (x y : β) : bK false x y = y := rfl

/-- What comes of a choice that is not the bad one. -/
theorem optK_inv {α β : Type} {x : Option α} {k : α → Option β} {y : β} (h : optK x k none = some y) : ∃ a, x = some a ∧ k a = some y := by
  cases x with
  | none => cases h
  | some a => exact ⟨a, rfl, h⟩
theorem ptrK_inv {β : Type} {v : Option Value} {k : Nat → Nat → Option β} {y : β} (h : ptrK v k none = some y) :
    ∃ b off, v = some (.pointer (some ⟨b, off, none⟩)) ∧ k b off = some y := by
  unfold ptrK at h
  split at h
  · exact ⟨_, _, rfl, h⟩
  · cases h
theorem cellsK_inv {β : Type} {x : Option OB} {k : Nat → T Value → TypeId → Option β} {y : β} (h : cellsK x k none = some y) :
    ∃ n t e, x = some (.cells n t e) ∧ k n t e = some y := by
  unfold cellsK at h
  split at h
  · exact ⟨_, _, _, rfl, h⟩
  · cases h
theorem rowK_inv {β : Type} {x : Option OB} {k : Nat → T Value → Option β} {y : β} (h : rowK x k none = some y) :
    ∃ n t, ((∃ e, x = some (.cells n t e)) ∨ x = some (.ro n t)) ∧ k n t = some y := by
  unfold rowK at h
  split at h
  · exact ⟨_, _, .inl ⟨_, rfl⟩, h⟩
  · exact ⟨_, _, .inr rfl, h⟩
  · cases h
theorem sliceTK_inv {β : Type} {P : Program} {t : TypeId} {k : TypeId → Nat → Option β} {y : β} (h : sliceTK P t k none = some y) :
    ∃ e s, P.underlying t = some (.slice e) ∧ szOf P e = some s ∧ k e s = some y := by
  unfold sliceTK at h
  split at h
  · rename_i e he
    obtain ⟨s, h1, h2⟩ := optK_inv h
    exact ⟨e, s, he, h1, h2⟩
  · cases h
theorem nonneg_iff {i : Int} : nonneg i = true ↔ 0 ≤ i := by
  cases i with
  | ofNat n => exact ⟨fun _ => Int.natCast_nonneg n, fun _ => rfl⟩
  | negSucc n => exact ⟨fun h => (by cases h), fun h => absurd h (by omega)⟩
@[simp] theorem nonneg_ofNat (n : Nat) : nonneg (n : Int) = true := rfl
theorem intNK_ofNat {β : Type} (n : Nat) (k : Nat → β) (bad : β) : intNK (n : Int) k bad = k n := natF_eq n k
theorem intNK_inv {β : Type} {i : Int} {k : Nat → Option β} {y : β} (h : intNK i k none = some y) : ∃ n : Nat, i = .ofNat n ∧ k n = some y := by
  cases i with
  | ofNat n => exact ⟨n, rfl, (natF_eq n k).symm.trans h⟩
  | negSucc n => cases h
@[simp] theorem rowVK_rowV {β : Type} (s : Nat) (es : List Value) (k : Nat → List Value → β) (bad : β) : rowVK (rowV s es) k bad = k s es := rfl
@[simp] theorem epK_eptrV {β : Type} (v : Value) (k : Value → β) (bad : β) : epK (eptrV v) k bad = k v := rfl
theorem rowVK_inv {β : Type} {v : Value} {k : Nat → List Value → Option β} {y : β} (h : rowVK v k none = some y) : ∃ s es, v = rowV s es ∧ k s es = some y := by
  unfold rowVK at h
  split at h
  · exact ⟨_, _, rfl, h⟩
  · cases h
theorem epK_inv {β : Type} {v : Value} {k : Value → Option β} {y : β} (h : epK v k none = some y) : ∃ f u, v = .func (.yield f) ⟨[u]⟩ ⟨[.nilIface]⟩ ∧ k u = some y := by
  unfold epK at h
  split at h
  · exact ⟨_, _, rfl, h⟩
  · cases h
theorem isRowV_inv {v : Value} (h : isRowV v = true) : ∃ s es, v = rowV s es := by
  unfold isRowV rowVK at h
  split at h
  · exact ⟨_, _, rfl⟩
  · cases h
theorem bif_inv {β : Type} {b : Bool} {x : Option β} {y : β} (h : (bif b then x else none) = some y) : b = true ∧ x = some y := by
  cases b
  · cases h
  · exact ⟨rfl, h⟩
end
end Go.Ev
