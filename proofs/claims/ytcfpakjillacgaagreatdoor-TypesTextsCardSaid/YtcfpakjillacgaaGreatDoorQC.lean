/- How the evaluator's values and its memory stand to the model's: values up to the numbers of blocks and the capacities that an append drew. -/
import Derived.Test.YtcfpakjillacgaaGreatDoorQB
import Derived.WalkKit
namespace Go.Ev
noncomputable section
open Go.RowKit (Below)

/-- The model's block of one of ours: its number, how many cells it has, the size of its elements; what it holds, if it is written no more. -/
structure Ent where
  r : Nat
  sz : Nat
  es : Nat
  fz : Option (Array Value)
abbrev Phi := List (Option Ent)
def Phi.le (φ ψ : Phi) : Prop := ∀ (k : Nat) (e : Ent), φ[k]? = some (some e) → ψ[k]? = some (some e)
theorem Phi.le_refl (φ : Phi) : φ.le φ := fun _ _ h => h
theorem Phi.le_trans {a b c : Phi} (h : a.le b) (h' : b.le c) : a.le c := fun k e q => h' k e (h k e q)

inductive VR (φ : Phi) : Value → Value → Prop
  | flat (v : Value) (h : flat v = true) : VR φ v v
  | ptr {k o : Nat} {e : Ent} (h : φ[k]? = some (some e)) : VR φ (.pointer (some ⟨k, o, none⟩)) (.pointer (some ⟨e.r, o, none⟩))
  | slice {k o l c c' : Nat} {e : Ent} (h : φ[k]? = some (some e)) (hc : (c ≠ unk ∧ c' = c) ∨ (c = unk ∧ l ≤ c' ∧ o + c' * e.es ≤ e.sz)) :
      VR φ (.slice (some ⟨k, o, none⟩) l c) (.slice (some ⟨e.r, o, none⟩) l c')
  | map {k : Nat} {e : Ent} (h : φ[k]? = some (some e)) : VR φ (.map (some k)) (.map (some e.r))
  | iface {t : TypeId} {v v' : Value} (h : VR φ v v') : VR φ (.iface t v) (.iface t v')
  | agg {c c' : List Value} (hl : c.length = c'.length) (h : ∀ (i : Nat) (v v' : Value), c[i]? = some v → c'[i]? = some v' → VR φ v v') : VR φ (.agg ⟨c⟩) (.agg ⟨c'⟩)
  | tuple {c c' : List Value} (hl : c.length = c'.length) (h : ∀ (i : Nat) (v v' : Value), c[i]? = some v → c'[i]? = some v' → VR φ v v') : VR φ (.tuple ⟨c⟩) (.tuple ⟨c'⟩)
  | func {fn : FuncId} {c c' : List Value} (hl : c.length = c'.length) (h : ∀ (i : Nat) (v v' : Value), c[i]? = some v → c'[i]? = some v' → VR φ v v') : VR φ (.func (.func fn) #[] ⟨c⟩) (.func (.func fn) #[] ⟨c'⟩)
  | row0 (s : Nat) : VR φ (rowV s []) (.slice none 0 0)
  | rowE (s : Nat) (a : Addr) (c' : Nat) : VR φ (rowV s []) (.slice (some a) 0 c')
  | row {k s o c' : Nat} {e : Ent} {c : Array Value} {es : List Value} (h : φ[k]? = some (some e)) (hf : e.fz = some c) (hs : ∀ x ∈ es, x.cells.toList.length = s) (hn : es ≠ [] → o + es.length * s ≤ c.size) (hc : es.length ≤ c')
      (hx : ∀ (i j : Nat) (x v v' : Value), es[i]? = some x → x.cells.toList[j]? = some v → c[o + i * s + j]? = some v' → VR φ v v') : VR φ (rowV s es) (.slice (some ⟨e.r, o, none⟩) es.length c')
  | ep {k f o : Nat} {e : Ent} {c : Array Value} {u : Value} (h : φ[k]? = some (some e)) (hf : e.fz = some c) (hn : o + u.cells.toList.length ≤ c.size)
      (hx : ∀ (j : Nat) (v v' : Value), u.cells.toList[j]? = some v → c[o + j]? = some v' → VR φ v v') : VR φ (.func (.yield f) ⟨[u]⟩ ⟨[.nilIface]⟩) (.pointer (some ⟨e.r, o, none⟩))

theorem VR.mono {φ ψ : Phi} (hle : φ.le ψ) {v v' : Value} (h : VR φ v v') : VR ψ v v' := by
  induction h with
  | flat v h => exact .flat v h
  | ptr h => exact .ptr (hle _ _ h)
  | slice h hc => exact .slice (hle _ _ h) hc
  | map h => exact .map (hle _ _ h)
  | iface _ ih => exact .iface ih
  | agg hl _ ih => exact .agg hl ih
  | tuple hl _ ih => exact .tuple hl ih
  | func hl _ ih => exact .func hl ih
  | row0 s => exact .row0 s
  | rowE s a c => exact .rowE s a c
  | row h hf hs hn hc _ ih => exact .row (hle _ _ h) hf hs hn hc ih
  | ep h hf hn _ ih => exact .ep (hle _ _ h) hf hn ih

/-- Two lists of values, one by one. -/
structure LR (φ : Phi) (l l' : List Value) : Prop where
  len : l.length = l'.length
  at_ : ∀ (i : Nat) (v v' : Value), l[i]? = some v → l'[i]? = some v' → VR φ v v'

theorem LR.nil {φ : Phi} : LR φ [] [] := ⟨rfl, fun i v v' h => by simp at h⟩
theorem LR.cons {φ : Phi} {v v' : Value} {l l' : List Value} (h : VR φ v v') (hl : LR φ l l') : LR φ (v :: l) (v' :: l') :=
  ⟨by simp [hl.len], fun i a b ha hb => by
    cases i with
    | zero => simp at ha hb; subst ha hb; exact h
    | succ i => simp at ha hb; exact hl.at_ i a b ha hb⟩
theorem LR.mono {φ ψ : Phi} (hle : φ.le ψ) {l l' : List Value} (h : LR φ l l') : LR ψ l l' := ⟨h.len, fun i v v' a b => (h.at_ i v v' a b).mono hle⟩
theorem LR.get {φ : Phi} {l l' : List Value} (h : LR φ l l') {i : Nat} {v : Value} (hv : l[i]? = some v) : ∃ v', l'[i]? = some v' ∧ VR φ v v' := by
  have hi : i < l.length := (List.getElem?_eq_some_iff.1 hv).1
  have hi' : i < l'.length := h.len ▸ hi
  exact ⟨l'[i], List.getElem?_eq_getElem hi', h.at_ i v _ hv (List.getElem?_eq_getElem hi')⟩
theorem LR.get_none {φ : Phi} {l l' : List Value} (h : LR φ l l') {i : Nat} (hv : l[i]? = none) : l'[i]? = none := by
  rw [List.getElem?_eq_none_iff] at *
  rw [← h.len]; exact hv
theorem LR.inv {φ : Phi} {v : Value} {l l' : List Value} (h : LR φ (v :: l) l') : ∃ v' m, l' = v' :: m ∧ VR φ v v' ∧ LR φ l m := by
  obtain ⟨h1, h2⟩ := h
  cases l' with
  | nil => simp at h1
  | cons v' m => exact ⟨v', m, rfl, h2 0 v v' rfl rfl, by simpa using h1, fun i a b ha hb => h2 (i + 1) a b (by simpa using ha) (by simpa using hb)⟩
theorem LR.nil_inv {φ : Phi} {l' : List Value} (h : LR φ [] l') : l' = [] := by
  have := h.len
  cases l' with
  | nil => rfl
  | cons _ _ => simp at this
theorem LR.append {φ : Phi} {a a' b b' : List Value} (h : LR φ a a') (h' : LR φ b b') : LR φ (a ++ b) (a' ++ b') :=
  ⟨by simp [h.len, h'.len], fun i v v' hv hv' => by
    by_cases hi : i < a.length
    · rw [List.getElem?_append_left hi] at hv
      rw [List.getElem?_append_left (h.len ▸ hi)] at hv'
      exact h.at_ i v v' hv hv'
    · rw [List.getElem?_append_right (by omega)] at hv
      rw [List.getElem?_append_right (by have := h.len; omega)] at hv'
      rw [← h.len] at hv'
      exact h'.at_ _ v v' hv hv'⟩
theorem LR.take {φ : Phi} {a a' : List Value} (h : LR φ a a') (n : Nat) : LR φ (a.take n) (a'.take n) :=
  ⟨by simp [h.len], fun i v v' hv hv' => by
    rw [List.getElem?_take] at hv hv'
    split at hv
    · rename_i hi
      rw [if_pos hi] at hv'
      exact h.at_ i v v' hv hv'
    · cases hv⟩
theorem LR.drop {φ : Phi} {a a' : List Value} (h : LR φ a a') (n : Nat) : LR φ (a.drop n) (a'.drop n) :=
  ⟨by simp [h.len], fun i v v' hv hv' => by
    rw [List.getElem?_drop] at hv hv'
    exact h.at_ _ v v' hv hv'⟩
theorem LR.set {φ : Phi} {a a' : List Value} (h : LR φ a a') (n : Nat) {u u' : Value} (hu : VR φ u u') : LR φ (a.set n u) (a'.set n u') :=
  ⟨by simp [h.len], fun i v v' hv hv' => by
    rw [List.getElem?_set] at hv hv'
    rw [← h.len] at hv'
    by_cases h1 : n = i
    · rw [if_pos h1] at hv hv'
      split at hv
      · rename_i h2
        rw [if_pos h2] at hv'
        cases hv; cases hv'; exact hu
      · cases hv
    · rw [if_neg h1] at hv hv'
      exact h.at_ i v v' hv hv'⟩

/-! values without an address -/
theorem flatN_succ : ∀ (n : Nat) (v : Value), flatN n v = true → flatN (n + 1) v = true
  | 0, _, h => by cases h
  | n + 1, v, h => by
    have ih := flatN_succ n
    cases v with
    | iface t v => exact ih v h
    | agg c => exact List.all_eq_true.2 fun x hx => ih x (List.all_eq_true.1 h x hx)
    | tuple c => exact List.all_eq_true.2 fun x hx => ih x (List.all_eq_true.1 h x hx)
    | _ => exact h
theorem flat_iface {t : TypeId} {v : Value} (h : flat (.iface t v) = true) : flat v = true := flatN_succ 4 v h
theorem flat_agg {c : Array Value} (h : flat (.agg c) = true) : ∀ x ∈ c.toList, flat x = true := fun x hx => flatN_succ 4 x (List.all_eq_true.1 h x hx)
theorem flat_tuple {c : Array Value} (h : flat (.tuple c) = true) : ∀ x ∈ c.toList, flat x = true := fun x hx => flatN_succ 4 x (List.all_eq_true.1 h x hx)

theorem LR.of_flat {φ : Phi} {l : List Value} (h : ∀ x ∈ l, Ev.flat x = true) : LR φ l l :=
  ⟨rfl, fun i v v' hv hv' => by
    rw [hv] at hv'
    cases hv'
    exact .flat v (h v (List.mem_of_getElem? hv))⟩

/-- What has no address stands to itself alone. -/
theorem VR.eq_of_flatN {φ : Phi} {v v' : Value} (h : VR φ v v') : ∀ n, flatN n v = true → v' = v := by
  induction h with
  | flat v _ => exact fun _ _ => rfl
  | ptr _ => intro n h; cases n <;> cases h
  | slice _ _ => intro n h; cases n <;> cases h
  | map _ => intro n h; cases n <;> cases h
  | iface _ ih =>
    intro n h
    cases n with
    | zero => cases h
    | succ n => rw [ih n h]
  | @agg c c' hl _ ih =>
    intro n h
    cases n with
    | zero => cases h
    | succ n =>
      have : c' = c := List.ext_getElem? fun i => by
        by_cases hi : i < c.length
        · have h1 := List.getElem?_eq_getElem hi
          have h2 := List.getElem?_eq_getElem (hl ▸ hi : i < c'.length)
          rw [h1, h2, ih i _ _ h1 h2 n (List.all_eq_true.1 h _ (List.getElem_mem hi))]
        · rw [List.getElem?_eq_none (by omega), List.getElem?_eq_none (by omega)]
      rw [this]
  | @tuple c c' hl _ ih =>
    intro n h
    cases n with
    | zero => cases h
    | succ n =>
      have : c' = c := List.ext_getElem? fun i => by
        by_cases hi : i < c.length
        · have h1 := List.getElem?_eq_getElem hi
          have h2 := List.getElem?_eq_getElem (hl ▸ hi : i < c'.length)
          rw [h1, h2, ih i _ _ h1 h2 n (List.all_eq_true.1 h _ (List.getElem_mem hi))]
        · rw [List.getElem?_eq_none (by omega), List.getElem?_eq_none (by omega)]
      rw [this]
  | @func fn c c' hl _ _ =>
    intro n h
    cases n with
    | zero => cases h
    | succ n =>
      have h1 : c.isEmpty = true := by
        have : ((#[] : Array Value).toList.isEmpty && c.isEmpty) = true := h
        simpa using this
      cases c with
      | nil => cases c' with
        | nil => rfl
        | cons _ _ => simp at hl
      | cons _ _ => cases h1
  | rowE s a c => intro n h; cases n <;> first | (cases h; done) | (exact absurd h (by simp [rowV, flatN]))
  | row0 s => intro n h; cases n <;> first | (cases h; done) | (exact absurd h (by simp [rowV, flatN]))
  | row _ _ _ _ _ _ _ => intro n h; cases n <;> first | (cases h; done) | (exact absurd h (by simp [rowV, flatN]))
  | ep _ _ _ _ _ => intro n h; cases n <;> first | (cases h; done) | (exact absurd h (by simp [flatN]))
theorem VR.eq_of_flat {φ : Phi} {v v' : Value} (h : VR φ v v') (hf : Ev.flat v = true) : v' = v := h.eq_of_flatN 5 hf

/-! what stands to a value of a known shape -/
variable {φ : Phi}
theorem VR.ptr_inv {k o : Nat} {s : Option Nat} {v' : Value} (h : VR φ (.pointer (some ⟨k, o, s⟩)) v') :
    ∃ e, φ[k]? = some (some e) ∧ s = none ∧ v' = .pointer (some ⟨e.r, o, none⟩) := by
  cases h with
  | flat _ h => cases h
  | ptr h => exact ⟨_, h, rfl, rfl⟩
theorem VR.slice_inv {k o l c : Nat} {s : Option Nat} {v' : Value} (h : VR φ (.slice (some ⟨k, o, s⟩) l c) v') :
    ∃ e c', φ[k]? = some (some e) ∧ s = none ∧ v' = .slice (some ⟨e.r, o, none⟩) l c' ∧ ((c ≠ unk ∧ c' = c) ∨ (c = unk ∧ l ≤ c' ∧ o + c' * e.es ≤ e.sz)) := by
  cases h with
  | flat _ h => cases h
  | slice h hc => exact ⟨_, _, h, rfl, rfl, hc⟩
theorem VR.map_inv {k : Nat} {v' : Value} (h : VR φ (.map (some k)) v') : ∃ e, φ[k]? = some (some e) ∧ v' = .map (some e.r) := by
  cases h with
  | flat _ h => cases h
  | map h => exact ⟨_, h, rfl⟩
theorem VR.iface_inv {t : TypeId} {v v' : Value} (h : VR φ (.iface t v) v') : ∃ u, v' = .iface t u ∧ VR φ v u := by
  cases h with
  | flat _ h => exact ⟨v, rfl, .flat v (flat_iface h)⟩
  | iface h => exact ⟨_, rfl, h⟩
theorem VR.agg_inv {c : Array Value} {v' : Value} (h : VR φ (.agg c) v') : ∃ c', v' = .agg c' ∧ LR φ c.toList c'.toList := by
  cases h with
  | flat _ h => exact ⟨c, rfl, .of_flat (flat_agg h)⟩
  | agg hl h => exact ⟨_, rfl, hl, h⟩
theorem VR.tuple_inv {c : Array Value} {v' : Value} (h : VR φ (.tuple c) v') : ∃ c', v' = .tuple c' ∧ LR φ c.toList c'.toList := by
  cases h with
  | flat _ h => exact ⟨c, rfl, .of_flat (flat_tuple h)⟩
  | tuple hl h => exact ⟨_, rfl, hl, h⟩
theorem VR.func_inv {fn : FuncId} {c : List Value} {v' : Value} (h : VR φ (.func (.func fn) ⟨[]⟩ ⟨c⟩) v') : ∃ c', v' = .func (.func fn) #[] ⟨c'⟩ ∧ LR φ c c' := by
  cases h with
  | flat _ h =>
    have h1 : c = [] := by
      have h0 : ((⟨[]⟩ : Array Value).toList.isEmpty && (⟨c⟩ : Array Value).toList.isEmpty) = true := h
      simpa using h0
    subst h1
    exact ⟨[], rfl, .nil⟩
  | func hl h => exact ⟨_, rfl, hl, h⟩
/-- What stands to a row that is held. -/
theorem VR.row_inv {s : Nat} {es : List Value} {v' : Value} (h : VR φ (rowV s es) v') : (es = [] ∧ (v' = .slice none 0 0 ∨ ∃ (a : Addr) (c' : Nat), v' = .slice (some a) 0 c')) ∨ ∃ (k o c' : Nat) (e : Ent) (c : Array Value), φ[k]? = some (some e) ∧ e.fz = some c ∧
    (∀ x ∈ es, x.cells.toList.length = s) ∧ (es ≠ [] → o + es.length * s ≤ c.size) ∧ es.length ≤ c' ∧
    (∀ (i j : Nat) (x v v' : Value), es[i]? = some x → x.cells.toList[j]? = some v → c[o + i * s + j]? = some v' → VR φ v v') ∧ v' = .slice (some ⟨e.r, o, none⟩) es.length c' := by
  generalize hr : rowV s es = r at h
  cases h with
  | flat _ h => subst hr; exact absurd h (by simp [rowV, Ev.flat, flatN])
  | row0 s' => unfold rowV at hr; injection hr with h1 h2; injection h2 with h2; exact .inl ⟨h2, .inl rfl⟩
  | rowE s' a c' => unfold rowV at hr; injection hr with h1 h2; injection h2 with h2; exact .inl ⟨h2, .inr ⟨a, c', rfl⟩⟩
  | row h hf hs hn hc hx =>
    unfold rowV at hr; injection hr with h1 h2; injection h1 with h1; injection h2 with h2
    subst h1 h2
    exact .inr ⟨_, _, _, _, _, h, hf, hs, hn, hc, hx, rfl⟩
  | ep _ _ _ _ => unfold rowV at hr; injection hr with h1 h2 h3; injection h3 with h3; injection h3 with h3; cases h3
  | func _ _ => unfold rowV at hr; injection hr with h1; cases h1
  | _ => cases hr
theorem VR.ep_inv {f : Nat} {u : Value} {v' : Value} (h : VR φ (.func (.yield f) ⟨[u]⟩ ⟨[.nilIface]⟩) v') : ∃ (k o : Nat) (e : Ent) (c : Array Value), φ[k]? = some (some e) ∧ e.fz = some c ∧ o + u.cells.toList.length ≤ c.size ∧
    (∀ (j : Nat) (v v' : Value), u.cells.toList[j]? = some v → c[o + j]? = some v' → VR φ v v') ∧ v' = .pointer (some ⟨e.r, o, none⟩) := by
  generalize hr : Value.func (.yield f) ⟨[u]⟩ ⟨[.nilIface]⟩ = r at h
  cases h with
  | flat _ h => subst hr; exact absurd h (by simp [Ev.flat, flatN])
  | row0 s' => unfold rowV at hr; injection hr with h1 h2 h3; injection h3 with h3; injection h3 with h3; cases h3
  | rowE s' a c' => unfold rowV at hr; injection hr with h1 h2 h3; injection h3 with h3; injection h3 with h3; cases h3
  | row _ _ _ _ _ _ => unfold rowV at hr; injection hr with h1 h2 h3; injection h3 with h3; injection h3 with h3; cases h3
  | ep h hf hn hx =>
    injection hr with h1 h2; injection h2 with h2; injection h2 with h2
    subst h2
    exact ⟨_, _, _, _, h, hf, hn, hx, rfl⟩
  | func _ _ => injection hr with h1; cases h1
  | _ => cases hr
theorem LR.agg {l l' : List Value} (h : LR φ l l') : VR φ (.agg ⟨l⟩) (.agg ⟨l'⟩) := .agg h.len h.at_
theorem LR.tuple {l l' : List Value} (h : LR φ l l') : VR φ (.tuple ⟨l⟩) (.tuple ⟨l'⟩) := .tuple h.len h.at_

theorem VR.oneCell {v v' : Value} (h : VR φ v v') (hv : Ev.oneCell v = true) : v'.oneCell' = true := by
  cases h with
  | flat _ _ => cases v <;> first | rfl | cases hv
  | agg _ _ => cases hv
  | tuple _ _ => cases hv
  | _ => rfl

/-- The cells of two values that stand to each other. -/
theorem VR.cells {v v' : Value} (h : VR φ v v') : LR φ v.cells.toList v'.cells.toList := by
  cases h with
  | agg hl h => exact ⟨hl, h⟩
  | flat _ h =>
    cases v with
    | agg c => exact .of_flat (flat_agg h)
    | _ => exact .cons (.flat _ h) .nil
  | row0 s => exact .cons (.row0 s) .nil
  | rowE s a c => exact .cons (.rowE s a c) .nil
  | row h hf hs hn hc hx => exact .cons (.row h hf hs hn hc hx) .nil
  | ep h hf hn hx => exact .cons (.ep h hf hn hx) .nil
  | _ => exact .cons (by constructor <;> assumption) .nil

/-! memory -/
/-- Our memory as a function. -/
def hp (H : T OB) (k : Nat) : Option OB := H.get (bits k)
def upd (g : Nat → Option OB) (k : Nat) (x : Option OB) (j : Nat) : Option OB := if j = k then x else g j
theorem hp_set (H : T OB) (k : Nat) (x : Option OB) : hp (set H (bits k) x) = upd (hp H) k x := by
  funext j
  unfold hp upd
  rw [get_at]
@[simp] theorem upd_same (g : Nat → Option OB) (k : Nat) (x : Option OB) : upd g k x k = x := if_pos rfl
theorem upd_other (g : Nat → Option OB) {k j : Nat} (h : j ≠ k) (x : Option OB) : upd g k x j = g j := if_neg h

/-- An entry of a map. -/
structure MER (φ : Phi) (e e' : MapEntry) : Prop where
  key : VR φ e.key e'.key
  val : VR φ e.val e'.val
  born : e'.born = e.born
/-- The entries of a map, one by one. -/
inductive MLR (φ : Phi) : List MapEntry → List MapEntry → Prop
  | nil : MLR φ [] []
  | cons {e e' : MapEntry} {l l' : List MapEntry} (h : MER φ e e') (hl : MLR φ l l') : MLR φ (e :: l) (e' :: l')
theorem MLR.mono {φ ψ : Phi} (hle : φ.le ψ) {l l' : List MapEntry} (h : MLR φ l l') : MLR ψ l l' := by
  induction h with
  | nil => exact .nil
  | cons h _ ih => exact .cons ⟨h.key.mono hle, h.val.mono hle, h.born⟩ ih

/-- The cells of a row. -/
def RowR (φ : Phi) (c : Array Value) (n : Nat) (t : T Value) : Prop := ∀ i, i < n → ∀ v, t.get (bits i) = some v → ∃ v', c[i]? = some v' ∧ VR φ v v'
theorem RowR.mono {φ ψ : Phi} (hle : φ.le ψ) {c : Array Value} {n : Nat} {t : T Value} (h : RowR φ c n t) : RowR ψ c n t :=
  fun i hi v hv => let ⟨v', a, b⟩ := h i hi v hv; ⟨v', a, b.mono hle⟩
/-- A map's number, and the model's. -/
def MapN (φ : Phi) (m m' : Option Nat) : Prop := match m, m' with
  | none, none => True
  | some k, some r => ∃ e, φ[k]? = some (some e) ∧ e.r = r
  | _, _ => False
theorem MapN.mono {φ ψ : Phi} (hle : φ.le ψ) {m m' : Option Nat} (h : MapN φ m m') : MapN ψ m m' := by
  cases m <;> cases m' <;> first | exact h | (obtain ⟨e, a, b⟩ := h; exact ⟨e, hle _ _ a, b⟩)

def live : OB → Bool
  | .dead => false
  | .ro _ _ => false
  | _ => true
/-- A block of ours, and the model's. -/
def OBR (P : Program) (W : World) (φ : Phi) (ob : OB) (e : Ent) (w : World) : Prop := match ob with
  | .cells n t el => W.heap.size ≤ e.r ∧ (∃ c el', w.heap[e.r]? = some (.cells c el' (0, 0)) ∧ c.size = e.sz ∧ n ≤ e.sz ∧ RowR φ c n t) ∧ ∀ z, szOf P el = some z → e.es = z
  | .ro n t => e.r < W.heap.size ∧ ∃ c el' fz, W.heap[e.r]? = some (.cells c el' fz) ∧ n ≤ c.size ∧ RowR φ c n t
  | .dead => True
  | .map es c => W.heap.size ≤ e.r ∧ ∃ es', w.heap[e.r]? = some (.map es' c) ∧ MLR φ es es'.toList
  | .iter m since seen last => W.heap.size ≤ e.r ∧ ∃ m' seen', w.heap[e.r]? = some (.mapIter m' since seen' last) ∧ seen'.toList = seen ∧ MapN φ m m'
theorem OBR.mono {P : Program} {W : World} {φ ψ : Phi} (hle : φ.le ψ) {ob : OB} {e : Ent} {w : World} (h : OBR P W φ ob e w) : OBR P W ψ ob e w := by
  cases ob with
  | cells n t el => obtain ⟨h1, ⟨c, el', h2, h3, h4, h5⟩, h6⟩ := h; exact ⟨h1, ⟨c, el', h2, h3, h4, h5.mono hle⟩, h6⟩
  | ro n t => obtain ⟨h1, c, el', fz, h2, h3, h4⟩ := h; exact ⟨h1, c, el', fz, h2, h3, h4.mono hle⟩
  | dead => trivial
  | map es c => obtain ⟨h1, es', h2, h3⟩ := h; exact ⟨h1, es', h2, h3.mono hle⟩
  | iter m since seen last => obtain ⟨h1, m', seen', h2, h3, h4⟩ := h; exact ⟨h1, m', seen', h2, h3, h4.mono hle⟩
/-- It looks at that block of the model alone. -/
theorem OBR.heap {P : Program} {W : World} {φ : Phi} {ob : OB} {e : Ent} {w w' : World} (hw : live ob = true → w'.heap[e.r]? = w.heap[e.r]?) (h : OBR P W φ ob e w) : OBR P W φ ob e w' := by
  cases ob with
  | cells n t el => obtain ⟨h1, ⟨c, el', h2, h3, h4, h5⟩, h6⟩ := h; exact ⟨h1, ⟨c, el', by rw [hw rfl]; exact h2, h3, h4, h5⟩, h6⟩
  | ro n t => exact h
  | dead => trivial
  | map es c => obtain ⟨h1, es', h2, h3⟩ := h; exact ⟨h1, es', by rw [hw rfl]; exact h2, h3⟩
  | iter m since seen last => obtain ⟨h1, m', seen', h2, h3, h4⟩ := h; exact ⟨h1, m', seen', by rw [hw rfl]; exact h2, h3, h4⟩
theorem OBR.above {P : Program} {W : World} {φ : Phi} {ob : OB} {e : Ent} {w : World} (hl : live ob = true) (h : OBR P W φ ob e w) : W.heap.size ≤ e.r := by
  cases ob with
  | ro n t => cases hl
  | dead => cases hl
  | _ => exact h.1

structure HR (P : Program) (W : World) (φ : Phi) (g : Nat → Option OB) (w : World) : Prop where
  below : Below W.heap.size W w
  dom : ∀ (k : Nat) (ob : OB), g k = some ob → k < φ.length
  rng : ∀ (k : Nat) (e : Ent), φ[k]? = some (some e) → e.r < w.heap.size
  inj : ∀ (k k' : Nat) (ob ob' : OB) (e e' : Ent), φ[k]? = some (some e) → φ[k']? = some (some e') → g k = some ob → g k' = some ob' → live ob = true → live ob' = true → e.r = e'.r → k = k'
  obj : ∀ (k : Nat) (ob : OB) (e : Ent), g k = some ob → φ[k]? = some (some e) → OBR P W φ ob e w
  gl : ∀ (k : Nat), k < P.globals.size → ∃ e : Ent, φ[k]? = some (some e) ∧ e.r = k
  fzr : ∀ (k : Nat) (e : Ent) (c : Array Value), φ[k]? = some (some e) → e.fz = some c → ∃ el fz, w.heap[e.r]? = some (.cells c el fz)
  fzl : ∀ (k k' : Nat) (e e' : Ent) (c : Array Value) (ob : OB), φ[k]? = some (some e) → e.fz = some c → φ[k']? = some (some e') → g k' = some ob → live ob = true → e'.r ≠ e.r

/-- A row that is read. -/
theorem HR.row {P : Program} {W : World} {φ : Phi} {g : Nat → Option OB} {w : World} (hH : HR P W φ g w) {k n : Nat} {t : T Value} {e : Ent}
    (hg : (∃ el, g k = some (.cells n t el)) ∨ g k = some (.ro n t)) (hk : φ[k]? = some (some e)) : ∃ c el' fz, w.heap[e.r]? = some (.cells c el' fz) ∧ n ≤ c.size ∧ RowR φ c n t := by
  rcases hg with ⟨el, hg⟩ | hg
  · obtain ⟨_, ⟨c, el', h2, h3, h4, h5⟩, _⟩ := hH.obj k _ e hg hk
    exact ⟨c, el', (0, 0), h2, by omega, h5⟩
  · obtain ⟨h1, c, el', fz, h2, h3, h4⟩ := hH.obj k _ e hg hk
    exact ⟨c, el', fz, by rw [hH.below.block e.r h1]; exact h2, h3, h4⟩
theorem HR.cells {P : Program} {W : World} {φ : Phi} {g : Nat → Option OB} {w : World} (hH : HR P W φ g w) {k n : Nat} {t : T Value} {el : TypeId} {e : Ent}
    (hg : g k = some (.cells n t el)) (hk : φ[k]? = some (some e)) : ∃ c el', w.heap[e.r]? = some (.cells c el' (0, 0)) ∧ c.size = e.sz ∧ n ≤ e.sz ∧ RowR φ c n t :=
  (hH.obj k _ e hg hk).2.1
theorem HR.es {P : Program} {W : World} {φ : Phi} {g : Nat → Option OB} {w : World} (hH : HR P W φ g w) {k n : Nat} {t : T Value} {el : TypeId} {e : Ent}
    (hg : g k = some (.cells n t el)) (hk : φ[k]? = some (some e)) : ∀ z, szOf P el = some z → e.es = z := (hH.obj k _ e hg hk).2.2

theorem add_none (b off i : Nat) : (⟨b, off, none⟩ : Addr).add i = ⟨b, off + i, none⟩ := by
  unfold Addr.add
  split
  · rename_i h; subst h; rfl
  · rfl

end
end Go.Ev
