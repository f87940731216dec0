/- The law of right lists: both tell the same. -/
import Derived.Test.YtfdgoenmdalphaaDoorS12
namespace Go.Proofs.YtfdgoenmdalphaaDoor
open Go.Ev Go.RowKit
noncomputable section
set_option maxRecDepth 100000
set_option linter.unusedVariables false
set_option linter.unusedSimpArgs false
theorem aS_b (l : List Atom) : ∀ n : Int, 0 ≤ n → (∀ a, a ∈ l → a.t.size < big) → n ≤ aS l n ∧ aS l n ≤ max n (10000 + big) := by
  have hbig : big = 1125899906842624 := rfl
  induction l with
  | nil => intro n _ _; rw [aS]; omega
  | cons a l ih =>
    intro n hn h
    have ha := h a List.mem_cons_self
    rw [aS]
    split
    · have e1 : ((a.t.size : Int).tdiv 8) = ((a.t.size / 8 : Nat) : Int) := by rw [Int.tdiv_eq_ediv_of_nonneg (by omega)]; omega
      have e2 : w ((a.t.size : Int).tdiv 8) = ((a.t.size / 8 : Nat) : Int) := by rw [e1]; exact wrap_id (by omega)
      have e3 : w (n + w ((a.t.size : Int).tdiv 8)) = n + ((a.t.size / 8 : Nat) : Int) := by rw [e2]; exact wrap_id (by omega)
      rw [e3]
      have := ih (n + ((a.t.size / 8 : Nat) : Int)) (by omega) (fun x hx => h x (List.mem_cons_of_mem _ hx))
      omega
    · omega
theorem atoms_b (l : List Atom) (h : aSm l) : 0 ≤ atomsSize l ∧ atomsSize l ≤ 10000 + big := by
  have hbig : big = 1125899906842624 := rfl
  have := aS_b l l.length (by omega) h.2
  unfold atomsSize
  have := h.1
  omega
def okB (b : Block) : Prop := bSm b → ∀ most : Int, 0 ≤ most → most ≤ 500 → 0 ≤ bS b most ∧ bS b most ≤ most + 2251799813685260 ∧ (bS b most ≤ most → bC b < bS b most)
theorem lS_b (bs : List Block) (hp : ∀ c, c ∈ bs → okB c) (hsm : ∀ c, c ∈ bs → bSm c) (most : Int) (h0 : 0 ≤ most) (h5 : most ≤ 500) : ∀ n : Int, 0 ≤ n → n ≤ 4611686018427387904 → n ≤ lS bs most n ∧ lS bs most n ≤ max n (most + 2251799813685260) ∧ (lS bs most n ≤ most → n + lC bs ≤ lS bs most n) := by
  induction bs with
  | nil => intro n _ _; rw [lS, lC]; omega
  | cons c l ih =>
    intro n hn hn2
    rw [lS, lC]
    split
    · rename_i hle
      have e1 : w (most - n) = most - n := wrap_id (by omega)
      have hc := hp c List.mem_cons_self (hsm c List.mem_cons_self) (most - n) (by omega) (by omega)
      rw [e1]
      have e2 : w (n + bS c (most - n)) = n + bS c (most - n) := wrap_id (by omega)
      rw [e2]
      have := ih (fun x hx => hp x (List.mem_cons_of_mem _ hx)) (fun x hx => hsm x (List.mem_cons_of_mem _ hx)) (n + bS c (most - n)) (by omega) (by omega)
      omega
    · omega
theorem stS_b (s : Step) (hp : ∀ c, c ∈ s.blocks → okB c) (hsm : stSm s) (most : Int) (h0 : 0 ≤ most) (h5 : most ≤ 500) (n : Int) (hn : 0 ≤ n) (hn2 : n ≤ most) : n ≤ stS s most n ∧ stS s most n ≤ most + 2251799813685260 ∧ (stS s most n ≤ most → n + sC s ≤ stS s most n) := by
  have hbig : big = 1125899906842624 := rfl
  rw [stSm_iff] at hsm
  have ha := atoms_b s.args hsm.1
  rw [stS_eq, sC_eq]
  have e1 : w (n + 1) = n + 1 := wrap_id (by omega)
  have e2 : w (w (n + 1) + atomsSize s.args) = n + 1 + atomsSize s.args := by rw [e1]; exact wrap_id (by omega)
  rw [e2]
  have := lS_b s.blocks hp hsm.2.2 most h0 h5 (n + 1 + atomsSize s.args) (by omega) (by omega)
  omega
theorem sS_b (ss : List Step) (hp : ∀ s, s ∈ ss → ∀ c, c ∈ s.blocks → okB c) (hsm : ∀ s, s ∈ ss → stSm s) (most : Int) (h0 : 0 ≤ most) (h5 : most ≤ 500) : ∀ n : Int, 0 ≤ n → n ≤ 4611686018427387904 → n ≤ sS ss most n ∧ sS ss most n ≤ max n (most + 2251799813685260) ∧ (sS ss most n ≤ most → n + ssC ss ≤ sS ss most n) := by
  induction ss with
  | nil => intro n _ _; rw [sS, ssC]; omega
  | cons s l ih =>
    intro n hn hn2
    rw [sS, ssC]
    split
    · rename_i hle
      have hc := stS_b s (hp s List.mem_cons_self) (hsm s List.mem_cons_self) most h0 h5 n hn hle
      have := ih (fun x hx => hp x (List.mem_cons_of_mem _ hx)) (fun x hx => hsm x (List.mem_cons_of_mem _ hx)) (stS s most n) (by omega) (by omega)
      omega
    · omega
theorem okB_all (b : Block) : okB b := by
  refine Block.ind (p := okB) (fun b hs hb => ?_) b
  intro hsm most h0 h5
  have hbig : big = 1125899906842624 := rfl
  rw [bSm_iff] at hsm
  have ha := atoms_b b.args hsm.2.1
  rw [bS_eq, bC_eq]
  have e1 : w (1 + atomsSize b.args) = 1 + atomsSize b.args := wrap_id (by omega)
  rw [e1]
  have h1 := sS_b b.steps hs hsm.2.2.2.1 most h0 h5 (1 + atomsSize b.args) (by omega) (by omega)
  have h2 := lS_b b.blocks hb hsm.2.2.2.2 most h0 h5 (sS b.steps most (1 + atomsSize b.args)) (by omega) (by omega)
  omega
theorem fS_b (fs : List Fun) (hsm : ∀ f, f ∈ fs → bSm f.body) : ∀ n : Int, 0 ≤ n → n ≤ 4611686018427387904 → n ≤ fS fs 500 n ∧ (fS fs 500 n ≤ 500 → ∀ f, f ∈ fs → (bC f.body : Int) ≤ 500) := by
  induction fs with
  | nil => intro n _ _; rw [fS]; exact ⟨by omega, fun _ f hf => nomatch hf⟩
  | cons f l ih =>
    intro n hn hn2
    rw [fS]
    split
    · rename_i hle
      have e1 : w (500 - n) = 500 - n := wrap_id (by omega)
      have e2 : w (n + 1) = n + 1 := wrap_id (by omega)
      have hc := okB_all f.body (hsm f List.mem_cons_self) (500 - n) (by omega) (by omega)
      have e3 : w (w (n + 1) + bS f.body (w (500 - n))) = n + 1 + bS f.body (500 - n) := by rw [e1, e2]; exact wrap_id (by omega)
      rw [e3]
      have := ih (fun x hx => hsm x (List.mem_cons_of_mem _ hx)) (n + 1 + bS f.body (500 - n)) (by omega) (by omega)
      refine ⟨by omega, fun h x hx => ?_⟩
      rcases List.mem_cons.1 hx with rfl | hx
      · omega
      · exact this.2 h x hx
    · exact ⟨by omega, fun h => by omega⟩

def fOk (fs : List Fun) (k : Nat) (f : Fun) : Bool := !decide (f.free < 0 ∨ f.locs < 0 ∨ (k = 0 ∧ f.free ≠ 0)) && bOk fs f.free f.locs (decide (k = 0)) false [] f.body
def rgt (fs : List Fun) : Nat → List Fun → Bool
  | k, [] => true
  | k, f :: l => fOk fs k f && rgt fs (k + 1) l
/-- Whether functions are right. -/
def right (fs : List Fun) : Bool := rgt fs 0 fs && decide (0 < fs.length)
theorem decN0 (k : Nat) : decide ((k : Int) = 0) = decide (k = 0) := by rw [decide_eq_decide]; omega

/-! Right, of functions by value and one more -/
theorem F_call {f : FuncId} {args : List Value} {H : T OB} {nx : Nat} (hx : X f args = none) : F P pl X (.call f args false none H nx) = (evT P pl (.call f args false none H nx)).run (F P pl X) := by
  rw [F_eq]
  show @Option.rec Value (fun _ => Option Rt) _ (fun v => some ⟨.ret v, false, H, nx⟩) (X f args) = _
  rw [hx]
/-- What a call is known to answer here. -/
def Ans (nx0 : Nat) (H0 : T OB) (f : FuncId) (args : List Value) (u : Value) (H : T OB) (nx : Nat) : Prop := ∃ H1 nx1, Ag nx0 H0 nx1 H1 ∧ F P pl X (.call f args false none H nx) = some ⟨.ret u, false, H1, nx1⟩
theorem Ans.pure {nx0 : Nat} {H0 : T OB} {f : FuncId} {args : List Value} {u : Value} {H : T OB} {nx : Nat} (h : Pu f args u) (hA : Ag nx0 H0 nx H) : Ans nx0 H0 f args u H nx := by
  obtain ⟨H1, nx1, h1, h2⟩ := h H nx
  exact ⟨H1, nx1, hA.trans h1, h2⟩
theorem Ans.of {nx0 : Nat} {H0 : T OB} {f : FuncId} {args : List Value} {u : Value} {H : T OB} {nx : Nat} (hx : X f args = none) (h : Wq P pl X (evT P pl (.call f args false none H nx)) nx0 H0 u) : Ans nx0 H0 f args u H nx := by
  obtain ⟨v, H1, nx1, h1, rfl, h2⟩ := h
  exact ⟨H1, nx1, h1, (F_call hx).trans h2⟩
theorem Wq.callF {nx0 : Nat} {H0 : T OB} {nx : Nat} {H : T OB} {R : Value → T OB → Nat → Prop} {f : FuncId} {args : List Value} {u : Value} {k p : Value → T OB → Nat → Q} (h : Ans nx0 H0 f args u H nx)
    (hk : ∀ H' nx', Ag nx0 H0 nx' H' → WqR P pl X (k u H' nx') nx0 H0 R) : WqR P pl X (callQ (.call f args false none H nx) k p) nx0 H0 R := by
  obtain ⟨H1, nx1, h1, h2⟩ := h
  obtain ⟨v, H2, nx2, h3, hR, h4⟩ := hk H1 nx1 h1
  refine ⟨v, H2, nx2, h3, hR, ?_⟩
  show optK (F P pl X (.call f args false none H nx)) (fun r => (match r.o with | .ret v => k v r.H r.nx | .pan v => p v r.H r.nx : Q).run (F P pl X)) none = _
  rw [h2]
  exact h4
theorem bd_58 (L : List Value) (r : RV) (f : Fun) (i : Nat) : rdBuild P 58 (some [(0, rowV 6 L), (1, .agg ⟨[i64 f.free, i64 f.locs, r.a, r.b, r.c, r.d]⟩), (2, i64 i)]) = some (.agg ⟨[rowV 6 L, i64 f.free, i64 f.locs, r.a, r.b, r.c, r.d, i64 i]⟩) := by
  have hz : zeroC P 58 = some [.slice none 0 0, i64 0, i64 0, .slice none 0 0, i64 0, .slice none 0 0, .slice none 0 0, i64 0] := by kernel_rfl
  obtain ⟨a, b, c, d⟩ := r
  exact rdBuild_of hz (by kernel_rfl)
/-- A function that is looked at: its cells, and what is answered of its body. -/
def EOK (nx0 : Nat) (H0 : T OB) (L : List Value) (fs : List Fun) : Prop := ∀ (i : Nat) (f : Fun), fs[i]? = some f → ∃ r : RV, L[i]? = some (.agg ⟨[i64 f.free, i64 f.locs, r.a, r.b, r.c, r.d]⟩) ∧ (oneCell r.a && oneCell r.b && oneCell r.c && oneCell r.d) = true ∧
  ∀ H nx, Ag nx0 H0 nx H → Ans nx0 H0 16 [rdr L r f i, .agg ⟨[r.a, r.b, r.c, r.d]⟩, .pointer none, .bool true] (.bool (bOk fs f.free f.locs (decide (i = 0)) false [] f.body)) H nx
theorem w_6_7 {nx0 : Nat} {H0 : T OB} (L : List Value) (fs : List Fun) (hl : fs.length < big) (hL : L.length = fs.length) (hE : EOK nx0 H0 L fs) (H : T OB) (nx : Nat) (hA : Ag nx0 H0 nx H) :
    Wq P pl X (.jump (l6_7 (rowV 6 L) (rowV 6 L) (i64 fs.length) (i64 ((0 : Nat) : Int)) H nx)) nx0 H0 (.bool (right fs)) := by
  have hbig : big = 1125899906842624 := rfl
  refine Wq.up fs.length (fun i (_ : Unit) H nx => .jump (l6_7 (rowV 6 L) (rowV 6 L) (i64 fs.length) (i64 i) H nx)) (fun i _ => .bool (rgt fs i (fs.drop i) && decide (0 < fs.length))) (fun _ H1 nx1 hA => ?_) (fun i _ H1 nx1 hi ih hA => ?_) 0 () H nx (Nat.zero_le _) hA
  · refine Wq.jmp (q6_7 ..) (fun _ => rfl) ?_
    simp only [oneCell_int, oneCell_str, oneCell_bool, oneCell_row, oneCell_ep, oneCell_nilp, cond_true, cond_false, optK_some, ldV_int, ldV_str, ldV_bool, ldV_row, ldV_ep, ldV_nilp, rdBin_add, rdBin_sub, rdBin_mul, rdBin_lss, rdBin_leq, rdBin_gtr, rdBin_geq, rdBin_eql, rdBin_neq, rdBin_seql, rdBin_sneq, unV_not, bvK_bool, bK_true, bK_false, Bool.not_true, Bool.not_false, Bool.not_not, rdNil_ep, rdNil_ptr, oneCell_sl, ldV_sl, vEq_self, List.length_nil, Int.cast_ofNat_Int, Int.reduceEq, Int.reduceLT, Int.reduceLE, decide_true, decide_false, eq_self, Bool.and_self, fa_26_0, fa_26_1, fa_26_2, fa_26_3, fa_31_0, fa_31_1, fa_31_2, fa_31_3, fa_33_0, fa_33_1, fa_33_2, fa_43_0, fa_43_1, fa_43_2, fa_43_3, fa_43_4, fa_43_5, fa_58_0, fa_58_1, fa_58_2, fa_62_0, fa_62_1, fa_62_2, fa_62_3, fa_62_4, fa_101_0, fa_101_1, fp_26_0, fp_26_1, fp_26_2, fp_26_3, fp_31_0, fp_31_1, fp_31_2, fp_31_3, fp_33_0, fp_33_1, fp_33_2, fp_43_0, fp_43_1, fp_43_2, fp_43_3, fp_43_4, fp_43_5, fp_62_0, fp_62_1, fp_62_2, fp_62_3, fp_62_4, ld_2, ld_3, ld_9, ld_22, ld_26, ld_27, ld_28, ld_29, ld_31, ld_33, ld_40, ld_41, ld_43, ld_62, ld_97, len_9, len_22, lenS_22, lenN_22, len_27, lenS_27, lenN_27, len_28, lenS_28, lenN_28, len_29, lenS_29, lenN_29, len_40, lenS_40, lenN_40, len_41, lenS_41, lenN_41, pneq_97, pneq0_97, hL, not_lt_len]
    refine Wq.retE ?_ hA
    rw [List.drop_of_length_le (Nat.le_refl _), rgt, Bool.true_and]
    congr 1
    rw [decide_eq_decide]; omega
  · have hg : fs[i]? = some fs[i] := List.getElem?_eq_getElem hi
    generalize fs[i] = f at hg ih
    have hf : f ∈ fs := List.mem_of_getElem? hg
    have hd : fs.drop i = f :: fs.drop (i + 1) := by
      rw [List.drop_eq_getElem_cons hi]
      have : fs[i] = f := by rw [List.getElem?_eq_getElem hi] at hg; simpa using hg
      rw [this]
    rw [hd, rgt]
    obtain ⟨r, hg', ho, hans⟩ := hE i f hg
    simp only [Bool.and_eq_true] at ho
    have L14 : ∀ (bad : Bool) H1 nx1, Ag nx0 H0 nx1 H1 → fOk fs i f = !bad → Wq P pl X (.jump (l6_14 (rowV 6 L) (rowV 6 L) (i64 fs.length) (i64 i) bad H1 nx1)) nx0 H0 (.bool (fOk fs i f && rgt fs (i + 1) (fs.drop (i + 1)) && decide (0 < fs.length))) := by
      intro bad H1 nx1 hA1 hb
      refine Wq.jmp (q6_14 ..) (fun _ => rfl) ?_
      rw [hb]
      cases bad with
      | true => exact Wq.ret hA1
      | false =>
        simp only [oneCell_int, oneCell_str, oneCell_bool, oneCell_row, oneCell_ep, oneCell_nilp, cond_true, cond_false, optK_some, ldV_int, ldV_str, ldV_bool, ldV_row, ldV_ep, ldV_nilp, rdBin_add, rdBin_sub, rdBin_mul, rdBin_lss, rdBin_leq, rdBin_gtr, rdBin_geq, rdBin_eql, rdBin_neq, rdBin_seql, rdBin_sneq, unV_not, bvK_bool, bK_true, bK_false, Bool.not_true, Bool.not_false, Bool.not_not, rdNil_ep, rdNil_ptr, oneCell_sl, ldV_sl, vEq_self, List.length_nil, Int.cast_ofNat_Int, Int.reduceEq, Int.reduceLT, Int.reduceLE, decide_true, decide_false, eq_self, Bool.and_self, fa_26_0, fa_26_1, fa_26_2, fa_26_3, fa_31_0, fa_31_1, fa_31_2, fa_31_3, fa_33_0, fa_33_1, fa_33_2, fa_43_0, fa_43_1, fa_43_2, fa_43_3, fa_43_4, fa_43_5, fa_58_0, fa_58_1, fa_58_2, fa_62_0, fa_62_1, fa_62_2, fa_62_3, fa_62_4, fa_101_0, fa_101_1, fp_26_0, fp_26_1, fp_26_2, fp_26_3, fp_31_0, fp_31_1, fp_31_2, fp_31_3, fp_33_0, fp_33_1, fp_33_2, fp_43_0, fp_43_1, fp_43_2, fp_43_3, fp_43_4, fp_43_5, fp_62_0, fp_62_1, fp_62_2, fp_62_3, fp_62_4, ld_2, ld_3, ld_9, ld_22, ld_26, ld_27, ld_28, ld_29, ld_31, ld_33, ld_40, ld_41, ld_43, ld_62, ld_97, len_9, len_22, lenS_22, lenN_22, len_27, lenS_27, lenN_27, len_28, lenS_28, lenN_28, len_29, lenS_29, lenN_29, len_40, lenS_40, lenN_40, len_41, lenS_41, lenN_41, pneq_97, pneq0_97, wrap_succ (show i < 9223372036854775807 by omega), Bool.true_and]
        exact ih () _ _ hA1
    refine Wq.jmp (q6_7 ..) (fun _ => rfl) ?_
    simp only [oneCell_int, oneCell_str, oneCell_bool, oneCell_row, oneCell_ep, oneCell_nilp, cond_true, cond_false, optK_some, ldV_int, ldV_str, ldV_bool, ldV_row, ldV_ep, ldV_nilp, rdBin_add, rdBin_sub, rdBin_mul, rdBin_lss, rdBin_leq, rdBin_gtr, rdBin_geq, rdBin_eql, rdBin_neq, rdBin_seql, rdBin_sneq, unV_not, bvK_bool, bK_true, bK_false, Bool.not_true, Bool.not_false, Bool.not_not, rdNil_ep, rdNil_ptr, oneCell_sl, ldV_sl, vEq_self, List.length_nil, Int.cast_ofNat_Int, Int.reduceEq, Int.reduceLT, Int.reduceLE, decide_true, decide_false, eq_self, Bool.and_self, fa_26_0, fa_26_1, fa_26_2, fa_26_3, fa_31_0, fa_31_1, fa_31_2, fa_31_3, fa_33_0, fa_33_1, fa_33_2, fa_43_0, fa_43_1, fa_43_2, fa_43_3, fa_43_4, fa_43_5, fa_58_0, fa_58_1, fa_58_2, fa_62_0, fa_62_1, fa_62_2, fa_62_3, fa_62_4, fa_101_0, fa_101_1, fp_26_0, fp_26_1, fp_26_2, fp_26_3, fp_31_0, fp_31_1, fp_31_2, fp_31_3, fp_33_0, fp_33_1, fp_33_2, fp_43_0, fp_43_1, fp_43_2, fp_43_3, fp_43_4, fp_43_5, fp_62_0, fp_62_1, fp_62_2, fp_62_3, fp_62_4, ld_2, ld_3, ld_9, ld_22, ld_26, ld_27, ld_28, ld_29, ld_31, ld_33, ld_40, ld_41, ld_43, ld_62, ld_97, len_9, len_22, lenS_22, lenN_22, len_27, lenS_27, lenN_27, len_28, lenS_28, lenN_28, len_29, lenS_29, lenN_29, len_40, lenS_40, lenN_40, len_41, lenS_41, lenN_41, pneq_97, pneq0_97, hL, is_lt_len hi, ix_22 hg', bd_58]
    refine Wq.var zero_33 sz_33 rfl rfl (by
      show (true && (true && (oneCell r.a && (oneCell r.b && (oneCell r.c && (oneCell r.d && true)))))) = true
      simp [ho]) hA fun H2 nx2 hA => ?_
    refine Wq.natF' hA fun hA => ?_
    refine Wq.ite (fun h => L14 _ _ _ hA ?_) (fun ha => ?_)
    · unfold fOk; rw [decide_eq_true (Or.inl h)]; rfl
    refine Wq.ite (fun h => L14 _ _ _ hA ?_) (fun hb => ?_)
    · unfold fOk; rw [decide_eq_true (Or.inr (Or.inl h))]; rfl
    refine Wq.ite (fun hi0 => ?_) (fun hi0 => ?_)
    · refine Wq.ite (fun h => L14 _ _ _ hA ?_) (fun hz => ?_)
      · unfold fOk; rw [decide_eq_true (Or.inr (Or.inr ⟨by omega, by omega⟩))]; rfl
      · refine Wq.callF (hans _ _ hA) fun H2 nx2 hA2 => ?_
        simp only [oneCell_int, oneCell_str, oneCell_bool, oneCell_row, oneCell_ep, oneCell_nilp, cond_true, cond_false, optK_some, ldV_int, ldV_str, ldV_bool, ldV_row, ldV_ep, ldV_nilp, rdBin_add, rdBin_sub, rdBin_mul, rdBin_lss, rdBin_leq, rdBin_gtr, rdBin_geq, rdBin_eql, rdBin_neq, rdBin_seql, rdBin_sneq, unV_not, bvK_bool, bK_true, bK_false, Bool.not_true, Bool.not_false, Bool.not_not, rdNil_ep, rdNil_ptr, oneCell_sl, ldV_sl, vEq_self, List.length_nil, Int.cast_ofNat_Int, Int.reduceEq, Int.reduceLT, Int.reduceLE, decide_true, decide_false, eq_self, Bool.and_self, fa_26_0, fa_26_1, fa_26_2, fa_26_3, fa_31_0, fa_31_1, fa_31_2, fa_31_3, fa_33_0, fa_33_1, fa_33_2, fa_43_0, fa_43_1, fa_43_2, fa_43_3, fa_43_4, fa_43_5, fa_58_0, fa_58_1, fa_58_2, fa_62_0, fa_62_1, fa_62_2, fa_62_3, fa_62_4, fa_101_0, fa_101_1, fp_26_0, fp_26_1, fp_26_2, fp_26_3, fp_31_0, fp_31_1, fp_31_2, fp_31_3, fp_33_0, fp_33_1, fp_33_2, fp_43_0, fp_43_1, fp_43_2, fp_43_3, fp_43_4, fp_43_5, fp_62_0, fp_62_1, fp_62_2, fp_62_3, fp_62_4, ld_2, ld_3, ld_9, ld_22, ld_26, ld_27, ld_28, ld_29, ld_31, ld_33, ld_40, ld_41, ld_43, ld_62, ld_97, len_9, len_22, lenS_22, lenN_22, len_27, lenS_27, lenN_27, len_28, lenS_28, lenN_28, len_29, lenS_29, lenN_29, len_40, lenS_40, lenN_40, len_41, lenS_41, lenN_41, pneq_97, pneq0_97]
        refine L14 _ _ _ hA2 ?_
        unfold fOk
        rw [decide_eq_false (by omega)]
        simp
    · refine Wq.callF (hans _ _ hA) fun H2 nx2 hA2 => ?_
      simp only [oneCell_int, oneCell_str, oneCell_bool, oneCell_row, oneCell_ep, oneCell_nilp, cond_true, cond_false, optK_some, ldV_int, ldV_str, ldV_bool, ldV_row, ldV_ep, ldV_nilp, rdBin_add, rdBin_sub, rdBin_mul, rdBin_lss, rdBin_leq, rdBin_gtr, rdBin_geq, rdBin_eql, rdBin_neq, rdBin_seql, rdBin_sneq, unV_not, bvK_bool, bK_true, bK_false, Bool.not_true, Bool.not_false, Bool.not_not, rdNil_ep, rdNil_ptr, oneCell_sl, ldV_sl, vEq_self, List.length_nil, Int.cast_ofNat_Int, Int.reduceEq, Int.reduceLT, Int.reduceLE, decide_true, decide_false, eq_self, Bool.and_self, fa_26_0, fa_26_1, fa_26_2, fa_26_3, fa_31_0, fa_31_1, fa_31_2, fa_31_3, fa_33_0, fa_33_1, fa_33_2, fa_43_0, fa_43_1, fa_43_2, fa_43_3, fa_43_4, fa_43_5, fa_58_0, fa_58_1, fa_58_2, fa_62_0, fa_62_1, fa_62_2, fa_62_3, fa_62_4, fa_101_0, fa_101_1, fp_26_0, fp_26_1, fp_26_2, fp_26_3, fp_31_0, fp_31_1, fp_31_2, fp_31_3, fp_33_0, fp_33_1, fp_33_2, fp_43_0, fp_43_1, fp_43_2, fp_43_3, fp_43_4, fp_43_5, fp_62_0, fp_62_1, fp_62_2, fp_62_3, fp_62_4, ld_2, ld_3, ld_9, ld_22, ld_26, ld_27, ld_28, ld_29, ld_31, ld_33, ld_40, ld_41, ld_43, ld_62, ld_97, len_9, len_22, lenS_22, lenN_22, len_27, lenS_27, lenN_27, len_28, lenS_28, lenN_28, len_29, lenS_29, lenN_29, len_40, lenS_40, lenN_40, len_41, lenS_41, lenN_41, pneq_97, pneq0_97]
      refine L14 _ _ _ hA2 ?_
      unfold fOk
      rw [decide_eq_false (by omega)]
      simp
/-- A function's body, held by value. -/
def Fun.rv (f : Fun) : RV := ⟨rowV 5 (f.body.steps.map Step.v), i64 f.body.e, atomsV f.body.args, rowV 4 (f.body.blocks.map Block.v)⟩
theorem LOK_of {nx0 : Nat} {H0 : T OB} {L : List Value} {fs : List Fun} (hL : L.length = fs.length) (hE : EOK nx0 H0 L fs) : LOK L fs := ⟨hL, fun i f h => by
  obtain ⟨r, h1, _⟩ := hE i f h
  exact ⟨_, _, _, _, _, h1⟩⟩
theorem frzV_22 (es : List Value) (H : T OB) (nx : Nat) (k : Value → T OB → Nat → Q) : frzV P 22 (rowV 6 es) H nx k = k (rowV 6 es) H nx := by kernel_rfl
theorem funs_get {fs : List Fun} {i : Nat} {f : Fun} (h : fs[i]? = some f) : (fs.map Fun.v)[i]? = some (.agg ⟨[i64 f.free, i64 f.locs, f.rv.a, f.rv.b, f.rv.c, f.rv.d]⟩) := by simp [h, Fun.v, Fun.rv]
theorem rv_ok (f : Fun) : (oneCell f.rv.a && oneCell f.rv.b && oneCell f.rv.c && oneCell f.rv.d) = true := rfl
theorem rv_call {L : List Value} {fs : List Fun} (hL : LOK L fs) (f : Fun) (i : Nat) (hs : bSm f.body) : Pu 16 [rdr L f.rv f i, .agg ⟨[f.rv.a, f.rv.b, f.rv.c, f.rv.d]⟩, .pointer none, .bool true] (.bool (bOk fs f.free f.locs (decide (i = 0)) false [] f.body)) := by
  have p := pu_16 fs L hL f.rv i f (decide (i = 0)) (by rw [decide_eq_true_eq]; omega) (decN0 i).symm f.body [] true hs
  rw [f.body.v_eq, Bool.not_true, show seenV [] = .pointer none from rfl] at p
  exact p
theorem pu_6 (fs : List Fun) (hl : fs.length < big) (hs : ∀ f, f ∈ fs → bSm f.body) : Pu 6 [funsV fs] (.bool (right fs)) := Pure.of rfl fun H nx => by
  have hL : LOK (fs.map Fun.v) fs := ⟨by simp, fun i f h => ⟨_, _, _, _, _, funs_get h⟩⟩
  rw [q6, funsV, frzV_22]
  simp only [oneCell_int, oneCell_str, oneCell_bool, oneCell_row, oneCell_ep, oneCell_nilp, cond_true, cond_false, optK_some, ldV_int, ldV_str, ldV_bool, ldV_row, ldV_ep, ldV_nilp, rdBin_add, rdBin_sub, rdBin_mul, rdBin_lss, rdBin_leq, rdBin_gtr, rdBin_geq, rdBin_eql, rdBin_neq, rdBin_seql, rdBin_sneq, unV_not, bvK_bool, bK_true, bK_false, Bool.not_true, Bool.not_false, Bool.not_not, rdNil_ep, rdNil_ptr, oneCell_sl, ldV_sl, vEq_self, List.length_nil, Int.cast_ofNat_Int, Int.reduceEq, Int.reduceLT, Int.reduceLE, decide_true, decide_false, eq_self, Bool.and_self, fa_26_0, fa_26_1, fa_26_2, fa_26_3, fa_31_0, fa_31_1, fa_31_2, fa_31_3, fa_33_0, fa_33_1, fa_33_2, fa_43_0, fa_43_1, fa_43_2, fa_43_3, fa_43_4, fa_43_5, fa_58_0, fa_58_1, fa_58_2, fa_62_0, fa_62_1, fa_62_2, fa_62_3, fa_62_4, fa_101_0, fa_101_1, fp_26_0, fp_26_1, fp_26_2, fp_26_3, fp_31_0, fp_31_1, fp_31_2, fp_31_3, fp_33_0, fp_33_1, fp_33_2, fp_43_0, fp_43_1, fp_43_2, fp_43_3, fp_43_4, fp_43_5, fp_62_0, fp_62_1, fp_62_2, fp_62_3, fp_62_4, ld_2, ld_3, ld_9, ld_22, ld_26, ld_27, ld_28, ld_29, ld_31, ld_33, ld_40, ld_41, ld_43, ld_62, ld_97, len_9, len_22, lenS_22, lenN_22, len_27, lenS_27, lenN_27, len_28, lenS_28, lenN_28, len_29, lenS_29, lenN_29, len_40, lenS_40, lenN_40, len_41, lenS_41, lenN_41, pneq_97, pneq0_97, List.length_map]
  exact w_6_7 (fs.map Fun.v) fs hl (by simp) (fun i f h => ⟨f.rv, funs_get h, rv_ok f, fun H nx hA => .pure (rv_call hL f i (hs f (List.mem_of_getElem? h))) hA⟩) H nx (.refl _ _)
/-- One more function: it ends with its argument. -/
def lastF (free locs : Int) : Fun := ⟨free, locs, .mk [] 1 [⟨4, 0, 0, E0⟩] []⟩
abbrev lastR (b : Nat) : RV := ⟨.slice none 0 0, i64 1, .slice (some ⟨b, 0, none⟩) 1 1, .slice none 0 0⟩
theorem w_29_last {nx0 : Nat} {H0 : T OB} {H : T OB} {nx b : Nat} (L : List Value) (r : RV) (f : Fun) (k : Int) (first : Bool) (hk : first = true ↔ ¬ 0 < k) (hA : Ag nx0 H0 nx H) (hb : IsB H b [i64 4, i64 0, i64 0, .string E0] 26) (hbx : b < nx) :
    Wq P pl X (evT P pl (.call 29 [rdr L r f k, .slice (some ⟨b, 0, none⟩) 1 1, .pointer none] false none H nx)) nx0 H0 (.bool (!first)) := by
  rw [q29]
  simp only [oneCell_int, oneCell_str, oneCell_bool, oneCell_row, oneCell_ep, oneCell_nilp, cond_true, cond_false, optK_some, ldV_int, ldV_str, ldV_bool, ldV_row, ldV_ep, ldV_nilp, rdBin_add, rdBin_sub, rdBin_mul, rdBin_lss, rdBin_leq, rdBin_gtr, rdBin_geq, rdBin_eql, rdBin_neq, rdBin_seql, rdBin_sneq, unV_not, bvK_bool, bK_true, bK_false, Bool.not_true, Bool.not_false, Bool.not_not, rdNil_ep, rdNil_ptr, oneCell_sl, ldV_sl, vEq_self, List.length_nil, Int.cast_ofNat_Int, Int.reduceEq, Int.reduceLT, Int.reduceLE, decide_true, decide_false, eq_self, Bool.and_self, fa_26_0, fa_26_1, fa_26_2, fa_26_3, fa_31_0, fa_31_1, fa_31_2, fa_31_3, fa_33_0, fa_33_1, fa_33_2, fa_43_0, fa_43_1, fa_43_2, fa_43_3, fa_43_4, fa_43_5, fa_58_0, fa_58_1, fa_58_2, fa_62_0, fa_62_1, fa_62_2, fa_62_3, fa_62_4, fa_101_0, fa_101_1, fp_26_0, fp_26_1, fp_26_2, fp_26_3, fp_31_0, fp_31_1, fp_31_2, fp_31_3, fp_33_0, fp_33_1, fp_33_2, fp_43_0, fp_43_1, fp_43_2, fp_43_3, fp_43_4, fp_43_5, fp_62_0, fp_62_1, fp_62_2, fp_62_3, fp_62_4, ld_2, ld_3, ld_9, ld_22, ld_26, ld_27, ld_28, ld_29, ld_31, ld_33, ld_40, ld_41, ld_43, ld_62, ld_97, len_9, len_22, lenS_22, lenN_22, len_27, lenS_27, lenN_27, len_28, lenS_28, lenN_28, len_29, lenS_29, lenN_29, len_40, lenS_40, lenN_40, len_41, lenS_41, lenN_41, pneq_97, pneq0_97]
  refine Wq.jmp (q29_7 ..) (fun _ => rfl) ?_
  have hix := ixs_27 (b := b) (off := 0) (len := 1) (c := 1) (i := 0) (by omega) .i64
  rw [show ((0 : Nat) : Int) = 0 from rfl] at hix
  simp only [oneCell_int, oneCell_str, oneCell_bool, oneCell_row, oneCell_ep, oneCell_nilp, cond_true, cond_false, optK_some, ldV_int, ldV_str, ldV_bool, ldV_row, ldV_ep, ldV_nilp, rdBin_add, rdBin_sub, rdBin_mul, rdBin_lss, rdBin_leq, rdBin_gtr, rdBin_geq, rdBin_eql, rdBin_neq, rdBin_seql, rdBin_sneq, unV_not, bvK_bool, bK_true, bK_false, Bool.not_true, Bool.not_false, Bool.not_not, rdNil_ep, rdNil_ptr, oneCell_sl, ldV_sl, vEq_self, List.length_nil, Int.cast_ofNat_Int, Int.reduceEq, Int.reduceLT, Int.reduceLE, decide_true, decide_false, eq_self, Bool.and_self, fa_26_0, fa_26_1, fa_26_2, fa_26_3, fa_31_0, fa_31_1, fa_31_2, fa_31_3, fa_33_0, fa_33_1, fa_33_2, fa_43_0, fa_43_1, fa_43_2, fa_43_3, fa_43_4, fa_43_5, fa_58_0, fa_58_1, fa_58_2, fa_62_0, fa_62_1, fa_62_2, fa_62_3, fa_62_4, fa_101_0, fa_101_1, fp_26_0, fp_26_1, fp_26_2, fp_26_3, fp_31_0, fp_31_1, fp_31_2, fp_31_3, fp_33_0, fp_33_1, fp_33_2, fp_43_0, fp_43_1, fp_43_2, fp_43_3, fp_43_4, fp_43_5, fp_62_0, fp_62_1, fp_62_2, fp_62_3, fp_62_4, ld_2, ld_3, ld_9, ld_22, ld_26, ld_27, ld_28, ld_29, ld_31, ld_33, ld_40, ld_41, ld_43, ld_62, ld_97, len_9, len_22, lenS_22, lenN_22, len_27, lenS_27, lenN_27, len_28, lenS_28, lenN_28, len_29, lenS_29, lenN_29, len_40, lenS_40, lenN_40, len_41, lenS_41, lenN_41, pneq_97, pneq0_97, show decide ((0 : Int) < ((1 : Nat) : Int)) = true from rfl, hix]
  have hld : rdLoad P H 26 (some (.pointer (some ⟨b, 0 + 0 * 4, none⟩))) = some (.agg ⟨[i64 4, i64 0, i64 0, .string E0]⟩) := rdLoad_agg hb agg_26 sz_26 (by simp)
  simp only [oneCell_int, oneCell_str, oneCell_bool, oneCell_row, oneCell_ep, oneCell_nilp, cond_true, cond_false, optK_some, ldV_int, ldV_str, ldV_bool, ldV_row, ldV_ep, ldV_nilp, rdBin_add, rdBin_sub, rdBin_mul, rdBin_lss, rdBin_leq, rdBin_gtr, rdBin_geq, rdBin_eql, rdBin_neq, rdBin_seql, rdBin_sneq, unV_not, bvK_bool, bK_true, bK_false, Bool.not_true, Bool.not_false, Bool.not_not, rdNil_ep, rdNil_ptr, oneCell_sl, ldV_sl, vEq_self, List.length_nil, Int.cast_ofNat_Int, Int.reduceEq, Int.reduceLT, Int.reduceLE, decide_true, decide_false, eq_self, Bool.and_self, fa_26_0, fa_26_1, fa_26_2, fa_26_3, fa_31_0, fa_31_1, fa_31_2, fa_31_3, fa_33_0, fa_33_1, fa_33_2, fa_43_0, fa_43_1, fa_43_2, fa_43_3, fa_43_4, fa_43_5, fa_58_0, fa_58_1, fa_58_2, fa_62_0, fa_62_1, fa_62_2, fa_62_3, fa_62_4, fa_101_0, fa_101_1, fp_26_0, fp_26_1, fp_26_2, fp_26_3, fp_31_0, fp_31_1, fp_31_2, fp_31_3, fp_33_0, fp_33_1, fp_33_2, fp_43_0, fp_43_1, fp_43_2, fp_43_3, fp_43_4, fp_43_5, fp_62_0, fp_62_1, fp_62_2, fp_62_3, fp_62_4, ld_2, ld_3, ld_9, ld_22, ld_26, ld_27, ld_28, ld_29, ld_31, ld_33, ld_40, ld_41, ld_43, ld_62, ld_97, len_9, len_22, lenS_22, lenN_22, len_27, lenS_27, lenN_27, len_28, lenS_28, lenN_28, len_29, lenS_29, lenN_29, len_40, lenS_40, lenN_40, len_41, lenS_41, lenN_41, pneq_97, pneq0_97, hld]
  refine Wq.varB zero_26 sz_26 rfl rfl rfl hA fun H2 nx2 hA2 _ _ => ?_
  refine Wq.call (pu_44 L r f k ⟨4, 0, 0, E0⟩ [] first hk) hA2 fun H3 nx3 hA3 => ?_
  have e : aOk f.free f.locs first [] ⟨4, 0, 0, E0⟩ = !first := by simp [aOk]
  rw [e]
  simp only [oneCell_int, oneCell_str, oneCell_bool, oneCell_row, oneCell_ep, oneCell_nilp, cond_true, cond_false, optK_some, ldV_int, ldV_str, ldV_bool, ldV_row, ldV_ep, ldV_nilp, rdBin_add, rdBin_sub, rdBin_mul, rdBin_lss, rdBin_leq, rdBin_gtr, rdBin_geq, rdBin_eql, rdBin_neq, rdBin_seql, rdBin_sneq, unV_not, bvK_bool, bK_true, bK_false, Bool.not_true, Bool.not_false, Bool.not_not, rdNil_ep, rdNil_ptr, oneCell_sl, ldV_sl, vEq_self, List.length_nil, Int.cast_ofNat_Int, Int.reduceEq, Int.reduceLT, Int.reduceLE, decide_true, decide_false, eq_self, Bool.and_self, fa_26_0, fa_26_1, fa_26_2, fa_26_3, fa_31_0, fa_31_1, fa_31_2, fa_31_3, fa_33_0, fa_33_1, fa_33_2, fa_43_0, fa_43_1, fa_43_2, fa_43_3, fa_43_4, fa_43_5, fa_58_0, fa_58_1, fa_58_2, fa_62_0, fa_62_1, fa_62_2, fa_62_3, fa_62_4, fa_101_0, fa_101_1, fp_26_0, fp_26_1, fp_26_2, fp_26_3, fp_31_0, fp_31_1, fp_31_2, fp_31_3, fp_33_0, fp_33_1, fp_33_2, fp_43_0, fp_43_1, fp_43_2, fp_43_3, fp_43_4, fp_43_5, fp_62_0, fp_62_1, fp_62_2, fp_62_3, fp_62_4, ld_2, ld_3, ld_9, ld_22, ld_26, ld_27, ld_28, ld_29, ld_31, ld_33, ld_40, ld_41, ld_43, ld_62, ld_97, len_9, len_22, lenS_22, lenN_22, len_27, lenS_27, lenN_27, len_28, lenS_28, lenN_28, len_29, lenS_29, lenN_29, len_40, lenS_40, lenN_40, len_41, lenS_41, lenN_41, pneq_97, pneq0_97]
  cases first
  · simp only [oneCell_int, oneCell_str, oneCell_bool, oneCell_row, oneCell_ep, oneCell_nilp, cond_true, cond_false, optK_some, ldV_int, ldV_str, ldV_bool, ldV_row, ldV_ep, ldV_nilp, rdBin_add, rdBin_sub, rdBin_mul, rdBin_lss, rdBin_leq, rdBin_gtr, rdBin_geq, rdBin_eql, rdBin_neq, rdBin_seql, rdBin_sneq, unV_not, bvK_bool, bK_true, bK_false, Bool.not_true, Bool.not_false, Bool.not_not, rdNil_ep, rdNil_ptr, oneCell_sl, ldV_sl, vEq_self, List.length_nil, Int.cast_ofNat_Int, Int.reduceEq, Int.reduceLT, Int.reduceLE, decide_true, decide_false, eq_self, Bool.and_self, fa_26_0, fa_26_1, fa_26_2, fa_26_3, fa_31_0, fa_31_1, fa_31_2, fa_31_3, fa_33_0, fa_33_1, fa_33_2, fa_43_0, fa_43_1, fa_43_2, fa_43_3, fa_43_4, fa_43_5, fa_58_0, fa_58_1, fa_58_2, fa_62_0, fa_62_1, fa_62_2, fa_62_3, fa_62_4, fa_101_0, fa_101_1, fp_26_0, fp_26_1, fp_26_2, fp_26_3, fp_31_0, fp_31_1, fp_31_2, fp_31_3, fp_33_0, fp_33_1, fp_33_2, fp_43_0, fp_43_1, fp_43_2, fp_43_3, fp_43_4, fp_43_5, fp_62_0, fp_62_1, fp_62_2, fp_62_3, fp_62_4, ld_2, ld_3, ld_9, ld_22, ld_26, ld_27, ld_28, ld_29, ld_31, ld_33, ld_40, ld_41, ld_43, ld_62, ld_97, len_9, len_22, lenS_22, lenN_22, len_27, lenS_27, lenN_27, len_28, lenS_28, lenN_28, len_29, lenS_29, lenN_29, len_40, lenS_40, lenN_40, len_41, lenS_41, lenN_41, pneq_97, pneq0_97, Bool.not_false, show IntKind.i64.wrap (0 + 1) = 1 from rfl]
    refine Wq.jmp (q29_7 ..) (fun _ => rfl) ?_
    simp only [oneCell_int, oneCell_str, oneCell_bool, oneCell_row, oneCell_ep, oneCell_nilp, cond_true, cond_false, optK_some, ldV_int, ldV_str, ldV_bool, ldV_row, ldV_ep, ldV_nilp, rdBin_add, rdBin_sub, rdBin_mul, rdBin_lss, rdBin_leq, rdBin_gtr, rdBin_geq, rdBin_eql, rdBin_neq, rdBin_seql, rdBin_sneq, unV_not, bvK_bool, bK_true, bK_false, Bool.not_true, Bool.not_false, Bool.not_not, rdNil_ep, rdNil_ptr, oneCell_sl, ldV_sl, vEq_self, List.length_nil, Int.cast_ofNat_Int, Int.reduceEq, Int.reduceLT, Int.reduceLE, decide_true, decide_false, eq_self, Bool.and_self, fa_26_0, fa_26_1, fa_26_2, fa_26_3, fa_31_0, fa_31_1, fa_31_2, fa_31_3, fa_33_0, fa_33_1, fa_33_2, fa_43_0, fa_43_1, fa_43_2, fa_43_3, fa_43_4, fa_43_5, fa_58_0, fa_58_1, fa_58_2, fa_62_0, fa_62_1, fa_62_2, fa_62_3, fa_62_4, fa_101_0, fa_101_1, fp_26_0, fp_26_1, fp_26_2, fp_26_3, fp_31_0, fp_31_1, fp_31_2, fp_31_3, fp_33_0, fp_33_1, fp_33_2, fp_43_0, fp_43_1, fp_43_2, fp_43_3, fp_43_4, fp_43_5, fp_62_0, fp_62_1, fp_62_2, fp_62_3, fp_62_4, ld_2, ld_3, ld_9, ld_22, ld_26, ld_27, ld_28, ld_29, ld_31, ld_33, ld_40, ld_41, ld_43, ld_62, ld_97, len_9, len_22, lenS_22, lenN_22, len_27, lenS_27, lenN_27, len_28, lenS_28, lenN_28, len_29, lenS_29, lenN_29, len_40, lenS_40, lenN_40, len_41, lenS_41, lenN_41, pneq_97, pneq0_97, show decide ((1 : Int) < ((1 : Nat) : Int)) = false from rfl]
    exact Wq.ret hA3
  · exact Wq.ret hA3
theorem w_16_last {nx0 : Nat} {H0 : T OB} {H : T OB} {nx b : Nat} (L : List Value) (r : RV) (f : Fun) (k : Int) (first : Bool) (hk : first = true ↔ ¬ 0 < k) (hA : Ag nx0 H0 nx H) (hb : IsB H b [i64 4, i64 0, i64 0, .string E0] 26) (hbx : b < nx) :
    Wq P pl X (evT P pl (.call 16 [rdr L r f k, .agg ⟨[.slice none 0 0, i64 1, .slice (some ⟨b, 0, none⟩) 1 1, .slice none 0 0]⟩, .pointer none, .bool true] false none H nx)) nx0 H0 (.bool (!first)) := by
  rw [q16]
  refine Wq.natF' hA fun hA => ?_
  simp only [oneCell_int, oneCell_str, oneCell_bool, oneCell_row, oneCell_ep, oneCell_nilp, cond_true, cond_false, optK_some, ldV_int, ldV_str, ldV_bool, ldV_row, ldV_ep, ldV_nilp, rdBin_add, rdBin_sub, rdBin_mul, rdBin_lss, rdBin_leq, rdBin_gtr, rdBin_geq, rdBin_eql, rdBin_neq, rdBin_seql, rdBin_sneq, unV_not, bvK_bool, bK_true, bK_false, Bool.not_true, Bool.not_false, Bool.not_not, rdNil_ep, rdNil_ptr, oneCell_sl, ldV_sl, vEq_self, List.length_nil, Int.cast_ofNat_Int, Int.reduceEq, Int.reduceLT, Int.reduceLE, decide_true, decide_false, eq_self, Bool.and_self, fa_26_0, fa_26_1, fa_26_2, fa_26_3, fa_31_0, fa_31_1, fa_31_2, fa_31_3, fa_33_0, fa_33_1, fa_33_2, fa_43_0, fa_43_1, fa_43_2, fa_43_3, fa_43_4, fa_43_5, fa_58_0, fa_58_1, fa_58_2, fa_62_0, fa_62_1, fa_62_2, fa_62_3, fa_62_4, fa_101_0, fa_101_1, fp_26_0, fp_26_1, fp_26_2, fp_26_3, fp_31_0, fp_31_1, fp_31_2, fp_31_3, fp_33_0, fp_33_1, fp_33_2, fp_43_0, fp_43_1, fp_43_2, fp_43_3, fp_43_4, fp_43_5, fp_62_0, fp_62_1, fp_62_2, fp_62_3, fp_62_4, ld_2, ld_3, ld_9, ld_22, ld_26, ld_27, ld_28, ld_29, ld_31, ld_33, ld_40, ld_41, ld_43, ld_62, ld_97, len_9, len_22, lenS_22, lenN_22, len_27, lenS_27, lenN_27, len_28, lenS_28, lenN_28, len_29, lenS_29, lenN_29, len_40, lenS_40, lenN_40, len_41, lenS_41, lenN_41, pneq_97, pneq0_97]
  refine Wq.jmp (q16_7 ..) (fun _ => rfl) ?_
  simp only [oneCell_int, oneCell_str, oneCell_bool, oneCell_row, oneCell_ep, oneCell_nilp, cond_true, cond_false, optK_some, ldV_int, ldV_str, ldV_bool, ldV_row, ldV_ep, ldV_nilp, rdBin_add, rdBin_sub, rdBin_mul, rdBin_lss, rdBin_leq, rdBin_gtr, rdBin_geq, rdBin_eql, rdBin_neq, rdBin_seql, rdBin_sneq, unV_not, bvK_bool, bK_true, bK_false, Bool.not_true, Bool.not_false, Bool.not_not, rdNil_ep, rdNil_ptr, oneCell_sl, ldV_sl, vEq_self, List.length_nil, Int.cast_ofNat_Int, Int.reduceEq, Int.reduceLT, Int.reduceLE, decide_true, decide_false, eq_self, Bool.and_self, fa_26_0, fa_26_1, fa_26_2, fa_26_3, fa_31_0, fa_31_1, fa_31_2, fa_31_3, fa_33_0, fa_33_1, fa_33_2, fa_43_0, fa_43_1, fa_43_2, fa_43_3, fa_43_4, fa_43_5, fa_58_0, fa_58_1, fa_58_2, fa_62_0, fa_62_1, fa_62_2, fa_62_3, fa_62_4, fa_101_0, fa_101_1, fp_26_0, fp_26_1, fp_26_2, fp_26_3, fp_31_0, fp_31_1, fp_31_2, fp_31_3, fp_33_0, fp_33_1, fp_33_2, fp_43_0, fp_43_1, fp_43_2, fp_43_3, fp_43_4, fp_43_5, fp_62_0, fp_62_1, fp_62_2, fp_62_3, fp_62_4, ld_2, ld_3, ld_9, ld_22, ld_26, ld_27, ld_28, ld_29, ld_31, ld_33, ld_40, ld_41, ld_43, ld_62, ld_97, len_9, len_22, lenS_22, lenN_22, len_27, lenS_27, lenN_27, len_28, lenS_28, lenN_28, len_29, lenS_29, lenN_29, len_40, lenS_40, lenN_40, len_41, lenS_41, lenN_41, pneq_97, pneq0_97]
  refine Wq.callAt rfl (w_29_last L r f k first hk hA hb (by omega)) fun H3 nx3 hA3 => ?_
  simp only [oneCell_int, oneCell_str, oneCell_bool, oneCell_row, oneCell_ep, oneCell_nilp, cond_true, cond_false, optK_some, ldV_int, ldV_str, ldV_bool, ldV_row, ldV_ep, ldV_nilp, rdBin_add, rdBin_sub, rdBin_mul, rdBin_lss, rdBin_leq, rdBin_gtr, rdBin_geq, rdBin_eql, rdBin_neq, rdBin_seql, rdBin_sneq, unV_not, bvK_bool, bK_true, bK_false, Bool.not_true, Bool.not_false, Bool.not_not, rdNil_ep, rdNil_ptr, oneCell_sl, ldV_sl, vEq_self, List.length_nil, Int.cast_ofNat_Int, Int.reduceEq, Int.reduceLT, Int.reduceLE, decide_true, decide_false, eq_self, Bool.and_self, fa_26_0, fa_26_1, fa_26_2, fa_26_3, fa_31_0, fa_31_1, fa_31_2, fa_31_3, fa_33_0, fa_33_1, fa_33_2, fa_43_0, fa_43_1, fa_43_2, fa_43_3, fa_43_4, fa_43_5, fa_58_0, fa_58_1, fa_58_2, fa_62_0, fa_62_1, fa_62_2, fa_62_3, fa_62_4, fa_101_0, fa_101_1, fp_26_0, fp_26_1, fp_26_2, fp_26_3, fp_31_0, fp_31_1, fp_31_2, fp_31_3, fp_33_0, fp_33_1, fp_33_2, fp_43_0, fp_43_1, fp_43_2, fp_43_3, fp_43_4, fp_43_5, fp_62_0, fp_62_1, fp_62_2, fp_62_3, fp_62_4, ld_2, ld_3, ld_9, ld_22, ld_26, ld_27, ld_28, ld_29, ld_31, ld_33, ld_40, ld_41, ld_43, ld_62, ld_97, len_9, len_22, lenS_22, lenN_22, len_27, lenS_27, lenN_27, len_28, lenS_28, lenN_28, len_29, lenS_29, lenN_29, len_40, lenS_40, lenN_40, len_41, lenS_41, lenN_41, pneq_97, pneq0_97]
  cases first
  · simp only [oneCell_int, oneCell_str, oneCell_bool, oneCell_row, oneCell_ep, oneCell_nilp, cond_true, cond_false, optK_some, ldV_int, ldV_str, ldV_bool, ldV_row, ldV_ep, ldV_nilp, rdBin_add, rdBin_sub, rdBin_mul, rdBin_lss, rdBin_leq, rdBin_gtr, rdBin_geq, rdBin_eql, rdBin_neq, rdBin_seql, rdBin_sneq, unV_not, bvK_bool, bK_true, bK_false, Bool.not_true, Bool.not_false, Bool.not_not, rdNil_ep, rdNil_ptr, oneCell_sl, ldV_sl, vEq_self, List.length_nil, Int.cast_ofNat_Int, Int.reduceEq, Int.reduceLT, Int.reduceLE, decide_true, decide_false, eq_self, Bool.and_self, fa_26_0, fa_26_1, fa_26_2, fa_26_3, fa_31_0, fa_31_1, fa_31_2, fa_31_3, fa_33_0, fa_33_1, fa_33_2, fa_43_0, fa_43_1, fa_43_2, fa_43_3, fa_43_4, fa_43_5, fa_58_0, fa_58_1, fa_58_2, fa_62_0, fa_62_1, fa_62_2, fa_62_3, fa_62_4, fa_101_0, fa_101_1, fp_26_0, fp_26_1, fp_26_2, fp_26_3, fp_31_0, fp_31_1, fp_31_2, fp_31_3, fp_33_0, fp_33_1, fp_33_2, fp_43_0, fp_43_1, fp_43_2, fp_43_3, fp_43_4, fp_43_5, fp_62_0, fp_62_1, fp_62_2, fp_62_3, fp_62_4, ld_2, ld_3, ld_9, ld_22, ld_26, ld_27, ld_28, ld_29, ld_31, ld_33, ld_40, ld_41, ld_43, ld_62, ld_97, len_9, len_22, lenS_22, lenN_22, len_27, lenS_27, lenN_27, len_28, lenS_28, lenN_28, len_29, lenS_29, lenN_29, len_40, lenS_40, lenN_40, len_41, lenS_41, lenN_41, pneq_97, pneq0_97]
    refine Wq.jmp (q16_45 ..) (fun _ => rfl) ?_
    simp only [oneCell_int, oneCell_str, oneCell_bool, oneCell_row, oneCell_ep, oneCell_nilp, cond_true, cond_false, optK_some, ldV_int, ldV_str, ldV_bool, ldV_row, ldV_ep, ldV_nilp, rdBin_add, rdBin_sub, rdBin_mul, rdBin_lss, rdBin_leq, rdBin_gtr, rdBin_geq, rdBin_eql, rdBin_neq, rdBin_seql, rdBin_sneq, unV_not, bvK_bool, bK_true, bK_false, Bool.not_true, Bool.not_false, Bool.not_not, rdNil_ep, rdNil_ptr, oneCell_sl, ldV_sl, vEq_self, List.length_nil, Int.cast_ofNat_Int, Int.reduceEq, Int.reduceLT, Int.reduceLE, decide_true, decide_false, eq_self, Bool.and_self, fa_26_0, fa_26_1, fa_26_2, fa_26_3, fa_31_0, fa_31_1, fa_31_2, fa_31_3, fa_33_0, fa_33_1, fa_33_2, fa_43_0, fa_43_1, fa_43_2, fa_43_3, fa_43_4, fa_43_5, fa_58_0, fa_58_1, fa_58_2, fa_62_0, fa_62_1, fa_62_2, fa_62_3, fa_62_4, fa_101_0, fa_101_1, fp_26_0, fp_26_1, fp_26_2, fp_26_3, fp_31_0, fp_31_1, fp_31_2, fp_31_3, fp_33_0, fp_33_1, fp_33_2, fp_43_0, fp_43_1, fp_43_2, fp_43_3, fp_43_4, fp_43_5, fp_62_0, fp_62_1, fp_62_2, fp_62_3, fp_62_4, ld_2, ld_3, ld_9, ld_22, ld_26, ld_27, ld_28, ld_29, ld_31, ld_33, ld_40, ld_41, ld_43, ld_62, ld_97, len_9, len_22, lenS_22, lenN_22, len_27, lenS_27, lenN_27, len_28, lenS_28, lenN_28, len_29, lenS_29, lenN_29, len_40, lenS_40, lenN_40, len_41, lenS_41, lenN_41, pneq_97, pneq0_97]
    refine Wq.jmp (q16_60 ..) (fun _ => rfl) ?_
    simp only [oneCell_int, oneCell_str, oneCell_bool, oneCell_row, oneCell_ep, oneCell_nilp, cond_true, cond_false, optK_some, ldV_int, ldV_str, ldV_bool, ldV_row, ldV_ep, ldV_nilp, rdBin_add, rdBin_sub, rdBin_mul, rdBin_lss, rdBin_leq, rdBin_gtr, rdBin_geq, rdBin_eql, rdBin_neq, rdBin_seql, rdBin_sneq, unV_not, bvK_bool, bK_true, bK_false, Bool.not_true, Bool.not_false, Bool.not_not, rdNil_ep, rdNil_ptr, oneCell_sl, ldV_sl, vEq_self, List.length_nil, Int.cast_ofNat_Int, Int.reduceEq, Int.reduceLT, Int.reduceLE, decide_true, decide_false, eq_self, Bool.and_self, fa_26_0, fa_26_1, fa_26_2, fa_26_3, fa_31_0, fa_31_1, fa_31_2, fa_31_3, fa_33_0, fa_33_1, fa_33_2, fa_43_0, fa_43_1, fa_43_2, fa_43_3, fa_43_4, fa_43_5, fa_58_0, fa_58_1, fa_58_2, fa_62_0, fa_62_1, fa_62_2, fa_62_3, fa_62_4, fa_101_0, fa_101_1, fp_26_0, fp_26_1, fp_26_2, fp_26_3, fp_31_0, fp_31_1, fp_31_2, fp_31_3, fp_33_0, fp_33_1, fp_33_2, fp_43_0, fp_43_1, fp_43_2, fp_43_3, fp_43_4, fp_43_5, fp_62_0, fp_62_1, fp_62_2, fp_62_3, fp_62_4, ld_2, ld_3, ld_9, ld_22, ld_26, ld_27, ld_28, ld_29, ld_31, ld_33, ld_40, ld_41, ld_43, ld_62, ld_97, len_9, len_22, lenS_22, lenN_22, len_27, lenS_27, lenN_27, len_28, lenS_28, lenN_28, len_29, lenS_29, lenN_29, len_40, lenS_40, lenN_40, len_41, lenS_41, lenN_41, pneq_97, pneq0_97]
    exact Wq.ret hA3
  · exact Wq.ret hA3
end
end Go.Proofs.YtfdgoenmdalphaaDoor
