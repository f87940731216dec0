/- One function more behind a right list: the law. -/
import Derived.Test.YtfdgoenmdalphaaDoorS13
namespace Go.Proofs.YtfdgoenmdalphaaDoor
open Go.Ev Go.RowKit
noncomputable section
set_option maxRecDepth 100000
set_option linter.unusedVariables false
set_option linter.unusedSimpArgs false
/-! more functions -/
theorem at_mono {fs ext : List Fun} {n : Int} {f : Fun} (h : at? fs n = some f) : at? (fs ++ ext) n = some f := by
  unfold at? at h ⊢
  split at h
  · cases h
  · rename_i hn
    rw [if_neg hn, List.getElem?_append_left (List.getElem?_eq_some_iff.1 h).1]
    exact h
theorem nd_mono {fs ext : List Fun} {s : Step} (h : 0 ≤ (nd fs s).1) : nd (fs ++ ext) s = nd fs s := by
  by_cases h4 : s.k = 4
  · unfold nd at h ⊢
    simp only [h4] at h ⊢
    cases hq : at? fs s.n with
    | none => rw [hq] at h; simp at h
    | some f => rw [at_mono hq]
  · unfold nd
    simp only [h4, if_false]
theorem stOk_mono {fs ext : List Fun} {free locs : Int} {first : Bool} {g : List Int} {s : Step} (h : stOk fs free locs first g s = true) : stOk (fs ++ ext) free locs first g s = true := by
  have h0 : 0 ≤ (nd fs s).1 := by
    unfold stOk at h
    split at h
    · cases h
    · omega
  unfold stOk at h ⊢
  rw [nd_mono h0]
  exact h
theorem l2Ok_mono {fs ext : List Fun} {free locs : Int} {first : Bool} : ∀ (l : List Block) (g h : List Int), (∀ c, c ∈ l → ∀ inner g, bOk fs free locs first inner g c = true → bOk (fs ++ ext) free locs first inner g c = true) → l2Ok fs free locs first g h l = true → l2Ok (fs ++ ext) free locs first g h l = true
  | [], _, _, _, _ => by rw [l2Ok]
  | b :: l, g, h, hp, hq => by
    rw [l2Ok, Bool.and_eq_true] at hq ⊢
    exact ⟨hp b List.mem_cons_self _ _ hq.1, l2Ok_mono l h h (fun c hc => hp c (List.mem_cons_of_mem _ hc)) hq.2⟩
theorem lOk_mono {fs ext : List Fun} {free locs : Int} {first inner : Bool} {g : List Int} : ∀ (l : List Block), (∀ c, c ∈ l → ∀ inner g, bOk fs free locs first inner g c = true → bOk (fs ++ ext) free locs first inner g c = true) → lOk fs free locs first inner g l = true → lOk (fs ++ ext) free locs first inner g l = true
  | [], _, _ => by rw [lOk]
  | b :: l, hp, hq => by
    rw [lOk, Bool.and_eq_true] at hq ⊢
    exact ⟨hp b List.mem_cons_self _ _ hq.1, lOk_mono l (fun c hc => hp c (List.mem_cons_of_mem _ hc)) hq.2⟩
theorem ssOk_mono {fs ext : List Fun} {free locs : Int} {first : Bool} : ∀ (l : List Step) (g g' : List Int), (∀ s, s ∈ l → ∀ c, c ∈ s.blocks → ∀ inner g, bOk fs free locs first inner g c = true → bOk (fs ++ ext) free locs first inner g c = true) → ssOk fs free locs first g l = some g' → ssOk (fs ++ ext) free locs first g l = some g'
  | [], g, g', _, h => by rw [ssOk] at h ⊢; exact h
  | s :: l, g, g', hp, hq => by
    rw [ssOk] at hq ⊢
    split at hq
    · rename_i h
      rw [Bool.and_eq_true, sOk_eq] at h
      have h2 := l2Ok_mono (ext := ext) s.blocks _ _ (fun c hc => hp s List.mem_cons_self c hc) h.2
      rw [if_pos (by rw [Bool.and_eq_true, sOk_eq]; exact ⟨stOk_mono h.1, h2⟩)]
      exact ssOk_mono l _ _ (fun s hs => hp s (List.mem_cons_of_mem _ hs)) hq
    · cases hq
theorem bOk_mono (fs ext : List Fun) (free locs : Int) (first : Bool) (b : Block) : ∀ (inner : Bool) (g : List Int), bOk fs free locs first inner g b = true → bOk (fs ++ ext) free locs first inner g b = true := by
  refine Block.ind (p := fun b => ∀ (inner : Bool) (g : List Int), bOk fs free locs first inner g b = true → bOk (fs ++ ext) free locs first inner g b = true) (fun b hs hb inner g h => ?_) b
  rw [bOk_eq] at h ⊢
  split at h
  · cases h
  · rename_i g' hg
    simp only [Bool.and_eq_true] at h
    rw [ssOk_mono b.steps g g' hs hg]
    simp only [Bool.and_eq_true]
    exact ⟨h.1, h.2.1, lOk_mono b.blocks hb h.2.2⟩
theorem rgt_mono {fs ext : List Fun} {x : Fun} (hx : ∀ k, 0 < k → fOk (fs ++ ext) k x = true) : ∀ (l : List Fun) (k : Nat), 0 < k + l.length → rgt fs k l = true → rgt (fs ++ ext) k (l ++ [x]) = true
  | [], k, hk, _ => by
    rw [List.nil_append, rgt, rgt, hx k (by simpa using hk)]; rfl
  | f :: l, k, hk, h => by
    rw [List.cons_append, rgt, Bool.and_eq_true]
    rw [rgt, Bool.and_eq_true] at h
    refine ⟨?_, rgt_mono hx l (k + 1) (by omega) h.2⟩
    have h1 := h.1
    unfold fOk at h1 ⊢
    rw [Bool.and_eq_true] at h1 ⊢
    exact ⟨h1.1, bOk_mono _ _ _ _ _ _ _ _ h1.2⟩
theorem last_ok {fs : List Fun} {free locs : Int} (hf : 0 ≤ free) (hl : 0 ≤ locs) (k : Nat) (hk : 0 < k) : fOk fs k (lastF free locs) = true := by
  unfold fOk
  have h1 : decide ((lastF free locs).free < 0 ∨ (lastF free locs).locs < 0 ∨ (k = 0 ∧ (lastF free locs).free ≠ 0)) = false := by
    rw [decide_eq_false_iff_not]; simp only [lastF]; omega
  rw [h1]
  have hk0 : decide (k = 0) = false := by simp; omega
  simp only [lastF, bOk_eq, Block.steps, Block.args, Block.blocks, Block.e, ssOk, lOk, hk0]
  simp [aOk, endOk]
theorem last_bad (fs : List Fun) (free locs : Int) : fOk fs 0 (lastF free locs) = false := by
  unfold fOk
  simp only [lastF, bOk_eq, Block.steps, Block.args, Block.blocks, Block.e, ssOk, lOk]
  simp [aOk, endOk]
theorem last_neg (fs : List Fun) (free locs : Int) (h : free < 0 ∨ locs < 0) (k : Nat) : fOk fs k (lastF free locs) = false := by
  unfold fOk
  have h1 : decide ((lastF free locs).free < 0 ∨ (lastF free locs).locs < 0 ∨ (k = 0 ∧ (lastF free locs).free ≠ 0)) = true := by
    rw [decide_eq_true_eq]; simp only [lastF]; omega
  rw [h1]; rfl
theorem rgt_last {fs : List Fun} {x : Fun} (hx : ∀ k, fOk fs k x = false) : ∀ (l : List Fun) (k : Nat), rgt fs k (l ++ [x]) = false
  | [], k => by rw [List.nil_append, rgt, hx k]; rfl
  | f :: l, k => by rw [List.cons_append, rgt, rgt_last hx l (k + 1), Bool.and_false]
theorem right_more {fs : List Fun} {free locs : Int} (hf : 0 ≤ free) (hl : 0 ≤ locs) (h : right fs = true) : right (fs ++ [lastF free locs]) = true := by
  unfold right at h ⊢
  rw [Bool.and_eq_true] at h ⊢
  have h2 : 0 < fs.length := by simpa using h.2
  exact ⟨rgt_mono (fun k hk => last_ok hf hl k hk) fs 0 (by omega) h.1, by simp⟩
theorem right_neg {fs : List Fun} {free locs : Int} (h : free < 0 ∨ locs < 0) : right (fs ++ [lastF free locs]) = false := by
  unfold right
  rw [rgt_last (last_neg _ free locs h)]; rfl
theorem right_one {free locs : Int} : right ([] ++ [lastF free locs]) = false := by
  unfold right
  rw [List.nil_append, rgt, last_bad]; rfl
theorem fS_len (fs : List Fun) (hsm : ∀ f, f ∈ fs → bSm f.body) : ∀ n : Int, 0 ≤ n → n ≤ 4611686018427387904 → fS fs 500 n ≤ 500 → n + fs.length ≤ 500 := by
  induction fs with
  | nil => intro n _ _ h; rw [fS] at h; simpa using h
  | cons f l ih =>
    intro n hn hn2 h
    rw [fS] at h
    split at h
    · rename_i hle
      have e1 : w (500 - n) = 500 - n := wrap_id (by omega)
      have e2 : w (n + 1) = n + 1 := wrap_id (by omega)
      have hc := okB_all f.body (hsm f List.mem_cons_self) (500 - n) (by omega) (by omega)
      have e3 : w (w (n + 1) + bS f.body (w (500 - n))) = n + 1 + bS f.body (500 - n) := by rw [e1, e2]; exact wrap_id (by omega)
      rw [e3] at h
      have := ih (fun x hx => hsm x (List.mem_cons_of_mem _ hx)) (n + 1 + bS f.body (500 - n)) (by omega) (by omega) h
      simp only [List.length_cons]
      omega
    · omega
/-! the walk -/
def clF (f : Fun) : List Value := [i64 f.free, i64 f.locs, f.rv.a, f.rv.b, f.rv.c, f.rv.d]
abbrev lastC (free locs : Int) (b : Nat) : List Value := [i64 free, i64 locs, .slice none 0 0, i64 1, .slice (some ⟨b, 0, none⟩) 1 1, .slice none 0 0]
theorem Fun.v_cl (f : Fun) : f.v = .agg ⟨clF f⟩ := rfl
theorem cells_funs (fs : List Fun) : ((fs.map Fun.v).flatMap fun u => u.cells.toList) = (fs.map clF).flatten := by
  induction fs with
  | nil => rfl
  | cons f l ih => rw [List.map_cons, List.flatMap_cons, ih]; rfl
theorem sm_33 (n : Nat) : apSmall P 33 6 n = (Nat.ble n 1048576 && true) := by kernel_rfl
theorem sm_33' {n : Nat} (h : n ≤ 1048576) : apSmall P 33 6 n = true := by rw [sm_33, Nat.ble_eq_true_of_le h]; rfl
theorem clF_one (f : Fun) : (clF f).all oneCell = true := rfl
theorem flat_one (fs : List Fun) : ((fs.map clF).flatten).all oneCell = true := by
  induction fs with
  | nil => rfl
  | cons f l ih => rw [List.map_cons, List.flatten_cons, List.all_append, clF_one, ih]; rfl
theorem flat_len (fs : List Fun) : ((fs.map clF).flatten).length = fs.length * 6 := by
  induction fs with
  | nil => rfl
  | cons f l ih => rw [List.map_cons, List.flatten_cons, List.length_append, ih, List.length_cons]; simp [clF]; omega
theorem w_6_more {bm b n : Nat} {H : T OB} {nx : Nat} {fs : List Fun} {free locs : Int} (hl : fs.length < 1000) (hs : ∀ f, f ∈ fs → bSm f.body) (hb : IsB H b [i64 4, i64 0, i64 0, .string E0] 26) (hbb : b < bm) (hm : IsB H bm ((fs.map clF).flatten ++ lastC free locs b) 33) (hbx : bm < nx) (hn : n = fs.length + 1) :
    Wq P pl X (evT P pl (.call 6 [.slice (some ⟨bm, 0, none⟩) n unk] false none H nx)) bm H (.bool (right (fs ++ [lastF free locs]))) := by
  subst hn
  have hbig : big = 1125899906842624 := rfl
  have hcells : (fs.map clF).flatten ++ lastC free locs b = ((fs.map clF) ++ [lastC free locs b]).flatten := by simp
  rw [hcells] at hm
  have hlen : ((fs.map clF) ++ [lastC free locs b]).flatten.length = (fs.length + 1) * 6 := by
    rw [← hcells, List.length_append, flat_len]; simp; omega
  have hch := chunk_aggs 6 ((fs.map clF) ++ [lastC free locs b]) (fun x hx => by
    rcases List.mem_append.1 hx with h | h
    · obtain ⟨f, _, rfl⟩ := List.mem_map.1 h; rfl
    · rw [List.mem_singleton.1 h]; rfl)
  rw [show ((fs.map clF) ++ [lastC free locs b]).length = fs.length + 1 from by simp] at hch
  rw [q6]
  refine Wq.frz und_22 sz_33 agg_33 rfl hm hlen (by rw [Nat.beq_refl]; rfl) hch (by simp [Ev.bK]) ⟨Nat.le_of_lt hbx, fun _ _ => rfl⟩ (Nat.le_refl _) fun H2 keep hA2 => ?_
  simp only [oneCell_int, oneCell_str, oneCell_bool, oneCell_row, oneCell_ep, oneCell_nilp, cond_true, cond_false, optK_some, ldV_int, ldV_str, ldV_bool, ldV_row, ldV_ep, ldV_nilp, rdBin_add, rdBin_sub, rdBin_mul, rdBin_lss, rdBin_leq, rdBin_gtr, rdBin_geq, rdBin_eql, rdBin_neq, rdBin_seql, rdBin_sneq, unV_not, bvK_bool, bK_true, bK_false, Bool.not_true, Bool.not_false, Bool.not_not, rdNil_ep, rdNil_ptr, oneCell_sl, ldV_sl, vEq_self, List.length_nil, Int.cast_ofNat_Int, Int.reduceEq, Int.reduceLT, Int.reduceLE, decide_true, decide_false, eq_self, Bool.and_self, fa_26_0, fa_26_1, fa_26_2, fa_26_3, fa_31_0, fa_31_1, fa_31_2, fa_31_3, fa_33_0, fa_33_1, fa_33_2, fa_43_0, fa_43_1, fa_43_2, fa_43_3, fa_43_4, fa_43_5, fa_58_0, fa_58_1, fa_58_2, fa_62_0, fa_62_1, fa_62_2, fa_62_3, fa_62_4, fa_101_0, fa_101_1, fp_26_0, fp_26_1, fp_26_2, fp_26_3, fp_31_0, fp_31_1, fp_31_2, fp_31_3, fp_33_0, fp_33_1, fp_33_2, fp_43_0, fp_43_1, fp_43_2, fp_43_3, fp_43_4, fp_43_5, fp_62_0, fp_62_1, fp_62_2, fp_62_3, fp_62_4, ld_2, ld_3, ld_9, ld_22, ld_26, ld_27, ld_28, ld_29, ld_31, ld_33, ld_40, ld_41, ld_43, ld_62, ld_97, len_9, len_22, lenS_22, lenN_22, len_27, lenS_27, lenN_27, len_28, lenS_28, lenN_28, len_29, lenS_29, lenN_29, len_40, lenS_40, lenN_40, len_41, lenS_41, lenN_41, pneq_97, pneq0_97, List.length_map, List.length_append, List.length_singleton]
  have hL : (((fs.map clF) ++ [lastC free locs b]).map fun x => Value.agg ⟨x⟩).length = (fs ++ [lastF free locs]).length := by simp
  have hE : ∀ (i : Nat) (f : Fun), (fs ++ [lastF free locs])[i]? = some f → (i < fs.length ∧ fs[i]? = some f ∧ (((fs.map clF) ++ [lastC free locs b]).map fun x => Value.agg ⟨x⟩)[i]? = some (.agg ⟨clF f⟩)) ∨ (i = fs.length ∧ f = lastF free locs ∧ (((fs.map clF) ++ [lastC free locs b]).map fun x => Value.agg ⟨x⟩)[i]? = some (.agg ⟨lastC free locs b⟩)) := by
    intro i f h
    by_cases hi : i < fs.length
    · rw [List.getElem?_append_left hi] at h
      refine .inl ⟨hi, h, ?_⟩
      rw [List.map_append, List.getElem?_append_left (by simpa using hi)]
      simp [h]
    · have hlt := (List.getElem?_eq_some_iff.1 h).1
      have hi2 : i = fs.length := by simp at hlt; omega
      subst hi2
      simp at h
      exact .inr ⟨rfl, h.symm, by rw [List.map_append, List.getElem?_append_right (by simp)]; simp⟩
  have hLK : LOK (((fs.map clF) ++ [lastC free locs b]).map fun x => Value.agg ⟨x⟩) (fs ++ [lastF free locs]) := ⟨hL, fun i f h => by
    rcases hE i f h with ⟨_, _, q⟩ | ⟨_, rfl, q⟩
    · exact ⟨_, _, _, _, _, q⟩
    · exact ⟨_, _, _, _, _, q⟩⟩
  have := w_6_7 (nx0 := bm) (H0 := H) (((fs.map clF) ++ [lastC free locs b]).map fun x => Value.agg ⟨x⟩) (fs ++ [lastF free locs]) (by simp; omega) hL (fun i f h => by
    rcases hE i f h with ⟨hi, hf, q⟩ | ⟨hi, rfl, q⟩
    · exact ⟨f.rv, q, rv_ok f, fun H1 nx1 hA => .pure (rv_call hLK f i (hs f (List.mem_of_getElem? hf))) hA⟩
    · subst hi
      refine ⟨lastR b, q, rfl, fun H1 nx1 hA => .of rfl ?_⟩
      have e : bOk (fs ++ [lastF free locs]) (lastF free locs).free (lastF free locs).locs (decide (fs.length = 0)) false [] (lastF free locs).body = !decide (fs.length = 0) := by
        simp only [lastF, bOk_eq, Block.steps, Block.args, Block.blocks, Block.e, ssOk, lOk]
        simp [aOk, endOk]
      rw [e]
      exact w_16_last _ _ _ _ _ (by rw [decide_eq_true_eq]; omega) hA (hb.ag hA hbb) (by have := hA.1; omega)) H2 (nx + 1) hA2
  simpa using this
theorem fill_26 (a b c : Int) (t : ByteArray) : Instr.fill (fun i => some (i * 4, 4)) (zeroRow [i64 0, i64 0, i64 0, .string E0] (1 * 4)) [(0, .agg ⟨[i64 a, i64 b, i64 c, .string t]⟩)] = some ⟨[i64 a, i64 b, i64 c, .string t]⟩ := by kernel_rfl
theorem fill_33 (free locs : Int) (b : Nat) : Instr.fill (fun i => some (i * 6, 6)) (zeroRow [i64 0, i64 0, .slice none 0 0, i64 0, .slice none 0 0, .slice none 0 0] (1 * 6)) [(0, .agg ⟨lastC free locs b⟩)] = some ⟨lastC free locs b⟩ := by kernel_rfl
theorem bd_31 (b : Nat) : rdBuild P 31 (some [(1, i64 1), (2, .slice (some ⟨b, 0, none⟩) 1 1)]) = some (.agg ⟨[.slice none 0 0, i64 1, .slice (some ⟨b, 0, none⟩) 1 1, .slice none 0 0]⟩) := rdBuild_of zero_31 (by kernel_rfl)
theorem bd_33 (free locs : Int) (b : Nat) : rdBuild P 33 (some [(0, i64 free), (1, i64 locs), (2, .agg ⟨[.slice none 0 0, i64 1, .slice (some ⟨b, 0, none⟩) 1 1, .slice none 0 0]⟩)]) = some (.agg ⟨lastC free locs b⟩) := rdBuild_of zero_33 (by kernel_rfl)
theorem Ag.base {nx0 nx0' nx nx1 : Nat} {H0 H H1 : T OB} (hA : Ag nx0 H0 nx H) (hn : nx0 ≤ nx0') (h : Ag nx0' H nx1 H1) : Ag nx0 H0 nx1 H1 := ⟨by have := h.1; omega, fun k hk => (h.2 k (by omega)).trans (hA.2 k hk)⟩
/-- The law: true for all functions and numbers. -/
theorem pu_3 (fs : List Fun) (free locs : Int) (hl : fs.length < big) (hs : ∀ f, f ∈ fs → bSm f.body) : Pu 3 [funsV fs, i64 free, i64 locs] (.bool true) := Pure.of rfl fun H nx => by
  have hbig : big = 1125899906842624 := rfl
  have known : ∀ {H1 : T OB} {nx1 : Nat} {k p : Value → T OB → Nat → Q}, Ag nx H nx1 H1 → (∀ H' nx', Ag nx H nx' H' → Wq P pl X (k (.bool true) H' nx') nx H (.bool true)) → Wq P pl X (callQ (.call 5 [] false none H1 nx1) k p) nx H (.bool true) := fun hA hk => Wq.call (u := .bool true) (Pure.ext rfl) hA hk
  rw [q3]
  refine Wq.call (pu_4 fs 500 hl hs) (.refl _ _) fun H1 nx1 hA1 => ?_
  simp only [oneCell_int, oneCell_str, oneCell_bool, oneCell_row, oneCell_ep, oneCell_nilp, cond_true, cond_false, optK_some, ldV_int, ldV_str, ldV_bool, ldV_row, ldV_ep, ldV_nilp, rdBin_add, rdBin_sub, rdBin_mul, rdBin_lss, rdBin_leq, rdBin_gtr, rdBin_geq, rdBin_eql, rdBin_neq, rdBin_seql, rdBin_sneq, unV_not, bvK_bool, bK_true, bK_false, Bool.not_true, Bool.not_false, Bool.not_not, rdNil_ep, rdNil_ptr, oneCell_sl, ldV_sl, vEq_self, List.length_nil, Int.cast_ofNat_Int, Int.reduceEq, Int.reduceLT, Int.reduceLE, decide_true, decide_false, eq_self, Bool.and_self, fa_26_0, fa_26_1, fa_26_2, fa_26_3, fa_31_0, fa_31_1, fa_31_2, fa_31_3, fa_33_0, fa_33_1, fa_33_2, fa_43_0, fa_43_1, fa_43_2, fa_43_3, fa_43_4, fa_43_5, fa_58_0, fa_58_1, fa_58_2, fa_62_0, fa_62_1, fa_62_2, fa_62_3, fa_62_4, fa_101_0, fa_101_1, fp_26_0, fp_26_1, fp_26_2, fp_26_3, fp_31_0, fp_31_1, fp_31_2, fp_31_3, fp_33_0, fp_33_1, fp_33_2, fp_43_0, fp_43_1, fp_43_2, fp_43_3, fp_43_4, fp_43_5, fp_62_0, fp_62_1, fp_62_2, fp_62_3, fp_62_4, ld_2, ld_3, ld_9, ld_22, ld_26, ld_27, ld_28, ld_29, ld_31, ld_33, ld_40, ld_41, ld_43, ld_62, ld_97, len_9, len_22, lenS_22, lenN_22, len_27, lenS_27, lenN_27, len_28, lenS_28, lenN_28, len_29, lenS_29, lenN_29, len_40, lenS_40, lenN_40, len_41, lenS_41, lenN_41, pneq_97, pneq0_97]
  refine Wq.ite (fun h => ?_) (fun hsz => ?_)
  · refine known hA1 fun H2 nx2 hA2 => ?_
    simp only [oneCell_int, oneCell_str, oneCell_bool, oneCell_row, oneCell_ep, oneCell_nilp, cond_true, cond_false, optK_some, ldV_int, ldV_str, ldV_bool, ldV_row, ldV_ep, ldV_nilp, rdBin_add, rdBin_sub, rdBin_mul, rdBin_lss, rdBin_leq, rdBin_gtr, rdBin_geq, rdBin_eql, rdBin_neq, rdBin_seql, rdBin_sneq, unV_not, bvK_bool, bK_true, bK_false, Bool.not_true, Bool.not_false, Bool.not_not, rdNil_ep, rdNil_ptr, oneCell_sl, ldV_sl, vEq_self, List.length_nil, Int.cast_ofNat_Int, Int.reduceEq, Int.reduceLT, Int.reduceLE, decide_true, decide_false, eq_self, Bool.and_self, fa_26_0, fa_26_1, fa_26_2, fa_26_3, fa_31_0, fa_31_1, fa_31_2, fa_31_3, fa_33_0, fa_33_1, fa_33_2, fa_43_0, fa_43_1, fa_43_2, fa_43_3, fa_43_4, fa_43_5, fa_58_0, fa_58_1, fa_58_2, fa_62_0, fa_62_1, fa_62_2, fa_62_3, fa_62_4, fa_101_0, fa_101_1, fp_26_0, fp_26_1, fp_26_2, fp_26_3, fp_31_0, fp_31_1, fp_31_2, fp_31_3, fp_33_0, fp_33_1, fp_33_2, fp_43_0, fp_43_1, fp_43_2, fp_43_3, fp_43_4, fp_43_5, fp_62_0, fp_62_1, fp_62_2, fp_62_3, fp_62_4, ld_2, ld_3, ld_9, ld_22, ld_26, ld_27, ld_28, ld_29, ld_31, ld_33, ld_40, ld_41, ld_43, ld_62, ld_97, len_9, len_22, lenS_22, lenN_22, len_27, lenS_27, lenN_27, len_28, lenS_28, lenN_28, len_29, lenS_29, lenN_29, len_40, lenS_40, lenN_40, len_41, lenS_41, lenN_41, pneq_97, pneq0_97]
    exact Wq.ret hA2
  have hlen := fS_len fs hs 0 (by omega) (by omega) (by omega)
  refine Wq.row und_27 sz_26 zero_26 rfl (fill_26 4 0 0 E0) hA1 fun H2 hb2 _ hA2 => ?_
  simp only [oneCell_int, oneCell_str, oneCell_bool, oneCell_row, oneCell_ep, oneCell_nilp, cond_true, cond_false, optK_some, ldV_int, ldV_str, ldV_bool, ldV_row, ldV_ep, ldV_nilp, rdBin_add, rdBin_sub, rdBin_mul, rdBin_lss, rdBin_leq, rdBin_gtr, rdBin_geq, rdBin_eql, rdBin_neq, rdBin_seql, rdBin_sneq, unV_not, bvK_bool, bK_true, bK_false, Bool.not_true, Bool.not_false, Bool.not_not, rdNil_ep, rdNil_ptr, oneCell_sl, ldV_sl, vEq_self, List.length_nil, Int.cast_ofNat_Int, Int.reduceEq, Int.reduceLT, Int.reduceLE, decide_true, decide_false, eq_self, Bool.and_self, fa_26_0, fa_26_1, fa_26_2, fa_26_3, fa_31_0, fa_31_1, fa_31_2, fa_31_3, fa_33_0, fa_33_1, fa_33_2, fa_43_0, fa_43_1, fa_43_2, fa_43_3, fa_43_4, fa_43_5, fa_58_0, fa_58_1, fa_58_2, fa_62_0, fa_62_1, fa_62_2, fa_62_3, fa_62_4, fa_101_0, fa_101_1, fp_26_0, fp_26_1, fp_26_2, fp_26_3, fp_31_0, fp_31_1, fp_31_2, fp_31_3, fp_33_0, fp_33_1, fp_33_2, fp_43_0, fp_43_1, fp_43_2, fp_43_3, fp_43_4, fp_43_5, fp_62_0, fp_62_1, fp_62_2, fp_62_3, fp_62_4, ld_2, ld_3, ld_9, ld_22, ld_26, ld_27, ld_28, ld_29, ld_31, ld_33, ld_40, ld_41, ld_43, ld_62, ld_97, len_9, len_22, lenS_22, lenN_22, len_27, lenS_27, lenN_27, len_28, lenS_28, lenN_28, len_29, lenS_29, lenN_29, len_40, lenS_40, lenN_40, len_41, lenS_41, lenN_41, pneq_97, pneq0_97, bd_31, bd_33]
  refine Wq.varB zero_33 sz_33 rfl rfl rfl hA2 fun H3 nx3 hA3 hn3 keep3 => ?_
  have hb3 := keep3 _ _ _ (Nat.lt_succ_self _) hb2
  refine Wq.row und_22 sz_33 zero_33 rfl (fill_33 free locs nx1) hA3 fun H4 hb4 keep4 hA4 => ?_
  have hb5 := keep4 _ _ _ (by omega) hb3
  have hx4 : xsOf H4 6 (.slice (some ⟨nx3, 0, none⟩) 1 1) = some (1, lastC free locs nx1) := xsOf_b hb4 rfl
  have hxr : xsOf H4 6 (funsV fs) = some ((fs.map Fun.v).length, (fs.map clF).flatten) := by rw [funsV, xsOf_row, cells_funs]
  -- behind the appends
  have fin : ∀ (bm n : Nat) (H6 : T OB) (nx6 : Nat), n = fs.length + 1 → nx ≤ bm → nx1 < bm → bm < nx6 → IsB H6 bm ((fs.map clF).flatten ++ lastC free locs nx1) 33 → IsB H6 nx1 [i64 4, i64 0, i64 0, .string E0] 26 → Ag nx H nx6 H6 → ∀ (ok t33 : Bool), ok = right fs → (t33 = true ↔ (free < 0 ∨ locs < 0)) →
      Wq P pl X (.jump (l3_18 (funsV fs) (.slice (some ⟨bm, 0, none⟩) n unk) ok t33 H6 nx6)) nx H (.bool true) := by
    intro bm n H6 nx6 hn hbm hb1 hbx hm hb hA6 ok t33 hok ht
    have hmore : Ans nx H 6 [.slice (some ⟨bm, 0, none⟩) n unk] (.bool (right (fs ++ [lastF free locs]))) H6 nx6 := by
      obtain ⟨H7, nx7, q1, q2⟩ := Ans.of rfl (w_6_more (free := free) (locs := locs) (by omega) hs hb hb1 hm hbx hn)
      exact ⟨H7, nx7, Ag.base hA6 hbm q1, q2⟩
    refine Wq.jmp (q3_18 ..) (fun _ => rfl) ?_
    refine Wq.bK (fun h => ?_) (fun h => ?_)
    · refine Wq.callF hmore fun H7 nx7 hA7 => ?_
      rw [right_neg (ht.1 h)]
      simp only [oneCell_int, oneCell_str, oneCell_bool, oneCell_row, oneCell_ep, oneCell_nilp, cond_true, cond_false, optK_some, ldV_int, ldV_str, ldV_bool, ldV_row, ldV_ep, ldV_nilp, rdBin_add, rdBin_sub, rdBin_mul, rdBin_lss, rdBin_leq, rdBin_gtr, rdBin_geq, rdBin_eql, rdBin_neq, rdBin_seql, rdBin_sneq, unV_not, bvK_bool, bK_true, bK_false, Bool.not_true, Bool.not_false, Bool.not_not, rdNil_ep, rdNil_ptr, oneCell_sl, ldV_sl, vEq_self, List.length_nil, Int.cast_ofNat_Int, Int.reduceEq, Int.reduceLT, Int.reduceLE, decide_true, decide_false, eq_self, Bool.and_self, fa_26_0, fa_26_1, fa_26_2, fa_26_3, fa_31_0, fa_31_1, fa_31_2, fa_31_3, fa_33_0, fa_33_1, fa_33_2, fa_43_0, fa_43_1, fa_43_2, fa_43_3, fa_43_4, fa_43_5, fa_58_0, fa_58_1, fa_58_2, fa_62_0, fa_62_1, fa_62_2, fa_62_3, fa_62_4, fa_101_0, fa_101_1, fp_26_0, fp_26_1, fp_26_2, fp_26_3, fp_31_0, fp_31_1, fp_31_2, fp_31_3, fp_33_0, fp_33_1, fp_33_2, fp_43_0, fp_43_1, fp_43_2, fp_43_3, fp_43_4, fp_43_5, fp_62_0, fp_62_1, fp_62_2, fp_62_3, fp_62_4, ld_2, ld_3, ld_9, ld_22, ld_26, ld_27, ld_28, ld_29, ld_31, ld_33, ld_40, ld_41, ld_43, ld_62, ld_97, len_9, len_22, lenS_22, lenN_22, len_27, lenS_27, lenN_27, len_28, lenS_28, lenN_28, len_29, lenS_29, lenN_29, len_40, lenS_40, lenN_40, len_41, lenS_41, lenN_41, pneq_97, pneq0_97]
      refine known hA7 fun H8 nx8 hA8 => ?_
      simp only [oneCell_int, oneCell_str, oneCell_bool, oneCell_row, oneCell_ep, oneCell_nilp, cond_true, cond_false, optK_some, ldV_int, ldV_str, ldV_bool, ldV_row, ldV_ep, ldV_nilp, rdBin_add, rdBin_sub, rdBin_mul, rdBin_lss, rdBin_leq, rdBin_gtr, rdBin_geq, rdBin_eql, rdBin_neq, rdBin_seql, rdBin_sneq, unV_not, bvK_bool, bK_true, bK_false, Bool.not_true, Bool.not_false, Bool.not_not, rdNil_ep, rdNil_ptr, oneCell_sl, ldV_sl, vEq_self, List.length_nil, Int.cast_ofNat_Int, Int.reduceEq, Int.reduceLT, Int.reduceLE, decide_true, decide_false, eq_self, Bool.and_self, fa_26_0, fa_26_1, fa_26_2, fa_26_3, fa_31_0, fa_31_1, fa_31_2, fa_31_3, fa_33_0, fa_33_1, fa_33_2, fa_43_0, fa_43_1, fa_43_2, fa_43_3, fa_43_4, fa_43_5, fa_58_0, fa_58_1, fa_58_2, fa_62_0, fa_62_1, fa_62_2, fa_62_3, fa_62_4, fa_101_0, fa_101_1, fp_26_0, fp_26_1, fp_26_2, fp_26_3, fp_31_0, fp_31_1, fp_31_2, fp_31_3, fp_33_0, fp_33_1, fp_33_2, fp_43_0, fp_43_1, fp_43_2, fp_43_3, fp_43_4, fp_43_5, fp_62_0, fp_62_1, fp_62_2, fp_62_3, fp_62_4, ld_2, ld_3, ld_9, ld_22, ld_26, ld_27, ld_28, ld_29, ld_31, ld_33, ld_40, ld_41, ld_43, ld_62, ld_97, len_9, len_22, lenS_22, lenN_22, len_27, lenS_27, lenN_27, len_28, lenS_28, lenN_28, len_29, lenS_29, lenN_29, len_40, lenS_40, lenN_40, len_41, lenS_41, lenN_41, pneq_97, pneq0_97]
      exact Wq.ret hA8
    · have h0 : ¬ (free < 0 ∨ locs < 0) := fun q => by rw [ht.2 q] at h; cases h
      simp only [oneCell_int, oneCell_str, oneCell_bool, oneCell_row, oneCell_ep, oneCell_nilp, cond_true, cond_false, optK_some, ldV_int, ldV_str, ldV_bool, ldV_row, ldV_ep, ldV_nilp, rdBin_add, rdBin_sub, rdBin_mul, rdBin_lss, rdBin_leq, rdBin_gtr, rdBin_geq, rdBin_eql, rdBin_neq, rdBin_seql, rdBin_sneq, unV_not, bvK_bool, bK_true, bK_false, Bool.not_true, Bool.not_false, Bool.not_not, rdNil_ep, rdNil_ptr, oneCell_sl, ldV_sl, vEq_self, List.length_nil, Int.cast_ofNat_Int, Int.reduceEq, Int.reduceLT, Int.reduceLE, decide_true, decide_false, eq_self, Bool.and_self, fa_26_0, fa_26_1, fa_26_2, fa_26_3, fa_31_0, fa_31_1, fa_31_2, fa_31_3, fa_33_0, fa_33_1, fa_33_2, fa_43_0, fa_43_1, fa_43_2, fa_43_3, fa_43_4, fa_43_5, fa_58_0, fa_58_1, fa_58_2, fa_62_0, fa_62_1, fa_62_2, fa_62_3, fa_62_4, fa_101_0, fa_101_1, fp_26_0, fp_26_1, fp_26_2, fp_26_3, fp_31_0, fp_31_1, fp_31_2, fp_31_3, fp_33_0, fp_33_1, fp_33_2, fp_43_0, fp_43_1, fp_43_2, fp_43_3, fp_43_4, fp_43_5, fp_62_0, fp_62_1, fp_62_2, fp_62_3, fp_62_4, ld_2, ld_3, ld_9, ld_22, ld_26, ld_27, ld_28, ld_29, ld_31, ld_33, ld_40, ld_41, ld_43, ld_62, ld_97, len_9, len_22, lenS_22, lenN_22, len_27, lenS_27, lenN_27, len_28, lenS_28, lenN_28, len_29, lenS_29, lenN_29, len_40, lenS_40, lenN_40, len_41, lenS_41, lenN_41, pneq_97, pneq0_97, funsV, List.length_map]
      refine Wq.ite (fun h0l => ?_) (fun h0l => ?_)
      · have hfs : fs = [] := List.length_eq_zero_iff.1 (by omega)
        simp only [oneCell_int, oneCell_str, oneCell_bool, oneCell_row, oneCell_ep, oneCell_nilp, cond_true, cond_false, optK_some, ldV_int, ldV_str, ldV_bool, ldV_row, ldV_ep, ldV_nilp, rdBin_add, rdBin_sub, rdBin_mul, rdBin_lss, rdBin_leq, rdBin_gtr, rdBin_geq, rdBin_eql, rdBin_neq, rdBin_seql, rdBin_sneq, unV_not, bvK_bool, bK_true, bK_false, Bool.not_true, Bool.not_false, Bool.not_not, rdNil_ep, rdNil_ptr, oneCell_sl, ldV_sl, vEq_self, List.length_nil, Int.cast_ofNat_Int, Int.reduceEq, Int.reduceLT, Int.reduceLE, decide_true, decide_false, eq_self, Bool.and_self, fa_26_0, fa_26_1, fa_26_2, fa_26_3, fa_31_0, fa_31_1, fa_31_2, fa_31_3, fa_33_0, fa_33_1, fa_33_2, fa_43_0, fa_43_1, fa_43_2, fa_43_3, fa_43_4, fa_43_5, fa_58_0, fa_58_1, fa_58_2, fa_62_0, fa_62_1, fa_62_2, fa_62_3, fa_62_4, fa_101_0, fa_101_1, fp_26_0, fp_26_1, fp_26_2, fp_26_3, fp_31_0, fp_31_1, fp_31_2, fp_31_3, fp_33_0, fp_33_1, fp_33_2, fp_43_0, fp_43_1, fp_43_2, fp_43_3, fp_43_4, fp_43_5, fp_62_0, fp_62_1, fp_62_2, fp_62_3, fp_62_4, ld_2, ld_3, ld_9, ld_22, ld_26, ld_27, ld_28, ld_29, ld_31, ld_33, ld_40, ld_41, ld_43, ld_62, ld_97, len_9, len_22, lenS_22, lenN_22, len_27, lenS_27, lenN_27, len_28, lenS_28, lenN_28, len_29, lenS_29, lenN_29, len_40, lenS_40, lenN_40, len_41, lenS_41, lenN_41, pneq_97, pneq0_97, show decide ((0 : Int) < (fs.length : Int)) = false from by simp [hfs]]
        refine Wq.callF hmore fun H7 nx7 hA7 => ?_
        rw [hfs, right_one]
        simp only [oneCell_int, oneCell_str, oneCell_bool, oneCell_row, oneCell_ep, oneCell_nilp, cond_true, cond_false, optK_some, ldV_int, ldV_str, ldV_bool, ldV_row, ldV_ep, ldV_nilp, rdBin_add, rdBin_sub, rdBin_mul, rdBin_lss, rdBin_leq, rdBin_gtr, rdBin_geq, rdBin_eql, rdBin_neq, rdBin_seql, rdBin_sneq, unV_not, bvK_bool, bK_true, bK_false, Bool.not_true, Bool.not_false, Bool.not_not, rdNil_ep, rdNil_ptr, oneCell_sl, ldV_sl, vEq_self, List.length_nil, Int.cast_ofNat_Int, Int.reduceEq, Int.reduceLT, Int.reduceLE, decide_true, decide_false, eq_self, Bool.and_self, fa_26_0, fa_26_1, fa_26_2, fa_26_3, fa_31_0, fa_31_1, fa_31_2, fa_31_3, fa_33_0, fa_33_1, fa_33_2, fa_43_0, fa_43_1, fa_43_2, fa_43_3, fa_43_4, fa_43_5, fa_58_0, fa_58_1, fa_58_2, fa_62_0, fa_62_1, fa_62_2, fa_62_3, fa_62_4, fa_101_0, fa_101_1, fp_26_0, fp_26_1, fp_26_2, fp_26_3, fp_31_0, fp_31_1, fp_31_2, fp_31_3, fp_33_0, fp_33_1, fp_33_2, fp_43_0, fp_43_1, fp_43_2, fp_43_3, fp_43_4, fp_43_5, fp_62_0, fp_62_1, fp_62_2, fp_62_3, fp_62_4, ld_2, ld_3, ld_9, ld_22, ld_26, ld_27, ld_28, ld_29, ld_31, ld_33, ld_40, ld_41, ld_43, ld_62, ld_97, len_9, len_22, lenS_22, lenN_22, len_27, lenS_27, lenN_27, len_28, lenS_28, lenN_28, len_29, lenS_29, lenN_29, len_40, lenS_40, lenN_40, len_41, lenS_41, lenN_41, pneq_97, pneq0_97]
        refine known hA7 fun H8 nx8 hA8 => ?_
        simp only [oneCell_int, oneCell_str, oneCell_bool, oneCell_row, oneCell_ep, oneCell_nilp, cond_true, cond_false, optK_some, ldV_int, ldV_str, ldV_bool, ldV_row, ldV_ep, ldV_nilp, rdBin_add, rdBin_sub, rdBin_mul, rdBin_lss, rdBin_leq, rdBin_gtr, rdBin_geq, rdBin_eql, rdBin_neq, rdBin_seql, rdBin_sneq, unV_not, bvK_bool, bK_true, bK_false, Bool.not_true, Bool.not_false, Bool.not_not, rdNil_ep, rdNil_ptr, oneCell_sl, ldV_sl, vEq_self, List.length_nil, Int.cast_ofNat_Int, Int.reduceEq, Int.reduceLT, Int.reduceLE, decide_true, decide_false, eq_self, Bool.and_self, fa_26_0, fa_26_1, fa_26_2, fa_26_3, fa_31_0, fa_31_1, fa_31_2, fa_31_3, fa_33_0, fa_33_1, fa_33_2, fa_43_0, fa_43_1, fa_43_2, fa_43_3, fa_43_4, fa_43_5, fa_58_0, fa_58_1, fa_58_2, fa_62_0, fa_62_1, fa_62_2, fa_62_3, fa_62_4, fa_101_0, fa_101_1, fp_26_0, fp_26_1, fp_26_2, fp_26_3, fp_31_0, fp_31_1, fp_31_2, fp_31_3, fp_33_0, fp_33_1, fp_33_2, fp_43_0, fp_43_1, fp_43_2, fp_43_3, fp_43_4, fp_43_5, fp_62_0, fp_62_1, fp_62_2, fp_62_3, fp_62_4, ld_2, ld_3, ld_9, ld_22, ld_26, ld_27, ld_28, ld_29, ld_31, ld_33, ld_40, ld_41, ld_43, ld_62, ld_97, len_9, len_22, lenS_22, lenN_22, len_27, lenS_27, lenN_27, len_28, lenS_28, lenN_28, len_29, lenS_29, lenN_29, len_40, lenS_40, lenN_40, len_41, lenS_41, lenN_41, pneq_97, pneq0_97]
        exact Wq.ret hA8
      · have hpos : decide ((0 : Int) < (fs.length : Int)) = true := by simp; omega
        simp only [oneCell_int, oneCell_str, oneCell_bool, oneCell_row, oneCell_ep, oneCell_nilp, cond_true, cond_false, optK_some, ldV_int, ldV_str, ldV_bool, ldV_row, ldV_ep, ldV_nilp, rdBin_add, rdBin_sub, rdBin_mul, rdBin_lss, rdBin_leq, rdBin_gtr, rdBin_geq, rdBin_eql, rdBin_neq, rdBin_seql, rdBin_sneq, unV_not, bvK_bool, bK_true, bK_false, Bool.not_true, Bool.not_false, Bool.not_not, rdNil_ep, rdNil_ptr, oneCell_sl, ldV_sl, vEq_self, List.length_nil, Int.cast_ofNat_Int, Int.reduceEq, Int.reduceLT, Int.reduceLE, decide_true, decide_false, eq_self, Bool.and_self, fa_26_0, fa_26_1, fa_26_2, fa_26_3, fa_31_0, fa_31_1, fa_31_2, fa_31_3, fa_33_0, fa_33_1, fa_33_2, fa_43_0, fa_43_1, fa_43_2, fa_43_3, fa_43_4, fa_43_5, fa_58_0, fa_58_1, fa_58_2, fa_62_0, fa_62_1, fa_62_2, fa_62_3, fa_62_4, fa_101_0, fa_101_1, fp_26_0, fp_26_1, fp_26_2, fp_26_3, fp_31_0, fp_31_1, fp_31_2, fp_31_3, fp_33_0, fp_33_1, fp_33_2, fp_43_0, fp_43_1, fp_43_2, fp_43_3, fp_43_4, fp_43_5, fp_62_0, fp_62_1, fp_62_2, fp_62_3, fp_62_4, ld_2, ld_3, ld_9, ld_22, ld_26, ld_27, ld_28, ld_29, ld_31, ld_33, ld_40, ld_41, ld_43, ld_62, ld_97, len_9, len_22, lenS_22, lenN_22, len_27, lenS_27, lenN_27, len_28, lenS_28, lenN_28, len_29, lenS_29, lenN_29, len_40, lenS_40, lenN_40, len_41, lenS_41, lenN_41, pneq_97, pneq0_97, hpos]
        cases hr : ok with
        | false =>
          simp only [oneCell_int, oneCell_str, oneCell_bool, oneCell_row, oneCell_ep, oneCell_nilp, cond_true, cond_false, optK_some, ldV_int, ldV_str, ldV_bool, ldV_row, ldV_ep, ldV_nilp, rdBin_add, rdBin_sub, rdBin_mul, rdBin_lss, rdBin_leq, rdBin_gtr, rdBin_geq, rdBin_eql, rdBin_neq, rdBin_seql, rdBin_sneq, unV_not, bvK_bool, bK_true, bK_false, Bool.not_true, Bool.not_false, Bool.not_not, rdNil_ep, rdNil_ptr, oneCell_sl, ldV_sl, vEq_self, List.length_nil, Int.cast_ofNat_Int, Int.reduceEq, Int.reduceLT, Int.reduceLE, decide_true, decide_false, eq_self, Bool.and_self, fa_26_0, fa_26_1, fa_26_2, fa_26_3, fa_31_0, fa_31_1, fa_31_2, fa_31_3, fa_33_0, fa_33_1, fa_33_2, fa_43_0, fa_43_1, fa_43_2, fa_43_3, fa_43_4, fa_43_5, fa_58_0, fa_58_1, fa_58_2, fa_62_0, fa_62_1, fa_62_2, fa_62_3, fa_62_4, fa_101_0, fa_101_1, fp_26_0, fp_26_1, fp_26_2, fp_26_3, fp_31_0, fp_31_1, fp_31_2, fp_31_3, fp_33_0, fp_33_1, fp_33_2, fp_43_0, fp_43_1, fp_43_2, fp_43_3, fp_43_4, fp_43_5, fp_62_0, fp_62_1, fp_62_2, fp_62_3, fp_62_4, ld_2, ld_3, ld_9, ld_22, ld_26, ld_27, ld_28, ld_29, ld_31, ld_33, ld_40, ld_41, ld_43, ld_62, ld_97, len_9, len_22, lenS_22, lenN_22, len_27, lenS_27, lenN_27, len_28, lenS_28, lenN_28, len_29, lenS_29, lenN_29, len_40, lenS_40, lenN_40, len_41, lenS_41, lenN_41, pneq_97, pneq0_97]
          refine known hA6 fun H8 nx8 hA8 => ?_
          simp only [oneCell_int, oneCell_str, oneCell_bool, oneCell_row, oneCell_ep, oneCell_nilp, cond_true, cond_false, optK_some, ldV_int, ldV_str, ldV_bool, ldV_row, ldV_ep, ldV_nilp, rdBin_add, rdBin_sub, rdBin_mul, rdBin_lss, rdBin_leq, rdBin_gtr, rdBin_geq, rdBin_eql, rdBin_neq, rdBin_seql, rdBin_sneq, unV_not, bvK_bool, bK_true, bK_false, Bool.not_true, Bool.not_false, Bool.not_not, rdNil_ep, rdNil_ptr, oneCell_sl, ldV_sl, vEq_self, List.length_nil, Int.cast_ofNat_Int, Int.reduceEq, Int.reduceLT, Int.reduceLE, decide_true, decide_false, eq_self, Bool.and_self, fa_26_0, fa_26_1, fa_26_2, fa_26_3, fa_31_0, fa_31_1, fa_31_2, fa_31_3, fa_33_0, fa_33_1, fa_33_2, fa_43_0, fa_43_1, fa_43_2, fa_43_3, fa_43_4, fa_43_5, fa_58_0, fa_58_1, fa_58_2, fa_62_0, fa_62_1, fa_62_2, fa_62_3, fa_62_4, fa_101_0, fa_101_1, fp_26_0, fp_26_1, fp_26_2, fp_26_3, fp_31_0, fp_31_1, fp_31_2, fp_31_3, fp_33_0, fp_33_1, fp_33_2, fp_43_0, fp_43_1, fp_43_2, fp_43_3, fp_43_4, fp_43_5, fp_62_0, fp_62_1, fp_62_2, fp_62_3, fp_62_4, ld_2, ld_3, ld_9, ld_22, ld_26, ld_27, ld_28, ld_29, ld_31, ld_33, ld_40, ld_41, ld_43, ld_62, ld_97, len_9, len_22, lenS_22, lenN_22, len_27, lenS_27, lenN_27, len_28, lenS_28, lenN_28, len_29, lenS_29, lenN_29, len_40, lenS_40, lenN_40, len_41, lenS_41, lenN_41, pneq_97, pneq0_97]
          exact Wq.ret hA8
        | true =>
          simp only [oneCell_int, oneCell_str, oneCell_bool, oneCell_row, oneCell_ep, oneCell_nilp, cond_true, cond_false, optK_some, ldV_int, ldV_str, ldV_bool, ldV_row, ldV_ep, ldV_nilp, rdBin_add, rdBin_sub, rdBin_mul, rdBin_lss, rdBin_leq, rdBin_gtr, rdBin_geq, rdBin_eql, rdBin_neq, rdBin_seql, rdBin_sneq, unV_not, bvK_bool, bK_true, bK_false, Bool.not_true, Bool.not_false, Bool.not_not, rdNil_ep, rdNil_ptr, oneCell_sl, ldV_sl, vEq_self, List.length_nil, Int.cast_ofNat_Int, Int.reduceEq, Int.reduceLT, Int.reduceLE, decide_true, decide_false, eq_self, Bool.and_self, fa_26_0, fa_26_1, fa_26_2, fa_26_3, fa_31_0, fa_31_1, fa_31_2, fa_31_3, fa_33_0, fa_33_1, fa_33_2, fa_43_0, fa_43_1, fa_43_2, fa_43_3, fa_43_4, fa_43_5, fa_58_0, fa_58_1, fa_58_2, fa_62_0, fa_62_1, fa_62_2, fa_62_3, fa_62_4, fa_101_0, fa_101_1, fp_26_0, fp_26_1, fp_26_2, fp_26_3, fp_31_0, fp_31_1, fp_31_2, fp_31_3, fp_33_0, fp_33_1, fp_33_2, fp_43_0, fp_43_1, fp_43_2, fp_43_3, fp_43_4, fp_43_5, fp_62_0, fp_62_1, fp_62_2, fp_62_3, fp_62_4, ld_2, ld_3, ld_9, ld_22, ld_26, ld_27, ld_28, ld_29, ld_31, ld_33, ld_40, ld_41, ld_43, ld_62, ld_97, len_9, len_22, lenS_22, lenN_22, len_27, lenS_27, lenN_27, len_28, lenS_28, lenN_28, len_29, lenS_29, lenN_29, len_40, lenS_40, lenN_40, len_41, lenS_41, lenN_41, pneq_97, pneq0_97]
          refine Wq.callF hmore fun H7 nx7 hA7 => ?_
          rw [right_more (by omega) (by omega) (by rw [← hok, hr])]
          simp only [oneCell_int, oneCell_str, oneCell_bool, oneCell_row, oneCell_ep, oneCell_nilp, cond_true, cond_false, optK_some, ldV_int, ldV_str, ldV_bool, ldV_row, ldV_ep, ldV_nilp, rdBin_add, rdBin_sub, rdBin_mul, rdBin_lss, rdBin_leq, rdBin_gtr, rdBin_geq, rdBin_eql, rdBin_neq, rdBin_seql, rdBin_sneq, unV_not, bvK_bool, bK_true, bK_false, Bool.not_true, Bool.not_false, Bool.not_not, rdNil_ep, rdNil_ptr, oneCell_sl, ldV_sl, vEq_self, List.length_nil, Int.cast_ofNat_Int, Int.reduceEq, Int.reduceLT, Int.reduceLE, decide_true, decide_false, eq_self, Bool.and_self, fa_26_0, fa_26_1, fa_26_2, fa_26_3, fa_31_0, fa_31_1, fa_31_2, fa_31_3, fa_33_0, fa_33_1, fa_33_2, fa_43_0, fa_43_1, fa_43_2, fa_43_3, fa_43_4, fa_43_5, fa_58_0, fa_58_1, fa_58_2, fa_62_0, fa_62_1, fa_62_2, fa_62_3, fa_62_4, fa_101_0, fa_101_1, fp_26_0, fp_26_1, fp_26_2, fp_26_3, fp_31_0, fp_31_1, fp_31_2, fp_31_3, fp_33_0, fp_33_1, fp_33_2, fp_43_0, fp_43_1, fp_43_2, fp_43_3, fp_43_4, fp_43_5, fp_62_0, fp_62_1, fp_62_2, fp_62_3, fp_62_4, ld_2, ld_3, ld_9, ld_22, ld_26, ld_27, ld_28, ld_29, ld_31, ld_33, ld_40, ld_41, ld_43, ld_62, ld_97, len_9, len_22, lenS_22, lenN_22, len_27, lenS_27, lenN_27, len_28, lenS_28, lenN_28, len_29, lenS_29, lenN_29, len_40, lenS_40, lenN_40, len_41, lenS_41, lenN_41, pneq_97, pneq0_97]
          refine known hA7 fun H8 nx8 hA8 => ?_
          simp only [oneCell_int, oneCell_str, oneCell_bool, oneCell_row, oneCell_ep, oneCell_nilp, cond_true, cond_false, optK_some, ldV_int, ldV_str, ldV_bool, ldV_row, ldV_ep, ldV_nilp, rdBin_add, rdBin_sub, rdBin_mul, rdBin_lss, rdBin_leq, rdBin_gtr, rdBin_geq, rdBin_eql, rdBin_neq, rdBin_seql, rdBin_sneq, unV_not, bvK_bool, bK_true, bK_false, Bool.not_true, Bool.not_false, Bool.not_not, rdNil_ep, rdNil_ptr, oneCell_sl, ldV_sl, vEq_self, List.length_nil, Int.cast_ofNat_Int, Int.reduceEq, Int.reduceLT, Int.reduceLE, decide_true, decide_false, eq_self, Bool.and_self, fa_26_0, fa_26_1, fa_26_2, fa_26_3, fa_31_0, fa_31_1, fa_31_2, fa_31_3, fa_33_0, fa_33_1, fa_33_2, fa_43_0, fa_43_1, fa_43_2, fa_43_3, fa_43_4, fa_43_5, fa_58_0, fa_58_1, fa_58_2, fa_62_0, fa_62_1, fa_62_2, fa_62_3, fa_62_4, fa_101_0, fa_101_1, fp_26_0, fp_26_1, fp_26_2, fp_26_3, fp_31_0, fp_31_1, fp_31_2, fp_31_3, fp_33_0, fp_33_1, fp_33_2, fp_43_0, fp_43_1, fp_43_2, fp_43_3, fp_43_4, fp_43_5, fp_62_0, fp_62_1, fp_62_2, fp_62_3, fp_62_4, ld_2, ld_3, ld_9, ld_22, ld_26, ld_27, ld_28, ld_29, ld_31, ld_33, ld_40, ld_41, ld_43, ld_62, ld_97, len_9, len_22, lenS_22, lenN_22, len_27, lenS_27, lenN_27, len_28, lenS_28, lenN_28, len_29, lenS_29, lenN_29, len_40, lenS_40, lenN_40, len_41, lenS_41, lenN_41, pneq_97, pneq0_97]
          exact Wq.ret hA8
  -- behind the second append
  have fin2 : ∀ (bm n : Nat) (H6 : T OB) (nx6 : Nat), n = fs.length + 1 → nx ≤ bm → nx1 < bm → bm < nx6 → IsB H6 bm ((fs.map clF).flatten ++ lastC free locs nx1) 33 → IsB H6 nx1 [i64 4, i64 0, i64 0, .string E0] 26 → Ag nx H nx6 H6 → ∀ (k p : Value → T OB → Nat → Q), (∀ ok H' nx', k (.bool ok) H' nx' = bK (decide (free < 0)) (.jump (l3_18 (funsV fs) (.slice (some ⟨bm, 0, none⟩) n unk) ok true H' nx')) (.jump (l3_18 (funsV fs) (.slice (some ⟨bm, 0, none⟩) n unk) ok (decide (locs < 0)) H' nx'))) →
      Wq P pl X (callQ (.call 6 [funsV fs] false none H6 nx6) k p) nx H (.bool true) := by
    intro bm n H6 nx6 hn hbm hb1 hbx hm hb hA6 k p hk
    refine Wq.callB (pu_6 fs hl hs) hA6 fun H7 nx7 hA7 hn7 keep7 => ?_
    rw [hk]
    refine Wq.ite (fun h => ?_) (fun h => ?_)
    · exact fin bm n H7 nx7 hn hbm hb1 (by omega) (keep7 _ _ _ hbx hm) (keep7 _ _ _ (by omega) hb) hA7 _ _ rfl (by simp [h])
    · exact fin bm n H7 nx7 hn hbm hb1 (by omega) (keep7 _ _ _ hbx hm) (keep7 _ _ _ (by omega) hb) hA7 _ _ rfl (by simp; omega)
  have h1 := hA1.1
  refine Wq.app0 und_22 sz_33 rfl hxr (sm_33' (by simp; omega)) hA4 (fun hm0 => ?_) fun H5 hm0 hb6 keep5 hA5 => ?_
  · have hfs : fs = [] := List.length_eq_zero_iff.1 (by simpa using hm0)
    refine Wq.app0 und_22 sz_33 rfl hx4 (sm_33' (by omega)) hA4 (fun q => by omega) fun H5 _ hb6 keep5 hA5 => ?_
    refine fin2 (nx3 + 1) 1 H5 _ (by rw [hfs]; rfl) (by omega) (by omega) (by omega) (by rw [hfs]; exact hb6) (keep5 _ _ _ (by omega) hb5) hA5 _ _ fun ok H' nx' => ?_
    simp only [oneCell_int, oneCell_str, oneCell_bool, oneCell_row, oneCell_ep, oneCell_nilp, cond_true, cond_false, optK_some, ldV_int, ldV_str, ldV_bool, ldV_row, ldV_ep, ldV_nilp, rdBin_add, rdBin_sub, rdBin_mul, rdBin_lss, rdBin_leq, rdBin_gtr, rdBin_geq, rdBin_eql, rdBin_neq, rdBin_seql, rdBin_sneq, unV_not, bvK_bool, bK_true, bK_false, Bool.not_true, Bool.not_false, Bool.not_not, rdNil_ep, rdNil_ptr, oneCell_sl, ldV_sl, vEq_self, List.length_nil, Int.cast_ofNat_Int, Int.reduceEq, Int.reduceLT, Int.reduceLE, decide_true, decide_false, eq_self, Bool.and_self, fa_26_0, fa_26_1, fa_26_2, fa_26_3, fa_31_0, fa_31_1, fa_31_2, fa_31_3, fa_33_0, fa_33_1, fa_33_2, fa_43_0, fa_43_1, fa_43_2, fa_43_3, fa_43_4, fa_43_5, fa_58_0, fa_58_1, fa_58_2, fa_62_0, fa_62_1, fa_62_2, fa_62_3, fa_62_4, fa_101_0, fa_101_1, fp_26_0, fp_26_1, fp_26_2, fp_26_3, fp_31_0, fp_31_1, fp_31_2, fp_31_3, fp_33_0, fp_33_1, fp_33_2, fp_43_0, fp_43_1, fp_43_2, fp_43_3, fp_43_4, fp_43_5, fp_62_0, fp_62_1, fp_62_2, fp_62_3, fp_62_4, ld_2, ld_3, ld_9, ld_22, ld_26, ld_27, ld_28, ld_29, ld_31, ld_33, ld_40, ld_41, ld_43, ld_62, ld_97, len_9, len_22, lenS_22, lenN_22, len_27, lenS_27, lenN_27, len_28, lenS_28, lenN_28, len_29, lenS_29, lenN_29, len_40, lenS_40, lenN_40, len_41, lenS_41, lenN_41, pneq_97, pneq0_97]
  · refine Wq.app und_22 sz_33 hb6 sz_33 (by rw [flat_len]; simp) rfl (by exact xsOf_b (keep5 _ _ _ (by omega) hb4) rfl) rfl (sm_33' (by simp; omega)) hA5 (by omega) (by omega) fun H6 hb7 keep6 hA6 => ?_
    refine fin2 (nx3 + 1 + 1) ((fs.map Fun.v).length + 1) H6 _ (by simp) (by omega) (by omega) (by omega) hb7 (keep6 _ _ _ (by omega) (by omega) (keep5 _ _ _ (by omega) hb5)) hA6 _ _ fun ok H' nx' => ?_
    simp only [oneCell_int, oneCell_str, oneCell_bool, oneCell_row, oneCell_ep, oneCell_nilp, cond_true, cond_false, optK_some, ldV_int, ldV_str, ldV_bool, ldV_row, ldV_ep, ldV_nilp, rdBin_add, rdBin_sub, rdBin_mul, rdBin_lss, rdBin_leq, rdBin_gtr, rdBin_geq, rdBin_eql, rdBin_neq, rdBin_seql, rdBin_sneq, unV_not, bvK_bool, bK_true, bK_false, Bool.not_true, Bool.not_false, Bool.not_not, rdNil_ep, rdNil_ptr, oneCell_sl, ldV_sl, vEq_self, List.length_nil, Int.cast_ofNat_Int, Int.reduceEq, Int.reduceLT, Int.reduceLE, decide_true, decide_false, eq_self, Bool.and_self, fa_26_0, fa_26_1, fa_26_2, fa_26_3, fa_31_0, fa_31_1, fa_31_2, fa_31_3, fa_33_0, fa_33_1, fa_33_2, fa_43_0, fa_43_1, fa_43_2, fa_43_3, fa_43_4, fa_43_5, fa_58_0, fa_58_1, fa_58_2, fa_62_0, fa_62_1, fa_62_2, fa_62_3, fa_62_4, fa_101_0, fa_101_1, fp_26_0, fp_26_1, fp_26_2, fp_26_3, fp_31_0, fp_31_1, fp_31_2, fp_31_3, fp_33_0, fp_33_1, fp_33_2, fp_43_0, fp_43_1, fp_43_2, fp_43_3, fp_43_4, fp_43_5, fp_62_0, fp_62_1, fp_62_2, fp_62_3, fp_62_4, ld_2, ld_3, ld_9, ld_22, ld_26, ld_27, ld_28, ld_29, ld_31, ld_33, ld_40, ld_41, ld_43, ld_62, ld_97, len_9, len_22, lenS_22, lenN_22, len_27, lenS_27, lenN_27, len_28, lenS_28, lenN_28, len_29, lenS_29, lenN_29, len_40, lenS_40, lenN_40, len_41, lenS_41, lenN_41, pneq_97, pneq0_97]
end
end Go.Proofs.YtfdgoenmdalphaaDoor
