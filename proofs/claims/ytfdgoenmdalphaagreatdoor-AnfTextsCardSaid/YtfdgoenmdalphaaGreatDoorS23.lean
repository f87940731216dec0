/- Functions' texts are one text; the law. -/
import Derived.Test.YtfdgoenmdalphaaGreatDoorS22
namespace Go.Proofs.YtfdgoenmdalphaaGreatDoor
open Go.Ev Go.RowKit
noncomputable section
set_option maxRecDepth 100000
set_option linter.unusedVariables false
set_option linter.unusedSimpArgs false
/-! what is right has kinds that are some -/
theorem aOk_D {free locs : Int} {first : Bool} {g : List Int} {a : Atom} (h : aOk free locs first g a = true) : aD a := by
  unfold aOk at h
  unfold aD
  repeat' split at h
  all_goals first | omega | cases h
theorem stOk_D {fs : List Fun} {free locs : Int} {first : Bool} {g : List Int} {s : Step} (h : stOk fs free locs first g s = true) : (1 ≤ s.k ∧ s.k ≤ 10) ∧ ∀ a, a ∈ s.args → aD a := by
  rw [stOk_shp, Bool.and_eq_true] at h
  refine ⟨?_, fun a ha => aOk_D (List.all_eq_true.1 h.2 a ha)⟩
  have := (shp_iff fs locs s).1 h.1
  have h0 := this.1.1
  unfold nd at h0
  grind
theorem l2Ok_mem {fs : List Fun} {free locs : Int} {first : Bool} : ∀ {l : List Block} {g h : List Int}, l2Ok fs free locs first g h l = true → ∀ c, c ∈ l → ∃ g', bOk fs free locs first true g' c = true
  | [], _, _, _, c, hc => nomatch hc
  | b :: l, g, h, hq, c, hc => by
    rw [l2Ok, Bool.and_eq_true] at hq
    rcases List.mem_cons.1 hc with rfl | hc
    · exact ⟨g, hq.1⟩
    · exact l2Ok_mem hq.2 c hc
theorem lOk_mem {fs : List Fun} {free locs : Int} {first inner : Bool} {g : List Int} : ∀ {l : List Block}, lOk fs free locs first inner g l = true → ∀ c, c ∈ l → bOk fs free locs first inner g c = true
  | [], _, c, hc => nomatch hc
  | b :: l, hq, c, hc => by
    rw [lOk, Bool.and_eq_true] at hq
    rcases List.mem_cons.1 hc with rfl | hc
    · exact hq.1
    · exact lOk_mem hq.2 c hc
theorem ssOk_mem {fs : List Fun} {free locs : Int} {first : Bool} : ∀ {l : List Step} {g g' : List Int}, ssOk fs free locs first g l = some g' → ∀ s, s ∈ l → ∃ h, stOk fs free locs first h s = true ∧ sOk fs free locs first h s = true
  | [], _, _, _, c, hc => nomatch hc
  | s :: l, g, g', hq, c, hc => by
    rw [ssOk] at hq
    split at hq
    · rename_i h
      rw [Bool.and_eq_true] at h
      rcases List.mem_cons.1 hc with rfl | hc
      · exact ⟨g, h⟩
      · exact ssOk_mem hq c hc
    · cases hq
theorem bOk_D (fs : List Fun) (free locs : Int) (first : Bool) (b : Block) : ∀ (inner : Bool) (g : List Int), bOk fs free locs first inner g b = true → bD b := by
  refine Block.ind (p := fun b => ∀ (inner : Bool) (g : List Int), bOk fs free locs first inner g b = true → bD b) (fun b hs hb inner g h => ?_) b
  rw [bOk_eq] at h
  rw [bD_iff]
  split at h
  · cases h
  · rename_i g' hg
    simp only [Bool.and_eq_true] at h
    refine ⟨?_, fun a ha => aOk_D (List.all_eq_true.1 h.1 a ha), fun s hss => ?_, fun c hc => hb c hc _ _ (lOk_mem h.2.2 c hc)⟩
    · have := (endOk_iff _ _ _ _).1 h.2.1; omega
    · obtain ⟨g2, q1, q2⟩ := ssOk_mem hg s hss
      rw [stD_iff]
      have := stOk_D q1
      refine ⟨this.1, this.2, fun c hc => ?_⟩
      rw [sOk_eq] at q2
      obtain ⟨g3, q3⟩ := l2Ok_mem q2 c hc
      exact hs s hss c hc _ _ q3
theorem rgt_mem {fs : List Fun} : ∀ {l : List Fun} {k : Nat}, rgt fs k l = true → ∀ f, f ∈ l → bD f.body
  | [], _, _, f, hf => nomatch hf
  | x :: l, k, h, f, hf => by
    rw [rgt, Bool.and_eq_true] at h
    rcases List.mem_cons.1 hf with rfl | hf
    · have := h.1
      unfold fOk at this
      rw [Bool.and_eq_true] at this
      exact bOk_D _ _ _ _ _ _ _ this.2
    · exact rgt_mem h.2 f hf
theorem right_D {fs : List Fun} (h : right fs = true) : ∀ f, f ∈ fs → bD f.body := by
  unfold right at h
  rw [Bool.and_eq_true] at h
  exact rgt_mem h.1
/-! how long a text is -/
def aN : List Atom → Nat
  | [] => 0
  | a :: l => a.t.size / 8 + aN l
theorem aS_eq (l : List Atom) : ∀ n : Int, 0 ≤ n → (∀ a, a ∈ l → a.t.size < big) → aS l n < 10000 → aS l n = n + aN l := by
  have hbig : big = 1125899906842624 := rfl
  induction l with
  | nil => intro n _ _ _; rw [aS, aN]; omega
  | cons a l ih =>
    intro n hn h hlt
    have ha := h a List.mem_cons_self
    rw [aS] at hlt ⊢
    split at hlt
    · rename_i hn2
      rw [if_pos hn2]
      have e1 : ((a.t.size : Int).tdiv 8) = ((a.t.size / 8 : Nat) : Int) := by rw [Int.tdiv_eq_ediv_of_nonneg (by omega)]; omega
      have e2 : w ((a.t.size : Int).tdiv 8) = ((a.t.size / 8 : Nat) : Int) := by rw [e1]; exact wrap_id (by omega)
      have e3 : w (n + w ((a.t.size : Int).tdiv 8)) = n + ((a.t.size / 8 : Nat) : Int) := by rw [e2]; exact wrap_id (by omega)
      rw [e3] at hlt ⊢
      rw [ih _ (by omega) (fun x hx => h x (List.mem_cons_of_mem _ hx)) hlt, aN]
      omega
    · omega
theorem atx_length (a : Atom) (h : aR a) : (atx a).length ≤ 32 * (a.t.size / 8) + 31 := by
  have := dig_length a.n h.1
  have := dig_length a.m h.2
  have hq := qs_length a.t.data.toList
  have hs : a.t.data.toList.length = a.t.size := rfl
  unfold atx quote
  repeat' split
  all_goals first | omega | (simp only [List.length_cons, List.length_append, List.length_nil]; omega)
theorem tAs_length (l : List Atom) (h : ∀ a, a ∈ l → aR a) : (tAs l).length ≤ 32 * (l.length + aN l) := by
  induction l with
  | nil => simp [tAs]
  | cons a l ih =>
    have := atx_length a (h a List.mem_cons_self)
    have := ih fun x hx => h x (List.mem_cons_of_mem _ hx)
    rw [tAs, aN]
    simp only [List.length_cons, List.length_append]; omega
theorem atoms_t (l : List Atom) (hs : aSm l) (h : ∀ a, a ∈ l → aR a) (h5 : atomsSize l ≤ 500) : ((tAs l).length : Int) ≤ 32 * atomsSize l := by
  have := aS_eq l l.length (by omega) hs.2 (by unfold atomsSize at h5; omega)
  have := tAs_length l h
  unfold atomsSize
  omega
def okL (b : Block) : Prop := bSm b → bR b → ∀ most : Int, 0 ≤ most → most ≤ 500 → bS b most ≤ most → ((tB b).length : Int) + 1 ≤ 64 * bS b most
theorem lS_t (bs : List Block) (hp : ∀ c, c ∈ bs → okL c) (hsm : ∀ c, c ∈ bs → bSm c) (hR : ∀ c, c ∈ bs → bR c) (most : Int) (h0 : 0 ≤ most) (h5 : most ≤ 500) : ∀ n : Int, 0 ≤ n → lS bs most n ≤ most → ((tBs bs).length : Int) + 64 * n ≤ 64 * lS bs most n := by
  induction bs with
  | nil => intro n _ _; rw [lS, tBs]; simp
  | cons c l ih =>
    intro n hn hle0
    rw [lS] at hle0 ⊢
    rw [tBs]
    split at hle0
    · rename_i hle
      rw [if_pos hle]
      have e1 : w (most - n) = most - n := wrap_id (by omega)
      have hb := okB_all c (hsm c List.mem_cons_self) (most - n) (by omega) (by omega)
      have e2 : w (n + bS c (most - n)) = n + bS c (most - n) := wrap_id (by omega)
      rw [e1, e2] at hle0 ⊢
      have hm := lS_b l (fun x _ => okB_all x) (fun x hx => hsm x (List.mem_cons_of_mem _ hx)) most h0 h5 (n + bS c (most - n)) (by omega) (by omega)
      have hc := hp c List.mem_cons_self (hsm c List.mem_cons_self) (hR c List.mem_cons_self) (most - n) (by omega) (by omega) (by omega)
      have := ih (fun x hx => hp x (List.mem_cons_of_mem _ hx)) (fun x hx => hsm x (List.mem_cons_of_mem _ hx)) (fun x hx => hR x (List.mem_cons_of_mem _ hx)) (n + bS c (most - n)) (by omega) hle0
      simp only [List.length_cons, List.length_append]
      omega
    · omega
theorem stS_t (s : Step) (hp : ∀ c, c ∈ s.blocks → okL c) (hsm : stSm s) (hR : stR s) (most : Int) (h0 : 0 ≤ most) (h5 : most ≤ 500) (n : Int) (hn : 0 ≤ n) (hn2 : n ≤ most) (hle0 : stS s most n ≤ most) : ((tS s).length : Int) + 1 + 64 * n ≤ 64 * stS s most n := by
  have hbig : big = 1125899906842624 := rfl
  rw [stSm_iff] at hsm
  rw [stR_iff] at hR
  have ha := atoms_b s.args hsm.1
  rw [stS_eq] at hle0 ⊢
  rw [tS_eq]
  have e1 : w (n + 1) = n + 1 := wrap_id (by omega)
  have e2 : w (w (n + 1) + atomsSize s.args) = n + 1 + atomsSize s.args := by rw [e1]; exact wrap_id (by omega)
  rw [e2] at hle0 ⊢
  have hm := lS_b s.blocks (fun x _ => okB_all x) hsm.2.2 most h0 h5 (n + 1 + atomsSize s.args) (by omega) (by omega)
  have := lS_t s.blocks hp hsm.2.2 hR.2.2.2 most h0 h5 (n + 1 + atomsSize s.args) (by omega) hle0
  have hat := atoms_t s.args hsm.1 hR.2.2.1 (by omega)
  have := sT_length s.k s.to s.n hR.1 hR.2.1
  unfold tR
  simp only [List.length_append, List.length_singleton]
  omega
theorem sS_t (ss : List Step) (hp : ∀ s, s ∈ ss → ∀ c, c ∈ s.blocks → okL c) (hsm : ∀ s, s ∈ ss → stSm s) (hR : ∀ s, s ∈ ss → stR s) (most : Int) (h0 : 0 ≤ most) (h5 : most ≤ 500) : ∀ n : Int, 0 ≤ n → sS ss most n ≤ most → ((tSs ss).length : Int) + 64 * n ≤ 64 * sS ss most n := by
  induction ss with
  | nil => intro n _ _; rw [sS, tSs]; simp
  | cons s l ih =>
    intro n hn hle0
    rw [sS] at hle0 ⊢
    rw [tSs]
    split at hle0
    · rename_i hle
      rw [if_pos hle]
      have hb := stS_b s (fun x _ => okB_all x) (hsm s List.mem_cons_self) most h0 h5 n hn hle
      have hm := sS_b l (fun _ _ x _ => okB_all x) (fun x hx => hsm x (List.mem_cons_of_mem _ hx)) most h0 h5 (stS s most n) (by omega) (by omega)
      have hc := stS_t s (hp s List.mem_cons_self) (hsm s List.mem_cons_self) (hR s List.mem_cons_self) most h0 h5 n hn hle (by omega)
      have := ih (fun x hx => hp x (List.mem_cons_of_mem _ hx)) (fun x hx => hsm x (List.mem_cons_of_mem _ hx)) (fun x hx => hR x (List.mem_cons_of_mem _ hx)) (stS s most n) (by omega) hle0
      simp only [List.length_cons, List.length_append]
      omega
    · omega
theorem eT_length (e : Int) : (eT e).length ≤ 7 := by
  unfold eT
  repeat' split
  all_goals simp
theorem okL_all (b : Block) : okL b := by
  refine Block.ind (p := okL) (fun b hs hb => ?_) b
  intro hsm hR most h0 h5 hle0
  have hbig : big = 1125899906842624 := rfl
  rw [bSm_iff] at hsm
  rw [bR_iff] at hR
  have ha := atoms_b b.args hsm.2.1
  rw [bS_eq] at hle0 ⊢
  rw [tB_eq]
  have e1 : w (1 + atomsSize b.args) = 1 + atomsSize b.args := wrap_id (by omega)
  rw [e1] at hle0 ⊢
  have h1 := sS_b b.steps (fun _ _ x _ => okB_all x) hsm.2.2.2.1 most h0 h5 (1 + atomsSize b.args) (by omega) (by omega)
  have h2 := lS_b b.blocks (fun x _ => okB_all x) hsm.2.2.2.2 most h0 h5 (sS b.steps most (1 + atomsSize b.args)) (by omega) (by omega)
  have h3 := lS_t b.blocks hb hsm.2.2.2.2 hR.2.2 most h0 h5 (sS b.steps most (1 + atomsSize b.args)) (by omega) hle0
  have h4 := sS_t b.steps hs hsm.2.2.2.1 hR.2.1 most h0 h5 (1 + atomsSize b.args) (by omega) (by omega)
  have h6 := atoms_t b.args hsm.2.1 hR.1 (by omega)
  have h7 := eT_length b.e
  unfold tR
  simp only [List.length_append, List.length_cons, List.length_nil]
  omega
def fR (f : Fun) : Prop := rg f.free ∧ rg f.locs ∧ bR f.body
theorem fS_t (fs : List Fun) (hsm : ∀ f, f ∈ fs → bSm f.body) (hR : ∀ f, f ∈ fs → fR f) : ∀ n : Int, 0 ≤ n → fS fs 500 n ≤ 500 → ((tFs fs).length : Int) + 64 * n ≤ 64 * fS fs 500 n := by
  induction fs with
  | nil => intro n _ _; rw [fS, tFs]; simp
  | cons f l ih =>
    intro n hn hle0
    rw [fS] at hle0 ⊢
    rw [tFs]
    split at hle0
    · rename_i hle
      rw [if_pos hle]
      have hf := hR f List.mem_cons_self
      have e1 : w (500 - n) = 500 - n := wrap_id (by omega)
      have e2 : w (n + 1) = n + 1 := wrap_id (by omega)
      have hb := okB_all f.body (hsm f List.mem_cons_self) (500 - n) (by omega) (by omega)
      have e3 : w (w (n + 1) + bS f.body (w (500 - n))) = n + 1 + bS f.body (500 - n) := by rw [e1, e2]; exact wrap_id (by omega)
      rw [e3] at hle0 ⊢
      have hm := (fS_b l (fun x hx => hsm x (List.mem_cons_of_mem _ hx)) (n + 1 + bS f.body (500 - n)) (by omega) (by omega)).1
      have hc := okL_all f.body (hsm f List.mem_cons_self) hf.2.2 (500 - n) (by omega) (by omega) (by omega)
      have := ih (fun x hx => hsm x (List.mem_cons_of_mem _ hx)) (fun x hx => hR x (List.mem_cons_of_mem _ hx)) (n + 1 + bS f.body (500 - n)) (by omega) hle0
      have d1 := dig_length f.free hf.1
      have d2 := dig_length f.locs hf.2.1
      unfold tF
      simp only [List.length_append, List.length_cons, List.length_nil]
      omega
    · omega
/-! functions' texts -/
def textOf (fs : List Fun) : List UInt8 := if right fs = true then tFs fs else []
theorem w_22_13 {nx0 : Nat} {H0 : T OB} {bp : Nat} (fs : List Fun) (hl : fs.length < big) (hs : ∀ f, f ∈ fs → bSm f.body) (hR : ∀ f, f ∈ fs → fR f) (hD : ∀ f, f ∈ fs → bD f.body) : ∀ (t : List Fun) (i : Nat) (r : List UInt8) (H : T OB) (nx : Nat), fs.drop i = t → i ≤ fs.length → r.length + (tFs t).length ≤ 1000000 → Out bp nx0 H nx r → Ag nx0 H0 nx H →
    Wq P pl X (.jump (l22_13 (ptr bp) (funsV fs) (i64 (fs.length : Int)) (i64 (i : Int)) H nx)) nx0 H0 (txt (r ++ tFs t)) := by
  have hbig : big = 1125899906842624 := rfl
  intro t
  induction t with
  | nil =>
    intro i r H nx hd hi hlen hO hA
    have hil := drop_nil hd hi
    obtain ⟨h1, h2, sl, h3, h4, h5, h6⟩ := hO
    refine Wq.jmp (q22_13 ..) (fun _ => rfl) ?_
    simp only [oneCell_int, oneCell_str, oneCell_bool, oneCell_row, oneCell_ep, oneCell_nilp, cond_true, cond_false, optK_some, ldV_int, ldV_str, ldV_bool, ldV_row, ldV_ep, ldV_nilp, rdBin_add, rdBin_sub, rdBin_mul, rdBin_lss, rdBin_leq, rdBin_gtr, rdBin_geq, rdBin_eql, rdBin_neq, rdBin_seql, rdBin_sneq, unV_not, bvK_bool, bK_true, bK_false, Bool.not_true, Bool.not_false, Bool.not_not, rdNil_ep, rdNil_ptr, oneCell_sl, ldV_sl, vEq_self, List.length_nil, Int.cast_ofNat_Int, Int.reduceEq, Int.reduceLT, Int.reduceLE, decide_true, decide_false, eq_self, Bool.and_self, fa_25_0, fa_25_1, fa_25_2, fa_25_3, fa_25_4, fa_25_5, fa_67_0, fa_67_1, fa_67_2, fa_67_3, fa_69_0, fa_69_1, fa_69_2, fa_71_0, fa_71_1, fa_71_2, fa_71_3, fa_95_0, fa_95_1, fa_95_2, fa_102_0, fa_125_0, fa_125_1, fa_125_2, fa_125_3, fa_125_4, fa_145_0, fa_145_1, fa_177_0, fa_177_1, fp_25_0, fp_25_1, fp_25_2, fp_25_3, fp_25_4, fp_25_5, fp_67_0, fp_67_1, fp_67_2, fp_67_3, fp_69_0, fp_69_1, fp_69_2, fp_71_0, fp_71_1, fp_71_2, fp_71_3, fp_102_0, fp_125_0, fp_125_1, fp_125_2, fp_125_3, fp_125_4, fp_177_0, fp_177_1, fp_177_2, fp_177_3, ld_2, ld_3, ld_9, ld_22, ld_23, ld_25, ld_30, ld_63, ld_64, ld_65, ld_67, ld_69, ld_71, ld_100, ld_125, ld_141, ld_177, len_9, len_22, lenS_22, lenN_22, len_23, lenS_23, lenN_23, len_30, lenS_30, lenN_30, len_63, lenS_63, lenN_63, len_64, lenS_64, lenN_64, len_65, lenS_65, lenN_65, len_148, lenS_148, lenN_148, len_205, lenS_205, lenN_205, beql_4, pneq_141, pneq0_141, funsV, hil, not_lt_len, rdLoad_cell h3 agg_100 (off := 0) (u := sl) rfl, rdConv_BS und_100 und_5 und_9 bytes_100 h4]
    exact Wq.retE (by simp [tFs]) hA
  | cons f t ih =>
    intro i r H nx hd hi hlen hO hA
    obtain ⟨hg, hlt, hd'⟩ := drop_cons hd
    have hc : f ∈ fs := List.mem_of_getElem? hg
    have hf := hR f hc
    have hg' : (fs.map Fun.v)[i]? = some (.agg ⟨[i64 f.free, i64 f.locs, rowV 5 (f.body.steps.map Step.v), i64 f.body.e, atomsV f.body.args, rowV 4 (f.body.blocks.map Block.v)]⟩) := by simp [hg, Fun.v]
    rw [tFs] at hlen ⊢
    unfold tF at hlen ⊢
    simp only [List.length_append, List.length_cons, List.length_nil] at hlen
    have w50 := okP_all f.body (hs f hc) hf.2.2 (hD f hc) nx0 H0 bp
    rw [f.body.v_eq] at w50
    refine Wq.jmp (q22_13 ..) (fun _ => rfl) ?_
    simp only [oneCell_int, oneCell_str, oneCell_bool, oneCell_row, oneCell_ep, oneCell_nilp, cond_true, cond_false, optK_some, ldV_int, ldV_str, ldV_bool, ldV_row, ldV_ep, ldV_nilp, rdBin_add, rdBin_sub, rdBin_mul, rdBin_lss, rdBin_leq, rdBin_gtr, rdBin_geq, rdBin_eql, rdBin_neq, rdBin_seql, rdBin_sneq, unV_not, bvK_bool, bK_true, bK_false, Bool.not_true, Bool.not_false, Bool.not_not, rdNil_ep, rdNil_ptr, oneCell_sl, ldV_sl, vEq_self, List.length_nil, Int.cast_ofNat_Int, Int.reduceEq, Int.reduceLT, Int.reduceLE, decide_true, decide_false, eq_self, Bool.and_self, fa_25_0, fa_25_1, fa_25_2, fa_25_3, fa_25_4, fa_25_5, fa_67_0, fa_67_1, fa_67_2, fa_67_3, fa_69_0, fa_69_1, fa_69_2, fa_71_0, fa_71_1, fa_71_2, fa_71_3, fa_95_0, fa_95_1, fa_95_2, fa_102_0, fa_125_0, fa_125_1, fa_125_2, fa_125_3, fa_125_4, fa_145_0, fa_145_1, fa_177_0, fa_177_1, fp_25_0, fp_25_1, fp_25_2, fp_25_3, fp_25_4, fp_25_5, fp_67_0, fp_67_1, fp_67_2, fp_67_3, fp_69_0, fp_69_1, fp_69_2, fp_71_0, fp_71_1, fp_71_2, fp_71_3, fp_102_0, fp_125_0, fp_125_1, fp_125_2, fp_125_3, fp_125_4, fp_177_0, fp_177_1, fp_177_2, fp_177_3, ld_2, ld_3, ld_9, ld_22, ld_23, ld_25, ld_30, ld_63, ld_64, ld_65, ld_67, ld_69, ld_71, ld_100, ld_125, ld_141, ld_177, len_9, len_22, lenS_22, lenN_22, len_23, lenS_23, lenN_23, len_30, lenS_30, lenN_30, len_63, lenS_63, lenN_63, len_64, lenS_64, lenN_64, len_65, lenS_65, lenN_65, len_148, lenS_148, lenN_148, len_205, lenS_205, lenN_205, beql_4, pneq_141, pneq0_141, funsV, is_lt_len hlt, ix_30 hg']
    refine Wq.varB zero_69 sz_69 rfl rfl rfl hA fun H1 nx1 hA1 hn1 keep1 => ?_
    refine Wq.callB (pu_49 f.free hf.1) hA1 fun H2 nx2 hA2 hn2 keep2 => ?_
    refine Wq.callB (pu_49 f.locs hf.2.1) hA2 fun H3 nx3 hA3 hn3 keep3 => ?_
    have hO3 := ((hO.keep hn1 keep1).keep hn2 keep2).keep hn3 keep3
    refine Wq.putL [[40, 102, 117, 110, 32], dig f.free, [32], dig f.locs, [32]] rfl (by simp) rfl (ft5 _ _ _ _ _) hO3 (by simp; omega) hA3 fun _ H4 nx4 hO4 hA4 => ?_
    refine Wq.callR rfl (w50 _ H4 nx4 (by simp; omega) hO4 hA4) fun u H5 nx5 hA5 hu => ?_
    refine Wq.putL [[41, 10]] rfl (by simp) rfl (ft1 _) hu.2 (by simp; omega) hA5 fun _ H6 nx6 hO6 hA6 => ?_
    simp only [oneCell_int, oneCell_str, oneCell_bool, oneCell_row, oneCell_ep, oneCell_nilp, cond_true, cond_false, optK_some, ldV_int, ldV_str, ldV_bool, ldV_row, ldV_ep, ldV_nilp, rdBin_add, rdBin_sub, rdBin_mul, rdBin_lss, rdBin_leq, rdBin_gtr, rdBin_geq, rdBin_eql, rdBin_neq, rdBin_seql, rdBin_sneq, unV_not, bvK_bool, bK_true, bK_false, Bool.not_true, Bool.not_false, Bool.not_not, rdNil_ep, rdNil_ptr, oneCell_sl, ldV_sl, vEq_self, List.length_nil, Int.cast_ofNat_Int, Int.reduceEq, Int.reduceLT, Int.reduceLE, decide_true, decide_false, eq_self, Bool.and_self, fa_25_0, fa_25_1, fa_25_2, fa_25_3, fa_25_4, fa_25_5, fa_67_0, fa_67_1, fa_67_2, fa_67_3, fa_69_0, fa_69_1, fa_69_2, fa_71_0, fa_71_1, fa_71_2, fa_71_3, fa_95_0, fa_95_1, fa_95_2, fa_102_0, fa_125_0, fa_125_1, fa_125_2, fa_125_3, fa_125_4, fa_145_0, fa_145_1, fa_177_0, fa_177_1, fp_25_0, fp_25_1, fp_25_2, fp_25_3, fp_25_4, fp_25_5, fp_67_0, fp_67_1, fp_67_2, fp_67_3, fp_69_0, fp_69_1, fp_69_2, fp_71_0, fp_71_1, fp_71_2, fp_71_3, fp_102_0, fp_125_0, fp_125_1, fp_125_2, fp_125_3, fp_125_4, fp_177_0, fp_177_1, fp_177_2, fp_177_3, ld_2, ld_3, ld_9, ld_22, ld_23, ld_25, ld_30, ld_63, ld_64, ld_65, ld_67, ld_69, ld_71, ld_100, ld_125, ld_141, ld_177, len_9, len_22, lenS_22, lenN_22, len_23, lenS_23, lenN_23, len_30, lenS_30, lenN_30, len_63, lenS_63, lenN_63, len_64, lenS_64, lenN_64, len_65, lenS_65, lenN_65, len_148, lenS_148, lenN_148, len_205, lenS_205, lenN_205, beql_4, pneq_141, pneq0_141, wrap_succ (show i < 9223372036854775807 by omega)]
    have := ih (i + 1) _ H6 nx6 hd' (by omega) (by simp; omega) hO6 hA6
    rw [funsV] at this
    simpa [List.append_assoc] using this
theorem pu_22 (fs : List Fun) (hl : fs.length < big) (hs : ∀ f, f ∈ fs → bSm f.body) (hR : ∀ f, f ∈ fs → fR f) (hlen : (tFs fs).length ≤ 1000000) : Pu 22 [funsV fs] (txt (textOf fs)) := Pure.of rfl fun H nx => by
  rw [q22]
  refine Wq.call (pu_18 fs hl hs) (.refl _ _) fun H1 nx1 hA1 => ?_
  simp only [oneCell_int, oneCell_str, oneCell_bool, oneCell_row, oneCell_ep, oneCell_nilp, cond_true, cond_false, optK_some, ldV_int, ldV_str, ldV_bool, ldV_row, ldV_ep, ldV_nilp, rdBin_add, rdBin_sub, rdBin_mul, rdBin_lss, rdBin_leq, rdBin_gtr, rdBin_geq, rdBin_eql, rdBin_neq, rdBin_seql, rdBin_sneq, unV_not, bvK_bool, bK_true, bK_false, Bool.not_true, Bool.not_false, Bool.not_not, rdNil_ep, rdNil_ptr, oneCell_sl, ldV_sl, vEq_self, List.length_nil, Int.cast_ofNat_Int, Int.reduceEq, Int.reduceLT, Int.reduceLE, decide_true, decide_false, eq_self, Bool.and_self, fa_25_0, fa_25_1, fa_25_2, fa_25_3, fa_25_4, fa_25_5, fa_67_0, fa_67_1, fa_67_2, fa_67_3, fa_69_0, fa_69_1, fa_69_2, fa_71_0, fa_71_1, fa_71_2, fa_71_3, fa_95_0, fa_95_1, fa_95_2, fa_102_0, fa_125_0, fa_125_1, fa_125_2, fa_125_3, fa_125_4, fa_145_0, fa_145_1, fa_177_0, fa_177_1, fp_25_0, fp_25_1, fp_25_2, fp_25_3, fp_25_4, fp_25_5, fp_67_0, fp_67_1, fp_67_2, fp_67_3, fp_69_0, fp_69_1, fp_69_2, fp_71_0, fp_71_1, fp_71_2, fp_71_3, fp_102_0, fp_125_0, fp_125_1, fp_125_2, fp_125_3, fp_125_4, fp_177_0, fp_177_1, fp_177_2, fp_177_3, ld_2, ld_3, ld_9, ld_22, ld_23, ld_25, ld_30, ld_63, ld_64, ld_65, ld_67, ld_69, ld_71, ld_100, ld_125, ld_141, ld_177, len_9, len_22, lenS_22, lenN_22, len_23, lenS_23, lenN_23, len_30, lenS_30, lenN_30, len_63, lenS_63, lenN_63, len_64, lenS_64, lenN_64, len_65, lenS_65, lenN_65, len_148, lenS_148, lenN_148, len_205, lenS_205, lenN_205, beql_4, pneq_141, pneq0_141]
  unfold textOf
  refine Wq.bK (fun h => ?_) (fun h => ?_)
  · rw [if_neg (by simpa using h)]
    exact Wq.ret hA1
  · have hr : right fs = true := by simpa using h
    rw [if_pos hr]
    refine Wq.box hA1 fun H2 hb2 _ hA2 => ?_
    simp only [oneCell_int, oneCell_str, oneCell_bool, oneCell_row, oneCell_ep, oneCell_nilp, cond_true, cond_false, optK_some, ldV_int, ldV_str, ldV_bool, ldV_row, ldV_ep, ldV_nilp, rdBin_add, rdBin_sub, rdBin_mul, rdBin_lss, rdBin_leq, rdBin_gtr, rdBin_geq, rdBin_eql, rdBin_neq, rdBin_seql, rdBin_sneq, unV_not, bvK_bool, bK_true, bK_false, Bool.not_true, Bool.not_false, Bool.not_not, rdNil_ep, rdNil_ptr, oneCell_sl, ldV_sl, vEq_self, List.length_nil, Int.cast_ofNat_Int, Int.reduceEq, Int.reduceLT, Int.reduceLE, decide_true, decide_false, eq_self, Bool.and_self, fa_25_0, fa_25_1, fa_25_2, fa_25_3, fa_25_4, fa_25_5, fa_67_0, fa_67_1, fa_67_2, fa_67_3, fa_69_0, fa_69_1, fa_69_2, fa_71_0, fa_71_1, fa_71_2, fa_71_3, fa_95_0, fa_95_1, fa_95_2, fa_102_0, fa_125_0, fa_125_1, fa_125_2, fa_125_3, fa_125_4, fa_145_0, fa_145_1, fa_177_0, fa_177_1, fp_25_0, fp_25_1, fp_25_2, fp_25_3, fp_25_4, fp_25_5, fp_67_0, fp_67_1, fp_67_2, fp_67_3, fp_69_0, fp_69_1, fp_69_2, fp_71_0, fp_71_1, fp_71_2, fp_71_3, fp_102_0, fp_125_0, fp_125_1, fp_125_2, fp_125_3, fp_125_4, fp_177_0, fp_177_1, fp_177_2, fp_177_3, ld_2, ld_3, ld_9, ld_22, ld_23, ld_25, ld_30, ld_63, ld_64, ld_65, ld_67, ld_69, ld_71, ld_100, ld_125, ld_141, ld_177, len_9, len_22, lenS_22, lenN_22, len_23, lenS_23, lenN_23, len_30, lenS_30, lenN_30, len_63, lenS_63, lenN_63, len_64, lenS_64, lenN_64, len_65, lenS_65, lenN_65, len_148, lenS_148, lenN_148, len_205, lenS_205, lenN_205, beql_4, pneq_141, pneq0_141, funsV, List.length_map]
    have := w_22_13 (bp := nx1) fs hl hs hR (right_D hr) fs 0 [] H2 (nx1 + 1) rfl (Nat.zero_le _) (by simp; omega) ⟨hA1.1, by omega, _, hb2, BS.nil 5 nx H2 _, fun b n c q => by (cases q), fun b o n c q => by (cases q)⟩ hA2
    rw [funsV] at this
    simpa using this
theorem pu_23 (fs : List Fun) (hl : fs.length < big) (hs : ∀ f, f ∈ fs → bSm f.body) (hR : ∀ f, f ∈ fs → fR f) (hlen : (tFs fs).length ≤ 1000000) (hc : ∀ f, f ∈ fs → bC f.body < 1048576) : Pu 23 [funsV fs] (txt (textOf fs)) := Pure.of rfl fun H nx => by
  have hbig : big = 1125899906842624 := rfl
  rw [q23]
  refine Wq.call (pu_12 fs hl hs hc) (.refl _ _) fun H1 nx1 hA1 => ?_
  simp only [oneCell_int, oneCell_str, oneCell_bool, oneCell_row, oneCell_ep, oneCell_nilp, cond_true, cond_false, optK_some, ldV_int, ldV_str, ldV_bool, ldV_row, ldV_ep, ldV_nilp, rdBin_add, rdBin_sub, rdBin_mul, rdBin_lss, rdBin_leq, rdBin_gtr, rdBin_geq, rdBin_eql, rdBin_neq, rdBin_seql, rdBin_sneq, unV_not, bvK_bool, bK_true, bK_false, Bool.not_true, Bool.not_false, Bool.not_not, rdNil_ep, rdNil_ptr, oneCell_sl, ldV_sl, vEq_self, List.length_nil, Int.cast_ofNat_Int, Int.reduceEq, Int.reduceLT, Int.reduceLE, decide_true, decide_false, eq_self, Bool.and_self, fa_25_0, fa_25_1, fa_25_2, fa_25_3, fa_25_4, fa_25_5, fa_67_0, fa_67_1, fa_67_2, fa_67_3, fa_69_0, fa_69_1, fa_69_2, fa_71_0, fa_71_1, fa_71_2, fa_71_3, fa_95_0, fa_95_1, fa_95_2, fa_102_0, fa_125_0, fa_125_1, fa_125_2, fa_125_3, fa_125_4, fa_145_0, fa_145_1, fa_177_0, fa_177_1, fp_25_0, fp_25_1, fp_25_2, fp_25_3, fp_25_4, fp_25_5, fp_67_0, fp_67_1, fp_67_2, fp_67_3, fp_69_0, fp_69_1, fp_69_2, fp_71_0, fp_71_1, fp_71_2, fp_71_3, fp_102_0, fp_125_0, fp_125_1, fp_125_2, fp_125_3, fp_125_4, fp_177_0, fp_177_1, fp_177_2, fp_177_3, ld_2, ld_3, ld_9, ld_22, ld_23, ld_25, ld_30, ld_63, ld_64, ld_65, ld_67, ld_69, ld_71, ld_100, ld_125, ld_141, ld_177, len_9, len_22, lenS_22, lenN_22, len_23, lenS_23, lenN_23, len_30, lenS_30, lenN_30, len_63, lenS_63, lenN_63, len_64, lenS_64, lenN_64, len_65, lenS_65, lenN_65, len_148, lenS_148, lenN_148, len_205, lenS_205, lenN_205, beql_4, pneq_141, pneq0_141]
  unfold textOf
  refine Wq.bK (fun h => ?_) (fun h => ?_)
  · rw [if_neg (by simpa using h)]
    exact Wq.ret hA1
  rw [if_pos (by simpa using h)]
  refine Wq.eachI fs (fun t s => s.length + (tFs t).length ≤ 1000000) (fun i s H nx => .jump (l23_13 (funsV fs) (txt s) (i64 (i : Int)) H nx)) (fun t s => txt (s ++ tFs t)) (fun s H1 nx1 hI hA => ?_) (fun i f t r H1 nx1 hg hi ht hI hA ih => ?_) [] _ _ (by simpa using hlen) hA1
  · refine Wq.jmp (q23_13 ..) (fun _ => rfl) ?_
    simp only [oneCell_int, oneCell_str, oneCell_bool, oneCell_row, oneCell_ep, oneCell_nilp, cond_true, cond_false, optK_some, ldV_int, ldV_str, ldV_bool, ldV_row, ldV_ep, ldV_nilp, rdBin_add, rdBin_sub, rdBin_mul, rdBin_lss, rdBin_leq, rdBin_gtr, rdBin_geq, rdBin_eql, rdBin_neq, rdBin_seql, rdBin_sneq, unV_not, bvK_bool, bK_true, bK_false, Bool.not_true, Bool.not_false, Bool.not_not, rdNil_ep, rdNil_ptr, oneCell_sl, ldV_sl, vEq_self, List.length_nil, Int.cast_ofNat_Int, Int.reduceEq, Int.reduceLT, Int.reduceLE, decide_true, decide_false, eq_self, Bool.and_self, fa_25_0, fa_25_1, fa_25_2, fa_25_3, fa_25_4, fa_25_5, fa_67_0, fa_67_1, fa_67_2, fa_67_3, fa_69_0, fa_69_1, fa_69_2, fa_71_0, fa_71_1, fa_71_2, fa_71_3, fa_95_0, fa_95_1, fa_95_2, fa_102_0, fa_125_0, fa_125_1, fa_125_2, fa_125_3, fa_125_4, fa_145_0, fa_145_1, fa_177_0, fa_177_1, fp_25_0, fp_25_1, fp_25_2, fp_25_3, fp_25_4, fp_25_5, fp_67_0, fp_67_1, fp_67_2, fp_67_3, fp_69_0, fp_69_1, fp_69_2, fp_71_0, fp_71_1, fp_71_2, fp_71_3, fp_102_0, fp_125_0, fp_125_1, fp_125_2, fp_125_3, fp_125_4, fp_177_0, fp_177_1, fp_177_2, fp_177_3, ld_2, ld_3, ld_9, ld_22, ld_23, ld_25, ld_30, ld_63, ld_64, ld_65, ld_67, ld_69, ld_71, ld_100, ld_125, ld_141, ld_177, len_9, len_22, lenS_22, lenN_22, len_23, lenS_23, lenN_23, len_30, lenS_30, lenN_30, len_63, lenS_63, lenN_63, len_64, lenS_64, lenN_64, len_65, lenS_65, lenN_65, len_148, lenS_148, lenN_148, len_205, lenS_205, lenN_205, beql_4, pneq_141, pneq0_141, funsV, List.length_map, not_lt_len]
    exact Wq.retE (by simp [tFs]) hA
  · have hc : f ∈ fs := List.mem_of_getElem? hg
    have hf := hR f hc
    have hg' : (fs.map Fun.v)[i]? = some (.agg ⟨[i64 f.free, i64 f.locs, rowV 5 (f.body.steps.map Step.v), i64 f.body.e, atomsV f.body.args, rowV 4 (f.body.blocks.map Block.v)]⟩) := by simp [hg, Fun.v]
    rw [tFs] at hI
    unfold tF at hI
    simp only [List.length_append, List.length_cons, List.length_nil] at hI
    have p52 := okT_all f.body (hs f hc) hf.2.2 (by omega)
    rw [f.body.v_eq] at p52
    refine Wq.jmp (q23_13 ..) (fun _ => rfl) ?_
    simp only [oneCell_int, oneCell_str, oneCell_bool, oneCell_row, oneCell_ep, oneCell_nilp, cond_true, cond_false, optK_some, ldV_int, ldV_str, ldV_bool, ldV_row, ldV_ep, ldV_nilp, rdBin_add, rdBin_sub, rdBin_mul, rdBin_lss, rdBin_leq, rdBin_gtr, rdBin_geq, rdBin_eql, rdBin_neq, rdBin_seql, rdBin_sneq, unV_not, bvK_bool, bK_true, bK_false, Bool.not_true, Bool.not_false, Bool.not_not, rdNil_ep, rdNil_ptr, oneCell_sl, ldV_sl, vEq_self, List.length_nil, Int.cast_ofNat_Int, Int.reduceEq, Int.reduceLT, Int.reduceLE, decide_true, decide_false, eq_self, Bool.and_self, fa_25_0, fa_25_1, fa_25_2, fa_25_3, fa_25_4, fa_25_5, fa_67_0, fa_67_1, fa_67_2, fa_67_3, fa_69_0, fa_69_1, fa_69_2, fa_71_0, fa_71_1, fa_71_2, fa_71_3, fa_95_0, fa_95_1, fa_95_2, fa_102_0, fa_125_0, fa_125_1, fa_125_2, fa_125_3, fa_125_4, fa_145_0, fa_145_1, fa_177_0, fa_177_1, fp_25_0, fp_25_1, fp_25_2, fp_25_3, fp_25_4, fp_25_5, fp_67_0, fp_67_1, fp_67_2, fp_67_3, fp_69_0, fp_69_1, fp_69_2, fp_71_0, fp_71_1, fp_71_2, fp_71_3, fp_102_0, fp_125_0, fp_125_1, fp_125_2, fp_125_3, fp_125_4, fp_177_0, fp_177_1, fp_177_2, fp_177_3, ld_2, ld_3, ld_9, ld_22, ld_23, ld_25, ld_30, ld_63, ld_64, ld_65, ld_67, ld_69, ld_71, ld_100, ld_125, ld_141, ld_177, len_9, len_22, lenS_22, lenN_22, len_23, lenS_23, lenN_23, len_30, lenS_30, lenN_30, len_63, lenS_63, lenN_63, len_64, lenS_64, lenN_64, len_65, lenS_65, lenN_65, len_148, lenS_148, lenN_148, len_205, lenS_205, lenN_205, beql_4, pneq_141, pneq0_141, funsV, List.length_map, is_lt_len hi]
    rw [rdAdd_txt 9 true r _ (by simp; omega), optK_some]
    simp only [oneCell_int, oneCell_str, oneCell_bool, oneCell_row, oneCell_ep, oneCell_nilp, cond_true, cond_false, optK_some, ldV_int, ldV_str, ldV_bool, ldV_row, ldV_ep, ldV_nilp, rdBin_add, rdBin_sub, rdBin_mul, rdBin_lss, rdBin_leq, rdBin_gtr, rdBin_geq, rdBin_eql, rdBin_neq, rdBin_seql, rdBin_sneq, unV_not, bvK_bool, bK_true, bK_false, Bool.not_true, Bool.not_false, Bool.not_not, rdNil_ep, rdNil_ptr, oneCell_sl, ldV_sl, vEq_self, List.length_nil, Int.cast_ofNat_Int, Int.reduceEq, Int.reduceLT, Int.reduceLE, decide_true, decide_false, eq_self, Bool.and_self, fa_25_0, fa_25_1, fa_25_2, fa_25_3, fa_25_4, fa_25_5, fa_67_0, fa_67_1, fa_67_2, fa_67_3, fa_69_0, fa_69_1, fa_69_2, fa_71_0, fa_71_1, fa_71_2, fa_71_3, fa_95_0, fa_95_1, fa_95_2, fa_102_0, fa_125_0, fa_125_1, fa_125_2, fa_125_3, fa_125_4, fa_145_0, fa_145_1, fa_177_0, fa_177_1, fp_25_0, fp_25_1, fp_25_2, fp_25_3, fp_25_4, fp_25_5, fp_67_0, fp_67_1, fp_67_2, fp_67_3, fp_69_0, fp_69_1, fp_69_2, fp_71_0, fp_71_1, fp_71_2, fp_71_3, fp_102_0, fp_125_0, fp_125_1, fp_125_2, fp_125_3, fp_125_4, fp_177_0, fp_177_1, fp_177_2, fp_177_3, ld_2, ld_3, ld_9, ld_22, ld_23, ld_25, ld_30, ld_63, ld_64, ld_65, ld_67, ld_69, ld_71, ld_100, ld_125, ld_141, ld_177, len_9, len_22, lenS_22, lenN_22, len_23, lenS_23, lenN_23, len_30, lenS_30, lenN_30, len_63, lenS_63, lenN_63, len_64, lenS_64, lenN_64, len_65, lenS_65, lenN_65, len_148, lenS_148, lenN_148, len_205, lenS_205, lenN_205, beql_4, pneq_141, pneq0_141, ix_30 hg']
    refine Wq.call (pu_51 f.free hf.1) hA fun H2 nx2 hA2 => ?_
    rw [rdAdd_txt 9 true r _ (by simp; omega)]
    simp only [oneCell_int, oneCell_str, oneCell_bool, oneCell_row, oneCell_ep, oneCell_nilp, cond_true, cond_false, optK_some, ldV_int, ldV_str, ldV_bool, ldV_row, ldV_ep, ldV_nilp, rdBin_add, rdBin_sub, rdBin_mul, rdBin_lss, rdBin_leq, rdBin_gtr, rdBin_geq, rdBin_eql, rdBin_neq, rdBin_seql, rdBin_sneq, unV_not, bvK_bool, bK_true, bK_false, Bool.not_true, Bool.not_false, Bool.not_not, rdNil_ep, rdNil_ptr, oneCell_sl, ldV_sl, vEq_self, List.length_nil, Int.cast_ofNat_Int, Int.reduceEq, Int.reduceLT, Int.reduceLE, decide_true, decide_false, eq_self, Bool.and_self, fa_25_0, fa_25_1, fa_25_2, fa_25_3, fa_25_4, fa_25_5, fa_67_0, fa_67_1, fa_67_2, fa_67_3, fa_69_0, fa_69_1, fa_69_2, fa_71_0, fa_71_1, fa_71_2, fa_71_3, fa_95_0, fa_95_1, fa_95_2, fa_102_0, fa_125_0, fa_125_1, fa_125_2, fa_125_3, fa_125_4, fa_145_0, fa_145_1, fa_177_0, fa_177_1, fp_25_0, fp_25_1, fp_25_2, fp_25_3, fp_25_4, fp_25_5, fp_67_0, fp_67_1, fp_67_2, fp_67_3, fp_69_0, fp_69_1, fp_69_2, fp_71_0, fp_71_1, fp_71_2, fp_71_3, fp_102_0, fp_125_0, fp_125_1, fp_125_2, fp_125_3, fp_125_4, fp_177_0, fp_177_1, fp_177_2, fp_177_3, ld_2, ld_3, ld_9, ld_22, ld_23, ld_25, ld_30, ld_63, ld_64, ld_65, ld_67, ld_69, ld_71, ld_100, ld_125, ld_141, ld_177, len_9, len_22, lenS_22, lenN_22, len_23, lenS_23, lenN_23, len_30, lenS_30, lenN_30, len_63, lenS_63, lenN_63, len_64, lenS_64, lenN_64, len_65, lenS_65, lenN_65, len_148, lenS_148, lenN_148, len_205, lenS_205, lenN_205, beql_4, pneq_141, pneq0_141, Bool.and_true]
    rw [rdAdd_txt 9 false (r ++ [40, 102, 117, 110, 32]) (dig f.free) (by simp; omega), optK_some, rdAdd_txt 9 true _ [32] (by simp; omega), optK_some]
    refine Wq.call (pu_51 f.locs hf.2.1) hA2 fun H3 nx3 hA3 => ?_
    rw [rdAdd_txt 9 true r _ (by simp; omega), rdAdd_txt 9 false (r ++ [40, 102, 117, 110, 32]) (dig f.free) (by simp; omega), rdAdd_txt 9 true _ [32] (by simp; omega)]
    simp only [oneCell_int, oneCell_str, oneCell_bool, oneCell_row, oneCell_ep, oneCell_nilp, cond_true, cond_false, optK_some, ldV_int, ldV_str, ldV_bool, ldV_row, ldV_ep, ldV_nilp, rdBin_add, rdBin_sub, rdBin_mul, rdBin_lss, rdBin_leq, rdBin_gtr, rdBin_geq, rdBin_eql, rdBin_neq, rdBin_seql, rdBin_sneq, unV_not, bvK_bool, bK_true, bK_false, Bool.not_true, Bool.not_false, Bool.not_not, rdNil_ep, rdNil_ptr, oneCell_sl, ldV_sl, vEq_self, List.length_nil, Int.cast_ofNat_Int, Int.reduceEq, Int.reduceLT, Int.reduceLE, decide_true, decide_false, eq_self, Bool.and_self, fa_25_0, fa_25_1, fa_25_2, fa_25_3, fa_25_4, fa_25_5, fa_67_0, fa_67_1, fa_67_2, fa_67_3, fa_69_0, fa_69_1, fa_69_2, fa_71_0, fa_71_1, fa_71_2, fa_71_3, fa_95_0, fa_95_1, fa_95_2, fa_102_0, fa_125_0, fa_125_1, fa_125_2, fa_125_3, fa_125_4, fa_145_0, fa_145_1, fa_177_0, fa_177_1, fp_25_0, fp_25_1, fp_25_2, fp_25_3, fp_25_4, fp_25_5, fp_67_0, fp_67_1, fp_67_2, fp_67_3, fp_69_0, fp_69_1, fp_69_2, fp_71_0, fp_71_1, fp_71_2, fp_71_3, fp_102_0, fp_125_0, fp_125_1, fp_125_2, fp_125_3, fp_125_4, fp_177_0, fp_177_1, fp_177_2, fp_177_3, ld_2, ld_3, ld_9, ld_22, ld_23, ld_25, ld_30, ld_63, ld_64, ld_65, ld_67, ld_69, ld_71, ld_100, ld_125, ld_141, ld_177, len_9, len_22, lenS_22, lenN_22, len_23, lenS_23, lenN_23, len_30, lenS_30, lenN_30, len_63, lenS_63, lenN_63, len_64, lenS_64, lenN_64, len_65, lenS_65, lenN_65, len_148, lenS_148, lenN_148, len_205, lenS_205, lenN_205, beql_4, pneq_141, pneq0_141, Bool.and_true]
    rw [rdAdd_txt 9 false _ (dig f.locs) (by simp; omega), optK_some, rdAdd_txt 9 true _ [32] (by simp; omega), optK_some]
    refine Wq.call p52 hA3 fun H4 nx4 hA4 => ?_
    rw [rdAdd_txt 9 true r _ (by simp; omega), rdAdd_txt 9 false (r ++ [40, 102, 117, 110, 32]) (dig f.free) (by simp; omega), rdAdd_txt 9 true (r ++ [40, 102, 117, 110, 32] ++ dig f.free) [32] (by simp; omega), rdAdd_txt 9 false _ (dig f.locs) (by simp; omega), rdAdd_txt 9 true _ [32] (by simp; omega)]
    simp only [oneCell_int, oneCell_str, oneCell_bool, oneCell_row, oneCell_ep, oneCell_nilp, cond_true, cond_false, optK_some, ldV_int, ldV_str, ldV_bool, ldV_row, ldV_ep, ldV_nilp, rdBin_add, rdBin_sub, rdBin_mul, rdBin_lss, rdBin_leq, rdBin_gtr, rdBin_geq, rdBin_eql, rdBin_neq, rdBin_seql, rdBin_sneq, unV_not, bvK_bool, bK_true, bK_false, Bool.not_true, Bool.not_false, Bool.not_not, rdNil_ep, rdNil_ptr, oneCell_sl, ldV_sl, vEq_self, List.length_nil, Int.cast_ofNat_Int, Int.reduceEq, Int.reduceLT, Int.reduceLE, decide_true, decide_false, eq_self, Bool.and_self, fa_25_0, fa_25_1, fa_25_2, fa_25_3, fa_25_4, fa_25_5, fa_67_0, fa_67_1, fa_67_2, fa_67_3, fa_69_0, fa_69_1, fa_69_2, fa_71_0, fa_71_1, fa_71_2, fa_71_3, fa_95_0, fa_95_1, fa_95_2, fa_102_0, fa_125_0, fa_125_1, fa_125_2, fa_125_3, fa_125_4, fa_145_0, fa_145_1, fa_177_0, fa_177_1, fp_25_0, fp_25_1, fp_25_2, fp_25_3, fp_25_4, fp_25_5, fp_67_0, fp_67_1, fp_67_2, fp_67_3, fp_69_0, fp_69_1, fp_69_2, fp_71_0, fp_71_1, fp_71_2, fp_71_3, fp_102_0, fp_125_0, fp_125_1, fp_125_2, fp_125_3, fp_125_4, fp_177_0, fp_177_1, fp_177_2, fp_177_3, ld_2, ld_3, ld_9, ld_22, ld_23, ld_25, ld_30, ld_63, ld_64, ld_65, ld_67, ld_69, ld_71, ld_100, ld_125, ld_141, ld_177, len_9, len_22, lenS_22, lenN_22, len_23, lenS_23, lenN_23, len_30, lenS_30, lenN_30, len_63, lenS_63, lenN_63, len_64, lenS_64, lenN_64, len_65, lenS_65, lenN_65, len_148, lenS_148, lenN_148, len_205, lenS_205, lenN_205, beql_4, pneq_141, pneq0_141, Bool.and_true]
    rw [rdAdd_txt 9 false _ (tB f.body) (by simp; omega), optK_some, rdAdd_txt 9 true _ [41, 10] (by simp; omega), optK_some]
    simp only [oneCell_int, oneCell_str, oneCell_bool, oneCell_row, oneCell_ep, oneCell_nilp, cond_true, cond_false, optK_some, ldV_int, ldV_str, ldV_bool, ldV_row, ldV_ep, ldV_nilp, rdBin_add, rdBin_sub, rdBin_mul, rdBin_lss, rdBin_leq, rdBin_gtr, rdBin_geq, rdBin_eql, rdBin_neq, rdBin_seql, rdBin_sneq, unV_not, bvK_bool, bK_true, bK_false, Bool.not_true, Bool.not_false, Bool.not_not, rdNil_ep, rdNil_ptr, oneCell_sl, ldV_sl, vEq_self, List.length_nil, Int.cast_ofNat_Int, Int.reduceEq, Int.reduceLT, Int.reduceLE, decide_true, decide_false, eq_self, Bool.and_self, fa_25_0, fa_25_1, fa_25_2, fa_25_3, fa_25_4, fa_25_5, fa_67_0, fa_67_1, fa_67_2, fa_67_3, fa_69_0, fa_69_1, fa_69_2, fa_71_0, fa_71_1, fa_71_2, fa_71_3, fa_95_0, fa_95_1, fa_95_2, fa_102_0, fa_125_0, fa_125_1, fa_125_2, fa_125_3, fa_125_4, fa_145_0, fa_145_1, fa_177_0, fa_177_1, fp_25_0, fp_25_1, fp_25_2, fp_25_3, fp_25_4, fp_25_5, fp_67_0, fp_67_1, fp_67_2, fp_67_3, fp_69_0, fp_69_1, fp_69_2, fp_71_0, fp_71_1, fp_71_2, fp_71_3, fp_102_0, fp_125_0, fp_125_1, fp_125_2, fp_125_3, fp_125_4, fp_177_0, fp_177_1, fp_177_2, fp_177_3, ld_2, ld_3, ld_9, ld_22, ld_23, ld_25, ld_30, ld_63, ld_64, ld_65, ld_67, ld_69, ld_71, ld_100, ld_125, ld_141, ld_177, len_9, len_22, lenS_22, lenN_22, len_23, lenS_23, lenN_23, len_30, lenS_30, lenN_30, len_63, lenS_63, lenN_63, len_64, lenS_64, lenN_64, len_65, lenS_65, lenN_65, len_148, lenS_148, lenN_148, len_205, lenS_205, lenN_205, beql_4, pneq_141, pneq0_141, wrap_succ (show i < 9223372036854775807 by omega)]
    have := ih (r ++ [40, 102, 117, 110, 32] ++ dig f.free ++ [32] ++ dig f.locs ++ [32] ++ tB f.body ++ [41, 10]) _ _ (by simp; omega) hA4
    rw [tFs]
    unfold tF
    rw [funsV] at this
    simpa [List.append_assoc] using this
/-- The law: true for all functions. -/
theorem pu_6 (fs : List Fun) (hl : fs.length < big) (hs : ∀ f, f ∈ fs → bSm f.body) (hR : ∀ f, f ∈ fs → fR f) : Pu 6 [funsV fs] (.bool true) := Pure.of rfl fun H nx => by
  rw [q6]
  refine Wq.call (pu_21 fs 500 hl hs) (.refl _ _) fun H1 nx1 hA1 => ?_
  simp only [oneCell_int, oneCell_str, oneCell_bool, oneCell_row, oneCell_ep, oneCell_nilp, cond_true, cond_false, optK_some, ldV_int, ldV_str, ldV_bool, ldV_row, ldV_ep, ldV_nilp, rdBin_add, rdBin_sub, rdBin_mul, rdBin_lss, rdBin_leq, rdBin_gtr, rdBin_geq, rdBin_eql, rdBin_neq, rdBin_seql, rdBin_sneq, unV_not, bvK_bool, bK_true, bK_false, Bool.not_true, Bool.not_false, Bool.not_not, rdNil_ep, rdNil_ptr, oneCell_sl, ldV_sl, vEq_self, List.length_nil, Int.cast_ofNat_Int, Int.reduceEq, Int.reduceLT, Int.reduceLE, decide_true, decide_false, eq_self, Bool.and_self, fa_25_0, fa_25_1, fa_25_2, fa_25_3, fa_25_4, fa_25_5, fa_67_0, fa_67_1, fa_67_2, fa_67_3, fa_69_0, fa_69_1, fa_69_2, fa_71_0, fa_71_1, fa_71_2, fa_71_3, fa_95_0, fa_95_1, fa_95_2, fa_102_0, fa_125_0, fa_125_1, fa_125_2, fa_125_3, fa_125_4, fa_145_0, fa_145_1, fa_177_0, fa_177_1, fp_25_0, fp_25_1, fp_25_2, fp_25_3, fp_25_4, fp_25_5, fp_67_0, fp_67_1, fp_67_2, fp_67_3, fp_69_0, fp_69_1, fp_69_2, fp_71_0, fp_71_1, fp_71_2, fp_71_3, fp_102_0, fp_125_0, fp_125_1, fp_125_2, fp_125_3, fp_125_4, fp_177_0, fp_177_1, fp_177_2, fp_177_3, ld_2, ld_3, ld_9, ld_22, ld_23, ld_25, ld_30, ld_63, ld_64, ld_65, ld_67, ld_69, ld_71, ld_100, ld_125, ld_141, ld_177, len_9, len_22, lenS_22, lenN_22, len_23, lenS_23, lenN_23, len_30, lenS_30, lenN_30, len_63, lenS_63, lenN_63, len_64, lenS_64, lenN_64, len_65, lenS_65, lenN_65, len_148, lenS_148, lenN_148, len_205, lenS_205, lenN_205, beql_4, pneq_141, pneq0_141]
  refine Wq.ite (fun h => Wq.ret hA1) (fun h => ?_)
  have hb := (fS_b fs hs 0 (by omega) (by omega)).2 (by omega)
  have ht := fS_t fs hs hR 0 (by omega) (by omega)
  refine Wq.call (pu_22 fs hl hs hR (by omega)) hA1 fun H2 nx2 hA2 => ?_
  refine Wq.call (pu_23 fs hl hs hR (by omega) fun f hf => by have := hb f hf; omega) hA2 fun H3 nx3 hA3 => ?_
  simp only [oneCell_int, oneCell_str, oneCell_bool, oneCell_row, oneCell_ep, oneCell_nilp, cond_true, cond_false, optK_some, ldV_int, ldV_str, ldV_bool, ldV_row, ldV_ep, ldV_nilp, rdBin_add, rdBin_sub, rdBin_mul, rdBin_lss, rdBin_leq, rdBin_gtr, rdBin_geq, rdBin_eql, rdBin_neq, rdBin_seql, rdBin_sneq, unV_not, bvK_bool, bK_true, bK_false, Bool.not_true, Bool.not_false, Bool.not_not, rdNil_ep, rdNil_ptr, oneCell_sl, ldV_sl, vEq_self, List.length_nil, Int.cast_ofNat_Int, Int.reduceEq, Int.reduceLT, Int.reduceLE, decide_true, decide_false, eq_self, Bool.and_self, fa_25_0, fa_25_1, fa_25_2, fa_25_3, fa_25_4, fa_25_5, fa_67_0, fa_67_1, fa_67_2, fa_67_3, fa_69_0, fa_69_1, fa_69_2, fa_71_0, fa_71_1, fa_71_2, fa_71_3, fa_95_0, fa_95_1, fa_95_2, fa_102_0, fa_125_0, fa_125_1, fa_125_2, fa_125_3, fa_125_4, fa_145_0, fa_145_1, fa_177_0, fa_177_1, fp_25_0, fp_25_1, fp_25_2, fp_25_3, fp_25_4, fp_25_5, fp_67_0, fp_67_1, fp_67_2, fp_67_3, fp_69_0, fp_69_1, fp_69_2, fp_71_0, fp_71_1, fp_71_2, fp_71_3, fp_102_0, fp_125_0, fp_125_1, fp_125_2, fp_125_3, fp_125_4, fp_177_0, fp_177_1, fp_177_2, fp_177_3, ld_2, ld_3, ld_9, ld_22, ld_23, ld_25, ld_30, ld_63, ld_64, ld_65, ld_67, ld_69, ld_71, ld_100, ld_125, ld_141, ld_177, len_9, len_22, lenS_22, lenN_22, len_23, lenS_23, lenN_23, len_30, lenS_30, lenN_30, len_63, lenS_63, lenN_63, len_64, lenS_64, lenN_64, len_65, lenS_65, lenN_65, len_148, lenS_148, lenN_148, len_205, lenS_205, lenN_205, beql_4, pneq_141, pneq0_141]
  refine Wq.call (u := .bool true) (Pure.ext rfl) hA3 fun H4 nx4 hA4 => ?_
  simp only [oneCell_int, oneCell_str, oneCell_bool, oneCell_row, oneCell_ep, oneCell_nilp, cond_true, cond_false, optK_some, ldV_int, ldV_str, ldV_bool, ldV_row, ldV_ep, ldV_nilp, rdBin_add, rdBin_sub, rdBin_mul, rdBin_lss, rdBin_leq, rdBin_gtr, rdBin_geq, rdBin_eql, rdBin_neq, rdBin_seql, rdBin_sneq, unV_not, bvK_bool, bK_true, bK_false, Bool.not_true, Bool.not_false, Bool.not_not, rdNil_ep, rdNil_ptr, oneCell_sl, ldV_sl, vEq_self, List.length_nil, Int.cast_ofNat_Int, Int.reduceEq, Int.reduceLT, Int.reduceLE, decide_true, decide_false, eq_self, Bool.and_self, fa_25_0, fa_25_1, fa_25_2, fa_25_3, fa_25_4, fa_25_5, fa_67_0, fa_67_1, fa_67_2, fa_67_3, fa_69_0, fa_69_1, fa_69_2, fa_71_0, fa_71_1, fa_71_2, fa_71_3, fa_95_0, fa_95_1, fa_95_2, fa_102_0, fa_125_0, fa_125_1, fa_125_2, fa_125_3, fa_125_4, fa_145_0, fa_145_1, fa_177_0, fa_177_1, fp_25_0, fp_25_1, fp_25_2, fp_25_3, fp_25_4, fp_25_5, fp_67_0, fp_67_1, fp_67_2, fp_67_3, fp_69_0, fp_69_1, fp_69_2, fp_71_0, fp_71_1, fp_71_2, fp_71_3, fp_102_0, fp_125_0, fp_125_1, fp_125_2, fp_125_3, fp_125_4, fp_177_0, fp_177_1, fp_177_2, fp_177_3, ld_2, ld_3, ld_9, ld_22, ld_23, ld_25, ld_30, ld_63, ld_64, ld_65, ld_67, ld_69, ld_71, ld_100, ld_125, ld_141, ld_177, len_9, len_22, lenS_22, lenN_22, len_23, lenS_23, lenN_23, len_30, lenS_30, lenN_30, len_63, lenS_63, lenN_63, len_64, lenS_64, lenN_64, len_65, lenS_65, lenN_65, len_148, lenS_148, lenN_148, len_205, lenS_205, lenN_205, beql_4, pneq_141, pneq0_141]
  exact Wq.ret hA4
end
end Go.Proofs.YtfdgoenmdalphaaGreatDoor
