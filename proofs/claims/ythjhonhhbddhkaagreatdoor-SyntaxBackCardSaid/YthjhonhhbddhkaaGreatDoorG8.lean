/- Texts of this claim, side by side. -/
import Derived.Test.YthjhonhhbddhkaaGreatDoorG7
import Derived.Test.YthjhonhhbddhkaaGreatDoorG6
open List renaming length_map->aa,length_append->aj,mem_of_getElem?->ak,length_cons->ao,getElem?_eq_getElem->au,length_drop->aD,all_eq_true->aM,mem_singleton->aP,eq_nil_of_length_eq_zero->aQ,append_nil->bf,append_assoc->bn,mem_map->bo,getElem?_eq_none->bt,map_cons->bD,nil_append->cj,all_cons->cW,length_nil->c_,drop_zero->dq,drop_eq_getElem_cons->dA,map_map->dC,mem_append->dJ,length_singleton->dU,length_eq_zero_iff->d_,cons_append->eZ,flatMap_cons->fj,take_of_length_le->fl,map_nil->fm,mem_cons_self->fC
open Bool renaming and_eq_true->ae,true_and->ai,false_and->aE,and_true->aW,or_eq_true->bl,and_left_comm->bu,and_assoc->bw,false_or->bG,and_comm->cc,not_true->cM,and_false->cU,eq_iff_iff->dk,or_eq_false_iff->dy,not_eq_true'->dY,not_inj_iff->eY,not_false->fk,or_true->gK,true_or->gL,not_eq_false'->iv
open Nat renaming ble_eq_true_of_le->av,le_refl->ax,beq->ay,zero_le->aN,mod_lt->dV,le_trans->ga,div_add_mod->gC
open Option renaming isSome->iL
namespace Go.Proofs.YthjhonhhbddhkaaGreatDoor
open Go.Ev Go.RowKit
noncomputable section
set_option maxRecDepth 100000
set_option linter.unusedVariables false
set_option linter.unusedSimpArgs false
set_option maxHeartbeats 8000000
section
variable {L:List Tok}
def Tm {α:Type}(L:List Tok)(x:PR α)(m:Nat)(s:α->Nat):Prop:=∃r,x=some r/\∀a k',r=nh.ok a k'->L.length-k'+s a<=m
variable {α β:Type}{m m' k:Nat}{s:β->Nat}{s1:α->Nat}
theorem Tm.bd {x:PR α}{f:α->Nat->PR β}(h:Tm L x m' s1)(hf:∀a k',L.length-k'+s1 a<=m'->Tm L (f a k') m s):Tm L (bd x f) m s:=by
 obtain⟨r,rfl,h2⟩:=h;cases r with
 | bad a=>exact⟨.bad a,rfl,λa k' q=>by cases q⟩
 | ok a k'=>exact hf a k' (h2 a k' rfl)
theorem Tm.tail {x:PR β}{s':β->Nat}(h:Tm L x m' s')(hf:∀a k',L.length-k'+s' a<=m'->L.length-k'+s a<=m):Tm L x m s:=by
 obtain⟨r,rfl,h2⟩:=h;exact⟨r,rfl,λa k' q=>hf a k' (h2 a k' q)⟩
theorem Tm.fail:Tm L (qS L k:PR β) m s:=⟨_,rfl,λa k' q=>by cases q⟩
theorem Tm.yes {a:β}(h:L.length-k+s a<=m):Tm L (yes a k) m s:=⟨_,rfl,λa' k' q=>by cases q;exact h⟩
theorem Tm.jK {w:List UInt8}{x y:PR β}(hx:k<L.length->Tm L x m s)(hy:Tm L y m s):Tm L (if eM L k w=true then x else y) m s:=by
 by_cases hi:eM L k w=true
 . rw[if_pos hi];exact hx (pe hi)
 . rw[if_neg hi];exact hy
theorem Tm.Mj {c:Int}{x y:PR β}(hc:c≠0)(hx:k<L.length->Tm L x m s)(hy:Tm L y m s):Tm L (if(tk L k).k=c then x else y) m s:=by
 by_cases hi:(tk L k).k=c
 . rw[if_pos hi];exact hx (kI (by rw[hi];exact hc))
 . rw[if_neg hi];exact hy
theorem Tm.dj {w:List UInt8}{f:Nat->PR β}(hf:k<L.length->Tm L (f (k+1)) m s):Tm L (dj L w k f) m s:=by
 unfold Go.Proofs.YthjhonhhbddhkaaGreatDoor.dj;exact Tm.jK hf Tm.fail
theorem Tm.gj {c:Int}{f:Tok->Nat->PR β}(hc:c≠0)(hf:k<L.length->Tm L (f (tk L k) (k+1)) m s):Tm L (gj L c k f) m s:=by
 unfold Go.Proofs.YthjhonhhbddhkaaGreatDoor.gj;exact Tm.Mj hc hf Tm.fail
theorem Tm.Mk {b:Bool}{x y:PR β}(hb:b=true->k<L.length)(hx:k<L.length->Tm L x m s)(hy:Tm L y m s):Tm L (if b=true then x else y) m s:=by
 by_cases hi:b=true
 . rw[if_pos hi];exact hx (hb hi)
 . rw[if_neg hi];exact hy
theorem KM (h:uo L k=true):k<L.length:=by
 refine kI λq=> ?_;unfold uo at h;rw[q]at h;simp at h
theorem KN (h:o8 L k=true):k<L.length:=by
 refine kI λq=> ?_;unfold o8 at h;rw[q]at h;simp at h
theorem T2 {lv:Nat}(h:om L lv k=true):k<L.length:=by
 unfold om at h;rw[ae]at h;exact KN h.1
theorem T3 {lv:Nat}(h:om L lv k=true):lv<=6:=by
 unfold om at h;rw[ae]at h;refine Nat.le_of_lt_succ (Decidable.byContradiction λq=> ?_);have:bx[lv]? = none:=bt (by simpa[bx]using Nat.le_of_not_lt q);rw[this]at h;simp at h
theorem T4 (h:unOp L k=true):k<L.length:=by
 unfold unOp at h;rw[ae]at h;exact KN h.1
theorem T5 (h:o9 L k=true):k<L.length:=by
 unfold o9 at h;rw[bl,bl]at h
 rcases h with h | h | h
 . exact KM h
 . exact pe h
 . exact pe h
theorem KO (h:qy L k=true):k<L.length:=by
 unfold qy at h;rw[bl,bl,bl]at h
 rcases h with h | h | h | h
 . exact KM h
 . exact pe h
 . exact pe h
 . exact pe h
theorem Dm {w:List UInt8}:L.length-skip L w k<=L.length-k:=by
 unfold skip
 by_cases hi:eM L k w=true
 . rw[if_pos hi];omega
 . rw[if_neg hi];exact ax _
structure jD (L:List Tok)(n:Nat)(p:PS):Prop where
 exp:∀k,12*(L.length-k)+10<n->Tm L (p.exp k) (L.length-k) (λ_=>1)
 uq:∀e k,12*(L.length-k)+2<n->Tm L (p.uq e k) (L.length-k) (λ_=>1)
 bin:∀lv k,lv<=7->12*(L.length-k)+(9-lv)<n->Tm L (p.bin lv k) (L.length-k) (λ_=>1)
 zP:∀lv a k,12*(L.length-k)<n->Tm L (p.zP lv a k) (L.length-k) (λ_=>0)
 un:∀k,12*(L.length-k)+1<n->Tm L (p.un k) (L.length-k) (λ_=>1)
 y8:∀e k,12*(L.length-k)+1<n->Tm L (p.y8 e k) (L.length-k) (λ_=>0)
 atom:∀k,12*(L.length-k)+0<n->Tm L (p.atom k) (L.length-k) (λ_=>1)
 gu:∀w e k,12*(L.length-k)+0<n->Tm L (p.gu w e k) (L.length-k) (λ_=>0)
 lt:∀k,12*(L.length-k)+1<n->Tm L (p.lt k) (L.length-k) (λ_=>1)
 vm:∀e k,12*(L.length-k)+1<n->Tm L (p.vm e k) (L.length-k) (λ_=>1)
 pat:∀k,12*(L.length-k)+1<n->Tm L (p.pat k) (L.length-k) (λ_=>1)
 gR:∀k,12*(L.length-k)+0<n->Tm L (p.gR k) (L.length-k) (λ_=>1)
 ur:∀e k,12*(L.length-k)+0<n->Tm L (p.ur e k) (L.length-k) (λ_=>0)
 ni:∀k,12*(L.length-k)+1<n->Tm L (p.ni k) (L.length-k) (λ_=>1)
 m7:∀e k,12*(L.length-k)+0<n->Tm L (p.m7 e k) (L.length-k) (λ_=>0)
 post:∀k,12*(L.length-k)+0<n->Tm L (p.post k) (L.length-k) (λ_=>1)
 Mg:∀e k,12*(L.length-k)+0<n->Tm L (p.Mg e k) (L.length-k) (λ_=>0)
 lr:∀e k,12*(L.length-k)+0<n->Tm L (p.lr e k) (L.length-k) (λ_=>0)
 qm:∀k,12*(L.length-k)+0<n->Tm L (p.qm k) (L.length-k) (λ_=>1)
 bind:∀k,12*(L.length-k)+0<n->Tm L (p.bind k) (L.length-k) (λd=>if iL d=true then 1 else 0)
 vn:∀e k,12*(L.length-k)+0<n->Tm L (p.vn e k) (L.length-k) (λ_=>0)
 fn:∀k,12*(L.length-k)+0<n->Tm L (p.fn k) (L.length-k) (λ_=>1)
 MM:∀e k,12*(L.length-k)+1<n->Tm L (p.MM e k) (L.length-k) (λ_=>0)
 dec:∀k,12*(L.length-k)+1<n->Tm L (p.dec k) (L.length-k) (λd=>if iL d=true then 1 else 0)
 data:∀k,12*(L.length-k)+0<n->Tm L (p.data k) (L.length-k) (λ_=>1)
 uu:∀e k,12*(L.length-k)+0<n->Tm L (p.uu e k) (L.length-k) (λ_=>0)
 uv:∀e k,12*(L.length-k)+0<n->Tm L (p.uv e k) (L.length-k) (λ_=>0)
 iD:∀e k,12*(L.length-k)+11<n->Tm L (p.iD e k) (L.length-k) (λ_=>0)
variable {n:Nat}{p:PS}
theorem Z7 (h:jD L n p):∀k,12*(L.length-k)+10<n+1->Tm L (oo L p k) (L.length-k) (λ_=>1):=by
 intro k hn;unfold oo
 repeat' (first
  | with_reducible refine Tm.jK (λhk=> ?_) ?_
  | refine Tm.dj (λhk=> ?_)
  | refine Tm.bd (h.exp _ (by omega)) (λa k1 hk=> ?_)
  | refine Tm.bd (h.uq _ _ (by omega)) (λa k1 hk=> ?_)
  | refine Tm.bd (h.bin _ _ (by omega) (by omega)) (λa k1 hk=> ?_)
  | exact Tm.tail (h.exp _ (by omega)) (λa k1 hk=>by omega)
  | exact Tm.tail (h.uq _ _ (by omega)) (λa k1 hk=>by omega)
  | exact Tm.tail (h.bin _ _ (by omega) (by omega)) (λa k1 hk=>by omega)
  | exact Tm.yes (by omega)
  | exact Tm.fail)
theorem Z8 (h:jD L n p):∀e k,12*(L.length-k)+2<n+1->Tm L (Fv L p e k) (L.length-k) (λ_=>1):=by
 intro e k hn;unfold Fv
 repeat' (first
  | with_reducible refine Tm.jK (λhk=> ?_) ?_
  | refine Tm.dj (λhk=> ?_)
  | refine Tm.bd (h.exp _ (by omega)) (λa k1 hk=> ?_)
  | refine Tm.bd (h.uq _ _ (by omega)) (λa k1 hk=> ?_)
  | refine Tm.bd (h.pat _ (by omega)) (λa k1 hk=> ?_)
  | exact Tm.tail (h.exp _ (by omega)) (λa k1 hk=>by omega)
  | exact Tm.tail (h.uq _ _ (by omega)) (λa k1 hk=>by omega)
  | exact Tm.tail (h.pat _ (by omega)) (λa k1 hk=>by omega)
  | exact Tm.yes (by omega)
  | exact Tm.fail)
theorem Qv (h:jD L n p):∀lv a k,12*(L.length-k)<n+1->Tm L (vo L p lv a k) (L.length-k) (λ_=>0):=by
 intro lv a k hn;unfold vo
 by_cases hi:om L lv k=true
 . rw[if_pos hi];have h1:=T2 hi;have h2:=T3 hi
   by_cases h3:lv=2\/lv=4
   . rw[if_pos h3];exact Tm.bd (h.bin lv (k+1) (by omega) (by omega)) λb k1 hk=>Tm.yes (by omega)
   . rw[if_neg h3];exact Tm.bd (h.bin (lv+1) (k+1) (by omega) (by omega)) λb k1 hk=>Tm.tail (h.zP lv _ k1 (by omega)) λb k2 hk2=>by omega
 . rw[if_neg hi];exact Tm.yes (by omega)
theorem Z9 (h:jD L n p):∀lv k,lv<=7->12*(L.length-k)+(9-lv)<n+1->Tm L (s9 L p lv k) (L.length-k) (λ_=>1):=by
 intro lv k hl hn;unfold s9
 by_cases h7:lv=7
 . rw[if_pos h7];exact Tm.tail (h.un k (by omega)) (λa k1 hk=>hk)
 . rw[if_neg h7];exact Tm.bd (h.bin (lv+1) k (by omega) (by omega)) λa k1 hk=>Tm.tail (Qv h lv a k1 (by omega)) λb k2 hk2=>by omega
theorem He (h:jD L n p):∀e k,12*(L.length-k)+1<n+1->Tm L (y9 L p e k) (L.length-k) (λ_=>0):=by
 intro e k hn;unfold y9
 repeat' (first
  | with_reducible refine Tm.jK (λhk=> ?_) ?_
  | refine Tm.Mk (λhb=>T5 hb) (λhk=> ?_) ?_
  | refine Tm.bd (h.y8 _ _ (by omega)) (λa k1 hk=> ?_)
  | refine Tm.bd (h.atom _ (by omega)) (λa k1 hk=> ?_)
  | exact Tm.tail (h.y8 _ _ (by omega)) (λa k1 hk=>by omega)
  | exact Tm.tail (h.atom _ (by omega)) (λa k1 hk=>by omega)
  | exact Tm.yes (by omega)
  | exact Tm.fail)
theorem ab7 (h:jD L n p):∀k,12*(L.length-k)+1<n+1->Tm L (MN L p k) (L.length-k) (λ_=>1):=by
 intro k hn;unfold MN
 repeat' (first
  | with_reducible refine Tm.jK (λhk=> ?_) ?_
  | refine Tm.Mk (λhb=>T4 hb) (λhk=> ?_) ?_
  | refine Tm.bd (h.un _ (by omega)) (λa k1 hk=> ?_)
  | refine Tm.bd (h.atom _ (by omega)) (λa k1 hk=> ?_)
  | refine Tm.bd (He h _ _ (by omega)) (λa k1 hk=> ?_)
  | exact Tm.tail (h.un _ (by omega)) (λa k1 hk=>by omega)
  | exact Tm.tail (h.atom _ (by omega)) (λa k1 hk=>by omega)
  | exact Tm.tail (He h _ _ (by omega)) (λa k1 hk=>by omega)
  | exact Tm.yes (by omega)
  | exact Tm.fail)
theorem zd (h:jD L n p):∀w e k,12*(L.length-k)+0<n+1->Tm L (qz L p w e k) (L.length-k) (λ_=>0):=by
 intro w e k hn;unfold qz
 repeat' (first
  | with_reducible refine Tm.jK (λhk=> ?_) ?_
  | refine Tm.bd (h.exp _ (by omega)) (λa k1 hk=> ?_)
  | refine Tm.bd (h.gu _ _ _ (by omega)) (λa k1 hk=> ?_)
  | exact Tm.tail (h.exp _ (by omega)) (λa k1 hk=>by omega)
  | exact Tm.tail (h.gu _ _ _ (by omega)) (λa k1 hk=>by omega)
  | exact Tm.yes (by omega)
  | exact Tm.fail)
theorem T6 (h:jD L n p):∀k,12*(L.length-k)+0<n+1->Tm L (kH L p k) (L.length-k) (λ_=>1):=by
 intro k hn;unfold kH
 repeat' (first
  | with_reducible refine Tm.jK (λhk=> ?_) ?_
  | refine Tm.Mj (by decide) (λhk=> ?_) ?_
  | refine Tm.dj (λhk=> ?_)
  | refine Tm.bd (h.exp _ (by omega)) (λa k1 hk=> ?_)
  | refine Tm.bd (h.lt _ (by omega)) (λa k1 hk=> ?_)
  | refine Tm.bd (zd h _ _ _ (by omega)) (λa k1 hk=> ?_)
  | exact Tm.tail (h.exp _ (by omega)) (λa k1 hk=>by omega)
  | exact Tm.tail (h.lt _ (by omega)) (λa k1 hk=>by omega)
  | exact Tm.tail (zd h _ _ _ (by omega)) (λa k1 hk=>by omega)
  | exact Tm.yes (by omega)
  | exact Tm.fail)
theorem Hf (h:jD L n p):∀e k,12*(L.length-k)+1<n+1->Tm L (vp L p e k) (L.length-k) (λ_=>1):=by
 intro e k hn;unfold vp;refine Tm.jK (λhk=>Tm.yes (by omega)) ?_;refine Tm.bd (h.bind _ (by omega)) λd k1 hk=> ?_;cases d with
 | none=>exact Tm.fail
 | some d=>
   have hk:L.length-k1+1<=L.length-k:=hk;have:=@Dm L k1 [59];exact Tm.tail (h.vm _ _ (by omega)) λb k2 hk2=>by omega
theorem ab8 (h:jD L n p):∀k,12*(L.length-k)+1<n+1->Tm L (W7 L p k) (L.length-k) (λ_=>1):=by
 intro k hn;unfold W7
 repeat' (first
  | with_reducible refine Tm.jK (λhk=> ?_) ?_
  | refine Tm.dj (λhk=> ?_)
  | refine Tm.bd (h.exp _ (by omega)) (λa k1 hk=> ?_)
  | refine Tm.bd (Hf h _ _ (by omega)) (λa k1 hk=> ?_)
  | refine Tm.bd (zd h _ _ _ (by omega)) (λa k1 hk=> ?_)
  | exact Tm.tail (h.exp _ (by omega)) (λa k1 hk=>by omega)
  | exact Tm.tail (Hf h _ _ (by omega)) (λa k1 hk=>by omega)
  | exact Tm.tail (zd h _ _ _ (by omega)) (λa k1 hk=>by omega)
  | exact Tm.yes (by omega)
  | exact Tm.fail)
theorem Qw (h:jD L n p):∀k,12*(L.length-k)+1<n+1->Tm L (zQ L p k) (L.length-k) (λ_=>1):=by
 intro k hn;unfold zQ
 repeat' (first
  | with_reducible refine Tm.jK (λhk=> ?_) ?_
  | refine Tm.Mj (by decide) (λhk=> ?_) ?_
  | refine Tm.Mk (λhb=>KO hb) (λhk=> ?_) ?_
  | refine Tm.bd (h.gR _ (by omega)) (λa k1 hk=> ?_)
  | exact Tm.tail (h.gR _ (by omega)) (λa k1 hk=>by omega)
  | exact Tm.yes (by omega)
  | exact Tm.fail)
theorem Z_ (h:jD L n p):∀k,12*(L.length-k)+1<n+1->Tm L (zR L p k) (L.length-k) (λ_=>1):=by
 intro k hn;unfold zR
 repeat' (first
  | with_reducible refine Tm.jK (λhk=> ?_) ?_
  | refine Tm.bd (h.pat _ (by omega)) (λa k1 hk=> ?_)
  | refine Tm.bd (Qw h _ (by omega)) (λa k1 hk=> ?_)
  | exact Tm.tail (h.pat _ (by omega)) (λa k1 hk=>by omega)
  | exact Tm.tail (Qw h _ (by omega)) (λa k1 hk=>by omega)
  | exact Tm.yes (by omega)
  | exact Tm.fail)
theorem Dn (h:jD L n p):∀e k,12*(L.length-k)+0<n+1->Tm L (uZ L p e k) (L.length-k) (λ_=>0):=by
 intro e k hn;unfold uZ
 repeat' (first
  | with_reducible refine Tm.jK (λhk=> ?_) ?_
  | refine Tm.bd (h.pat _ (by omega)) (λa k1 hk=> ?_)
  | refine Tm.bd (h.ur _ _ (by omega)) (λa k1 hk=> ?_)
  | exact Tm.tail (h.pat _ (by omega)) (λa k1 hk=>by omega)
  | exact Tm.tail (h.ur _ _ (by omega)) (λa k1 hk=>by omega)
  | exact Tm.yes (by omega)
  | exact Tm.fail)
theorem Qx (h:jD L n p):∀k,12*(L.length-k)+0<n+1->Tm L (hJ L p k) (L.length-k) (λ_=>1):=by
 intro k hn;unfold hJ
 repeat' (first
  | with_reducible refine Tm.jK (λhk=> ?_) ?_
  | refine Tm.Mj (by decide) (λhk=> ?_) ?_
  | refine Tm.dj (λhk=> ?_)
  | refine Tm.gj (by decide) (λhk=> ?_)
  | refine Tm.bd (h.pat _ (by omega)) (λa k1 hk=> ?_)
  | refine Tm.bd (Dn h _ _ (by omega)) (λa k1 hk=> ?_)
  | exact Tm.tail (h.pat _ (by omega)) (λa k1 hk=>by omega)
  | exact Tm.tail (Dn h _ _ (by omega)) (λa k1 hk=>by omega)
  | exact Tm.yes (by omega)
  | exact Tm.fail)
theorem Dp (h:jD L n p):∀e k,12*(L.length-k)+0<n+1->Tm L (u6 L p e k) (L.length-k) (λ_=>0):=by
 intro e k hn;unfold u6
 repeat' (first
  | with_reducible refine Tm.jK (λhk=> ?_) ?_
  | refine Tm.bd (h.m7 _ _ (by omega)) (λa k1 hk=> ?_)
  | refine Tm.bd (h.post _ (by omega)) (λa k1 hk=> ?_)
  | exact Tm.tail (h.m7 _ _ (by omega)) (λa k1 hk=>by omega)
  | exact Tm.tail (h.post _ (by omega)) (λa k1 hk=>by omega)
  | exact Tm.yes (by omega)
  | exact Tm.fail)
theorem KP (h:jD L n p):∀k,12*(L.length-k)+1<n+1->Tm L (s_ L p k) (L.length-k) (λ_=>1):=by
 intro k hn;unfold s_
 repeat' (first
  | with_reducible refine Tm.jK (λhk=> ?_) ?_
  | refine Tm.bd (h.post _ (by omega)) (λa k1 hk=> ?_)
  | refine Tm.bd (Dp h _ _ (by omega)) (λa k1 hk=> ?_)
  | exact Tm.tail (h.post _ (by omega)) (λa k1 hk=>by omega)
  | exact Tm.tail (Dp h _ _ (by omega)) (λa k1 hk=>by omega)
  | exact Tm.yes (by omega)
  | exact Tm.fail)
theorem aaa (h:jD L n p):∀k,12*(L.length-k)+1<n+1->Tm L (ta L p k) (L.length-k) (λ_=>1):=by
 intro k hn;unfold ta
 repeat' (first
  | with_reducible refine Tm.jK (λhk=> ?_) ?_
  | refine Tm.bd (h.ni _ (by omega)) (λa k1 hk=> ?_)
  | refine Tm.bd (KP h _ (by omega)) (λa k1 hk=> ?_)
  | exact Tm.tail (h.ni _ (by omega)) (λa k1 hk=>by omega)
  | exact Tm.tail (KP h _ (by omega)) (λa k1 hk=>by omega)
  | exact Tm.yes (by omega)
  | exact Tm.fail)
theorem Hg (h:jD L n p):∀e k,12*(L.length-k)+0<n+1->Tm L (y_ L p e k) (L.length-k) (λ_=>0):=by
 intro e k hn;unfold y_
 repeat' (first
  | with_reducible refine Tm.jK (λhk=> ?_) ?_
  | refine Tm.bd (h.ni _ (by omega)) (λa k1 hk=> ?_)
  | refine Tm.bd (h.Mg _ _ (by omega)) (λa k1 hk=> ?_)
  | exact Tm.tail (h.ni _ (by omega)) (λa k1 hk=>by omega)
  | exact Tm.tail (h.Mg _ _ (by omega)) (λa k1 hk=>by omega)
  | exact Tm.yes (by omega)
  | exact Tm.fail)
theorem KQ (h:jD L n p):∀k,12*(L.length-k)+0<n+1->Tm L (o_ L p k) (L.length-k) (λ_=>1):=by
 intro k hn;unfold o_
 repeat' (first
  | with_reducible refine Tm.jK (λhk=> ?_) ?_
  | refine Tm.Mj (by decide) (λhk=> ?_) ?_
  | refine Tm.Mk (λhb=>Dl hb) (λhk=> ?_) ?_
  | refine Tm.dj (λhk=> ?_)
  | refine Tm.bd (h.ni _ (by omega)) (λa k1 hk=> ?_)
  | refine Tm.bd (Hg h _ _ (by omega)) (λa k1 hk=> ?_)
  | exact Tm.tail (h.ni _ (by omega)) (λa k1 hk=>by omega)
  | exact Tm.tail (Hg h _ _ (by omega)) (λa k1 hk=>by omega)
  | exact Tm.yes (by omega)
  | exact Tm.fail)
theorem Dq (h:jD L n p):∀e k,12*(L.length-k)+0<n+1->Tm L (l8 L p e k) (L.length-k) (λ_=>0):=by
 intro e k hn;unfold l8
 repeat' (first
  | with_reducible refine Tm.jK (λhk=> ?_) ?_
  | refine Tm.Mk (λhb=>Dl hb) (λhk=> ?_) ?_
  | refine Tm.bd (h.lr _ _ (by omega)) (λa k1 hk=> ?_)
  | exact Tm.tail (h.lr _ _ (by omega)) (λa k1 hk=>by omega)
  | exact Tm.yes (by omega)
  | exact Tm.fail)
theorem T7 (h:jD L n p):∀k,12*(L.length-k)+0<n+1->Tm L (qT L p k) (L.length-k) (λ_=>1):=by
 intro k hn;unfold qT
 repeat' (first
  | with_reducible refine Tm.jK (λhk=> ?_) ?_
  | refine Tm.bd (KQ h _ (by omega)) (λa k1 hk=> ?_)
  | refine Tm.bd (Dq h _ _ (by omega)) (λa k1 hk=> ?_)
  | exact Tm.tail (KQ h _ (by omega)) (λa k1 hk=>by omega)
  | exact Tm.tail (Dq h _ _ (by omega)) (λa k1 hk=>by omega)
  | exact Tm.yes (by omega)
  | exact Tm.fail)
theorem aab (h:jD L n p):∀k,12*(L.length-k)+0<n+1->Tm L (Fw L p k) (L.length-k) (λ_=>1):=by
 intro k hn;unfold Fw
 repeat' (first
  | with_reducible refine Tm.jK (λhk=> ?_) ?_
  | refine Tm.gj (by decide) (λhk=> ?_)
  | refine Tm.bd (h.ni _ (by omega)) (λa k1 hk=> ?_)
  | exact Tm.tail (h.ni _ (by omega)) (λa k1 hk=>by omega)
  | exact Tm.yes (by omega)
  | exact Tm.fail)
theorem Qy (h:jD L n p):∀e k,12*(L.length-k)+0<n+1->Tm L (vq L p e k) (L.length-k) (λ_=>0):=by
 intro e k hn;unfold vq
 repeat' (first
  | with_reducible refine Tm.jK (λhk=> ?_) ?_
  | refine Tm.bd (h.vn _ _ (by omega)) (λa k1 hk=> ?_)
  | refine Tm.bd (h.fn _ (by omega)) (λa k1 hk=> ?_)
  | exact Tm.tail (h.vn _ _ (by omega)) (λa k1 hk=>by omega)
  | exact Tm.tail (h.fn _ (by omega)) (λa k1 hk=>by omega)
  | exact Tm.yes (by omega)
  | exact Tm.fail)
theorem T8 (h:jD L n p):∀k,12*(L.length-k)+0<n+1->Tm L (qU L p k) (L.length-k) (λd=>if iL d=true then 1 else 0):=by
 intro k hn;unfold qU;refine Tm.jK (λhk=> ?_) (Tm.jK (λhk=> ?_) (Tm.yes (ax _)))
 . refine Tm.bd (h.pat _ (by omega)) λa k1 hk1=>Tm.dj λhk2=>Tm.bd (h.exp _ (by omega)) λb k2 hk3=>Tm.yes ?_;show L.length-k2+1<=_;omega
 . refine Tm.bd (h.fn _ (by omega)) λa k1 hk1=>Tm.bd (Qy h _ _ (by omega)) λb k2 hk3=>Tm.yes ?_;show L.length-k2+1<=_;omega
theorem Hh (h:jD L n p):∀e k,12*(L.length-k)+1<n+1->Tm L (vr L p e k) (L.length-k) (λ_=>0):=by
 intro e k hn;unfold vr
 repeat' (first
  | with_reducible refine Tm.jK (λhk=> ?_) ?_
  | refine Tm.Mk (λhb=>KO hb) (λhk=> ?_) ?_
  | refine Tm.bd (h.gR _ (by omega)) (λa k1 hk=> ?_)
  | refine Tm.bd (h.MM _ _ (by omega)) (λa k1 hk=> ?_)
  | exact Tm.tail (h.gR _ (by omega)) (λa k1 hk=>by omega)
  | exact Tm.tail (h.MM _ _ (by omega)) (λa k1 hk=>by omega)
  | exact Tm.yes (by omega)
  | exact Tm.fail)
theorem ab9 (h:jD L n p):∀k,12*(L.length-k)+0<n+1->Tm L (W8 L p k) (L.length-k) (λ_=>1):=by
 intro k hn;unfold W8
 repeat' (first
  | with_reducible refine Tm.jK (λhk=> ?_) ?_
  | refine Tm.dj (λhk=> ?_)
  | refine Tm.gj (by decide) (λhk=> ?_)
  | refine Tm.bd (h.exp _ (by omega)) (λa k1 hk=> ?_)
  | refine Tm.bd (h.gR _ (by omega)) (λa k1 hk=> ?_)
  | refine Tm.bd (Hh h _ _ (by omega)) (λa k1 hk=> ?_)
  | exact Tm.tail (h.exp _ (by omega)) (λa k1 hk=>by omega)
  | exact Tm.tail (h.gR _ (by omega)) (λa k1 hk=>by omega)
  | exact Tm.tail (Hh h _ _ (by omega)) (λa k1 hk=>by omega)
  | exact Tm.yes (by omega)
  | exact Tm.fail)
theorem aac (h:jD L n p):∀k,12*(L.length-k)+1<n+1->Tm L (qA L p k) (L.length-k) (λd=>if iL d=true then 1 else 0):=by
 intro k hn;unfold qA;refine Tm.jK (λhk=> ?_) (Tm.jK (λhk=> ?_) ?_)
 . refine Tm.bd (h.data _ (by omega)) λa k1 hk1=>Tm.yes ?_;show L.length-k1+1<=_;omega
 . refine Tm.bd (h.qm _ (by omega)) λa k1 hk1=>Tm.yes ?_;show L.length-k1+1<=_;omega
 . exact Tm.tail (h.bind _ (by omega)) λa k1 hk1=>hk1
theorem Hi (h:jD L n p):∀e k,12*(L.length-k)+0<n+1->Tm L (j9 L p e k) (L.length-k) (λ_=>0):=by
 intro e k hn;unfold j9
 repeat' (first
  | with_reducible refine Tm.jK (λhk=> ?_) ?_
  | refine Tm.gj (by decide) (λhk=> ?_)
  | refine Tm.bd (h.uu _ _ (by omega)) (λa k1 hk=> ?_)
  | exact Tm.tail (h.uu _ _ (by omega)) (λa k1 hk=>by omega)
  | exact Tm.yes (by omega)
  | exact Tm.fail)
theorem KR (h:jD L n p):∀k,12*(L.length-k)+0<n+1->Tm L (AL L p k) (L.length-k) (λ_=>0):=by
 intro k hn;unfold AL
 repeat' (first
  | with_reducible refine Tm.jK (λhk=> ?_) ?_
  | refine Tm.Mj (by decide) (λhk=> ?_) ?_
  | refine Tm.dj (λhk=> ?_)
  | refine Tm.gj (by decide) (λhk=> ?_)
  | refine Tm.bd (Hi h _ _ (by omega)) (λa k1 hk=> ?_)
  | exact Tm.tail (Hi h _ _ (by omega)) (λa k1 hk=>by omega)
  | exact Tm.yes (by omega)
  | exact Tm.fail)
theorem Dr (h:jD L n p):∀e k,12*(L.length-k)+0<n+1->Tm L (mC L p e k) (L.length-k) (λ_=>0):=by
 intro e k hn;unfold mC
 repeat' (first
  | with_reducible refine Tm.jK (λhk=> ?_) ?_
  | refine Tm.bd (h.qm _ (by omega)) (λa k1 hk=> ?_)
  | refine Tm.bd (h.uv _ _ (by omega)) (λa k1 hk=> ?_)
  | exact Tm.tail (h.qm _ (by omega)) (λa k1 hk=>by omega)
  | exact Tm.tail (h.uv _ _ (by omega)) (λa k1 hk=>by omega)
  | exact Tm.yes (by omega)
  | exact Tm.fail)
theorem T9 (h:jD L n p):∀k,12*(L.length-k)+0<n+1->Tm L (u7 L p k) (L.length-k) (λ_=>1):=by
 intro k hn;unfold u7
 repeat' (first
  | with_reducible refine Tm.jK (λhk=> ?_) ?_
  | refine Tm.dj (λhk=> ?_)
  | refine Tm.gj (by decide) (λhk=> ?_)
  | refine Tm.bd (h.qm _ (by omega)) (λa k1 hk=> ?_)
  | refine Tm.bd (KR h _ (by omega)) (λa k1 hk=> ?_)
  | refine Tm.bd (Dr h _ _ (by omega)) (λa k1 hk=> ?_)
  | exact Tm.tail (h.qm _ (by omega)) (λa k1 hk=>by omega)
  | exact Tm.tail (KR h _ (by omega)) (λa k1 hk=>by omega)
  | exact Tm.tail (Dr h _ _ (by omega)) (λa k1 hk=>by omega)
  | exact Tm.yes (by omega)
  | exact Tm.fail)
theorem T_ (h:jD L n p):∀e k,12*(L.length-k)+11<n+1->Tm L (qV L p e k) (L.length-k) (λ_=>0):=by
 intro e k hn;unfold qV
 by_cases hi:(tk L k).k=0
 . rw[if_pos hi];exact Tm.yes (by omega)
 . rw[if_neg hi];refine Tm.bd (h.dec _ (by omega)) λd k1 hk=> ?_;cases d with
   | none=>
     have hk:L.length-k1+0<=L.length-k:=hk;refine Tm.bd (h.exp _ (by omega)) λd k2 hk2=> ?_;have:=@Dm L k2 [59];exact Tm.tail (h.iD _ _ (by omega)) λb k3 hk3=>by omega
   | some d=>
     have hk:L.length-k1+1<=L.length-k:=hk;have:=@Dm L k1 [59];exact Tm.tail (h.iD _ _ (by omega)) λb k2 hk2=>by omega
theorem aca:∀n,jD L n (ps L n)
 | 0=>by constructor<;>intros<;>omega
 | n+1=>by
   have h:=aca n;exact {
    exp:=Z7 h
    uq:=Z8 h
    bin:=Z9 h
    zP:=Qv h
    un:=ab7 h
    y8:=He h
    atom:=T6 h
    gu:=zd h
    lt:=ab8 h
    vm:=Hf h
    pat:=Z_ h
    gR:=Qx h
    ur:=Dn h
    ni:=aaa h
    m7:=Dp h
    post:=T7 h
    Mg:=Hg h
    lr:=Dq h
    qm:=aab h
    bind:=T8 h
    vn:=Qy h
    fn:=ab9 h
    MM:=Hh h
    dec:=aac h
    data:=T9 h
    uu:=Hi h
    uv:=Dr h
    iD:=T_ h }
end
section
variable {nx0:Nat}{H0:T OB}
variable {fr:Nat->List Value->TypeId->Prop}{bp:Nat}{l0:List Tok}{b0:Bool}{ok:Bool}{ts:List Tok}{n nx:Nat}{H:T OB}{R:Value->T OB->Nat->Prop}
def RT (fr:Nat->List Value->TypeId->Prop)(b:Nat)(c:List Value)(e:TypeId):Nat->List Value->TypeId->Prop:=λx l t=>(x=b/\l=c/\t=e)\/fr x l t
theorem Wq.aeT {e:TypeId}{u:Value}{k:Value->T OB->Nat->Q}(hS:St fr bp nx0 H0 l0 b0 ok ts n H nx)(hk:∀H',(∀x l t,fr x l t->x≠nx)->St (RT fr nx u.cells.toList e) bp nx0 H0 l0 b0 ok ts n H' (nx+1)->e8 P pl X0 (k (.pointer (some ⟨nx,0,none⟩)) H' (nx+1)) nx0 H0 R):e8 P pl X0 (bU (mi H nx e (some u)) k) nx0 H0 R:=by
 obtain⟨h0,hA,l,b,hO,hG⟩:=hS;have hO':=hO;obtain⟨h1,h2,sl,h3,h4,h5,h6⟩:=hO;refine Wq.box hA λH' hb dZ hA'=>hk H' (λx l t hx=>by have:=(h6 x l t hx).1;omega) ⟨h0,hA',l,b,?_,hG⟩;have:=hO'.dZ (nx':=nx+1) (by omega) dZ;obtain⟨g1,g2,sl',g3,g4,g5,g6⟩:=this;have hrow:∀c o n u,sl= .slice (some ⟨c,o,none⟩) n u->c<nx:=by
  intro c o n u q;rcases h4 with⟨_,e⟩ | ⟨c',_,q2,_,q4⟩
  . rw[q]at e;cases e
  . rw[q]at q4;cases q4;exact q2
 refine⟨h1,by omega,sl,dZ _ _ _ h2 h3,?_,h5,λx l t hx=> ?_⟩
 . rcases h4 with h | ⟨c,q1,q2,q3,q4⟩
   . exact .inl h
   . exact .inr ⟨c,q1,by omega,dZ _ _ _ q2 q3,q4⟩
 . rcases hx with⟨rfl,rfl,rfl⟩ | hx
   . exact⟨by omega,hb,by omega,λc o n u q=>by have:=hrow c o n u q;omega⟩
   . obtain⟨p,q,r⟩:=h6 x l t hx;exact⟨by omega,dZ _ _ _ p q,r⟩
theorem St.get {b:Nat}{c:List Value}{e:TypeId}(h:St (RT fr b c e) bp nx0 H0 l0 b0 ok ts n H nx):dO H b c e:=by
 obtain⟨_,_,l,b',⟨_,_,sl,_,_,_,h6⟩,_⟩:=h;exact(h6 b c e (.inl ⟨rfl,rfl,rfl⟩)).2.1
theorem St.drop {b:Nat}{c:List Value}{e:TypeId}(h:St (RT fr b c e) bp nx0 H0 l0 b0 ok ts n H nx):St fr bp nx0 H0 l0 b0 ok ts n H nx:=by
 obtain⟨h0,hA,l,b',⟨h1,h2,sl,h3,h4,h5,h6⟩,hG⟩:=h;exact⟨h0,hA,l,b',⟨h1,h2,sl,h3,h4,h5,λx l t hx=>h6 x l t (.inr hx)⟩,hG⟩
theorem Wq.D1 {b off:Nat}{c c':List Value}{e t:TypeId}{u:Value}{k:Value->T OB->Nat->Q}(hS:St (RT fr b c e) bp nx0 H0 l0 b0 ok ts n H nx)(hbn:nx0<=b)(hne:∀x l t,fr x l t->x≠b)(hs:bT P t=some 1)(hc:u.cells.toList=[u])(ho:aC u=true)(hn:off<c.length)(hl:c.set off u=c')
 (hk:∀H',St (RT fr b c' e) bp nx0 H0 l0 b0 ok ts n H' nx->e8 P pl X0 (k undef H' nx) nx0 H0 R):e8 P pl X0 (bU (eD P H nx t (some (.pointer (some ⟨b,off,none⟩))) (some u)) k) nx0 H0 R:=by
 obtain⟨h0,hA,l,b',⟨h1,h2,sl,h3,h4,h5,h6⟩,hG⟩:=hS;obtain⟨hb1,hb2,hb3,hb4⟩:=h6 b c e (.inl ⟨rfl,rfl,rfl⟩);refine Wq.put hb2 hs hc ho hn hl hA hbn λH' hb dZ hA'=>hk H' ⟨h0,hA',l,b',⟨h1,h2,sl,dZ _ _ _ (λq=>hb3 q.symm) h3,?_,h5,λx l t hx=> ?_⟩,hG⟩
 . rcases h4 with h | ⟨c,q1,q2,q3,q4⟩
   . exact .inl h
   . exact .inr ⟨c,q1,q2,dZ _ _ _ (hb4 _ _ _ _ q4) q3,q4⟩
 . rcases hx with⟨rfl,rfl,rfl⟩ | hx
   . exact⟨hb1,hb,hb3,hb4⟩
   . obtain⟨p,q,r⟩:=h6 x l t (.inr hx);exact⟨p,dZ _ _ _ (hne x l t hx) q,r⟩
def cQ {α:Type}(tf:Bool->α->List Tok):Bool->List α->List Tok
 | _,[]=>[]
 | b,a::l=>tf b a++cQ tf false l
def fL {α:Type}(nf:α->Nat):List α->Nat
 | []=>0
 | a::l=>nf a+fL nf l
theorem Wq.m8 {α:Type}(l:List α)(okf:α->Bool)(tf:Bool->α->List Tok)(nf:α->Nat)(q:Nat->T OB->Nat->Q)(hS:St fr bp nx0 H0 l0 b0 ok ts n H nx)(hl:l0.length+(n+fL nf l)<=100000)
 (hend:∀H nx,St fr bp nx0 H0 l0 b0 (ok&&l.all okf) (ts++cQ tf true l) (n+fL nf l) H nx->e8 P pl X0 (q l.length H nx) nx0 H0 R)
 (hstep:∀i a H nx ok' ts' n',l[i]? = some a->i<l.length->l0.length+(n'+nf a)<=100000->St fr bp nx0 H0 l0 b0 ok' ts' n' H nx->(∀H nx,St fr bp nx0 H0 l0 b0 (ok'&&okf a) (ts'++tf (decide (i=0)) a) (n'+nf a) H nx->e8 P pl X0 (q (i+1) H nx) nx0 H0 R)->e8 P pl X0 (q i H nx) nx0 H0 R):
 e8 P pl X0 (q 0 H nx) nx0 H0 R:=by
 have key:∀(t:List α) (i:Nat) (ok':Bool) (ts':List Tok) (n':Nat) (H:T OB) (nx:Nat),l.drop i=t->i<=l.length->(ok'&&t.all okf)=(ok&&l.all okf)->ts'++cQ tf (decide (i=0)) t=ts++cQ tf true l->n'+fL nf t=n+fL nf l->St fr bp nx0 H0 l0 b0 ok' ts' n' H nx->e8 P pl X0 (q i H nx) nx0 H0 R:=by
  intro t
  induction t with
  | nil=>
    intro i ok' ts' n' H nx hd hi h1 h2 h3 hS;have hil:=drop_nil hd hi;subst hil;refine hend H nx ?_;rw[<- h1,<- h2,<- h3];simpa[cQ,fL]using hS
  | cons a t ih=>
    intro i ok' ts' n' H nx hd hi h1 h2 h3 hS;obtain⟨hg,hlt,hd'⟩:=drop_cons hd;rw[fL]at h3;refine hstep i a H nx ok' ts' n' hg hlt (by omega) hS λH2 nx2 hS2=>ih (i+1) _ _ _ H2 nx2 hd' (by omega) ?_ ?_ ?_ hS2
    . rw[<- h1,cW,bw]
    . rw[<- h2,cQ,bn];rfl
    . omega
 exact key l 0 ok ts n H nx rfl (aN _) rfl rfl rfl hS
def dB {α:Type}(s:List UInt8)(f:α->List Tok):Bool->α->List Tok:=λb a=>(if b=true then[]else[ft s])++f a
abbrev PI:=(Int×Nat)×(List Tok×List (List Tok))
def AN (x:PI):List Tok:=if x.1.1=6/\x.1.2≠0 then ft [40]::(x.2.1++[ft [41]])else x.2.1
def pf (k n:Int)(s:List UInt8)(q:List PI):List Tok:=
 if k=1 then[ft [95]]
 else if k=2 then[⟨3,s,0,0⟩]
 else if k=3 then if n<0 then[ft [126],⟨1,[],-n,0⟩]else[⟨1,[],n,0⟩]
 else if k=4 then[⟨2,s,0,0⟩]
 else if k=5 then ft [40]::(cQ (dB [44] AN) true q++[ft [41]])
 else if k=6 then if s=[58,58]then(match q with | [x]=>(match x.2.2 with | [a,b]=>a++ft [58,58]::b | _=>[]) | _=>[])else⟨4,s,0,0⟩::cQ (λ_=>AN) true q
 else[]
mutual
def zS:bk->List Tok×List (List Tok)
 | .mk k n s l=>(pf k n s (AO l),(AO l).map AN)
def AO:List bk->List PI
 | []=>[]
 | p::l=>((p.k,p.l.length),zS p)::AO l
end
def jE (p:bk):List Tok:=(zS p).1
def ca (p:bk):List Tok:=AN ((p.k,p.l.length),zS p)
theorem Qz (l:List bk):AO l=l.map λp=>((p.k,p.l.length),zS p):=by
 induction l with
 | nil=>rw[AO];rfl
 | cons p l ih=>rw[AO,ih];rfl
theorem tb (p:bk):zS p=(pf p.k p.n p.s (p.l.map λp=>((p.k,p.l.length),zS p)),p.l.map ca):=by
 cases p;rw[zS,Qz,dC];rfl
theorem m9 (p:bk):ca p=if p.k=6/\p.l.length≠0 then ft [40]::(jE p++[ft [41]])else jE p:=rfl
theorem je {α β:Type}(tf:Bool->β->List Tok)(g:α->β)(l:List α):∀b,cQ tf b (l.map g)=cQ (λb a=>tf b (g a)) b l:=by
 induction l with
 | nil=>intro b;rfl
 | cons a l ih=>intro b;rw[bD,cQ,cQ,ih]
theorem gk (l:List bk):cK l=l.all dN:=by
 induction l with
 | nil=>rw[cK];rfl
 | cons a l ih=>rw[cK,ih];rfl
theorem AP (l:List bk):fL (λp:bk=>8*p.z) l=8*dP l:=by
 induction l with
 | nil=>rfl
 | cons a l ih=>rw[fL,ih,dP];omega
theorem bk.du (p:bk):1<=p.z:=by rw[bk.hZ];omega
theorem Hj {s:List UInt8}(h:oy s):s.length<9223372036854775807:=Nat.lt_trans h (by decide)
theorem Ua (p:bk)(ih:kn 130 [p.v] (dN p) (jE p) (8*p.z-4)):kn 133 [p.v] (dN p) (ca p) (8*p.z-2):=λfr bp nx0 H0 l0 b0 H nx hn hS=>by
 have hz:=p.du;rw[ad4];refine Wq.uk hS λhS=> ?_;simp only[af,aL,aa,jO];have L:∀b:Bool,b=decide ¬(p.k=6/\p.l.length≠0)->e8 P pl X0 (.jump (CI (ptr bp) (ah p.v) b H (nx+1))) nx0 H0 (gN fr bp nx0 H0 l0 b0 (dN p) (ca p) (8*p.z-2)):=by
  intro b hb;refine Wq.jmp (YR ..) (λ_=>rfl) ?_;rw[m9];cases b with
  | true=>
    simp only[af,aL,aa];rw[if_neg (of_decide_eq_true hb.symm)];refine Wq.cG ih rfl hS (by omega) λu H2 nx2 hS2=> ?_;exact Wq.done hS2 (by simp) (λ_=>by simp) (by omega)
  | false=>
    simp only[af,aL,aa];rw[if_pos (Decidable.not_not.1 (of_decide_eq_false hb.symm))];refine Wq.my [40] hS (by omega) λu H1 aI hS1=> ?_;refine Wq.cG ih rfl hS1 (by omega) λu H2 nx2 hS2=> ?_;refine Wq.my [41] hS2 (by omega) λu H3 nx3 hS3=> ?_;exact Wq.done hS3 (by simp) (λ_=>by simp) (by omega)
 refine Wq.jr (λh=>L _ (by simp[h])) (λh=> ?_);exact L _ (by simp[h])
theorem Ub (l:List bk)(hl:l.length<ei)(ih:∀a,a∈l->kn 133 [a.v] (dN a) (ca a) (8*a.z-2)):kn 162 [cL l] (cK l) (cQ (dB [44] ca) true l) (8*dP l):=λfr bp nx0 H0 l0 b0 H nx hn hS=>by
 rw[aen];simp only[af,aL,aa];refine Wq.m8 l dN (dB [44] ca) (λp=>8*p.z) (λi H nx=> .jump (CQ (ptr bp) (cL l) (i64 (l.length:Int)) (i64 (i:Int)) H nx)) hS (by rw[AP];omega) (λH1 aI hS1=> ?_) (λi a H1 aI ok' ts' n' hg hlt hb hS1 ih'=> ?_)
 . refine Wq.jmp (OU ..) (λ_=>rfl) ?_;simp only[af,aL,aa,aF];exact Wq.done hS1 (by rw[gk];simp) (λ_=>by simp) (by rw[AP];omega)
 . have hx:(l.map bk.v)[i]? = some a.v:=by simp[hg]
   have hm:=ak hg;have hz:=a.du;refine Wq.jmp (OU ..) (λ_=>rfl) ?_;simp only[af,aL,aa,aJ hlt,jI hx];refine Wq.j9 fx fJ rfl (GZ _) (G0 _) hS1 λH2 nx2 hS2=> ?_;have L:∀ts2 n2 H3 nx3,St fr bp nx0 H0 l0 b0 ok' ts2 n2 H3 nx3->ts2=ts'++(if decide (i=0)=true then[]else[ft [44]])->n2<=n'+1->e8 P pl X0 (.jump (wo (ptr bp) (ah a.v) (cL l) (i64 (l.length:Int)) (i64 (i:Int)) H3 nx3)) nx0 H0 (gN fr bp nx0 H0 l0 b0 (cK l) (cQ (dB [44] ca) true l) (8*dP l)):=by
    intro ts2 n2 H3 nx3 hS3 e en;subst e;refine Wq.jmp (S8 ..) (λ_=>rfl) ?_;simp only[af,aL,aa];refine Wq.cG (ih a hm) rfl hS3 (by omega) λu H4 nx4 hS4=> ?_;simp only[af,az (show i<9223372036854775807 by have:=cv hl;omega)];refine ih' _ _ (hS4.mono rfl (λ_=> ?_) (by omega));unfold dB;simp
   refine Wq.ite (λh=> ?_) (λh=> ?_)
   . refine Wq.my [44] hS2 (by omega) λu H3 nx3 hS3=> ?_;exact L _ _ _ _ hS3 (by rw[if_neg (by simp;omega)]) (by omega)
   . exact L _ _ _ _ hS2 (by rw[if_pos (by simp;omega)];simp) (by omega)
theorem ze (l:List bk):fL (λp:bk=>8*p.z-2) l<=8*dP l:=by
 induction l with
 | nil=>simp[fL]
 | cons a l ih=>rw[fL,dP];omega
theorem qn (p:bk):jE p=pf p.k p.n p.s (p.l.map λp=>((p.k,p.l.length),zS p)):=by unfold jE;rw[tb]
theorem Uc (p:bk)(h6:p.k=6)(hp:p.ok)(ih:∀a,a∈p.l->kn 133 [a.v] (dN a) (ca a) (8*a.z-2))(ih2:∀q,q∈p.l->∀a,a∈q.l->kn 133 [a.v] (dN a) (ca a) (8*a.z-2)):kn 163 [p.v] (dN p) (jE p) (8*p.z-4):=λfr bp nx0 H0 l0 b0 H nx hn hS=>by
 rw[bk.br]at hp;have hz:=p.hZ;have hlen:=Ma p.l;rw[aeo];refine Wq.uk hS λhS=> ?_;simp only[af,aL,aa,wZ];have e0:dN p=(cK p.l&&(decide (p.n=0)&&if p.s=[58,58]then(match p.l with | [q]=>decide (q.k=5)&&decide (q.l.length=2) | _=>false)else ee 4 p.s&&decide (p.l.length<=1))):=by
  rw[kW];unfold o6;rw[h6];simp<;>rfl
 have L6:∀(r:Bool) H1 aI,r=(decide (p.l.length<=1)&&decide (p.n=0))->St fr bp nx0 H0 l0 b0 r [] 0 H1 aI->e8 P pl X0 (.jump (CR (ptr bp) (ah p.v) H1 aI)) nx0 H0 (gN fr bp nx0 H0 l0 b0 (dN p) (jE p) (8*p.z-4)):=by
  intro r H1 aI hr hS1;refine Wq.jmp (YW ..) (λ_=>rfl) ?_;simp only[af,aL,aa,dL,qk,nP];refine Wq.ite (λhs=> ?_) (λhs=> ?_)
  . rw[if_pos hs]at e0;have L10:∀(c:Bool) H2 nx2,(c=true->∃q a b,p.l=[q]/\q.k=5/\q.l=[a,b]/\q.s=[]/\q.n=0)->(c=false->dN p=false)->St fr bp nx0 H0 l0 b0 (r&&c) [] 0 H2 nx2->e8 P pl X0 (.jump (mu (ptr bp) (ah p.v) H2 nx2)) nx0 H0 (gN fr bp nx0 H0 l0 b0 (dN p) (jE p) (8*p.z-4)):=by
     intro c H2 nx2 hc hc2 hS2;refine Wq.jmp (S9 ..) (λ_=>rfl) ?_;simp only[af,jb,hS2.bad];refine Wq.bK (λhb=> ?_) (λhb=> ?_)
     . have hb0:b0=false:=by cases b0 with
        | false=>rfl
        | true=>simp at hb
       have si:(r&&c)=true:=by rw[hb0]at hb;simpa using hb
       rw[ae]at si;obtain⟨q,a,b,hl,hk,hql,hqs,hqn⟩:=hc si.2;have hr':=si.1;rw[hr,ae,decide_eq_true_eq,decide_eq_true_eq]at hr';have hx:(p.l.map bk.v)[0]? = some q.v:=by rw[hl];rfl
       have hx':=jI hx .i64;rw[show((0:Nat):Int)=0 from rfl]at hx';have hy:(q.l.map bk.v)[0]? = some a.v:=by rw[hql];rfl
       have hy':=jI hy .i64;rw[show((0:Nat):Int)=0 from rfl]at hy';have hw:(q.l.map bk.v)[1]? = some b.v:=by rw[hql];rfl
       have hw':=jI hw .i64;rw[show((1:Nat):Int)=1 from rfl]at hw';simp only[af,aL,aa,hx',hy',hw'];have hqm:q∈p.l:=by rw[hl];simp
       have ha:a∈q.l:=by rw[hql];simp
       have hbm:b∈q.l:=by rw[hql];simp
       have hqz:=q.hZ;have z1:dP p.l=q.z+0:=by rw[hl];rfl
       have z2:dP q.l=a.z+(b.z+0):=by rw[hql];rfl
       have pa:=a.du;have pb:=b.du;refine Wq.cG (ih2 q hqm a ha) rfl hS2 (by omega) λu H3 nx3 hS3=> ?_;refine Wq.my [58,58] hS3 (by omega) λu H4 nx4 hS4=> ?_;refine Wq.cG (ih2 q hqm b hbm) rfl hS4 (by omega) λu H5 nx5 hS5=> ?_;refine Wq.done hS5 ?_ (λ_=> ?_) (by omega)
       . rw[e0,hl,si.1,si.2];simp only[cK,hk,hql,hr'.2,decide_true,ai,aW,ao,c_];rw[kW q,hql,hk,hqs,hqn];simp[cK,o6]
       . rw[qn,h6,hs,hl];simp only[pf,bD,fm];rw[tb q,hql];simp
     . refine Wq.skip hS2 (by rw[iv]at hb;exact hb) (λg1 g2=> ?_) (by omega);rcases Bool.eq_false_or_eq_true c with h | h
       . rw[h,aW]at g2;obtain⟨q,a,b,hl,_⟩:=hc h;rw[e0];rw[g2,hl]at hr;have:decide (p.n=0)=false:=by simpa using hr.symm
         rw[this];simp
       . exact hc2 h
    have F:∀(c:Bool),(c=true->∃q a b,p.l=[q]/\q.k=5/\q.l=[a,b]/\q.s=[]/\q.n=0)->(c=false->dN p=false)->e8 P pl X0 (dm (.call 127 [ptr bp,.bool c] false none H1 aI) (λx H nx=> .jump (mu (ptr bp) (ah p.v) H nx)) jy) nx0 H0 (gN fr bp nx0 H0 l0 b0 (dN p) (jE p) (8*p.z-4)):=by
     intro c hc hc2;refine Wq.cG (er c) rfl hS1 (by omega) λu H2 nx2 hS2=> ?_;exact L10 c H2 nx2 hc hc2 hS2
    match hl:p.l with
    | []=>
      rw[hl]at e0;simp only[af,show decide (([]:List bk).length=1)=false by simp];exact F false nofun (λ_=>by rw[e0];simp)
    | q::q'::r=>
      rw[hl]at e0;simp only[af,show decide ((q::q'::r).length=1)=false by simp];exact F false nofun (λ_=>by rw[e0];simp)
    | [q]=>
      rw[hl]at e0;have hx:(p.l.map bk.v)[0]? = some q.v:=by rw[hl];rfl
      have hx':=jI hx .i64;rw[show((0:Nat):Int)=0 from rfl,hl]at hx';simp only[af,aL,aa,show decide (([q]:List bk).length=1)=true by simp,hx',nP,dL];have e1:dN p=(dN q&&(decide (p.n=0)&&(decide (q.k=5)&&decide (q.l.length=2)))):=by rw[e0];simp[cK]
      refine Wq.ite (λg1=> ?_) (λg1=>F false nofun (λ_=>by rw[e1];simp[g1]));refine Wq.ite (λg2=> ?_) (λg2=>F false nofun (λ_=>by rw[e1];simp[g2]));have e2:dN q=(cK q.l&&(decide (q.n=0)&&(decide (q.s=[]) && !decide (q.l.length=1)))):=by rw[kW,g1];simp[o6]
      refine Wq.ite (λg3=> ?_) (λg3=>F false nofun (λ_=>by rw[e1,e2];simp[g3]));refine F _ (λg4=> ?_) (λg4=>by rw[e1,e2,g4];simp);obtain⟨a,b,hq⟩:∃a b,q.l=[a,b]:=by
       match h:q.l with
       | []=>rw[h]at g2;simp at g2
       | [_]=>rw[h]at g2;simp at g2
       | [a,b]=>exact⟨a,b,rfl⟩
       | a::b::c::r=>rw[h]at g2;simp at g2
      exact⟨q,a,b,hl,g1,hq,g3,of_decide_eq_true g4⟩
  . rw[if_neg hs]at e0;simp only[af,gH];refine Wq.cG (il ⟨4,p.s,0,0⟩ (Hj hp.2.1)) rfl hS1 (by omega) λu H2 nx2 hS2=> ?_;have hsum:=ze p.l;refine Wq.m8 p.l dN (λ_=>ca) (λp=>8*p.z-2) (λi H nx=> .jump (wq (ptr bp) (cL p.l) (i64 (p.l.length:Int)) (i64 (i:Int)) H nx)) hS2 (by omega) (λH1 aI hS1=> ?_) (λi a H1 aI ok' ts' n' hg hlt hb hS1 ih'=> ?_)
    . refine Wq.jmp (Kb ..) (λ_=>rfl) ?_;simp only[af,aL,aa,aF];refine Wq.done hS1 ?_ (λ_=> ?_) (by omega)
      . rw[e0,hr,gk];show _=(p.l.all dN&&(decide (p.n=0)&&(cP ⟨4,p.s,0,0⟩&&decide (p.l.length<=1))));cases p.l.all dN<;>cases decide (p.n=0)<;>cases cP ⟨4,p.s,0,0⟩<;>cases decide (p.l.length<=1)<;>rfl
      . rw[qn,h6];simp only[pf];rw[if_neg (by omega),if_neg (by omega),if_neg (by omega),if_neg (by omega),if_neg (by omega),if_pos trivial,if_neg hs,je];rfl
    . have hx:(p.l.map bk.v)[i]? = some a.v:=by simp[hg]
      have hm:=ak hg;refine Wq.jmp (Kb ..) (λ_=>rfl) ?_;simp only[af,aL,aa,aJ hlt,jI hx];refine Wq.j9 fx fJ rfl (GZ _) (G0 _) hS1 λH2 nx2 hS2=> ?_;refine Wq.cG (ih a hm) rfl hS2 (by omega) λu H4 nx4 hS4=> ?_;simp only[af,az (show i<9223372036854775807 by have:=cv hp.2.2.1;omega)];exact ih' _ _ hS4
 refine Wq.bK (λh=> ?_) (λh=> ?_)
 . refine Wq.cG (er _) rfl hS (by omega) λu H1 aI hS1=> ?_;exact L6 _ H1 aI (by simp[h]) hS1
 . refine Wq.cG (er _) rfl hS (by omega) λu H1 aI hS1=> ?_;exact L6 _ H1 aI (by simp[h]) hS1
end
section
variable {nx0:Nat}{H0:T OB}
variable {fr:Nat->List Value->TypeId->Prop}{bp:Nat}{l0:List Tok}{b0:Bool}{ok:Bool}{ts:List Tok}{n nx:Nat}{H:T OB}{R:Value->T OB->Nat->Prop}
theorem u9 {H:T OB}{b:Nat}{p:bk}(h:dO H b p.cs 47):aA P H 3 (some (.pointer (some ⟨b,0,none⟩)))=some (i64 p.k)/\aA P H 2 (some (.pointer (some ⟨b,1,none⟩)))=some (i64 p.n)/\aA P H 9 (some (.pointer (some ⟨b,2,none⟩)))=some (aK p.s)/\aA P H 42 (some (.pointer (some ⟨b,3,none⟩)))=some (cL p.l)/\aA P H 47 (some (.pointer (some ⟨b,0,none⟩)))=some p.v:=by
 rw[bk.ia]at h;rw[bk.bX];exact⟨aB h sH rfl,aB h V_ rfl,aB h oT rfl,aB h lj rfl,cR h jc fJ (by simp)⟩
theorem QA (p:bk)(hp:p.ok)(h162:kn 162 [cL p.l] (cK p.l) (cQ (dB [44] ca) true p.l) (8*dP p.l))(h163:p.k=6->kn 163 [p.v] (dN p) (jE p) (8*p.z-4)):kn 130 [p.v] (dN p) (jE p) (8*p.z-4):=λfr bp nx0 H0 l0 b0 H nx hn hS=>by
 rw[bk.br]at hp;have hz:=p.hZ;have hn0:=hS.2.1.1;rw[ad1];refine Wq.aeT hS λH1 hne hS1=> ?_;have hB:=u9 (p:=p) hS1.get;simp only[af,aL,aa,vI,mq,p5,sD,hB.1,hB.2.1,hB.2.2.1,hB.2.2.2.1,hB.2.2.2.2,dL,jO,qk];have e0:=kW p;have e1:=qn p;unfold o6 at e0;unfold pf at e1;have eL:∀g:p.l.length=0,cK p.l=true:=λg=>by rw[aQ g];rfl
 have L14:p.k=1->∀(r:Bool) H2 nx2,St (RT fr nx p.v.cells.toList 47) bp nx0 H0 l0 b0 r [] 0 H2 nx2->r=dN p->e8 P pl X0 (.jump (p8 (ptr bp) H2 nx2)) nx0 H0 (gN fr bp nx0 H0 l0 b0 (dN p) (jE p) (8*p.z-4)):=by
  intro hk r H2 nx2 hS2 hr;refine Wq.jmp (SM ..) (λ_=>rfl) ?_;refine Wq.my [95] hS2 (by omega) λu H3 nx3 hS3=> ?_;exact Wq.done hS3.drop hr (λ_=>by rw[e1,if_pos hk];rfl) (by omega)
 have L20:p.k=2->∀(r:Bool) H2 nx2,St (RT fr nx p.v.cells.toList 47) bp nx0 H0 l0 b0 r [] 0 H2 nx2->r=(decide (p.l.length=0)&&decide (p.n=0))->e8 P pl X0 (.jump (sK (ptr bp) (.pointer (some ⟨nx,0,none⟩)) H2 nx2)) nx0 H0 (gN fr bp nx0 H0 l0 b0 (dN p) (jE p) (8*p.z-4)):=by
  intro hk r H2 nx2 hS2 hr;have hB:=u9 (p:=p) hS2.get;refine Wq.jmp (SN ..) (λ_=>rfl) ?_;simp only[af,p5,hB.2.2.1,gH];refine Wq.cG (il ⟨3,p.s,0,0⟩ (Hj hp.2.1)) rfl hS2 (by omega) λu H3 nx3 hS3=> ?_;refine Wq.done hS3.drop ?_ (λ_=>by rw[e1,hk];rfl) (by omega);rw[e0,hk,hr];show _=(cK p.l&&(decide (p.n=0)&&(cP ⟨3,p.s,0,0⟩&&decide (p.l.length=0))))
  by_cases g:p.l.length=0
  . rw[eL g];cases decide (p.n=0)<;>simp[g]
  . simp[g]
 have L38:p.k=4->∀(r:Bool) H2 nx2,St (RT fr nx p.v.cells.toList 47) bp nx0 H0 l0 b0 r [] 0 H2 nx2->r=(decide (p.l.length=0)&&decide (p.n=0))->e8 P pl X0 (.jump (sL (ptr bp) (.pointer (some ⟨nx,0,none⟩)) H2 nx2)) nx0 H0 (gN fr bp nx0 H0 l0 b0 (dN p) (jE p) (8*p.z-4)):=by
  intro hk r H2 nx2 hS2 hr;have hB:=u9 (p:=p) hS2.get;refine Wq.jmp (SP ..) (λ_=>rfl) ?_;simp only[af,p5,hB.2.2.1,gH];refine Wq.cG (il ⟨2,p.s,0,0⟩ (Hj hp.2.1)) rfl hS2 (by omega) λu H3 nx3 hS3=> ?_;refine Wq.done hS3.drop ?_ (λ_=>by rw[e1,hk];rfl) (by omega);rw[e0,hk,hr];show _=(cK p.l&&(decide (p.n=0)&&decide (p.l.length=0)));have:cP ⟨2,p.s,0,0⟩=true:=by simp[cP]
  rw[this]
  by_cases g:p.l.length=0
  . rw[eL g];cases decide (p.n=0)<;>simp[g]
  . simp[g]
 have L44:p.k=5->∀(r:Bool) H2 nx2,St (RT fr nx p.v.cells.toList 47) bp nx0 H0 l0 b0 r [] 0 H2 nx2->r=(!decide (p.l.length=1)&&(decide (p.s=[])&&decide (p.n=0)))->e8 P pl X0 (.jump (p_ (ptr bp) (.pointer (some ⟨nx,0,none⟩)) H2 nx2)) nx0 H0 (gN fr bp nx0 H0 l0 b0 (dN p) (jE p) (8*p.z-4)):=by
  intro hk r H2 nx2 hS2 hr;refine Wq.jmp (SQ ..) (λ_=>rfl) ?_;refine Wq.my [40] hS2 (by omega) λu H3 nx3 hS3=> ?_;have hB:=u9 (p:=p) hS3.get;simp only[af,sD,hB.2.2.2.1];refine Wq.cG h162 rfl hS3 (by omega) λu H4 nx4 hS4=> ?_;refine Wq.my [41] hS4 (by omega) λu H5 nx5 hS5=> ?_;refine Wq.done hS5.drop ?_ (λ_=> ?_) (by omega)
  . rw[e0,hk,hr];show _=(cK p.l&&(decide (p.n=0)&&(decide (p.s=[]) && !decide (p.l.length=1))));cases cK p.l<;>cases decide (p.n=0)<;>cases decide (p.s=[])<;>cases decide (p.l.length=1)<;>rfl
  . rw[e1,hk,je];simp;rfl
 have L26:p.k=3->∀(r:Bool) H2 nx2,St (RT fr nx p.v.cells.toList 47) bp nx0 H0 l0 b0 r [] 0 H2 nx2->r=(decide (p.l.length=0)&&(decide (p.s=[])&&decide (-4611686018427387903<=p.n)))->e8 P pl X0 (.jump (p9 (ptr bp) (.pointer (some ⟨nx,0,none⟩)) H2 nx2)) nx0 H0 (gN fr bp nx0 H0 l0 b0 (dN p) (jE p) (8*p.z-4)):=by
  intro hk r H2 nx2 hS2 hr;have hB:=u9 (p:=p) hS2.get;have e2:dN p=(r&&decide (p.n<=4611686018427387903)):=by
   rw[e0,hk,hr];show(cK p.l&&(decide (p.s=[])&&(decide (p.l.length=0)&&(decide (-4611686018427387903<=p.n)&&decide (p.n<=4611686018427387903)))))=_
   by_cases g:p.l.length=0
   . rw[eL g];cases decide (p.s=[])<;>simp[g]
   . simp[g]
  have e3:jE p=if p.n<0 then[ft [126],⟨1,[],-p.n,0⟩]else[⟨1,[],p.n,0⟩]:=by rw[e1,hk];rfl
  have L28:∀c:Bool,c=(decide (p.n<0) && !(b0 || !r))->e8 P pl X0 (.jump (vY (ptr bp) (.pointer (some ⟨nx,0,none⟩)) c H2 nx2)) nx0 H0 (gN fr bp nx0 H0 l0 b0 (dN p) (jE p) (8*p.z-4)):=by
   intro c hc;refine Wq.jmp (SR ..) (λ_=>rfl) ?_;cases c with
   | true=>
     have hc':=hc.symm;rw[ae,decide_eq_true_eq,dY,dy,iv]at hc';obtain⟨hneg,hb0,hr1⟩:=hc';simp only[af];have hge: -4611686018427387903<=p.n:=by
      rw[hr1]at hr;have:=hr.symm;rw[ae,ae,decide_eq_true_eq,decide_eq_true_eq,decide_eq_true_eq]at this;exact this.2.2
     refine Wq.my [126] hS2 (by omega) λu H3 nx3 hS3=> ?_;have hB:=u9 (p:=p) hS3.get;simp only[af,mq,hB.2.1,wR];rw[aS (show -9223372036854775808<=0-p.n/\0-p.n<9223372036854775808 by omega)];refine Wq.D1 (off:=1) (c':=(bk.mk p.k (0-p.n) p.s p.l).cs) (u:=i64 (0-p.n)) hS3 hn0 hne Sx rfl rfl (by show 1<p.cs.length;rw[bk.ia];simp) (by show p.cs.set 1 _=_;rw[bk.ia,bk.ia];rfl) λH4 hS4=> ?_;have hB4:=u9 (p:=bk.mk p.k (0-p.n) p.s p.l) hS4.get;have hv:aA P H4 2 (some (.pointer (some ⟨nx,1,none⟩)))=some (i64 (0-p.n)):=hB4.2.1;simp only[af,mq,hv,wT];refine Wq.cG (il ⟨1,[],0-p.n,0⟩ (by simp)) rfl hS4 (by omega) λu H5 nx5 hS5=> ?_;refine Wq.done hS5.drop ?_ (λ_=> ?_) (by omega)
     . rw[e2,hr1];have:cP ⟨1,[],0-p.n,0⟩=true:=by
        unfold cP;simp;omega
       rw[this];simp;omega
     . rw[e3,if_pos hneg];simp
   | false=>
     simp only[af,mq,hB.2.1,wT];refine Wq.cG (il ⟨1,[],p.n,0⟩ (by simp)) rfl hS2 (by omega) λu H5 nx5 hS5=> ?_;have et:cP ⟨1,[],p.n,0⟩=(decide (0<=p.n)&&decide (p.n<=4611686018427387903)):=by
      unfold cP;simp
     by_cases hneg:p.n<0
     . have hb:(b0 || !r)=true:=by clear hS2 hS5;cases b0<;>cases r<;>simp[hneg]at hc ⊢
       have e4:cP ⟨1,[],p.n,0⟩=false:=by
        rw[et];simp;omega
       refine Wq.skip hS5.drop (by rw[e4];simp) (λg1 _=> ?_) (by omega);rw[g1]at hb;have:r=false:=by simpa using hb
       rw[e2,this];rfl
     . refine Wq.done hS5.drop ?_ (λ_=>by rw[e3,if_neg hneg];simp) (by omega);rw[e2,et];have:decide (0<=p.n)=true:=by simp;omega
       rw[this,ai]
  refine Wq.jmp (SO ..) (λ_=>rfl) ?_;simp only[af,mq,hB.2.1];refine Wq.ite (λg=> ?_) (λg=> ?_)
  . simp only[af,jb,hS2.bad];exact L28 _ (by simp[g])
  . exact L28 _ (by simp[g])
 refine Wq.ite (λhk=> ?_) (λh1=> ?_)
 . have e2:dN p=(decide (p.l.length=0)&&(decide (p.s=[])&&decide (p.n=0))):=by
    rw[e0,if_pos hk,hk];show(cK p.l&&(decide (p.n=0)&&(decide (p.s=[])&&decide (p.l.length=0))))=_
    by_cases g:p.l.length=0
    . rw[eL g];cases decide (p.n=0)<;>simp[g]
    . simp[g]
   have F:∀c:Bool,c=(decide (p.l.length=0)&&(decide (p.s=[])&&decide (p.n=0)))->e8 P pl X0 (dm (.call 127 [ptr bp,.bool c] false none H1 (nx+1)) (λx H' nx'=> .jump (p8 (ptr bp) H' nx')) jy) nx0 H0 (gN fr bp nx0 H0 l0 b0 (dN p) (jE p) (8*p.z-4)):=by
    intro c hc;refine Wq.cG (er c) rfl hS1 (by omega) λu H2 nx2 hS2=> ?_;exact L14 hk _ _ _ hS2 (by rw[e2,hc];simp)
   refine Wq.ite (λg=> ?_) (λg=>F _ (by simp[g]));refine Wq.ite (λg2=> ?_) (λg2=>F _ (by simp[g2]));exact F _ (by simp[g,g2])
 rw[if_neg h1]at e1;refine Wq.ite (λhk=> ?_) (λh2=> ?_)
 . have F:∀c:Bool,c=(decide (p.l.length=0)&&decide (p.n=0))->e8 P pl X0 (dm (.call 127 [ptr bp,.bool c] false none H1 (nx+1)) (λx H' nx'=> .jump (sK (ptr bp) (.pointer (some ⟨nx,0,none⟩)) H' nx')) jy) nx0 H0 (gN fr bp nx0 H0 l0 b0 (dN p) (jE p) (8*p.z-4)):=by
    intro c hc;refine Wq.cG (er c) rfl hS1 (by omega) λu H2 nx2 hS2=> ?_;exact L20 hk _ _ _ hS2 hc
   refine Wq.ite (λg=> ?_) (λg=>F _ (by simp[g]));exact F _ (by simp[g])
 rw[if_neg h2]at e1;refine Wq.ite (λhk=> ?_) (λh3=> ?_)
 . have F:∀c:Bool,c=(decide (p.l.length=0)&&(decide (p.s=[])&&decide (-4611686018427387903<=p.n)))->e8 P pl X0 (dm (.call 127 [ptr bp,.bool c] false none H1 (nx+1)) (λx H' nx'=> .jump (p9 (ptr bp) (.pointer (some ⟨nx,0,none⟩)) H' nx')) jy) nx0 H0 (gN fr bp nx0 H0 l0 b0 (dN p) (jE p) (8*p.z-4)):=by
    intro c hc;refine Wq.cG (er c) rfl hS1 (by omega) λu H2 nx2 hS2=> ?_;exact L26 hk _ _ _ hS2 hc
   refine Wq.ite (λg=> ?_) (λg=>F _ (by simp[g]));refine Wq.ite (λg2=> ?_) (λg2=>F _ (by simp[g2]));exact F _ (by simp[g,g2])
 rw[if_neg h3]at e1;refine Wq.ite (λhk=> ?_) (λh4=> ?_)
 . have F:∀c:Bool,c=(decide (p.l.length=0)&&decide (p.n=0))->e8 P pl X0 (dm (.call 127 [ptr bp,.bool c] false none H1 (nx+1)) (λx H' nx'=> .jump (sL (ptr bp) (.pointer (some ⟨nx,0,none⟩)) H' nx')) jy) nx0 H0 (gN fr bp nx0 H0 l0 b0 (dN p) (jE p) (8*p.z-4)):=by
    intro c hc;refine Wq.cG (er c) rfl hS1 (by omega) λu H2 nx2 hS2=> ?_;exact L38 hk _ _ _ hS2 hc
   refine Wq.ite (λg=> ?_) (λg=>F _ (by simp[g]));exact F _ (by simp[g])
 rw[if_neg h4]at e1;refine Wq.ite (λhk=> ?_) (λh5=> ?_)
 . have F:∀c:Bool,c=(!decide (p.l.length=1)&&(decide (p.s=[])&&decide (p.n=0)))->e8 P pl X0 (dm (.call 127 [ptr bp,.bool c] false none H1 (nx+1)) (λx H' nx'=> .jump (p_ (ptr bp) (.pointer (some ⟨nx,0,none⟩)) H' nx')) jy) nx0 H0 (gN fr bp nx0 H0 l0 b0 (dN p) (jE p) (8*p.z-4)):=by
    intro c hc;refine Wq.cG (er c) rfl hS1 (by omega) λu H2 nx2 hS2=> ?_;exact L44 hk _ _ _ hS2 hc
   refine Wq.jr (λg=> ?_) (λg=>F _ (by simp[g]));refine Wq.ite (λg2=> ?_) (λg2=>F _ (by simp[g2]));exact F _ (by simp[g,g2])
 rw[if_neg h5]at e1;refine Wq.ite (λhk=> ?_) (λh6=> ?_)
 . refine Wq.cG (h163 hk) rfl hS1 (by omega) λu H2 nx2 hS2=> ?_;exact Wq.done hS2.drop (by simp) (λ_=>by simp) (by omega)
 . rw[if_neg h6]at e1;have e2:dN p=false:=by
    rw[e0,if_neg h1,if_neg h2,if_neg h3,if_neg h4,if_neg h5,if_neg h6];simp
   refine Wq.bad hS1 λH2 hS2=> ?_;exact Wq.done hS2.drop e2.symm (λq=>by rw[e2]at q;cases q) (by omega)
theorem Fy (p:bk)(hp:p.ok):kn 130 [p.v] (dN p) (jE p) (8*p.z-4)/\kn 133 [p.v] (dN p) (ca p) (8*p.z-2)/\∀a,a∈p.l->kn 133 [a.v] (dN a) (ca a) (8*a.z-2):=by
 refine bk.ind (p:=λp=>p.ok->kn 130 [p.v] (dN p) (jE p) (8*p.z-4)/\kn 133 [p.v] (dN p) (ca p) (8*p.z-2)/\∀a,a∈p.l->kn 133 [a.v] (dN a) (ca a) (8*a.z-2)) (λp ih hp=> ?_) p hp;have hp':=(bk.br p).1 hp;have h1:∀a,a∈p.l->kn 133 [a.v] (dN a) (ca a) (8*a.z-2):=λa ha=>(ih a ha (hp'.2.2.2 a ha)).2.1;have h:=QA p hp (Ub p.l hp'.2.2.1 h1) λhk=>Uc p hk hp h1 λq hq=>(ih q hq (hp'.2.2.2 q hq)).2.2;exact⟨h,Ua p h,h1⟩
theorem Ud (p:bk)(hp:p.ok):kn 130 [p.v] (dN p) (jE p) (8*p.z-4):=(Fy p hp).1
theorem Fz (p:bk)(hp:p.ok):kn 133 [p.v] (dN p) (ca p) (8*p.z-2):=(Fy p hp).2.1
end
section
variable {nx0:Nat}{H0:T OB}
variable {fr:Nat->List Value->TypeId->Prop}{bp:Nat}{l0:List Tok}{b0:Bool}{ok:Bool}{ts:List Tok}{n nx:Nat}{H:T OB}{R:Value->T OB->Nat->Prop}
theorem Wq.FA {t kt et:TypeId}{d:TypeDesc}{k1 v1 k2 v2:Value}{k:Value->T OB->Nat->Q}(hu:P.underlying t=some (.map kt et))(hd:P.underlying kt=some d)(hkk:mh d=true)(h0:Instr.findNow d k1 [] 0=some none)(h1:Instr.findNow d k2 [⟨k1,v1,0⟩] 0=some none)(hS:St fr bp nx0 H0 l0 b0 ok ts n H nx)
 (hk:∀m H' nx',(∀kv ok,eA P H' t (some m) (some kv) ok=HS P et ok (Instr.findNow d kv [⟨k1,v1,0⟩,⟨k2,v2,1⟩] 0))->St fr bp nx0 H0 l0 b0 ok ts n H' nx'->e8 P pl X0 (k m H' nx') nx0 H0 R):
 e8 P pl X0 (bU (iI H nx) λm H nx=>bU (db P H nx t (some m) (some k1) (some v1)) λ_ H nx=>bU (db P H nx t (some m) (some k2) (some v2)) λ_ H nx=>k m H nx) nx0 H0 R:=by
 have hn0:=hS.2.1.1;refine Wq.abt hS.2.1 λH1 m1 kb1 km1 hA1=> ?_;refine Wq.rS hu hd hkk m1 h0 hA1 hn0 λH2 m2 kb2 km2 hA2=> ?_;refine Wq.rS hu hd hkk m2 h1 hA2 hn0 λH3 m3 kb3 km3 hA3=> ?_;refine hk _ H3 (nx+1) (λkv ok=>E6 hu hd hkk m3) (hS.Qh hA3 (by omega) λb l e hb h=>kb3 _ _ _ (by omega) (kb2 _ _ _ (by omega) (kb1 _ _ _ hb h)))
abbrev TI:=(Int×Nat)×List Tok
def zf (x:TI):List Tok:=if x.1.1=1\/(x.1.1=2/\x.1.2=0)then x.2 else ft [40]::(x.2++[ft [41]])
def pg (s:List UInt8):List Tok:=if s=[114,101,102]then[gU s]else[⟨3,s,0,0⟩]
def Ml (k:Int)(s:List UInt8)(q:List TI):List Tok:=
 if k=1 then[⟨5,s,0,0⟩]
 else if k=3 then cQ (dB [45,62] zf) true q
 else if k=4 then cQ (dB [42] zf) true q
 else if k=2 then if 1<q.length then ft [40]::(cQ (dB [44] zf) true q++(ft [41]::pg s))else cQ (dB [44] zf) true q++pg s
 else[]
mutual
def uw:bI->List Tok
 | .mk k s l=>Ml k s (QB l)
def QB:List bI->List TI
 | []=>[]
 | t::l=>((t.k,t.l.length),uw t)::QB l
end
def tyI (t:bI):TI:=((t.k,t.l.length),uw t)
def iO (t:bI):List Tok:=zf (tyI t)
theorem Ue (l:List bI):QB l=l.map tyI:=by
 induction l with
 | nil=>rw[QB];rfl
 | cons p l ih=>rw[QB,ih];rfl
theorem Hk (t:bI):uw t=Ml t.k t.s (t.l.map tyI):=by cases t;rw[uw,Ue];rfl
theorem w5 (t:bI):iO t=if t.k=1\/(t.k=2/\t.l.length=0)then uw t else ft [40]::(uw t++[ft [41]]):=rfl
theorem kQ (l:List bI):mz l=l.all mN:=by
 induction l with
 | nil=>rw[mz];rfl
 | cons a l ih=>rw[mz,ih];rfl
theorem QC (l:List bI):fL (λp:bI=>8*p.z-1) l<=8*kP l:=by
 induction l with
 | nil=>simp[fL]
 | cons a l ih=>rw[fL,kP];omega
theorem bI.du (p:bI):1<=p.z:=by rw[bI.hZ];omega
theorem Uf (s:List UInt8)(hs:s.length<9223372036854775807):kn 186 [aK s] (decide (s=[114,101,102])||ee 3 s) (pg s) 1:=λfr bp nx0 H0 l0 b0 H nx hn hS=>by
 rw[aeH];simp only[af,dL];unfold pg;refine Wq.ite (λg=> ?_) (λg=> ?_)
 . refine Wq.key s hS (by omega) λu H2 nx2 hS2=> ?_;exact Wq.done hS2 (by simp[g]) (λ_=>by rw[if_pos g];simp) (by omega)
 . simp only[af,gH];refine Wq.cG (il ⟨3,s,0,0⟩ hs) rfl hS (by omega) λu H2 nx2 hS2=> ?_;exact Wq.done hS2 (by simp[g,ee]) (λ_=>by rw[if_neg g];simp) (by omega)
theorem Ug (t:bI)(ih:kn 171 [t.v] (mN t) (uw t) (8*t.z-4)):kn 185 [t.v] (mN t) (iO t) (8*t.z-2):=λfr bp nx0 H0 l0 b0 H nx hn hS=>by
 have hz:=t.du;rw[aeG];refine Wq.uk hS λhS=> ?_;simp only[af,aL,aa,jO];have L:∀b:Bool,b=decide (t.k=1\/(t.k=2/\t.l.length=0))->e8 P pl X0 (.jump (yQ (ptr bp) (ah t.v) b H (nx+1))) nx0 H0 (gN fr bp nx0 H0 l0 b0 (mN t) (iO t) (8*t.z-2)):=by
  intro b hb;refine Wq.jmp (YZ ..) (λ_=>rfl) ?_;rw[w5];cases b with
  | true=>
    simp only[af,aL,aa];rw[if_pos (of_decide_eq_true hb.symm)];refine Wq.cG ih rfl hS (by omega) λu H2 nx2 hS2=> ?_;exact Wq.done hS2 (by simp) (λ_=>by simp) (by omega)
  | false=>
    simp only[af,aL,aa];rw[if_neg (of_decide_eq_false hb.symm)];refine Wq.my [40] hS (by omega) λu H1 aI hS1=> ?_;refine Wq.cG ih rfl hS1 (by omega) λu H2 nx2 hS2=> ?_;refine Wq.my [41] hS2 (by omega) λu H3 nx3 hS3=> ?_;exact Wq.done hS3 (by simp) (λ_=>by simp) (by omega)
 refine Wq.ite (λh=>L _ (by simp[h])) (λh=> ?_);refine Wq.ite (λh2=> ?_) (λh2=>L _ (by simp[h,h2]));exact L _ (by simp[h2])
theorem KS:P.underlying 187=some (.map 3 9):=by kernel_rfl
theorem QD (t:bI)(ht:t.ok)(ih:∀a,a∈t.l->kn 185 [a.v] (mN a) (iO a) (8*a.z-2)):kn 171 [t.v] (mN t) (uw t) (8*t.z-4):=λfr bp nx0 H0 l0 b0 H nx hn hS=>by
 rw[bI.br]at ht;have hz:=t.hZ;have hlen:=P8 t.l;have hsum:=QC t.l;have e0:=Dd t;have e1:=Hk t;unfold Fm at e0;unfold Ml at e1;rw[aew];refine Wq.uk hS λhS=> ?_;simp only[af,aL,aa,jO];refine Wq.ite (λhk=> ?_) (λh1=> ?_)
 . rw[if_pos hk]at e0 e1;refine Wq.cG (er _) rfl hS (by omega) λu H2 nx2 hS2=> ?_;simp only[af,gH];refine Wq.cG (il ⟨5,t.s,0,0⟩ (Hj ht.1)) rfl hS2 (by omega) λu H3 nx3 hS3=> ?_;refine Wq.done hS3 ?_ (λ_=>by rw[e1];rfl) (by omega);rw[e0];show _=(mz t.l&&(decide (t.l.length=0)&&cP ⟨5,t.s,0,0⟩))
   by_cases g:t.l.length=0
   . rw[aQ g];simp[mz]
   . simp[g]
 rw[if_neg h1]at e0 e1;have L18:∀b:Bool,b=decide (t.k=3\/t.k=4)->e8 P pl X0 (.jump (wB (ptr bp) (ah t.v) (i64 t.k) b H (nx+1))) nx0 H0 (gN fr bp nx0 H0 l0 b0 (mN t) (uw t) (8*t.z-4)):=by
  intro b hb;refine Wq.jmp (Te ..) (λ_=>rfl) ?_;cases b with
  | true=>
    have hk34:=of_decide_eq_true hb.symm;have L20:∀(r:Bool) H2 nx2,r=(decide (t.s=[])&&(decide (2<=t.l.length)&&(decide (t.k=4)||decide (t.l.length=2))))->St fr bp nx0 H0 l0 b0 r [] 0 H2 nx2->e8 P pl X0 (.jump (nL (ptr bp) (ah t.v) H2 nx2)) nx0 H0 (gN fr bp nx0 H0 l0 b0 (mN t) (uw t) (8*t.z-4)):=by
     intro r H2 nx2 hr hS2;have e2:mN t=(r&&t.l.all mN):=by
      rw[e0,hr,kQ];rcases hk34 with hk | hk
      . rw[hk];show(t.l.all mN&&(decide (t.l.length=2)&&decide (t.s=[])))=_
        by_cases g:t.l.length=2
        . rw[g];cases t.l.all mN<;>cases decide (t.s=[])<;>rfl
        . simp[g]
      . rw[hk];show(t.l.all mN&&(decide (2<=t.l.length)&&decide (t.s=[])))=_;cases t.l.all mN<;>cases decide (t.s=[])<;>simp
     obtain⟨sg,hsg⟩:∃sg,sg=if t.k=3 then([45,62]:List UInt8)else[42]:=⟨_,rfl⟩;have e3:uw t=cQ (dB sg iO) true t.l:=by
      rw[e1,hsg];rcases hk34 with hk | hk
      . rw[hk];simp only[if_true];rw[je];rfl
      . rw[hk];simp only[if_true];rw[if_neg (by decide),if_neg (by decide),je];rfl
     refine Wq.jmp (Tf ..) (λ_=>rfl) ?_;simp only[af,aL,aa];refine Wq.m8 t.l mN (dB sg iO) (λp=>8*p.z-1) (λi H nx=> .jump (wD (ptr bp) (ah t.v) (iB t.l) (i64 (t.l.length:Int)) (i64 (i:Int)) H nx)) hS2 (by omega) (λH1 aI hS1=> ?_) (λi a H1 aI ok' ts' n' hg hlt hb hS1 ih'=> ?_)
     . refine Wq.jmp (Kd ..) (λ_=>rfl) ?_;simp only[af,aL,aa,aF];exact Wq.done hS1 e2.symm (λ_=>by rw[e3];simp) (by omega)
     . have hx:(t.l.map bI.v)[i]? = some a.v:=by simp[hg]
       have hm:=ak hg;have hz:=a.du;refine Wq.jmp (Kd ..) (λ_=>rfl) ?_;simp only[af,aL,aa,aJ hlt,mr hx];refine Wq.j9 ff fA rfl (L1 _) (L2 _) hS1 λH2 nx2 hS2=> ?_;have L:∀ts2 n2 H3 nx3,St fr bp nx0 H0 l0 b0 ok' ts2 n2 H3 nx3->ts2=ts'++(if decide (i=0)=true then[]else[ft sg])->n2<=n'+1->e8 P pl X0 (.jump (wF (ptr bp) (ah t.v) (ah a.v) (iB t.l) (i64 (t.l.length:Int)) (i64 (i:Int)) H3 nx3)) nx0 H0 (gN fr bp nx0 H0 l0 b0 (mN t) (uw t) (8*t.z-4)):=by
        intro ts2 n2 H3 nx3 hS3 e en;subst e;refine Wq.jmp (Th ..) (λ_=>rfl) ?_;simp only[af,aL,aa];refine Wq.cG (ih a hm) rfl hS3 (by omega) λu H4 nx4 hS4=> ?_;simp only[af,az (show i<9223372036854775807 by have:=cv ht.2.1;omega)];refine ih' _ _ (hS4.mono rfl (λ_=> ?_) (by omega));unfold dB;simp
       refine Wq.ite (λh=> ?_) (λh=> ?_)
       . refine Wq.FA KS Kz rfl rfl (by kernel_rfl) hS2 λm H3 nx3 hm3 hS3=> ?_;have hl:eA P H3 187 (some m) (some (i64 t.k)) false=some (aK sg):=by
          rw[hm3,hsg];rcases hk34 with hk | hk
          . rw[hk];kernel_rfl
          . rw[hk];kernel_rfl
         simp only[af,aL,aa,hl];refine Wq.my sg hS3 (by omega) λu H3 nx3 hS3=> ?_;exact L _ _ _ _ hS3 (by rw[if_neg (by simp;omega)]) (by omega)
       . exact L _ _ _ _ hS2 (by rw[if_pos (by simp;omega)];simp) (by omega)
    have F:∀c:Bool,c=(decide (t.s=[])&&(decide (2<=t.l.length)&&(decide (t.k=4)||decide (t.l.length=2))))->e8 P pl X0 (dm (.call 127 [ptr bp,.bool c] false none H (nx+1)) (λx H' nx'=> .jump (nL (ptr bp) (ah t.v) H' nx')) jy) nx0 H0 (gN fr bp nx0 H0 l0 b0 (mN t) (uw t) (8*t.z-4)):=by
     intro c hc;refine Wq.cG (er c) rfl hS (by omega) λu H2 nx2 hS2=> ?_;exact L20 _ _ _ hc hS2
    simp only[af,aL,aa,dL,KG,nP];refine Wq.ite (λg1=> ?_) (λg1=>F _ (by simp[g1]));refine Wq.ite (λg2=> ?_) (λg2=>F _ (by simp[g2]));refine Wq.ite (λg3=>F _ (by simp[g1,g2,g3])) (λg3=> ?_);exact F _ (by simp[g1,g2,g3])
  | false=>
    have hk34:=of_decide_eq_false hb.symm;have h3:t.k≠3:=λq=>hk34 (.inl q);have h4:t.k≠4:=λq=>hk34 (.inr q);rw[if_neg h3,if_neg h4]at e1;simp only[af,aL,aa,kX];refine Wq.ite (λhk=> ?_) (λh2=> ?_)
    . rw[if_pos hk]at e0 e1;rw[aa,je]at e1;have e2:mN t=(t.l.all mN&&(decide (t.s=[114,101,102])||ee 3 t.s)):=by rw[e0,kQ]
      have L40:∀(ts0:List Tok) (n0:Nat) H2 nx2,ts0=(if 1<t.l.length then[ft [40]]else[])->n0<=1->St fr bp nx0 H0 l0 b0 true ts0 n0 H2 nx2->e8 P pl X0 (.jump (wC (ptr bp) (ah t.v) H2 nx2)) nx0 H0 (gN fr bp nx0 H0 l0 b0 (mN t) (uw t) (8*t.z-4)):=by
       intro ts0 n0 H2 nx2 hts hn0 hS2;refine Wq.jmp (Tg ..) (λ_=>rfl) ?_;simp only[af,aL,aa];refine Wq.m8 t.l mN (dB [44] iO) (λp=>8*p.z-1) (λi H nx=> .jump (wE (ptr bp) (ah t.v) (iB t.l) (i64 (t.l.length:Int)) (i64 (i:Int)) H nx)) hS2 (by omega) (λH1 aI hS1=> ?_) (λi a H1 aI ok' ts' n' hg hlt hb hS1 ih'=> ?_)
       . refine Wq.jmp (Ke ..) (λ_=>rfl) ?_;have L58:∀(ts1:List Tok) (n1:Nat) H3 nx3,ts1=ts0++cQ (dB [44] iO) true t.l++(if 1<t.l.length then[ft [41]]else[])->n1<=n0+fL (λp:bI=>8*p.z-1) t.l+1->St fr bp nx0 H0 l0 b0 (true&&t.l.all mN) ts1 n1 H3 nx3->e8 P pl X0 (.jump (wH (ptr bp) (ah t.v) H3 nx3)) nx0 H0 (gN fr bp nx0 H0 l0 b0 (mN t) (uw t) (8*t.z-4)):=by
          intro ts1 n1 H3 nx3 hts1 hn1 hS3;refine Wq.jmp (Tj ..) (λ_=>rfl) ?_;simp only[af,aL,aa];refine Wq.cG (Uf t.s (Hj ht.1)) rfl hS3 (by omega) λu H4 nx4 hS4=> ?_;refine Wq.done hS4 (by rw[e2];simp) (λ_=> ?_) (by omega);rw[e1,hts1,hts]
          by_cases g:1<t.l.length
          . simp[g];rfl
          . simp[g];rfl
         simp only[af,aL,aa,aF,kX];refine Wq.ite (λg=> ?_) (λg=> ?_)
         . refine Wq.my [41] hS1 (by omega) λu H3 nx3 hS3=> ?_;exact L58 _ _ _ _ (by rw[if_pos g]) (by omega) hS3
         . exact L58 _ _ _ _ (by rw[if_neg g];simp) (by omega) hS1
       . have hx:(t.l.map bI.v)[i]? = some a.v:=by simp[hg]
         have hm:=ak hg;have hz:=a.du;refine Wq.jmp (Ke ..) (λ_=>rfl) ?_;simp only[af,aL,aa,aJ hlt,mr hx];refine Wq.j9 ff fA rfl (L1 _) (L2 _) hS1 λH2 nx2 hS2=> ?_;have L:∀ts2 n2 H3 nx3,St fr bp nx0 H0 l0 b0 ok' ts2 n2 H3 nx3->ts2=ts'++(if decide (i=0)=true then[]else[ft [44]])->n2<=n'+1->e8 P pl X0 (.jump (wG (ptr bp) (ah t.v) (ah a.v) (iB t.l) (i64 (t.l.length:Int)) (i64 (i:Int)) H3 nx3)) nx0 H0 (gN fr bp nx0 H0 l0 b0 (mN t) (uw t) (8*t.z-4)):=by
          intro ts2 n2 H3 nx3 hS3 e en;subst e;refine Wq.jmp (Ti ..) (λ_=>rfl) ?_;simp only[af,aL,aa];refine Wq.cG (ih a hm) rfl hS3 (by omega) λu H4 nx4 hS4=> ?_;simp only[af,az (show i<9223372036854775807 by have:=cv ht.2.1;omega)];refine ih' _ _ (hS4.mono rfl (λ_=> ?_) (by omega));unfold dB;simp
         refine Wq.ite (λh=> ?_) (λh=> ?_)
         . refine Wq.my [44] hS2 (by omega) λu H3 nx3 hS3=> ?_;exact L _ _ _ _ hS3 (by rw[if_neg (by simp;omega)]) (by omega)
         . exact L _ _ _ _ hS2 (by rw[if_pos (by simp;omega)];simp) (by omega)
      refine Wq.ite (λg=> ?_) (λg=> ?_)
      . refine Wq.my [40] hS (by omega) λu H3 nx3 hS3=> ?_;exact L40 _ _ _ _ (by rw[if_pos g];simp) (by omega) hS3
      . exact L40 _ _ _ _ (by rw[if_neg g]) (by omega) hS
    . have e2:mN t=false:=by
       rw[e0,if_neg h2,if_neg h3,if_neg h4];simp
      refine Wq.bad hS λH2 hS2=> ?_;exact Wq.done hS2 e2.symm (λq=>by rw[e2]at q;cases q) (by omega)
 refine Wq.ite (λg=>L18 _ (by simp[g])) (λg=> ?_);exact L18 _ (by simp[g])
theorem Uh (t:bI)(ht:t.ok):kn 171 [t.v] (mN t) (uw t) (8*t.z-4):=by
 refine bI.ind (p:=λt=>t.ok->kn 171 [t.v] (mN t) (uw t) (8*t.z-4)) (λt ih ht=> ?_) t ht;have ht':=(bI.br t).1 ht;exact QD t ht λa ha=>Ug a (ih a ha (ht'.2.2 a ha))
end
section
variable {nx0:Nat}{H0:T OB}
variable {fr:Nat->List Value->TypeId->Prop}{bp:Nat}{l0:List Tok}{b0:Bool}{ok:Bool}{ts:List Tok}{n nx:Nat}{H:T OB}{R:Value->T OB->Nat->Prop}
def kp (c:eO):List Tok:=⟨4,c.s,0,0⟩::cQ (λ_ t=>gU [111,102]::uw t) true c.arg
theorem eO.du (p:eO):1<=p.z:=by unfold eO.z;omega
theorem Mm (l:List bI):fL (λp:bI=>8*p.z-3) l<=8*kP l:=by
 induction l with
 | nil=>simp[fL]
 | cons a l ih=>rw[fL,kP];omega
theorem KT (c:eO)(hc:c.ok):kn 135 [c.v] (nO c) (kp c) (8*c.z-4):=λfr bp nx0 H0 l0 b0 H nx hn hS=>by
 have hz:c.z=1+c.s.length/8+kP c.arg:=rfl;have hsum:=Mm c.arg;obtain⟨h1,h2,h3⟩:=hc;rw[ad6];refine Wq.uk hS λhS=> ?_;simp only[af,aL,aa,gH,wZ];refine Wq.cG (il ⟨4,c.s,0,0⟩ (Hj h1)) rfl hS (by omega) λu H2 nx2 hS2=> ?_;refine Wq.cG (er _) rfl hS2 (by omega) λu H3 nx3 hS3=> ?_;refine Wq.m8 c.arg mN (λ_ t=>gU [111,102]::uw t) (λp=>8*p.z-3) (λi H nx=> .jump (wh (ptr bp) (iB c.arg) (i64 (c.arg.length:Int)) (i64 (i:Int)) H nx)) hS3 (by omega) (λH1 aI hS1=> ?_) (λi a H1 aI ok' ts' n' hg hlt hb hS1 ih'=> ?_)
 . refine Wq.jmp (J7 ..) (λ_=>rfl) ?_;simp only[af,aL,aa,aF];refine Wq.done hS1 ?_ (λ_=> ?_) (by omega)
   . unfold nO;rw[kQ];show((true&&(true&&cP ⟨4,c.s,0,0⟩)&&decide (c.arg.length<=1))&&c.arg.all mN)=(cP ⟨4,c.s,0,0⟩&&(decide (c.arg.length<=1)&&c.arg.all mN));cases cP ⟨4,c.s,0,0⟩<;>cases decide (c.arg.length<=1)<;>cases c.arg.all mN<;>rfl
   . unfold kp;simp
 . have hx:(c.arg.map bI.v)[i]? = some a.v:=by simp[hg]
   have hm:=ak hg;have hz:=a.du;refine Wq.jmp (J7 ..) (λ_=>rfl) ?_;simp only[af,aL,aa,aJ hlt,mr hx];refine Wq.j9 ff fA rfl (L1 _) (L2 _) hS1 λH2 nx2 hS2=> ?_;refine Wq.key [111,102] hS2 (by omega) λu H3 nx3 hS3=> ?_
   try simp only[af,aL,aa]
   refine Wq.cG (Uh a (h3 a hm)) rfl hS3 (by omega) λu H4 nx4 hS4=> ?_;simp only[af,az (show i<9223372036854775807 by have:=cv h2;omega)];exact ih' _ _ (hS4.mono rfl (λ_=>by simp) (by omega))
def m_ (x:Data):List Tok:=gU [100,97,116,97,116,121,112,101]::((if 1<x.vars.length then[ft [40]]else[])++(cQ (dB [44] λs=>[(⟨5,s,0,0⟩:Tok)]) true x.vars++((if 1<x.vars.length then[ft [41]]else[])++⟨3,x.s,0,0⟩::cQ (λb c=>ft (if b=true then[61]else[124])::kp c) true x.cons)))
def mD (x:Data):Bool:=l7 x.vars&&(lk x.cons&&(ee 3 x.s&&decide (0<x.cons.length)))
theorem rK (l:List (List UInt8)):l7 l=l.all (ee 5):=by
 induction l with
 | nil=>rw[l7];rfl
 | cons a l ih=>rw[l7,ih];rfl
theorem rL (l:List eO):lk l=l.all nO:=by
 induction l with
 | nil=>rw[lk];rfl
 | cons a l ih=>rw[lk,ih];rfl
theorem Mn (l:List eO):fL (λp:eO=>8*p.z-3) l<=8*kG l:=by
 induction l with
 | nil=>simp[fL]
 | cons a l ih=>rw[fL,kG];omega
theorem Mo (l:List (List UInt8)):fL (λ_=>2) l<=8*l6 l:=by
 induction l with
 | nil=>simp[fL]
 | cons a l ih=>rw[fL,l6];omega
theorem Ds:P.underlying 163=some (.map 4 9):=by kernel_rfl
theorem QE:P.underlying 4=some .bool:=by kernel_rfl
theorem Ui (x:Data)(hd:x.ok):kn 134 [x.v] (mD x) (m_ x) (8*x.z+4):=λfr bp nx0 H0 l0 b0 H nx hn hS=>by
 have hz:x.z=l6 x.vars+x.s.length/8+kG x.cons:=rfl;have hs1:=Mo x.vars;have hs2:=Mn x.cons;obtain⟨⟨h1,h2⟩,h3,h4,h5⟩:=hd;rw[ad5];refine Wq.uk hS λhS=> ?_;refine Wq.key [100,97,116,97,116,121,112,101] hS (by omega) λu H1 aI hS1=> ?_;have L28:∀(ts1:List Tok) (n1:Nat) H3 nx3,ts1=gU [100,97,116,97,116,121,112,101]::((if 1<x.vars.length then[ft [40]]else[])++(cQ (dB [44] λs=>[(⟨5,s,0,0⟩:Tok)]) true x.vars++(if 1<x.vars.length then[ft [41]]else[])))->n1<=3+fL (λ_=>2) x.vars->St fr bp nx0 H0 l0 b0 (x.vars.all (ee 5)) ts1 n1 H3 nx3->e8 P pl X0 (.jump (we (ptr bp) (ah x.v) H3 nx3)) nx0 H0 (gN fr bp nx0 H0 l0 b0 (mD x) (m_ x) (8*x.z+4)):=by
  intro ts1 n1 H3 nx3 hts1 hn1 hS3;refine Wq.jmp (SY ..) (λ_=>rfl) ?_;simp only[af,aL,aa,gH,jP];refine Wq.cG (il ⟨3,x.s,0,0⟩ (Hj h3)) rfl hS3 (by omega) λu H4 nx4 hS4=> ?_;refine Wq.cG (er _) rfl hS4 (by omega) λu H5 nx5 hS5=> ?_;refine Wq.m8 x.cons nO (λb c=>ft (if b=true then[61]else[124])::kp c) (λp=>8*p.z-3) (λi H nx=> .jump (wg (ptr bp) (mZ x.cons) (i64 (x.cons.length:Int)) (i64 (i:Int)) H nx)) hS5 (by omega) (λH1 aI hS1=> ?_) (λi a H1 aI ok' ts' n' hg hlt hb hS1 ih'=> ?_)
  . refine Wq.jmp (J6 ..) (λ_=>rfl) ?_;simp only[af,aL,aa,aF];refine Wq.done hS1 ?_ (λ_=> ?_) (by omega)
    . unfold mD;rw[rK,rL];show(((x.vars.all (ee 5)&&cP ⟨3,x.s,0,0⟩)&&decide (0<x.cons.length))&&x.cons.all nO)=(x.vars.all (ee 5)&&(x.cons.all nO&&(cP ⟨3,x.s,0,0⟩&&decide (0<x.cons.length))));cases x.vars.all (ee 5)<;>cases cP ⟨3,x.s,0,0⟩<;>cases decide (0<x.cons.length)<;>cases x.cons.all nO<;>rfl
    . rw[hts1];unfold m_;simp
  . have hx:(x.cons.map eO.v)[i]? = some a.v:=by simp[hg]
    have hm:=ak hg;have hz:=a.du;refine Wq.jmp (J6 ..) (λ_=>rfl) ?_;simp only[af,aL,aa,aJ hlt,uT hx];refine Wq.j9 lB mX rfl (Y6 _) (Y7 _) hS1 λH2 nx2 hS2=> ?_;refine Wq.FA Ds QE rfl rfl (by kernel_rfl) hS2 λm H3 nx3 hm3 hS3=> ?_;have hl:∀b:Bool,eA P H3 163 (some m) (some (.bool b)) false=some (aK (if b=true then[61]else[124])):=by
     intro b;rw[hm3];cases b<;>kernel_rfl
    simp only[af,aL,aa,jO,hl];refine Wq.my _ hS3 (by omega) λu H3 nx3 hS3=> ?_
    try simp only[af,aL,aa]
    refine Wq.cG (KT a (h5 a hm)) rfl hS3 (by omega) λu H4 nx4 hS4=> ?_;simp only[af,az (show i<9223372036854775807 by have:=cv h4;omega)];exact ih' _ _ (hS4.mono rfl (λ_=>by simp) (by omega))
 have L10:∀(ts1:List Tok) (n1:Nat) H3 nx3,ts1=gU [100,97,116,97,116,121,112,101]::(if 1<x.vars.length then[ft [40]]else[])->n1<=2->St fr bp nx0 H0 l0 b0 true ts1 n1 H3 nx3->e8 P pl X0 (.jump (wa (ptr bp) (ah x.v) H3 nx3)) nx0 H0 (gN fr bp nx0 H0 l0 b0 (mD x) (m_ x) (8*x.z+4)):=by
  intro ts1 n1 H3 nx3 hts1 hn1 hS3;refine Wq.jmp (SW ..) (λ_=>rfl) ?_
  try simp only[af,aL,aa]
  refine Wq.m8 x.vars (ee 5) (dB [44] λs=>[(⟨5,s,0,0⟩:Tok)]) (λ_=>2) (λi H nx=> .jump (wb (ptr bp) (ah x.v) (kl x.vars) (i64 (x.vars.length:Int)) (i64 (i:Int)) H nx)) hS3 (by omega) (λH1 aI hS1=> ?_) (λi a H1 aI ok' ts' n' hg hlt hb hS1 ih'=> ?_)
  . refine Wq.jmp (J5 ..) (λ_=>rfl) ?_;simp only[af,aL,aa,aF,kX];refine Wq.ite (λg=> ?_) (λg=> ?_)
    . refine Wq.my [41] hS1 (by omega) λu H3 nx3 hS3=> ?_;exact L28 _ _ _ _ (by rw[hts1];simp[g]) (by omega) (hS3.mono (by simp) (λ_=>rfl) (ax _))
    . exact L28 _ _ _ _ (by rw[hts1];simp[g]) (by omega) (hS1.mono (by simp) (λ_=>rfl) (ax _))
  . have hx:(x.vars.map aK)[i]? = some (aK a):=by simp[hg]
    have hm:=ak hg;refine Wq.jmp (J5 ..) (λ_=>rfl) ?_;simp only[af,aL,aa,aJ hlt,yr hx];have L:∀ts2 n2 H3 nx3,St fr bp nx0 H0 l0 b0 ok' ts2 n2 H3 nx3->ts2=ts'++(if decide (i=0)=true then[]else[ft [44]])->n2<=n'+1->e8 P pl X0 (.jump (wc (ptr bp) (ah x.v) (aK a) (kl x.vars) (i64 (x.vars.length:Int)) (i64 (i:Int)) H3 nx3)) nx0 H0 (gN fr bp nx0 H0 l0 b0 (mD x) (m_ x) (8*x.z+4)):=by
     intro ts2 n2 H3 nx3 hS3 e en;subst e;refine Wq.jmp (SX ..) (λ_=>rfl) ?_;simp only[af,aL,aa,gH];refine Wq.cG (il ⟨5,a,0,0⟩ (Hj (h2 a hm))) rfl hS3 (by omega) λu H4 nx4 hS4=> ?_;simp only[af,az (show i<9223372036854775807 by have:=cv h1;omega)];refine ih' _ _ (hS4.mono rfl (λ_=> ?_) (by omega));unfold dB;simp
    refine Wq.ite (λh=> ?_) (λh=> ?_)
    . refine Wq.my [44] hS1 (by omega) λu H3 nx3 hS3=> ?_;exact L _ _ _ _ hS3 (by rw[if_neg (by simp;omega)]) (by omega)
    . exact L _ _ _ _ hS1 (by rw[if_pos (by simp;omega)];simp) (by omega)
 simp only[af,aL,aa,kX];refine Wq.ite (λg=> ?_) (λg=> ?_)
 . refine Wq.my [40] hS1 (by omega) λu H3 nx3 hS3=> ?_;exact L10 _ _ _ _ (by rw[if_pos g];simp) (by omega) hS3
 . exact L10 _ _ _ _ (by rw[if_neg g];simp) (by omega) hS1
abbrev EI:=Int×(List Tok×List (List Tok))
def gS (x:EI):List Tok:=if ot x.1=true then x.2.1 else ft [40]::(x.2.1++[ft [41]])
def gu (s:List UInt8)(q:List (List Tok)):List Tok:=cQ (dB s id) true q
def gT:Bool->List (List Tok)->List (List Tok)->List Tok
 | b,p::ps,x::xs=>(if b=true then[]else[ft [124]])++(p++ft [61,62]::(x++gT false ps xs))
 | _,_,_=>[]
def zg (k n:Int)(s:List UInt8)(q:List EI)(ps ds:List (List Tok)):List Tok:=
 if k=1 then[⟨1,[],n,0⟩]
 else if k=2\/k=3\/k=4 then[⟨k,s,0,0⟩]
 else if k=5 then ft [40]::(gu [44] (q.map gS)++[ft [41]])
 else if k=13 then ft [40]::(gu [59] (q.map gS)++[ft [41]])
 else if k=10 then(match q with | [x]=>gU [108,101,116]::((ds.flatMap λd=>d++[ft [59]])++gU [105,110]::((if x.1=13 then gu [59] x.2.2 else gS x)++[gU [101,110,100]])) | _=>[])
 else if k=14 then(match q with | [a,b]=>gS a++za s::gS b | _=>[])
 else if k=15 then(match q with | [a]=>za s::gS a | _=>[])
 else if k=6 then(q.map gS).flatten
 else if k=8 then(match q with | [a,b,c]=>gU [105,102]::(gS a++gU [116,104,101,110]::(gS b++gU [101,108,115,101]::gS c)) | _=>[])
 else if k=11 then gU [114,97,105,115,101]::gu [59] (q.map gS)
 else if k=7 then gU [102,110]::gT true ps (q.map gS)
 else if k=9 then(match q with | a::r=>gU [99,97,115,101]::(gS a++gU [111,102]::gT true ps (r.map gS)) | _=>[])
 else if k=12 then(match q with | a::r=>gS a++gU [104,97,110,100,108,101]::gT true ps (r.map gS) | _=>[])
 else[]
mutual
def lq:aO->List Tok×List (List Tok)
 | .mk k n s l p d=>(zg k n s (AQ l) (p.map ca) (FC d),(AQ l).map gS)
def AQ:List aO->List EI
 | []=>[]
 | e::l=>(e.k,lq e)::AQ l
def iE:bm->List Tok
 | .mk k p e f x c=>if k=1 then gU [118,97,108]::(jE p++ft [61]::(lq e).1)else if k=2 then qB true f else if k=3 then m_ x else if k=4 then gU [101,120,99,101,112,116,105,111,110]::kp c else if k=5 then(lq e).1 else[]
def Xa:Fn->List Tok
 | .mk s p b=>⟨3,s,0,0⟩::(p.flatMap ca++ft [61]::(lq b).1)
def FC:List bm->List (List Tok)
 | []=>[]
 | d::l=>iE d::FC l
def qB:Bool->List Fn->List Tok
 | _,[]=>[]
 | b,f::l=>gU (if b=true then[102,117,110]else[97,110,100])::(Xa f++qB false l)
end
def fP (e:aO):List Tok:=(lq e).1
def bh (e:aO):List Tok:=gS (e.k,lq e)
theorem QF (l:List aO):AQ l=l.map λe=>(e.k,lq e):=by
 induction l with
 | nil=>rw[AQ];rfl
 | cons p l ih=>rw[AQ,ih];rfl
theorem QG (l:List bm):FC l=l.map iE:=by
 induction l with
 | nil=>rw[FC];rfl
 | cons p l ih=>rw[FC,ih];rfl
theorem w6 (e:aO):lq e=(zg e.k e.n e.s (e.l.map λe=>(e.k,lq e)) (e.p.map ca) (e.d.map iE),e.l.map bh):=by
 cases e;rw[lq,QF,QG,dC];rfl
theorem gI (e:aO):fP e=zg e.k e.n e.s (e.l.map λe=>(e.k,lq e)) (e.p.map ca) (e.d.map iE):=by unfold fP;rw[w6]
theorem l_ (e:aO):bh e=if ot e.k=true then fP e else ft [40]::(fP e++[ft [41]]):=rfl
theorem Hl (f:Fn):Xa f=⟨3,f.s,0,0⟩::(f.p.flatMap ca++ft [61]::fP f.b):=by cases f;rw[Xa];rfl
theorem Dt (l:List Fn):∀b,qB b l=cQ (λb f=>gU (if b=true then[102,117,110]else[97,110,100])::Xa f) b l:=by
 induction l with
 | nil=>intro b;rw[qB];rfl
 | cons p l ih=>intro b;rw[qB,ih,cQ];rfl
theorem tc (d:bm):iE d=if d.k=1 then gU [118,97,108]::(jE d.p++ft [61]::fP d.e)else if d.k=2 then qB true d.f else if d.k=3 then m_ d.x else if d.k=4 then gU [101,120,99,101,112,116,105,111,110]::kp d.c else if d.k=5 then fP d.e else[]:=by cases d;rw[iE];rfl
theorem kq (s:List UInt8)(l:List aO):gu s (l.map bh)=cQ (dB s bh) true l:=by
 unfold gu;rw[je];rfl
theorem kR (s:List UInt8)(l:List aO):gu s ((l.map λe=>(e.k,lq e)).map gS)=cQ (dB s bh) true l:=by
 rw[dC];exact kq s l
end
section
variable {nx0:Nat}{H0:T OB}
variable {fr:Nat->List Value->TypeId->Prop}{bp:Nat}{l0:List Tok}{b0:Bool}{ok:Bool}{ts:List Tok}{n nx:Nat}{H:T OB}{R:Value->T OB->Nat->Prop}
theorem Mp (e:aO):fo (fy e) e=((decide (e.k=1)||decide (e.n=0))&&((decide (e.k=2\/e.k=3\/e.k=4\/e.k=14\/e.k=15)||decide (e.s=[]))&&((!decide (e.k=1\/e.k=2\/e.k=3\/e.k=4)||decide (e.l.length=0))&&((decide (e.k=7\/e.k=9\/e.k=12)||decide (e.p.length=0))&&(decide (e.k=10)||decide (e.d.length=0)))))):=by
 have A:∀{α:Type} (c:Prop) [Decidable c] (x y:α),((if c then x else y)=x)↔(c\/y=x):=by
  intro α c _ x y
  by_cases h:c<;>simp[h]
 have B:∀{α:Type} (c:Prop) [Decidable c] (x y:α),((if c then y else x)=x)↔(¬c\/y=x):=by
  intro α c _ x y
  by_cases h:c<;>simp[h]
 have C:∀{α:Type} (l:List α),([]=l)↔l.length=0:=by
  intro α l;cases l<;>simp
 obtain⟨k,n,s,l,p,d⟩:=e;rw[dk,jN];show(aO.mk k (if k=1 then n else 0) (if k=2\/k=3\/k=4\/k=14\/k=15 then s else[]) (if k=1\/k=2\/k=3\/k=4 then[]else l) (if k=7\/k=9\/k=12 then p else[]) (if k=10 then d else[])=aO.mk k n s l p d)↔((decide (k=1)||decide (n=0))&&((decide (k=2\/k=3\/k=4\/k=14\/k=15)||decide (s=[]))&&((!decide (k=1\/k=2\/k=3\/k=4)||decide (l.length=0))&&((decide (k=7\/k=9\/k=12)||decide (p.length=0))&&(decide (k=10)||decide (d.length=0))))))=true;rw[aO.mk.injEq,A,A,B,A,A,C p,C d,C l];rw[ae,ae,ae,ae,bl,bl,bl,bl,bl,decide_eq_true_eq,decide_eq_true_eq,decide_eq_true_eq,decide_eq_true_eq,decide_eq_true_eq,decide_eq_true_eq,decide_eq_true_eq,decide_eq_true_eq,decide_eq_true_eq,dY,decide_eq_false_iff_not,eq_comm (a:=(0:Int)),eq_comm (a:=([]:List UInt8))];exact⟨λh=>h.2,λh=>⟨rfl,h⟩⟩
theorem w7 (e:aO)(m:Nat)(a b c d:Bool):dG e (m:Int) a b c d=(decide (e.l.length=m)&&dG e (-1) a b c d):=by
 unfold dG;rw[show decide ((m:Int)<0)=false from by simp,show decide ((-1:Int)<0)=true from rfl,nat_eq,bG,gL,ai]
theorem w8 (e:aO)(a b c d:Bool):dG e 0 a b c d=(decide (e.l.length=0)&&dG e (-1) a b c d):=w7 e 0 a b c d
theorem Du (e:aO)(a b c d:Bool):dG e 1 a b c d=(decide (e.l.length=1)&&dG e (-1) a b c d):=w7 e 1 a b c d
theorem KU (e:aO)(a b c d:Bool):dG e 2 a b c d=(decide (e.l.length=2)&&dG e (-1) a b c d):=w7 e 2 a b c d
theorem Uj (e:aO)(a b c d:Bool):dG e 3 a b c d=(decide (e.l.length=3)&&dG e (-1) a b c d):=w7 e 3 a b c d
theorem jF (e:aO):dt e=(dG e (-1) (decide (e.k=2\/e.k=3\/e.k=4\/e.k=14\/e.k=15)) (decide (e.k=1)) (decide (e.k=7\/e.k=9\/e.k=12)) (decide (e.k=10))&&(cD e.l&&((!decide (e.k=7\/e.k=9\/e.k=12)||cK e.p)&&((!decide (e.k=10)||eK e.d)&&((!decide (e.k=1\/e.k=2\/e.k=3\/e.k=4)||decide (e.l.length=0))&&iC e.k e.n e.s e.l.length e.p.length e.d))))):=by
 rw[Dg,Mp];unfold dG;rw[show decide ((-1:Int)<0)=true from rfl];have hp:e.p.length=0->cK e.p=true:=λg=>by rw[aQ g];rfl
 have hd:e.d.length=0->eK e.d=true:=λg=>by rw[aQ g];rw[eK]
 generalize iC e.k e.n e.s e.l.length e.p.length e.d=x0;generalize cD e.l=x1;generalize cK e.p=x2 at*;generalize eK e.d=x3 at*;generalize decide (e.n=0)=x4;generalize decide (e.s=[])=x5;generalize decide (e.l.length=0)=x6;generalize (decide (e.k=1))=y1;generalize (decide (e.k=2\/e.k=3\/e.k=4\/e.k=14\/e.k=15))=y2;generalize decide (e.k=1\/e.k=2\/e.k=3\/e.k=4)=y3;generalize decide (e.k=7\/e.k=9\/e.k=12)=y4;generalize decide (e.k=10)=y5
 by_cases g1:e.p.length=0<;>by_cases g2:e.d.length=0
 . have h2:=hp g1;have h3:=hd g2;subst h2;subst h3;simp only[g1,g2,decide_true,gK,ai,aW];cases x0<;>cases x1<;>cases x4<;>cases x5<;>cases x6<;>cases y1<;>cases y2<;>cases y3<;>rfl
 . have h2:=hp g1;subst h2;simp only[g1,g2,decide_true,decide_false,gK,Bool.or_false,ai,aW];cases x0<;>cases x1<;>cases x3<;>cases x4<;>cases x5<;>cases x6<;>cases y1<;>cases y2<;>cases y3<;>cases y5<;>rfl
 . have h3:=hd g2;subst h3;simp only[g1,g2,decide_true,decide_false,gK,Bool.or_false,ai,aW];cases x0<;>cases x1<;>cases x2<;>cases x4<;>cases x5<;>cases x6<;>cases y1<;>cases y2<;>cases y3<;>cases y4<;>rfl
 . simp only[g1,g2,decide_false,Bool.or_false];cases y4<;>cases y5<;>simp only[aE,cU,ai,cM,bG,aW]
   all_goals (cases x0<;>cases x1<;>cases x2<;>cases x3<;>cases x4<;>cases x5<;>cases x6<;>cases y1<;>cases y2<;>cases y3<;>rfl)
theorem nR (l:List aO):cD l=l.all dt:=by
 induction l with
 | nil=>rw[cD];rfl
 | cons a l ih=>rw[cD,ih];rfl
theorem kS (l:List bm):eK l=l.all jt:=by
 induction l with
 | nil=>rw[eK];rfl
 | cons a l ih=>rw[eK,ih];rfl
theorem ux (l:List Fn):o7 l=l.all RS:=by
 induction l with
 | nil=>rw[o7];rfl
 | cons a l ih=>rw[o7,ih];rfl
theorem aO.du (p:aO):1<=p.z:=by rw[aO.hZ];omega
theorem AR (l:List aO):fL (λp:aO=>8*p.z-1) l<=8*eX l:=by
 induction l with
 | nil=>simp[fL]
 | cons a l ih=>rw[fL,eX];omega
theorem im {α:Type}(f:α->List Tok)(l:List α):∀b,cQ (λ_=>f) b l=l.flatMap f:=by
 induction l with
 | nil=>intro b;rfl
 | cons a l ih=>intro b;rw[cQ,ih,fj]
theorem Uk (e:aO)(ih:kn 131 [e.v] (dt e) (fP e) (8*e.z-4)):kn 168 [e.v] (dt e) (bh e) (8*e.z-2):=λfr bp nx0 H0 l0 b0 H nx hn hS=>by
 have hz:=e.du;rw[aet];refine Wq.uk hS λhS=> ?_;simp only[af,aL,aa];refine Wq.qR (ZW e) hS λH1 aI hS1=> ?_;rw[l_];simp only[af,aL,aa];refine Wq.bK (λh=> ?_) (λh=> ?_)
 . rw[if_pos h];refine Wq.cG ih rfl hS1 (by omega) λu H2 nx2 hS2=> ?_;exact Wq.done hS2 (by simp) (λ_=>by simp) (by omega)
 . rw[if_neg (by rw[h];decide)];refine Wq.my [40] hS1 (by omega) λu H1 aI hS1=> ?_;refine Wq.cG ih rfl hS1 (by omega) λu H2 nx2 hS2=> ?_;refine Wq.my [41] hS2 (by omega) λu H3 nx3 hS3=> ?_;exact Wq.done hS3 (by simp) (λ_=>by simp) (by omega)
theorem Dv (l:List aO)(s:List UInt8)(hl:l.length<ei)(ih:∀a,a∈l->kn 168 [a.v] (dt a) (bh a) (8*a.z-2)):kn 165 [fK l,aK s] (cD l) (cQ (dB s bh) true l) (8*eX l):=λfr bp nx0 H0 l0 b0 H nx hn hS=>by
 have hsum:=AR l;rw[aeq];simp only[af,aL,aa];refine Wq.m8 l dt (dB s bh) (λp=>8*p.z-1) (λi H nx=> .jump (CS (ptr bp) (aK s) (fK l) (i64 (l.length:Int)) (i64 (i:Int)) H nx)) hS (by omega) (λH1 aI hS1=> ?_) (λi a H1 aI ok' ts' n' hg hlt hb hS1 ih'=> ?_)
 . refine Wq.jmp (OV ..) (λ_=>rfl) ?_;simp only[af,aL,aa,aF];exact Wq.done hS1 (by rw[nR];simp) (λ_=>by simp) (by omega)
 . have hx:(l.map aO.v)[i]? = some a.v:=by simp[hg]
   have hm:=ak hg;have hz:=a.du;refine Wq.jmp (OV ..) (λ_=>rfl) ?_;simp only[af,aL,aa,aJ hlt,kE hx];refine Wq.j9 de dE rfl (LZ _) (L0 _) hS1 λH2 nx2 hS2=> ?_;have L:∀ts2 n2 H3 nx3,St fr bp nx0 H0 l0 b0 ok' ts2 n2 H3 nx3->ts2=ts'++(if decide (i=0)=true then[]else[ft s])->n2<=n'+1->e8 P pl X0 (.jump (wu (ptr bp) (aK s) (ah a.v) (fK l) (i64 (l.length:Int)) (i64 (i:Int)) H3 nx3)) nx0 H0 (gN fr bp nx0 H0 l0 b0 (cD l) (cQ (dB s bh) true l) (8*eX l)):=by
    intro ts2 n2 H3 nx3 hS3 e en;subst e;refine Wq.jmp (S_ ..) (λ_=>rfl) ?_;simp only[af,aL,aa];refine Wq.cG (ih a hm) rfl hS3 (by omega) λu H4 nx4 hS4=> ?_;simp only[af,az (show i<9223372036854775807 by have:=cv hl;omega)];refine ih' _ _ (hS4.mono rfl (λ_=> ?_) (by omega));unfold dB;simp
   refine Wq.ite (λh=> ?_) (λh=> ?_)
   . refine Wq.my s hS2 (by omega) λu H3 nx3 hS3=> ?_;exact L _ _ _ _ hS3 (by rw[if_neg (by simp;omega)]) (by omega)
   . exact L _ _ _ _ hS2 (by rw[if_pos (by simp;omega)];simp) (by omega)
def td (p:List bk)(l:List aO):Bool:=decide (p.length=l.length)&&decide (0<l.length)
theorem KV (p:List bk)(l:List aO)(hp:p.length<ei)(hl:l.length<ei)(hpo:∀a,a∈p->a.ok)(ih:∀a,a∈l->kn 168 [a.v] (dt a) (bh a) (8*a.z-2)):kn 184 [cL p,fK l] (td p l&&(cK p&&cD l)) (gT true (p.map ca) (l.map bh)) (8*dP p+8*eX l):=λfr bp nx0 H0 l0 b0 H nx hn hS=>by
 rw[aeF];have key:∀(d i:Nat),l.length-i=d->i<=l.length->i<=p.length->∀(ok':Bool) (ts':List Tok) (n':Nat) H1 aI,(b0=false->ok'=true->p.length=l.length)->l0.length+n'+8*dP (p.drop i)+8*eX (l.drop i)<=100000->n'+8*dP (p.drop i)+8*eX (l.drop i)<=8*dP p+8*eX l->(ok'&&(cK (p.drop i)&&cD (l.drop i)))=(td p l&&(cK p&&cD l))->(p.length=l.length->ts'++gT (decide (i=0)) ((p.drop i).map ca) ((l.drop i).map bh)=gT true (p.map ca) (l.map bh))->St fr bp nx0 H0 l0 b0 ok' ts' n' H1 aI->e8 P pl X0 (.jump (CZ (ptr bp) (cL p) (fK l) (i64 (i:Int)) H1 aI)) nx0 H0 (gN fr bp nx0 H0 l0 b0 (td p l&&(cK p&&cD l)) (gT true (p.map ca) (l.map bh)) (8*dP p+8*eX l)):=by
  intro d
  induction d with
  | zero=>
    intro i hd hi hip ok' ts' n' H1 aI hq hb1 hb2 hok hts hS1;obtain rfl:i=l.length:=by omega
    refine Wq.jmp (OX ..) (λ_=>rfl) ?_;simp only[af,aL,aa,aF]
    by_cases g:p.length=l.length
    . have e1:p.drop l.length=[]:=by rw[<- g,List.drop_length]
      rw[e1,List.drop_length]at hok hts;refine Wq.done hS1 (by rw[<- hok];simp[cK,cD]) (λ_=>by rw[<- hts g];simp[gT]) (by omega)
    . have e:td p l=false:=by unfold td;simp[g]
      have hf:(b0 || !ok')=true:=by
       cases b0 with
       | true=>rfl
       | false=>cases ok' with
         | false=>rfl
         | true=>exact absurd (hq rfl rfl) g
      exact Wq.skip hS1 hf (λ_ _=>by rw[e];rfl) (by omega)
  | succ d ihd=>
    intro i hd hi hip ok' ts' n' H1 aI hq hb1 hb2 hok hts hS1;have hlt:i<l.length:=by omega
    refine Wq.jmp (OX ..) (λ_=>rfl) ?_;simp only[af,aL,aa,aJ hlt,ZQ];refine Wq.ite (λhip'=> ?_) (λhip'=> ?_)
    . have hgl:l[i]? = some l[i]:=au hlt;have hgp:p[i]? = some p[i]:=au hip';have hml:=ak hgl;have hmp:=ak hgp;have hx:(l.map aO.v)[i]? = some l[i].v:=by simp[hgl]
      have hy:(p.map bk.v)[i]? = some p[i].v:=by simp[hgp]
      rw[dA hlt,dA hip']at hb1 hb2 hok hts;rw[dP,eX]at hb1 hb2;have z1:=l[i].du;have z2:=p[i].du;have L14:∀(ts2:List Tok) (n2:Nat) H3 nx3,ts2=ts'++(if decide (i=0)=true then[]else[ft [124]])->n2<=n'+1->St fr bp nx0 H0 l0 b0 ok' ts2 n2 H3 nx3->e8 P pl X0 (.jump (wO (ptr bp) (cL p) (fK l) (i64 (i:Int)) H3 nx3)) nx0 H0 (gN fr bp nx0 H0 l0 b0 (td p l&&(cK p&&cD l)) (gT true (p.map ca) (l.map bh)) (8*dP p+8*eX l)):=by
       intro ts2 n2 H3 nx3 e2 en hS3;refine Wq.jmp (Tu ..) (λ_=>rfl) ?_;simp only[af,aL,aa,kE hx,jI hy];refine Wq.cG (Fz _ (hpo _ hmp)) rfl hS3 (by omega) λu H4 nx4 hS4=> ?_;refine Wq.my [61,62] hS4 (by omega) λu H5 nx5 hS5=> ?_
       try simp only[af,aL,aa,kE hx]
       refine Wq.cG (ih _ hml) rfl hS5 (by omega) λu H6 nx6 hS6=> ?_;simp only[af,az (show i<9223372036854775807 by have:=cv hl;omega)];refine ihd (i+1) (by omega) (by omega) (by omega) _ _ _ H6 nx6 (λg1 g2=>hq g1 (by
        cases ok' with
        | true=>rfl
        | false=>simp at g2)) (by omega) (by omega) ?_ (λg=> ?_) hS6
       . rw[<- hok,cK,cD];cases ok'<;>cases dN p[i]<;>cases dt l[i]<;>cases cK (List.drop (i+1) p)<;>cases cD (List.drop (i+1) l)<;>rfl
       . rw[<- hts g,e2,bD,bD,gT,show decide (i+1=0)=false from by simp];simp only[bn,eZ,cj]
      refine Wq.ite (λh=> ?_) (λh=> ?_)
      . refine Wq.my [124] hS1 (by omega) λu H3 nx3 hS3=> ?_;exact L14 _ _ _ _ (by rw[if_neg (by simp;omega)]) (by omega) hS3
      . exact L14 _ _ _ _ (by rw[if_pos (by simp;omega)];simp) (by omega) hS1
    . have g:p.length≠l.length:=by omega
      have e:td p l=false:=by unfold td;simp[g]
      have hf:(b0 || !ok')=true:=by
       cases b0 with
       | true=>rfl
       | false=>cases ok' with
         | false=>rfl
         | true=>exact absurd (hq rfl rfl) g
      exact Wq.skip hS1 hf (λ_ _=>by rw[e];rfl) (by omega)
 have L4:∀(c:Bool),c=td p l->e8 P pl X0 (dm (.call 127 [ptr bp,.bool c] false none H nx) (λx H' nx'=> .jump (CY (ptr bp) (cL p) (fK l) H' nx')) jy) nx0 H0 (gN fr bp nx0 H0 l0 b0 (td p l&&(cK p&&cD l)) (gT true (p.map ca) (l.map bh)) (8*dP p+8*eX l)):=by
  intro c hc;refine Wq.cG (er c) rfl hS (by omega) λu H2 nx2 hS2=> ?_;refine Wq.jmp (YY ..) (λ_=>rfl) ?_;refine key l.length 0 rfl (aN _) (aN _) _ _ _ H2 nx2 (λ_ g=> ?_) (by simp only[dq];omega) (by simp only[dq];omega) (by simp only[dq];rw[hc];simp) (λ_=>by simp) hS2;rw[hc]at g;unfold td at g;simp at g;exact g.1
 unfold td at L4 ⊢;simp only[af,aL,aa,nat_eq,jP];refine Wq.ite (λg=> ?_) (λg=>L4 _ (by simp[g]));exact L4 _ (by simp[g])
end
section
variable {nx0:Nat}{H0:T OB}
variable {fr:Nat->List Value->TypeId->Prop}{bp:Nat}{l0:List Tok}{b0:Bool}{ok:Bool}{ts:List Tok}{n nx:Nat}{H:T OB}{R:Value->T OB->Nat->Prop}
theorem Ul {α:Type}(l:List α)(p q:α->Bool):(l.all λa=>p a&&q a)=(l.all p&&l.all q):=by
 induction l with
 | nil=>rfl
 | cons a l ih=>simp only[cW,ih];cases p a<;>cases q a<;>cases l.all p<;>cases l.all q<;>rfl
theorem Dw (es:List Value)(H:T OB)(h:1<=es.length):cw P H 41 (some (bM 6 es)) (some (some (i64 1))) (some none) (some none)=some (bM 6 (es.drop 1)):=by
 have e1:tA P 41=some 6:=by kernel_rfl
 show aw (tA P 41) (λz=>bif ay 6 z then aw (bound (some (some (i64 1))) 0) (λl=>aw (bound (some none) es.length) (λh=>slR es 6 l h) none) none else none) none=_;rw[e1,aZ];show slR es 6 1 es.length=_;unfold slR;rw[av h,av (ax _),fl (by rw[aD];omega)];rfl
theorem aeU {α:Type}{l:List α}(h:l.length=3):∃x y z,l=[x,y,z]:=by
 match l,h with
 | [x,y,z],_=>exact⟨x,y,z,rfl⟩
theorem AS (l:List bm):fL (λd:bm=>8*d.z) l=8*dF l:=by
 induction l with
 | nil=>rfl
 | cons a l ih=>rw[fL,ih,dF];omega
theorem bm.du (p:bm):1<=p.z:=by rw[bm.hZ];omega
theorem Um (e:aO)(hk:e.k=10)(h:e.ok)(hE:∀c,c∈e.l->kn 168 [c.v] (dt c) (bh c) (8*c.z-2))(hE2:∀c,c∈e.l->∀a,a∈c.l->kn 168 [a.v] (dt a) (bh a) (8*a.z-2))(hD:∀d,d∈e.d->kn 75 [d.v] (jt d) (iE d) (8*d.z-2)):kn 166 [e.v] (dt e) (fP e) (8*e.z-4):=λfr bp nx0 H0 l0 b0 H nx hn hS=>by
 rw[aO.br]at h;obtain⟨_,_,⟨hl1,hl2⟩,_,hd1,hd2⟩:=h;have hz:=e.hZ;have e0:dt e=(dG e (-1) false false false true&&(cD e.l&&(eK e.d&&((e.d.all λd=>decide (d.k=1)||decide (d.k=2))&&decide (e.l.length=1))))):=by
  rw[jF,hk];rfl
 rw[aer];refine Wq.uk hS λhS=> ?_;simp only[af,aL,aa];refine Wq.cG (iT e 1 false false false true) rfl hS (by omega) λu H1 aI hS1=> ?_;rw[Du]at hS1;simp only[af,jb,hS1.bad];refine Wq.bK (λhb=> ?_) (λhb=> ?_)
 . refine Wq.skip hS1 hb (λ_ g=> ?_) (by omega);rw[e0]
   revert g
   cases decide (e.l.length=1)<;>cases dG e (-1) false false false true<;>simp
 . have hg:b0=false/\(decide (e.l.length=1)&&dG e (-1) false false false true)=true:=by
    revert hb
    cases b0<;>cases(decide (e.l.length=1)&&dG e (-1) false false false true)<;>simp
   obtain⟨hb0,hg⟩:=hg;rw[ae,decide_eq_true_eq]at hg;obtain⟨x,hl⟩:∃x,e.l=[x]:=List.length_eq_one_iff.1 hg.1;have hxm:x∈e.l:=by rw[hl];simp
   have zl:eX e.l=x.z+0:=by rw[hl];rfl
   have hxz:=x.hZ;have e1:fP e=gU [108,101,116]::((e.d.flatMap λd=>iE d++[ft [59]])++gU [105,110]::((if x.k=13 then cQ (dB [59] bh) true x.l else bh x)++[gU [101,110,100]])):=by
    rw[gI,hk,hl];show gU [108,101,116]::(((e.d.map iE).flatMap λd=>d++[ft [59]])++gU [105,110]::((if x.k=13 then gu [59] (lq x).2 else bh x)++[gU [101,110,100]]))=_;rw[w6 x,List.flatMap_map];show gU [108,101,116]::((e.d.flatMap λd=>iE d++[ft [59]])++gU [105,110]::((if x.k=13 then gu [59] (x.l.map bh)else bh x)++[gU [101,110,100]]))=_;rw[kq]
   have e2:dt e=((e.d.all λd=>(decide (d.k=1)||decide (d.k=2))&&jt d)&&dt x):=by
    rw[e0,hg.2,hl,Ul,kS];simp only[cD];simp only[ai,aW,bw,cc,bu];simp
    try simp only[ai,aW,bw,cc,bu]
   refine Wq.key [108,101,116] hS1 (by omega) λu H2 nx2 hS2=> ?_;have hsum:=AS e.d
   try simp only[af,aL,aa]
   refine Wq.m8 e.d (λd=>(decide (d.k=1)||decide (d.k=2))&&jt d) (λ_ d=>iE d++[ft [59]]) (λd=>8*d.z) (λi H nx=> .jump (wv (ptr bp) (ah e.v) (cb e.d) (i64 (e.d.length:Int)) (i64 (i:Int)) H nx)) hS2 (by omega) (λH1 aI hS1=> ?_) (λi a H1 aI ok' ts' n' hg hlt hb hS1 ih'=> ?_)
   . refine Wq.jmp (Kc ..) (λ_=>rfl) ?_;have hx0:(e.l.map aO.v)[0]? = some x.v:=by rw[hl];rfl
     have hx:=kE hx0 .i64;rw[show((0:Nat):Int)=0 from rfl]at hx;simp only[af,aL,aa,aF,hx];refine Wq.key [105,110] hS1 (by omega) λu H2 nx2 hS2=> ?_;refine Wq.j9 de dE rfl (LZ _) (L0 _) hS2 λH3 nx3 hS3=> ?_;have L38:∀(r:Bool) (ts2:List Tok) (n2:Nat) H4 nx4,r=dt e->ts2++[gU [101,110,100]]=fP e->n2+1<=8*e.z-4->St fr bp nx0 H0 l0 b0 r ts2 n2 H4 nx4->e8 P pl X0 (.jump (wy (ptr bp) H4 nx4)) nx0 H0 (gN fr bp nx0 H0 l0 b0 (dt e) (fP e) (8*e.z-4)):=by
      intro r ts2 n2 H4 nx4 hr hts hn2 hS4;refine Wq.jmp (Tb ..) (λ_=>rfl) ?_;refine Wq.key [101,110,100] hS4 (by omega) λu H5 nx5 hS5=> ?_;exact Wq.done hS5 hr (λ_=>hts) (by omega)
     try simp only[af,aL,aa]
     refine Wq.ite (λhk13=> ?_) (λhk13=> ?_)
     . have e3:dt x=(dG x (-1) false false false false&&(cD x.l&&decide (1<x.l.length))):=by
        rw[jF,hk13];rfl
       have hxo:=(aO.br x).1 (hl2 x hxm);refine Wq.cG (iT x (-1) false false false false) rfl hS3 (by omega) λu H4 nx4 hS4=> ?_
       try simp only[af,aL,aa,kX]
       try rw[kX]
       refine Wq.cG (er _) rfl hS4 (by omega) λu H5 nx5 hS5=> ?_
       try simp only[af,aL,aa]
       refine Wq.cG (Dv x.l [59] hxo.2.2.1.1 (hE2 x hxm)) rfl hS5 (by omega) λu H6 nx6 hS6=> ?_;refine L38 _ _ _ _ _ ?_ ?_ (by omega) hS6
       . rw[e2,e3,hg.2];simp only[hg.1,decide_true];simp only[ai,aW,bw,cc,bu]
       . rw[e1,if_pos hk13,im];simp
     . refine Wq.cG (hE x hxm) rfl hS3 (by omega) λu H4 nx4 hS4=> ?_;refine L38 _ _ _ _ _ ?_ ?_ (by omega) hS4
       . rw[e2,hg.2];simp only[hg.1,decide_true];simp only[ai,aW,bw,cc,bu]
       . rw[e1,if_neg hk13,im];simp
   . have hx:(e.d.map bm.v)[i]? = some a.v:=by simp[hg]
     have hm:=ak hg;have hz:=a.du;refine Wq.jmp (Kc ..) (λ_=>rfl) ?_;simp only[af,aL,aa,aJ hlt,sG hx];refine Wq.j9 fO gQ rfl (Pe _) (Pf _) hS1 λH2 nx2 hS2=> ?_;have F:∀c:Bool,c=(decide (a.k=1)||decide (a.k=2))->e8 P pl X0 (dm (.call 127 [ptr bp,.bool c] false none H2 nx2) (λx H' nx'=> .jump (wx (ptr bp) (ah e.v) (ah a.v) (cb e.d) (i64 (e.d.length:Int)) (i64 (i:Int)) H' nx')) jy) nx0 H0 (gN fr bp nx0 H0 l0 b0 (dt e) (fP e) (8*e.z-4)):=by
      intro c hc;refine Wq.cG (er c) rfl hS2 (by omega) λu H3 nx3 hS3=> ?_;refine Wq.jmp (Ta ..) (λ_=>rfl) ?_;simp only[af,aL,aa];refine Wq.cG (hD a hm) rfl hS3 (by omega) λu H4 nx4 hS4=> ?_;refine Wq.my [59] hS4 (by omega) λu H5 nx5 hS5=> ?_;simp only[af,az (show i<9223372036854775807 by have:=cv hd1;omega)];exact ih' _ _ (hS5.mono (by rw[hc,bw]) (λ_=>by simp) (by omega))
     refine Wq.ite (λg=>F _ (by simp[g])) (λg=> ?_);exact F _ (by simp[g])
theorem Un (e:aO)(hk:¬(e.k=1\/e.k=2\/e.k=3\/e.k=4\/e.k=5\/e.k=13\/e.k=10\/e.k=14\/e.k=15\/e.k=6))(h:e.ok)(hE:∀c,c∈e.l->kn 168 [c.v] (dt c) (bh c) (8*c.z-2)):kn 170 [e.v] (dt e) (fP e) (8*e.z-4):=λfr bp nx0 H0 l0 b0 H nx hn hS=>by
 rw[aO.br]at h;obtain⟨_,_,⟨hl1,hl2⟩,⟨hp1,hp2⟩,hd1,hd2⟩:=h;have hz:=e.hZ;rw[aev];refine Wq.uk hS λhS=> ?_;simp only[af,aL,aa];refine Wq.ite (λhk8=> ?_) (λh8=> ?_)
 . have e0:dt e=(dG e (-1) false false false false&&(cD e.l&&decide (e.l.length=3))):=by rw[jF,hk8];rfl
   refine Wq.cG (iT e 3 false false false false) rfl hS (by omega) λu H1 aI hS1=> ?_;rw[Uj]at hS1;simp only[af,jb,hS1.bad];refine Wq.bK (λhb=> ?_) (λhb=> ?_)
   . have hg:b0=false/\(decide (e.l.length=3)&&dG e (-1) false false false false)=true:=by
      revert hb
      cases b0<;>cases(decide (e.l.length=3)&&dG e (-1) false false false false)<;>simp
     obtain⟨hb0,hg⟩:=hg;rw[ae,decide_eq_true_eq]at hg;obtain⟨x,y,z,hl⟩:∃x y z,e.l=[x,y,z]:=aeU hg.1;have e1:fP e=gU [105,102]::(bh x++gU [116,104,101,110]::(bh y++gU [101,108,115,101]::bh z)):=by rw[gI,hk8,hl];rfl
     have zl:eX e.l=x.z+(y.z+(z.z+0)):=by rw[hl];rfl
     have z1:=x.du;have z2:=y.du;have z3:=z.du;have hx0:(e.l.map aO.v)[0]? = some x.v:=by rw[hl];rfl
     have hx:=kE hx0 .i64;rw[show((0:Nat):Int)=0 from rfl]at hx;have hy0:(e.l.map aO.v)[1]? = some y.v:=by rw[hl];rfl
     have hy:=kE hy0 .i64;rw[show((1:Nat):Int)=1 from rfl]at hy;have hw0:(e.l.map aO.v)[2]? = some z.v:=by rw[hl];rfl
     have hw:=kE hw0 .i64;rw[show((2:Nat):Int)=2 from rfl]at hw;simp only[af,aL,aa,hx,hy,hw];refine Wq.key [105,102] hS1 (by omega) λu H2 nx2 hS2=> ?_;refine Wq.cG (hE x (by rw[hl];simp)) rfl hS2 (by omega) λu H3 nx3 hS3=> ?_;refine Wq.key [116,104,101,110] hS3 (by omega) λu H4 nx4 hS4=> ?_;refine Wq.cG (hE y (by rw[hl];simp)) rfl hS4 (by omega) λu H5 nx5 hS5=> ?_;refine Wq.key [101,108,115,101] hS5 (by omega) λu H6 nx6 hS6=> ?_;refine Wq.cG (hE z (by rw[hl];simp)) rfl hS6 (by omega) λu H7 nx7 hS7=> ?_;refine Wq.done hS7 ?_ (λ_=>by rw[e1];simp) (by omega);rw[e0,hg.2,hl];simp[cD,bw]
   . refine Wq.skip hS1 (by rw[iv]at hb;exact hb) (λ_ g=> ?_) (by omega);rw[e0]
     revert g
     cases decide (e.l.length=3)<;>cases dG e (-1) false false false false<;>simp
 refine Wq.ite (λhk11=> ?_) (λh11=> ?_)
 . have e0:dt e=(dG e (-1) false false false false&&(cD e.l&&decide (e.l.length=1))):=by rw[jF,hk11];rfl
   have e1:fP e=gU [114,97,105,115,101]::cQ (dB [59] bh) true e.l:=by
    rw[gI,hk11,<- kR];rfl
   refine Wq.cG (iT e 1 false false false false) rfl hS (by omega) λu H1 aI hS1=> ?_;rw[Du]at hS1;refine Wq.key [114,97,105,115,101] hS1 (by omega) λu H2 nx2 hS2=> ?_
   try simp only[af,aL,aa]
   refine Wq.cG (Dv e.l [59] hl1 hE) rfl hS2 (by omega) λu H6 nx6 hS6=> ?_;refine Wq.done hS6 ?_ (λ_=>by rw[e1];simp) (by omega);rw[e0];simp only[ai,aW,bw,cc,bu]
 refine Wq.ite (λhk7=> ?_) (λh7=> ?_)
 . have e0:dt e=(dG e (-1) false false true false&&(cD e.l&&(cK e.p&&(decide (0<e.l.length)&&decide (e.p.length=e.l.length))))):=by rw[jF,hk7];rfl
   have e1:fP e=gU [102,110]::gT true (e.p.map ca) (e.l.map bh):=by
    rw[gI,hk7];show gU [102,110]::gT true (e.p.map ca) ((e.l.map λe=>(e.k,lq e)).map gS)=_;rw[dC];rfl
   refine Wq.cG (iT e (-1) false false true false) rfl hS (by omega) λu H1 aI hS1=> ?_;refine Wq.key [102,110] hS1 (by omega) λu H2 nx2 hS2=> ?_
   try simp only[af,aL,aa]
   refine Wq.cG (KV e.p e.l hp1 hl1 hp2 hE) rfl hS2 (by omega) λu H6 nx6 hS6=> ?_;refine Wq.done hS6 ?_ (λ_=>by rw[e1];simp) (by omega);rw[e0];unfold td;simp only[ai,aW,bw,cc,bu]
 have L46:∀b:Bool,b=decide (e.k=9\/e.k=12)->e8 P pl X0 (.jump (wz (ptr bp) (ah e.v) b H (nx+1))) nx0 H0 (gN fr bp nx0 H0 l0 b0 (dt e) (fP e) (8*e.z-4)):=by
  intro b hb;refine Wq.jmp (Tc ..) (λ_=>rfl) ?_;cases b with
  | false=>
    have hk2:=of_decide_eq_false hb.symm;have e0:dt e=false:=by
     rw[jF];have:iC e.k e.n e.s e.l.length e.p.length e.d=false:=by
      unfold iC;rw[if_neg (by omega),if_neg (by omega),if_neg (by omega),if_neg (by omega),if_neg (by omega),if_neg (by omega),if_neg (by omega),if_neg (by omega),if_neg (by omega),if_neg hk2,if_neg (by omega),if_neg (by omega),if_neg (by omega),if_neg (by omega)]
     rw[this];simp
    try simp only[af,aL,aa]
    refine Wq.bad hS λH2 hS2=> ?_;exact Wq.done hS2 e0.symm (λq=>by rw[e0]at q;cases q) (by omega)
  | true=>
    have hk2:=of_decide_eq_true hb.symm;have e0:dt e=(dG e (-1) false false true false&&(cD e.l&&(cK e.p&&(decide (1<e.l.length)&&decide (e.p.length+1=e.l.length))))):=by
     rw[jF];rcases hk2 with hk2 | hk2<;>(rw[hk2];rfl)
    simp only[af,aL,aa,kX];refine Wq.cG (iT e (-1) false false true false) rfl hS (by omega) λu H1 aI hS1=> ?_;refine Wq.cG (er _) rfl hS1 (by omega) λu H2 nx2 hS2=> ?_;simp only[af,jb,hS2.bad];refine Wq.bK (λhb=> ?_) (λhb=> ?_)
    . refine Wq.skip hS2 hb (λ_ g=> ?_) (by omega);rw[e0]
      revert g
      cases decide (1<e.l.length)<;>cases dG e (-1) false false true false<;>simp
    . have hg:b0=false/\(dG e (-1) false false true false&&decide (1<e.l.length))=true:=by
       revert hb
       rw[ai];cases b0<;>cases(dG e (-1) false false true false&&decide (1<e.l.length))<;>simp
      obtain⟨hb0,hg⟩:=hg;rw[ae,decide_eq_true_eq]at hg;obtain⟨x,r,hl⟩:∃x r,e.l=x::r:=by
       match hl:e.l with
       | []=>rw[hl]at hg;exact absurd hg.2 (by simp)
       | x::r=>exact⟨x,r,rfl⟩
      have hlr:e.l.length=r.length+1:=by rw[hl];rfl
      have zl:eX e.l=x.z+eX r:=by rw[hl];rfl
      have e1:fP e=(if e.k=9 then[gU [99,97,115,101]]else[])++(bh x++gU (if e.k=9 then[111,102]else[104,97,110,100,108,101])::gT true (e.p.map ca) (r.map bh)):=by
       rw[gI,hl];rcases hk2 with hk2 | hk2
       . rw[hk2];show gU [99,97,115,101]::(bh x++gU [111,102]::gT true (e.p.map ca) ((r.map λe=>(e.k,lq e)).map gS))=_;rw[dC];rfl
       . rw[hk2];show bh x++gU [104,97,110,100,108,101]::gT true (e.p.map ca) ((r.map λe=>(e.k,lq e)).map gS)=_;rw[dC];rfl
      have z1:=x.du;have hx0:(e.l.map aO.v)[0]? = some x.v:=by rw[hl];rfl
      have hx:=kE hx0 .i64;rw[show((0:Nat):Int)=0 from rfl]at hx;have L56:∀(ts2:List Tok) (n2:Nat) H4 nx4,ts2=(if e.k=9 then[gU [99,97,115,101]]else[])->n2<=1->St fr bp nx0 H0 l0 b0 true ts2 n2 H4 nx4->e8 P pl X0 (.jump (wA (ptr bp) (ah e.v) H4 nx4)) nx0 H0 (gN fr bp nx0 H0 l0 b0 (dt e) (fP e) (8*e.z-4)):=by
       intro ts2 n2 H4 nx4 hts hn2 hS4;refine Wq.jmp (Td ..) (λ_=>rfl) ?_;simp only[af,aL,aa,hx];refine Wq.cG (hE x (by rw[hl];simp)) rfl hS4 (by omega) λu H5 nx5 hS5=> ?_;refine Wq.FA Ds QE rfl rfl (by kernel_rfl) hS5 λm H6 nx6 hm6 hS6=> ?_;have hlk:∀b:Bool,eA P H6 163 (some m) (some (.bool b)) false=some (aK (if b=true then[111,102]else[104,97,110,100,108,101])):=by
        intro b;rw[hm6];cases b<;>kernel_rfl
       simp only[af,aL,aa,hlk,decide_eq_true_eq];refine Wq.key _ hS6 (by omega) λu H7 nx7 hS7=> ?_;rw[Dw _ _ (by simp;omega)];have ed:(e.l.map aO.v).drop 1=r.map aO.v:=by rw[hl];rfl
       rw[ed];simp only[af,aL,aa];refine Wq.cG (KV e.p r hp1 (by omega) hp2 λa ha=>hE a (by rw[hl];simp[ha])) rfl hS7 (by omega) λu H8 nx8 hS8=> ?_;refine Wq.done hS8 ?_ (λ_=>by rw[e1,hts];simp) (by omega);rw[e0,hg.1,hl];unfold td;have g1:decide (1<(x::r).length)=decide (0<r.length):=by rw[decide_eq_decide];simp
       have g2:decide (e.p.length+1=(x::r).length)=decide (e.p.length=r.length):=by rw[decide_eq_decide];simp
       rw[g1,g2];simp only[cD];simp only[ai,aW,bw,cc,bu]
      try simp only[af,aL,aa]
      have hrt:(true&&dG e (-1) false false true false&&decide (1<e.l.length))=true:=by rw[hg.1,ai,ai];simp;omega
      rw[hrt]at hS2;refine Wq.ite (λg=> ?_) (λg=> ?_)
      . refine Wq.key [99,97,115,101] hS2 (by omega) λu H3 nx3 hS3=> ?_;exact L56 _ _ _ _ (by rw[if_pos g];simp) (by omega) hS3
      . exact L56 _ _ _ _ (by rw[if_neg g];simp) (by omega) hS2
 refine Wq.ite (λg=>L46 _ (by simp[g])) (λg=> ?_);exact L46 _ (by simp[g])
end
section
variable {nx0:Nat}{H0:T OB}
variable {fr:Nat->List Value->TypeId->Prop}{bp:Nat}{l0:List Tok}{b0:Bool}{ok:Bool}{ts:List Tok}{n nx:Nat}{H:T OB}{R:Value->T OB->Nat->Prop}
theorem aeV {α:Type}{l:List α}(h:l.length=2):∃x y,l=[x,y]:=by
 match l,h with
 | [x,y],_=>exact⟨x,y,rfl⟩
theorem QH (e:aO)(h:e.ok)(hE:∀c,c∈e.l->kn 168 [c.v] (dt c) (bh c) (8*c.z-2))(hE2:∀c,c∈e.l->∀a,a∈c.l->kn 168 [a.v] (dt a) (bh a) (8*a.z-2))(hD:∀d,d∈e.d->kn 75 [d.v] (jt d) (iE d) (8*d.z-2)):kn 131 [e.v] (dt e) (fP e) (8*e.z-4):=λfr bp nx0 H0 l0 b0 H nx hn hS=>by
 have h':=h;rw[aO.br]at h;obtain⟨_,hs,⟨hl1,hl2⟩,⟨hp1,hp2⟩,hd1,hd2⟩:=h;have hz:=e.hZ;have hsum:=AR e.l;rw[ad2];refine Wq.uk hS λhS=> ?_;simp only[af,aL,aa,gH,wT];refine Wq.ite (λhk=> ?_) (λh1=> ?_)
 . have e0:dt e=(dG e (-1) false true false false&&(cD e.l&&(decide (e.l.length=0)&&cP ⟨1,[],e.n,0⟩))):=by
    rw[jF,hk];have:cP ⟨1,[],e.n,0⟩=iC 1 e.n e.s e.l.length e.p.length e.d:=by unfold cP;simp[iC]
    rw[this];rfl
   have hx0:e.l.length=0->cD e.l=true:=λg=>by rw[aQ g];rw[cD]
   refine Wq.cG (iT e 0 false true false false) rfl hS (by omega) λu H1 aI hS1=> ?_
   try simp only[af,aL,aa]
   refine Wq.cG (il ⟨1,[],e.n,0⟩ (by first | exact Hj hs | simp)) rfl hS1 (by omega) λu H2 nx2 hS2=> ?_;refine Wq.done hS2 ?_ (λ_=>by rw[gI,hk];rfl) (by omega);rw[e0,w8];generalize cP ⟨1,[],e.n,0⟩=y
   by_cases g:e.l.length=0
   . rw[hx0 g];simp only[g,decide_true];simp only[ai,aW,bw,cc,bu]
   . simp[g]
 refine Wq.ite (λhk=> ?_) (λh2=> ?_)
 . have e0:dt e=(dG e (-1) true false false false&&(cD e.l&&(decide (e.l.length=0)&&cP ⟨2,e.s,0,0⟩))):=by
    rw[jF,hk];have:cP ⟨2,e.s,0,0⟩=iC 2 e.n e.s e.l.length e.p.length e.d:=by unfold cP;simp[iC]
    rw[this];rfl
   have hx0:e.l.length=0->cD e.l=true:=λg=>by rw[aQ g];rw[cD]
   refine Wq.cG (iT e 0 true false false false) rfl hS (by omega) λu H1 aI hS1=> ?_
   try simp only[af,aL,aa]
   refine Wq.cG (il ⟨2,e.s,0,0⟩ (by first | exact Hj hs | simp)) rfl hS1 (by omega) λu H2 nx2 hS2=> ?_;refine Wq.done hS2 ?_ (λ_=>by rw[gI,hk];rfl) (by omega);rw[e0,w8];generalize cP ⟨2,e.s,0,0⟩=y
   by_cases g:e.l.length=0
   . rw[hx0 g];simp only[g,decide_true];simp only[ai,aW,bw,cc,bu]
   . simp[g]
 refine Wq.ite (λhk=> ?_) (λh3=> ?_)
 . have e0:dt e=(dG e (-1) true false false false&&(cD e.l&&(decide (e.l.length=0)&&cP ⟨3,e.s,0,0⟩))):=by
    rw[jF,hk];have:cP ⟨3,e.s,0,0⟩=iC 3 e.n e.s e.l.length e.p.length e.d:=by simp[iC,ee]
    rw[this];rfl
   have hx0:e.l.length=0->cD e.l=true:=λg=>by rw[aQ g];rw[cD]
   refine Wq.cG (iT e 0 true false false false) rfl hS (by omega) λu H1 aI hS1=> ?_
   try simp only[af,aL,aa]
   refine Wq.cG (il ⟨3,e.s,0,0⟩ (by first | exact Hj hs | simp)) rfl hS1 (by omega) λu H2 nx2 hS2=> ?_;refine Wq.done hS2 ?_ (λ_=>by rw[gI,hk];rfl) (by omega);rw[e0,w8];generalize cP ⟨3,e.s,0,0⟩=y
   by_cases g:e.l.length=0
   . rw[hx0 g];simp only[g,decide_true];simp only[ai,aW,bw,cc,bu]
   . simp[g]
 refine Wq.ite (λhk=> ?_) (λh4=> ?_)
 . have e0:dt e=(dG e (-1) true false false false&&(cD e.l&&(decide (e.l.length=0)&&cP ⟨4,e.s,0,0⟩))):=by
    rw[jF,hk];have:cP ⟨4,e.s,0,0⟩=iC 4 e.n e.s e.l.length e.p.length e.d:=by simp[iC,ee]
    rw[this];rfl
   have hx0:e.l.length=0->cD e.l=true:=λg=>by rw[aQ g];rw[cD]
   refine Wq.cG (iT e 0 true false false false) rfl hS (by omega) λu H1 aI hS1=> ?_
   try simp only[af,aL,aa]
   refine Wq.cG (il ⟨4,e.s,0,0⟩ (by first | exact Hj hs | simp)) rfl hS1 (by omega) λu H2 nx2 hS2=> ?_;refine Wq.done hS2 ?_ (λ_=>by rw[gI,hk];rfl) (by omega);rw[e0,w8];generalize cP ⟨4,e.s,0,0⟩=y
   by_cases g:e.l.length=0
   . rw[hx0 g];simp only[g,decide_true];simp only[ai,aW,bw,cc,bu]
   . simp[g]
 have L36:∀b:Bool,b=decide (e.k=5\/e.k=13)->e8 P pl X0 (.jump (vZ (ptr bp) (ah e.v) (i64 e.k) b H (nx+1))) nx0 H0 (gN fr bp nx0 H0 l0 b0 (dt e) (fP e) (8*e.z-4)):=by
  intro b hb;refine Wq.jmp (SU ..) (λ_=>rfl) ?_;cases b with
  | true=>
    have hk2:=of_decide_eq_true hb.symm;obtain⟨sg,hsg⟩:∃sg,sg=if e.k=5 then([44]:List UInt8)else[59]:=⟨_,rfl⟩;have e0:dt e=(dG e (-1) false false false false&&(cD e.l&&(decide (1<e.l.length)||(decide (e.l.length=0)&&decide (e.k=5))))):=by
     rw[jF];rcases hk2 with hk2 | hk2
     . rw[hk2];show(dG e (-1) false false false false&&(cD e.l && !decide (e.l.length=1)))=_;have:(!decide (e.l.length=1))=(decide (1<e.l.length)||(decide (e.l.length=0)&&decide ((5:Int)=5))):=by
        rcases Nat.lt_trichotomy e.l.length 1 with g | g | g
        . have:e.l.length=0:=by omega
          rw[this];rfl
        . rw[g];rfl
        . have:e.l.length≠1:=by omega
          simp[this,g]
       rw[this]
     . rw[hk2];show(dG e (-1) false false false false&&(cD e.l&&decide (1<e.l.length)))=_;simp
    have e1:fP e=ft [40]::(cQ (dB sg bh) true e.l++[ft [41]]):=by
     rw[gI,hsg];rcases hk2 with hk2 | hk2
     . rw[hk2];show ft [40]::(gu [44] ((e.l.map λe=>(e.k,lq e)).map gS)++[ft [41]])=_;rw[kR];rfl
     . rw[hk2];show ft [40]::(gu [59] ((e.l.map λe=>(e.k,lq e)).map gS)++[ft [41]])=_;rw[kR];rfl
    have L40:∀(r:Bool) H2 nx2,r=(dG e (-1) false false false false&&(decide (1<e.l.length)||(decide (e.l.length=0)&&decide (e.k=5))))->St fr bp nx0 H0 l0 b0 r [] 0 H2 nx2->e8 P pl X0 (.jump (qa (ptr bp) (ah e.v) H2 nx2)) nx0 H0 (gN fr bp nx0 H0 l0 b0 (dt e) (fP e) (8*e.z-4)):=by
     intro r H2 nx2 hr hS2;refine Wq.jmp (SV ..) (λ_=>rfl) ?_;refine Wq.my [40] hS2 (by omega) λu H3 nx3 hS3=> ?_
     try simp only[af,aL,aa]
     refine Wq.FA KS Kz rfl rfl (by kernel_rfl) hS3 λm H4 nx4 hm4 hS4=> ?_;have hl:eA P H4 187 (some m) (some (i64 e.k)) false=some (aK sg):=by
      rw[hm4,hsg];rcases hk2 with hk2 | hk2
      . rw[hk2];kernel_rfl
      . rw[hk2];kernel_rfl
     simp only[af,aL,aa,hl];refine Wq.cG (Dv e.l sg hl1 hE) rfl hS4 (by omega) λu H5 nx5 hS5=> ?_;refine Wq.my [41] hS5 (by omega) λu H6 nx6 hS6=> ?_;refine Wq.done hS6 ?_ (λ_=>by rw[e1];simp) (by omega);rw[e0,hr];simp only[ai,aW,bw,cc,bu]
    have hAll:∀(c:Bool) H2 nx2,c=(decide (1<e.l.length)||(decide (e.l.length=0)&&decide (e.k=5)))->St fr bp nx0 H0 l0 b0 (true&&dG e (-1) false false false false) ([]++[]) (0+0) H2 nx2->e8 P pl X0 (dm (.call 127 [ptr bp,.bool c] false none H2 nx2) (λx H' nx'=> .jump (qa (ptr bp) (ah e.v) H' nx')) jy) nx0 H0 (gN fr bp nx0 H0 l0 b0 (dt e) (fP e) (8*e.z-4)):=by
     intro c H2 nx2 hc hS2;refine Wq.cG (er c) rfl hS2 (by omega) λu H3 nx3 hS3=> ?_;exact L40 _ _ _ (by rw[hc];simp) (hS3.mono rfl (λ_=>by simp) (by omega))
    simp only[af,aL,aa,kX,jO];refine Wq.cG (iT e (-1) false false false false) rfl hS (by omega) λu H1 aI hS1=> ?_;refine Wq.ite (λg=>hAll _ _ _ (by simp[g]) hS1) (λg=> ?_);refine Wq.ite (λg2=> ?_) (λg2=>hAll _ _ _ (by simp[g,g2]) hS1);exact hAll _ _ _ (by simp[g2]) hS1
  | false=>
    have hk2:=of_decide_eq_false hb.symm;simp only[af,aL,aa];refine Wq.ite (λhk=> ?_) (λh10=> ?_)
    . refine Wq.cG (Um e hk h' hE hE2 hD) rfl hS (by omega) λu H2 nx2 hS2=> ?_;exact Wq.done hS2 (by simp) (λ_=>by simp) (by omega)
    refine Wq.ite (λhk=> ?_) (λh14=> ?_)
    . have e0:dt e=(dG e (-1) true false false false&&(cD e.l&&(decide (e.l.length=2)&&lY.contains e.s))):=by rw[jF,hk];rfl
      refine Wq.cG (iT e 2 true false false false) rfl hS (by omega) λu H1 aI hS1=> ?_;rw[KU]at hS1
      try simp only[af,aL,aa]
      refine Wq.Ha (ZZ e.s) hS1 λH2 nx2 hS2=> ?_
      try simp only[af,aL,aa]
      refine Wq.cG (er _) rfl hS2 (by omega) λu H3 nx3 hS3=> ?_;simp only[af,jb,hS3.bad];refine Wq.bK (λhb=> ?_) (λhb=> ?_)
      . have hg:b0=false/\((decide (e.l.length=2)&&dG e (-1) true false false false)&&lY.contains e.s)=true:=by
         revert hb
         rw[ai];cases b0<;>cases((decide (e.l.length=2)&&dG e (-1) true false false false)&&lY.contains e.s)<;>simp
        obtain⟨hb0,hg⟩:=hg;rw[ae,ae,decide_eq_true_eq]at hg;obtain⟨x,y,hl⟩:∃x y,e.l=[x,y]:=aeV hg.1.1;have e1:fP e=bh x++za e.s::bh y:=by rw[gI,hk,hl];rfl
        have zl:eX e.l=x.z+(y.z+0):=by rw[hl];rfl
        have z1:=x.du;have z2:=y.du;have hx0:(e.l.map aO.v)[0]? = some x.v:=by rw[hl];rfl
        have hx:=kE hx0 .i64;rw[show((0:Nat):Int)=0 from rfl]at hx;have hy0:(e.l.map aO.v)[1]? = some y.v:=by rw[hl];rfl
        have hy:=kE hy0 .i64;rw[show((1:Nat):Int)=1 from rfl]at hy;obtain⟨a,r,hsr⟩:∃a r,e.s=a::r:=by
         match hs:e.s with
         | []=>rw[hs]at hg;exact absurd hg.2 (by decide)
         | a::r=>exact⟨a,r,rfl⟩
        have hop:=Qm a r;rw[<- hsr]at hop;simp only[af,aL,aa,hx,hy];refine Wq.cG (hE x (by rw[hl];simp)) rfl hS3 (by omega) λu H4 nx4 hS4=> ?_;refine Wq.qR hop hS4 λH5 nx5 hS5=> ?_;refine Wq.tok (za e.s) hS5 (by omega) λu H6 nx6 hS6=> ?_
        try simp only[af,aL,aa,hy]
        refine Wq.cG (hE y (by rw[hl];simp)) rfl hS6 (by omega) λu H7 nx7 hS7=> ?_;refine Wq.done hS7 ?_ (λ_=>by rw[e1];simp) (by omega);rw[e0,hg.1.2,hg.2];simp only[hg.1.1,decide_true,hl,cD];simp only[ai,aW,bw,cc,bu]
      . refine Wq.skip hS3 (by rw[iv]at hb;exact hb) (λ_ g=> ?_) (by omega);rw[e0]
        revert g
        cases decide (e.l.length=2)<;>cases dG e (-1) true false false false<;>cases lY.contains e.s<;>simp
    refine Wq.ite (λhk=> ?_) (λh15=> ?_)
    . have e0:dt e=(dG e (-1) true false false false&&(cD e.l&&(decide (e.l.length=1)&&fh.contains e.s))):=by rw[jF,hk];rfl
      refine Wq.cG (iT e 1 true false false false) rfl hS (by omega) λu H1 aI hS1=> ?_;rw[Du]at hS1
      try simp only[af,aL,aa,Hc]
      try rw[Hc,aZ]
      refine Wq.Ha (KL e.s) hS1 λH2 nx2 hS2=> ?_
      try simp only[af,aL,aa]
      refine Wq.cG (er _) rfl hS2 (by omega) λu H3 nx3 hS3=> ?_;simp only[af,jb,hS3.bad];refine Wq.bK (λhb=> ?_) (λhb=> ?_)
      . have hg:b0=false/\((decide (e.l.length=1)&&dG e (-1) true false false false)&&fh.contains e.s)=true:=by
         revert hb
         rw[ai];cases b0<;>cases((decide (e.l.length=1)&&dG e (-1) true false false false)&&fh.contains e.s)<;>simp
        obtain⟨hb0,hg⟩:=hg;rw[ae,ae,decide_eq_true_eq]at hg;obtain⟨x,hl⟩:∃x,e.l=[x]:=List.length_eq_one_iff.1 hg.1.1;have e1:fP e=za e.s::bh x:=by rw[gI,hk,hl];rfl
        have zl:eX e.l=x.z+0:=by rw[hl];rfl
        have z1:=x.du;have hx0:(e.l.map aO.v)[0]? = some x.v:=by rw[hl];rfl
        have hx:=kE hx0 .i64;rw[show((0:Nat):Int)=0 from rfl]at hx;obtain⟨a,r,hsr⟩:∃a r,e.s=a::r:=by
         match hs:e.s with
         | []=>rw[hs]at hg;exact absurd hg.2 (by decide)
         | a::r=>exact⟨a,r,rfl⟩
        have hop:=Qm a r;rw[<- hsr]at hop;simp only[af,aL,aa,hx];refine Wq.qR hop hS3 λH5 nx5 hS5=> ?_;refine Wq.tok (za e.s) hS5 (by omega) λu H6 nx6 hS6=> ?_
        try simp only[af,aL,aa,hx]
        refine Wq.cG (hE x (by rw[hl];simp)) rfl hS6 (by omega) λu H7 nx7 hS7=> ?_;refine Wq.done hS7 ?_ (λ_=>by rw[e1];simp) (by omega);rw[e0,hg.1.2,hg.2];simp only[hg.1.1,decide_true,hl,cD];simp only[ai,aW,bw,cc,bu]
      . refine Wq.skip hS3 (by rw[iv]at hb;exact hb) (λ_ g=> ?_) (by omega);rw[e0]
        revert g
        cases decide (e.l.length=1)<;>cases dG e (-1) true false false false<;>cases fh.contains e.s<;>simp
    refine Wq.ite (λhk=> ?_) (λh6=> ?_)
    . have e0:dt e=(dG e (-1) false false false false&&(cD e.l&&decide (e.l.length=2))):=by rw[jF,hk];rfl
      have e1:fP e=cQ (λ_=>bh) true e.l:=by
       rw[gI,hk];show((e.l.map λe=>(e.k,lq e)).map gS).flatten=_;rw[dC,im];rfl
      refine Wq.cG (iT e 2 false false false false) rfl hS (by omega) λu H1 aI hS1=> ?_;rw[KU]at hS1
      try simp only[af,aL,aa]
      refine Wq.m8 e.l dt (λ_=>bh) (λp=>8*p.z-1) (λi H nx=> .jump (v_ (ptr bp) (fK e.l) (i64 (e.l.length:Int)) (i64 (i:Int)) H nx)) hS1 (by omega) (λH1 aI hS1=> ?_) (λi a H1 aI ok' ts' n' hg hlt hb hS1 ih'=> ?_)
      . refine Wq.jmp (J4 ..) (λ_=>rfl) ?_;simp only[af,aL,aa,aF];refine Wq.done hS1 ?_ (λ_=>by rw[e1];simp) (by omega);rw[e0,nR];simp only[ai,aW,bw,cc,bu]
      . have hx:(e.l.map aO.v)[i]? = some a.v:=by simp[hg]
        have hm:=ak hg;have hz:=a.du;refine Wq.jmp (J4 ..) (λ_=>rfl) ?_;simp only[af,aL,aa,aJ hlt,kE hx];refine Wq.j9 de dE rfl (LZ _) (L0 _) hS1 λH2 nx2 hS2=> ?_;refine Wq.cG (hE a hm) rfl hS2 (by omega) λu H4 nx4 hS4=> ?_;simp only[af,az (show i<9223372036854775807 by have:=cv hl1;omega)];exact ih' _ _ (hS4.mono rfl (λ_=>by simp) (by omega))
    . refine Wq.cG (Un e (by omega) h' hE) rfl hS (by omega) λu H2 nx2 hS2=> ?_;exact Wq.done hS2 (by simp) (λ_=>by simp) (by omega)
 refine Wq.ite (λg=>L36 _ (by simp[g])) (λg=> ?_);exact L36 _ (by simp[g])
end
section
variable {nx0:Nat}{H0:T OB}
variable {fr:Nat->List Value->TypeId->Prop}{bp:Nat}{l0:List Tok}{b0:Bool}{ok:Bool}{ts:List Tok}{n nx:Nat}{H:T OB}{R:Value->T OB->Nat->Prop}
def Hm (p:bk):Bool:=decide (p.k=0)&&(decide (p.s=[])&&(decide (p.n=0)&&decide (p.l.length=0)))
def Hn (e:aO):Bool:=decide (e.k=0)&&(decide (e.s=[])&&(decide (e.n=0)&&(decide (e.l.length=0)&&(decide (e.p.length=0)&&decide (e.d.length=0)))))
def FE (x:Data):Bool:=decide (x.s=[])&&(decide (x.vars.length=0)&&decide (x.cons.length=0))
def QI (c:eO):Bool:=decide (c.s=[])&&decide (c.arg.length=0)
def oi (d:bm)(a b c x y:Bool):Bool:=(!a||Hm d.p)&&((!b||Hn d.e)&&((!c||decide (d.f.length=0))&&((!x||FE d.x)&&(!y||QI d.c))))
theorem QJ (p:bk):Hm p=true↔De=p:=by
 obtain⟨k,n,s,l⟩:=p;show(decide (k=0)&&(decide (s=[])&&(decide (n=0)&&decide (l.length=0))))=true↔bk.mk 0 0 [] []=bk.mk k n s l;rw[bk.mk.injEq];simp only[ae,decide_eq_true_eq,d_];exact⟨λ⟨a,b,c,d⟩=>⟨a.symm,c.symm,b.symm,d.symm⟩,λ⟨a,b,c,d⟩=>⟨a.symm,c.symm,b.symm,d.symm⟩⟩
theorem QK (p:aO):Hn p=true↔Fo=p:=by
 obtain⟨k,n,s,l,a,b⟩:=p;show(decide (k=0)&&(decide (s=[])&&(decide (n=0)&&(decide (l.length=0)&&(decide (a.length=0)&&decide (b.length=0))))))=true↔aO.mk 0 0 [] [] [] []=aO.mk k n s l a b;rw[aO.mk.injEq];simp only[ae,decide_eq_true_eq,d_];exact⟨λ⟨a,b,c,d,e,f⟩=>⟨a.symm,c.symm,b.symm,d.symm,e.symm,f.symm⟩,λ⟨a,b,c,d,e,f⟩=>⟨a.symm,c.symm,b.symm,d.symm,e.symm,f.symm⟩⟩
theorem Mr (p:Data):FE p=true↔sV=p:=by
 obtain⟨k,n,s⟩:=p;show(decide (n=[])&&(decide (k.length=0)&&decide (s.length=0)))=true↔Data.mk [] [] []=Data.mk k n s;rw[Data.mk.injEq];simp only[ae,decide_eq_true_eq,d_];exact⟨λ⟨a,b,c⟩=>⟨b.symm,a.symm,c.symm⟩,λ⟨a,b,c⟩=>⟨b.symm,a.symm,c.symm⟩⟩
theorem QL (p:eO):QI p=true↔Df=p:=by
 obtain⟨k,n⟩:=p;show(decide (k=[])&&decide (n.length=0))=true↔eO.mk [] []=eO.mk k n;rw[eO.mk.injEq];simp only[ae,decide_eq_true_eq,d_];exact⟨λ⟨a,b⟩=>⟨a.symm,b.symm⟩,λ⟨a,b⟩=>⟨a.symm,b.symm⟩⟩
theorem Ms (d:bm):fo (eJ d) d=oi d (!decide (d.k=1)) (!decide (d.k=1\/d.k=5)) (!decide (d.k=2)) (!decide (d.k=3)) (!decide (d.k=4)):=by
 have A:∀{α:Type} (c:Prop) [Decidable c] (x y:α),((if c then x else y)=x)↔(c\/y=x):=by
  intro α c _ x y
  by_cases h:c<;>simp[h]
 have C:∀{α:Type} (l:List α),([]=l)↔l.length=0:=by
  intro α l;cases l<;>simp
 obtain⟨k,p,e,f,x,c⟩:=d;rw[dk,jN];show(bm.mk k (if k=1 then p else De) (if k=1\/k=5 then e else Fo) (if k=2 then f else[]) (if k=3 then x else sV) (if k=4 then c else Df)=bm.mk k p e f x c)↔((!(!decide (k=1))||Hm p)&&((!(!decide (k=1\/k=5))||Hn e)&&((!(!decide (k=2))||decide (f.length=0))&&((!(!decide (k=3))||FE x)&&(!(!decide (k=4))||QI c)))))=true;rw[bm.mk.injEq,A,A,A,A,A,C f,<- QJ,<- QK,<- Mr,<- QL];simp only[Bool.not_not,ae,bl,decide_eq_true_eq,true_and]
theorem acb {H:T OB}{b:Nat}{e:aO}(h:dO H b [i64 e.k,i64 e.n,aK e.s,fK e.l,cL e.p,cb e.d] 44):aA P H 3 (some (.pointer (some ⟨b,0,none⟩)))=some (i64 e.k)/\aA P H 2 (some (.pointer (some ⟨b,1,none⟩)))=some (i64 e.n)/\aA P H 9 (some (.pointer (some ⟨b,2,none⟩)))=some (aK e.s)/\aA P H 41 (some (.pointer (some ⟨b,3,none⟩)))=some (fK e.l)/\aA P H 42 (some (.pointer (some ⟨b,4,none⟩)))=some (cL e.p)/\aA P H 24 (some (.pointer (some ⟨b,5,none⟩)))=some (cb e.d):=
 ⟨aB h sH rfl,aB h V_ rfl,aB h oT rfl,aB h mJ rfl,aB h lj rfl,aB h oU rfl⟩
theorem Xb {a b:Nat}(h1:a<ei)(h2:b<ei):IntKind.i64.wrap ((a:Int)+(b:Int))=((a+b:Nat):Int):=by
 have:=cv h1;have:=cv h2;unfold ei at h1 h2;rw[aS (by omega)];omega
theorem gt0 (a:Nat):decide (0<(a:Int))= !decide (a=0):=by
 rw[jP];cases a<;>simp
theorem acd (a b:Nat):(!decide (a+b=0))= !(decide (a=0)&&decide (b=0)):=by
 cases a<;>cases b<;>simp
theorem ace (a b c:Nat):(!decide (a+b+c=0))= !(decide (a=0)&&(decide (b=0)&&decide (c=0))):=by
 cases a<;>cases b<;>cases c<;>simp
theorem zh (d:bm)(h:d.ok)(a b c x y:Bool):P0 128 [d.v,.bool a,.bool b,.bool c,.bool x,.bool y] (.bool (oi d a b c x y)):=Pure.of rfl λH nx=>by
 rw[bm.br]at h;obtain⟨hp,he,⟨hf,_⟩,hx,hc⟩:=h;have he':=(aO.br d.e).1 he;have hl1:=he'.2.2.1.1;have hl2:=he'.2.2.2.1.1;have hl3:=he'.2.2.2.2.1;have hx1:=hx.1.1;have hx2:=hx.2.2.1;rw[adZ];refine Wq.gi (.refl _ _) λhA=> ?_;simp only[af,aL,aa];rw[bk.bX,aO.bX];refine Wq.alloc fx hA λH1 hb1 k1 hA1=> ?_;refine Wq.alloc de hA1 λH2 hb2 k2 hA2=> ?_;have hb1':=k2 _ _ _ (by omega) hb1;refine Wq.store hb1' fJ (by simp) rfl rfl hA2 (by omega) λH3 hb3 k3 hA3=> ?_;have hb2':=k3 _ _ _ (by omega) hb2;refine Wq.store hb2' dE (by simp) rfl rfl hA3 (by omega) λH4 hb4 k4 hA4=> ?_;have hp4:dO H4 (nx+1) d.p.cs 47:=by
  rw[bk.ia];exact k4 _ _ _ (by omega) hb3
 have hPB:=u9 (p:=d.p) hp4;have hEB:=acb (e:=d.e) hb4;have L8:∀r:Bool,r= !((!a||Hm d.p)&&(!b||Hn d.e))->Wq P pl X0 (.jump (jA c x y (ah d.v) r H4 (nx+1+1+1))) nx H (.bool (oi d a b c x y)):=by
  intro r hr;refine Wq.jmp (YQ ..) (λ_=>rfl) ?_;cases r with
  | true=>
    refine Wq.ij ?_ hA4;unfold oi
    revert hr
    generalize (!a||Hm d.p)=u1;generalize (!b||Hn d.e)=u2;cases u1<;>cases u2<;>simp
  | false=>
    have e0:oi d a b c x y=((!c||decide (d.f.length=0))&&((!x||FE d.x)&&(!y||QI d.c))):=by
     unfold oi
     revert hr
     generalize (!a||Hm d.p)=u1;generalize (!b||Hn d.e)=u2;cases u1<;>cases u2<;>simp
    rw[e0];unfold FE QI;generalize hs1:decide (d.x.s=[])=s1;generalize hs2:decide (d.x.vars.length=0)=s2;generalize hs3:decide (d.x.cons.length=0)=s3;generalize hs4:decide (d.c.s=[])=s4;generalize hs5:decide (d.c.arg.length=0)=s5;generalize hs6:decide (d.f.length=0)=s6;simp only[af,aL,aa,dL,Xb hx1 hx2,gt0,acd,hs1,hs2,hs3,hs4,hs5,hs6];cases c<;>cases x<;>cases y<;>cases s6
    all_goals try (simp only[af];exact Wq.ij rfl hA4)
    all_goals cases s1
    all_goals try (simp only[af];exact Wq.ij rfl hA4)
    all_goals cases s2<;>cases s3
    all_goals try (simp only[af,cU,aW];exact Wq.ij rfl hA4)
    all_goals cases s4
    all_goals try (simp only[af,cU,aW];exact Wq.ij rfl hA4)
    all_goals cases s5<;>(simp only[af,cU,aW];exact Wq.ij rfl hA4)
 have hw:IntKind.i64.wrap (((d.e.l.length+d.e.p.length:Nat):Int)+(d.e.d.length:Int))=((d.e.l.length+d.e.p.length+d.e.d.length:Nat):Int):=by
  unfold ei at hl1 hl2 hl3;rw[aS (by omega)];omega
 unfold Hm Hn at L8;simp only[af,aL,aa,vI,mq,p5,sD,Bv,vE,sC,vF,vG,vH,hPB.1,hPB.2.1,hPB.2.2.1,hPB.2.2.2.1,hEB.1,hEB.2.1,hEB.2.2.1,hEB.2.2.2.1,hEB.2.2.2.2.1,hEB.2.2.2.2.2,dL,Xb hl1 hl2,hw,gt0,ace];cases a with
 | false=>
   cases b with
   | false=>simp only[af];exact L8 _ rfl
   | true=>
     simp only[af];refine Wq.jr (λg1=>L8 _ (by simp[g1])) (λg1=> ?_);refine Wq.jr (λg2=>L8 _ (by simp[g2])) (λg2=> ?_);refine Wq.jr (λg3=>L8 _ (by simp[g3])) (λg3=> ?_);refine L8 _ ?_;simp only[g1,g2,g3,decide_true,ai,cM,bG,fk,gL]
 | true=>
   simp only[af];refine Wq.jr (λg1=>L8 _ (by simp[g1])) (λg1=> ?_);refine Wq.jr (λg2=>L8 _ (by simp[g2])) (λg2=> ?_);refine Wq.jr (λg3=>L8 _ (by simp[g3])) (λg3=> ?_);refine Wq.jr (λg4=>L8 _ (by simp[g4])) (λg4=> ?_);cases b with
   | false=>
     simp only[af];refine L8 _ ?_;simp only[g1,g2,g3,g4,decide_true,ai,cM,bG,fk,gL]
   | true=>
     simp only[af];refine Wq.jr (λg5=>L8 _ (by simp[g5])) (λg5=> ?_);refine Wq.jr (λg6=>L8 _ (by simp[g6])) (λg6=> ?_);refine Wq.jr (λg7=>L8 _ (by simp[g7])) (λg7=> ?_);refine L8 _ ?_;simp only[g1,g2,g3,g4,g5,g6,g7,decide_true,ai,cM,bG,fk,gL]
end
section
variable {nx0:Nat}{H0:T OB}
variable {fr:Nat->List Value->TypeId->Prop}{bp:Nat}{l0:List Tok}{b0:Bool}{ok:Bool}{ts:List Tok}{n nx:Nat}{H:T OB}{R:Value->T OB->Nat->Prop}
theorem QM (l:List Fn):fL (λp:Fn=>8*p.z) l=8*qw l:=by
 induction l with
 | nil=>rfl
 | cons a l ih=>rw[fL,ih,qw];omega
theorem Uo (d:bm)(h:d.ok)(hE:kn 131 [d.e.v] (dt d.e) (fP d.e) (8*d.e.z-4))(hF:∀f,f∈d.f->kn 131 [f.b.v] (dt f.b) (fP f.b) (8*f.b.z-4)):kn 75 [d.v] (jt d) (iE d) (8*d.z-2):=λfr bp nx0 H0 l0 b0 H nx hn hS=>by
 have h':=h;rw[bm.br]at h;obtain⟨hp,he,⟨hf1,hf2⟩,hx,hc⟩:=h;have hz:=d.hZ;have z1:=d.p.du;have z2:=d.e.du;have z3:=d.c.du;have e1:=tc d;have e0:=sW d;rw[Ms]at e0;rw[q75];refine Wq.uk hS λhS=> ?_;simp only[af,aL,aa];refine Wq.ite (λhk=> ?_) (λh1=> ?_)
 . have e2:jt d=(oi d false false true true true&&(dN d.p&&dt d.e)):=by rw[e0,hk];rfl
   refine Wq.qR (zh d h' false false true true true) hS λH1 aI hS1=> ?_
   try simp only[af,aL,aa]
   refine Wq.cG (er _) rfl hS1 (by omega) λu H2 nx2 hS2=> ?_;refine Wq.key [118,97,108] hS2 (by omega) λu H3 nx3 hS3=> ?_
   try simp only[af,aL,aa]
   refine Wq.cG (Ud d.p hp) rfl hS3 (by omega) λu H4 nx4 hS4=> ?_;refine Wq.my [61] hS4 (by omega) λu H5 nx5 hS5=> ?_
   try simp only[af,aL,aa]
   refine Wq.cG hE rfl hS5 (by omega) λu H6 nx6 hS6=> ?_;refine Wq.done hS6 (by rw[e2];simp only[ai,aW,bw,cc,bu]) (λ_=>by rw[e1,if_pos hk];simp) (by omega)
 rw[if_neg h1]at e1;refine Wq.ite (λhk=> ?_) (λh2=> ?_)
 . have e2:jt d=(o7 d.f&&(decide (0<d.f.length)&&oi d true true false true true)):=by rw[e0,hk];rfl
   rw[if_pos hk]at e1;have hsum:=QM d.f;have L24:∀(c:Bool) H1 aI,c=(oi d true true false true true&&decide (0<d.f.length))->St fr bp nx0 H0 l0 b0 true [] 0 H1 aI->e8 P pl X0 (dm (.call 127 [ptr bp,.bool c] false none H1 aI) (λx H' nx'=> .jump (Cm (ptr bp) (ah d.v) H' nx')) jy) nx0 H0 (gN fr bp nx0 H0 l0 b0 (jt d) (iE d) (8*d.z-2)):=by
    intro c H1 aI hc hS1;refine Wq.cG (er c) rfl hS1 (by omega) λu H2 nx2 hS2=> ?_;refine Wq.jmp (YG ..) (λ_=>rfl) ?_;simp only[af,aL,aa];refine Wq.m8 d.f RS (λb f=>gU (if b=true then[102,117,110]else[97,110,100])::Xa f) (λf=>8*f.z) (λi H nx=> .jump (Cn (ptr bp) (vj d.f) (i64 (d.f.length:Int)) (i64 (i:Int)) H nx)) hS2 (by omega) (λH1 aI hS1=> ?_) (λi a H1 aI ok' ts' n' hg hlt hb hS1 ih'=> ?_)
    . refine Wq.jmp (OA ..) (λ_=>rfl) ?_;simp only[af,aL,aa,aF];refine Wq.done hS1 ?_ (λ_=>by rw[e1,Dt];simp) (by omega);rw[e2,hc,ux];simp only[ai,aW,bw,cc,bu]
    . have hx:(d.f.map Fn.v)[i]? = some a.v:=by simp[hg]
      have hm:=ak hg;have hao:=(Fn.br a).1 (hf2 a hm);have hz:=a.hZ;have zb:=a.b.du;refine Wq.jmp (OA ..) (λ_=>rfl) ?_;simp only[af,aL,aa,aJ hlt,oS hx];refine Wq.j9 ki oh rfl (nFn _) (oFn _) hS1 λH2 nx2 hS2=> ?_;refine Wq.FA Ds QE rfl rfl (by kernel_rfl) hS2 λm H3 nx3 hm3 hS3=> ?_;have hl:∀b:Bool,eA P H3 163 (some m) (some (.bool b)) false=some (aK (if b=true then[102,117,110]else[97,110,100])):=by
       intro b;rw[hm3];cases b<;>kernel_rfl
      simp only[af,aL,aa,jO,hl,gH,jP];refine Wq.key _ hS3 (by omega) λu H4 nx4 hS4=> ?_
      try simp only[af,aL,aa,gH,jP]
      refine Wq.cG (il ⟨3,a.s,0,0⟩ (Hj hao.1)) rfl hS4 (by omega) λu H5 nx5 hS5=> ?_
      try simp only[af,aL,aa,jP]
      refine Wq.cG (er _) rfl hS5 (by omega) λu H6 nx6 hS6=> ?_
      try simp only[af,aL,aa]
      have hsp:=ze a.p;refine Wq.m8 a.p dN (λ_=>ca) (λp=>8*p.z-2) (λk H nx=> .jump (Co (ptr bp) (ah a.v) (vj d.f) (i64 (d.f.length:Int)) (i64 (i:Int)) (cL a.p) (i64 (a.p.length:Int)) (i64 (k:Int)) H nx)) hS6 (by omega) (λH7 nx7 hS7=> ?_) (λk q H7 nx7 ok7 ts7 n7 hg7 hlt7 hb7 hS7 ih7=> ?_)
      . refine Wq.jmp (OC ..) (λ_=>rfl) ?_;simp only[af,aL,aa,aF];refine Wq.my [61] hS7 (by omega) λu H8 nx8 hS8=> ?_
        try simp only[af,aL,aa]
        refine Wq.cG (hF a hm) rfl hS8 (by omega) λu H9 nx9 hS9=> ?_;simp only[af,az (show i<9223372036854775807 by have:=cv hf1;omega)];refine ih' _ _ (hS9.mono ?_ (λ_=> ?_) (by omega))
        . rw[y7,gk];show(((ok'&&cP ⟨3,a.s,0,0⟩)&&decide (0<a.p.length))&&a.p.all dN&&dt a.b)=(ok'&&(cP ⟨3,a.s,0,0⟩&&(decide (0<a.p.length)&&(a.p.all dN&&dt a.b))));simp only[bw]
        . rw[im,Hl];simp
      . have hx7:(a.p.map bk.v)[k]? = some q.v:=by simp[hg7]
        have hm7:=ak hg7;refine Wq.jmp (OC ..) (λ_=>rfl) ?_;simp only[af,aL,aa,aJ hlt7,jI hx7];refine Wq.j9 fx fJ rfl (GZ _) (G0 _) hS7 λH8 nx8 hS8=> ?_;refine Wq.cG (Fz q (hao.2.1.2 q hm7)) rfl hS8 (by omega) λu H9 nx9 hS9=> ?_;simp only[af,az (show k<9223372036854775807 by have:=cv hao.2.1.1;omega)];exact ih7 _ _ hS9
   refine Wq.qR (zh d h' true true false true true) hS λH1 aI hS1=> ?_;simp only[af,aL,aa,jP];refine Wq.bK (λg=> ?_) (λg=>L24 _ _ _ (by rw[g];rfl) hS1);exact L24 _ _ _ (by rw[g];rfl) hS1
 rw[if_neg h2]at e1;refine Wq.ite (λhk=> ?_) (λh3=> ?_)
 . have e2:jt d=(l7 d.x.vars&&(lk d.x.cons&&(ee 3 d.x.s&&(decide (0<d.x.cons.length)&&oi d true true true false true)))):=by rw[e0,hk];rfl
   refine Wq.qR (zh d h' true true true false true) hS λH1 aI hS1=> ?_
   try simp only[af,aL,aa]
   refine Wq.cG (er _) rfl hS1 (by omega) λu H2 nx2 hS2=> ?_
   try simp only[af,aL,aa]
   refine Wq.cG (Ui d.x hx) rfl hS2 (by omega) λu H4 nx4 hS4=> ?_;refine Wq.done hS4 (by rw[e2];unfold mD;simp only[ai,aW,bw,cc,bu]) (λ_=>by rw[e1,if_pos hk];simp) (by omega)
 rw[if_neg h3]at e1;refine Wq.ite (λhk=> ?_) (λh4=> ?_)
 . have e2:jt d=(nO d.c&&oi d true true true true false):=by rw[e0,hk];rfl
   refine Wq.qR (zh d h' true true true true false) hS λH1 aI hS1=> ?_
   try simp only[af,aL,aa]
   refine Wq.cG (er _) rfl hS1 (by omega) λu H2 nx2 hS2=> ?_;refine Wq.key [101,120,99,101,112,116,105,111,110] hS2 (by omega) λu H3 nx3 hS3=> ?_
   try simp only[af,aL,aa]
   refine Wq.cG (KT d.c hc) rfl hS3 (by omega) λu H4 nx4 hS4=> ?_;refine Wq.done hS4 (by rw[e2];simp only[ai,aW,bw,cc,bu]) (λ_=>by rw[e1,if_pos hk];simp) (by omega)
 rw[if_neg h4]at e1;refine Wq.ite (λhk=> ?_) (λh5=> ?_)
 . have e2:jt d=(oi d true false true true true&&dt d.e):=by rw[e0,hk];rfl
   refine Wq.qR (zh d h' true false true true true) hS λH1 aI hS1=> ?_
   try simp only[af,aL,aa]
   refine Wq.cG (er _) rfl hS1 (by omega) λu H2 nx2 hS2=> ?_
   try simp only[af,aL,aa]
   refine Wq.cG hE rfl hS2 (by omega) λu H4 nx4 hS4=> ?_;refine Wq.done hS4 (by rw[e2];simp only[ai,aW,bw,cc,bu]) (λ_=>by rw[e1,if_pos hk];simp) (by omega)
 . have e2:jt d=false:=by rw[e0,if_neg h1,if_neg h5,if_neg h2,if_neg h3,if_neg h4]
   try simp only[af,aL,aa]
   refine Wq.bad hS λH2 hS2=> ?_;exact Wq.done hS2 e2.symm (λq=>by rw[e2]at q;cases q) (by omega)
def Ho (e:aO):Prop:=kn 131 [e.v] (dt e) (fP e) (8*e.z-4)/\∀c,c∈e.l->kn 168 [c.v] (dt c) (bh c) (8*c.z-2)
theorem QN:(∀e:aO,e.ok->Ho e)/\∀d:bm,d.ok->kn 75 [d.v] (jt d) (iE d) (8*d.z-2):=by
 have h1:∀t:aO,(∀c,c∈t.l->c.ok->Ho c)->(∀d,d∈t.d->d.ok->kn 75 [d.v] (jt d) (iE d) (8*d.z-2))->t.ok->Ho t:=by
  intro e h1 h2 he;have he':=(aO.br e).1 he;have hE:∀c,c∈e.l->kn 168 [c.v] (dt c) (bh c) (8*c.z-2):=λc hc=>Uk c (h1 c hc (he'.2.2.1.2 c hc)).1;exact⟨QH e he hE (λc hc=>(h1 c hc (he'.2.2.1.2 c hc)).2) (λd hd=>h2 d hd (he'.2.2.2.2.2 d hd)),hE⟩
 have h2:∀t:bm,(t.e.ok->Ho t.e)->(∀f,f∈t.f->f.b.ok->Ho f.b)->t.ok->kn 75 [t.v] (jt t) (iE t) (8*t.z-2):=by
  intro d h1 h2 hd;have hd':=(bm.br d).1 hd;exact Uo d hd (h1 hd'.2.1).1 λf hf=>(h2 f hf ((Fn.br f).1 (hd'.2.2.1.2 f hf)).2.2).1
 exact⟨λe=>aO.ind (p:=λe=>e.ok->Ho e) (q:=λd=>d.ok->kn 75 [d.v] (jt d) (iE d) (8*d.z-2)) h1 h2 e,λd=>bm.ind (p:=λe=>e.ok->Ho e) (q:=λd=>d.ok->kn 75 [d.v] (jt d) (iE d) (8*d.z-2)) h1 h2 d⟩
def ib (l:List bm):List Tok:=l.flatMap λd=>iE d++[ft [59]]
abbrev acf (nx0:Nat)(l:List bm):Value->T OB->Nat->Prop:=λv H nx=>∃toks sl,v= .tuple ⟨[sl,.bool (eK l)]⟩/\TS nx0 H nx toks sl/\(eK l=true->toks=ib l)/\toks.length<=8*dF l
theorem aeW (hT:g_ nx0 H0)(l:List bm)(hl:l.length<ei)(hok:∀d,d∈l->d.ok)(hz:dF l<=500)(hA:Ag nx0 H0 nx H):e8 P pl X0 (aX P pl (.call 42 [cb l] false none H nx)) nx0 H0 (acf nx0 l):=by
 rw[q42];refine Wq.box hA λH1 hb dZ hA1=> ?_;have hn0:=hA.1;have hS:St (λ_ _ _=>False) nx nx0 H0 [] false true [] 0 H1 (nx+1):=⟨hT,hA1,[],false,⟨hn0,by omega,.slice none 0 0,hb,.inl ⟨rfl,rfl⟩,(λc o n u q=>by cases q),λx l e hx=>hx.elim⟩,.start [] false⟩;have hsum:=AS l;simp only[af,aL,aa];refine Wq.m8 l jt (λ_ d=>iE d++[ft [59]]) (λd=>8*d.z) (λi H2 nx2=> .jump (JM (ptr nx) (cb l) (i64 (l.length:Int)) (i64 (i:Int)) H2 nx2)) hS (by simp only[c_];omega) (λH1 aI hS1=> ?_) (λi a H1 aI ok' ts' n' hg hlt hb hS1 ih'=> ?_)
 . obtain⟨_,hA2,l2,b2,⟨g1,g2,sl,g3,g4,g5,g6⟩,g7,g8,g9⟩:=hS1;refine Wq.jmp (Wl ..) (λ_=>rfl) ?_;simp only[af,aL,aa,aF,sF,jb,aB g3 GH (off:=0) (u:=sl) rfl,aB g3 Wa (off:=1) (u:= .bool b2) rfl];have e1:(!b2)=eK l:=by rw[g7,kS];simp
   rw[e1];refine Wq.mf hA2 ⟨l2,sl,rfl,g4,λq=> ?_,?_⟩
   . rw[g8 (by rw[<- eY,e1,q];rfl),im];rfl
   . simp only[c_]at g9;omega
 . have hx:(l.map bm.v)[i]? = some a.v:=by simp[hg]
   have hm:=ak hg;have hz:=a.du;simp only[c_]at hb;refine Wq.jmp (Wl ..) (λ_=>rfl) ?_;simp only[af,aL,aa,aJ hlt,sG hx];refine Wq.j9 fO gQ rfl (Pe _) (Pf _) hS1 λH2 nx2 hS2=> ?_;refine Wq.cG (QN.2 a (hok a hm)) rfl hS2 (by simp only[c_];omega) λu H3 nx3 hS3=> ?_;refine Wq.my [59] hS3 (by simp only[c_];omega) λu H4 nx4 hS4=> ?_;simp only[af,az (show i<9223372036854775807 by have:=cv hl;omega)];exact ih' _ _ (hS4.mono rfl (λ_=>by simp) (by omega))
end
section
variable {nx0 nx:Nat}{H0 H:T OB}{R:Go.Ev.Out->T OB->Nat->Prop}
theorem acg (l:List UInt8)(hl:(qs l).length<=1000000)(hl2:l.length<9223372036854775807):P0 79 [aK l] (bM 1 (kM (quote l))):=Pure.of rfl λH nx=>aeP l hl hl2 (.refl _ _)
def BU (nx0:Nat)(H:T OB)(nx:Nat)(r:List UInt8)(sl:Value):Prop:=(r=[]/\sl= .slice none 0 0)\/∃b,nx0<=b/\b<nx/\dO H b (kM r) 5/\sl= .slice (some ⟨b,0,none⟩) r.length iw
theorem BU.dZ {r:List UInt8}{sl:Value}{nx':Nat}{H':T OB}(h:BU nx0 H nx r sl)(hA:Ag nx H nx' H'):BU nx0 H' nx' r sl:=by
 rcases h with h | ⟨b,h1,h2,h3,h4⟩
 . exact .inl h
 . exact .inr ⟨b,h1,by have:=hA.1;omega,h3.ag hA h2,h4⟩
theorem BU.conv {r:List UInt8}{sl:Value}(h:BU nx0 H nx r sl):ec P H 120 9 (some sl)=some (aK r):=by
 have:BS 5 nx0 H nx r sl:=by
  rcases h with h | ⟨b,h1,h2,h3,h4⟩
  . exact .inl h
  . exact .inr ⟨b,iw,h1,h2,h3,.inl rfl,h4⟩
 exact mY dK qN bq qh this
theorem BU.len {r:List UInt8}{sl:Value}(h:BU nx0 H nx r sl):e_ P #[120] 3 (some [sl])=some (i64 (r.length:Int)):=by
 rcases h with⟨rfl,rfl⟩ | ⟨b,h1,h2,h3,rfl⟩
 . exact yw 3
 . exact yv 3 _ _ _
theorem QO (x:List UInt8):((kM x).flatMap λu=>u.cells.toList)=kM x:=by
 induction x with
 | nil=>rfl
 | cons a l ih=>
   show(Value.int .u8 (Int.ofNat a.toNat)).cells.toList++(kM l).flatMap (λu=>u.cells.toList)=_;rw[ih];rfl
theorem Wq.aad {f:FuncId}{args:List Value}{u:Value}{k p:Value->T OB->Nat->Q}(hT:g_ nx0 H0)(hp:PT f args u)(h:Ag nx0 H0 nx H)
 (hk:∀H' nx',Ag nx0 H0 nx' H'->Ag nx H nx' H'->bA P pl X0 (k u H' nx') nx0 H0 R):bA P pl X0 (dm (.call f args false none H nx) k p) nx0 H0 R:=by
 obtain⟨H1,aI,h1,h2⟩:=hp H nx (hT.ag h);obtain⟨v,H2,nx2,h3,hR,h4⟩:=hk H1 aI (h.trans h1) h1;refine⟨v,H2,nx2,h3,hR,?_⟩;show aw (F P pl X0 (.call f args false none H nx)) (λr=>(match r.o with | .ret v=>k v r.H r.nx | .j_ v=>p v r.H r.nx:Q).run (F P pl X0)) none=_;rw[h2];exact h4
theorem Wq.QP {f:FuncId}{args:List Value}{u:Value}{k p:Value->T OB->Nat->Q}(hp:P0 f args u)(h:Ag nx0 H0 nx H)
 (hk:∀H' nx',Ag nx0 H0 nx' H'->Ag nx H nx' H'->bA P pl X0 (k u H' nx') nx0 H0 R):bA P pl X0 (dm (.call f args false none H nx) k p) nx0 H0 R:=by
 obtain⟨H1,aI,h1,h2⟩:=hp H nx;obtain⟨v,H2,nx2,h3,hR,h4⟩:=hk H1 aI (h.trans h1) h1;refine⟨v,H2,nx2,h3,hR,?_⟩;show aw (F P pl X0 (.call f args false none H nx)) (λr=>(match r.o with | .ret v=>k v r.H r.nx | .j_ v=>p v r.H r.nx:Q).run (F P pl X0)) none=_;rw[h2];exact h4
theorem Wq.aeX {r x:List UInt8}{sl:Value}{k:Value->T OB->Nat->Q}(hsl:BU nx0 H nx r sl)(hx:x≠[])(hsm:r.length+x.length<=1048576)(h:Ag nx0 H0 nx H)
 (hk:∀H' sl' nx',BU nx0 H' nx' (r++x) sl'->Ag nx0 H0 nx' H'->bA P pl X0 (k sl' H' nx') nx0 H0 R):bA P pl X0 (bU (fe P H nx [120,120] (some [sl,bM 1 (kM x)])) k) nx0 H0 R:=by
 have hxs:qv H 1 (bM 1 (kM x))=some (x.length,kM x):=by
  rw[EF];have:=QO x;rw[this];simp
 have hx0:0<x.length:=List.length_pos_iff.2 hx;rcases hsl with⟨rfl,rfl⟩ | ⟨b,hb0,hbx,hb,rfl⟩
 . refine Wq.Nz dK jq rfl hxs (j4 (by simp at hsm;omega)) h (λq=>by omega) λH2 _ hb2 _ hA2=> ?_;exact hk _ _ _ (.inr ⟨nx,h.1,by omega,by simpa using hb2,by simp⟩) hA2
 . refine Wq.app dK jq hb jq (by simp) rfl hxs (wQ x) (j4 hsm) h hb0 hbx λH2 hb2 _ hA2=> ?_;exact hk _ _ _ (.inr ⟨nx,h.1,by omega,by rw[lV];exact hb2,by rw[aj]⟩) hA2
theorem Wq.ach {r x:List UInt8}{sl:Value}{k:Value->T OB->Nat->Q}(hsl:BU nx0 H nx r sl)(hsm:r.length+x.length<=1048576)(h:Ag nx0 H0 nx H)
 (hk:∀H' sl' nx',BU nx0 H' nx' (r++x) sl'->Ag nx0 H0 nx' H'->bA P pl X0 (k sl' H' nx') nx0 H0 R):bA P pl X0 (bU (fe P H nx [120,9] (some [sl,aK x])) k) nx0 H0 R:=by
 have hq:re P 9=true:=by kernel_rfl
 rcases hsl with⟨rfl,rfl⟩ | ⟨b,hb0,hbx,hb,rfl⟩
 . refine Wq.abr dK jq hq (j4 (by simp at hsm;omega)) h (λh0=> ?_) λH2 h0 hb2 dZ hA2=> ?_
   . subst h0;exact hk _ _ _ (.inl ⟨rfl,rfl⟩) h
   . exact hk _ _ _ (.inr ⟨_,h.1,by omega,by simpa using hb2,by simp⟩) hA2
 . refine Wq.aeL dK jq hq hb jq (by simp) (j4 hsm) h hb0 hbx λH2 hb2 dZ hA2=> ?_;exact hk _ _ _ (.inr ⟨_,h.1,by omega,by rw[lV];exact hb2,by simp⟩) hA2
theorem Wq.aeY {r:List UInt8}{sl:Value}{k:Value->T OB->Nat->Q}(hsl:BU nx0 H nx r sl)(hr:r≠[])(hsm:r.length+1<=1048576)(h:Ag nx0 H0 nx H)
 (hk:∀H' sl' nx',BU nx0 H' nx' (r++[32]) sl'->Ag nx0 H0 nx' H'->bA P pl X0 (k sl' H' nx') nx0 H0 R):
 bA P pl X0 (bU (bC P H nx 120 1 (some [(0,.int .u8 32)])) λv H nx=>bU (fe P H nx [120,120] (some [sl,v])) k) nx0 H0 R:=by
 refine Wq.row dK jq ik rfl (W0 32) h λH1 hb1 dZ hA1=> ?_;have hx1:qv H1 1 (.slice (some ⟨nx,0,none⟩) 1 1)=some (1,kM [32]):=Bt (l:=kM [32]) hb1 rfl;rcases hsl with⟨rfl,rfl⟩ | ⟨b,hb0,hbx,hb,rfl⟩
 . exact absurd rfl hr
 . have hn0:=h.1;refine Wq.app dK jq (dZ _ _ _ hbx hb) jq (by simp) rfl hx1 (wQ [32]) (j4 hsm) hA1 hb0 (by omega) λH2 hb2 _ hA2=> ?_;exact hk _ _ _ (.inr ⟨nx+1,by omega,by omega,by rw[lV];exact hb2,by rw[aj];rfl⟩) hA2
def pr (out:List UInt8):List Tok->List UInt8
 | []=>out
 | t::ts=>pr ((if out=[]then out else out++[32])++ck t) ts
def tw:List Tok->Nat
 | []=>0
 | t::ts=>(ck t).length+1+tw ts
def rM (t:Tok):Prop:=cP t=true/\t.k≠0/\rg t.n/\oy t.s
theorem Mt (l:List UInt8):(qs l).length<=(quote l).length:=by simp[quote];omega
theorem aeZ (t:Tok):t.v.cells.toList.length=4:=rfl
theorem ae0 (t:Tok):t.v.cells.toList.all aC=true:=rfl
theorem QQ (hT:g_ nx0 H0)(l:List Tok)(hl:l.length<ei)(hg:∀t,t∈l->rM t):∀(r:List Tok) (i:Nat) (out:List UInt8) (sl:Value) (H:T OB) (nx:Nat),l.drop i=r->i<=l.length->out.length+tw r<=1000000->BU nx0 H nx out sl->Ag nx0 H0 nx H->
 e8 P pl X0 (.jump (yF sl (bM 4 (l.map Tok.v)) (i64 (l.length:Int)) (i64 (i:Int)) H nx)) nx0 H0 (λu _ _=>u= .tuple ⟨[aK (pr out r),i64 0]⟩):=by
 intro r
 induction r with
 | nil=>
   intro i out sl H nx hd hi hw hB hA;have hil:=drop_nil hd hi;refine Wq.jmp (Wm ..) (λ_=>rfl) ?_;simp only[af,hil,aF,hB.conv];exact Wq.mf hA rfl
 | cons t r ih=>
   intro i out sl H nx hd hi hw hB hA;obtain⟨hgt,hlt,hd'⟩:=drop_cons hd;have hx:(l.map Tok.v)[i]? = some t.v:=by simp[hgt]
   obtain⟨g1,g2,g3,g4⟩:=hg t (ak hgt);rw[tw]at hw;refine Wq.jmp (Wm ..) (λ_=>rfl) ?_;simp only[af,aJ hlt,NK hx];refine Wq.NC ek fg rfl (aeZ _) (ae0 _) hA λH1 aI hA1 hn1 hk1=> ?_;have hB1:BU nx0 H1 aI out sl:=by
    rcases hB with h | ⟨b,h1,h2,h3,h4⟩
    . exact .inl h
    . exact .inr ⟨b,h1,by omega,hk1 _ _ _ h2 h3,h4⟩
   refine Wq.aad hT (O0 t (Hj g4)) hA1 λH2 nx2 hA2 hB2=> ?_;rw[g1];have hB2:=hB1.dZ hB2;simp only[af];refine Wq.ite (λh=>absurd h g2) (λ_=> ?_);simp only[af,hB2.len,jP];have fin:∀(out':List UInt8) (sl':Value) H3 nx3,out'=(if out=[]then out else out++[32])->BU nx0 H3 nx3 out' sl'->Ag nx0 H0 nx3 H3->e8 P pl X0 (.jump (BY sl' (ah t.v) (bM 4 (l.map Tok.v)) (i64 (l.length:Int)) (i64 (i:Int)) H3 nx3)) nx0 H0 (λu _ _=>u= .tuple ⟨[aK (pr out (t::r)),i64 0]⟩):=by
    intro out' sl' H3 nx3 ho hB3 hA3;have hlen:out'.length<=out.length+1:=by
     rw[ho];split
     . omega
     . rw[aj,dU];omega
    have hwi:i<9223372036854775807:=by have:=cv hl;omega
    have e1:pr out (t::r)=pr (out'++ck t) r:=by rw[ho];rfl
    have nxt:∀sl4 H4 nx4,BU nx0 H4 nx4 (out'++ck t) sl4->Ag nx0 H0 nx4 H4->e8 P pl X0 (.jump (yF sl4 (bM 4 (l.map Tok.v)) (i64 (l.length:Int)) (i64 ((i+1:Nat):Int)) H4 nx4)) nx0 H0 (λu _ _=>u= .tuple ⟨[aK (pr out (t::r)),i64 0]⟩):=by
     intro sl4 H4 nx4 hB4 hA4;rw[e1];exact ih (i+1) _ sl4 H4 nx4 hd' (by omega) (by rw[aj];omega) hB4 hA4
    refine Wq.jmp (Yr ..) (λ_=>rfl) ?_;simp only[af];refine Wq.ite (λhk=> ?_) (λhk1=> ?_)
    . have et:ck t=uh t.n:=by unfold ck;rw[if_pos hk]
      refine Wq.QP (abT t.n g3) hA3 λH4 nx4 hA4 hB4=> ?_;refine Wq.ach (hB3.dZ hB4) (by rw[<- et];omega) hA4 λH5 sl5 nx5 hB5 hA5=> ?_;simp only[af,az hwi];rw[<- et]at hB5;exact nxt _ _ _ hB5 hA5
    refine Wq.ite (λhk=> ?_) (λhk2=> ?_)
    . have et:ck t=quote t.s:=by unfold ck;rw[if_neg hk1,if_pos hk]
      have hq:=Mt t.s;refine Wq.QP (acg t.s (by rw[<- et]at hq;omega) (Hj g4)) hA3 λH4 nx4 hA4 hB4=> ?_;refine Wq.aeX (hB3.dZ hB4) (by simp[quote]) (by rw[<- et];omega) hA4 λH5 sl5 nx5 hB5 hA5=> ?_;simp only[af,az hwi];rw[<- et]at hB5;exact nxt _ _ _ hB5 hA5
    . have et:ck t=t.s:=by unfold ck;rw[if_neg hk1,if_neg hk2]
      refine Wq.ach hB3 (by rw[<- et];omega) hA3 λH5 sl5 nx5 hB5 hA5=> ?_;simp only[af,az hwi];rw[<- et]at hB5;exact nxt _ _ _ hB5 hA5
   refine Wq.ite (λh=> ?_) (λh=> ?_)
   . have hne:out≠[]:=λq=>by subst q;simp at h
     refine Wq.aeY hB2 hne (by omega) hA2 λH3 sl3 nx3 hB3 hA3=> ?_;exact fin _ _ _ _ (by rw[if_neg hne]) hB3 hA3
   . have he:out=[]:=by cases out with
      | nil=>rfl
      | cons a l=>simp at h
     exact fin _ _ _ _ (by rw[if_pos he]) hB2 hA2
theorem ae1 (hT:g_ nx0 H0)(l:List Tok)(hl:l.length<ei)(hg:∀t,t∈l->rM t)(hw:tw l<=1000000){sl:Value}(hS:TS nx0 H nx l sl)(hA:Ag nx0 H0 nx H):e8 P pl X0 (aX P pl (.call 43 [sl] false none H nx)) nx0 H0 (λu _ _=>u= .tuple ⟨[aK (pr [] l),i64 0]⟩):=by
 rw[q43];rcases hS with⟨rfl,rfl⟩ | ⟨b,hb0,hbx,hb,rfl⟩
 . have e1:∀k,gD P 29 (.slice none 0 0) H nx k=k (bM 4 []) H nx:=λk=>by kernel_rfl
   rw[e1];simp only[af];exact QQ hT [] hl hg [] 0 [] _ H nx rfl (aN _) (by simpa using hw) (.inl ⟨rfl,rfl⟩) hA
 . have hch:chunk true 4 l.length (Fq l)=some (l.map Tok.v):=by
    have h1:=lR 4 (l.map Tok.c) (λx hx=>by obtain⟨t,_,rfl⟩:=bo.1 hx;rfl);rw[aa,dC]at h1;unfold Fq;rw[List.flatMap_def];exact h1
   refine Wq.VU kL fg nI rfl hb (Fs l) (by simp) hch (by simp) hA hb0 λH' _ hA'=> ?_;simp only[af,aa];exact QQ hT l hl hg l 0 [] _ H' _ rfl (aN _) (by simpa using hw) (.inl ⟨rfl,rfl⟩) hA'
end
theorem Mu (a b:List Tok):tw (a++b)=tw a+tw b:=by
 induction a with
 | nil=>simp[tw]
 | cons t a ih=>rw[eZ,tw,tw,ih];omega
def GT (ts:List Tok)(m:Nat):Prop:=(∀t,t∈ts->rM t)/\tw ts<=m
theorem GT.nil (m:Nat):GT [] m:=⟨(λt h=>nomatch h),aN _⟩
theorem GT.mono {ts:List Tok}{m n:Nat}(h:GT ts m)(hn:m<=n):GT ts n:=⟨h.1,ga h.2 hn⟩
theorem GT.append {a b:List Tok}{m n:Nat}(h:GT a m)(h':GT b n):GT (a++b) (m+n):=⟨λt ht=>(dJ.1 ht).elim (h.1 t) (h'.1 t),by rw[Mu];exact Nat.add_le_add h.2 h'.2⟩
theorem GT.cons {t:Tok}{b:List Tok}{m n:Nat}(h:GT [t] m)(h':GT b n):GT (t::b) (m+n):=h.append h'
theorem GT.one {t:Tok}{m:Nat}(h:rM t)(hm:(ck t).length+1<=m):GT [t] m:=⟨λx hx=>by rw[aP.1 hx];exact h,by simpa[tw]using hm⟩
theorem GT.list {α:Type}{tf:Bool->α->List Tok}{w:α->Nat}:∀{l:List α},(∀a,a∈l->∀b,GT (tf b a) (w a))->∀b,GT (cQ tf b l) (fL w l)
 | [],_,b=>GT.nil _
 | a::l,h,b=>(h a (by simp) b).append (GT.list (λc hc=>h c (by simp[hc])) false)
theorem rg0:rg 0:=by unfold rg;omega
theorem GT.sg {s:List UInt8}(h:bB.contains s=true):GT [ft s] 3:=by
 have hs:s.length<=2:=by
  have:∀x∈bB,x.length<=2:=by decide
  exact this s (by simpa using h)
 exact GT.one ⟨by show(decide ((0:Int)=0)&&bB.contains s)=true;rw[h];rfl,by simp,rg0,by show s.length<_;omega⟩ (by show s.length+1<=3;omega)
theorem GT.ky {s:List UInt8}(h:cP (gU s)=true)(hs:s.length<=9):GT [gU s] 10:=GT.one ⟨h,by simp,rg0,by show s.length<_;omega⟩ (by show s.length+1<=10;omega)
theorem GT.wd {k:Int}{s:List UInt8}(hk:k=3\/k=4\/k=5)(h:ee k s=true)(hs:oy s):GT [⟨k,s,0,0⟩] (s.length+1):=
 GT.one ⟨h,by rcases hk with rfl | rfl | rfl<;>simp,rg0,hs⟩ (by
  have:ck ⟨k,s,0,0⟩=s:=by rcases hk with rfl | rfl | rfl<;>rfl
  rw[this];exact ax _)
theorem GT.num {n:Int}(h0:0<=n)(h1:n<=4611686018427387903):GT [⟨1,[],n,0⟩] 21:=
 GT.one ⟨by simp[cP,h0,h1],by simp,by show rg n;unfold rg;omega,by show 0<_;omega⟩ (by
  have:=yZ n (by omega);show(uh n).length+1<=21;omega)
theorem GT.aK {s:List UInt8}(hs:oy s):GT [⟨2,s,0,0⟩] (4*s.length+3):=
 GT.one ⟨by simp[cP],by simp,rg0,hs⟩ (by
  have:=ui s;show(quote s).length+1<=_;simp[quote];omega)
theorem iF {α:Type}(z:α->Nat)(k:Nat):∀l:List α,fL (λa=>k*z a) l=k*fL z l
 | []=>by simp[fL]
 | a::l=>by rw[fL,fL,iF z k l,Nat.mul_add]
theorem qp:∀l:List bk,fL bk.z l=dP l
 | []=>rfl
 | a::l=>by rw[fL,dP,qp l]
theorem zi:∀l:List bI,fL bI.z l=kP l
 | []=>rfl
 | a::l=>by rw[fL,kP,zi l]
theorem AT:∀l:List eO,fL eO.z l=kG l
 | []=>rfl
 | a::l=>by rw[fL,kG,AT l]
theorem uy:∀l:List aO,fL aO.z l=eX l
 | []=>rfl
 | a::l=>by rw[fL,eX,uy l]
theorem uz:∀l:List bm,fL bm.z l=dF l
 | []=>rfl
 | a::l=>by rw[fL,dF,uz l]
theorem FF:∀l:List Fn,fL Fn.z l=qw l
 | []=>rfl
 | a::l=>by rw[fL,qw,FF l]
theorem GT.sep {α:Type}{s:List UInt8}{f:α->List Tok}{w:α->Nat}(hs:bB.contains s=true){a:α}(h:GT (f a) (w a))(b:Bool):GT (dB s f b a) (w a+3):=by
 unfold dB;cases b with
 | true=>exact(h.mono (by omega):GT (f a) (w a+3))
 | false=>exact((GT.sg hs).append h).mono (by omega)
theorem dp {α:Type}{l:List α}{p:α->Bool}(h:l.all p=true){a:α}(ha:a∈l):p a=true:=aM.1 h a ha
def aci (p:bk):Prop:=dN p=true->p.ok->GT (jE p) (100*p.z-20)/\GT (ca p) (100*p.z-10)/\∀a,a∈p.l->GT (ca a) (100*a.z-10)
theorem Hr (p:bk):aci p:=bk.ind (p:=aci) (λp ih hr hp=>by
 rw[bk.br]at hp;obtain⟨hn,hs,hl,hok⟩:=hp;have hz:=p.hZ;have e0:=kW p;rw[hr]at e0;have e1:=e0.symm;rw[ae,gk]at e1;obtain⟨hrl,hd⟩:=e1;have hE:∀a,a∈p.l->GT (ca a) (100*a.z-10):=λa ha=>(ih a ha (dp hrl ha) (hok a ha)).2.1;have hE2:∀q,q∈p.l->∀a,a∈q.l->GT (ca a) (100*a.z-10):=λq hq=>(ih q hq (dp hrl hq) (hok q hq)).2.2;have hrow:∀b,GT (cQ (dB [44] ca) b p.l) (100*dP p.l):=λb=>by
  rw[<- qp,<- iF];exact GT.list (λa ha b=>(GT.sep (f:=ca) (a:=a) (w:=λa=>100*a.z-10) (by decide +kernel) (hE a ha) b).mono (by have:=a.du;omega)) b
 have hrow2:∀b,GT (cQ (λ_=>ca) b p.l) (100*dP p.l):=λb=>by
  rw[<- qp,<- iF];exact GT.list (λa ha b=>(hE a ha).mono (by omega)) b
 have hlen:=gC p.s.length 8;have hmod:=dV p.s.length (show 0<8 by omega);have hT:GT (jE p) (100*p.z-20):=by
  rw[qn];unfold pf;unfold o6 at hd;rw[ae]at hd;obtain⟨_,hd⟩:=hd
  by_cases h1:p.k=1
  . rw[if_pos h1];exact(GT.sg (by decide +kernel)).mono (by omega)
  rw[if_neg h1]at hd ⊢
  by_cases h2:p.k=2
  . rw[if_pos h2]at hd ⊢;rw[ae]at hd;exact(GT.wd (.inl rfl) hd.1 hs).mono (by omega)
  rw[if_neg h2]at hd ⊢
  by_cases h3:p.k=3
  . rw[if_pos h3]at hd ⊢;simp only[ae,decide_eq_true_eq]at hd;split
    . exact((GT.sg (by decide +kernel)).cons (GT.num (by omega) (by omega))).mono (by omega)
    . exact(GT.num (by omega) (by omega)).mono (by omega)
  rw[if_neg h3]at hd ⊢
  by_cases h4:p.k=4
  . rw[if_pos h4];exact(GT.aK hs).mono (by omega)
  rw[if_neg h4]at hd ⊢
  by_cases h5:p.k=5
  . rw[if_pos h5,je];exact((GT.sg (by decide +kernel)).cons ((hrow true).append (GT.sg (by decide +kernel)))).mono (by omega)
  rw[if_neg h5]at hd ⊢
  by_cases h6:p.k=6
  . rw[if_pos h6]at hd ⊢
    by_cases hc:p.s=[58,58]
    . rw[if_pos hc]at hd ⊢
      match hpl:p.l with
      | []=>exact GT.nil _
      | q::q'::r=>exact GT.nil _
      | [q]=>
        have hq:q∈p.l:=by rw[hpl];simp
        have hz1:dP p.l=q.z+0:=by rw[hpl];rfl
        have hz2:=q.hZ;simp only[bD,fm];rw[tb q]
        match hql:q.l with
        | []=>exact GT.nil _
        | [a]=>exact GT.nil _
        | a::b::c::r=>exact GT.nil _
        | [a,b]=>
          have hz3:dP q.l=a.z+(b.z+0):=by rw[hql];rfl
          exact((hE2 q hq a (by rw[hql];simp)).append ((GT.sg (by decide +kernel)).cons (hE2 q hq b (by rw[hql];simp)))).mono (by have:=a.du;have:=b.du;omega)
    . rw[if_neg hc]at hd ⊢;rw[ae]at hd;rw[je];exact((GT.wd (.inr (.inl rfl)) hd.1 hs).cons (hrow2 true)).mono (by omega)
  . rw[if_neg h6];exact GT.nil _
 refine⟨hT,?_,hE⟩;rw[m9];split
 . exact((GT.sg (by decide +kernel)).cons (hT.append (GT.sg (by decide +kernel)))).mono (by omega)
 . exact hT.mono (by omega)) p
def TyG (t:bI):Prop:=mN t=true->t.ok->GT (uw t) (100*t.z-20)/\GT (iO t) (100*t.z-10)
theorem KW {s:List UInt8}(h:(decide (s=[114,101,102])||ee 3 s)=true)(hs:oy s):GT (pg s) (s.length+10):=by
 unfold pg;split
 . rename_i h1;subst h1;exact(GT.ky (by decide +kernel) (by decide +kernel)).mono (by omega)
 . rename_i h1;rw[decide_eq_false h1,bG]at h;exact(GT.wd (.inl rfl) h hs).mono (by omega)
theorem acj (t:bI):TyG t:=bI.ind (p:=TyG) (λt ih hr hp=>by
 rw[bI.br]at hp;obtain⟨hs,hl,hok⟩:=hp;have hz:=t.hZ;have e0:=Dd t;rw[hr]at e0;have e1:=e0.symm;rw[ae,kQ]at e1;obtain⟨hrl,hd⟩:=e1;have hE:∀a,a∈t.l->GT (iO a) (100*a.z-10):=λa ha=>(ih a ha (dp hrl ha) (hok a ha)).2;have hrow:∀s,bB.contains s=true->GT (cQ (dB s iO) true t.l) (100*kP t.l):=λs hsg=>by
  rw[<- zi,<- iF];exact GT.list (λa ha b=>(GT.sep (f:=iO) (a:=a) (w:=λa=>100*a.z-10) hsg (hE a ha) b).mono (by have:=a.du;omega)) true
 have hlen:=gC t.s.length 8;have hmod:=dV t.s.length (show 0<8 by omega);have hrow':∀s,bB.contains s=true->GT (cQ (dB s zf) true (t.l.map tyI)) (100*kP t.l):=λs hsg=>by
  rw[je];exact hrow s hsg
 have hT:GT (uw t) (100*t.z-20):=by
  rw[Hk];unfold Ml;unfold Fm at hd
  by_cases h1:t.k=1
  . rw[if_pos h1]at hd ⊢;rw[ae]at hd;exact(GT.wd (.inr (.inr rfl)) hd.2 hs).mono (by omega)
  rw[if_neg h1]at hd ⊢
  by_cases h3:t.k=3
  . rw[if_pos h3];exact(hrow' _ (by decide +kernel)).mono (by omega)
  rw[if_neg h3]at hd ⊢
  by_cases h4:t.k=4
  . rw[if_pos h4];exact(hrow' _ (by decide +kernel)).mono (by omega)
  rw[if_neg h4]at hd ⊢
  by_cases h2:t.k=2
  . rw[if_pos h2]at hd ⊢;split
    . exact((GT.sg (by decide +kernel)).cons ((hrow' _ (by decide +kernel)).append ((GT.sg (by decide +kernel)).cons (KW hd hs)))).mono (by omega)
    . exact((hrow' _ (by decide +kernel)).append (KW hd hs)).mono (by omega)
  . rw[if_neg h2];exact GT.nil _
 refine⟨hT,?_⟩;rw[w5];split
 . exact hT.mono (by omega)
 . exact((GT.sg (by decide +kernel)).cons (hT.append (GT.sg (by decide +kernel)))).mono (by omega)) t
theorem QR (c:eO)(hr:nO c=true)(hc:c.ok):GT (kp c) (100*c.z-20):=by
 obtain⟨h1,h2,h3⟩:=hc;unfold nO at hr;rw[ae,ae,kQ]at hr;have hz:c.z=1+c.s.length/8+kP c.arg:=rfl;have hlen:=gC c.s.length 8;have hmod:=dV c.s.length (show 0<8 by omega);have hrow:GT (cQ (λ_ t=>gU [111,102]::uw t) true c.arg) (100*kP c.arg):=by
  rw[<- zi,<- iF];exact GT.list (λa ha b=>((GT.ky (by decide +kernel) (by decide +kernel)).cons (acj a (dp hr.2.2 ha) (h3 a ha)).1).mono (by have:=a.du;omega)) true
 exact((GT.wd (.inr (.inl rfl)) hr.1 h1).cons hrow).mono (by omega)
theorem Up (x:Data)(hr:mD x=true)(hx:x.ok):GT (m_ x) (100*x.z+40):=by
 obtain⟨⟨h1,h2⟩,h3,h4,h5⟩:=hx;unfold mD at hr;rw[ae,ae,ae,rK,rL]at hr;have hz:x.z=l6 x.vars+x.s.length/8+kG x.cons:=rfl;have hlen:=gC x.s.length 8;have hmod:=dV x.s.length (show 0<8 by omega);have hv:GT (cQ (dB [44] λs=>[(⟨5,s,0,0⟩:Tok)]) true x.vars) (100*l6 x.vars):=by
  have hsum:∀l:List (List UInt8),fL (λs=>100*(1+s.length/8)) l=100*l6 l:=by
   intro l
   induction l with
   | nil=>rfl
   | cons a l ih=>rw[fL,ih,l6];omega
  rw[<- hsum];exact GT.list (λa ha b=>(GT.sep (f:=λs=>[(⟨5,s,0,0⟩:Tok)]) (a:=a) (w:=λs=>s.length+1) (by decide +kernel) (GT.wd (.inr (.inr rfl)) (dp hr.1 ha) (h2 a ha)) b).mono (by
   have:=gC a.length 8;have:=dV a.length (show 0<8 by omega);omega)) true
 have hc:GT (cQ (λb c=>ft (if b=true then[61]else[124])::kp c) true x.cons) (100*kG x.cons):=by
  rw[<- AT,<- iF];exact GT.list (λa ha b=>((GT.sg (by cases b<;>decide +kernel)).cons (QR a (dp hr.2.1 ha) (h5 a ha))).mono (by have:=a.du;omega)) true
 have b1:GT (if 1<x.vars.length then[ft [40]]else[]) 3:=by split;exact GT.sg (by decide +kernel);exact GT.nil _
 have b2:GT (if 1<x.vars.length then[ft [41]]else[]) 3:=by split;exact GT.sg (by decide +kernel);exact GT.nil _
 exact((GT.ky (by decide +kernel) (by decide +kernel)).cons (b1.append (hv.append (b2.append ((GT.wd (.inl rfl) hr.2.2.1 h3).cons hc))))).mono (by omega)
theorem Xc {s:List UInt8}(h:lY.contains s=true\/fh.contains s=true):GT [za s] 10:=by
 have key:∀x∈lY++fh,((match x with | []=>false | c::_=>cV c)=true/\cP (gU x)=true/\x.length<=9)\/((match x with | []=>false | c::_=>cV c)=false/\bB.contains x=true):=by decide +kernel
 have hm:s∈lY++fh:=by
  rw[dJ]
  rcases h with h | h
  . exact .inl (by simpa using h)
  . exact .inr (by simpa using h)
 rcases key s hm with⟨h1,h2,h3⟩ | ⟨h1,h2⟩
 . have e:za s=gU s:=by
    unfold za;exact if_pos h1
   rw[e];exact GT.ky h2 h3
 . have e:za s=ft s:=by
    unfold za;exact if_neg (λq=>by have q':=h1.symm.trans q;cases q')
   rw[e];exact(GT.sg h2).mono (by omega)
theorem Dx (ps:List bk):∀(l:List aO) (b:Bool),(∀p,p∈ps->GT (ca p) (100*p.z-10))->(∀e,e∈l->GT (bh e) (100*e.z-10))->GT (gT b (ps.map ca) (l.map bh)) (100*dP ps+100*eX l):=by
 induction ps with
 | nil=>intro l b _ _;exact GT.nil _
 | cons p ps ih=>
   intro l b hp hl;cases l with
   | nil=>exact GT.nil _
   | cons e l=>
     rw[bD,bD,gT,dP,eX];have h1:=hp p (by simp);have h2:=hl e (by simp);have h3:=ih l false (λq hq=>hp q (by simp[hq])) (λq hq=>hl q (by simp[hq]));have b1:GT (if b=true then[]else[ft [124]]) 3:=by split;exact GT.nil _;exact GT.sg (by decide +kernel)
     exact(b1.append (h1.append ((GT.sg (by decide +kernel)).cons (h2.append h3)))).mono (by have:=p.du;have:=e.du;omega)
def QS (e:aO):Prop:=dt e=true->e.ok->GT (fP e) (100*e.z-20)/\GT (bh e) (100*e.z-10)/\∀a,a∈e.l->GT (bh a) (100*a.z-10)
def Uq (d:bm):Prop:=jt d=true->d.ok->GT (iE d) (100*d.z-10)
theorem Ur (e:aO)(ihE:∀c,c∈e.l->QS c)(ihD:∀d,d∈e.d->Uq d):QS e:=λhr he=>by
 rw[aO.br]at he;obtain⟨hn,hs,⟨hl1,hl2⟩,⟨hp1,hp2⟩,hd1,hd2⟩:=he;have hz:=e.hZ;have e0:=jF e;rw[hr]at e0;have e1:=e0.symm;simp only[ae]at e1;obtain⟨_,hrl,hrp,hrd,hlf,hd⟩:=e1;rw[nR]at hrl;have hE:∀a,a∈e.l->GT (bh a) (100*a.z-10):=λa ha=>(ihE a ha (dp hrl ha) (hl2 a ha)).2.1;have hE2:∀q,q∈e.l->∀a,a∈q.l->GT (bh a) (100*a.z-10):=λq hq=>(ihE q hq (dp hrl hq) (hl2 q hq)).2.2;have hrowG:∀(l:List aO) s,bB.contains s=true->(∀a,a∈l->GT (bh a) (100*a.z-10))->GT (cQ (dB s bh) true l) (100*eX l):=λl s hsg h=>by
  rw[<- uy,<- iF];exact GT.list (λa ha b=>(GT.sep (f:=bh) (a:=a) (w:=λa=>100*a.z-10) hsg (h a ha) b).mono (by have:=a.du;omega)) true
 have hrow:∀s,bB.contains s=true->GT (gu s ((e.l.map λe=>(e.k,lq e)).map gS)) (100*eX e.l):=λs hsg=>by
  rw[kR];exact hrowG e.l s hsg hE
 have hP:(decide (e.k=7\/e.k=9\/e.k=12))=true->∀p,p∈e.p->GT (ca p) (100*p.z-10):=λhk p hp=>by
  rw[hk]at hrp;have hrp':cK e.p=true:=by simpa using hrp
  rw[gk]at hrp';exact(Hr p (dp hrp' hp) (hp2 p hp)).2.1
 have hD:e.k=10->GT ((e.d.map iE).flatMap λd=>d++[ft [59]]) (100*dF e.d):=λhk=>by
  rw[hk]at hrd;have hrd':eK e.d=true:=by simpa using hrd
  rw[kS]at hrd';rw[List.flatMap_map,<- im (λd=>iE d++[ft [59]]) e.d true,<- uz,<- iF];exact GT.list (λa ha b=>((ihD a ha (dp hrd' ha) (hd2 a ha)).append (GT.sg (by decide +kernel))).mono (by have:=a.du;omega)) true
 have hlen:=gC e.s.length 8;have hmod:=dV e.s.length (show 0<8 by omega);have hT:GT (fP e) (100*e.z-20):=by
  rw[gI];unfold zg;unfold iC at hd
  by_cases h1:e.k=1
  . rw[if_pos h1]at hd ⊢;simp only[ae,decide_eq_true_eq]at hd;exact(GT.num hd.1 hd.2).mono (by omega)
  rw[if_neg h1]at hd ⊢
  by_cases h2:e.k=2
  . rw[if_pos (.inl h2),h2];exact(GT.aK hs).mono (by omega)
  rw[if_neg h2]at hd
  by_cases h3:e.k=3
  . rw[if_pos h3]at hd;rw[if_pos (.inr (.inl h3)),h3];exact(GT.wd (.inl rfl) hd hs).mono (by omega)
  rw[if_neg h3]at hd
  by_cases h4:e.k=4
  . rw[if_pos h4]at hd;rw[if_pos (.inr (.inr h4)),h4];exact(GT.wd (.inr (.inl rfl)) hd hs).mono (by omega)
  rw[if_neg (show ¬(e.k=2\/e.k=3\/e.k=4)by omega)];rw[if_neg h4]at hd
  by_cases h5:e.k=5
  . rw[if_pos h5];exact((GT.sg (by decide +kernel)).cons ((hrow _ (by decide +kernel)).append (GT.sg (by decide +kernel)))).mono (by omega)
  rw[if_neg h5]at hd ⊢
  by_cases h13:e.k=13
  . rw[if_pos h13];exact((GT.sg (by decide +kernel)).cons ((hrow _ (by decide +kernel)).append (GT.sg (by decide +kernel)))).mono (by omega)
  rw[if_neg h13]at hd ⊢
  by_cases h10:e.k=10
  . rw[if_pos h10]
    match hel:e.l with
    | []=>exact GT.nil _
    | x::y::r=>exact GT.nil _
    | [x]=>
      have hx:x∈e.l:=by rw[hel];simp
      have hz1:eX e.l=x.z+0:=by rw[hel];rfl
      have hxz:=x.hZ;simp only[bD,fm];have hb:GT (if x.k=13 then gu [59] (lq x).2 else gS (x.k,lq x)) (100*x.z):=by
       split
       . rw[w6 x];show GT (gu [59] (x.l.map bh)) _;rw[kq];exact(hrowG x.l _ (by decide +kernel) (hE2 x hx)).mono (by omega)
       . exact(hE x hx).mono (by omega)
      exact((GT.ky (by decide +kernel) (by decide +kernel)).cons ((hD h10).append ((GT.ky (by decide +kernel) (by decide +kernel)).cons (hb.append (GT.ky (by decide +kernel) (by decide +kernel)))))).mono (by omega)
  rw[if_neg h10]
  by_cases h6:e.k=6
  . rw[if_neg (by omega),if_neg (by omega),if_pos h6];rw[dC];show GT (e.l.map bh).flatten _;rw[<- List.flatMap_def,<- im bh e.l true];have:GT (cQ (λ_=>bh) true e.l) (100*eX e.l):=by
     rw[<- uy,<- iF];exact GT.list (λa ha b=>(hE a ha).mono (by omega)) true
    exact this.mono (by omega)
  rw[if_neg h6]at hd
  by_cases h14:e.k=14
  . rw[if_pos h14];rw[if_neg (by omega),if_neg (by omega),if_neg (by omega),if_neg (by omega),if_pos h14,ae]at hd
    match hel:e.l with
    | []=>exact GT.nil _
    | [x]=>exact GT.nil _
    | x::y::w::r=>exact GT.nil _
    | [x,y]=>
      have hz1:eX e.l=x.z+(y.z+0):=by rw[hel];rfl
      simp only[bD,fm];exact((hE x (by rw[hel];simp)).append ((Xc (.inl hd.2)).cons (hE y (by rw[hel];simp)))).mono (by have:=x.du;have:=y.du;omega)
  rw[if_neg h14]
  by_cases h15:e.k=15
  . rw[if_pos h15];rw[if_neg (by omega),if_neg (by omega),if_neg (by omega),if_neg (by omega),if_neg h14,if_pos h15,ae]at hd
    match hel:e.l with
    | []=>exact GT.nil _
    | x::y::r=>exact GT.nil _
    | [x]=>
      have hz1:eX e.l=x.z+0:=by rw[hel];rfl
      simp only[bD,fm];exact((Xc (.inr hd.2)).cons (hE x (by rw[hel];simp))).mono (by have:=x.du;omega)
  rw[if_neg h15,if_neg h6]
  by_cases h8:e.k=8
  . rw[if_pos h8]
    match hel:e.l with
    | []=>exact GT.nil _
    | [x]=>exact GT.nil _
    | [x,y]=>exact GT.nil _
    | x::y::w::v::r=>exact GT.nil _
    | [x,y,w]=>
      have hz1:eX e.l=x.z+(y.z+(w.z+0)):=by rw[hel];rfl
      simp only[bD,fm];exact((GT.ky (by decide +kernel) (by decide +kernel)).cons ((hE x (by rw[hel];simp)).append ((GT.ky (by decide +kernel) (by decide +kernel)).cons ((hE y (by rw[hel];simp)).append ((GT.ky (by decide +kernel) (by decide +kernel)).cons (hE w (by rw[hel];simp))))))).mono (by have:=x.du;have:=y.du;have:=w.du;omega)
  rw[if_neg h8]
  by_cases h11:e.k=11
  . rw[if_pos h11];exact((GT.ky (by decide +kernel) (by decide +kernel)).cons (hrow _ (by decide +kernel))).mono (by omega)
  rw[if_neg h11]
  by_cases h7:e.k=7
  . rw[if_pos h7,dC];exact((GT.ky (by decide +kernel) (by decide +kernel)).cons (Dx e.p e.l true (hP (by simp[h7])) hE)).mono (by omega)
  rw[if_neg h7]
  by_cases h9:e.k=9
  . rw[if_pos h9]
    match hel:e.l with
    | []=>exact GT.nil _
    | x::r=>
      have hz1:eX e.l=x.z+eX r:=by rw[hel];rfl
      simp only[bD,dC];exact((GT.ky (by decide +kernel) (by decide +kernel)).cons ((hE x (by rw[hel];simp)).append ((GT.ky (by decide +kernel) (by decide +kernel)).cons (Dx e.p r true (hP (by simp[h9])) (λa ha=>hE a (by rw[hel];simp[ha])))))).mono (by have:=x.du;omega)
  rw[if_neg h9]
  by_cases h12:e.k=12
  . rw[if_pos h12]
    match hel:e.l with
    | []=>exact GT.nil _
    | x::r=>
      have hz1:eX e.l=x.z+eX r:=by rw[hel];rfl
      simp only[bD,dC];exact((hE x (by rw[hel];simp)).append ((GT.ky (by decide +kernel) (by decide +kernel)).cons (Dx e.p r true (hP (by simp[h12])) (λa ha=>hE a (by rw[hel];simp[ha]))))).mono (by have:=x.du;omega)
  rw[if_neg h12];exact GT.nil _
 refine⟨hT,?_,hE⟩;rw[l_];split
 . exact hT.mono (by omega)
 . exact((GT.sg (by decide +kernel)).cons (hT.append (GT.sg (by decide +kernel)))).mono (by omega)
theorem Us (d:bm)(ihE:QS d.e)(ihF:∀f,f∈d.f->QS f.b):Uq d:=λhr hok=>by
 rw[bm.br]at hok;obtain⟨hp,he,⟨hf1,hf2⟩,hx,hc⟩:=hok;have hz:=d.hZ;have z1:=d.p.du;have z2:=d.e.du;have z3:=d.c.du;have e0:=sW d;rw[hr]at e0;rw[tc]
 by_cases h1:d.k=1
 . rw[if_pos h1]at e0 ⊢;have e1:=e0.symm;rw[ae,ae]at e1;exact((GT.ky (by decide +kernel) (by decide +kernel)).cons ((Hr d.p e1.2.1 hp).1.append ((GT.sg (by decide +kernel)).cons (ihE e1.2.2 he).1))).mono (by omega)
 rw[if_neg h1]at e0 ⊢
 by_cases h5:d.k=5
 . rw[if_pos h5]at e0;rw[if_neg (by omega),if_neg (by omega),if_neg (by omega),if_pos h5];have e1:=e0.symm;rw[ae]at e1;exact(ihE e1.2 he).1.mono (by omega)
 rw[if_neg h5]at e0
 by_cases h2:d.k=2
 . rw[if_pos h2]at e0 ⊢;have e1:=e0.symm;rw[ae,ux]at e1;rw[Dt];have:GT (cQ (λb f=>gU (if b=true then[102,117,110]else[97,110,100])::Xa f) true d.f) (100*qw d.f):=by
    rw[<- FF,<- iF];refine GT.list (λf hf b=> ?_) true;have hfo:=(Fn.br f).1 (hf2 f hf);have hfr:=dp e1.1 hf;rw[y7,ae,ae,ae,gk]at hfr;have hfz:=f.hZ;have hbz:=f.b.du;have hlen:=gC f.s.length 8;have hmod:=dV f.s.length (show 0<8 by omega);have hps:GT (f.p.flatMap ca) (100*dP f.p):=by
     rw[<- im ca f.p true,<- qp,<- iF];exact GT.list (λa ha b=>(Hr a (dp hfr.2.2.1 ha) (hfo.2.1.2 a ha)).2.1.mono (by omega)) true
    rw[Hl];exact((GT.ky (by cases b<;>decide +kernel) (by cases b<;>decide +kernel)).cons ((GT.wd (.inl rfl) hfr.1 hfo.1).cons (hps.append ((GT.sg (by decide +kernel)).cons (ihF f hf hfr.2.2.2 hfo.2.2).1)))).mono (by omega)
   exact this.mono (by omega)
 rw[if_neg h2]at e0 ⊢
 by_cases h3:d.k=3
 . rw[if_pos h3]at e0 ⊢;have e1:mD d.x=true:=by
    have e1:=e0.symm;unfold mD;simp only[ae]at e1 ⊢;exact⟨e1.1,e1.2.1,e1.2.2.1,e1.2.2.2.1⟩
   exact(Up d.x e1 hx).mono (by omega)
 rw[if_neg h3]at e0 ⊢
 by_cases h4:d.k=4
 . rw[if_pos h4]at e0 ⊢;have e1:=e0.symm;rw[ae]at e1;exact((GT.ky (by decide +kernel) (by decide +kernel)).cons (QR d.c e1.1 hc)).mono (by omega)
 rw[if_neg h4]at e0;cases e0
theorem aae (d:bm):Uq d:=bm.ind (p:=QS) (q:=Uq) Ur (λd h1 h2=>Us d h1 h2) d
theorem Dy (l:List bm)(hr:eK l=true)(hok:∀d,d∈l->d.ok):GT (ib l) (100*dF l):=by
 rw[kS]at hr;unfold ib;rw[<- im (λd=>iE d++[ft [59]]) l true,<- uz,<- iF];exact GT.list (λa ha b=>((aae a (dp hr ha) (hok a ha)).append (GT.sg (by decide +kernel))).mono (by have:=a.du;omega)) true
section
variable {L:List Tok}{k k' m n:Nat}{s w:List UInt8}{t:Tok}
def kY (a b:Tok):Prop:=a.k=b.k/\a.s=b.s/\a.n=b.n
def Sg (L:List Tok):Nat->List Tok->Nat->Prop
 | k,[],k'=>k=k'
 | k,t::ts,k'=>kY (tk L k) t/\Sg L (k+1) ts k'
theorem Sg.cons {ts:List Tok}:Sg L k (t::ts) k'↔kY (tk L k) t/\Sg L (k+1) ts k':=Iff.rfl
theorem Sg.app {a b:List Tok}:∀{k:Nat},Sg L k (a++b) k'↔∃m,Sg L k a m/\Sg L m b k':=by
 induction a with
 | nil=>intro k;exact⟨λh=>⟨k,rfl,h⟩,λ⟨m,h1,h2⟩=>by cases h1;exact h2⟩
 | cons t a ih=>
   intro k;rw[eZ,Sg.cons,ih];exact⟨λ⟨h,m,h1,h2⟩=>⟨m,⟨h,h1⟩,h2⟩,λ⟨m,⟨h,h1⟩,h2⟩=>⟨h,m,h1,h2⟩⟩
theorem jf (h:kY (tk L k) (ft s)):eM L k s=true:=by
 unfold eM o8;rw[h.1,h.2.1];simp
theorem lu (h:kY (tk L k) (gU s)):eM L k s=true:=by
 unfold eM o8;rw[h.1,h.2.1];simp
theorem eQ (h:kY (tk L k) (ft s))(hs:s≠w):eM L k w=false:=by
 unfold eM;rw[h.2.1,decide_eq_false hs,cU]
theorem jg (h:kY (tk L k) (gU s))(hs:s≠w):eM L k w=false:=by
 unfold eM;rw[h.2.1,decide_eq_false hs,cU]
theorem ji (h:kY (tk L k) t)(h7:t.k≠7)(h6:t.k≠6):o8 L k=false:=by
 unfold o8;rw[h.1,decide_eq_false h7,decide_eq_false h6];rfl
theorem ack {c x y:Int}(h:kY (tk L k) ⟨c,s,x,y⟩)(h7:c≠7)(h6:c≠6):o8 L k=false:=ji h h7 h6
theorem gq {c x y d:Int}(h:kY (tk L k) ⟨c,s,x,y⟩)(hc:c≠d):¬(tk L k).k=d:=λq=>hc (h.1.symm.trans q)
theorem te (h:o8 L k=false):eM L k w=false:=by unfold eM;rw[h];rfl
theorem dQ {α:Sort _}{b:Bool}{x y:α}(h:b=false):(if b=true then x else y)=y:=if_neg (by rw[h];decide)
theorem f_ {α:Type}{f:Nat->PR α}(h:kY (tk L k) (ft s)):dj L s k f=f (k+1):=if_pos (jf h)
theorem tg {α:Type}{f:Nat->PR α}(h:kY (tk L k) (gU s)):dj L s k f=f (k+1):=if_pos (lu h)
theorem dR {α β:Type}{a:α}{f:α->Nat->PR β}:bd (yes a k) f=f a k:=rfl
theorem rN {α:Type}{c:Int}{f:Tok->Nat->PR α}(h:(tk L k).k=c):gj L c k f=f (tk L k) (k+1):=if_pos h
theorem foldl_add {α:Type}(l:List α):∀acc:List α,l.foldl (λa b=>a++[b]) acc=acc++l:=by
 induction l with
 | nil=>intro acc;simp
 | cons a l ih=>intro acc;rw[List.foldl_cons,ih];simp
theorem ph {α β:Type}(f:α->List Tok)(rd:Nat->Nat->PR α)(lp:Nat->β->Nat->PR β)(ad:β->α->β)(s:List UInt8)(St:Nat->Prop)(c:Nat)(hc:1<=c)(hlp:∀n acc k,lp (n+1) acc k=if eM L k s=true then bd (rd n (k+1)) λb k=>lp n (ad acc b) k else yes acc k)(hst:∀k,kY (tk L k) (ft s)->St k):
 ∀(l:List α),(∀a,a∈l->∀n k k',12*(f a).length+c<=n->Sg L k (f a) k'->St k'->rd n k=yes a k')->∀acc n k k',12*(cQ (dB s f) false l).length+c<=n->Sg L k (cQ (dB s f) false l) k'->St k'->eM L k' s=false->lp n acc k=yes (l.foldl ad acc) k':=by
 intro l
 induction l with
 | nil=>
   intro _ acc n k k' hn hS _ hN;obtain⟨m,rfl⟩:∃m,n=m+1:=⟨n-1,by omega⟩;cases hS;rw[hlp,dQ hN];rfl
 | cons a l ih=>
   intro hl acc n k k' hn hS hK hN;have e:cQ (dB s f) false (a::l)=ft s::(f a++cQ (dB s f) false l):=rfl;rw[e]at hn hS;rw[Sg.cons,Sg.app]at hS;obtain⟨h1,j,h2,h3⟩:=hS;rw[ao,aj]at hn;obtain⟨m,rfl⟩:∃m,n=m+1:=⟨n-1,by omega⟩;have hj:St j:=by
    cases l with
    | nil=>cases h3;exact hK
    | cons b l=>exact hst j h3.1
   rw[hlp,if_pos (jf h1),hl a (by simp) m (k+1) j (by omega) h2 hj,dR];exact ih (λb hb=>hl b (by simp[hb])) (ad acc a) m j k' (by omega) h3 hK hN
def TE (L:List Tok)(k:Nat):Prop:=kC L k=false/\eM L k [42]=false/\eM L k [45,62]=false
theorem TE.sg (h:kY (tk L k) (ft s))(h1:s≠[114,101,102])(h2:s≠[42])(h3:s≠[45,62]):TE L k:=by
 refine⟨?_,eQ h h2,eQ h h3⟩;unfold kC;rw[h.1,eQ h h1];rfl
theorem FG (h:kY (tk L k) (ft s))(h1:s≠[114,101,102]):kC L k=false:=by
 unfold kC;rw[h.1,eQ h h1];rfl
theorem th (h:Sg L k (pg s) k'):kC L k=true/\(tk L k).s=s/\k'=k+1/\(tk L k).k≠5:=by
 unfold pg at h;split at h
 . rename_i hs;obtain⟨h1,h2⟩:=h;refine⟨?_,h1.2.1,h2.symm,by rw[h1.1];show(6:Int)≠5;decide⟩;unfold kC;subst hs;rw[lu h1,gK]
 . obtain⟨h1,h2⟩:=h;refine⟨?_,h1.2.1,h2.symm,by rw[h1.1];show(3:Int)≠5;decide⟩;unfold kC;rw[h1.1];rfl
theorem AU:(pg s).length=1:=by unfold pg;split<;>rfl
def QT (L:List Tok)(t:bI):Prop:=∀n k k',12*(iO t).length<=n+1->Sg L k (iO t) k'->o_ L (ps L n) k=yes t k'
def TyB (L:List Tok)(t:bI):Prop:=∀n k k',12*(uw t).length+6<=n->Sg L k (uw t) k'->TE L k'->(ps L n).ni k=yes t k'
theorem QT.post {t:bI}(h:QT L t)(hn:12*(iO t).length<=n)(hp:1<=n)(hS:Sg L k (iO t) k')(hN:kC L k'=false):(ps L n).post k=yes t k':=by
 obtain⟨m,rfl⟩:∃m,n=m+1:=⟨n-1,by omega⟩;show qT L (ps L m) k=_;unfold qT;rw[h m k k' hn hS,dR];unfold l8;rw[dQ hN]
theorem QT.ni {t:bI}(h:QT L t)(hn:12*(iO t).length+2<=n)(hS:Sg L k (iO t) k')(hK:TE L k'):(ps L n).ni k=yes t k':=by
 obtain⟨m,rfl⟩:∃m,n=m+1:=⟨n-1,by omega⟩;show ta L (ps L m) k=_;unfold ta s_;rw[h.post (by omega) (by omega) hS hK.1,dR,dQ hK.2.1,dR,dQ hK.2.2]
theorem Hs {s:List UInt8}(l:List bI):∀b,cQ (dB s zf) b (l.map tyI)=cQ (dB s iO) b l:=λb=>je _ _ _ b
theorem QU (l:List bI)(hl:∀a,a∈l->QT L a)(acc:List bI)(hn:12*(cQ (dB [44] iO) false l).length+2<=n)(hS:Sg L k (cQ (dB [44] iO) false l) k')(hK:TE L k')(hN:eM L k' [44]=false):(ps L n).Mg acc k=yes (acc++l) k':=by
 rw[<- foldl_add];exact ph iO (λn=>(ps L n).ni) (λn=>(ps L n).Mg) _ [44] (TE L) 2 (by decide) (λn acc k=>rfl) (λk h=>TE.sg h (by decide) (by decide) (by decide)) l (λa ha n k k' h1 h2 h3=>(hl a ha).ni h1 h2 h3) acc n k k' hn hS hK hN
theorem Ht (l:List bI)(hl:∀a,a∈l->QT L a)(acc:List bI)(hn:12*(cQ (dB [42] iO) false l).length+2<=n)(hS:Sg L k (cQ (dB [42] iO) false l) k')(hK:kC L k'=false)(hN:eM L k' [42]=false):(ps L n).m7 acc k=yes (acc++l) k':=by
 rw[<- foldl_add];exact ph iO (λn=>(ps L n).post) (λn=>(ps L n).m7) _ [42] (λk=>kC L k=false) 2 (by decide) (λn acc k=>rfl) (λk h=>FG h (by decide)) l (λa ha n k k' h1 h2 h3=>(hl a ha).post (by omega) (by omega) h2 h3) acc n k k' hn hS hK hN
theorem Ut (t:bI):mN t=true->QT L t/\TyB L t:=bI.ind (p:=λt=>mN t=true->QT L t/\TyB L t) (λt ih hr=>by
 have e0:=Dd t;rw[hr]at e0;have e1:=e0.symm;rw[ae,kQ]at e1;obtain⟨hrl,hd⟩:=e1;have hE:∀a,a∈t.l->QT L a:=λa ha=>(ih a ha (dp hrl ha)).1;have hT:=Hk t;have hV:t.k=1->QT L t/\TyB L t:=λh1=>by
  unfold Fm at hd;rw[if_pos h1,ae,decide_eq_true_eq]at hd;unfold Ml at hT;rw[if_pos h1]at hT;have eP:iO t=uw t:=by rw[w5,if_pos (.inl h1)]
  have hA:QT L t:=λn k k' hn hS=>by
   rw[eP,hT]at hS;obtain⟨h2,h3⟩:=hS;cases h3;unfold o_;rw[if_pos h2.1,h2.2.1];obtain⟨a,b,c⟩:=t;cases h1;cases aQ hd.1;rfl
  exact⟨hA,λn k k' hn hS hK=>hA.ni (by rw[eP];omega) (by rw[eP];exact hS) hK⟩
 by_cases h1:t.k=1
 . exact hV h1
 have hB:TyB L t:=λn k k' hn hS hK=>by
  rw[hT]at hn hS;unfold Ml at hn hS;unfold Fm at hd;rw[if_neg h1]at hn hS hd
  by_cases h3:t.k=3
  . rw[if_neg (by omega),if_pos h3,ae,decide_eq_true_eq,decide_eq_true_eq]at hd;rw[if_pos h3,Hs]at hn hS;obtain⟨c,s,l⟩:=t
    match l,hd.1 with
    | [a,b],_=>
      have eq:cQ (dB [45,62] iO) true (bI.mk c s [a,b]).l=iO a++ft [45,62]::(iO b++[]):=rfl;rw[eq,bf]at hn hS;rw[Sg.app]at hS;obtain⟨j,hs1,hs2,hs3⟩:=hS;rw[aj,ao]at hn;obtain⟨m,rfl⟩:∃m,n=m+1:=⟨n-1,by omega⟩;show ta L (ps L m) k=_;unfold ta s_;rw[(hE a (fC ..)).post (by omega) (by omega) hs1 (FG hs2 (by decide)),dR,dQ (eQ hs2 (by decide)),dR,if_pos (jf hs2),(hE b (by show b∈[a,b];simp)).ni (by omega) hs3 hK,dR];cases h3;cases hd.2;rfl
  rw[if_neg h3]at hn hS hd
  by_cases h4:t.k=4
  . rw[if_neg (by omega),if_pos h4,ae,decide_eq_true_eq,decide_eq_true_eq]at hd;rw[if_pos h4,Hs]at hn hS;obtain⟨c,s,l⟩:=t
    match l,hd.1 with
    | a::b::r,_=>
      have eq:cQ (dB [42] iO) true (bI.mk c s (a::b::r)).l=iO a++cQ (dB [42] iO) false (b::r):=rfl;rw[eq]at hn hS;rw[Sg.app]at hS;obtain⟨j,hs1,hs2⟩:=hS;have hs3:kY (tk L j) (ft [42]):=hs2.1;rw[aj]at hn;obtain⟨m,rfl⟩:∃m,n=m+1:=⟨n-1,by omega⟩;show ta L (ps L m) k=_;unfold ta s_;have hp:u6 L (ps L m) [a] j=yes ([a]++(b::r)) k':=Ht (n:=m+1) (b::r) (λx hx=>hE x (by show x∈a::b::r;simp at hx ⊢;exact .inr hx)) [a] (by omega) hs2 hK.1 hK.2.1;rw[(hE a (fC ..)).post (by omega) (by omega) hs1 (FG hs3 (by decide)),dR,if_pos (jf hs3),hp,dR,dR,dQ hK.2.2];cases h4;cases hd.2;rfl
  rw[if_neg h4]at hn hS hd
  by_cases h2:t.k=2
  . rw[if_pos h2]at hn hS;obtain⟨c,s,l⟩:=t;obtain rfl:c=2:=h2;rw[Hs]at hn hS;obtain⟨m,rfl⟩:∃m,n=m+2:=⟨n-2,by omega⟩;show ta L (ps L (m+1)) k=_;unfold ta s_;have key:(ps L (m+1)).post k=yes (.mk 2 s l) k':=by
     show qT L (ps L m) k=_;unfold qT
     match l with
     | []=>
       rw[if_neg (by simp[bI.l])]at hS;obtain⟨n1,n2,n3,n4⟩:=th hS;unfold o_;rw[if_neg n4,if_pos n1,dR,n2,<- n3];unfold l8;rw[dQ hK.1];rfl
     | [a]=>
       rw[if_neg (by simp[bI.l])]at hS hn;have eq:cQ (dB [44] iO) true (bI.mk 2 s [a]).l=iO a++[]:=rfl;rw[eq,bf]at hn hS;rw[aj,AU]at hn;rw[Sg.app]at hS;obtain⟨j,hs1,hs2⟩:=hS;obtain⟨n1,n2,n3,n4⟩:=th hs2;rw[hE a (fC ..) m k j (by omega) hs1,dR];unfold l8;rw[if_pos n1,n2];obtain⟨m',rfl⟩:∃m',m=m'+1:=⟨m-1,by omega⟩;show l8 L (ps L m') _ _=_;unfold l8;rw[<- n3,dQ hK.1];rfl
     | a::b::r=>
       rw[if_pos (by simp[bI.l])]at hS hn;have eq:cQ (dB [44] iO) true (bI.mk 2 s (a::b::r)).l=iO a++cQ (dB [44] iO) false (b::r):=rfl;rw[eq]at hn hS;rw[ao,aj,aj,ao,AU]at hn;rw[Sg.cons,Sg.app]at hS;obtain⟨hs1,j2,hS,hs4,hs5⟩:=hS;rw[Sg.app]at hS;obtain⟨j1,hs2,hs3⟩:=hS;have hs6:kY (tk L j1) (ft [44]):=hs3.1;obtain⟨n1,n2,n3,n4⟩:=th hs5;unfold o_;rw[if_neg (gq hs1 (by decide)),dQ (FG hs1 (by decide)),f_ hs1,(hE a (fC ..)).ni (by omega) hs2 (TE.sg hs6 (by decide) (by decide) (by decide)),dR,if_pos (jf hs6)];have hp:y_ L (ps L m) [a] j1=yes ([a]++(b::r)) j2:=QU (n:=m+1) (b::r) (λx hx=>hE x (by show x∈a::b::r;simp at hx ⊢;exact .inr hx)) [a] (by omega) hs3 (TE.sg hs4 (by decide) (by decide) (by decide)) (eQ hs4 (by decide));rw[hp,dR,f_ hs4,if_pos n1,dR,n2,<- n3];unfold l8;rw[dQ hK.1];rfl
    rw[key,dR,dQ hK.2.1,dR,dQ hK.2.2]
  . rw[if_neg h2]at hd;cases hd
 refine⟨λn k k' hn hS=> ?_,hB⟩;rw[w5]at hn hS
 by_cases h2:t.k=2/\t.l.length=0
 . rw[if_pos (.inr h2),hT]at hS;obtain⟨c,s,l⟩:=t;obtain⟨q1,q2⟩:=h2;obtain rfl:c=2:=q1;cases aQ q2;obtain⟨n1,n2,n3,n4⟩:=th (s:=s) (show Sg L k (pg s) k' from hS);unfold o_;rw[if_neg n4,if_pos n1,n2,<- n3]
 . rw[if_neg (by rintro(h | h);exact h1 h;exact h2 h)]at hn hS;rw[Sg.cons,Sg.app]at hS;obtain⟨hs1,j,hs2,hs3,hs4⟩:=hS;cases hs4;rw[ao,aj]at hn;unfold o_;rw[if_neg (gq hs1 (by decide)),dQ (FG hs1 (by decide)),f_ hs1,hB n (k+1) j (by simp at hn;omega) hs2 (TE.sg hs3 (by decide) (by decide) (by decide)),dR,dQ (eQ hs3 (by decide)),f_ hs3]) t
theorem zj (c:eO)(hr:nO c=true)(hn:12*(kp c).length+2<=n)(hS:Sg L k (kp c) k')(hK:TE L k')(hO:eM L k' [111,102]=false):(ps L n).qm k=yes c k':=by
 obtain⟨m,rfl⟩:∃m,n=m+1:=⟨n-1,by omega⟩;show Fw L (ps L m) k=_;unfold Fw;unfold nO at hr;rw[ae,ae,decide_eq_true_eq,kQ]at hr;obtain⟨_,hl,hR⟩:=hr;obtain⟨s,l⟩:=c
 match l,hl with
 | [],_=>
   obtain⟨h1,h2⟩:=(show Sg L k [⟨4,s,0,0⟩] k' from hS);cases h2;rw[rN h1.1,dQ hO,h1.2.1]
 | [a],_=>
   have eq:kp ⟨s,[a]⟩=⟨4,s,0,0⟩::gU [111,102]::(uw a++[]):=rfl;rw[eq,bf]at hS hn;obtain⟨h1,h2,h3⟩:=hS;rw[ao,ao]at hn;rw[rN h1.1,if_pos (lu h2),(Ut a (dp hR (by simp))).2 m _ _ (by omega) h3 hK,dR,h1.2.1]
theorem Uu (c:eO):1<=(kp c).length:=by unfold kp;simp
def CE (L:List Tok)(k:Nat):Prop:=TE L k/\eM L k [111,102]=false
theorem Mv (l:List eO)(hl:l.all nO=true)(acc:List eO)(hn:12*(cQ (dB [124] kp) false l).length+2<=n)(hS:Sg L k (cQ (dB [124] kp) false l) k')(hK:CE L k')(hN:eM L k' [124]=false):(ps L n).uv acc k=yes (acc++l) k':=by
 rw[<- foldl_add];exact ph kp (λn=>(ps L n).qm) (λn=>(ps L n).uv) _ [124] (CE L) 2 (by decide) (λn acc k=>rfl) (λk h=>⟨TE.sg h (by decide) (by decide) (by decide),eQ h (by decide)⟩) l (λa ha n k k' h1 h2 h3=>zj a (dp hl ha) h1 h2 h3.1 h3.2) acc n k k' hn hS hK hN
theorem Uv (l:List eO):cQ (λb c=>ft (if b=true then[61]else[124])::kp c) false l=cQ (dB [124] kp) false l:=by
 induction l with
 | nil=>rfl
 | cons a l ih=>rw[cQ,cQ,ih];rfl
theorem Mw (l:List (List UInt8)):∀(acc:List (List UInt8)) (n k:Nat),12*(cQ (dB [44] λs=>[(⟨5,s,0,0⟩:Tok)]) false l).length+1<=n->Sg L k (cQ (dB [44] λs=>[(⟨5,s,0,0⟩:Tok)]) false l) k'->eM L k' [44]=false->(ps L n).uu acc k=yes (acc++l) k':=by
 induction l with
 | nil=>
   intro acc n k hn hS hN;obtain⟨m,rfl⟩:∃m,n=m+1:=⟨n-1,by omega⟩;cases hS;show j9 L (ps L m) acc _=_;unfold j9;rw[dQ hN,bf]
 | cons a l ih=>
   intro acc n k hn hS hN;obtain⟨m,rfl⟩:∃m,n=m+1:=⟨n-1,by omega⟩;have eq:cQ (dB [44] λs=>[(⟨5,s,0,0⟩:Tok)]) false (a::l)=ft [44]::⟨5,a,0,0⟩::cQ (dB [44] λs=>[(⟨5,s,0,0⟩:Tok)]) false l:=rfl;rw[eq]at hn hS;obtain⟨h1,h2,h3⟩:=hS;rw[ao,ao]at hn;show j9 L (ps L m) acc k=_;unfold j9;rw[if_pos (jf h1),rN h2.1,h2.2.1,ih (acc++[a]) m _ (by omega) h3 hN];simp
theorem Mx (x:Data)(hr:mD x=true)(hn:12*(m_ x).length<=n+12)(hS:Sg L (k+1) (m_ x).tail k')(hK:CE L k')(hN:eM L k' [124]=false):(ps L n).data (k+1)=yes x k':=by
 unfold mD at hr;rw[ae,ae,ae,decide_eq_true_eq,rK,rL]at hr;obtain⟨_,hc,_,hc0⟩:=hr;obtain⟨vs,s,cs⟩:=x
 match cs,hc0 with
 | c::cs,_=>
 have eC:cQ (λb c=>ft (if b=true then[61]else[124])::kp c) true (c::cs)=ft [61]::(kp c++cQ (dB [124] kp) false cs):=by
  rw[<- Uv];rfl
 have hcp:=Uu c;have rest:∀(m j:Nat) (vs:List (List UInt8)),12*(kp c++cQ (dB [124] kp) false cs).length+2<=m->Sg L j (⟨3,s,0,0⟩::ft [61]::(kp c++cQ (dB [124] kp) false cs)) k'->(gj L 3 j λt k=>dj L [61] k λk=>bd ((ps L m).qm k) λc k=>bd (mC L (ps L m) [c] k) λl k=>yes (⟨vs,t.s,l⟩:Data) k)=yes ⟨vs,s,c::cs⟩ k':=by
  intro m j vs hm hS;obtain⟨h1,h2,h3⟩:=hS;rw[Sg.app]at h3;obtain⟨j1,h3,h4⟩:=h3;rw[aj]at hm;have hj:CE L j1:=by
   cases cs with
   | nil=>cases h4;exact hK
   | cons b l=>
     have h5:kY (tk L j1) (ft [124]):=h4.1;exact⟨TE.sg h5 (by decide) (by decide) (by decide),eQ h5 (by decide)⟩
  rw[cW,ae]at hc;have hp:mC L (ps L m) [c] j1=yes ([c]++cs) k':=Mv (n:=m+1) cs hc.2 [c] (by omega) h4 hK hN;rw[rN h1.1,f_ h2,zj c hc.1 (by omega) h3 hj.1 hj.2,dR,hp,dR,h1.2.1];rfl
 unfold m_ at hn hS;rw[List.tail_cons]at hS;rw[ao]at hn;rw[eC]at hn hS;obtain⟨m,rfl⟩:∃m,n=m+1:=⟨n-1,by
  simp only[aj,ao]at hn;omega⟩
 show u7 L (ps L m) (k+1)=_;unfold u7 AL
 match vs with
 | []=>
   obtain⟨h1,hS'⟩:=(show Sg L (k+1) (⟨3,s,0,0⟩::ft [61]::(kp c++cQ (dB [124] kp) false cs)) k' from hS);rw[if_neg (gq h1 (by decide)),dQ (te (ack h1 (by decide) (by decide))),dR];exact rest m _ [] (by simp only[aj,ao]at hn ⊢;omega) hS
 | [v]=>
   obtain⟨h1,hS'⟩:=(show Sg L (k+1) (⟨5,v,0,0⟩::⟨3,s,0,0⟩::ft [61]::(kp c++cQ (dB [124] kp) false cs)) k' from hS);rw[if_pos h1.1,dR,h1.2.1];exact rest m _ [v] (by simp only[aj,ao]at hn ⊢;omega) hS'
 | v::v2::vs=>
   have eq:cQ (dB [44] λs=>[(⟨5,s,0,0⟩:Tok)]) true (v::v2::vs)=⟨5,v,0,0⟩::cQ (dB [44] λs=>[(⟨5,s,0,0⟩:Tok)]) false (v2::vs):=rfl;rw[if_pos (by simp),if_pos (by simp),eq]at hn hS;simp only[eZ,cj]at hn hS;obtain⟨h1,h2,hS⟩:=hS;rw[Sg.app]at hS;obtain⟨j,h3,h4,h5⟩:=hS;simp only[aj,ao]at hn;have hp:j9 L (ps L m) [v] (k+1+1+1)=yes ([v]++(v2::vs)) j:=Mw (n:=m+1) (v2::vs) [v] _ (by omega) h3 (eQ h4 (by decide));rw[if_neg (gq h1 (by decide)),if_pos (jf h1),rN h2.1,h2.2.1,hp,dR,f_ h4,dR];exact rest m _ _ (by simp only[aj];omega) h5
end
end
end Go.Proofs.YthjhonhhbddhkaaGreatDoor
