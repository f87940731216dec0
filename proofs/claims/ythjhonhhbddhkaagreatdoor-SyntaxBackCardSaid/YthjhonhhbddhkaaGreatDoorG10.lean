/- Texts of this claim, side by side. -/
import Derived.Test.YthjhonhhbddhkaaGreatDoorG8
import Derived.Test.YthjhonhhbddhkaaGreatDoorG9
import Derived.Test.YthjhonhhbddhkaaGreatDoorG6
import Derived.Test.YthjhonhhbddhkaaGreatDoorProg
import Derived.WalkKit
import Derived.ProofKit
import Derived.OpenShut
import Derived.ShutString
import Derived.ChangeOld
import Derived.ChangeSame
import Derived.Deep.Slices
import Derived.DataElems
import Derived.Below
import Derived.SizedLaws
import Derived.Test.YthjhonhhbddhkaaGreatDoorRows
import Derived.LaidMore
import Derived.Stop.LaidErr
import Derived.Lib.AppendIntMem
import Derived.Test.YthjhonhhbddhkaaGreatDoorG7
open List renaming length_map->aa,length_append->aj,mem_of_getElem?->ak,length_cons->ao,getElem?_eq_some_iff->ar,getElem?_eq_getElem->au,length_drop->aD,mem_cons->aG,all_eq_true->aM,mem_singleton->aP,append_nil->bf,append_assoc->bn,mem_map->bo,getElem?_eq_none->bt,getElem?_map->bS,getElem?_append_right->bZ,takeWhile_cons->b_,nil_append->cj,length_take->cC,drop_drop->cH,not_mem_nil->cO,all_cons->cW,length_nil->c_,drop_zero->dq,isPrefixOf_iff_prefix->dr,drop_eq_getElem_cons->dA,map_map->dC,map_append->dI,mem_append->dJ,length_singleton->dU,length_eq_zero_iff->d_,drop_eq_nil_of_le->ez,cons_append->eZ,flatMap_cons->fj,take_of_length_le->fl,range->fB,take_succ_cons->gW,getElem?_range->gX,getElem_mem->hU
open Bool renaming and_eq_true->ae,true_and->ai,false_and->aE,and_true->aW,or_eq_true->bl,not_true->cM,eq_iff_iff->dk,or_eq_false_iff->dy,not_false->fk,false_eq_true->jW
open Nat renaming ble_eq_true_of_le->av,le_refl->ax,beq->ay,zero_le->aN,lt_succ_self->bz,zero_add->bN,blt->bY,mod_lt->dV,lt_of_lt_of_le->eh,add_sub_cancel_left->e7,le_add_right->fE,le_trans->ga,mod_eq_of_lt->hY,sub_zero->iu,strongRecOn->iH,add_assoc->iK,mul_one->jk,le_succ->jl,min_eq_left->jR,lt_of_le_of_lt->jY,le_mul_of_pos_right->j6
open Array renaming length_toList->ch,getElem?_eq_getElem->cE,ext'->eU
open Option renaming bind_some->ba,map_eq_some_iff->bO,map_some->dH,isSome->iL
open UInt8 renaming toNat_inj->bJ,ofNat->dh,toNat_ofNat'->gn
namespace Go.Proofs.YthjhonhhbddhkaaGreatDoor
open Go.Ev Go.RowKit
noncomputable section
set_option maxRecDepth 100000
set_option linter.unusedVariables false
set_option linter.unusedSimpArgs false
set_option maxHeartbeats 8000000
section
variable {L:List Tok}{α β:Type}{Q:β->Prop}{Q1:α->Prop}{k m:Nat}
def gp {α:Type}(x:PR α)(Q:α->Prop):Prop:=∀a k,x=some (.ok a k)->Q a
theorem gp.none:gp (none:PR β) Q:=λa k h=>by cases h
theorem gp.bd {x:PR α}{f:α->Nat->PR β}(h:gp x Q1)(hf:∀a k,Q1 a->gp (f a k) Q):gp (bd x f) Q:=by
 cases x with
 | none=>exact gp.none
 | some r=>
   cases r with
   | bad a=>exact λa k h=>by cases h
   | ok a k=>exact hf a k (h a k rfl)
theorem gp.fail:gp (qS L k:PR β) Q:=λa k h=>by cases h
theorem gp.yes {a:β}(h:Q a):gp (yes a k) Q:=λa k h'=>by cases h';exact h
theorem gp.ite {c:Prop}[Decidable c]{x y:PR β}(h:gp x Q)(h':gp y Q):gp (if c then x else y) Q:=by
 by_cases hc:c
 . rw[if_pos hc];exact h
 . rw[if_neg hc];exact h'
theorem gp.dj {w:List UInt8}{f:Nat->PR β}(hf:∀k,gp (f k) Q):gp (dj L w k f) Q:=gp.ite (hf _) gp.fail
theorem gp.gj {c:Int}{f:Tok->Nat->PR β}(hf:∀j k,gp (f (tk L j) k) Q):gp (gj L c k f) Q:=gp.ite (hf _ _) gp.fail
def cN (Q:β->Prop)(m:Nat)(l:List β):Prop:=l.length<=m/\∀c,c∈l->Q c
theorem cN.nil:cN Q m []:=⟨aN _,λc h=>nomatch h⟩
theorem cN.snoc {l:List β}{a:β}(h:cN Q m l)(ha:Q a):cN Q (m+1) (l++[a]):=⟨by rw[aj];exact Nat.add_le_add_right h.1 1,λc hc=>(dJ.1 hc).elim (h.2 c) λq=>by rw[aP.1 q];exact ha⟩
theorem cN.one {a:β}(ha:Q a):cN Q 1 [a]:=⟨ax _,λc hc=>by rw[aP.1 hc];exact ha⟩
theorem cN.two {a b:β}(ha:Q a)(hb:Q b):cN Q 2 [a,b]:=(cN.one ha).snoc hb
theorem cN.three {a b c:β}(ha:Q a)(hb:Q b)(hc:Q c):cN Q 3 [a,b,c]:=(cN.two ha hb).snoc hc
theorem cN.mono {n:Nat}{l:List β}(h:cN Q m l)(hm:m<=n):cN Q n l:=⟨ga h.1 hm,h.2⟩
theorem cN.ei {l:List β}(h:cN Q m l)(hm:m<=300000):l.length<ei:=jY (ga h.1 hm) (by decide)
theorem uB {k n:Int}{s:List UInt8}{l:List aO}{p:List bk}{d:List bm}{m1 m2 m3:Nat}(h1:rg n)(h2:oy s)(h3:cN aO.ok m1 l)(g3:m1<=300000)(h4:cN bk.ok m2 p)(g4:m2<=300000)(h5:cN bm.ok m3 d)(g5:m3<=300000):(aO.mk k n s l p d).ok:=(aO.br _).2 ⟨h1,h2,⟨h3.ei g3,h3.2⟩,⟨h4.ei g4,h4.2⟩,h5.ei g5,h5.2⟩
theorem DH {k n:Int}{s:List UInt8}{l:List bk}{m1:Nat}(h1:rg n)(h2:oy s)(h3:cN bk.ok m1 l)(g3:m1<=300000):(bk.mk k n s l).ok:=(bk.br _).2 ⟨h1,h2,h3.ei g3,h3.2⟩
theorem La {k:Int}{s:List UInt8}{l:List bI}{m1:Nat}(h2:oy s)(h3:cN bI.ok m1 l)(g3:m1<=300000):(bI.mk k s l).ok:=(bI.br _).2 ⟨h2,h3.ei g3,h3.2⟩
theorem Rn {s:List UInt8}{l:List bI}{m1:Nat}(h2:oy s)(h3:cN bI.ok m1 l)(g3:m1<=300000):(eO.mk s l).ok:=⟨h2,h3.ei g3,h3.2⟩
theorem Lb {v:List (List UInt8)}{s:List UInt8}{l:List eO}{m0 m1:Nat}(h0:cN oy m0 v)(g0:m0<=300000)(h2:oy s)(h3:cN eO.ok m1 l)(g3:m1<=300000):(Data.mk v s l).ok:=⟨⟨h0.ei g0,h0.2⟩,h2,h3.ei g3,h3.2⟩
theorem ac2 {s:List UInt8}{q:List bk}{b:aO}{m1:Nat}(h2:oy s)(h3:cN bk.ok m1 q)(g3:m1<=300000)(h4:b.ok):(Fn.mk s q b).ok:=(Fn.br _).2 ⟨h2,⟨h3.ei g3,h3.2⟩,h4⟩
theorem mM {k:Int}{p:bk}{e:aO}{f:List Fn}{x:Data}{c:eO}{m1:Nat}(h1:p.ok)(h2:e.ok)(h3:cN Fn.ok m1 f)(g3:m1<=300000)(h4:x.ok)(h5:c.ok):(bm.mk k p e f x c).ok:=(bm.br _).2 ⟨h1,h2,⟨h3.ei g3,h3.2⟩,h4,h5⟩
theorem zq:rg 0:=by unfold rg;omega
theorem ku:oy []:=by show(0:Nat)<_;omega
theorem qW:rI.ok:=DH zq ku (cN.nil (m:=0)) (by decide)
theorem ac3:sZ.ok:=uB zq ku (cN.nil (m:=0)) (by decide) (cN.nil (m:=0)) (by decide) (cN.nil (m:=0)) (by decide)
theorem qX:mB.ok:=Lb (cN.nil (m:=0)) (by decide) ku (cN.nil (m:=0)) (by decide)
theorem qY:rJ.ok:=Rn ku (cN.nil (m:=0)) (by decide)
def ow (m:Nat)(e:aO):Prop:=∃k l p,e= .mk k 0 [] l p []/\cN aO.ok m l/\cN bk.ok m p
theorem ow.ok {e:aO}(h:ow m e)(hm:m<=300000):e.ok:=by
 obtain⟨k,l,p,rfl,h1,h2⟩:=h;exact uB zq ku h1 hm h2 hm (cN.nil (m:=0)) (by decide)
theorem ow.add {e b:aO}(h:ow m e)(hb:b.ok):ow (m+1) (e.add b):=by
 obtain⟨k,l,p,rfl,h1,h2⟩:=h;exact⟨k,l++[b],p,rfl,h1.snoc hb,h2.mono (jl m)⟩
theorem ow.zO {e b:aO}{q:bk}(h:ow m e)(hq:q.ok)(hb:b.ok):ow (m+1) (e.zO q b):=by
 obtain⟨k,l,p,rfl,h1,h2⟩:=h;exact⟨k,l++[b],p++[q],rfl,h1.snoc hb,h2.snoc hq⟩
theorem ow.one {k:Int}{b:aO}(hb:b.ok):ow 1 (.mk k 0 [] [b] [] []):=⟨k,[b],[],rfl,cN.one hb,cN.nil⟩
theorem ow.zero {k:Int}:ow 0 (.mk k 0 [] [] [] []):=⟨k,[],[],rfl,cN.nil,cN.nil⟩
theorem DI (n:Int):rg (IntKind.i64.wrap n):=by
 unfold rg IntKind.wrap;have:IntKind.i64.bits=64:=rfl;have:IntKind.i64.signed=true:=rfl;simp only[*,ai];split
 . rename_i h';simp only[decide_eq_true_eq]at h';omega
 . rename_i h';simp only[decide_eq_true_eq]at h';omega
def Xw (d:Option bm):Prop:=∀x,d=some x->x.ok
def zr (L:List Tok):Prop:=∀t,t∈L->rg t.n/\oy t.s
theorem zr.tk (h:zr L)(k:Nat):rg (tk L k).n/\oy (tk L k).s:=by
 unfold Go.Proofs.YthjhonhhbddhkaaGreatDoor.tk;cases hk:L[k]? with
 | none=>exact⟨zq,ku⟩
 | some t=>exact h t (ak hk)
structure aao (n:Nat)(p:PS):Prop where
 exp:∀k,gp (p.exp k) aO.ok
 uq:∀e k m,ow m e->m+n<=300000->gp (p.uq e k) aO.ok
 bin:∀lv k,gp (p.bin lv k) aO.ok
 zP:∀lv a k,a.ok->gp (p.zP lv a k) aO.ok
 un:∀k,gp (p.un k) aO.ok
 y8:∀a k,a.ok->gp (p.y8 a k) aO.ok
 atom:∀k,gp (p.atom k) aO.ok
 gu:∀s e k m,ow m e->m+n<=300000->gp (p.gu s e k) aO.ok
 lt:∀k,gp (p.lt k) aO.ok
 vm:∀l k m,cN bm.ok m l->m+n<=300000->gp (p.vm l k) (cN bm.ok 300000)
 pat:∀k,gp (p.pat k) bk.ok
 gR:∀k,gp (p.gR k) bk.ok
 ur:∀l k m,cN bk.ok m l->m+n<=300000->gp (p.ur l k) (cN bk.ok 300000)
 ni:∀k,gp (p.ni k) bI.ok
 m7:∀l k m,cN bI.ok m l->m+n<=300000->gp (p.m7 l k) (cN bI.ok 300000)
 post:∀k,gp (p.post k) bI.ok
 Mg:∀l k m,cN bI.ok m l->m+n<=300000->gp (p.Mg l k) (cN bI.ok 300000)
 lr:∀a k,a.ok->gp (p.lr a k) bI.ok
 qm:∀k,gp (p.qm k) eO.ok
 bind:∀k,gp (p.bind k) Xw
 vn:∀l k m,cN Fn.ok m l->m+n<=300000->gp (p.vn l k) (cN Fn.ok 300000)
 fn:∀k,gp (p.fn k) Fn.ok
 MM:∀l k m,cN bk.ok m l->m+n<=300000->gp (p.MM l k) (cN bk.ok 300000)
 dec:∀k,gp (p.dec k) Xw
 data:∀k,gp (p.data k) Data.ok
 uu:∀l k m,cN oy m l->m+n<=300000->gp (p.uu l k) (cN oy 300000)
 uv:∀l k m,cN eO.ok m l->m+n<=300000->gp (p.uv l k) (cN eO.ok 300000)
 iD:∀l k m,cN bm.ok m l->m+n<=300000->gp (p.iD l k) (cN bm.ok 300000)
theorem ac4 {n:Nat}{p:PS}(h:aao n p)(ht:∀k,rg (tk L k).n/\oy (tk L k).s)(hn:n<=200000):aao (n+1) (Hb L p):=by
 constructor
 all_goals intros
 all_goals dsimp only[Hb]
 all_goals try unfold oo
 all_goals try unfold Fv
 all_goals try unfold s9
 all_goals try unfold vo
 all_goals try unfold MN
 all_goals try unfold y9
 all_goals try unfold kH
 all_goals try unfold W7
 all_goals try unfold vp
 all_goals try unfold qz
 all_goals try unfold zR
 all_goals try unfold zQ
 all_goals try unfold hJ
 all_goals try unfold uZ
 all_goals try unfold ta
 all_goals try unfold s_
 all_goals try unfold u6
 all_goals try unfold qT
 all_goals try unfold o_
 all_goals try unfold y_
 all_goals try unfold l8
 all_goals try unfold Fw
 all_goals try unfold qU
 all_goals try unfold vq
 all_goals try unfold W8
 all_goals try unfold vr
 all_goals try unfold qA
 all_goals try unfold u7
 all_goals try unfold AL
 all_goals try unfold j9
 all_goals try unfold mC
 all_goals try unfold qV
 all_goals repeat' (first
  | exact gp.fail
  | assumption
  | omega
  | exact gp.yes (by assumption)
  | exact gp.yes (ow.ok (by first | assumption | exact ow.zO (by assumption) (by assumption) (by assumption) | exact ow.add (by assumption) (by assumption)) (by omega))
  | exact gp.yes (cN.mono (by first | assumption | exact cN.one (by first | assumption | exact(ht _).2) | exact cN.nil (m:=0)) (by omega))
  | exact gp.yes (uB (by first | exact zq | exact(ht _).1 | exact DI _) (by first | exact ku | exact(ht _).2 | assumption | (show _<_;decide)) (by first | exact cN.nil (m:=0) | assumption | exact cN.three (by assumption) (by assumption) (by assumption) | exact cN.two (by assumption) (by assumption) | exact cN.one (by assumption)) (by omega) (by first | exact cN.nil (m:=0) | assumption | exact cN.three (by assumption) (by assumption) (by assumption) | exact cN.two (by assumption) (by assumption) | exact cN.one (by assumption)) (by omega) (by first | exact cN.nil (m:=0) | assumption | exact cN.three (by assumption) (by assumption) (by assumption) | exact cN.two (by assumption) (by assumption) | exact cN.one (by assumption)) (by omega))
  | exact gp.yes (DH (by first | exact zq | exact(ht _).1 | exact DI _) (by decide) (cN.one (DH zq ku (cN.two (by assumption) (by assumption)) (by omega))) (by omega))
  | exact gp.yes (DH (by first | exact zq | exact(ht _).1 | exact DI _) (by first | exact ku | exact(ht _).2 | assumption | (show _<_;decide)) (by first | exact cN.nil (m:=0) | assumption | exact cN.three (by assumption) (by assumption) (by assumption) | exact cN.two (by assumption) (by assumption) | exact cN.one (by assumption)) (by omega))
  | exact gp.yes (La (by first | exact ku | exact(ht _).2 | assumption | (show _<_;decide)) (by first | exact cN.nil (m:=0) | assumption | exact cN.three (by assumption) (by assumption) (by assumption) | exact cN.two (by assumption) (by assumption) | exact cN.one (by assumption)) (by omega))
  | exact gp.yes (Rn (by first | exact ku | exact(ht _).2 | assumption | (show _<_;decide)) (by first | exact cN.nil (m:=0) | assumption | exact cN.three (by assumption) (by assumption) (by assumption) | exact cN.two (by assumption) (by assumption) | exact cN.one (by assumption)) (by omega))
  | exact gp.yes (Lb (by first | exact cN.nil (m:=0) | assumption | exact cN.three (by assumption) (by assumption) (by assumption) | exact cN.two (by assumption) (by assumption) | exact cN.one (by assumption)) (by omega) (by first | exact ku | exact(ht _).2 | assumption | (show _<_;decide)) (by first | exact cN.nil (m:=0) | assumption | exact cN.three (by assumption) (by assumption) (by assumption) | exact cN.two (by assumption) (by assumption) | exact cN.one (by assumption)) (by omega))
  | exact gp.yes (ac2 (by first | exact ku | exact(ht _).2 | assumption | (show _<_;decide)) (by first | exact cN.nil (m:=0) | assumption | exact cN.three (by assumption) (by assumption) (by assumption) | exact cN.two (by assumption) (by assumption) | exact cN.one (by assumption)) (by omega) (by assumption))
  | exact gp.yes (λx e=>by first | (cases e;done) | (cases e;exact mM (by first | assumption | exact qW) (by first | assumption | exact ac3) (by first | exact cN.nil (m:=0) | assumption | exact cN.three (by assumption) (by assumption) (by assumption) | exact cN.two (by assumption) (by assumption) | exact cN.one (by assumption)) (by omega) (by first | assumption | exact qX) (by first | assumption | exact qY)))
  | with_reducible refine gp.dj (λk=> ?_)
  | with_reducible refine gp.gj (λj k=> ?_)
  | with_reducible exact h.exp _
  | with_reducible refine gp.bd (h.exp _) (λa k ha=> ?_)
  | with_reducible exact h.un _
  | with_reducible refine gp.bd (h.un _) (λa k ha=> ?_)
  | with_reducible exact h.atom _
  | with_reducible refine gp.bd (h.atom _) (λa k ha=> ?_)
  | with_reducible exact h.lt _
  | with_reducible refine gp.bd (h.lt _) (λa k ha=> ?_)
  | with_reducible exact h.pat _
  | with_reducible refine gp.bd (h.pat _) (λa k ha=> ?_)
  | with_reducible exact h.gR _
  | with_reducible refine gp.bd (h.gR _) (λa k ha=> ?_)
  | with_reducible exact h.ni _
  | with_reducible refine gp.bd (h.ni _) (λa k ha=> ?_)
  | with_reducible exact h.post _
  | with_reducible refine gp.bd (h.post _) (λa k ha=> ?_)
  | with_reducible exact h.qm _
  | with_reducible refine gp.bd (h.qm _) (λa k ha=> ?_)
  | with_reducible exact h.bind _
  | with_reducible refine gp.bd (h.bind _) (λa k ha=> ?_)
  | with_reducible exact h.fn _
  | with_reducible refine gp.bd (h.fn _) (λa k ha=> ?_)
  | with_reducible exact h.dec _
  | with_reducible refine gp.bd (h.dec _) (λa k ha=> ?_)
  | with_reducible exact h.data _
  | with_reducible refine gp.bd (h.data _) (λa k ha=> ?_)
  | with_reducible exact h.bin _ _
  | with_reducible refine gp.bd (h.bin _ _) (λa k ha=> ?_)
  | with_reducible refine h.zP _ _ _ ?_;exact(by first | assumption | exact La (by first | exact ku | exact(ht _).2 | assumption | (show _<_;decide)) (by first | exact cN.nil (m:=0) | assumption | exact cN.three (by assumption) (by assumption) (by assumption) | exact cN.two (by assumption) (by assumption) | exact cN.one (by assumption)) (by omega) | exact uB zq (by first | exact ku | exact(ht _).2 | assumption | (show _<_;decide)) (by first | exact cN.nil (m:=0) | assumption | exact cN.three (by assumption) (by assumption) (by assumption) | exact cN.two (by assumption) (by assumption) | exact cN.one (by assumption)) (by omega) (cN.nil (m:=0)) (by omega) (cN.nil (m:=0)) (by omega))
  | with_reducible refine h.y8 _ _ ?_;exact(by first | assumption | exact La (by first | exact ku | exact(ht _).2 | assumption | (show _<_;decide)) (by first | exact cN.nil (m:=0) | assumption | exact cN.three (by assumption) (by assumption) (by assumption) | exact cN.two (by assumption) (by assumption) | exact cN.one (by assumption)) (by omega) | exact uB zq (by first | exact ku | exact(ht _).2 | assumption | (show _<_;decide)) (by first | exact cN.nil (m:=0) | assumption | exact cN.three (by assumption) (by assumption) (by assumption) | exact cN.two (by assumption) (by assumption) | exact cN.one (by assumption)) (by omega) (cN.nil (m:=0)) (by omega) (cN.nil (m:=0)) (by omega))
  | with_reducible refine h.lr _ _ ?_;exact(by first | assumption | exact La (by first | exact ku | exact(ht _).2 | assumption | (show _<_;decide)) (by first | exact cN.nil (m:=0) | assumption | exact cN.three (by assumption) (by assumption) (by assumption) | exact cN.two (by assumption) (by assumption) | exact cN.one (by assumption)) (by omega) | exact uB zq (by first | exact ku | exact(ht _).2 | assumption | (show _<_;decide)) (by first | exact cN.nil (m:=0) | assumption | exact cN.three (by assumption) (by assumption) (by assumption) | exact cN.two (by assumption) (by assumption) | exact cN.one (by assumption)) (by omega) (cN.nil (m:=0)) (by omega) (cN.nil (m:=0)) (by omega))
  | exact h.uq _ _ _ (by first | exact ow.zO (by assumption) (by assumption) (by assumption) | exact ow.add (by first | assumption | exact ow.one (by assumption)) (by assumption) | exact ow.one (by assumption) | exact ow.zero) (by omega)
  | refine gp.bd (h.uq _ _ _ (by first | exact ow.zO (by assumption) (by assumption) (by assumption) | exact ow.add (by first | assumption | exact ow.one (by assumption)) (by assumption) | exact ow.one (by assumption) | exact ow.zero) (by omega)) (λa k ha=> ?_)
  | exact h.gu _ _ _ _ (by first | exact ow.zO (by assumption) (by assumption) (by assumption) | exact ow.add (by first | assumption | exact ow.one (by assumption)) (by assumption) | exact ow.one (by assumption) | exact ow.zero) (by omega)
  | refine gp.bd (h.gu _ _ _ _ (by first | exact ow.zO (by assumption) (by assumption) (by assumption) | exact ow.add (by first | assumption | exact ow.one (by assumption)) (by assumption) | exact ow.one (by assumption) | exact ow.zero) (by omega)) (λa k ha=> ?_)
  | exact h.vm _ _ _ (by first | exact cN.nil (m:=0) | exact cN.snoc (by first | assumption | exact cN.nil (m:=0) | exact cN.one (by first | assumption | exact(ht _).2)) (by first | assumption | exact(ht _).2 | exact ha _ rfl | exact mM qW (by assumption) (cN.nil (m:=0)) (by omega) qX qY) | exact cN.one (by first | assumption | exact(ht _).2)) (by omega)
  | exact h.ur _ _ _ (by first | exact cN.nil (m:=0) | exact cN.snoc (by first | assumption | exact cN.nil (m:=0) | exact cN.one (by first | assumption | exact(ht _).2)) (by first | assumption | exact(ht _).2 | exact ha _ rfl | exact mM qW (by assumption) (cN.nil (m:=0)) (by omega) qX qY) | exact cN.one (by first | assumption | exact(ht _).2)) (by omega)
  | exact h.m7 _ _ _ (by first | exact cN.nil (m:=0) | exact cN.snoc (by first | assumption | exact cN.nil (m:=0) | exact cN.one (by first | assumption | exact(ht _).2)) (by first | assumption | exact(ht _).2 | exact ha _ rfl | exact mM qW (by assumption) (cN.nil (m:=0)) (by omega) qX qY) | exact cN.one (by first | assumption | exact(ht _).2)) (by omega)
  | exact h.Mg _ _ _ (by first | exact cN.nil (m:=0) | exact cN.snoc (by first | assumption | exact cN.nil (m:=0) | exact cN.one (by first | assumption | exact(ht _).2)) (by first | assumption | exact(ht _).2 | exact ha _ rfl | exact mM qW (by assumption) (cN.nil (m:=0)) (by omega) qX qY) | exact cN.one (by first | assumption | exact(ht _).2)) (by omega)
  | exact h.vn _ _ _ (by first | exact cN.nil (m:=0) | exact cN.snoc (by first | assumption | exact cN.nil (m:=0) | exact cN.one (by first | assumption | exact(ht _).2)) (by first | assumption | exact(ht _).2 | exact ha _ rfl | exact mM qW (by assumption) (cN.nil (m:=0)) (by omega) qX qY) | exact cN.one (by first | assumption | exact(ht _).2)) (by omega)
  | exact h.MM _ _ _ (by first | exact cN.nil (m:=0) | exact cN.snoc (by first | assumption | exact cN.nil (m:=0) | exact cN.one (by first | assumption | exact(ht _).2)) (by first | assumption | exact(ht _).2 | exact ha _ rfl | exact mM qW (by assumption) (cN.nil (m:=0)) (by omega) qX qY) | exact cN.one (by first | assumption | exact(ht _).2)) (by omega)
  | exact h.uu _ _ _ (by first | exact cN.nil (m:=0) | exact cN.snoc (by first | assumption | exact cN.nil (m:=0) | exact cN.one (by first | assumption | exact(ht _).2)) (by first | assumption | exact(ht _).2 | exact ha _ rfl | exact mM qW (by assumption) (cN.nil (m:=0)) (by omega) qX qY) | exact cN.one (by first | assumption | exact(ht _).2)) (by omega)
  | exact h.uv _ _ _ (by first | exact cN.nil (m:=0) | exact cN.snoc (by first | assumption | exact cN.nil (m:=0) | exact cN.one (by first | assumption | exact(ht _).2)) (by first | assumption | exact(ht _).2 | exact ha _ rfl | exact mM qW (by assumption) (cN.nil (m:=0)) (by omega) qX qY) | exact cN.one (by first | assumption | exact(ht _).2)) (by omega)
  | exact h.iD _ _ _ (by first | exact cN.nil (m:=0) | exact cN.snoc (by first | assumption | exact cN.nil (m:=0) | exact cN.one (by first | assumption | exact(ht _).2)) (by first | assumption | exact(ht _).2 | exact ha _ rfl | exact mM qW (by assumption) (cN.nil (m:=0)) (by omega) qX qY) | exact cN.one (by first | assumption | exact(ht _).2)) (by omega)
  | with_reducible refine gp.ite ?_ ?_
  | refine gp.bd (Q1:=aO.ok) ?_ (λa k ha=> ?_)
  | refine gp.bd (Q1:=bk.ok) ?_ (λa k ha=> ?_)
  | refine gp.bd (Q1:=bI.ok) ?_ (λa k ha=> ?_)
  | refine gp.bd (Q1:=cN bm.ok 300000) ?_ (λa k ha=> ?_)
  | refine gp.bd (Q1:=cN bk.ok 300000) ?_ (λa k ha=> ?_)
  | refine gp.bd (Q1:=cN bI.ok 300000) ?_ (λa k ha=> ?_)
  | refine gp.bd (Q1:=cN Fn.ok 300000) ?_ (λa k ha=> ?_)
  | refine gp.bd (Q1:=cN eO.ok 300000) ?_ (λa k ha=> ?_)
  | refine gp.bd (Q1:=cN oy 300000) ?_ (λa k ha=> ?_)
  | (obtain _ | d:=(a:Option bm)))
theorem ac5 (ht:zr L):∀n,n<=200000->aao n (ps L n)
 | 0,_=>by constructor<;>intros<;>exact gp.none
 | n+1,hn=>ac4 (ac5 ht n (by omega)) ht.tk (by omega)
end
section
variable {nx0 nx nx' bp k:Nat}{H0 H H':T OB}{F A B G G':List Bx}{R:Go.Ev.Out->T OB->Nat->Prop}{b:Nat}{l:List Value}{e t:TypeId}{L:List Tok}
def Ro:nh (List bm)->List bm×Int×Int
 | .bad a=>([],a,80)
 | .ok ds _=>if 100<lW ds 0 then([],0,81)else(ds,0,0)
def zt (L:List Tok)(o:nh (List bm)):List bm×Int×Int:=if L.all cP=true then Ro o else([],0,110)
def DV (ds:List bm)(v:Value):Prop:=v=cb ds\/(ds=[]/\v=a_)
abbrev Va (r:List bm×Int×Int):Go.Ev.Out->T OB->Nat->Prop:=λq _ _=>∃v,q= .ret (.tuple ⟨[v,i64 r.2.1,i64 r.2.2]⟩)/\DV r.1 v
theorem Rp {i:Nat}{t:Tok}(hg:L[i]? = some t)(hp:(L.take i).all cP=true)(ht:cP t=true):(L.take (i+1)).all cP=true:=by
 rw[List.take_add_one,hg,List.all_append,hp];simp[ht]
theorem Lc {i:Nat}{t:Tok}(hg:L[i]? = some t)(ht:cP t=false):¬L.all cP=true:=λq=>by
 have:=aM.1 q t (ak hg);rw[ht]at this;cases this
theorem afg {u:Value}:∃H',mi H nx e (some u)= .val (ptr nx) H' (nx+1)/\dO H' nx u.cells.toList e/\Ag nx H (nx+1) H'/\∀b l e,b<nx->dO H b l e->dO H' b l e:=by
 obtain⟨o,H',nx',hA,⟨h1,h2,h3,h4⟩,hr⟩:=Wq.box (P:=P) (pl:=pl) (X:=X0) (R:=λo H2 nx2=>o= .ret (ptr nx)/\nx2=nx+1/\dO H2 nx u.cells.toList e/\∀b l e,b<nx->dO H b l e->dO H2 b l e) (k:=λv H nx=> .ret ⟨.ret v,false,H,nx⟩) (u:=u) (e:=e) (Ag.refl nx H) λH' hb dZ hA=>Wq.rC hA ⟨rfl,rfl,hb,dZ⟩;cases he:mi H nx e (some u)with
 | val v H1 aI=>
   rw[he]at hr;have hr:some (⟨.ret v,false,H1,aI⟩:Rt)=some ⟨o,false,H',nx'⟩:=hr;cases hr;cases h1;subst h2;exact⟨_,rfl,h3,hA,h4⟩
 | _=>rw[he]at hr;cases hr
theorem Rr {x:iV}{v:Value}{k:Value->T OB->Nat->Q}(h:x= .val v H nx):bU x k=k v H nx:=by rw[h];rfl
def K15 (x0:Value)(H:T OB)(nx:Nat):Q:=bU (eN P H nx 24) (λx1 H nx=>bU (eN P H nx 3) (λx2 H nx=>bU (eN P H nx 25) (λx3 H nx=>aw (e_ P #[29] 3 (some [x0])) (λx4=> .jump (EW x0 x1 x2 x3 x0 x4 (.int .i64 0) H nx)) .bad)))
theorem afh (a0:Value)(H:T OB)(nx:Nat):aX P pl (.call 15 [a0] false none H nx)=gD P 29 a0 H nx K15:=q15 a0 H nx
theorem ac6 (v:Value)(hv:aC v=true):cA P 73 (some [(0,l9 L)])=some (.agg ⟨[l9 L,i64 0]⟩):=cf (z:=[a_,i64 0]) (by kernel_rfl) (by kernel_rfl)
theorem w15 (hL:L.length<=100000)(hT:zr L){n:Nat}(hn:n<=90000){o:nh (List bm)}(ho:(ps L n).iD [] 0=some o){x1 x2 x3:Nat}:∀(d i nx:Nat) (H:Go.Ev.T OB),i+d=L.length->(L.take i).all cP=true->Hp nx0 H0 [(x1,[a_],24),(x2,[i64 0],3),(x3,[i64 0],25)] H nx->
 bA P pl X0 (.jump (EW (l9 L) (ptr x1) (ptr x2) (ptr x3) (l9 L) (i64 (L.length:Int)) (i64 ((i:Nat):Int)) H nx)) nx0 H0 (Va (zt L o))
 | d+1,i,nx,H,hd,hp,h=>by
   have hlt:i<L.length:=by omega
   have hg:L[i]? = some L[i]:=au hlt;have hx:(L.map Tok.v)[i]? = some L[i].v:=by simp[hg]
   refine Wq.jmp (Wf ..) (λ_=>rfl) ?_;simp only[af,aJ hlt,NK hx];refine Hq.var ek fg rfl rfl rfl h λH1 aI h1=> ?_;refine Hq.uW (O0 L[i] (by have:=(hT _ (ak hg)).2;have h9:L[i].s.length<_:=this;omega)) h1 λH2 nx2 h2=> ?_;cases ht:cP L[i]with
   | false=>
     simp only[af,fk];refine Hq.put [] h2 yy rfl rfl (by simp) rfl λH3 h3=> ?_;refine Hq.put [_] h3 oV rfl rfl (by simp) rfl λH4 h4=> ?_;refine Hq.put [_,_] h4 JF rfl rfl (by simp) rfl λH5 h5=> ?_;simp only[af,aB (off:=0) (u:=a_) (h5.at_ 0 rfl) oU rfl,aB (off:=0) (u:=i64 0) (h5.at_ 1 rfl) sH rfl,aB (off:=0) (u:=i64 110) (h5.at_ 2 rfl) BG rfl];refine Wq.rC h5.ag ⟨a_,?_,?_⟩
     . unfold zt;rw[if_neg (Lc hg ht)]
     . unfold zt;rw[if_neg (Lc hg ht)];exact .inr ⟨rfl,rfl⟩
   | true=>
     simp only[af,cM,az (i:=i) (by omega)];exact w15 hL hT hn ho d (i+1) nx2 H2 (by omega) (Rp hg hp ht) h2
 | 0,i,nx,H,hd,hp,h=>by
   have hall:L.all cP=true:=by rwa[fl (by omega)]at hp
   have hout:zt L o=Ro o:=by unfold zt;rw[if_pos hall]
   rw[hout];refine Wq.jmp (Wf ..) (λ_=>rfl) ?_;have hge:i=L.length:=by omega
   subst hge;simp only[af,aF,ac6 (L:=L) a_ rfl];obtain⟨H1,eb,hb,hA1,dZ⟩:=afg (H:=H) (nx:=nx) (e:=73) (u:= .agg ⟨[l9 L,i64 0]⟩);rw[Rr eb];have h2:Hp nx H (fu nx L 0::[]) H1 (nx+1):=⟨h.Dh.ag h.ag,hA1,by simp,λx hx=>by
    rw[aP]at hx;subst hx;exact⟨ax _,bz _,hb⟩⟩
   refine Wq.lS rfl (bA.base h.ag (aff hL hn nx (nx+1) H H1 nx [] 0 o ho h2)) (λu H3 nx3 hA he=> ?_) (λu H3 nx3 hA he=> ?_)
   . have h4:=h.dZ hA he.2.1 λb l e hb hi=>hi.ag he.2 hb;replace he:=he.1;cases o with
     | bad a=>cases he
     | ok ds k=>
       obtain⟨e1,h3⟩:=he;cases e1;have hok:=(ac5 hT n (by omega)).iD [] 0 0 cN.nil (by omega) ds k ho;refine Hq.put [] h4 yy rfl rfl (by simp) rfl λH5 h5=> ?_;simp only[af,aB (off:=0) (u:=cb ds) (h5.at_ 0 rfl) oU rfl];refine Hq.call (abF ds (hok.ei (by omega)) hok.2) h5 λH6 nx6 h6=> ?_;simp only[af];refine Wq.ite (λhi=> ?_) (λhi=> ?_)
       . refine Hq.put [] h6 yy rfl rfl (by simp) rfl λH7 h7=> ?_;refine Hq.put [_] h7 oV rfl rfl (by simp) rfl λH8 h8=> ?_;refine Hq.put [_,_] h8 JF rfl rfl (by simp) rfl λH9 h9=> ?_;refine K_ ?_;refine bA.cast (q':=aw (aA P H9 24 (some (ptr x1))) (λa=>aw (aA P H9 3 (some (ptr x2))) (λb=>aw (aA P H9 25 (some (ptr x3))) (λc=> .ret ⟨.ret (.tuple ⟨[a,b,c]⟩),false,H9,nx6⟩) .bad) .bad) .bad) (by kernel_rfl) ?_;simp only[af,aB (off:=0) (u:=a_) (h9.at_ 0 rfl) oU rfl,aB (off:=0) (u:=i64 0) (h9.at_ 1 rfl) sH rfl,aB (off:=0) (u:=i64 81) (h9.at_ 2 rfl) BG rfl];have e9:Ro (.ok ds k)=([],0,81):=by
          show(if _ then _ else _)=_;rw[if_pos hi]
         rw[e9];exact Wq.rC h9.ag ⟨a_,rfl,.inr ⟨rfl,rfl⟩⟩
       . simp only[af,aB (off:=0) (u:=cb ds) (h6.at_ 0 rfl) oU rfl];refine Hq.put [] h6 yy rfl rfl (by simp) rfl λH7 h7=> ?_;refine Hq.put [_] h7 oV rfl rfl (by simp) rfl λH8 h8=> ?_;refine Hq.put [_,_] h8 JF rfl rfl (by simp) rfl λH9 h9=> ?_;refine K_ ?_;refine bA.cast (q':=aw (aA P H9 24 (some (ptr x1))) (λa=>aw (aA P H9 3 (some (ptr x2))) (λb=>aw (aA P H9 25 (some (ptr x3))) (λc=> .ret ⟨.ret (.tuple ⟨[a,b,c]⟩),false,H9,nx6⟩) .bad) .bad) .bad) (by kernel_rfl) ?_;simp only[af,aB (off:=0) (u:=cb ds) (h9.at_ 0 rfl) oU rfl,aB (off:=0) (u:=i64 0) (h9.at_ 1 rfl) sH rfl,aB (off:=0) (u:=i64 0) (h9.at_ 2 rfl) BG rfl];have e9:Ro (.ok ds k)=(ds,0,0):=by
          show(if _ then _ else _)=_;rw[if_neg hi]
         rw[e9];exact Wq.rC h9.ag ⟨cb ds,rfl,.inl rfl⟩
   . have h4:=h.dZ hA he.2.1 λb l e hb hi=>hi.ag he.2 hb;replace he:=he.1;cases o with
     | ok a k'=>cases he.1
     | bad a=>
       cases he;refine U_ h4 λH9 nx9 h9=> ?_;refine bA.cast (q':=aw (aA P H9 24 (some (ptr x1))) (λa=>aw (aA P H9 3 (some (ptr x2))) (λb=>aw (aA P H9 25 (some (ptr x3))) (λc=> .ret ⟨.ret (.tuple ⟨[a,b,c]⟩),false,H9,nx9⟩) .bad) .bad) .bad) (by kernel_rfl) ?_;simp only[af,aB (off:=0) (u:=a_) (h9.at_ 0 rfl) oU rfl,aB (off:=0) (u:=i64 a) (h9.at_ 1 rfl) sH rfl,aB (off:=0) (u:=i64 80) (h9.at_ 2 rfl) BG rfl];exact Wq.rC h9.ag ⟨a_,rfl,.inr ⟨rfl,rfl⟩⟩
theorem k15 (hT0:g_ nx H)(hL:L.length<=100000)(hT:zr L){n:Nat}(hn:n<=90000){o:nh (List bm)}(ho:(ps L n).iD [] 0=some o):bA P pl X0 (K15 (l9 L) H nx) nx H (Va (zt L o)):=by
 unfold K15;refine Wq.alloc Sr (Ag.refl nx H) λH1 hb dZ hA=> ?_;have h0:Hp nx H [] H nx:=⟨hT0,Ag.refl nx H,by simp,λx hx=>by simp at hx⟩;have h1:Hp nx H [(nx,[a_],24)] H1 (nx+1):=h0.new hb dZ hA;refine Hq.alloc X3 h1 λx2 H2 nx2 h2=> ?_;refine Hq.alloc Ss h2 λx3 H3 nx3 h3=> ?_;simp only[af,aa];exact w15 hL hT hn ho L.length 0 nx3 H3 (by omega) rfl (Hp.swap' h3)
end
end
end Go.Proofs.YthjhonhhbddhkaaGreatDoor
namespace Go.Proofs.YthjhonhhbddhkaaGreatDoor
open Go.Ev Go.RowKit Go.ChangeShapes Go.WideShapes Go.ChangeAt
noncomputable section
set_option maxRecDepth 100000
set_option linter.unusedVariables false
set_option linter.unusedSimpArgs false
set_option maxHeartbeats 8000000
section
variable {H:Type}{enc:TypeId×Value->H}{W:World}{sp:Nat->Bool}{held:Bool}
def Wt (t:TypeId)(d:DataW H):Prop:=∀n,n∈d.weights P t->n<=reachBytes
theorem Ld {e:TypeId}{d:DataW H}:∀{l:List (DataW H)},d∈l->∀n,n∈d.weights P e->n∈DataW.weightsAll P e l
 | x::r,h,n,hn=>by
   simp only[DataW.weightsAll,dJ];rcases aG.1 h with rfl | h
   . exact .inl hn
   . exact .inr (Ld h n hn)
theorem kx {α:Type}(ev:α->Value)(ok:α->Prop){t e:TypeId}{s:Nat}(ht:P.underlying t=some (.slice e))(hc:P.cellsOf e=s)(hpos:0<s)(hby:0<P.bytesOf e){fuel:Nat}{cs:List Value}{x:DataW H×List MemPlace}
 (hopen:∀m,m<fuel->∀cs x,DataW.trod enc P W 0 sp held m e cs=some x->∃a:α,(ev a).cells.toList.length=s/\LR (jB W) (ev a).cells.toList cs/\(Wt e x.1->ok a))
 (h:DataW.trod enc P W 0 sp held fuel t cs=some x):∃(v:Value) (l:List α),cs=[v]/\VR (jB W) (bM s (l.map ev)) v/\(Wt t x.1->l.length<ei/\∀a,a∈l->ok a):=by
 have hbig:ei=1125899906842624:=rfl;rcases DataW.trod_slice ht h with⟨rfl,rfl⟩ | ⟨a,len,cap,elems,rest,n,rfl,rfl,rfl,hb,hl,hm,hlen,hel,_,_⟩
 . exact⟨_,[],rfl,.xG s,λ_=>⟨by simp[hbig],λa h=>nomatch h⟩⟩
 . rw[hc]at hel;have hex:∀i:Fin len,∃a':α,∃cs',W.cells? 0 (a.add (i.val*s)) s=some cs'/\(ev a').cells.toList.length=s/\LR (jB W) (ev a').cells.toList cs'/\(Wt e (elems[i.val]'(by omega)).1->ok a'):=by
    intro i;have h1:=hel i.val i.isLt;rw[au (by omega)]at h1;cases hcs:W.cells? 0 (a.add (i.val*s)) s with
    | none=>rw[hcs]at h1;cases h1
    | some cs'=>
      rw[hcs]at h1;obtain⟨a',h2,h3,h4⟩:=hopen n (bz n) cs' _ h1;exact⟨a',cs',rfl,h2,h3,h4⟩
   obtain⟨A,hA⟩:=Classical.axiomOfChoice hex;have hg:∀(i:Nat) (y:α),(List.ofFn A)[i]? = some y->∃hi:i<len,y=A ⟨i,hi⟩:=by
    intro i y hy;have hi:i<len:=by have:=(ar.1 hy).1;simpa using this
    refine⟨hi,?_⟩;rw[au (by simpa using hi)]at hy;simpa using hy.symm
   refine⟨_,List.ofFn A,rfl,OY (by simp) ?_ hpos hl ?_,λhw=>⟨?_,?_⟩⟩
   . intro y hy;obtain⟨y',hy',rfl⟩:=bo.1 hy;obtain⟨i,hi⟩:=List.mem_iff_getElem?.1 hy';obtain⟨hlt,rfl⟩:=hg i y' hi;obtain⟨_,_,h2,_⟩:=hA ⟨i,hlt⟩;exact h2
   . intro i y hy;rw[bS]at hy;cases hq:(List.ofFn A)[i]? with
     | none=>rw[hq]at hy;cases hy
     | some y'=>
       rw[hq]at hy;cases hy;obtain⟨hlt,rfl⟩:=hg i y' hq;obtain⟨cs',h1,h2,h3,_⟩:=hA ⟨i,hlt⟩;exact⟨cs',h1,h3⟩
   . have:=hw ((elems.length+rest.length)*P.bytesOf e) (by simp[DataW.weights,ht]);have h2:elems.length+rest.length<=(elems.length+rest.length)*P.bytesOf e:=j6 _ hby;have hr:reachBytes=140737488351232:=rfl;simp only[List.length_ofFn];omega
   . intro y hy;obtain⟨i,hi⟩:=List.mem_iff_getElem?.1 hy;obtain⟨hlt,rfl⟩:=hg i y hi;obtain⟨_,_,_,_,h4⟩:=hA ⟨i,hlt⟩;refine h4 λn hn=>hw n ?_;have hmem:(elems[i]'(by omega)).1∈elems.map (·.1):=bo.2 ⟨_,hU _,rfl⟩;simp only[DataW.weights,ht,aG,dJ];exact .inr (.inl (Ld hmem n hn))
theorem c2:P.cellsOf 2=1:=by kernel_rfl
theorem c3:P.cellsOf 3=1:=by kernel_rfl
theorem c9:P.cellsOf 9=1:=by kernel_rfl
theorem c24:P.cellsOf 24=1:=by kernel_rfl
theorem c41:P.cellsOf 41=1:=by kernel_rfl
theorem c42:P.cellsOf 42=1:=by kernel_rfl
theorem c48:P.cellsOf 48=1:=by kernel_rfl
theorem c49:P.cellsOf 49=1:=by kernel_rfl
theorem c50:P.cellsOf 50=1:=by kernel_rfl
theorem c53:P.cellsOf 53=1:=by kernel_rfl
theorem c44:P.cellsOf 44=6:=by kernel_rfl
theorem c47:P.cellsOf 47=4:=by kernel_rfl
theorem c57:P.cellsOf 57=17:=by kernel_rfl
theorem c65:P.cellsOf 65=8:=by kernel_rfl
theorem c52:P.cellsOf 52=3:=by kernel_rfl
theorem c55:P.cellsOf 55=2:=by kernel_rfl
theorem aap:P.cellsOf 138=3:=by kernel_rfl
theorem Xx {n:Int}(h:(Lit.int .i64 n).wf=true):rg n:=by
 have:IntKind.i64.min= -9223372036854775808:=by decide
 have:IntKind.i64.max=9223372036854775807:=by decide
 simp only[Lit.wf,ae,decide_eq_true_eq]at h;unfold rg;omega
def Op (enc:TypeId×Value->H)(W:World)(sp:Nat->Bool)(held:Bool){α:Type}(t:TypeId)(s:Nat)(ev:α->Value)(ok:α->Prop)(fuel:Nat):Prop:=∀cs x,DataW.trod enc P W 0 sp held fuel t cs=some x->∃a:α,(ev a).cells.toList.length=s/\LR (jB W) (ev a).cells.toList cs/\(Wt t x.1->ok a)
theorem vrs {φ:fq}(s:ByteArray):VR φ (aK s.data.toList) (.string s):=by
 have es:aK s.data.toList= .string s:=by cases s;rfl
 rw[es];exact .flat _ rfl
theorem aaq (fuel:Nat):Op enc W sp held 9 1 aK oy fuel:=by
 intro cs x h;obtain⟨s,rfl,q,_⟩:=DataW.trod_string Tryz.underlying9 h;have es:aK s.data.toList= .string s:=by cases s;rfl
 refine⟨s.data.toList,rfl,?_,λhw=> ?_⟩
 . rw[es];exact .cons (.flat _ rfl) .nil
 . have hr:reachBytes=140737488351232:=rfl;have e1:s.data.toList.length=s.size:=by rw[ch];rfl
   have hz:=hw s.size (by subst q;simp[DataW.weights,e1]);show s.data.toList.length<_;omega
theorem Vb {fuel:Nat}(ih:∀m,m<fuel->Op enc W sp held 47 4 bk.v bk.ok m):Op enc W sp held 47 4 bk.v bk.ok fuel:=by
 intro cs x h;obtain⟨xs,n,rfl,rfl,hl,hlen,hf⟩:=DataW.trod_struct Tryz.underlying47 h;rw[c47]at hl
 match xs,hlen with
 | [y0,y1,y2,y3],_=>
   match cs,hl with
   | [v0,v1,v2,v3],_=>
     have h0:=hf 0 _ rfl;have h1:=hf 1 _ rfl;have h2:=hf 2 _ rfl;have h3:=hf 3 _ rfl;simp[c2,c3,c42,c9]at h0 h1 h2 h3;obtain⟨n0,e0,q0,w0⟩:=DataW.trod_int Tryz.underlying3 h0;obtain⟨n1,e1,q1,w1⟩:=DataW.trod_int Tryz.underlying2 h1;obtain⟨s2,e2,q2,w2⟩:=DataW.trod_string Tryz.underlying9 h2;obtain⟨u3,l3,e3,r3,z3⟩:=kx bk.v bk.ok Tryz.underlying42 c47 (by omega) (of_decide_eq_true (by kernel_rfl)) (λm hm cs x h=>ih m (by omega) cs x h) h3;simp at e0 e1 e2 e3;subst e0 e1 e2 e3;refine⟨(bk.mk n0 n1 s2.data.toList l3),by rw[bk.bX];rfl,?_,λhw=> ?_⟩
     . show LR (jB W) (bk.cs (bk.mk n0 n1 s2.data.toList l3)) _;rw[bk.cs,Fa];exact(LR.cons (.flat _ rfl) (LR.cons (.flat _ rfl) (LR.cons (vrs s2) (LR.cons r3 .nil))))
     . have hr:reachBytes=140737488351232:=rfl;have e12:s2.data.toList.length=s2.size:=by rw[ch];rfl
       have hs2:s2.data.toList.length<140737488355328:=by
        have hz:=hw s2.size (by subst q0 q1 q2;simp[DataW.weights,Tryz.underlying47,DataW.weightsEach,e12]);omega
       have hz3:=z3 λk hk=>hw k (by simp[DataW.weights,Tryz.underlying47,DataW.weightsEach,hk]);rw[bk.br];exact⟨Xx w1,hs2,hz3.1,hz3.2⟩
theorem HC (fuel:Nat):Op enc W sp held 47 4 bk.v bk.ok fuel:=iH fuel λn ih=>Vb ih
theorem aar {fuel:Nat}(ih:∀m,m<fuel->Op enc W sp held 138 3 bI.v bI.ok m):Op enc W sp held 138 3 bI.v bI.ok fuel:=by
 intro cs x h;obtain⟨xs,n,rfl,rfl,hl,hlen,hf⟩:=DataW.trod_struct Tryz.underlying138 h;rw[aap]at hl
 match xs,hlen with
 | [y0,y1,y2],_=>
   match cs,hl with
   | [v0,v1,v2],_=>
     have h0:=hf 0 _ rfl;have h1:=hf 1 _ rfl;have h2:=hf 2 _ rfl;simp[c3,c53,c9]at h0 h1 h2;obtain⟨n0,e0,q0,w0⟩:=DataW.trod_int Tryz.underlying3 h0;obtain⟨s1,e1,q1,w1⟩:=DataW.trod_string Tryz.underlying9 h1;obtain⟨u2,l2,e2,r2,z2⟩:=kx bI.v bI.ok Tryz.underlying53 aap (by omega) (of_decide_eq_true (by kernel_rfl)) (λm hm cs x h=>ih m (by omega) cs x h) h2;simp at e0 e1 e2;subst e0 e1 e2;refine⟨(bI.mk n0 s1.data.toList l2),by rw[bI.bX];rfl,?_,λhw=> ?_⟩
     . show LR (jB W) (bI.cs (bI.mk n0 s1.data.toList l2)) _;rw[bI.cs,Kp];exact(LR.cons (.flat _ rfl) (LR.cons (vrs s1) (LR.cons r2 .nil)))
     . have hr:reachBytes=140737488351232:=rfl;have e11:s1.data.toList.length=s1.size:=by rw[ch];rfl
       have hs1:s1.data.toList.length<140737488355328:=by
        have hz:=hw s1.size (by subst q0 q1;simp[DataW.weights,Tryz.underlying138,DataW.weightsEach,e11]);omega
       have hz2:=z2 λk hk=>hw k (by simp[DataW.weights,Tryz.underlying138,DataW.weightsEach,hk]);rw[bI.br];exact⟨hs1,hz2.1,hz2.2⟩
theorem ac7 (fuel:Nat):Op enc W sp held 138 3 bI.v bI.ok fuel:=iH fuel λn ih=>aar ih
theorem Rs (fuel:Nat):Op enc W sp held 55 2 eO.v eO.ok fuel:=by
 intro cs x h;obtain⟨xs,n,rfl,rfl,hl,hlen,hf⟩:=DataW.trod_struct Tryz.underlying55 h;rw[c55]at hl
 match xs,hlen with
 | [y0,y1],_=>
   match cs,hl with
   | [v0,v1],_=>
     have h0:=hf 0 _ rfl;have h1:=hf 1 _ rfl;simp[c53,c9]at h0 h1;obtain⟨s0,e0,q0,w0⟩:=DataW.trod_string Tryz.underlying9 h0;obtain⟨u1,l1,e1,r1,z1⟩:=kx bI.v bI.ok Tryz.underlying53 aap (by omega) (of_decide_eq_true (by kernel_rfl)) (λm hm cs x h=>ac7 m cs x h) h1;simp at e0 e1;subst e0 e1;refine⟨⟨s0.data.toList,l1⟩,by rw[eO.bX];rfl,?_,λhw=> ?_⟩
     . show LR (jB W) (eO.cs ⟨s0.data.toList,l1⟩) _;unfold eO.cs;exact(LR.cons (vrs s0) (LR.cons r1 .nil))
     . have hr:reachBytes=140737488351232:=rfl;have e10:s0.data.toList.length=s0.size:=by rw[ch];rfl
       have hs0:s0.data.toList.length<140737488355328:=by
        have hz:=hw s0.size (by subst q0;simp[DataW.weights,Tryz.underlying55,DataW.weightsEach,e10]);omega
       have hz1:=z1 λk hk=>hw k (by simp[DataW.weights,Tryz.underlying55,DataW.weightsEach,hk]);exact⟨hs0,hz1.1,hz1.2⟩
theorem Vc (fuel:Nat):Op enc W sp held 52 3 Data.v Data.ok fuel:=by
 intro cs x h;obtain⟨xs,n,rfl,rfl,hl,hlen,hf⟩:=DataW.trod_struct Tryz.underlying52 h;rw[c52]at hl
 match xs,hlen with
 | [y0,y1,y2],_=>
   match cs,hl with
   | [v0,v1,v2],_=>
     have h0:=hf 0 _ rfl;have h1:=hf 1 _ rfl;have h2:=hf 2 _ rfl;simp[c49,c50,c9]at h0 h1 h2;obtain⟨u0,l0,e0,r0,z0⟩:=kx aK oy Tryz.underlying49 c9 (by omega) (of_decide_eq_true (by kernel_rfl)) (λm hm cs x h=>aaq m cs x h) h0;obtain⟨s1,e1,q1,w1⟩:=DataW.trod_string Tryz.underlying9 h1;obtain⟨u2,l2,e2,r2,z2⟩:=kx eO.v eO.ok Tryz.underlying50 c55 (by omega) (of_decide_eq_true (by kernel_rfl)) (λm hm cs x h=>Rs m cs x h) h2;simp at e0 e1 e2;subst e0 e1 e2;refine⟨⟨l0,s1.data.toList,l2⟩,by rw[Data.bX];rfl,?_,λhw=> ?_⟩
     . show LR (jB W) (Data.cs ⟨l0,s1.data.toList,l2⟩) _;unfold Data.cs;exact(LR.cons r0 (LR.cons (vrs s1) (LR.cons r2 .nil)))
     . have hr:reachBytes=140737488351232:=rfl;have hz0:=z0 λk hk=>hw k (by simp[DataW.weights,Tryz.underlying52,DataW.weightsEach,hk]);have e11:s1.data.toList.length=s1.size:=by rw[ch];rfl
       have hs1:s1.data.toList.length<140737488355328:=by
        have hz:=hw s1.size (by subst q1;simp[DataW.weights,Tryz.underlying52,DataW.weightsEach,e11]);omega
       have hz2:=z2 λk hk=>hw k (by simp[DataW.weights,Tryz.underlying52,DataW.weightsEach,hk]);exact⟨hz0,hs1,hz2.1,hz2.2⟩
theorem ac8 {fuel:Nat}(ih:∀m,m<fuel->Op enc W sp held 44 6 aO.v aO.ok m/\Op enc W sp held 57 17 bm.v bm.ok m):Op enc W sp held 65 8 Fn.v Fn.ok fuel:=by
 intro cs x h;obtain⟨xs,n,rfl,rfl,hl,hlen,hf⟩:=DataW.trod_struct Tryz.underlying65 h;rw[c65]at hl
 match xs,hlen with
 | [y0,y1,y2],_=>
   match cs,hl with
   | [v0,v1,v2,v3,v4,v5,v6,v7],_=>
     have h0:=hf 0 _ rfl;have h1:=hf 1 _ rfl;have h2:=hf 2 _ rfl;simp[c42,c44,c9]at h0 h1 h2;obtain⟨s0,e0,q0,w0⟩:=DataW.trod_string Tryz.underlying9 h0;obtain⟨u1,l1,e1,r1,z1⟩:=kx bk.v bk.ok Tryz.underlying42 c47 (by omega) (of_decide_eq_true (by kernel_rfl)) (λm hm cs x h=>HC m cs x h) h1;obtain⟨t2,g2,r2,z2⟩:=(ih n (by omega)).1 _ _ h2;simp at e0 e1;subst e0 e1;refine⟨(Fn.mk s0.data.toList l1 t2),by rw[Fn.bX];rfl,?_,λhw=> ?_⟩
     . show LR (jB W) (Fn.cs (Fn.mk s0.data.toList l1 t2)) _;rw[Fn.cs];exact(LR.cons (vrs s0) (LR.cons r1 r2))
     . have hr:reachBytes=140737488351232:=rfl;have e10:s0.data.toList.length=s0.size:=by rw[ch];rfl
       have hs0:s0.data.toList.length<140737488355328:=by
        have hz:=hw s0.size (by subst q0;simp[DataW.weights,Tryz.underlying65,DataW.weightsEach,e10]);omega
       have hz1:=z1 λk hk=>hw k (by simp[DataW.weights,Tryz.underlying65,DataW.weightsEach,hk]);have hz2:=z2 λk hk=>hw k (by simp[DataW.weights,Tryz.underlying65,DataW.weightsEach,hk]);rw[Fn.br];exact⟨hs0,hz1,hz2⟩
theorem Vd {fuel:Nat}(ih:∀m,m<fuel->Op enc W sp held 44 6 aO.v aO.ok m/\Op enc W sp held 57 17 bm.v bm.ok m):Op enc W sp held 44 6 aO.v aO.ok fuel:=by
 intro cs x h;obtain⟨xs,n,rfl,rfl,hl,hlen,hf⟩:=DataW.trod_struct Tryz.underlying44 h;rw[c44]at hl
 match xs,hlen with
 | [y0,y1,y2,y3,y4,y5],_=>
   match cs,hl with
   | [v0,v1,v2,v3,v4,v5],_=>
     have h0:=hf 0 _ rfl;have h1:=hf 1 _ rfl;have h2:=hf 2 _ rfl;have h3:=hf 3 _ rfl;have h4:=hf 4 _ rfl;have h5:=hf 5 _ rfl;simp[c2,c24,c3,c41,c42,c9]at h0 h1 h2 h3 h4 h5;obtain⟨n0,e0,q0,w0⟩:=DataW.trod_int Tryz.underlying3 h0;obtain⟨n1,e1,q1,w1⟩:=DataW.trod_int Tryz.underlying2 h1;obtain⟨s2,e2,q2,w2⟩:=DataW.trod_string Tryz.underlying9 h2;obtain⟨u3,l3,e3,r3,z3⟩:=kx aO.v aO.ok Tryz.underlying41 c44 (by omega) (of_decide_eq_true (by kernel_rfl)) (λm hm cs x h=>(ih m (by omega)).1 cs x h) h3;obtain⟨u4,l4,e4,r4,z4⟩:=kx bk.v bk.ok Tryz.underlying42 c47 (by omega) (of_decide_eq_true (by kernel_rfl)) (λm hm cs x h=>HC m cs x h) h4;obtain⟨u5,l5,e5,r5,z5⟩:=kx bm.v bm.ok Tryz.underlying24 c57 (by omega) (of_decide_eq_true (by kernel_rfl)) (λm hm cs x h=>(ih m (by omega)).2 cs x h) h5;simp at e0 e1 e2 e3 e4 e5;subst e0 e1 e2 e3 e4 e5;refine⟨(aO.mk n0 n1 s2.data.toList l3 l4 l5),by rw[aO.bX];rfl,?_,λhw=> ?_⟩
     . show LR (jB W) (aO.cs (aO.mk n0 n1 s2.data.toList l3 l4 l5)) _;rw[aO.cs,Fb,Fc];exact(LR.cons (.flat _ rfl) (LR.cons (.flat _ rfl) (LR.cons (vrs s2) (LR.cons r3 (LR.cons r4 (LR.cons r5 .nil))))))
     . have hr:reachBytes=140737488351232:=rfl;have e12:s2.data.toList.length=s2.size:=by rw[ch];rfl
       have hs2:s2.data.toList.length<140737488355328:=by
        have hz:=hw s2.size (by subst q0 q1 q2;simp[DataW.weights,Tryz.underlying44,DataW.weightsEach,e12]);omega
       have hz3:=z3 λk hk=>hw k (by simp[DataW.weights,Tryz.underlying44,DataW.weightsEach,hk]);have hz4:=z4 λk hk=>hw k (by simp[DataW.weights,Tryz.underlying44,DataW.weightsEach,hk]);have hz5:=z5 λk hk=>hw k (by simp[DataW.weights,Tryz.underlying44,DataW.weightsEach,hk]);rw[aO.br];exact⟨Xx w1,hs2,hz3,hz4,hz5.1,hz5.2⟩
theorem Ve {fuel:Nat}(ih:∀m,m<fuel->Op enc W sp held 44 6 aO.v aO.ok m/\Op enc W sp held 57 17 bm.v bm.ok m):Op enc W sp held 57 17 bm.v bm.ok fuel:=by
 intro cs x h;obtain⟨xs,n,rfl,rfl,hl,hlen,hf⟩:=DataW.trod_struct Tryz.underlying57 h;rw[c57]at hl
 match xs,hlen with
 | [y0,y1,y2,y3,y4,y5],_=>
   match cs,hl with
   | [v0,v1,v2,v3,v4,v5,v6,v7,v8,v9,v10,v11,v12,v13,v14,v15,v16],_=>
     have h0:=hf 0 _ rfl;have h1:=hf 1 _ rfl;have h2:=hf 2 _ rfl;have h3:=hf 3 _ rfl;have h4:=hf 4 _ rfl;have h5:=hf 5 _ rfl;simp[c3,c44,c47,c48,c52,c55]at h0 h1 h2 h3 h4 h5;obtain⟨n0,e0,q0,w0⟩:=DataW.trod_int Tryz.underlying3 h0;obtain⟨t1,g1,r1,z1⟩:=HC n _ _ h1;obtain⟨t2,g2,r2,z2⟩:=(ih n (by omega)).1 _ _ h2;obtain⟨u3,l3,e3,r3,z3⟩:=kx Fn.v Fn.ok Tryz.underlying48 c65 (by omega) (of_decide_eq_true (by kernel_rfl)) (λm hm cs x h=>ac8 (λk hk=>ih k (by omega)) cs x h) h3;obtain⟨t4,g4,r4,z4⟩:=Vc n _ _ h4;obtain⟨t5,g5,r5,z5⟩:=Rs n _ _ h5;simp at e0 e3;subst e0 e3;refine⟨(bm.mk n0 t1 t2 l3 t4 t5),by rw[bm.bX];rfl,?_,λhw=> ?_⟩
     . show LR (jB W) (bm.cs (bm.mk n0 t1 t2 l3 t4 t5)) _;rw[bm.cs,Kq];exact(LR.cons (.flat _ rfl) (LR.append r1 (LR.append r2 (LR.cons r3 (LR.append r4 r5)))))
     . have hr:reachBytes=140737488351232:=rfl;have hz1:=z1 λk hk=>hw k (by simp[DataW.weights,Tryz.underlying57,DataW.weightsEach,hk]);have hz2:=z2 λk hk=>hw k (by simp[DataW.weights,Tryz.underlying57,DataW.weightsEach,hk]);have hz3:=z3 λk hk=>hw k (by simp[DataW.weights,Tryz.underlying57,DataW.weightsEach,hk]);have hz4:=z4 λk hk=>hw k (by simp[DataW.weights,Tryz.underlying57,DataW.weightsEach,hk]);have hz5:=z5 λk hk=>hw k (by simp[DataW.weights,Tryz.underlying57,DataW.weightsEach,hk]);rw[bm.br];exact⟨hz1,hz2,hz3,hz4,hz5⟩
theorem Vf (fuel:Nat):Op enc W sp held 44 6 aO.v aO.ok fuel/\Op enc W sp held 57 17 bm.v bm.ok fuel:=iH fuel λn ih=>⟨Vd ih,Ve ih⟩
theorem MD {A:Option Addr}{ln cp:Nat}{d:DataW H}{ps:List MemPlace}(h:DataW.Trod enc P W 0 sp held 24 (.slice A ln cp) d ps):∃l:List bm,VR (jB W) (cb l) (.slice A ln cp)/\(Wt 24 d->l.length<ei/\∀a,a∈l->a.ok):=by
 obtain⟨fuel,hf⟩:=h;obtain⟨u,l,e,r,z⟩:=kx bm.v bm.ok Tryz.underlying24 c57 (by omega) (of_decide_eq_true (by kernel_rfl)) (λm _ cs x h=>(Vf m).2 cs x h) hf;have e':[Value.slice A ln cp]=[u]:=e;cases e';exact⟨l,r,z⟩
end
section
variable {W:World}
theorem HD {r:Option Rt}(h:isTrue r=true):∃H nx,r=some ⟨.ret (.bool true),false,H,nx⟩:=by
 unfold isTrue at h;split at h
 . exact⟨_,_,rfl⟩
 . cases h
theorem Ru (w:World):EA P w (λ_ _=>none):=λf args v h=>by cases h
theorem nb:P.globals.size=4:=by kernel_rfl
structure u_ (w:World):Prop where
 size:P.globals.size<=w.heap.size
 Dh:∀x,x∈lD->x.1<P.globals.size/\∃c el fz,w.heap[x.1]? = some (.cells c el fz)/\x.2.length<=c.size/\∀(i:Nat) (v v':Value),x.2[i]? = some v->c[i]? = some v'->VR (jB w) v v'
theorem Vg {w w':World}(hb:Below w.heap.size w w'):(jB w).le (jB w'):=λk e h=>by
 obtain⟨h1,rfl⟩:=oY h;have:oX w' k=oX w k:=by
  unfold oX;rw[hb.block k h1]
 rw[C4 (eh h1 hb.size),this]
theorem u_.below {w:World}(h:u_ W)(hb:Below W.heap.size W w):u_ w where
 size:=ga h.size hb.size
 Dh:=λx hx=>by
  obtain⟨h0,c,el,fz,h1,h2,h3⟩:=h.Dh x hx;exact⟨h0,c,el,fz,by rw[hb.block _ (eh h0 h.size)];exact h1,h2,λi v v' a b=>(h3 i v v' a b).mono (Vg hb)⟩
theorem ac9 {w:World}(ht:u_ w):HR P w (jB w) (hp (qM lD .leaf)) w:=by
 have inv:∀k ob,hp (qM lD .leaf) k=some ob->∃x∈lD,x.1=k/\ob= .ro x.2.length (iQ x.2 0 .leaf):=λk ob h=>by
  rcases yR lD .leaf k ob h with h | h
  . exact h
  . rw[nM]at h;cases h
 have hW:=aeK (P:=P) ht.size;exact {
  below:= .refl _ _
  uJ:=λk ob h=>by
   obtain⟨x,hx,rfl,_⟩:=inv k ob h;rw[uV];exact eh (ht.Dh x hx).1 ht.size
  tu:=hW.tu
  inj:=λk k' ob ob' e e' _ _ h _ hl=>by
   obtain⟨x,hx,rfl,rfl⟩:=inv k ob h;cases hl
  obj:=λk ob e h he=>by
   obtain⟨x,hx,rfl,rfl⟩:=inv k ob h;obtain⟨h0,c,el,fz,h1,h2,h3⟩:=ht.Dh x hx;obtain⟨h4,rfl⟩:=oY he;refine .inl ⟨h4,c,el,fz,h1,h2,λi hi v hv=> ?_⟩;rw[gz,if_pos (by omega),iu]at hv;have hlt:i<c.size:=by omega
   exact⟨c[i],cE hlt,h3 i v _ hv (cE hlt)⟩
  gl:=hW.gl
  qH:=hW.qH
  xJ:=λk k' e e' c ob _ _ _ h hl=>by
   obtain⟨x,hx,rfl,rfl⟩:=inv k' ob h;cases hl }
theorem ME {n:Nat}(hn:4<=n):g_ n (qM lD .leaf):=by
 refine⟨hn,λx hx=> ?_⟩;have key:∀(l:List Value) (i:Nat),i<l.length->(iQ l 0 (.leaf:T Value)).get (Ev.bits i)=l[i]? := λl i hi=>by
  rw[gz,if_pos (by omega),iu]
 have e:∀(b:Nat),(qM lD .leaf).get (Ev.bits b)=if b=3 then some (.ro (fh.map aK).length (iQ (fh.map aK) 0 .leaf))else if b=2 then some (.ro (bx.map lvl).length (iQ (bx.map lvl) 0 .leaf))else if b=1 then some (.ro (kj.map aK).length (iQ (kj.map aK) 0 .leaf))else if b=0 then some (.ro (bB.map aK).length (iQ (bB.map aK) 0 .leaf))else none:=λb=>by
  show(Ev.set (Ev.set (Ev.set (Ev.set (.leaf:T OB) (Ev.bits 0) _) (Ev.bits 1) _) (Ev.bits 2) _) (Ev.bits 3) _).get (Ev.bits b)=_;rw[Ev.get_at,Ev.get_at,Ev.get_at,Ev.get_at];have:(T.leaf:T OB).get (Ev.bits b)=none:=nM b;rw[this]
 simp only[lD,aG,cO,or_false]at hx;rcases hx with rfl | rfl | rfl | rfl
 . exact⟨_,by rw[e];rfl,key _⟩
 . exact⟨_,by rw[e];rfl,key _⟩
 . exact⟨_,by rw[e];rfl,key _⟩
 . exact⟨_,by rw[e];rfl,key _⟩
theorem Vh {w:World}{l:List (List UInt8)}{v':Value}(hl:l≠[])(h:VR (jB w) (lvl l) v'):∃k,k<w.heap.size/\∀(φ:fq) (j:Nat),φ[j]? = some (some ⟨k,0,0,oX w k⟩)->VR φ (lvl l) v':=by
 obtain⟨a0,r0,rfl⟩:∃a r,l=a::r:=by
  cases l with
  | nil=>exact absurd rfl hl
  | cons a r=>exact⟨a,r,rfl⟩
 have hl':(a0::r0).map aK≠[]:=by simp
 have key:∀x,x=lvl (a0::r0)->VR (jB w) x v'->∃k,k<w.heap.size/\∀(φ:fq) (j:Nat),φ[j]? = some (some ⟨k,0,0,oX w k⟩)->VR φ (lvl (a0::r0)) v':=by
  intro x hx h;cases h with
  | flat v h=>subst hx;cases h
  | xG s=>injection hx with _ h1 _;injection h1 with h1;exact absurd h1.symm hl'
  | xH s a c=>injection hx with _ h1 _;injection h1 with h1;exact absurd h1.symm hl'
  | row h1 hf hs hn hc hx'=>
    injection hx with h2 h3 _
    injection h2 with h2
    injection h3 with h3
    subst h2 h3;obtain⟨hk,rfl⟩:=oY h1;refine⟨_,hk,λφ j hj=>VR.row (o:=_) hj hf hs hn hc λi j x v v' a b c=> ?_⟩;have h4:=hx' i j x v v' a b c;obtain⟨s,_,rfl⟩:=bo.1 (ak a);have hfl:Ev.flat v=true:=by
     have:v∈[aK s]:=ak b;rw[aP.1 this];rfl
    rw[h4.aR hfl];exact .flat _ hfl
  | ep h1 hf hn hx'=>
    injection hx with _ _ h3
    injection h3 with h3
    injection h3 with h3
    cases h3
  | _=>cases hx
 exact key _ rfl h
def zT (w:World)(f:Nat->Nat):fq:=(fB 11).map λk=>if k<4 then some ⟨k,0,0,none⟩else some ⟨f k,0,0,oX w (f k)⟩
theorem va (w:World)(f:Nat->Nat):(zT w f).length=11:=by simp[zT]
theorem zu {w:World}{f:Nat->Nat}{k:Nat}{e:lh}(h:(zT w f)[k]? = some (some e)):k<11/\((k<4/\e=⟨k,0,0,none⟩)\/(4<=k/\e=⟨f k,0,0,oX w (f k)⟩)):=by
 unfold zT at h;rw[bS]at h
 by_cases hk:k<11
 . rw[gX hk]at h;simp only[dH,Option.some.injEq]at h;refine⟨hk,?_⟩
   by_cases h4:k<4
   . rw[if_pos h4]at h;exact .inl ⟨h4,(Option.some.inj h).symm⟩
   . rw[if_neg h4]at h;exact .inr ⟨by omega,(Option.some.inj h).symm⟩
 . rw[bt (by simp;omega)]at h;cases h
theorem Vi {w:World}{f:Nat->Nat}{k:Nat}(h:k<4):(zT w f)[k]? = some (some ⟨k,0,0,none⟩):=by
 unfold zT;rw[bS,gX (by omega)];simp[h]
theorem Vj {w:World}{f:Nat->Nat}{k:Nat}(h:4<=k)(h':k<11):(zT w f)[k]? = some (some ⟨f k,0,0,oX w (f k)⟩):=by
 unfold zT;rw[bS,gX h'];simp only[dH];rw[if_neg (by omega)]
theorem ada {w:World}{k:Nat}{c:Array Value}(h:oX w k=some c):∃el fz,w.heap[k]? = some (.cells c el fz):=by
 unfold oX at h;split at h
 . rename_i c' el fz hc;cases h;exact⟨el,fz,hc⟩
 . cases h
theorem afi {w:World}(ht:u_ w):∃f,HR P w (zT w f) (hp (qM lD .leaf)) w:=by
 obtain⟨_,c2,el2,fz2,hc2,hs2,hv2⟩:=ht.Dh (2,bx.map lvl) (by simp[lD]);have hlen:(bx.map lvl).length=7:=rfl;have hex:∀i:Fin 7,∃k,k<w.heap.size/\∀(φ:fq) (j:Nat),φ[j]? = some (some ⟨k,0,0,oX w k⟩)->∀v v',(bx.map lvl)[i.val]? = some v->c2[i.val]? = some v'->VR φ v v':=by
  intro i;have hi:i.val<bx.length:=i.isLt;have h1:(bx.map lvl)[i.val]? = some (lvl bx[i.val]):=by rw[bS,au hi];rfl
  have hlt:i.val<c2.size:=by have:=i.isLt;simp only[hlen]at hs2;omega
  have h2:c2[i.val]? = some c2[i.val]:=cE hlt;have hne:bx[i.val]≠[]:=by
   have:∀x∈bx,x≠[]:=by decide
   exact this _ (hU _)
  obtain⟨k,hk,hφ⟩:=Vh hne (hv2 i.val _ _ h1 h2);refine⟨k,hk,λφ j hj v v' a b=> ?_⟩;rw[h1]at a;rw[h2]at b;cases a;cases b;exact hφ φ j hj
 obtain⟨A,hA⟩:=Classical.axiomOfChoice hex;refine⟨λk=>A ⟨(k-4)%7,dV _ (by omega)⟩,?_⟩;have inv:∀k ob,hp (qM lD .leaf) k=some ob->∃x∈lD,x.1=k/\ob= .ro x.2.length (iQ x.2 0 .leaf):=λk ob h=>by
  rcases yR lD .leaf k ob h with h | h
  . exact h
  . rw[nM]at h;cases h
 have hg:=ht.size;rw[nb]at hg;have h4:∀x,x∈lD->x.1<4:=λx hx=>by have:=(ht.Dh x hx).1;rw[nb]at this;exact this
 exact {
  below:= .refl _ _
  uJ:=λk ob h=>by
   obtain⟨x,hx,rfl,_⟩:=inv k ob h;rw[va];exact Nat.lt_trans (h4 x hx) (by omega)
  tu:=λk e h=>by
   obtain⟨h1,⟨h2,rfl⟩ | ⟨h2,rfl⟩⟩:=zu h
   . exact eh h2 hg
   . exact(hA _).1
  inj:=λk k' ob ob' e e' _ _ h _ hl=>by
   obtain⟨x,hx,rfl,rfl⟩:=inv k ob h;cases hl
  obj:=λk ob e h he=>by
   obtain⟨x,hx,rfl,rfl⟩:=inv k ob h;obtain⟨h0,c,el,fz,h1,h2,h3⟩:=ht.Dh x hx;obtain⟨_,⟨h5,rfl⟩ | ⟨h5,rfl⟩⟩:=zu he
   . refine .inl ⟨eh h5 hg,c,el,fz,h1,h2,λi hi v hv=> ?_⟩;rw[gz,if_pos (by omega),iu]at hv;have hlt:i<c.size:=by omega
     have hci:c[i]? = some c[i]:=cE hlt;refine⟨c[i],hci,?_⟩;have h6:=h3 i v _ hv hci;have flatK:∀l:List (List UInt8),x.2=l.map aK->VR (zT w λk=>A ⟨(k-4)%7,dV _ (by omega)⟩) v c[i]:=λl hl=>by
      have hfl:Ev.flat v=true:=by
       rw[hl]at hv;obtain⟨s,_,rfl⟩:=bo.1 (ak hv);rfl
      rw[h6.aR hfl];exact .flat _ hfl
     simp only[lD,aG,cO,or_false]at hx;rcases hx with rfl | rfl | rfl | rfl
     . exact flatK _ rfl
     . exact flatK _ rfl
     . have hcc:c=c2:=by
        have:=h1.symm.trans hc2;injection this with this
        injection this
       subst hcc;have hi7:i<7:=hi;refine(hA ⟨i,hi7⟩).2 _ (4+i) ?_ v _ hv hci;rw[Vj (by omega) (by omega)];have:(4+i-4)%7=i:=by omega
       simp only[this]
     . exact flatK _ rfl
   . exact absurd (h4 x hx) (by omega)
  gl:=λk hk=>⟨_,Vi (by rw[nb]at hk;exact hk),rfl⟩
  qH:=λk e c h hf=>by
   obtain⟨_,⟨h5,rfl⟩ | ⟨h5,rfl⟩⟩:=zu h
   . cases hf
   . exact ada hf
  xJ:=λk k' e e' c ob _ _ _ h hl=>by
   obtain⟨x,hx,rfl,rfl⟩:=inv k' ob h;cases hl }
theorem afj (hT:u_ W):EA P W X0:=by
 intro f args v h;have hf:f=11/\args=[]/\v= .bool true:=by
  have h':(bif ay f 11 then(match args with | []=>some (Value.bool true) | _=>none)else none)=some v:=h;cases hb:ay f 11 with
  | true=>
    rw[hb]at h';cases args with
    | nil=>exact⟨Nat.eq_of_beq_eq_true hb,rfl,(Option.some.inj h').symm⟩
    | cons a l=>cases h'
  | false=>
    rw[hb]at h';cases h'
 obtain⟨rfl,rfl,rfl⟩:=hf;refine⟨λx hx=>(nomatch hx),rfl,λw hb=> ?_⟩;have hw:=hT.below hb;have hk:=MC;rw[Kl]at hk;obtain⟨H',nx',hr⟩:=HD hk;obtain⟨f,hf⟩:=afi hw;refine(yk (pl:=pl0) (Ru w) hf (va _ _) .nil rfl (adC hr)).mono λe w' ⟨he,hb'⟩=>⟨he,hb'⟩
theorem FQ {fuel:Nat}{cs:List Value}{l:List (List UInt8)}{p:List MemPlace}(h:DataW.trod (λ_=>()) P W 0 (λ_=>true) false fuel 49 cs=some (.slice (l.map λs=> .lit (.string s)) [],p)):∃v,cs=[v]/\VR (jB W) (lvl l) v:=by
 obtain⟨a,cap,rfl,hcap,hel⟩:=open_row Tryz.underlying49 c9 h;refine⟨_,rfl,?_⟩;rw[aa]at hcap ⊢;refine OY (by simp) (λx hx=> ?_) (by omega) hcap (λi x hx=> ?_)
 . obtain⟨s,_,rfl⟩:=bo.1 hx;rfl
 . rw[bS]at hx;cases hs:l[i]? with
   | none=>rw[hs]at hx;cases hx
   | some s=>
     rw[hs]at hx;cases hx;obtain⟨v,n,q,h1,h2⟩:=hel i (.lit (.string s)) (by rw[bS,hs];rfl);obtain⟨z,hz,hq,_⟩:=DataW.trod_string Tryz.underlying9 h2;cases hz;have e:s=z.data.toList:=by
      have:=congrArg Prod.fst hq;simpa using this
     subst e;refine⟨[.string z],?_,?_⟩
     . unfold World.cells?;rw[if_pos (aN _)];have e0:(a.add (i*1)).add 0=a.add i:=by simp[Addr.add]
       simp only[List.range_succ,List.range_zero,cj,List.mapM_cons,List.mapM_nil,e0,h1];rfl
     . exact .cons (vrs z) .nil
abbrev bas (l:List (List UInt8)):List ByteArray:=l.map λs=>⟨⟨s⟩⟩
theorem Vk (l:List (List UInt8)):(bas l).map Value.string=l.map aK:=by rw[dC];rfl
theorem DJ {c:Array Value}{l:List (List UInt8)}(h:c.toList=(bas l).map Value.string):(l.map aK).length<=c.size/\∀(i:Nat) (v v':Value),(l.map aK)[i]? = some v->c[i]? = some v'->VR (jB W) v v':=by
 rw[Vk]at h;refine⟨by rw[<- h,ch];exact ax _,λi v v' a b=> ?_⟩;have:c.toList[i]? = some v':=by rw[<- b];simp
 rw[h,a]at this;cases this;obtain⟨s,_,rfl⟩:=bo.1 (ak a);exact .flat _ rfl
theorem MF {rest:List (String×DataW Unit)}(h:laidMet P (("kindling/syntax.levels",Rows.laid_kindling_syntax_levels)::rest) W):∃c el fz,W.heap[2]? = some (.cells c el fz)/\(bx.map lvl).length<=c.size/\∀(i:Nat) (v v':Value),(bx.map lvl)[i]? = some v->c[i]? = some v'->VR (jB W) v v':=by
 obtain⟨ps,⟨g',t',cs,fuel,p,q,hg',ht',hvar,hd,_,_⟩,_⟩:=h;obtain rfl:g'=2:=(Option.some.inj ((show P.globalNamed "kindling/syntax.levels" = some 2 by kernel_rfl).symm.trans hg')).symm
 obtain rfl:t'=182:=(Option.some.inj ((show(P.globals[2]?).map (·.type)=some 182 by kernel_rfl).symm.trans ht')).symm;unfold World.var? at hvar;rw[show P.globalNamed "kindling/syntax.levels" = some 2 by kernel_rfl]at hvar
 simp only[ba]at hvar;split at hvar
 . rename_i c el fz hb;cases hvar;obtain⟨xs,n,rfl,hx,hl,hlen,hf⟩:=DataW.trod_array Tryz.underlying182 hd;have hcs:P.cellsOf 182=7:=by kernel_rfl
   have hc49:P.cellsOf 49=1:=by kernel_rfl
   rw[hcs]at hl;rw[ch]at hl;refine⟨_,_,_,hb,by show 7<=_;omega,λi v v' a b=> ?_⟩;have hi:i<7:=by
    have:=(ar.1 a).1;exact this
   have h1:=hf i hi;have hc49':Program.cellsOf Tryz.prog 49=1:=hc49;rw[hc49',jk,au (by omega)]at h1;have hxs:xs.map (·.1)=bx.map λl=>(DataW.slice (l.map λs=> .lit (.string s)) []:DataW Unit):=by
    have h2:Rows.laid_kindling_syntax_levels=DataW.agg (xs.map (·.1)):=congrArg Prod.fst hx;exact(DataW.agg.inj h2).symm
   obtain⟨l,hl1,hl2⟩:∃l,bx[i]? = some l/\v=lvl l:=by
    rw[bS]at a;cases hq:bx[i]? with
    | none=>rw[hq]at a;cases a
    | some l=>rw[hq]at a;cases a;exact⟨l,rfl,rfl⟩
   have h3:(xs[i]'(by omega)).1=DataW.slice (l.map λs=> .lit (.string s)) []:=by
    have h4:(xs.map (·.1))[i]? = some ((xs[i]'(by omega)).1):=by rw[bS,au (by omega)];rfl
    rw[hxs,bS,hl1]at h4;exact(Option.some.inj h4).symm
   have h5:(cs.toList.drop i).take 1=[v']:=by
    have h6:cs.toList[i]? = some v':=by rw[<- b];simp
    have h7:i<cs.toList.length:=(ar.1 h6).1;rw[dA h7];rw[au h7]at h6;rw[Option.some.inj h6];rfl
   rw[h5]at h1;have h8:DataW.trod (λ_=>()) P W 0 (λ_=>true) false n 49 [v']=some (.slice (l.map λs=> .lit (.string s)) [],(xs[i]'(by omega)).2):=by
    rw[<- h3];exact h1
   obtain⟨v2,e2,h9⟩:=FQ h8;cases e2;rw[hl2];exact h9
 . cases hvar
theorem Vl (hL:laidMet P [("kindling/lex.keys",Rows.laid_kindling_lex_keys),("kindling/lex.signs",Rows.laid_kindling_lex_signs),("kindling/syntax.levels",Rows.laid_kindling_syntax_levels),("kindling/syntax.words",Rows.laid_kindling_syntax_words)] W)(hsh:W.ShapedOpen P):u_ W:=by
 refine⟨Ev.GQ hsh (of_decide_eq_true (by kernel_rfl)),λx hx=> ?_⟩;rw[nb];simp only[lD,aG,cO,or_false]at hx;have hk:laidMet P (("kindling/lex.keys",Ev.qg (bas kj))::[("kindling/lex.signs",Ev.qg (bas bB)),("kindling/syntax.levels",Rows.laid_kindling_syntax_levels),("kindling/syntax.words",Ev.qg (bas fh))]) W:=hL
 rcases hx with rfl | rfl | rfl | rfl
 . obtain⟨c,el,fz,h1,h2⟩:=Ev.oZ (g:=0) (by kernel_rfl) (by kernel_rfl) Tryz.underlying99 Tryz.underlying9 (by kernel_rfl) (by kernel_rfl) hk.tail;exact⟨by show 0<4;omega,c,el,fz,h1,DJ h2⟩
 . obtain⟨c,el,fz,h1,h2⟩:=Ev.oZ (g:=1) (by kernel_rfl) (by kernel_rfl) Tryz.underlying144 Tryz.underlying9 (by kernel_rfl) (by kernel_rfl) hk;exact⟨by show 1<4;omega,c,el,fz,h1,DJ h2⟩
 . obtain⟨c,el,fz,h1,h2⟩:=MF hk.tail.tail;exact⟨by show 2<4;omega,c,el,fz,h1,h2⟩
 . obtain⟨c,el,fz,h1,h2⟩:=Ev.oZ (g:=3) (by kernel_rfl) (by kernel_rfl) Tryz.underlying188 Tryz.underlying9 (by kernel_rfl) (by kernel_rfl) hk.tail.tail.tail;exact⟨by show 3<4;omega,c,el,fz,h1,DJ h2⟩
theorem aas (hT:u_ W){f:FuncId}{args args':List Value}(hp:PT f args (.bool true))(hv:LR (jB W) args args'):
 Calls P f args'.toArray W λe w'=>e= .returned (.bool true)/\Below W.heap.size W w':=by
 have hs:=hT.size;rw[nb]at hs;obtain⟨H',nx',_,h⟩:=hp (qM lD .leaf) W.heap.size (ME hs);exact yk (afj hT) (ac9 hT) (uV W) hv rfl h
end
end
end Go.Proofs.YthjhonhhbddhkaaGreatDoor
namespace Go.Proofs.YthjhonhhbddhkaaGreatDoor
open Go.Ev Go.RowKit
noncomputable section
set_option maxRecDepth 100000
set_option linter.unusedVariables false
set_option linter.unusedSimpArgs false
set_option maxHeartbeats 8000000
section
variable {nx0 nx nx' bp k:Nat}{H0 H H':T OB}{L:List Tok}
theorem Vm (l:List bm)(v:Value)(hv:DV l v)(hl:l.length<ei)(hok:∀d,d∈l->d.ok):P0 14 [v,cb l] (.bool true):=by
 have h:=WY l l hl hok (λd hd v hv q=>(wS.2 d (hok d hd)).1 q v hv) (λd hd f hf q=>(wS.2 d (hok d hd)).2 f hf q _ f.b.vv);have e:fo l l=true:=by simp[fo]
 rw[e]at h;rcases hv with rfl | ⟨rfl,rfl⟩
 . exact h
 . intro H nx;obtain⟨H1,aI,h1,h2⟩:=h H nx;refine⟨H1,aI,h1,?_⟩;rw[<- h2,tS,tS];have e1:aX P pl (.call 14 [a_,cb []] false none H nx)=aX P pl (.call 14 [cb [],cb []] false none H nx):=by
    rw[q14,q14,yX];rfl
   rw[e1];rfl
end
def kz:Nat->List UInt8->Option Nat
 | _,[]=>none
 | _,[_]=>none
 | d,c::e::r=>
   if c=40/\e=42 then(kz (d+1) r).map (· + 2)
   else if c=42/\e=41 then(if d<=1 then some 2 else(kz (d-1) r).map (· + 2))
   else(kz d (e::r)).map (· + 1)
def ws (c:UInt8):Bool:=c == 9||c == 10||c == 13||c == 32
theorem uC:∀(d:Nat) (l:List UInt8) (n:Nat),kz d l=some n->2<=n/\n<=l.length
 | _,[],n,h=>by simp[kz]at h
 | _,[_],n,h=>by simp[kz]at h
 | d,c::e::r,n,h=>by
   rw[kz]at h;split at h
   . obtain⟨m,hm,rfl⟩:=bO.1 h;have:=uC _ r m hm;simp;omega
   . split at h
     . split at h
       . simp at h;subst h;simp
       . obtain⟨m,hm,rfl⟩:=bO.1 h;have:=uC _ r m hm;simp;omega
     . obtain⟨m,hm,rfl⟩:=bO.1 h;have:=uC _ (e::r) m hm;simp at this ⊢;omega
theorem pn:∀(l:List UInt8) (d:Nat),kz (d+2) l=(kz 1 l).bind λn=>(kz (d+1) (l.drop n)).map (n+ ·)
 | [],d=>by simp[kz]
 | [_],d=>by simp[kz]
 | c::e::r,d=>by
   have h1:kz (d+2) (c::e::r)=if c=40/\e=42 then(kz (d+2+1) r).map (· + 2)
    else if c=42/\e=41 then(if d+2<=1 then some 2 else(kz (d+2-1) r).map (· + 2))else(kz (d+2) (e::r)).map (· + 1):=by rw[kz]
   have h2:kz 1 (c::e::r)=if c=40/\e=42 then(kz (1+1) r).map (· + 2)
    else if c=42/\e=41 then(if 1<=1 then some 2 else(kz (1-1) r).map (· + 2))else(kz 1 (e::r)).map (· + 1):=by rw[kz]
   rw[h1,h2]
   by_cases a:c=40/\e=42
   . rw[if_pos a,if_pos a,show d+2+1=(d+1)+2 from rfl,pn r (d+1),show 1+1=0+2 from rfl,pn r 0];cases h:kz 1 r with
     | none=>simp
     | some n=>
       simp only[ba,bN];rw[pn (r.drop n) d];cases h3:kz 1 (r.drop n)with
       | none=>simp
       | some m=>
         simp only[ba,dH,Option.map_map,cH];rw[show(c::e::r).drop (n+m+2)=r.drop (n+m)by simp];cases kz (d+1) (r.drop (n+m))<;>simp
         omega
   . rw[if_neg a,if_neg a]
     by_cases b:c=42/\e=41
     . rw[if_pos b,if_pos b,if_neg (by omega),if_pos (by omega)];simp only[ba];rw[show(c::e::r).drop 2=r from rfl,show d+2-1=d+1 from rfl];cases kz (d+1) r<;>simp
       omega
     . rw[if_neg b,if_neg b,pn (e::r) d];cases h:kz 1 (e::r)with
       | none=>simp
       | some n=>
         simp only[ba,dH,Option.map_map];rw[show(c::e::r).drop (n+1)=(e::r).drop n by simp];cases kz (d+1) ((e::r).drop n)<;>simp
         omega
termination_by l=>l.length
decreasing_by all_goals (simp;try omega)
def gr:List UInt8->Nat×Bool
 | []=>(0,true)
 | [c]=>if ws c then(1,true)else(0,true)
 | c::e::r=>
   if ws c then((gr (e::r)).1+1,(gr (e::r)).2)
   else if c=40/\e=42 then
    match kz 1 r with
    | none=>(0,false)
    | some n=>((gr (r.drop n)).1+(n+2),(gr (r.drop n)).2)
   else(0,true)
termination_by l=>l.length
decreasing_by all_goals (simp;try omega)
theorem DK:∀(l:List UInt8),(gr l).1<=l.length
 | []=>by simp[gr]
 | [c]=>by rw[gr];split<;>simp
 | c::e::r=>by
   rw[gr];split
   . have:=DK (e::r);simp at this ⊢;omega
   . split
     . cases h:kz 1 r with
       | none=>simp
       | some n=>
         have h1:=uC 1 r n h;have h2:=DK (r.drop n);rw[aD]at h2;simp;omega
     . simp
termination_by l=>l.length
decreasing_by all_goals (simp;try omega)
theorem HE {c:UInt8}{r:List UInt8}(h:ws c=true):gr (c::r)=((gr r).1+1,(gr r).2):=by
 cases r with
 | nil=>simp[gr,h]
 | cons e r=>rw[gr,if_pos h]
theorem FT (r:List UInt8):gr (40::42::r)=match kz 1 r with
 | none=>(0,false)
 | some n=>((gr (r.drop n)).1+(n+2),(gr (r.drop n)).2):=by
 rw[gr,if_neg (by decide),if_pos ⟨rfl,rfl⟩]
theorem zv {c:UInt8}{r:List UInt8}(h:¬ws c=true)(h2:¬(c=40/\r.head? = some 42)):gr (c::r)=(0,true):=by
 cases r with
 | nil=>rw[gr,if_neg h]
 | cons e r=>rw[gr,if_neg h,if_neg (by simpa using h2)]
theorem FU (d:Nat)(r:List UInt8):kz d (40::42::r)=(kz (d+1) r).map (· + 2):=by
 rw[kz,if_pos ⟨rfl,rfl⟩]
theorem AZ (d:Nat)(r:List UInt8):kz d (42::41::r)=if d<=1 then some 2 else(kz (d-1) r).map (· + 2):=by
 rw[kz,if_neg (by decide),if_pos ⟨rfl,rfl⟩]
theorem A0 {d:Nat}{c:UInt8}{r:List UInt8}(h:¬(c=40/\r.head? = some 42))(h2:¬(c=42/\r.head? = some 41)):kz d (c::r)=(kz d r).map (· + 1):=by
 cases r with
 | nil=>simp[kz]
 | cons e r=>rw[kz,if_neg (by simpa using h),if_neg (by simpa using h2)]
theorem tp {r:List UInt8}{e:UInt8}(h:r.head? = some e):∃t,r=e::t:=by
 cases r with
 | nil=>simp at h
 | cons x t=>simp at h;exact⟨t,by rw[h]⟩
section
variable {nx0:Nat}{H0:T OB}
theorem DL (c:UInt8):P0 174 [b8 c] (i64 (eR c)):=Pure.of rfl λH nx=>by
 rw[aex];refine Wq.call (Kn c) (.refl _ _) λH1 aI hA1=> ?_;have hc:=c.toNat_lt;unfold eR;simp only[af];refine Wq.bK (λh=> ?_) (λh=> ?_)
 . rw[if_pos h];have hd:=kO.1 h;rw[show IntKind.u8.wrap ((c.toNat:Int)-48)=(c.toNat:Int)-48 from by rw[wrap_u8];omega];simp only[af,G9];rw[show IntKind.i64.wrap ((c.toNat:Int)-48)=(c.toNat:Int)-48 from aS (by omega)];exact Wq.ret hA1
 rw[if_neg (by rw[h];decide)];have L10:∀b,b=(decide (65<=c.toNat)&&decide (c.toNat<=70))->Wq P pl X0 (.jump (wI (b8 c) b H1 aI)) nx H (i64 (if(decide (65<=c.toNat)&&decide (c.toNat<=70))=true then(c.toNat:Int)-55 else -1)):=by
  intro b hb;refine Wq.jmp (Tk ..) (λ_=>rfl) ?_;rw[<- hb];cases b with
  | true=>
    have h2:65<=c.toNat/\c.toNat<=70:=by simpa using hb.symm
    simp only[af];rw[show IntKind.u8.wrap ((c.toNat:Int)-65)=(c.toNat:Int)-65 from by rw[wrap_u8];omega];simp only[af,G9];rw[show IntKind.i64.wrap ((c.toNat:Int)-65)=(c.toNat:Int)-65 from aS (by omega),show IntKind.i64.wrap ((c.toNat:Int)-65+10)=(c.toNat:Int)-55 from by rw[aS (by omega)];omega];exact Wq.ret hA1
  | false=>exact Wq.ret hA1
 refine Wq.ite (λh2=> ?_) (λh2=>L10 _ (by simp;omega));refine L10 _ ?_;rw[show decide (65<=c.toNat)=true from by simp;omega,ai,decide_eq_decide];omega
abbrev Rv (p:UInt8×Nat):Value:= .tuple ⟨[b8 p.1,i64 ((p.2-1:Nat):Int)]⟩
theorem aat (s:List UInt8)(hl:s.length<ei):P0 145 [aK s] (Rv (ld s)):=Pure.of rfl λH nx=>by
 rw[aeb];have hA:=Ag.refl nx H;have L28f:∀H1 aI,Ag nx H aI H1->ld s=(0,0)->Wq P pl X0 (.jump (sO (aK s) false H1 aI)) nx H (Rv (ld s)):=by
  intro H1 aI hA1 hb;refine Wq.jmp (J9 ..) (λ_=>rfl) ?_;rw[hb];exact Wq.ret hA1
 cases s with
 | nil=>
   simp only[af,aV _ bq,aT,c_];exact Wq.ret hA
 | cons x t=>
   have e0:decide (((x::t).length:Int)=0)=false:=by simp;omega
   have L14:∀b,(b=true↔(x.toNat=34\/x.toNat=92))->Wq P pl X0 (.jump (wj (aK (x::t)) (b8 x) b H nx)) nx H (Rv (ld (x::t))):=by
    intro b hb;refine Wq.jmp (S3 ..) (λ_=>rfl) ?_;cases b with
    | true=>
      simp only[af,TG];have:ld (x::t)=(x,2):=by
       rw[fp];rcases hb.1 rfl with h | h
       . rw[if_pos h,show x=34 from bJ.1 h]
       . rw[if_neg (by omega),if_pos h,show x=92 from bJ.1 h]
      rw[this];exact Wq.ret hA
    | false=>
      have hn:¬(x.toNat=34\/x.toNat=92):=λq=>by have:=hb.2 q;cases this
      simp only[af];refine Wq.ite (λh=> ?_) (λh3=> ?_)
      . rw[show ld (x::t)=(10,2)from by rw[fp];rw[if_neg (by omega),if_neg (by omega),if_pos (by omega)]];exact Wq.ret hA
      refine Wq.ite (λh=> ?_) (λh4=> ?_)
      . rw[show ld (x::t)=(9,2)from by rw[fp];rw[if_neg (by omega),if_neg (by omega),if_neg (by omega),if_pos (by omega)]];exact Wq.ret hA
      have hE:ld (x::t)=if x.toNat=120 then Fh t else(0,0):=by rw[fp];rw[if_neg (by omega),if_neg (by omega),if_neg (by omega),if_neg (by omega)]
      refine Wq.ite (λh5=> ?_) (λh5=> ?_)
      . rw[if_pos (by omega)]at hE;simp only[af,aV _ bq,aT];refine Wq.ite (λh6=> ?_) (λh6=>L28f _ _ hA (by
         rw[hE]
         match t with
         | []=>rfl
         | [_]=>rfl
         | y::z::r=>simp at h6;omega))
        obtain⟨y,z,r,rfl⟩:∃y z r,t=y::z::r:=by
         match t with
         | []=>exact absurd h6 (by simp)
         | [_]=>exact absurd h6 (by simp)
         | y::z::r=>exact⟨y,z,r,rfl⟩
        have hX:Fh (y::z::r)=if 0<=eR y/\0<=eR z then(dh (16*eR y+eR z).toNat,4)else(0,0):=rfl;rw[hX]at hE;simp only[af,ix1,ix2];refine Wq.call (DL y) hA λH2 nx2 hA2=> ?_;simp only[af];refine Wq.ite (λh7=> ?_) (λh7=>L28f _ _ hA2 (by rw[hE,if_neg (by omega)]));refine Wq.call (DL z) hA2 λH3 nx3 hA3=> ?_;simp only[af]
        by_cases h8:0<=eR z
        . rw[decide_eq_true h8];refine Wq.jmp (J9 ..) (λ_=>rfl) ?_;have a1:=wW y;have a2:=wW z;have e1:IntKind.i64.wrap (eR y*16)=eR y*16:=aS (by omega);have e3:IntKind.i64.wrap (eR y*16+eR z)=16*eR y+eR z:=by rw[aS (by omega)];omega
          simp only[af,ix1,ix2];refine Wq.call (DL y) hA3 λH4 nx4 hA4=> ?_;simp only[af];refine Wq.call (DL z) hA4 λH5 nx5 hA5=> ?_;simp only[af,e1,e3,PN,cg];rw[hE,if_pos ⟨h7,h8⟩];have e4:IntKind.u8.wrap (16*eR y+eR z)=((dh (16*eR y+eR z).toNat).toNat:Int):=by
           rw[wrap_u8,gn];omega
          rw[e4];exact Wq.ret hA5
        . rw[decide_eq_false h8];exact L28f _ _ hA3 (by rw[hE,if_neg (by omega)])
      . rw[hE,if_neg (by omega)];exact Wq.ret hA
   simp only[af,aV _ bq,aT,e0,TG];refine Wq.ite (λh=>L14 _ (by simp;omega)) (λh=> ?_);exact L14 _ (by simp;omega)
def RW (n i:Nat)(r:List UInt8):Value:=match js n (r.takeWhile cu)with
 | some m=> .tuple ⟨[i64 (m:Int),i64 ((i+(r.takeWhile cu).length:Nat):Int)]⟩
 | none=> .tuple ⟨[i64 0,i64 0]⟩
theorem Rw (s:List UInt8)(hl:s.length<ei):∀(r:List UInt8) (i n:Nat) (H:T OB) (nx:Nat),s.drop i=r->i<=s.length->n<=4611686018427387903->Ag nx0 H0 nx H->
 Wq P pl X0 (.jump (Cz (aK s) (i64 (n:Int)) (i64 (i:Int)) H nx)) nx0 H0 (RW n i r):=by
 intro r
 induction r with
 | nil=>
   intro i n H nx hd hi h1 hA;have hil:=drop_nil hd hi;refine Wq.jmp (OJ ..) (λ_=>rfl) ?_;simp only[af,aV _ bq,aT,hil,aF];exact Wq.ret hA
 | cons c r ih=>
   intro i n H nx hd hi h1 hA;obtain⟨hg,hlt,hd'⟩:=drop_cons hd;have hin:=bF (P:=P) bq hg .i64;refine Wq.jmp (OJ ..) (λ_=>rfl) ?_;simp only[af,aV _ bq,aT,aJ hlt,hin];refine Wq.call (Kn c) hA λH1 aI hA1=> ?_;cases hdg:cu c with
   | false=>
     have e:RW n i (c::r)= .tuple ⟨[i64 (n:Int),i64 (i:Int)]⟩:=by
      unfold RW;rw[b_,hdg];rfl
     rw[e];simp only[af];exact Wq.ret hA1
   | true=>
     have h9:=KC hdg;have e2:IntKind.i64.wrap (dv c:Int)=(dv c:Int):=aS (by omega);have e4:IntKind.i64.wrap (4611686018427387903-(dv c:Int))=((4611686018427387903-dv c:Nat):Int):=by rw[aS (by omega)];omega
     have e5:IntKind.i64.wrap (((4611686018427387903-dv c:Nat):Int).tdiv 10)=(((4611686018427387903-dv c)/10:Nat):Int):=by
      rw[show((4611686018427387903-dv c:Nat):Int).tdiv 10=(((4611686018427387903-dv c)/10:Nat):Int)from rfl,aS (by omega)]
     simp only[af,G8,dvw hdg,e2,e4,PO,e5];have hN:js n ((c::r).takeWhile cu)=if cu c=true/\n<=(4611686018427387903-dv c)/10 then js (n*10+dv c) (r.takeWhile cu)else none:=by
      rw[b_,hdg,if_pos rfl,js,hdg]
     refine Wq.ite (λh=> ?_) (λh=> ?_)
     . have e:RW n i (c::r)= .tuple ⟨[i64 0,i64 0]⟩:=by
        unfold RW;rw[hN,if_neg (by omega)]
       rw[e];exact Wq.ret hA1
     . have e:RW n i (c::r)=RW (n*10+dv c) (i+1) r:=by
        unfold RW;rw[hN,if_pos ⟨hdg,by omega⟩,b_,hdg];simp only[ao,if_true];rw[show i+((r.takeWhile cu).length+1)=i+1+(r.takeWhile cu).length by omega]
       rw[e];have e1:IntKind.i64.wrap ((n:Int)*10)=((n*10:Nat):Int):=by rw[aS (by omega)];omega
       have e3:IntKind.i64.wrap (((n*10:Nat):Int)+(dv c:Int))=((n*10+dv c:Nat):Int):=by rw[aS (by omega)];omega
       simp only[af,az (show i<9223372036854775807 by have:=cv hl;omega),e1,e3];exact ih (i+1) _ H1 aI hd' (by omega) (by omega) hA1
theorem aau (s:List UInt8)(hl:s.length<ei):P0 100 [aK s] (RW 0 0 s):=Pure.of rfl λH nx=>by
 rw[adG];exact Rw s hl s 0 0 H nx rfl (aN _) (by omega) (.refl _ _)
def qt:Nat->List UInt8->Option (List UInt8×Nat)
 | 0,_=>none
 | _+1,[]=>none
 | f+1,c::r=>if c.toNat=34 then some ([],1)else if(eo (c::r)).2=0 then none else(qt f ((c::r).drop (eo (c::r)).2)).map λq=>((eo (c::r)).1::q.1,(eo (c::r)).2+q.2)
theorem nT (f:Nat)(c:UInt8)(r:List UInt8):qt (f+1) (c::r)=if c.toNat=34 then some ([],1)else if(eo (c::r)).2=0 then none else(qt f ((c::r).drop (eo (c::r)).2)).map λq=>((eo (c::r)).1::q.1,(eo (c::r)).2+q.2):=rfl
theorem DM (f:Nat):qt f []=none:=by cases f<;>rfl
def Vn (acc:List UInt8)(i:Nat):Option (List UInt8×Nat)->Value
 | some q=> .tuple ⟨[aK (acc++q.1),i64 ((i+q.2:Nat):Int)]⟩
 | none=> .tuple ⟨[aK [],i64 0]⟩
theorem Rx (t:List UInt8):(ld t).2=0\/2<=(ld t).2:=by
 cases t with
 | nil=>exact .inl rfl
 | cons x t=>
   rw[fp]
   by_cases h3:x.toNat=34
   . rw[if_pos h3];exact .inr (ax _)
   rw[if_neg h3]
   by_cases h3:x.toNat=92
   . rw[if_pos h3];exact .inr (ax _)
   rw[if_neg h3]
   by_cases h3:x.toNat=110
   . rw[if_pos h3];exact .inr (ax _)
   rw[if_neg h3]
   by_cases h3:x.toNat=116
   . rw[if_pos h3];exact .inr (ax _)
   rw[if_neg h3]
   by_cases h3:x.toNat=120
   . rw[if_pos h3]
     match t with
     | []=>exact .inl rfl
     | [_]=>exact .inl rfl
     | y::z::r=>
       show(if 0<=eR y/\0<=eR z then _ else _:UInt8×Nat).2=0\/2<=(if 0<=eR y/\0<=eR z then _ else _:UInt8×Nat).2
       by_cases h4:0<=eR y/\0<=eR z
       . rw[if_pos h4];exact .inr (by show 2<=4;omega)
       . rw[if_neg h4];exact .inl rfl
   . rw[if_neg h3];exact .inl rfl
theorem Vo (s:List UInt8)(hl:s.length<=1000000):∀(d i:Nat) (r:List UInt8) (sl:Value) (H:T OB) (nx:Nat),s.length-i<=d->1<=i->i<=s.length->r.length<=i->BS 5 nx0 H nx r sl->Ag nx0 H0 nx H->
 Wq P pl X0 (.jump (yL (aK s) sl (i64 (i:Int)) H nx)) nx0 H0 (Vn r i (qt d (s.drop i))):=by
 intro d
 induction d with
 | zero=>
   intro i r sl H nx hd hi hi2 hr hB hA;have hil:i=s.length:=by omega
   refine Wq.jmp (GP ..) (λ_=>rfl) ?_;simp only[af,aV _ bq,aT,hil,aF];exact Wq.ret hA
 | succ d ih=>
   intro i r sl H nx hd hi hi2 hr hB hA;cases hdr:s.drop i with
   | nil=>
     have hil:=drop_nil hdr hi2;refine Wq.jmp (GP ..) (λ_=>rfl) ?_;simp only[af,aV _ bq,aT,hil,aF];exact Wq.ret hA
   | cons c t=>
     obtain⟨hg,hlt,hd'⟩:=drop_cons hdr;have hin:=bF (P:=P) bq hg .i64;have hc:=c.toNat_lt;refine Wq.jmp (GP ..) (λ_=>rfl) ?_;simp only[af,aV _ bq,aT,aJ hlt,hin];rw[nT];refine Wq.ite (λh=> ?_) (λh34=> ?_)
     . rw[if_pos (by omega)];simp only[af,mY dK qN bq C9 hB,az (show i<9223372036854775807 by omega)];exact Wq.ij (by show _=Value.tuple _;rw[bf]) hA
     rw[if_neg (by omega)];have hS:eo (c::t)=if c.toNat<32\/126<c.toNat\/c.toNat=34 then(0,0)else if c.toNat=92 then ld t else(c,1):=rfl;refine Wq.ite (λh92=> ?_) (λh92=> ?_)
     . rw[if_neg (by omega),if_pos (by omega)]at hS;rw[hS];simp only[af,az (show i<9223372036854775807 by omega),gG (show i+1<=s.length by omega),hd'];have htl:t.length=s.length-(i+1):=by rw[<- hd',aD]
       refine Wq.gZ (aat t (by have hbig:ei=1125899906842624:=rfl;omega)) hA λH1 aI hA1 n1 k1=> ?_;have hn:=wX (c::t);rw[hS,ao]at hn;have h2:=Rx t;generalize ld t=p at hn h2 ⊢;obtain⟨e,n⟩:=p;have x0:bH (some (Rv (e,n))) 0=some (b8 e):=rfl;have x1:bH (some (Rv (e,n))) 1=some (i64 ((n-1:Nat):Int)):=rfl;simp only at hn h2;simp only[af,x0,x1];refine Wq.ite (λh=> ?_) (λh=> ?_)
       . rw[if_pos (by omega)];exact Wq.ret hA1
       rw[if_neg (by omega)];have hB':=BS.dZ hB n1 k1;refine Wq.rF (x:=[e]) dK jq ik hB' rfl rfl (Zx e) (λm hm=>j4 (by simp at hm;omega)) hA1 λH2 sl2 nx2 hB2 hA2 _=> ?_;have ew:IntKind.i64.wrap ((i:Int)+((n-1:Nat):Int))=((i+(n-1):Nat):Int):=by rw[aS (by omega)];omega
       simp only[af,ew];refine Wq.jmp (Sy ..) (λ_=>rfl) ?_;simp only[af,az (show i+(n-1)<9223372036854775807 by omega)];rw[show i+(n-1)+1=i+n by omega];have:=ih (i+n) (r++[e]) sl2 H2 nx2 (by omega) (by omega) (by omega) (by simp;omega) hB2 hA2;rw[<- cH,hdr]at this;cases hq:qt d ((c::t).drop n)with
       | none=>rw[hq]at this;exact this
       | some q=>
         rw[hq]at this;have e2:Vn (r++[e]) (i+n) (some q)=Vn r i (some (e::q.1,n+q.2)):=by
          show Value.tuple _=Value.tuple _;rw[bn,iK];rfl
         rw[e2]at this;exact this
     have L34:∀b,(b=true↔(c.toNat<32\/126<c.toNat))->Wq P pl X0 (.jump (vK (aK s) sl (i64 (i:Int)) (b8 c) b H nx)) nx0 H0 (Vn r i (if(eo (c::t)).2=0 then none else(qt d ((c::t).drop (eo (c::t)).2)).map λq=>((eo (c::t)).1::q.1,(eo (c::t)).2+q.2))):=by
      intro b hb;refine Wq.jmp (SA ..) (λ_=>rfl) ?_;cases b with
      | true=>
        have hS0:eo (c::t)=(0,0):=by
         have:=hb.1 rfl;rw[hS,if_pos (by omega)]
        rw[hS0,if_pos rfl];exact Wq.ret hA
      | false=>
        have hn:¬(c.toNat<32\/126<c.toNat):=λq=>by have:=hb.2 q;cases this
        have hS1:eo (c::t)=(c,1):=by rw[hS,if_neg (by omega),if_neg (by omega)]
        rw[hS1,if_neg (show ¬(c,1).2=0 from Nat.one_ne_zero)];simp only[af];refine Wq.rF (x:=[c]) dK jq ik hB rfl rfl (Zx c) (λm hm=>j4 (by simp at hm;omega)) hA λH2 sl2 nx2 hB2 hA2 _=> ?_;simp only[af,az (show i<9223372036854775807 by omega)];have:=ih (i+1) (r++[c]) sl2 H2 nx2 (by omega) (by omega) (by omega) (by simp;omega) hB2 hA2;rw[hd']at this;rw[show(c::t).drop 1=t from rfl];cases hq:qt d t with
        | none=>rw[hq]at this;exact this
        | some q=>
          rw[hq]at this;have e2:Vn (r++[c]) (i+1) (some q)=Vn r i (some (c::q.1,1+q.2)):=by
           show Value.tuple _=Value.tuple _;rw[bn,iK];rfl
          rw[e2]at this;exact this
     refine Wq.ite (λh=>L34 _ (by simp;omega)) (λh=> ?_);exact L34 _ (by simp;omega)
theorem aav (s:List UInt8)(h0:1<=s.length)(hl:s.length<=1000000):P0 101 [aK s] (Vn [] 1 (qt s.length (s.drop 1))):=Pure.of rfl λH nx=>by
 rw[adH];exact Vo s hl s.length 1 [] (.slice none 0 0) H nx (Nat.sub_le _ _) (by omega) h0 (by simp) (.nil _ _ _ _) (.refl _ _)
end
theorem take_cons {α:Type}{a:α}{t s':List α}{n:Nat}(hn:1<=n)(h:s'.take n=(a::t).take n):∃t',s'=a::t'/\t'.take (n-1)=t.take (n-1):=by
 obtain⟨m,rfl⟩:∃m,n=m+1:=⟨n-1,by omega⟩;cases s' with
 | nil=>simp at h
 | cons b t'=>
   simp only[gW,List.cons.injEq]at h;exact⟨t',by rw[h.1],h.2⟩
theorem Ry {t t':List UInt8}(h0:(ld t).2≠0)(h:t'.take ((ld t).2-1)=t.take ((ld t).2-1)):ld t'=ld t:=by
 have h2:=Rx t;cases t with
 | nil=>exact absurd rfl h0
 | cons x u=>
   obtain⟨u',rfl,hu⟩:=take_cons (by omega) h;rw[fp]at h0 hu ⊢;rw[fp]
   by_cases h3:x.toNat=34
   . rw[if_pos h3,if_pos h3]
   rw[if_neg h3]at h0 hu ⊢;rw[if_neg h3]
   by_cases h3:x.toNat=92
   . rw[if_pos h3,if_pos h3]
   rw[if_neg h3]at h0 hu ⊢;rw[if_neg h3]
   by_cases h3:x.toNat=110
   . rw[if_pos h3,if_pos h3]
   rw[if_neg h3]at h0 hu ⊢;rw[if_neg h3]
   by_cases h3:x.toNat=116
   . rw[if_pos h3,if_pos h3]
   rw[if_neg h3]at h0 hu ⊢;rw[if_neg h3]
   by_cases h3:x.toNat=120
   . rw[if_pos h3]at h0 hu ⊢;rw[if_pos h3]
     match u with
     | []=>exact absurd rfl h0
     | [_]=>exact absurd rfl h0
     | y::z::r=>
       have e:∀r,Fh (y::z::r)=if 0<=eR y/\0<=eR z then(dh (16*eR y+eR z).toNat,4)else(0,0):=λ_=>rfl;rw[e]at h0 hu ⊢
       by_cases h4:0<=eR y/\0<=eR z
       . rw[if_pos h4]at hu ⊢;obtain⟨v',rfl,hv⟩:=take_cons (by show 1<=4-1-1;omega) hu;obtain⟨w',rfl,hw⟩:=take_cons (by show 1<=4-1-1-1;omega) hv;rw[e,if_pos h4]
       . rw[if_neg h4]at h0;exact absurd rfl h0
   . rw[if_neg h3]at h0;exact absurd rfl h0
theorem Rz {s s':List UInt8}(h0:(eo s).2≠0)(h:s'.take (eo s).2=s.take (eo s).2):eo s'=eo s:=by
 cases s with
 | nil=>exact absurd rfl h0
 | cons a t=>
   obtain⟨t',rfl,ht⟩:=take_cons (by omega) h;rw[gB]at h0 ht ⊢;rw[gB]
   by_cases h1:a.toNat<32\/126<a.toNat\/a.toNat=34
   . rw[if_pos h1]at h0;exact absurd rfl h0
   rw[if_neg h1]at h0 ht ⊢;rw[if_neg h1]
   by_cases h2:a.toNat=92
   . rw[if_pos h2]at h0 ht ⊢;rw[if_pos h2];exact Ry h0 ht
   . rw[if_neg h2,if_neg h2]
theorem Le:∀{f:Nat} {s:List UInt8} {q:List UInt8×Nat},qt f s=some q->1<=q.2/\q.2<=s.length:=by
 intro f
 induction f with
 | zero=>intro s q h;cases h
 | succ f ih=>
   intro s q h;cases s with
   | nil=>cases h
   | cons c r=>
     rw[nT]at h
     by_cases h1:c.toNat=34
     . rw[if_pos h1]at h;cases h;exact⟨ax _,by simp⟩
     rw[if_neg h1]at h
     by_cases h2:(eo (c::r)).2=0
     . rw[if_pos h2]at h;cases h
     rw[if_neg h2]at h;obtain⟨q1,hq,rfl⟩:=bO.1 h;have:=ih hq;have:=wX (c::r);rw[aD]at*;show 1<=(eo (c::r)).2+q1.2/\(eo (c::r)).2+q1.2<=_;omega
theorem HF:∀{f:Nat} {s:List UInt8} {f':Nat} {s':List UInt8} {q:List UInt8×Nat},s'.length<=f'->qt f s=some q->s'.take q.2=s.take q.2->qt f' s'=some q:=by
 intro f
 induction f with
 | zero=>intro s f' s' q _ h;cases h
 | succ f ih=>
   intro s f' s' q hf' h ht;cases s with
   | nil=>cases h
   | cons c r=>
     have hle:=Le h;obtain⟨r',rfl,hr⟩:=take_cons hle.1 ht;obtain⟨g,rfl⟩:∃g,f'=g+1:=⟨f'-1,by simp at hf';omega⟩;rw[nT]at h ⊢
     by_cases h1:c.toNat=34
     . rw[if_pos h1]at h ⊢;exact h
     rw[if_neg h1]at h ⊢
     by_cases h2:(eo (c::r)).2=0
     . rw[if_pos h2]at h;cases h
     rw[if_neg h2]at h;obtain⟨q1,hq,rfl⟩:=bO.1 h;have ht1:(c::r').take (eo (c::r)).2=(c::r).take (eo (c::r)).2:=by
      have:=congrArg (List.take (eo (c::r)).2) ht;rwa[List.take_take,List.take_take,jR (fE _ _)]at this
     have ht2:((c::r').drop (eo (c::r)).2).take q1.2=((c::r).drop (eo (c::r)).2).take q1.2:=by
      have:=congrArg (List.drop (eo (c::r)).2) ht;rwa[List.drop_take,List.drop_take,e7]at this
     rw[Rz h2 ht1,if_neg h2,ih (by rw[aD];simp at hf' ⊢;omega) hq ht2];rfl
theorem Vp {c:UInt8}{t:List UInt8}(h:c.toNat=34):eo (c::t)=(0,0):=by
 rw[gB,if_pos (.inr (.inr h))]
theorem aaw:∀(f g:Nat) (u out:List UInt8),u.length<=f->u.length<=g->
 (∀o,qt g u=some (o,u.length)->Fi f u out=(out++o,true))/\((∀o,qt g u≠some (o,u.length))->(Fi f u out).2=false):=by
 intro f
 induction f with
 | zero=>
   intro g u out hf hg;obtain rfl:u=[]:=d_.1 (by omega);exact⟨λo h=>(by rw[DM]at h;cases h),λ_=>rfl⟩
 | succ f ih=>
   intro g u out hf hg;cases u with
   | nil=>exact⟨λo h=>(by rw[DM]at h;cases h),λ_=>rfl⟩
   | cons c r=>
     obtain⟨g,rfl⟩:∃k,g=k+1:=⟨g-1,by simp at hg;omega⟩;rw[nT];have hle:=wX (c::r);cases r with
     | nil=>
       have e:Fi (f+1) [c] out=(out,decide ([c]=[34])):=rfl;rw[e]
       by_cases h1:c.toNat=34
       . have:c=34:=bJ.1 h1;subst this;rw[if_pos (show(34:UInt8).toNat=34 from rfl)];exact⟨λo h=>(by cases h;rw[bf];rfl),λh=>absurd rfl (h [])⟩
       . rw[if_neg h1];have:qt g ([c].drop (eo [c]).2)=none\/(eo [c]).2=0:=by
          by_cases h2:(eo [c]).2=0
          . exact .inr h2
          . rw[ez (by simp;omega),DM];exact .inl rfl
         refine⟨λo h=> ?_,λ_=> ?_⟩
         . rcases this with h2 | h2
           . rw[h2]at h;split at h<;>cases h
           . rw[if_pos h2]at h;cases h
         . rw[decide_eq_false_iff_not];intro q;cases q;exact h1 rfl
     | cons d r=>
       have e:Fi (f+1) (c::d::r) out=if(eo (c::d::r)).2=0 then([],false)else Fi f ((c::d::r).drop (eo (c::d::r)).2) (out++[(eo (c::d::r)).1]):=if_neg (by simp);rw[e]
       by_cases h1:c.toNat=34
       . rw[if_pos h1,Vp h1];exact⟨λo h=>(by cases h),λ_=>rfl⟩
       rw[if_neg h1]
       by_cases h2:(eo (c::d::r)).2=0
       . rw[if_pos h2,if_pos h2];exact⟨λo h=>(by cases h),λ_=>rfl⟩
       rw[if_neg h2,if_neg h2];generalize hp:eo (c::d::r)=p at h2 hle ⊢;obtain⟨b,n⟩:=p;simp only at h2 hle ⊢;have:=ih g ((c::d::r).drop n) (out++[b]) (by rw[aD];simp at hf ⊢;omega) (by rw[aD];simp at hg ⊢;omega);refine⟨λo h=> ?_,λh=>this.2 λo q=> ?_⟩
       . obtain⟨q1,hq,he⟩:=bO.1 h;have he:=Prod.mk.inj he;rw[this.1 q1.1 (by rw[hq,aD];congr 1;refine Prod.ext rfl ?_;show q1.2=_;omega),bn,<- he.1];rfl
       . refine h (b::o) ?_;rw[q,aD];show some (b::o,n+((c::d::r).length-n))=_;rw[Nat.add_sub_cancel' hle]
theorem nU {s:List UInt8}(h:jd s=false):dw s=qO s:=by
 unfold dw;rw[if_neg (λq=>by rw[sU q]at h;cases h)]
theorem zw {c:UInt8}{u:List UInt8}{g:Nat}(h:c.toNat=34)(hg:u.length<=g):
 (∀o,qt g u=some (o,u.length)->dw (c::u)=(⟨2,o,0,0⟩,true))/\((∀o,qt g u≠some (o,u.length))->(dw (c::u)).2=false):=by
 obtain rfl:c=34:=bJ.1 h;rw[nU rfl];have hw:isWord (34::u)=false:=rfl;have hv:isVar (34::u)=false:=by cases u<;>rfl
 have hs:bB.contains (34::u)=false:=by
  cases hq:bB.contains (34::u)with
  | false=>rfl
  | true=>exact absurd (qj hq).2.1 (by simp[first])
 unfold qO;rw[hw,hv,hs];cases u with
 | nil=>exact⟨λo h=>(by rw[DM]at h;cases h),λ_=>rfl⟩
 | cons d u=>
   have hQ:mL (34::d::u)=Fi (u.length+1+1) (d::u) []:=by
    unfold mL;rw[if_neg (by simp[first])];rfl
   have:=aaw (u.length+1+1) g (d::u) [] (by simp) hg;rw[hQ];refine⟨λo h=> ?_,λh=> ?_⟩
   . rw[this.1 o h,if_pos rfl];rfl
   . rw[if_neg (by rw[this.2 h];decide)];rfl
theorem aax:∀n:Nat,n<256->(cV (dh n)||cX (dh n))=true->cu (dh n)=false/\(dh n).toNat≠34/\(dh n).toNat≠39:=by decide
theorem HG {c:UInt8}(h:(cV c||cX c)=true):cu c=false/\c.toNat≠34/\c.toNat≠39:=by
 have:=aax c.toNat c.toNat_lt;rw[UInt8.ofNat_toNat]at this;exact this h
theorem DN {c:UInt8}{u:List UInt8}(h:c.toNat≠34):(mL (c::u)).2=false:=by
 cases hq:(mL (c::u)).2 with
 | false=>rfl
 | true=>
   have:=qi hq;simp[first]at this;exact absurd this h
theorem A1 {c:UInt8}{u:List UInt8}(h:(cV c||cX c)=true):dw (c::u)=if u.all kB=true then(⟨iA (c::u),c::u,0,0⟩,true)else(⟨0,[],0,0⟩,false):=by
 obtain⟨h1,h2,h3⟩:=HG h;rw[nU (show jd (c::u)=false from h1)];unfold qO;rw[DN h2,if_neg (by decide)];have hw:isWord (c::u)=u.all kB:=by show((cV c||cX c)&&u.all kB)=_;rw[h,ai]
 rw[hw]
 by_cases hu:u.all kB=true
 . rw[if_pos hu,if_pos hu]
 rw[if_neg hu,if_neg hu];have hv:isVar (c::u)=false:=by
  cases u with
  | nil=>rfl
  | cons d u=>show(decide (c.toNat=39)&&_)=false;rw[decide_eq_false h3];rfl
 have hs:bB.contains (c::u)=false:=by
  cases hq:bB.contains (c::u)with
  | false=>rfl
  | true=>
    exfalso;have:∀x∈bB,(match x with | []=>false | a::_=>cV a||cX a)=false:=by decide
    have this:(cV c||cX c)=false:=this (c::u) (by simpa using hq);rw[h]at this;cases this
 rw[hv,hs];rfl
def zx (x:UInt8):Bool:= !decide (x.toNat=39)&&kB x
theorem Lg:∀x∈bB,first x 39=false/\x≠[]:=by decide
theorem RA {c:UInt8}{u:List UInt8}(h:c.toNat=39):dw (c::u)=if isVar (c::u)=true then(⟨5,c::u,0,0⟩,true)else(⟨0,[],0,0⟩,false):=by
 obtain rfl:c=39:=bJ.1 h;rw[nU rfl];unfold qO;rw[DN (by decide),if_neg (by decide),show isWord (39::u)=false from rfl,if_neg (by decide)]
 by_cases hv:isVar (39::u)=true
 . rw[if_pos hv,if_pos hv]
 rw[if_neg hv,if_neg hv];have hs:bB.contains (39::u)=false:=by
  cases hq:bB.contains (39::u)with
  | false=>rfl
  | true=>exact absurd (Lg _ (by simpa using hq)).1 (by simp[first])
 rw[hs];rfl
theorem HH {c:UInt8}{u:List UInt8}(h1:cu c=false)(h2:c.toNat≠34)(h3:(cV c||cX c)=false)(h4:c.toNat≠39):dw (c::u)=if bB.contains (c::u)=true then(⟨7,c::u,0,0⟩,true)else(⟨0,[],0,0⟩,false):=by
 rw[nU (show jd (c::u)=false from h1)];unfold qO;have hw:isWord (c::u)=false:=by show((cV c||cX c)&&u.all kB)=_;rw[h3,aE]
 have hv:isVar (c::u)=false:=by
  cases u with
  | nil=>rfl
  | cons d u=>show(decide (c.toNat=39)&&_)=false;rw[decide_eq_false h4];rfl
 rw[DN h2,hw,hv];rfl
theorem RB {c:UInt8}{u:List UInt8}(h:cu c=true):dw (c::u)=match js 0 (c::u)with
 | some v=>(⟨1,[],(v:Int),0⟩,true)
 | none=>(⟨0,[],0,0⟩,false):=by
 have hn:c.toNat≠34/\c.toNat≠39:=by rw[kO]at h;omega
 have hl:(cV c||cX c)=false:=by
  cases hq:(cV c||cX c)with
  | false=>rfl
  | true=>rw[(HG hq).1]at h;cases h
 unfold dw m5;cases js 0 (c::u)with
 | some v=>rw[if_pos (by simp)]
 | none=>
   rw[if_neg (by simp)];unfold qO;have hw:isWord (c::u)=false:=by show((cV c||cX c)&&u.all kB)=_;rw[hl,aE]
   have hv:isVar (c::u)=false:=by
    cases u with
    | nil=>rfl
    | cons d u=>show(decide (c.toNat=39)&&_)=false;rw[decide_eq_false hn.2];rfl
   have hs:bB.contains (c::u)=false:=by
    cases hq:bB.contains (c::u)with
    | false=>rfl
    | true=>
      have:=(qj hq).1;simp only[jd]at this;rw[h]at this;cases this
   rw[DN hn.1,hw,hv,hs];rfl
def nd:List UInt8->Bool
 | []=>false
 | c::_=>cV c
def zU (c:UInt8)(u:List UInt8):Option (Tok×Nat):=
 if c.toNat=34 then(qt (u.length+1) u).map λq=>(⟨2,q.1,0,0⟩,1+q.2)
 else if(cV c||cX c)=true then some (⟨iA (c::u.takeWhile kB),c::u.takeWhile kB,0,0⟩,1+(u.takeWhile kB).length)
 else if c.toNat=39/\nd u=true then some (⟨5,(c::u).take (2+((u.drop 1).takeWhile zx).length),0,0⟩,2+((u.drop 1).takeWhile zx).length)
 else(bB.find? λs=>s.isPrefixOf (c::u)).map λs=>(⟨7,s,0,0⟩,s.length)
def HI (l:List UInt8):Option (Tok×Nat):=match js 0 l with
 | some v=>some (⟨1,[],(v:Int),0⟩,l.length)
 | none=>none
def ox:List UInt8->Option (Tok×Nat)
 | []=>none
 | c::u=>if cu c=true then HI ((c::u).takeWhile cu)else zU c u
theorem ju (c:UInt8)(u:List UInt8):ox (c::u)=if cu c=true then HI ((c::u).takeWhile cu)else zU c u:=rfl
def vb (r:List UInt8):Nat->Option (Tok×Nat)
 | 0=>none
 | n+1=>if(dw (r.take (n+1))).2=true then some ((dw (r.take (n+1))).1,n+1)else vb r n
def Vq (r:List UInt8):Option (Tok×Nat):=
 if 0<(r.takeWhile cu).length then(if(dw (r.take (r.takeWhile cu).length)).2=true then some ((dw (r.take (r.takeWhile cu).length)).1,(r.takeWhile cu).length)else none)
 else vb r r.length
theorem qu {r:List UInt8}{n:Nat}{t:Tok}(h0:0<n)(ht:dw (r.take n)=(t,true)):∀m,n<=m->(∀j,n<j->j<=m->(dw (r.take j)).2=false)->vb r m=some (t,n):=by
 intro m
 induction m with
 | zero=>intro h _;omega
 | succ m ih=>
   intro h hj;rw[vb]
   by_cases e:n=m+1
   . subst e;rw[ht,if_pos rfl]
   . rw[if_neg (by rw[hj (m+1) (by omega) (ax _)];decide)];exact ih (by omega) λj h1 h2=>hj j h1 (by omega)
theorem uD {r:List UInt8}:∀m,(∀j,0<j->j<=m->(dw (r.take j)).2=false)->vb r m=none:=by
 intro m
 induction m with
 | zero=>intro _;rfl
 | succ m ih=>
   intro hj;rw[vb,if_neg (by rw[hj (m+1) (by omega) (ax _)];decide)];exact ih λj h1 h2=>hj j h1 (by omega)
theorem me {p:UInt8->Bool}:∀(l:List UInt8) (j:Nat),j<=l.length->((l.take j).all p=true↔j<=(l.takeWhile p).length)
 | [],j,h=>by simp at h;subst h;simp
 | a::l,0,h=>by simp
 | a::l,j+1,h=>by
   have ih:=me (p:=p) l j (by simpa using h);rw[gW,cW,b_];cases p a with
   | true=>simp only[ai,if_true,ao];rw[ih];omega
   | false=>simp
theorem tq {p:UInt8->Bool}:∀l:List UInt8,l.take (l.takeWhile p).length=l.takeWhile p
 | []=>rfl
 | a::l=>by
   rw[b_];cases p a with
   | true=>simp only[if_true,ao,gW];rw[tq l]
   | false=>rfl
theorem zy {p:UInt8->Bool}(l:List UInt8):(l.takeWhile p).length<=l.length:=by
 have:=congrArg List.length (tq (p:=p) l);rw[cC]at this;omega
theorem HJ:bB.Pairwise (λa b=>b.length<=a.length):=by decide
theorem aay (r:List UInt8):Vq r=ox r:=by
 cases r with
 | nil=>rfl
 | cons c u=>
   unfold Vq;rw[ju];cases hd:cu c with
   | true=>
     have e:(c::u).takeWhile cu=c::u.takeWhile cu:=by rw[b_,hd];rfl
     rw[if_pos rfl,tq,e,if_pos (show 0<(c::u.takeWhile cu).length by simp),RB hd];unfold HI;cases js 0 (c::u.takeWhile cu)with
     | some v=>rfl
     | none=>rfl
   | false=>
     have e:(c::u).takeWhile cu=[]:=by rw[b_,hd];rfl
     rw[e,if_neg (show ¬ 0<([]:List UInt8).length by decide),if_neg (by decide)];unfold zU;have htk:∀j,0<j->(c::u).take j=c::u.take (j-1):=λj hj=>by
      obtain⟨m,rfl⟩:∃m,j=m+1:=⟨j-1,by omega⟩;rfl
     by_cases h34:c.toNat=34
     . rw[if_pos h34];cases hq:qt (u.length+1) u with
       | some q=>
         obtain⟨o,m⟩:=q;have hle:=Le hq;simp only at hle;refine qu (by omega) ?_ _ (by simp;omega) λj h1 h2=> ?_
         . rw[htk _ (by omega),show 1+m-1=m by omega];refine(zw (g:=m) h34 (by simp;omega)).1 o ?_;have:=HF (f':=m) (s':=u.take m) (by simp;omega) hq (by rw[List.take_take,Nat.min_self]);rw[this,cC,jR hle.2]
         . rw[htk _ (by omega)];refine(zw (g:=u.length) h34 (by rw[cC];omega)).2 λo' h=> ?_;rw[cC,jR (by simp at h2;omega)]at h;have:=HF (f':=u.length+1) (s':=u) (by omega) h (by rw[List.take_take,Nat.min_self]);rw[hq]at this;cases this;omega
       | none=>
         refine uD _ λj h1 h2=> ?_;rw[htk _ h1];refine(zw (g:=u.length) h34 (by rw[cC];omega)).2 λo' h=> ?_;rw[cC,jR (by simp at h2;omega)]at h;have:=HF (f':=u.length+1) (s':=u) (by omega) h (by rw[List.take_take,Nat.min_self]);rw[hq]at this;cases this
     rw[if_neg h34];cases hl:(cV c||cX c)with
     | true=>
       rw[if_pos rfl];have hle:=zy (p:=kB) u;refine qu (by omega) ?_ _ (by simp;omega) λj h1 h2=> ?_
       . rw[htk _ (by omega),e7,A1 hl,if_pos ((me _ _ hle).2 (ax _)),tq]
       . rw[htk _ (by omega),A1 hl,if_neg (λq=>by have:=(me _ _ (by simp at h2;omega)).1 q;omega)]
     | false=>
       rw[if_neg (by decide)]
       by_cases h39:c.toNat=39
       . have hT:∀j,0<j->dw ((c::u).take j)=if isVar (c::u.take (j-1))=true then(⟨5,c::u.take (j-1),0,0⟩,true)else(⟨0,[],0,0⟩,false):=λj hj=>by rw[htk _ hj,RA h39]
         by_cases hf:nd u=true
         . rw[if_pos ⟨h39,hf⟩];obtain⟨d,w,rfl⟩:∃d w,u=d::w:=by
            cases u with
            | nil=>cases hf
            | cons d w=>exact⟨d,w,rfl⟩
           have hd1:cV d=true:=hf;have hle:=zy (p:=zx) w;have hV:∀k,isVar (c::(d::w).take (k+1))=(w.take k).all zx:=λk=>by
            show(decide (c.toNat=39)&&(cV d&&_))=_;rw[decide_eq_true h39,hd1,ai,ai];rfl
           refine qu (by omega) ?_ _ (by simp;omega) λj h1 h2=> ?_
           . rw[hT _ (by omega),show 2+((List.drop 1 (d::w)).takeWhile zx).length-1=(w.takeWhile zx).length+1 from by show 2+(w.takeWhile zx).length-1=_;omega,hV,if_pos ((me _ _ hle).2 (ax _))];rw[show(2+((List.drop 1 (d::w)).takeWhile zx).length)=(w.takeWhile zx).length+1+1 from by show 2+(w.takeWhile zx).length=_;omega];rfl
           . have h1':2+(w.takeWhile zx).length<j:=h1;rw[hT _ (by omega),show j-1=(j-2)+1 by omega,hV,if_neg (λq=>by have:=(me _ _ (by simp at h2;omega)).1 q;omega)]
         . rw[if_neg (λq=>hf q.2)];have e1:(bB.find? λs=>s.isPrefixOf (c::u))=none:=by
            rw[List.find?_eq_none];intro x hx hp;obtain⟨h1,h2⟩:=Lg x hx;cases x with
            | nil=>exact h2 rfl
            | cons a x=>
              simp only[List.isPrefixOf,ae,beq_iff_eq]at hp;rw[hp.1]at h1;simp only[first,decide_eq_false_iff_not]at h1;exact h1 h39
           rw[e1];refine uD _ λj h1 h2=> ?_;rw[hT _ h1,if_neg];intro q;apply hf;cases hu:u.take (j-1)with
           | nil=>rw[hu]at q;cases q
           | cons d w=>
             have:cV d=true:=by
              rw[hu]at q;have q':(decide (c.toNat=39)&&(cV d&&_))=true:=q;simp only[ae]at q';exact q'.2.1
             cases u with
             | nil=>simp at hu
             | cons x w'=>
               have hx:x=d:=by
                cases hj:j-1 with
                | zero=>rw[hj]at hu;cases hu
                | succ k=>rw[hj]at hu;cases hu;rfl
               subst hx;assumption
       . rw[if_neg (λq=>h39 q.1)];have hT:∀j,0<j->dw ((c::u).take j)=if bB.contains ((c::u).take j)=true then(⟨7,(c::u).take j,0,0⟩,true)else(⟨0,[],0,0⟩,false):=λj hj=>by rw[htk _ hj,HH hd h34 hl h39]
         cases hs:bB.find? λs=>s.isPrefixOf (c::u)with
         | some s=>
           have hp:s <+: (c::u):=dr.1 (by simpa using List.find?_some hs);have hm:s∈bB:=List.mem_of_find?_eq_some hs;have h0:0<s.length:=by
            cases s with
            | nil=>exact absurd rfl (Lg _ hm).2
            | cons a s=>simp
           have ht:(c::u).take s.length=s:=(List.prefix_iff_eq_take.1 hp).symm;refine qu h0 ?_ _ hp.length_le λj h1 h2=> ?_
           . rw[hT _ h0,ht,if_pos (by simpa using hm)]
           . rw[hT _ (by omega),if_neg];intro q;have q:(c::u).take j∈bB:=by simpa using q
             obtain⟨hp2,al,bs,hab,hno⟩:=List.find?_eq_some_iff_append.1 hs;have hfall:=HJ;rw[hab]at hfall q;have hjl:((c::u).take j).length=j:=by rw[cC];omega
             rcases dJ.1 q with h | h
             . have:=hno _ h;rw[dr.2 (List.take_prefix _ _)]at this;cases this
             . rcases aG.1 h with h | h
               . rw[h]at hjl;omega
               . have:=(List.pairwise_cons.1 (List.pairwise_append.1 hfall).2.1).1 _ h;omega
         | none=>
           refine uD _ λj h1 h2=> ?_;rw[hT _ h1,if_neg];intro q;have:=List.find?_eq_none.1 hs _ (by simpa using q);exact this (dr.2 (List.take_prefix _ _))
section
variable {nx0 nx nx':Nat}{H0 H H':T OB}{F:List Bx}{b:Nat}{s:List UInt8}
abbrev DQ (b:Nat)(s:List UInt8)(i:Nat):Bx:=(b,[aK s,i64 (i:Int)],95)
theorem kT {i:Nat}(h:Hp nx0 H0 (DQ b s i::F) H nx):aA P H 3 (some (.pointer (some ⟨b,1,none⟩)))=some (i64 (i:Int)):=aB (h.at_ 0 rfl) sH rfl
theorem A2 {i:Nat}(h:Hp nx0 H0 (DQ b s i::F) H nx):aA P H 9 (some (.pointer (some ⟨b,0,none⟩)))=some (aK s):=aB (h.at_ 0 rfl) oT rfl
abbrev VE (u:Value)(G:List Bx)(nx0:Nat)(H0:T OB):Go.Ev.Out->T OB->Nat->Prop:=λo H nx=>o= .ret u/\Hp nx0 H0 G H nx
theorem Vr (hl:s.length<ei){i p:Nat}:∀(r:List UInt8) (j:Nat) (H:T OB) (nx:Nat),s.drop j=r->p<=j->j<=s.length->Hp nx0 H0 (DQ b s i::F) H nx->
 bA P pl X0 (.jump (CA (ptr b) (i64 (p:Int)) (i64 (j:Int)) H nx)) nx0 H0 (VE (aK ((s.drop p).take (j-p+(r.takeWhile kB).length))) (DQ b s i::F) nx0 H0):=by
 intro r
 induction r with
 | nil=>
   intro j H nx hd hp hj h;have hil:=drop_nil hd hj;refine Wq.jmp (OK ..) (λ_=>rfl) ?_;simp only[af,A2 h,aV _ bq,aT,show decide ((j:Int)<(s.length:Int))=false by simp;omega,gd bq hp hj];exact ou h
 | cons c r ih=>
   intro j H nx hd hp hj h;obtain⟨hg,hlt,hd'⟩:=drop_cons hd;have hin:=bF (P:=P) bq hg .i64;refine Wq.jmp (OK ..) (λ_=>rfl) ?_;simp only[af,A2 h,aV _ bq,aT,aJ hlt,hin];refine Hq.call (Ko c) h λH1 aI h1=> ?_;cases hw:kB c with
   | false=>
     simp only[af,A2 h1,gd bq hp hj];rw[b_,hw];exact ou h1
   | true=>
     simp only[af,az (show j<9223372036854775807 by have:=cv hl;omega)];rw[b_,hw,if_pos rfl,ao,show j-p+((r.takeWhile kB).length+1)=j+1-p+(r.takeWhile kB).length by omega];exact ih (j+1) H1 aI hd' (by omega) (by omega) h1
theorem aaz (hl:s.length<ei){i p:Nat}(hp:p<s.length)(h:Hp nx0 H0 (DQ b s i::F) H nx):
 bA P pl X0 (aX P pl (.call 102 [ptr b,i64 (p:Int)] false none H nx)) nx0 H0 (VE (aK ((s.drop p).take (1+((s.drop (p+1)).takeWhile kB).length))) (DQ b s i::F) nx0 H0):=by
 rw[adI];simp only[af,az (show p<9223372036854775807 by have:=cv hl;omega)];have:=Vr (b:=b) (F:=F) (i:=i) hl (s.drop (p+1)) (p+1) H nx rfl (jl p) hp h;rwa[show p+1-p=1 by omega]at this
def ly (s:List UInt8)(d fr i:Nat):Bool×Nat:=
 if d=0 then((gr (s.drop i)).2,if(gr (s.drop i)).2=true then i+(gr (s.drop i)).1 else i+(gr (s.drop i)).1)
 else match kz d (s.drop i)with
  | none=>(false,fr)
  | some n=>((gr (s.drop (i+n))).2,i+n+(gr (s.drop (i+n))).1)
theorem nV (s:List UInt8)(fr i:Nat):ly s 0 fr i=((gr (s.drop i)).2,i+(gr (s.drop i)).1):=by
 unfold ly;rw[if_pos rfl];split<;>rfl
theorem nW (s:List UInt8){d:Nat}(hd:d≠0)(fr i:Nat):ly s d fr i=match kz d (s.drop i)with
 | none=>(false,fr)
 | some n=>((gr (s.drop (i+n))).2,i+n+(gr (s.drop (i+n))).1):=if_neg hd
theorem MG {i d fr:Nat}{t:List UInt8}(h:s.drop i=40::42::t):ly s d fr i=ly s (d+1) (if d=0 then i else fr) (i+2):=by
 have h2:s.drop (i+2)=t:=by rw[<- cH,h];rfl
 have hdrop:∀n,s.drop (i+2+n)=t.drop n:=λn=>by rw[<- cH,h2]
 rw[nW s (Nat.succ_ne_zero d),h2]
 by_cases d0:d=0
 . subst d0;rw[nV,h,FT,if_pos rfl];cases hc:kz 1 t with
   | none=>simp[hc]
   | some n=>
     simp only[bN,hc,hdrop];rw[show i+((gr (t.drop n)).1+(n+2))=i+2+n+(gr (t.drop n)).1 by omega]
 . rw[nW s d0,h,FU,if_neg d0];cases hc:kz (d+1) t with
   | none=>simp
   | some n=>simp only[dH,show i+(n+2)=i+2+n by omega]
theorem HK {i d fr:Nat}{t:List UInt8}(h:s.drop i=42::41::t)(hd:0<d):ly s d fr i=ly s (d-1) fr (i+2):=by
 have h2:s.drop (i+2)=t:=by rw[<- cH,h];rfl
 rw[nW s (by omega),h,AZ]
 by_cases d1:d=1
 . subst d1;rw[if_pos (by omega),nV]
 . rw[if_neg (by omega),nW s (by omega),h2];cases hc:kz (d-1) t with
   | none=>simp
   | some n=>simp only[dH,show i+(n+2)=i+2+n by omega]
theorem MH {i d fr:Nat}{c:UInt8}{r:List UInt8}(h:s.drop i=c::r)(a:¬(c=40/\r.head? = some 42))(e:¬(0<d/\c=42/\r.head? = some 41))(w:0<d\/ws c=true):ly s d fr i=ly s d fr (i+1):=by
 have hr:s.drop (i+1)=r:=by rw[<- cH,h];rfl
 by_cases d0:d=0
 . subst d0;rw[nV,nV,h,hr,HE (w.resolve_left (by omega))];simp only;rw[show i+((gr r).1+1)=i+1+(gr r).1 by omega]
 . rw[nW s d0,nW s d0,h,hr,A0 a (λq=>e ⟨by omega,q⟩)];cases hc:kz d r with
   | none=>simp
   | some n=>simp only[dH,show i+(n+1)=i+1+n by omega]
theorem MI {i fr:Nat}{c:UInt8}{r:List UInt8}(h:s.drop i=c::r)(a:¬(c=40/\r.head? = some 42))(w:¬ws c=true):ly s 0 fr i=(true,i):=by
 rw[nV,h,zv w a];rfl
theorem RC {i d fr:Nat}(h:s.length<=i):ly s d fr i=if d=0 then(true,i)else(false,fr):=by
 have hn:s.drop i=[]:=ez h
 by_cases d0:d=0
 . subst d0;rw[nV,hn,if_pos rfl];simp[gr]
 . rw[nW s d0,hn,if_neg d0];simp[kz]
abbrev PsE (b:Nat)(s:List UInt8)(F:List Bx)(nx0:Nat)(H0:T OB)(q:Bool×Nat):Go.Ev.Out->T OB->Nat->Prop:=VE (.bool q.1) (DQ b s q.2::F) nx0 H0
theorem RD (hl:s.length<ei):∀(m i d fr:Nat) (H:T OB) (nx:Nat),s.length-i<=m->i<=s.length->d<=i->fr<=s.length->Hp nx0 H0 (DQ b s i::F) H nx->
 bA P pl X0 (.jump (AA (ptr b) (i64 (d:Int)) (i64 (fr:Int)) H nx)) nx0 H0 (PsE b s F nx0 H0 (ly s d fr i)):=by
 have hbig:ei=1125899906842624:=rfl;intro m
 induction m with
 | zero=>
   intro i d fr H nx hm hi hd hfr h;have hil:i=s.length:=by omega
   refine Wq.jmp (Wo ..) (λ_=>rfl) ?_;simp only[af,kT h,A2 h,aV _ bq,aT,show decide ((i:Int)<(s.length:Int))=false by simp;omega];rw[RC (by omega)];refine Wq.ite (λh0=> ?_) (λh0=> ?_)
   . rw[if_neg (by omega)];refine Hq.put [] h oV rfl rfl (by simp) rfl λH2 h2=> ?_;refine Wq.jmp (Ov ..) (λ_=>rfl) ?_;simp only[af,show decide ((d:Int)=0)=false by simp;omega];exact ou h2
   . rw[if_pos (by omega)];refine Wq.jmp (Ov ..) (λ_=>rfl) ?_;simp only[af,show decide ((d:Int)=0)=true by simp;omega];exact ou h
 | succ m ih=>
   intro i d fr H nx hm hi hd hfr h
   by_cases hlt:i<s.length
   case neg=>exact ih i d fr H nx (by omega) hi hd hfr h
   obtain⟨c,r,hdr⟩:∃c r,s.drop i=c::r:=by
    cases hq:s.drop i with
    | nil=>have:=drop_nil hq hi;omega
    | cons c r=>exact⟨c,r,rfl⟩
   obtain⟨hg,_,hd'⟩:=drop_cons hdr;have hin:=bF (P:=P) bq hg .i64;have hrl:r.length=s.length-(i+1):=by rw[<- hd',aD]
   have hu:∀n:Nat,n<256->(decide ((c.toNat:Int)=(n:Int))=decide (c=dh n)):=λn hn=>by
    rw[decide_eq_decide,<- bJ,gn,hY hn];omega
   have L18:∀tw:List UInt8,(∀x y,tw=[x,y]↔c=x/\r.head? = some y)->bA P pl X0 (.jump (Cc (ptr b) (i64 (d:Int)) (i64 (fr:Int)) (b8 c) (aK tw) H nx)) nx0 H0 (PsE b s F nx0 H0 (ly s d fr i)):=by
    intro tw htw;refine Wq.jmp (Yy ..) (λ_=>rfl) ?_;simp only[af,dL];refine Wq.ite (λa=> ?_) (λa=> ?_)
    . have a:=(htw _ _).1 a;obtain⟨t,ht⟩:=tp a.2;rw[a.1,ht]at hdr;have hl2:i+2<=s.length:=by
       have:=congrArg List.length hdr;rw[aD]at this;simp at this;omega
      rw[MG hdr];have L24:∀fr':Nat,fr'<=s.length->bA P pl X0 (.jump (Cd (ptr b) (i64 (d:Int)) (i64 (fr':Int)) H nx)) nx0 H0 (PsE b s F nx0 H0 (ly s (d+1) fr' (i+2))):=by
       intro fr' hfr';refine Wq.jmp (Yz ..) (λ_=>rfl) ?_;have e2:IntKind.i64.wrap ((i:Int)+2)=((i+2:Nat):Int):=by rw[aS (by omega)];omega
       simp only[af,kT h,e2,az (show d<9223372036854775807 by omega)];refine Hq.put [] h oV rfl rfl (by simp) rfl λH2 h2=> ?_;exact ih (i+2) (d+1) fr' H2 nx (by omega) hl2 (by omega) hfr' h2
      refine Wq.ite (λd0=> ?_) (λd0=> ?_)
      . rw[if_pos (by omega)];simp only[af,kT h];exact L24 i hi
      . rw[if_neg (by omega)];exact L24 fr hfr
    have a:¬(c=40/\r.head? = some 42):=λq=>a ((htw _ _).2 q);have L30:∀x:Bool,x=decide (0<d/\c=42/\r.head? = some 41)->bA P pl X0 (.jump (Ce (ptr b) (i64 (d:Int)) (i64 (fr:Int)) (b8 c) x H nx)) nx0 H0 (PsE b s F nx0 H0 (ly s d fr i)):=by
     intro x hx;refine Wq.jmp (YA ..) (λ_=>rfl) ?_;cases x with
     | true=>
       have e:=of_decide_eq_true hx.symm;obtain⟨t,ht⟩:=tp e.2.2;rw[e.2.1,ht]at hdr;have hl2:i+2<=s.length:=by
        have:=congrArg List.length hdr;rw[aD]at this;simp at this;omega
       rw[HK hdr e.1];have e1:IntKind.i64.wrap ((d:Int)-1)=((d-1:Nat):Int):=by rw[aS (by omega)];omega
       have e2:IntKind.i64.wrap ((i:Int)+2)=((i+2:Nat):Int):=by rw[aS (by omega)];omega
       simp only[af,kT h,e1,e2];refine Hq.put [] h oV rfl rfl (by simp) rfl λH2 h2=> ?_;exact ih (i+2) (d-1) fr H2 nx (by omega) hl2 (by omega) hfr h2
     | false=>
       have e:¬(0<d/\c=42/\r.head? = some 41):=of_decide_eq_false hx.symm;have L36:∀y:Bool,(y=true↔(0<d\/ws c=true))->bA P pl X0 (.jump (rE (ptr b) (i64 (d:Int)) (i64 (fr:Int)) y H nx)) nx0 H0 (PsE b s F nx0 H0 (ly s d fr i)):=by
        intro y hy;refine Wq.jmp (YB ..) (λ_=>rfl) ?_;cases y with
        | true=>
          rw[MH hdr a e (hy.1 rfl)];simp only[af,kT h,az (show i<9223372036854775807 by omega)];refine Hq.put [] h oV rfl rfl (by simp) rfl λH2 h2=> ?_;exact ih (i+1) d fr H2 nx (by omega) hlt (by omega) hfr h2
        | false=>
          have w:¬(0<d\/ws c=true):=λq=>by have:=hy.2 q;cases this
          obtain rfl:d=0:=by omega
          rw[MI hdr a (λq=>w (.inr q))];exact ou h
       simp only[af];have hws:ws c=(decide (c=9)||(decide (c=10)||(decide (c=13)||decide (c=32)))):=by
        unfold ws;rw[Bool.or_assoc,Bool.or_assoc];rfl
       refine Wq.ite (λh0=>L36 _ (by simp;omega)) (λh0=> ?_);have hd0:¬ 0<d:=by omega
       have h9:decide ((c.toNat:Int)=9)=decide (c=9):=hu 9 (by decide);have h10:decide ((c.toNat:Int)=10)=decide (c=10):=hu 10 (by decide);have h13:decide ((c.toNat:Int)=13)=decide (c=13):=hu 13 (by decide);have h32:decide ((c.toNat:Int)=32)=decide (c=32):=hu 32 (by decide);rw[h9,h10,h13,h32];refine Wq.ite (λq=>L36 _ (by rw[hws,decide_eq_true q];simp)) (λq1=> ?_);refine Wq.ite (λq=>L36 _ (by rw[hws,decide_eq_true q];simp)) (λq2=> ?_);refine Wq.ite (λq=>L36 _ (by rw[hws,decide_eq_true q];simp)) (λq3=> ?_);exact L36 _ (by rw[hws,decide_eq_false q1,decide_eq_false q2,decide_eq_false q3];simp[hd0])
    refine Wq.ite (λd0=> ?_) (λd0=> ?_)
    . refine L30 _ ?_;rw[decide_eq_decide,htw];have:0<d:=by omega
      simp[this]
    . exact L30 _ (by rw[decide_eq_false (λq=>d0 (by have:=q.1;omega))])
   refine Wq.jmp (Wo ..) (λ_=>rfl) ?_;simp only[af,kT h,A2 h,aV _ bq,aT,aJ hlt,hin,az (show i<9223372036854775807 by omega)];have e2:IntKind.i64.wrap ((i:Int)+2)=((i+2:Nat):Int):=by rw[aS (by omega)];omega
   refine Wq.ite (λhl2=> ?_) (λhl2=> ?_)
   . have hl2:i+2<=s.length:=by omega
     simp only[af,kT h,A2 h,e2,gd bq (show i<=i+2 by omega) hl2];rw[hdr,show i+2-i=2 by omega];refine L18 _ λx y=> ?_;cases r with
     | nil=>simp at hrl;omega
     | cons e t=>simp
   . refine L18 [] λx y=> ?_;cases r with
     | nil=>simp
     | cons e t=>simp at hrl;omega
theorem adb (hl:s.length<ei){i:Nat}(hi:i<=s.length)(h:Hp nx0 H0 (DQ b s i::F) H nx):
 bA P pl X0 (aX P pl (.call 51 [ptr b] false none H nx)) nx0 H0 (PsE b s F nx0 H0 ((gr (s.drop i)).2,i+(gr (s.drop i)).1)):=by
 rw[q51,<- nV s 0];exact RD hl s.length i 0 0 H nx (Nat.sub_le _ _) hi (aN _) (aN _) h
end
section
variable {nx0 nx nx':Nat}{H0 H H':T OB}{F:List Bx}{b:Nat}{s:List UInt8}
theorem Vs (n:Int):cA P 31 (some [(3,i64 n)])=some (.agg ⟨[i64 0,aK [],i64 0,i64 n]⟩):=cf ek (by kernel_rfl)
theorem ade {j:Nat}{x:List UInt8}(hx:bB[j]? = some x):eB P 99 (some (.agg ⟨bB.map aK⟩)) (some (i64 (j:Int)))=some (aK x):=by
 have hj:j<22:=(ar.1 hx).1;show lI (j:Int) (RZ P 99 (bB.map aK)) none=_;rw[iY];unfold RZ;rw[show P.underlying 99=some (.array 22 9)from by kernel_rfl];simp only[show bY j 22=true from av hj,cond_true,oT,lU,jk,bS,hx,dH]
theorem bA.jr {p:Prop}[Decidable p]{R:Go.Ev.Out->T OB->Nat->Prop}{x y:Q}(h:¬p->bA P pl X0 x nx0 H0 R)(h':p->bA P pl X0 y nx0 H0 R):bA P pl X0 (Ev.bK (!decide p) x y) nx0 H0 R:=
 Wq.bK (λq=>h (by simpa using q)) (λq=>h' (by simpa using q))
def TkA (q:Option (Tok×Nat))(i:Nat)(t:Tok)(n:Nat):Prop:=match q with
 | some q=>t=⟨q.1.k,q.1.s,q.1.n,(i:Int)⟩/\n=q.2
 | none=>n=0
abbrev TkE (b:Nat)(s:List UInt8)(i:Nat)(F:List Bx)(nx0:Nat)(H0:T OB):Go.Ev.Out->T OB->Nat->Prop:=λo H nx=>∃(t:Tok) (n:Nat),o= .ret (.tuple ⟨[t.v,i64 (n:Int)]⟩)/\TkA (ox (s.drop i)) i t n/\Hp nx0 H0 (DQ b s i::F) H nx
theorem qZ {i n b0 b1:Nat}{t:Tok}{l:List Value}(hl:l.length=4)(ht:TkA (ox (s.drop i)) i t n)(h:Hp nx0 H0 (DQ b s i::(b1,t.c,31)::(b0,l,31)::F) H nx):
 bA P pl X0 (aw (aA P H 31 (some (ptr b1))) (λx0=>bU (eD P H nx 31 (some (ptr b0)) (some x0)) (λx1 H nx=>aw (aA P H 31 (some (ptr b0))) (λx2=> .ret ⟨.ret (.tuple ⟨[x2,i64 (n:Int)]⟩),false,H,nx⟩) .bad)) .bad) nx0 H0 (TkE b s i F nx0 H0):=by
 simp only[af,Mi (h.at_ 1 rfl)];refine Hq.store [_,_] h fg (by rw[hl];decide) rfl rfl λH2 h2=> ?_;have e:mn l t.v.cells.toList 0=t.c:=by
  obtain⟨a0,a1,a2,a3,rfl⟩:∃a0 a1 a2 a3,l=[a0,a1,a2,a3]:=by
   match l with
   | [a0,a1,a2,a3]=>exact⟨a0,a1,a2,a3,rfl⟩
  rfl
 rw[e]at h2;simp only[af,Mi (h2.at_ 2 rfl)];exact Wq.rC h2.ag ⟨t,n,rfl,ht,h2.sY.sY⟩
theorem RE {l x:List UInt8}(h:x.length<=l.length):decide (l.take x.length=x)=x.isPrefixOf l:=by
 rw[dk,decide_eq_true_eq,dr,List.prefix_iff_eq_take];exact eq_comm
theorem Vt (hl:s.length<ei){i b0 b1:Nat}{l0:List Value}(hi:i<=s.length)(hl0:l0.length=4)(hlex:ox (s.drop i)=(bB.find? λx=>x.isPrefixOf (s.drop i)).map λx=>(⟨7,x,0,0⟩,x.length)):
 ∀(l:List (List UInt8)) (j:Nat) (H:T OB) (nx:Nat),bB.drop j=l->j<=22->(bB.find? λx=>x.isPrefixOf (s.drop i))=l.find? (λx=>x.isPrefixOf (s.drop i))->
 Hp nx0 H0 (DQ b s i::(b1,[i64 0,aK [],i64 0,i64 (i:Int)],31)::(b0,l0,31)::F) H nx->
 bA P pl X0 (.jump (Ci (ptr b) (ptr b0) (ptr b1) (i64 0) (.agg ⟨bB.map aK⟩) (i64 (j:Int)) H nx)) nx0 H0 (TkE b s i F nx0 H0):=by
 have hbig:ei=1125899906842624:=rfl;intro l
 induction l with
 | nil=>
   intro j H nx hd hj hf h;have hj2:j=22:=drop_nil hd hj;refine Wq.jmp (Ox ..) (λ_=>rfl) ?_;simp only[af,show decide ((j:Int)<22)=false by simp;omega];exact qZ (n:=0) (t:=⟨0,[],0,(i:Int)⟩) hl0 (by rw[hlex,hf];rfl) h
 | cons x l ih=>
   intro j H nx hd hj hf h;obtain⟨hg,hlt,hd'⟩:=drop_cons hd;have hlt:j<22:=hlt;have hxl:∀x∈bB,1<=x.length/\x.length<=2:=by decide
   have hx:=hxl x (ak hg);have L18:∀y:Bool,y=x.isPrefixOf (s.drop i)->bA P pl X0 (.jump (Cj (ptr b) (ptr b0) (ptr b1) (i64 0) (aK x) (.agg ⟨bB.map aK⟩) (i64 (j:Int)) y H nx)) nx0 H0 (TkE b s i F nx0 H0):=by
    intro y hy;refine Wq.jmp (YE ..) (λ_=>rfl) ?_;rw[List.find?_cons,<- hy]at hf;cases y with
    | true=>
      simp only[af,aV _ bq,aT];refine Hq.put [_] h oV rfl rfl (by simp) rfl λH2 h2=> ?_;refine Hq.put [_] h2 lU rfl rfl (by simp) rfl λH3 h3=> ?_;exact qZ (t:=⟨7,x,0,(i:Int)⟩) hl0 (by rw[hlex,hf];exact⟨rfl,rfl⟩) h3
    | false=>
      simp only[af,az (show j<9223372036854775807 by omega)];exact ih (j+1) H nx hd' (by omega) hf h
   refine Wq.jmp (Ox ..) (λ_=>rfl) ?_;have e1:IntKind.i64.wrap ((s.length:Int)-(i:Int))=((s.length-i:Nat):Int):=by rw[aS (by omega)];omega
   simp only[af,show decide ((j:Int)<22)=true by simp;omega,ade hg,aV _ bq,aT,kT h,A2 h,e1];refine Wq.ite (λhle=> ?_) (λhle=> ?_)
   . have hle:i+x.length<=s.length:=by omega
     have e2:IntKind.i64.wrap ((i:Int)+(x.length:Int))=((i+x.length:Nat):Int):=by rw[aS (by omega)];omega
     simp only[af,kT h,A2 h,aV _ bq,aT,e2,gd bq (fE i x.length) hle,dL,e7];refine L18 _ ?_;exact RE (by rw[aD];omega)
   . refine L18 _ ?_;cases hq:x.isPrefixOf (s.drop i)with
     | false=>rfl
     | true=>
       have:=(dr.1 hq).length_le;rw[aD]at this;omega
theorem Vu (hl:s.length<ei){i b0 b1:Nat}{l0:List Value}{c d:UInt8}{w:List UInt8}(hdr:s.drop i=c::d::w)(hl0:l0.length=4)
 (hlex:ox (s.drop i)=some (⟨5,(c::d::w).take (2+(w.takeWhile zx).length),0,0⟩,2+(w.takeWhile zx).length)):
 ∀(r:List UInt8) (n:Nat) (H:T OB) (nx:Nat),s.drop (i+n)=r->2<=n->i+n<=s.length->n+(r.takeWhile zx).length=2+(w.takeWhile zx).length->
 Hp nx0 H0 (DQ b s i::(b1,[i64 0,aK [],i64 0,i64 (i:Int)],31)::(b0,l0,31)::F) H nx->
 bA P pl X0 (.jump (Ch (ptr b) (ptr b0) (ptr b1) (i64 (n:Int)) H nx)) nx0 H0 (TkE b s i F nx0 H0):=by
 have hbig:ei=1125899906842624:=rfl;intro r
 induction r with
 | nil=>
   intro n H nx hd hn hin he h;have hil:=drop_nil hd hin;have e2:IntKind.i64.wrap ((i:Int)+(n:Int))=((i+n:Nat):Int):=by rw[aS (by omega)];omega
   refine Wq.jmp (Ow ..) (λ_=>rfl) ?_;simp only[af,kT h,A2 h,aV _ bq,aT,e2,show decide (((i+n:Nat):Int)<(s.length:Int))=false by simp;omega,gd bq (fE i n) hin];refine Hq.put [_] h oV rfl rfl (by simp) rfl λH2 h2=> ?_;simp only[af,kT h2,A2 h2,e2,gd bq (fE i n) hin,cg];refine Hq.put [_] h2 lU rfl rfl (by simp) rfl λH3 h3=> ?_;refine qZ (t:=⟨5,(s.drop i).take (i+n-i),0,(i:Int)⟩) hl0 ?_ h3;rw[hlex,hdr,e7];rw[List.takeWhile_nil,c_,Nat.add_zero]at he;rw[he];exact⟨rfl,rfl⟩
 | cons x r ih=>
   intro n H nx hd hn hin he h;obtain⟨hg,hlt,hd'⟩:=drop_cons hd;have hix:=bF (P:=P) bq hg .i64;have e2:IntKind.i64.wrap ((i:Int)+(n:Int))=((i+n:Nat):Int):=by rw[aS (by omega)];omega
   have stop:zx x=false->n=2+(w.takeWhile zx).length:=λq=>by
    rw[b_,q]at he;simpa using he
   refine Wq.jmp (Ow ..) (λ_=>rfl) ?_;simp only[af,kT h,A2 h,aV _ bq,aT,e2,aJ hlt,hix];have e39:decide ((x.toNat:Int)=39)=decide (x.toNat=39):=by rw[decide_eq_decide];omega
   rw[e39];refine _root_.Go.Proofs.YthjhonhhbddhkaaGreatDoor.bA.jr (λh39=> ?_) (λh39=> ?_)
   . refine Hq.call (Ko x) h λH1 aI h1=> ?_;have hT:zx x=kB x:=by unfold zx;rw[decide_eq_false h39];rfl
     cases hw:kB x with
     | true=>
       simp only[af,az (show n<9223372036854775807 by omega)];refine ih (n+1) H1 aI hd' (by omega) (by omega) ?_ h1;rw[b_,hT,hw]at he;simp only[if_true,ao]at he;omega
     | false=>
       have hn2:=stop (by rw[hT,hw]);simp only[af,kT h1,A2 h1,e2,gd bq (fE i n) hin];refine Hq.put [_] h1 oV rfl rfl (by simp) rfl λH2 h2=> ?_;simp only[af,kT h2,A2 h2,e2,gd bq (fE i n) hin,cg];refine Hq.put [_] h2 lU rfl rfl (by simp) rfl λH3 h3=> ?_;refine qZ (t:=⟨5,(s.drop i).take (i+n-i),0,(i:Int)⟩) hl0 ?_ h3;rw[hlex,hdr,e7,hn2];exact⟨rfl,rfl⟩
   . have hn2:=stop (by unfold zx;rw[decide_eq_true h39];rfl);simp only[af,kT h,A2 h,e2,gd bq (fE i n) hin];refine Hq.put [_] h oV rfl rfl (by simp) rfl λH2 h2=> ?_;simp only[af,kT h2,A2 h2,e2,gd bq (fE i n) hin,cg];refine Hq.put [_] h2 lU rfl rfl (by simp) rfl λH3 h3=> ?_;refine qZ (t:=⟨5,(s.drop i).take (i+n-i),0,(i:Int)⟩) hl0 ?_ h3;rw[hlex,hdr,e7,hn2];exact⟨rfl,rfl⟩
theorem adf (hl:s.length<=1000000){i:Nat}(hi:i<s.length)(h:Hp nx0 H0 (DQ b s i::F) H nx):bA P pl X0 (aX P pl (.call 52 [ptr b] false none H nx)) nx0 H0 (TkE b s i F nx0 H0):=by
 have hbig:ei=1125899906842624:=rfl;have hlb:s.length<ei:=by omega
 obtain⟨c,u,hdr⟩:∃c u,s.drop i=c::u:=by
  cases hq:s.drop i with
  | nil=>have:=drop_nil hq (by omega);omega
  | cons c r=>exact⟨c,r,rfl⟩
 obtain⟨hg,_,hd'⟩:=drop_cons hdr;have hin:=bF (P:=P) bq hg .i64;have hul:u.length=s.length-(i+1):=by rw[<- hd',aD]
 have hP:=ju c u;rw[<- hdr]at hP;have hc:=c.toNat_lt;rw[q52];refine Hq.alloc ek h λb0 H1 aI h1=> ?_;simp only[af,kT h1,A2 h1,hin,Vs];refine Hq.alloc ek h1 λb1 H2 nx2 h2=> ?_;refine Hq.store [_] h2 fg (by simp) rfl rfl λH3 h3=> ?_;replace h3:Hp nx0 H0 (DQ b s i::(b1,[i64 0,aK [],i64 0,i64 (i:Int)],31)::(b0,[i64 0,aK [],i64 0,i64 0],31)::F) H3 nx2:=h3;refine Hq.call (Kn c) h3 λH4 nx4 h4=> ?_;cases hdg:cu c with
 | true=>
   rw[if_pos hdg]at hP;simp only[af];refine Hq.put [_] h4 oV rfl rfl (by simp) rfl λH5 h5=> ?_;simp only[af,kT h5,A2 h5,gG (show i<=s.length by omega)];refine Hq.call (aau (s.drop i) (by rw[aD];omega)) h5 λH6 nx6 h6=> ?_;unfold RW;unfold HI at hP;rw[hdr]at hP ⊢;cases hN:js 0 ((c::u).takeWhile cu)with
   | some v=>
     rw[hN]at hP;simp only[bN];refine Hq.put [_] h6 Sx rfl rfl (by simp) rfl λH7 h7=> ?_;refine Wq.jmp (Ck ..) (λ_=>rfl) ?_;exact qZ (t:=⟨1,[],(v:Int),(i:Int)⟩) rfl (by rw[hdr,hP];exact⟨rfl,rfl⟩) h7
   | none=>
     rw[hN]at hP;simp only[af];refine Hq.put [_] h6 Sx rfl rfl (by simp) rfl λH7 h7=> ?_;refine Wq.jmp (Ck ..) (λ_=>rfl) ?_;exact qZ (n:=0) (t:=⟨1,[],0,(i:Int)⟩) rfl (by rw[hdr,hP];rfl) h7
 | false=>
   rw[if_neg (by rw[hdg];decide)]at hP;unfold zU at hP;simp only[af];refine Wq.ite (λh34=> ?_) (λh34=> ?_)
   . rw[if_pos (by omega)]at hP;refine Hq.put [_] h4 oV rfl rfl (by simp) rfl λH5 h5=> ?_;simp only[af,kT h5,A2 h5,gG (show i<=s.length by omega)];refine Hq.call (aav (s.drop i) (by rw[aD];omega) (by rw[aD];omega)) h5 λH6 nx6 h6=> ?_;have e:qt (s.drop i).length ((s.drop i).drop 1)=qt (u.length+1) u:=by rw[hdr];rfl
     rw[e];cases hN:qt (u.length+1) u with
     | some v=>
       rw[hN]at hP;unfold Vn;simp only[af,cj];refine Hq.put [_] h6 lU rfl rfl (by simp) rfl λH7 h7=> ?_;refine Wq.jmp (Ck ..) (λ_=>rfl) ?_;exact qZ (t:=⟨2,v.1,0,(i:Int)⟩) rfl (by rw[hP];exact⟨rfl,rfl⟩) h7
     | none=>
       rw[hN]at hP;unfold Vn;simp only[af];refine Hq.put [_] h6 lU rfl rfl (by simp) rfl λH7 h7=> ?_;refine Wq.jmp (Ck ..) (λ_=>rfl) ?_;exact qZ (n:=0) (t:=⟨2,[],0,(i:Int)⟩) rfl (by rw[hP];rfl) h7
   rw[if_neg (by omega)]at hP;have L38:∀(x:Bool) H5 nx5,x=(cV c||cX c)->Hp nx0 H0 (DQ b s i::(b1,[i64 0,aK [],i64 0,i64 (i:Int)],31)::(b0,[i64 0,aK [],i64 0,i64 0],31)::F) H5 nx5->
    bA P pl X0 (.jump (Cf (ptr b) (ptr b0) (b8 c) (ptr b1) (i64 0) x H5 nx5)) nx0 H0 (TkE b s i F nx0 H0):=by
    intro x H5 nx5 hx h5;refine Wq.jmp (YC ..) (λ_=>rfl) ?_;rw[<- hx]at hP;cases x with
    | true=>
      rw[if_pos rfl]at hP;simp only[af,kT h5];have e:(s.drop i).take (1+((s.drop (i+1)).takeWhile kB).length)=c::u.takeWhile kB:=by
       rw[hdr,hd',Nat.add_comm,gW,tq]
      have h102:=aaz hlb hi h5;rw[e]at h102;refine Sq.pc rfl h102 λH6 nx6 h6=> ?_;refine Hq.put [_] h6 lU rfl rfl (by simp) rfl λH7 h7=> ?_;simp only[af,aB (off:=1) (u:=aK (c::u.takeWhile kB)) (h7.at_ 1 rfl) oT rfl];refine Hq.uW (WI c (u.takeWhile kB)) h7 λH8 nx8 h8=> ?_;refine Hq.put [_] h8 oV rfl rfl (by simp) rfl λH9 h9=> ?_;simp only[af,aB (off:=1) (u:=aK (c::u.takeWhile kB)) (h9.at_ 1 rfl) oT rfl,aV _ bq,aT];exact qZ (t:=⟨iA (c::u.takeWhile kB),c::u.takeWhile kB,0,(i:Int)⟩) rfl (by rw[hP];exact⟨rfl,by rw[ao,Nat.add_comm]⟩) h9
    | false=>
      rw[if_neg (by decide)]at hP;have L46:∀(y:Bool) H5 nx5,(y=true↔(c.toNat=39/\nd u=true))->Hp nx0 H0 (DQ b s i::(b1,[i64 0,aK [],i64 0,i64 (i:Int)],31)::(b0,[i64 0,aK [],i64 0,i64 0],31)::F) H5 nx5->
       bA P pl X0 (.jump (yJ (ptr b) (ptr b0) (ptr b1) (i64 0) y H5 nx5)) nx0 H0 (TkE b s i F nx0 H0):=by
       intro y H5 nx5 hy h5;refine Wq.jmp (YD ..) (λ_=>rfl) ?_;cases y with
       | true=>
         have hc2:=hy.1 rfl;rw[if_pos hc2]at hP;obtain⟨d,w,rfl⟩:∃d w,u=d::w:=by
          cases u with
          | nil=>cases hc2.2
          | cons d w=>exact⟨d,w,rfl⟩
         simp only[ao]at hul;refine Vu hlb hdr rfl hP (s.drop (i+2)) 2 H5 nx5 rfl (ax _) (by omega) ?_ h5;have:s.drop (i+2)=w:=by rw[<- cH,hdr];rfl
         rw[this]
       | false=>
         rw[if_neg (λq=>by have:=hy.2 q;cases this)]at hP;simp only[af];rw[zc ((h5.Dh.ag h5.ag).WH) X4 aa6 rfl];simp only[af];rw[<- hdr]at hP;exact Vt hlb (by omega) rfl hP bB 0 H5 nx5 rfl (by omega) rfl h5
      simp only[af];refine Wq.ite (λh39=> ?_) (λh39=>L46 _ _ _ (by simp;omega) h5);simp only[af,kT h5,A2 h5,aV _ bq,aT,az (show i<9223372036854775807 by omega)];refine Wq.ite (λhi2=> ?_) (λhi2=>L46 _ _ _ ?_ h5)
      . obtain⟨d,w,rfl⟩:∃d w,u=d::w:=by
         cases u with
         | nil=>simp at hul;omega
         | cons d w=>exact⟨d,w,rfl⟩
        have hg2:=(drop_cons hd').1;simp only[af,kT h5,A2 h5,az (show i<9223372036854775807 by omega),bF bq hg2];refine Hq.call (E7 d) h5 λH6 nx6 h6=> ?_;simp only[af];refine L46 _ _ _ ?_ h6;show cV d=true↔_/\cV d=true;exact⟨λq=>⟨by omega,q⟩,λq=>q.2⟩
      . cases u with
        | nil=>simp[nd]
        | cons d w=>simp at hul;omega
   refine Hq.call (E7 c) h4 λH5 nx5 h5=> ?_;cases hlow:cV c with
   | true=>
     simp only[af];exact L38 _ _ _ (by rw[hlow];rfl) h5
   | false=>
     simp only[af];refine Hq.call (Km c) h5 λH6 nx6 h6=> ?_;simp only[af];exact L38 _ _ _ (by rw[hlow];rfl) h6
end
section
variable {nx0 nx nx':Nat}{H0 H H':T OB}{F G:List Bx}{b:Nat}{s:List UInt8}
def lz (s:List UInt8):Nat->List Tok->Nat->List Tok×Nat×Int
 | 0,_,i=>([],i,70)
 | m+1,out,i=>if(gr (s.drop i)).2=false then([],i+(gr (s.drop i)).1,70)
   else if s.length<=i+(gr (s.drop i)).1 then(out++[⟨0,[],0,(s.length:Int)⟩],0,0)
   else match ox (s.drop (i+(gr (s.drop i)).1))with
    | none=>([],i+(gr (s.drop i)).1,70)
    | some q=>if 1000<=out.length then([],i+(gr (s.drop i)).1,3)
      else lz s m (out++[⟨q.1.k,q.1.s,q.1.n,((i+(gr (s.drop i)).1:Nat):Int)⟩]) (i+(gr (s.drop i)).1+q.2)
def scan (s:List UInt8):List Tok×Nat×Int:=if 4096<s.length then([],0,3)else lz s (s.length+1) [] 0
abbrev vc (q:List Tok×Nat×Int):Value:= .tuple ⟨[l9 q.1,i64 (q.2.1:Int),i64 q.2.2]⟩
theorem zz {r:List UInt8}{q:Tok×Nat}(h:ox r=some q):0<q.2/\q.2<=r.length:=by
 cases r with
 | nil=>cases h
 | cons c u=>
   rw[ju]at h
   by_cases hd:cu c=true
   . rw[if_pos hd]at h;have e:(c::u).takeWhile cu=c::u.takeWhile cu:=by rw[b_,hd];rfl
     rw[e]at h;unfold HI at h;have hle:=zy (p:=cu) u;cases hN:js 0 (c::u.takeWhile cu)with
     | none=>rw[hN]at h;cases h
     | some v=>rw[hN]at h;cases h;simp;omega
   rw[if_neg hd]at h;unfold zU at h
   by_cases h34:c.toNat=34
   . rw[if_pos h34]at h;obtain⟨q1,hq,rfl⟩:=bO.1 h;have:=Le hq;simp;omega
   rw[if_neg h34]at h
   by_cases hl:(cV c||cX c)=true
   . rw[if_pos hl]at h;have hle:=zy (p:=kB) u;cases h;simp;omega
   rw[if_neg hl]at h
   by_cases h39:c.toNat=39/\nd u=true
   . rw[if_pos h39]at h;cases u with
     | nil=>cases h39.2
     | cons d w=>
       have hle:=zy (p:=zx) w;cases h;simp only[List.drop_succ_cons,dq,ao];omega
   rw[if_neg h39]at h;obtain⟨x,hx,rfl⟩:=bO.1 h;have hp:=(dr.1 (by simpa using List.find?_some hx:x.isPrefixOf (c::u)=true)).length_le;have hm:=Lg _ (List.mem_of_find?_eq_some hx);refine⟨?_,hp⟩;cases x with
   | nil=>exact absurd rfl hm.2
   | cons a x=>simp
theorem adg:gY P 4 31=[]:=by kernel_rfl
theorem Lh (t:Tok):vl true 4 [t.v]:=λv hv=>by
 rw[aP]at hv;subst hv;exact⟨rfl,rfl,⟨_,rfl⟩⟩
theorem uE {x:Bx}{out:List Tok}{sl:Value}{kt:Value->T OB->Nat->Q}{R:Go.Ev.Out->T OB->Nat->Prop}(hG:Gw true 4 31 (out.map Tok.v) sl G)(h:Hp nx0 H0 (x::(G++F)) H nx)(hk:∀H' nx',Hp nx0 H0 (x::F) H' nx'->bA P pl X0 (kt (l9 out) H' nx') nx0 H0 R):bA P pl X0 (dM P 29 sl H nx kt) nx0 H0 R:=by
 have e:dM P 29 sl H nx kt=nA P 100000 29 sl H nx kt:=by
  unfold dM;rcases hG.2 with⟨_,rfl,_⟩ | ⟨b,c,rfl,_⟩<;>rfl
 rw[e];exact(fZ.gw (t:=29) (n:=0) kL fg nI rfl adg hG (m6.id λv hv=>by
  obtain⟨t,_,rfl⟩:=bo.1 hv;exact lE.of jJ.nil) (λu hu=>by obtain⟨x,_,rfl⟩:=bo.1 hu;rfl) id) 100000 (by omega) nx0 nx H0 H x F kt R h hk
theorem j5 (H:T OB)(nx:Nat)(k:Value->T OB->Nat->Q):dM P 29 a_ H nx k=k (l9 []) H nx:=by kernel_rfl
theorem Li (n:Int):cA P 31 (some [(0,i64 0),(3,i64 n)])=some (Tok.v ⟨0,[],0,n⟩):=cf ek (by kernel_rfl)
theorem Hq.Lj (A:List Bx){B:List Bx}{x:Bx}{c:Nat}{l:List Tok}{t:Tok}{sl:Value}{kt:Value->T OB->Nat->Q}{R:Go.Ev.Out->T OB->Nat->Prop}(hl:l.length<=1000000)(hG:Gw true 4 31 (l.map Tok.v) sl G)(h:Hp nx0 H0 (x::(c,t.c,31)::(A++(G++B))) H nx)
 (hk:∀sl' G' H' nx',Gw true 4 31 ((l++[t]).map Tok.v) sl' G'->Hp nx0 H0 (x::(A++(G'++B))) H' nx'->bA P pl X0 (kt sl' H' nx') nx0 H0 R):bA P pl X0 (bU (fe P H nx [29,29] (some [sl,.slice (some ⟨c,0,none⟩) 1 1])) kt) nx0 H0 R:=
 Hq.add A kL fg (KJ (by rw[aa];omega)) (by rw[aa];omega) (Lh t) hG h λsl' G' H' nx' hG' h'=>hk sl' G' H' nx' (by rw[dI];exact hG') h'
theorem Gw.adh {l:List Tok}{sl:Value}(hG:Gw true 4 31 (l.map Tok.v) sl G):e_ P #[29] 3 (some [sl])=some (i64 (l.length:Int)):=by
 rcases hG.2 with⟨h0,rfl,_⟩ | ⟨b,c,rfl,_⟩
 . rw[List.map_eq_nil_iff.1 h0];kernel_rfl
 . rw[aa];exact jH (by kernel_rfl)
theorem afk (hl:s.length<=4096):∀(m i:Nat) (out:List Tok) (sl:Value) (G:List Bx) (H:T OB) (nx:Nat),s.length-i<m->i<=s.length->out.length<=1000->Gw true 4 31 (out.map Tok.v) sl G->Hp nx0 H0 (DQ b s i::([]++(G++[]))) H nx->
 Wq P pl X0 (.jump (BN (aK s) (ptr b) sl H nx)) nx0 H0 (vc (lz s m out i)):=by
 have hbig:ei=1125899906842624:=rfl;intro m
 induction m with
 | zero=>intro i out sl G H nx hm;omega
 | succ m ih=>
   intro i out sl G H nx hm hi ho hG h;refine Wq.jmp (Ym ..) (λ_=>rfl) ?_;refine Sq.pc rfl (adb (by omega) hi h) λH1 aI h1=> ?_;have hle:=DK (s.drop i);rw[aD]at hle;unfold lz;generalize hp:gr (s.drop i)=p at h1 hle ⊢;obtain⟨n,ok⟩:=p;simp only at h1 hle ⊢;cases ok with
   | false=>
     rw[if_pos rfl];simp only[af,kT h1];rw[j5];exact Wq.ret h1.ag
   | true=>
     rw[if_neg (by decide)];simp only[af,kT h1,aV _ bq,aT];refine Wq.ite (λhge=> ?_) (λhge=> ?_)
     . rw[if_pos (by omega)];simp only[af,Li];refine Hq.row kL fg ek rfl (AJ _ _ _ _) h1 λc H2 nx2 h2=> ?_;refine Hq.Lj [] (t:=⟨0,[],0,(s.length:Int)⟩) (by omega) hG h2 λsl' G' H3 nx3 hG' h3=> ?_;refine uE hG' h3 λH4 nx4 h4=> ?_;exact Wq.ret h4.ag
     . have hlt:i+n<s.length:=by omega
       rw[if_neg (by omega)];refine Wq.lS rfl (adf (by omega) hlt h1) (λv H2 nx2 hA2 hR=> ?_) (λv H2 nx2 hA2 hR=>by obtain⟨t,k,q,_⟩:=hR;cases q);obtain⟨t,k,q,hT,h2⟩:=hR;cases q;refine Hq.var (x:=t.v) ek fg rfl rfl rfl h2 λH3 nx3 h3=> ?_;unfold TkA at hT;cases hx:ox (s.drop (i+n))with
       | none=>
         rw[hx]at hT;subst hT;simp only[af,kT h3];rw[j5];exact Wq.ret h3.ag
       | some q=>
         rw[hx]at hT;obtain⟨rfl,rfl⟩:=hT;have hpos:=zz hx;rw[aD]at hpos;simp only[af,show decide ((q.2:Int)=0)=false by simp;omega,hG.adh];refine Wq.ite (λh1000=> ?_) (λh1000=> ?_)
         . rw[if_pos (by omega)];simp only[af,kT h3];rw[j5];exact Wq.ret h3.ag
         . rw[if_neg (by omega)];refine Hq.row kL fg ek rfl (AJ _ _ _ _) h3 λc H4 nx4 h4=> ?_;refine Hq.Lj [] (t:=⟨q.1.k,q.1.s,q.1.n,((i+n:Nat):Int)⟩) (by omega) hG h4 λsl' G' H5 nx5 hG' h5=> ?_;have ew:IntKind.i64.wrap (((i+n:Nat):Int)+(q.2:Int))=((i+n+q.2:Nat):Int):=by rw[aS (by omega)];omega
           simp only[af,kT h5,ew];refine Hq.put [] h5 oV rfl rfl (by simp) rfl λH6 h6=> ?_;exact ih (i+n+q.2) _ sl' G' H6 nx5 (by omega) (by omega) (by rw[aj,dU];omega) hG' h6
theorem adi (s:List UInt8)(hl:s.length<ei):PT 28 [aK s] (vc (scan s)):=PT.of rfl λH nx hT=>by
 rw[q28];unfold scan;simp only[af,aV _ bq,aT];refine Wq.ite (λh=> ?_) (λh=> ?_)
 . rw[if_pos (by omega),j5];exact Wq.ret (.refl _ _)
 . rw[if_neg (by omega)];have e:cA P 95 (some [(0,aK s)])=some (.agg ⟨[aK s,i64 0]⟩):=cf (show dD P 95=some [aK [],i64 0]by kernel_rfl) (by kernel_rfl);simp only[af,e];refine Wq.box (.refl _ _) λH1 hb dZ hA=> ?_;have h0:Hp nx H [] H nx:=⟨hT,Ag.refl nx H,by simp,λx hx=>by simp at hx⟩;exact afk (by omega) (s.length+1) 0 [] a_ [] H1 (nx+1) (by omega) (aN _) (by simp) (Gw.nil _ _ _) (h0.new hb dZ hA)
end
section
variable {t:Tok}{ts rs:List Tok}{r s x:List UInt8}
def sp (r:List UInt8):Prop:=∀c u,r=c::u->c=32\/c=41
theorem HL {p:UInt8->Bool}{l r:List UInt8}(h:l.all p=true)(hr:∀c u,r=c::u->p c=false):(l++r).takeWhile p=l:=by
 rw[List.takeWhile_append_of_pos (aM.1 h)];cases r with
 | nil=>simp
 | cons c u=>rw[b_,hr c u rfl];simp
theorem RF (p:UInt8->Bool)(h1:p 32=false)(h2:p 41=false)(h:sp r):∀c u,r=c::u->p c=false:=λc u e=>by
 rcases h c u e with q | q
 . rw[q];exact h1
 . rw[q];exact h2
theorem A3:∀n:Nat,n<10->cu ((48+n).toUInt8)=true/\dv ((48+n).toUInt8)=n:=by decide
theorem Vv (u:Nat):∀s,u<=4611686018427387903->js 0 (tx u s)=js u s:=by
 induction u using iH with
 | _ u ih=>
   intro s hu;rw[tx]
   by_cases h:u<10
   . rw[if_pos h,js,(A3 u h).1,(A3 u h).2,if_pos ⟨rfl,aN _⟩,Nat.zero_mul,bN]
   . rw[if_neg h,ih (u/10) (by omega) _ (by omega),js,(A3 (u%10) (dV _ (by omega))).1,(A3 (u%10) (dV _ (by omega))).2,if_pos ⟨rfl,by omega⟩];congr 1;omega
theorem Vw (u:Nat):∀s,s.all cu=true->(tx u s).all cu=true:=by
 induction u using iH with
 | _ u ih=>
   intro s hs;rw[tx]
   by_cases h:u<10
   . rw[if_pos h,cW,(A3 u h).1,hs];rfl
   . rw[if_neg h];exact ih (u/10) (by omega) _ (by rw[cW,(A3 (u%10) (dV _ (by omega))).1,hs];rfl)
theorem Xy:∀n:Nat,n<16->eR (hx n)=n:=by decide +kernel
theorem adj (c:UInt8):dh (16*((c.toNat/16:Nat):Int)+((c.toNat%16:Nat):Int)).toNat=c:=by
 have h:(16*((c.toNat/16:Nat):Int)+((c.toNat%16:Nat):Int)).toNat=c.toNat:=by omega
 rw[h];exact UInt8.ofNat_toNat
theorem Lk (c:UInt8)(r:List UInt8):eo (qc c++r)=(c,(qc c).length)/\0<(qc c).length/\∃a u,qc c=a::u/\a.toNat≠34:=by
 have hc:=c.toNat_lt;unfold qc
 by_cases h1:c.toNat=34\/c.toNat=92
 . rw[if_pos h1];refine⟨?_,Nat.succ_pos _,_,_,rfl,by decide⟩;show eo (92::c::r)=_;rw[gB,if_neg (by decide),if_pos (by decide),fp];rcases h1 with h | h
   . rw[if_pos h];have:c=34:=bJ.1 h;subst this;rfl
   . rw[if_neg (by omega),if_pos h];have:c=92:=bJ.1 h;subst this;rfl
 rw[if_neg h1]
 by_cases h2:c.toNat=10
 . rw[if_pos h2];have:c=10:=bJ.1 h2;subst this;exact⟨rfl,by decide,_,_,rfl,by decide⟩
 rw[if_neg h2]
 by_cases h3:c.toNat=9
 . rw[if_pos h3];have:c=9:=bJ.1 h3;subst this;exact⟨rfl,by decide,_,_,rfl,by decide⟩
 rw[if_neg h3]
 by_cases h4:c.toNat<32\/126<c.toNat
 . rw[if_pos h4];refine⟨?_,Nat.succ_pos _,_,_,rfl,by decide⟩;show eo (92::120::hx (c.toNat/16)::hx (c.toNat%16)::r)=_;rw[gB,if_neg (by decide),if_pos (by decide),fp,if_neg (by decide),if_neg (by decide),if_neg (by decide),if_neg (by decide),if_pos (by decide)];unfold Fh;simp only;rw[Xy _ (by omega),Xy _ (by omega),if_pos ⟨by omega,by omega⟩,adj];rfl
 . rw[if_neg h4];refine⟨?_,Nat.succ_pos _,_,_,rfl,by omega⟩;show eo (c::r)=_;rw[gB,if_neg (by omega),if_neg (by omega)];rfl
theorem adk (s:List UInt8):∀(f:Nat),s.length<f->qt f (qs s++34::r)=some (s,(qs s).length+1):=by
 induction s with
 | nil=>
   intro f hf;obtain⟨g,rfl⟩:∃g,f=g+1:=⟨f-1,by simp at hf;omega⟩;show qt (g+1) (34::r)=_;rw[nT,if_pos (by decide)];rfl
 | cons c s ih=>
   intro f hf;obtain⟨g,rfl⟩:∃g,f=g+1:=⟨f-1,by simp at hf;omega⟩;have e:qs (c::s)++34::r=qc c++(qs s++34::r):=by simp[qs]
   obtain⟨h1,h2,a,u,h3,h4⟩:=Lk c (qs s++34::r);rw[e];have e2:qc c++(qs s++34::r)=a::(u++(qs s++34::r)):=by rw[h3];rfl
   rw[e2,nT,if_neg h4,<- e2,h1,if_neg (by show ¬(qc c).length=0;omega)];simp only;rw[List.drop_left,ih g (by simp at hf;omega)];simp[qs,aj];omega
theorem RG:∀s∈bB,(∀r,bB.find? (λx=>x.isPrefixOf (s++32::r))=some s)/\(∀r,bB.find? (λx=>x.isPrefixOf (s++41::r))=some s)/\bB.find? (λx=>x.isPrefixOf (s++[]))=some s:=by
 intro s hs;simp only[bB,aG,cO,or_false]at hs;rcases hs with rfl | rfl | rfl | rfl | rfl | rfl | rfl | rfl | rfl | rfl | rfl | rfl | rfl | rfl | rfl | rfl | rfl | rfl | rfl | rfl | rfl | rfl
 all_goals exact⟨λr=>rfl,λr=>rfl,rfl⟩
theorem Ll:∀s∈bB,∃c u,s=c::u/\cu c=false/\c.toNat≠34/\(cV c||cX c)=false/\c.toNat≠39/\ws c=false/\(c=40->u=[])/\(c=42->s=[42]):=by
 intro s hs;simp only[bB,aG,cO,or_false]at hs;rcases hs with rfl | rfl | rfl | rfl | rfl | rfl | rfl | rfl | rfl | rfl | rfl | rfl | rfl | rfl | rfl | rfl | rfl | rfl | rfl | rfl | rfl | rfl
 all_goals exact⟨_,_,rfl,by decide,by decide,by decide,by decide,by decide,by decide,by decide⟩
theorem MJ {s:List UInt8}(hs:s∈bB)(hr:sp r):bB.find? (λx=>x.isPrefixOf (s++r))=some s:=by
 obtain⟨h1,h2,h3⟩:=RG s hs;cases r with
 | nil=>exact h3
 | cons c u=>
   rcases hr c u rfl with rfl | rfl
   . exact h1 u
   . exact h2 u
theorem RH (n:Int)(h0:0<=n):∃c u,uh n=c::u/\cu c=true/\u.all cu=true:=by
 have h1:(uh n).all cu=true:=by unfold uh;rw[if_neg (by omega)];exact Vw _ [] rfl
 cases h:uh n with
 | nil=>exact absurd h (Q5 n)
 | cons c u=>
   rw[h,cW,ae]at h1;exact⟨c,u,rfl,h1.1,h1.2⟩
theorem aaA (h:rM t):∃c u,ck t=c::u/\ws c=false/\(c=40->u=[])/\(c=42->t.k=7/\t.s=[42]):=by
 obtain⟨h1,h2,h3,h4⟩:=h;have dgw:∀c:UInt8,cu c=true->ws c=false/\c≠40/\c≠42:=by
  intro c hc;rw[kO]at hc;refine⟨?_,λe=>by subst e;simp at hc,λe=>by subst e;simp at hc⟩;unfold ws;simp only[dy,beq_eq_false_iff_ne];refine⟨⟨⟨λe=> ?_,λe=> ?_⟩,λe=> ?_⟩,λe=> ?_⟩ <;> · subst e;simp at hc
 have ltw:∀c:UInt8,(cV c||cX c)=true->ws c=false/\c≠40/\c≠42:=by
  intro c hc;unfold cV cX at hc;simp only[bl,ae,decide_eq_true_eq]at hc;refine⟨?_,λe=>by subst e;simp at hc,λe=>by subst e;simp at hc⟩;unfold ws;simp only[dy,beq_eq_false_iff_ne];refine⟨⟨⟨λe=> ?_,λe=> ?_⟩,λe=> ?_⟩,λe=> ?_⟩ <;> · subst e;simp at hc
 unfold ck;unfold cP at h1;rw[if_neg h2]at h1
 by_cases k1:t.k=1
 . rw[if_pos k1]at h1 ⊢;simp only[ae,decide_eq_true_eq]at h1;obtain⟨c,u,e,hc,_⟩:=RH t.n h1.2.1;obtain⟨w1,w2,w3⟩:=dgw c hc;exact⟨c,u,e,w1,λq=>absurd q w2,λq=>absurd q w3⟩
 rw[if_neg k1]at h1 ⊢
 by_cases k2:t.k=2
 . rw[if_pos k2];exact⟨34,_,rfl,by decide,λq=>absurd q (by decide),λq=>absurd q (by decide)⟩
 rw[if_neg k2]at h1 ⊢
 by_cases k7:t.k=7
 . rw[if_pos k7,ae]at h1;obtain⟨c,u,e,_,_,_,_,w,w1,w2⟩:=Ll t.s (by simpa using h1.2);exact⟨c,u,e,w,w1,λq=>⟨k7,w2 q⟩⟩
 rw[if_neg k7]at h1
 by_cases k5:t.k=5
 . rw[if_pos k5,ae]at h1
   match t.s,h1.1 with
   | [],h=>cases h
   | [_],h=>cases h
   | a::b::u,h=>
     have h':(decide (a.toNat=39)&&(cV b&&u.all λc=> !decide (c.toNat=39)&&kB c))=true:=h;rw[ae,decide_eq_true_eq]at h';have:a=39:=bJ.1 h'.1;subst this;exact⟨39,_,rfl,by decide,λq=>absurd q (by decide),λq=>absurd q (by decide)⟩
 rw[if_neg k5]at h1;split at h1
 . rw[ae]at h1
   match t.s,h1.1 with
   | [],h=>cases h
   | c::u,h=>
     have h':((cV c||cX c)&&u.all kB)=true:=h;rw[ae]at h';obtain⟨w1,w2,w3⟩:=ltw c h'.1;exact⟨c,u,rfl,w1,λq=>absurd q w2,λq=>absurd q w3⟩
 . cases h1
theorem Vx (h:rM t)(hr:sp r):∃q,ox (ck t++r)=some (q,(ck t).length)/\kY q t:=by
 obtain⟨h1,h2,h3,h4⟩:=h;unfold ck;unfold cP at h1;rw[if_neg h2]at h1
 by_cases k1:t.k=1
 . rw[if_pos k1]at h1 ⊢;simp only[ae,decide_eq_true_eq]at h1;obtain⟨c,u,e,hc,hu⟩:=RH t.n h1.2.1;have hd:(uh t.n).all cu=true:=by rw[e,cW,hc,hu];rfl
   have hw:(uh t.n++r).takeWhile cu=uh t.n:=HL hd (RF _ (by decide) (by decide) hr);have hnum:js 0 (uh t.n)=some t.n.natAbs:=by
    unfold uh;rw[if_neg (by omega),Vv _ _ (by omega)];rfl
   rw[e]at hw ⊢;show ∃q,ox (c::(u++r))=_/\_;rw[ju,if_pos hc];rw[show c::(u++r)=c::u++r from rfl,hw];unfold HI;rw[<- e,hnum];exact⟨_,rfl,k1.symm,h1.1.symm,by show((t.n.natAbs:Nat):Int)=t.n;omega⟩
 rw[if_neg k1]at h1 ⊢
 by_cases k2:t.k=2
 . rw[if_pos k2]at h1 ⊢;rw[decide_eq_true_eq]at h1;have e:quote t.s++r=34::(qs t.s++34::r):=by simp[quote]
   rw[e,ju,if_neg (by decide)];unfold zU;rw[if_pos (by decide),adk t.s _ (by
    have:t.s.length<=(qs t.s).length:=by
     have:∀l:List UInt8,l.length<=(qs l).length:=λl=>by
      induction l with
      | nil=>simp
      | cons a l ih=>
        have:=(Lk a []).2.1;simp only[qs,fj,aj,ao]at ih ⊢;omega
     exact this _
    rw[aj,ao];omega)]
   exact⟨⟨2,t.s,0,0⟩,by rw[dH];congr 2;simp[quote];omega,k2.symm,rfl,h1.symm⟩
 rw[if_neg k2]at h1 ⊢
 by_cases k7:t.k=7
 . rw[if_pos k7,ae,decide_eq_true_eq]at h1;have hs:t.s∈bB:=by simpa using h1.2
   obtain⟨c,u,e,w1,w2,w3,w4,_,_,_⟩:=Ll t.s hs;have hf:=MJ hs hr;have e':=e;generalize t.s=s at e hf ⊢;subst e;show ∃q,ox (c::(u++r))=_/\_;rw[ju,if_neg (by rw[w1];decide)];unfold zU;rw[if_neg w2,if_neg (by rw[w3];decide),if_neg (λq=>w4 q.1),show c::(u++r)=c::u++r from rfl,hf,dH];exact⟨⟨7,c::u,0,0⟩,rfl,k7.symm,e'.symm,h1.1.symm⟩
 rw[if_neg k7]at h1
 by_cases k5:t.k=5
 . rw[if_pos k5,ae,decide_eq_true_eq]at h1
   match hts:t.s,h1.1 with
   | [],h=>cases h
   | [_],h=>cases h
   | a::b::u,h=>
     have h':(decide (a.toNat=39)&&(cV b&&u.all λc=> !decide (c.toNat=39)&&kB c))=true:=h;rw[ae,decide_eq_true_eq,ae]at h';have e:a=39:=bJ.1 h'.1;subst e;show ∃q,ox (39::(b::u++r))=_/\_;rw[ju,if_neg (by decide)];unfold zU;have hw:(List.drop 1 (b::u++r)).takeWhile zx=u:=HL (p:=zx) h'.2.2 (RF _ (by decide) (by decide) hr);rw[if_neg (by decide),if_neg (by decide),if_pos ⟨by decide,h'.2.1⟩,hw];refine⟨⟨5,List.take (2+u.length) (39::(b::u++r)),0,0⟩,?_,k5.symm,?_,h1.2.symm⟩
     rotate_left
     . show List.take (2+u.length) (39::(b::u++r))=t.s;rw[hts,show 39::(b::u++r)=(39::b::u)++r from rfl,show 2+u.length=(39::b::u:List UInt8).length by simp;omega,List.take_left]
     . congr 2;simp;omega
 rw[if_neg k5]at h1
 by_cases kw:t.k=3\/t.k=4\/t.k=6
 . rw[if_pos kw,ae,ae,decide_eq_true_eq,decide_eq_true_eq]at h1
   match hts:t.s,h1.1 with
   | [],h=>cases h
   | c::u,h=>
     have h':((cV c||cX c)&&u.all kB)=true:=h;rw[ae]at h';obtain⟨g1,g2,g3⟩:=HG h'.1;have hw:(u++r).takeWhile kB=u:=HL h'.2 (RF _ (by decide) (by decide) hr);show ∃q,ox (c::(u++r))=_/\_;rw[ju,if_neg (by rw[g1];decide)];unfold zU;rw[if_neg g2,if_pos h'.1,hw];refine⟨⟨iA (c::u),c::u,0,0⟩,?_,?_,hts.symm,h1.2.1.symm⟩
     rotate_left
     . show iA (c::u)=t.k;rw[<- hts];exact h1.2.2
     . congr 2;simp;omega
 . rw[if_neg kw]at h1;cases h1
def Lx:List UInt8->List Tok->Prop
 | r,[]=>(gr r).2=true/\r.length<=(gr r).1
 | r,t::ts=>(gr r).2=true/\¬r.length<=(gr r).1/\∃q n,ox (r.drop (gr r).1)=some (q,n)/\kY q t/\Lx (r.drop ((gr r).1+n)) ts
theorem Lx.nil:Lx [] []:=by
 show(gr []).2=true/\_;rw[gr];exact⟨rfl,ax _⟩
theorem Lx.sp (h:Lx r ts):Lx (32::r) ts:=by
 have e:gr (32::r)=((gr r).1+1,(gr r).2):=HE (by decide);cases ts with
 | nil=>
   show(gr (32::r)).2=true/\(32::r).length<=(gr (32::r)).1;rw[e,ao];exact⟨h.1,by have:=h.2;simp only;omega⟩
 | cons t ts=>
   obtain⟨h1,h2,q,n,h3,h4,h5⟩:=h;refine⟨by rw[e];exact h1,by rw[e,ao];simp only;omega,q,n,?_,h4,?_⟩
   . rw[e];exact h3
   . rw[e];show Lx ((32::r).drop ((gr r).1+1+n)) ts;rw[show(gr r).1+1+n=(gr r).1+n+1 by omega,List.drop_succ_cons];exact h5
theorem Lx.tok {c:UInt8}{u:List UInt8}{q:Tok}(hx:x=c::u)(hw:ws c=false)(h40:¬(c=40/\(u++r).head? = some 42))(hl:ox (x++r)=some (q,x.length))(he:kY q t)(h:Lx r ts):Lx (x++r) (t::ts):=by
 have e:gr (x++r)=(0,true):=by
  rw[hx];exact zv (by rw[hw];decide) h40
 refine⟨by rw[e],by rw[e,hx];simp,q,x.length,by rw[e];exact hl,he,?_⟩;rw[e];show Lx ((x++r).drop (0+x.length)) ts;rw[bN,List.drop_left];exact h
theorem Lx.rM (hg:rM t)(hr:Go.Proofs.YthjhonhhbddhkaaGreatDoor.sp r)(h:Lx r ts):Lx (ck t++r) (t::ts):=by
 obtain⟨q,h1,h2⟩:=Vx hg hr;obtain⟨c,u,e,hw,h40,_⟩:=aaA hg;refine Lx.tok e hw ?_ h1 h2 h;rintro⟨rfl,q2⟩;rw[h40 rfl]at q2;cases r with
 | nil=>cases q2
 | cons d v=>
   have:d=42:=by simpa using q2
   subst this;rcases hr 42 v rfl with h | h<;>cases h
theorem aaB:sp []:=λc u e=>by cases e
theorem adl:sp (32::r):=λc u e=>by cases e;exact .inl rfl
theorem Lx.zo (ts:List Tok)(hg:∀t,t∈ts->Go.Proofs.YthjhonhhbddhkaaGreatDoor.rM t)(hr:Go.Proofs.YthjhonhhbddhkaaGreatDoor.sp r)(h:Lx r rs):Lx (zo ts++r) (ts++rs):=by
 induction ts with
 | nil=>exact h
 | cons t ts ih=>
   cases ts with
   | nil=>exact Lx.rM (hg t (by simp)) hr h
   | cons u ts=>
     rw[tj (by simp),bn,eZ];exact Lx.rM (hg t (by simp)) adl (Lx.sp (ih λx hx=>hg x (by simp[hx])))
def RX:List Tok->List Tok->Prop
 | [],[]=>True
 | a::l,b::m=>kY a b/\RX l m
 | _,_=>False
theorem RX.sg {a b:List Tok}:∀{out rest:List Tok},RX a b->Sg (out++a++rest) out.length b (out.length+a.length):=by
 induction a generalizing b with
 | nil=>
   intro out rest h;cases b with
   | nil=>show out.length=_;simp
   | cons x b=>cases h
 | cons x a ih=>
   intro out rest h;cases b with
   | nil=>cases h
   | cons y b=>
     obtain⟨h1,h2⟩:=h;refine⟨?_,?_⟩
     . unfold tk;simp only[bn,eZ];rw[bZ (ax _),Nat.sub_self];exact h1
     . have:=ih (out:=out++[x]) (rest:=rest) h2;simp only[aj,ao,c_,bn,eZ,cj]at this ⊢;rw[show out.length+(a.length+1)=out.length+(0+1)+a.length by omega];exact this
theorem RX.len {a b:List Tok}(h:RX a b):a.length=b.length:=by
 induction a generalizing b with
 | nil=>cases b with | nil=>rfl | cons _ _=>cases h
 | cons x a ih=>cases b with | nil=>cases h | cons _ _=>rw[ao,ao,ih h.2]
theorem Vy (s:List UInt8):∀(ts:List Tok) (m:Nat) (out:List Tok) (i:Nat),i<=s.length->s.length-i<m->Lx (s.drop i) ts->
 (1000<out.length+ts.length/\1000<out.length+1+ts.length/\(out.length<=1000->∃j,lz s m out i=([],j,3)))\/(out.length+ts.length<=1000/\∃tl,RX tl ts/\lz s m out i=(out++tl++[⟨0,[],0,(s.length:Int)⟩],0,0)):=by
 intro ts
 induction ts with
 | nil=>
   intro m out i hi hm hL;obtain⟨h1,h2⟩:=hL;rw[aD]at h2;obtain⟨m,rfl⟩:∃m',m=m'+1:=⟨m-1,by omega⟩;have e:lz s (m+1) out i=(out++[⟨0,[],0,(s.length:Int)⟩],0,0):=by
    unfold lz;rw[if_neg (by rw[h1];decide),if_pos (by omega)]
   by_cases ho:out.length<=1000
   . exact .inr ⟨by simpa using ho,[],trivial,by rw[e,bf]⟩
   . exact .inl ⟨by simp;omega,by simp;omega,λq=>absurd q ho⟩
 | cons t ts ih=>
   intro m out i hi hm hL;obtain⟨h1,h2,q,n,h3,h4,h5⟩:=hL;rw[aD]at h2;rw[cH]at h3 h5;obtain⟨m,rfl⟩:∃m',m=m'+1:=⟨m-1,by omega⟩;have hp:=zz h3;rw[aD]at hp;have e:lz s (m+1) out i=if 1000<=out.length then([],i+(gr (s.drop i)).1,3)
    else lz s m (out++[⟨q.k,q.s,q.n,((i+(gr (s.drop i)).1:Nat):Int)⟩]) (i+(gr (s.drop i)).1+n):=by
    conv=>lhs;unfold lz
    rw[if_neg (by rw[h1];decide),if_neg (by omega),h3]
   rw[ao]
   by_cases ho:1000<=out.length
   . rw[e,if_pos ho];exact .inl ⟨by omega,by omega,λ_=>⟨_,rfl⟩⟩
   . rw[e,if_neg ho];have:=ih m (out++[⟨q.k,q.s,q.n,((i+(gr (s.drop i)).1:Nat):Int)⟩]) (i+(gr (s.drop i)).1+n) (by omega) (by simp only at hp;omega) (by rw[<- iK]at h5;exact h5);rw[aj,dU]at this;rcases this with⟨g1,g2,g3⟩ | ⟨g1,tl,g2,g3⟩
     . exact .inl ⟨by omega,by omega,λ_=>g3 (by omega)⟩
     . refine .inr ⟨by omega,⟨q.k,q.s,q.n,((i+(gr (s.drop i)).1:Nat):Int)⟩::tl,⟨h4,g2⟩,?_⟩;rw[g3];simp
theorem Vz {s:List UInt8}(h:Lx s ts):((4096<s.length\/1000<ts.length)/\∃j,scan s=([],j,3))\/(s.length<=4096/\ts.length<=1000/\∃tl,RX tl ts/\scan s=(tl++[⟨0,[],0,(s.length:Int)⟩],0,0)):=by
 unfold scan
 by_cases hs:4096<s.length
 . rw[if_pos hs];exact .inl ⟨.inl hs,0,rfl⟩
 . rw[if_neg hs];rcases Vy s ts (s.length+1) [] 0 (aN _) (by omega) (by simpa using h)with⟨g1,_,g3⟩ | ⟨g1,tl,g2,g3⟩
   . exact .inl ⟨.inr (by simpa using g1),g3 (by simp)⟩
   . exact .inr ⟨by omega,by simpa using g1,tl,g2,by simpa using g3⟩
end
end
end Go.Proofs.YthjhonhhbddhkaaGreatDoor
namespace Go.Proofs.YthjhonhhbddhkaaGreatDoor
open Go.Ev Go.RowKit Go.ChangeShapes Go.WideShapes Go.ChangeAt
noncomputable section
set_option maxRecDepth 100000
set_option linter.unusedVariables false
set_option linter.unusedSimpArgs false
set_option maxHeartbeats 8000000
section
variable {nx0:Nat}{H0:T OB}
theorem afl (l:List bm)(hl:l.length<ei)(hok:∀d,d∈l->d.ok)(H:T OB)(nx:Nat)(hA:Ag nx0 H0 nx H):e8 P pl X0 (aX P pl (.call 18 [cb l] false none H nx)) nx0 H0 (λv _ _=>∃b:Bool,v= .bool b/\(b=false->dF l<=500)):=by
 rw[q18];refine Wq.qL rfl (aeQ l hl hok 500 (by omega) nx0 H0 H nx hA) λu H1 aI hA1 hu=> ?_;obtain⟨r,rfl,_,_,_,h4⟩:=hu;simp only[af];refine Wq.mf hA1 ⟨_,rfl,λh=> ?_⟩;have h5:=of_decide_eq_false h;have:=h4 (by omega);omega
end
end
end Go.Proofs.YthjhonhhbddhkaaGreatDoor
namespace Go.Proofs.YthjhonhhbddhkaaGreatDoor
open Go.Ev Go.RowKit
noncomputable section
set_option maxRecDepth 100000
set_option linter.unusedVariables false
set_option linter.unusedSimpArgs false
set_option maxHeartbeats 8000000
section
variable {nx0 nx:Nat}{H0 H:T OB}{R:Value->T OB->Nat->Prop}
theorem adm (l:List bm)(hl:l.length<ei)(hok:∀d,d∈l->d.ok)(hz:dF l<=500):PT 19 [cb l] (.tuple ⟨[aK (if eK l=true then zo (ib l)else[]),i64 (if eK l=true then 0 else 110)]⟩):=PT.of rfl λH nx hT=>by
 rw[q19];refine Wq.qL rfl (aeW hT l hl hok hz (.refl _ _)) λu H1 aI hA1 hu=> ?_;obtain⟨toks,sl,rfl,hS,hd,hn⟩:=hu;simp only[af,show bH (some (.tuple ⟨[sl,.bool (eK l)]⟩)) 0=some sl from rfl,show bH (some (.tuple ⟨[sl,.bool (eK l)]⟩)) 1=some (.bool (eK l))from rfl];cases hr:eK l with
 | false=>exact Wq.ret hA1
 | true=>
   simp only[af];obtain rfl:=hd hr;have hG:=Dy l hr hok;refine Wq.qL rfl (ae1 hT (ib l) (by unfold ei;omega) hG.1 (ga hG.2 (by omega)) hS hA1) λu H2 nx2 hA2 hu=> ?_;subst hu;rw[aah hG.1];exact Wq.ret hA2
theorem afm (a b:Value):bH (some (.tuple ⟨[a,b]⟩)) 0=some a:=rfl
theorem afn (a b:Value):bH (some (.tuple ⟨[a,b]⟩)) 1=some b:=rfl
end
section
variable {nx0:Nat}{H0:T OB}
theorem tt {H:T OB}{l:List UInt8}{hi:Nat}(h1:hi<=l.length):cw P H 9 (some (aK l)) (some none) (some (some (i64 (hi:Int)))) (some none)=some (aK (l.take hi)):=by
 show tz P 9 (aK l) (some none) (some (some (i64 (hi:Int)))) (some none)=_;show fV P (Instr.sliceAt 9 (aK l) none (some (i64 (hi:Int))) none)=_;have e0:(⟨⟨l⟩⟩:ByteArray).extract 0 hi=⟨⟨l.take hi⟩⟩:=by
  apply ByteArray.ext;rw[ByteArray.data_extract];apply eU;simp
 have e1:dW P (Instr.sliceAt 9 (aK l) none (some (i64 (hi:Int))) none)=some (aK (l.take hi)):=by
  unfold Instr.sliceAt;simp only[cB,eW bq,ba];unfold Instr.slice;simp only[cB,eW bq,ba];unfold Instr.sliceBounds Instr.sliceBound;simp only[cB,asIntOf,iL];have pp:∀{α:Type} (a:α),dW P (pure a:Sem α)=some a:=λ_=>rfl;rw[if_neg (by decide)];simp only[cB,pp,ba];have c1:(0:Int)<=(hi:Int)/\(hi:Int)<=((⟨⟨l⟩⟩:ByteArray).size:Int):=⟨by omega,by rw[aT];omega⟩;rw[if_pos c1];simp only[pp,ba,Int.toNat_natCast,e0]
 exact ue e1 rfl
theorem aaC (s:List UInt8)(hl:s.length<ei):∀(r:List UInt8) (i:Nat) (H:T OB) (nx:Nat),s.drop i=r->i<=s.length->Ag nx0 H0 nx H->
 Wq P pl X0 (.jump (JT (aK s) (i64 (i:Int)) H nx)) nx0 H0 (i64 ((i+(r.takeWhile cu).length:Nat):Int)):=by
 intro r
 induction r with
 | nil=>
   intro i H nx hd hi hA;have hil:=drop_nil hd hi;refine Wq.jmp (Wz ..) (λ_=>rfl) ?_;simp only[af,aV _ bq,aT,hil,aF];exact Wq.ret hA
 | cons c r ih=>
   intro i H nx hd hi hA;obtain⟨hg,hlt,hd'⟩:=drop_cons hd;refine Wq.jmp (Wz ..) (λ_=>rfl) ?_;simp only[af,aV _ bq,aT,aJ hlt,bF bq hg .i64];refine Wq.call (C8 c) hA λH1 aI hA1=> ?_;rw[b_];cases cu c with
   | false=>
     simp only[af];exact Wq.ret hA1
   | true=>
     simp only[af,az (show i<9223372036854775807 by have:=cv hl;omega)];rw[if_pos trivial,ao,show i+((r.takeWhile cu).length+1)=i+1+(r.takeWhile cu).length by omega];exact ih (i+1) H1 aI hd' (by omega) hA1
theorem adn (s:List UInt8)(hl:s.length<ei):P0 92 [aK s] (i64 ((s.takeWhile cu).length:Int)):=Pure.of rfl λH nx=>by
 rw[q92];have:=aaC (nx0:=nx) (H0:=H) s hl s 0 H nx rfl (aN _) (.refl _ _);rwa[bN]at this
def VA:Option (Tok×Nat)->Value
 | some q=> .tuple ⟨[q.1.v,i64 (q.2:Int)]⟩
 | none=> .tuple ⟨[Tok.v ⟨0,[],0,0⟩,i64 0]⟩
theorem Lm (t:Tok)(n:Int){b:Nat}{nx:Nat}{H:T OB}{l:List Value}(hl:l.length=4)(hb:dO H b l 31)(hbn:nx0<=b)(hA:Ag nx0 H0 nx H):
 Wq P pl X0 (bU (eD P H nx 31 (some (ptr b)) (some t.v)) λ_ H nx'=>aw (aA P H 31 (some (ptr b))) (λx=> .ret ⟨.ret (.tuple ⟨[x,i64 n]⟩),false,H,nx'⟩) .bad) nx0 H0 (.tuple ⟨[t.v,i64 n]⟩):=by
 obtain⟨a0,a1,a2,a3,rfl⟩:∃a0 a1 a2 a3,l=[a0,a1,a2,a3]:=by
  match l with
  | [a0,a1,a2,a3]=>exact⟨a0,a1,a2,a3,rfl⟩
 refine Wq.store hb fg (by simp) rfl rfl hA hbn λH3 hb3 _ hA3=> ?_;have hb3':dO H3 b t.c 31:=hb3;rw[cR hb3' nI fg (by simp)];exact Wq.ret hA3
theorem VB (s:List UInt8)(hl:s.length<=1000000){b:Nat}(hbn:nx0<=b){l:List Value}(hl4:l.length=4):∀(n:Nat) (H:T OB) (nx:Nat),n<=s.length->b<nx->dO H b l 31->Ag nx0 H0 nx H->
 Wq P pl X0 (.jump (B2 (aK s) (ptr b) (i64 (n:Int)) H nx)) nx0 H0 (VA (vb s n)):=by
 intro n
 induction n with
 | zero=>
   intro H nx hn hbx hb hA;refine Wq.jmp (Oi ..) (λ_=>rfl) ?_;simp only[af];exact Lm ⟨0,[],0,0⟩ 0 hl4 hb hbn hA
 | succ n ih=>
   intro H nx hn hbx hb hA;refine Wq.jmp (Oi ..) (λ_=>rfl) ?_;simp only[af,show decide (0<(((n+1:Nat)):Int))=true by simp,tt hn];refine Wq.gZ (P1 (s.take (n+1)) (by rw[cC];omega)) hA λH1 aI hA1 n1 k1=> ?_;have hb1:=k1 _ _ _ hbx hb;rw[vb];generalize dw (s.take (n+1))=p;obtain⟨t,ok⟩:=p;have x0:bH (some (Fj (t,ok))) 0=some t.v:=rfl;have x1:bH (some (Fj (t,ok))) 1=some (.bool ok):=rfl;simp only[af,x0,x1];refine Wq.NC (x:=t.v) ek fg rfl rfl rfl hA1 λH2 nx2 hA2 n2 k2=> ?_;have hb2:=k2 _ _ _ (by omega) hb1;cases ok with
   | true=>
     rw[if_pos rfl];simp only[af];exact Lm t _ hl4 hb2 hbn hA2
   | false=>
     rw[if_neg (by decide)];simp only[af,show IntKind.i64.wrap (((n+1:Nat):Int)-1)=(n:Int)from by rw[aS (by omega)];omega];exact ih H2 nx2 (by omega) (by omega) hb2 hA2
theorem ado (s:List UInt8)(hl:s.length<=1000000):P0 47 [aK s] (VA (Vq s)):=Pure.of rfl λH nx=>by
 have hbig:ei=1125899906842624:=rfl;rw[q47];refine Wq.alloc ek (.refl _ _) λH1 hb1 _ hA1=> ?_;refine Wq.gZ (adn s (by omega)) hA1 λH2 nx2 hA2 n2 k2=> ?_;replace hb1:=k2 _ _ _ (bz nx) hb1;have hle:=zy (p:=cu) s;unfold Vq;simp only[af];refine Wq.ite (λh0=> ?_) (λh0=> ?_)
 . rw[if_pos (by omega)];simp only[af,tt hle];refine Wq.gZ (P1 (s.take (s.takeWhile cu).length) (by rw[cC];omega)) hA2 λH3 nx3 hA3 n3 k3=> ?_;have hb3:=k3 _ _ _ (by omega) hb1;generalize dw (s.take (s.takeWhile cu).length)=p;obtain⟨t,ok⟩:=p;have x0:bH (some (Fj (t,ok))) 0=some t.v:=rfl;have x1:bH (some (Fj (t,ok))) 1=some (.bool ok):=rfl;simp only[af,x0,x1];refine Wq.NC (x:=t.v) ek fg rfl rfl rfl hA3 λH4 nx4 hA4 n4 k4=> ?_;have hb4:=k4 _ _ _ (by omega) hb3;cases ok with
   | true=>
     rw[if_pos rfl];simp only[af];exact Lm t _ rfl hb4 (ax _) hA4
   | false=>
     rw[if_neg (by decide)];simp only[af];exact Lm ⟨0,[],0,0⟩ 0 rfl hb4 (ax _) hA4
 . rw[if_neg (by omega)];simp only[af,aV _ bq,aT];exact VB s hl (ax _) rfl s.length H2 nx2 (ax _) (by omega) hb1 hA2
def kA (s:List UInt8)(i:Nat):Nat:=match kz 1 (s.drop i)with
 | none=>0
 | some n=>i+n
theorem DO (s:List UInt8)(hl:s.length<ei){i:Nat}{c:UInt8}{r:List UInt8}(h:s.drop i=c::r)(x y:UInt8){k:Bool->Q}{H:T OB}{R:Go.Ev.Out->T OB->Nat->Prop}
 (hk:bA P pl X0 (k (decide (c=x/\r.head? = some y))) nx0 H0 R):
 bA P pl X0 (bK (decide (((i+1:Nat):Int)<(s.length:Int))) (bK (decide ((c.toNat:Int)=(x.toNat:Int))) (aw (eB P 9 (some (aK s)) (some (i64 ((i+1:Nat):Int)))) (λx11=>aw (dx P H .eql 5 true (some x11) (some (.int .u8 (y.toNat:Int)))) (λx12=>RO x12 (λb13=>k b13) .bad) .bad) .bad) (k false)) (k false)) nx0 H0 R:=by
 obtain⟨hg,hlt,hd'⟩:=drop_cons h;have hrl:r.length=s.length-(i+1):=by rw[<- hd',aD]
 cases r with
 | nil=>
   simp at hrl;rw[show decide (((i+1:Nat):Int)<(s.length:Int))=false by simp;omega];simpa using hk
 | cons e t=>
   simp at hrl;rw[show decide (((i+1:Nat):Int)<(s.length:Int))=true by simp;omega];have hg2:=(drop_cons hd').1
   by_cases hc:c=x
   . subst hc;rw[show decide ((c.toNat:Int)=(c.toNat:Int))=true by simp];simp only[af,bF bq hg2 .i64];have e1:decide ((e.toNat:Int)=(y.toNat:Int))=decide (c=c/\(e::t).head? = some y):=by
      rw[decide_eq_decide];simp only[true_and,List.head?_cons,Option.some.injEq,<- bJ];omega
     rw[e1];exact hk
   . rw[show decide ((c.toNat:Int)=(x.toNat:Int))=false by rw[decide_eq_false_iff_not];intro q;exact hc (bJ.1 (by omega))];rw[decide_eq_false (λq=>hc q.1)]at hk;exact hk
theorem adp:∀(m:Nat) (s:List UInt8),s.length<=m->s.length<ei->P0 91 [aK s] (i64 ((kA s 2:Nat):Int)):=by
 have hbig:ei=1125899906842624:=rfl;intro m
 induction m with
 | zero=>
   intro s hm hl;obtain rfl:s=[]:=d_.1 (by omega);refine Pure.of rfl λH nx=> ?_;rw[q91];refine Wq.jmp (OG ..) (λ_=>rfl) ?_;simp only[af,aV _ bq,aT,c_];exact Wq.ret (.refl _ _)
 | succ m ihm=>
   intro s hm hl;refine Pure.of rfl λH nx=> ?_;rw[q91];have main:∀(d i:Nat) (H1:T OB) (aI:Nat),s.length-i<=d->2<=i->Ag nx H aI H1->Wq P pl X0 (.jump (EZ (aK s) (i64 (i:Int)) H1 aI)) nx H (i64 ((kA s i:Nat):Int)):=by
    intro d
    induction d with
    | zero=>
      intro i H1 aI hd hi hA;refine Wq.jmp (OG ..) (λ_=>rfl) ?_;simp only[af,aV _ bq,aT,show decide ((i:Int)<(s.length:Int))=false by simp;omega];have:kA s i=0:=by unfold kA;rw[ez (by omega)];simp[kz]
      rw[this];exact Wq.ret hA
    | succ d ih=>
      intro i H1 aI hd hi hA
      by_cases hlt:i<s.length
      case neg=>exact ih i H1 aI (by omega) hi hA
      obtain⟨c,r,hdr⟩:∃c r,s.drop i=c::r:=by
       cases hq:s.drop i with
       | nil=>have:=drop_nil hq (by omega);omega
       | cons c r=>exact⟨c,r,rfl⟩
      obtain⟨hg,_,hd'⟩:=drop_cons hdr;have hw1:=az (show i<9223372036854775807 by omega);have L12:∀x:Bool,x=decide (c=42/\r.head? = some 41)->Wq P pl X0 (.jump (ua (aK s) (i64 (i:Int)) x H1 aI)) nx H (i64 ((kA s i:Nat):Int)):=by
       intro x hx;refine Wq.jmp (YN ..) (λ_=>rfl) ?_;cases x with
       | true=>
         have e:=of_decide_eq_true hx.symm;obtain⟨t,ht⟩:=tp e.2;have e2:IntKind.i64.wrap ((i:Int)+2)=((i+2:Nat):Int):=by rw[aS (by omega)];omega
         simp only[af,e2];have:kA s i=i+2:=by unfold kA;rw[hdr,e.1,ht,AZ];rfl
         rw[this];exact Wq.ret hA
       | false=>
         have e:¬(c=42/\r.head? = some 41):=of_decide_eq_false hx.symm;have L16:∀y:Bool,y=decide (c=40/\r.head? = some 42)->Wq P pl X0 (.jump (ub (aK s) (i64 (i:Int)) y H1 aI)) nx H (i64 ((kA s i:Nat):Int)):=by
          intro y hy;refine Wq.jmp (YO ..) (λ_=>rfl) ?_;cases y with
          | true=>
            have a:=of_decide_eq_true hy.symm;obtain⟨t,ht⟩:=tp a.2;rw[a.1,ht]at hdr;have ht2:s.drop (i+2)=t:=by rw[<- cH,hdr];rfl
            simp only[af,gG (show i<=s.length by omega)];refine Wq.call (ihm (s.drop i) (by rw[aD];omega) (by rw[aD];omega)) hA λH2 nx2 hA2=> ?_;have hs1:kA (s.drop i) 2=match kz 1 t with | none=>0 | some n=>2+n:=by
             unfold kA;rw[cH,ht2]
            have hc:=pn t 0;have hs2:kA s i=match(kz 2 t).map (· + 2)with | none=>0 | some n=>i+n:=by
             unfold kA;rw[hdr,FU]
            rw[hs1,hs2,show 2=0+2 from rfl,hc];cases hcm:kz 1 t with
            | none=>
              simp only[af];exact Wq.ret hA2
            | some n=>
              have hn:=uC 1 t n hcm;have hlen:t.length=s.length-(i+2):=by rw[<- ht2,aD]
              have e3:kA s (i+2+n)=match((kz (0+1) (t.drop n)).map (n+ ·)).map (· + 2)with | none=>0 | some n=>i+n:=by
               unfold kA;rw[<- cH,ht2,show(0+1:Nat)=1 from rfl];cases kz 1 (t.drop n)with
               | none=>rfl
               | some m=>show i+2+n+m=i+(n+m+2);omega
              simp only[ba];rw[<- e3];have ew:IntKind.i64.wrap ((i:Int)+((0+2+n:Nat):Int))=((i+2+n:Nat):Int):=by rw[aS (by omega)];omega
              simp only[af,show decide (((0+2+n:Nat):Int)=0)=false by simp;omega,ew];exact ih (i+2+n) H2 nx2 (by omega) (by omega) hA2
          | false=>
            have a:=of_decide_eq_false hy.symm;simp only[af,hw1];have e4:kA s i=kA s (i+1):=by
             unfold kA;rw[hdr,hd',A0 a e];cases kz 1 r with
             | none=>rfl
             | some n=>simp only[dH];omega
            rw[e4];exact ih (i+1) H1 aI (by omega) (by omega) hA
         simp only[af,hw1,aV _ bq,aT,bF bq hg .i64];exact DO s hl hdr 40 42 (k:=λx=> .jump (ub (aK s) (i64 (i:Int)) x H1 aI)) (L16 _ rfl)
      refine Wq.jmp (OG ..) (λ_=>rfl) ?_;simp only[af,hw1,aV _ bq,aT,aJ hlt,bF bq hg .i64];exact DO s hl hdr 42 41 (k:=λx=> .jump (ua (aK s) (i64 (i:Int)) x H1 aI)) (L12 _ rfl)
   exact main s.length 2 H nx (Nat.sub_le _ _) (ax _) (.refl _ _)
end
section
variable {nx0 nx nx':Nat}{H0 H H':T OB}{F G:List Bx}{b:Nat}{s:List UInt8}
abbrev MK (q:Nat×Bool):Value:= .tuple ⟨[i64 (q.1:Int),.bool q.2]⟩
theorem aaD (hl:s.length<ei):∀(d i:Nat) (H1:T OB) (aI:Nat),s.length-i<=d->i<=s.length->Ag nx0 H0 aI H1->
 Wq P pl X0 (.jump (EY (aK s) (i64 (i:Int)) H1 aI)) nx0 H0 (MK (i+(gr (s.drop i)).1,(gr (s.drop i)).2)):=by
 have hbig:ei=1125899906842624:=rfl;intro d
 induction d with
 | zero=>
   intro i H1 aI hd hi hA;refine Wq.jmp (Wn ..) (λ_=>rfl) ?_;simp only[af,aV _ bq,aT,show decide ((i:Int)<(s.length:Int))=false by simp;omega];rw[ez (show s.length<=i by omega),show gr []=(0,true)by simp[gr]];exact Wq.ret hA
 | succ d ih=>
   intro i H1 aI hd hi hA
   by_cases hlt:i<s.length
   case neg=>exact ih i H1 aI (by omega) hi hA
   obtain⟨c,r,hdr⟩:∃c r,s.drop i=c::r:=by
    cases hq:s.drop i with
    | nil=>have:=drop_nil hq hi;omega
    | cons c r=>exact⟨c,r,rfl⟩
   obtain⟨hg,_,hd'⟩:=drop_cons hdr;have hw1:=az (show i<9223372036854775807 by omega);have hu:∀n:Nat,n<256->(decide ((c.toNat:Int)=(n:Int))=decide (c=dh n)):=λn hn=>by
    rw[decide_eq_decide,<- bJ,gn,hY hn];omega
   have L12:∀x:Bool,x=ws c->Wq P pl X0 (.jump (tX (aK s) (i64 (i:Int)) x H1 aI)) nx0 H0 (MK (i+(gr (s.drop i)).1,(gr (s.drop i)).2)):=by
    intro x hx;refine Wq.jmp (Yu ..) (λ_=>rfl) ?_;cases x with
    | true=>
      simp only[af,hw1];rw[hdr,HE hx.symm,<- hd'];have:=ih (i+1) H1 aI (by omega) hlt hA;rw[show i+1+(gr (s.drop (i+1))).1=i+((gr (s.drop (i+1))).1+1)by omega]at this;exact this
    | false=>
      have hw:¬ws c=true:=by rw[<- hx];decide
      have L16:∀y:Bool,y=decide (c=40/\r.head? = some 42)->Wq P pl X0 (.jump (tY (aK s) (i64 (i:Int)) y H1 aI)) nx0 H0 (MK (i+(gr (s.drop i)).1,(gr (s.drop i)).2)):=by
       intro y hy;refine Wq.jmp (Yv ..) (λ_=>rfl) ?_;cases y with
       | true=>
         have a:=of_decide_eq_true hy.symm;obtain⟨t,ht⟩:=tp a.2;rw[a.1,ht]at hdr;have ht2:s.drop (i+2)=t:=by rw[<- cH,hdr];rfl
         simp only[af,gG (show i<=s.length by omega)];refine Wq.call (adp _ (s.drop i) (ax _) (by rw[aD];omega)) hA λH2 nx2 hA2=> ?_;have hs1:kA (s.drop i) 2=match kz 1 t with | none=>0 | some n=>2+n:=by
          unfold kA;rw[cH,ht2]<;>
           (cases kz 1 t<;>rfl)
         rw[hs1,hdr,FT];cases hcm:kz 1 t with
         | none=>
           simp only[af];exact Wq.ret hA2
         | some n=>
           have hn:=uC 1 t n hcm;have hlen:t.length=s.length-(i+2):=by rw[<- ht2,aD]
           have ew:IntKind.i64.wrap ((i:Int)+((2+n:Nat):Int))=((i+2+n:Nat):Int):=by rw[aS (by omega)];omega
           simp only[af,show decide (((2+n:Nat):Int)=0)=false by simp;omega,ew];have:=ih (i+2+n) H2 nx2 (by omega) (by omega) hA2;rw[<- cH,ht2,show i+2+n+(gr (t.drop n)).1=i+((gr (t.drop n)).1+(n+2))by omega]at this;exact this
       | false=>
         have a:=of_decide_eq_false hy.symm;rw[hdr,zv hw a];simp only[af];exact Wq.ret hA
      simp only[af,hw1,aV _ bq,aT,bF bq hg .i64];exact DO s hl hdr 40 42 (k:=λx=> .jump (tY (aK s) (i64 (i:Int)) x H1 aI)) (L16 _ rfl)
   refine Wq.jmp (Wn ..) (λ_=>rfl) ?_;simp only[af,aV _ bq,aT,aJ hlt,bF bq hg .i64];have hws:ws c=(decide (c=9)||(decide (c=10)||(decide (c=13)||decide (c=32)))):=by
    unfold ws;rw[Bool.or_assoc,Bool.or_assoc];rfl
   have h9:decide ((c.toNat:Int)=9)=decide (c=9):=hu 9 (by decide);have h10:decide ((c.toNat:Int)=10)=decide (c=10):=hu 10 (by decide);have h13:decide ((c.toNat:Int)=13)=decide (c=13):=hu 13 (by decide);have h32:decide ((c.toNat:Int)=32)=decide (c=32):=hu 32 (by decide);rw[h9,h10,h13,h32];refine Wq.ite (λq=>L12 _ (by rw[hws,decide_eq_true q];simp)) (λq1=> ?_);refine Wq.ite (λq=>L12 _ (by rw[hws,decide_eq_true q];simp)) (λq2=> ?_);refine Wq.ite (λq=>L12 _ (by rw[hws,decide_eq_true q];simp)) (λq3=> ?_);exact L12 _ (by rw[hws,decide_eq_false q1,decide_eq_false q2,decide_eq_false q3];simp)
theorem adq (s:List UInt8)(hl:s.length<ei):P0 46 [aK s] (MK (gr s)):=Pure.of rfl λH nx=>by
 rw[q46];have:=aaD (nx0:=nx) (H0:=H) hl s.length 0 H nx (Nat.sub_le _ _) (aN _) (.refl _ _);rwa[bN]at this
theorem Hq.RI {e:TypeId}{l:List Value}{k:Value->T OB->Nat->Q}{R:Go.Ev.Out->T OB->Nat->Prop}(hz:dD P e=some l)(h:Hp nx0 H0 F H nx)(hk:∀b H' nx',Hp nx0 H0 ((b,l,e)::F) H' nx'->bA P pl X0 (k (ptr b) H' nx') nx0 H0 R):bA P pl X0 (bU (eN P H nx e) k) nx0 H0 R:=
 Wq.alloc hz h.ag λH' hb dZ hA=>hk nx H' _ (h.new hb dZ hA)
theorem aaE {out:List Tok}{sl:Value}{D:List Bx}{i:Nat}(t:Tok)(ho:out.length<=1000)(hG:Gw true 4 31 (out.map Tok.v) sl G)(hD:D=[]->out=[])(h:Hp nx0 H0 (D++(G++[])) H nx):
 Wq P pl X0 (bU (bC P H nx 29 1 (some [(0,t.v)])) λx13 H nx=>bU (fe P H nx [29,29] (some [sl,x13])) λx14 H nx=>dM P 29 x14 H nx λx15 H nx=> .ret ⟨.ret (.tuple ⟨[x15,i64 0,i64 0]⟩),false,H,nx⟩) nx0 H0 (vc (out++[t],0,0)):=by
 cases D with
 | cons x D=>
   refine Hq.row kL fg ek rfl (AJ _ _ _ _) h λc H2 nx2 h2=> ?_;refine Hq.Lj D (t:=t) (by omega) hG h2 λsl' G' H3 nx3 hG' h3=> ?_;have h3':Hp nx0 H0 (x::(G'++D)) H3 nx3:=by
    rw[bf]at h3;exact h3.perm (List.Perm.cons _ List.perm_append_comm)
   refine uE hG' h3' λH4 nx4 h4=> ?_;exact Wq.ret h4.ag
 | nil=>
   obtain rfl:=hD rfl;obtain⟨_,⟨_,rfl,rfl⟩ | ⟨b,c,_,_,h0,_⟩⟩:=hG
   . refine Wq.row kL fg ek rfl (AJ _ _ _ _) h.ag λH2 hb dZ hA=> ?_;have h2:Hp nx0 H0 [(nx,t.c,31)] H2 (nx+1):=h.new hb dZ hA;have hxs:qv H2 4 (.slice (some ⟨nx,0,none⟩) 1 1)=some (1,t.c):=Bt hb rfl;refine Wq.Nz kL fg rfl hxs (KJ (by decide)) hA (λq=>by cases q) λH3 _ hb3 keep3 hA3=> ?_;have hb3':dO H3 (nx+1) (fi [t.v]) 31:=by
      show dO H3 (nx+1) t.c 31;simpa using hb3
     have h3:=h2.new hb3' keep3 hA3;have hG':Gw true 4 31 ([t].map Tok.v) (.slice (some ⟨nx+1,0,none⟩) 1 iw) [(nx+1,fi [t.v],31)]:=⟨Lh t,.inr ⟨nx+1,iw,rfl,.inl rfl,by simp,rfl⟩⟩;refine uE (F:=[]) hG' h3.swap λH4 nx4 h4=> ?_;exact Wq.ret h4.ag
   . simp at h0
theorem afo (hl:s.length<=4096):∀(m i:Nat) (out:List Tok) (sl:Value) (D G:List Bx) (H:T OB) (nx:Nat),s.length-i<m->i<=s.length->out.length<=1000->Gw true 4 31 (out.map Tok.v) sl G->(D=[]->out=[])->Hp nx0 H0 (D++(G++[])) H nx->
 Wq P pl X0 (.jump (BL (aK s) sl (i64 (i:Int)) H nx)) nx0 H0 (vc (lz s m out i)):=by
 have hbig:ei=1125899906842624:=rfl;intro m
 induction m with
 | zero=>intro i out sl D G H nx hm;omega
 | succ m ih=>
   intro i out sl D G H nx hm hi ho hG hD h;refine Wq.jmp (Yl ..) (λ_=>rfl) ?_;simp only[af,gG hi];refine Hq.call (adq (s.drop i) (by rw[aD];omega)) h λH1 aI h1=> ?_;have hle:=DK (s.drop i);rw[aD]at hle;unfold lz;generalize hp:gr (s.drop i)=p at hle ⊢;obtain⟨n,ok⟩:=p;simp only at hle ⊢;have x0:bH (some (MK (n,ok))) 0=some (i64 (n:Int)):=rfl;have x1:bH (some (MK (n,ok))) 1=some (.bool ok):=rfl;have ew:IntKind.i64.wrap ((i:Int)+(n:Int))=((i+n:Nat):Int):=by rw[aS (by omega)];omega
   simp only[af,x0,x1,ew];cases ok with
   | false=>
     rw[if_pos rfl];simp only[af];rw[j5];exact Wq.ret h1.ag
   | true=>
     rw[if_neg (by decide)];simp only[af,aV _ bq,aT];refine Wq.ite (λhge=> ?_) (λhge=> ?_)
     . rw[if_pos (by omega)];have hin:i+n=s.length:=by omega
       simp only[af,Li];rw[hin];exact aaE (i:=i) ⟨0,[],0,(s.length:Int)⟩ ho hG hD h1
     . have hlt:i+n<s.length:=by omega
       rw[if_neg (by omega)];simp only[af,gG (show i+n<=s.length by omega)];refine Hq.call (ado (s.drop (i+n)) (by rw[aD];omega)) h1 λH2 nx2 h2=> ?_;rw[aay];cases hx:ox (s.drop (i+n))with
       | none=>
         unfold VA;simp only[af];refine Hq.RI ek h2 λc H3 nx3 h3=> ?_;refine Hq.store [] h3 fg (by simp) rfl rfl λH4 h4=> ?_;simp only[af];rw[j5];exact Wq.ret h4.ag
       | some q=>
         have hpos:=zz hx;rw[aD]at hpos;unfold VA;simp only[af];refine Hq.RI ek h2 λc H3 nx3 h3=> ?_;refine Hq.store [] h3 fg (by simp) rfl rfl λH4 h4=> ?_;simp only[af,show decide ((q.2:Int)=0)=false by simp;omega,hG.adh];refine Wq.ite (λh1000=> ?_) (λh1000=> ?_)
         . rw[if_pos (by omega)];rw[j5];exact Wq.ret h4.ag
         . rw[if_neg (by omega)];replace h4:Hp nx0 H0 ((c,q.1.c,31)::(D++(G++[]))) H4 nx3:=h4;refine Hq.put [] h4 oV rfl rfl (by simp) rfl λH5 h5=> ?_;replace h5:Hp nx0 H0 ((c,[i64 q.1.k,aK q.1.s,i64 q.1.n,i64 ((i+n:Nat):Int)],31)::(D++(G++[]))) H5 nx3:=h5;simp only[af,Mi (h5.at_ 0 rfl)];refine Hq.row kL fg ek rfl (AJ _ _ _ _) h5 λc2 H6 nx6 h6=> ?_;refine Hq.Lj D (t:=⟨q.1.k,q.1.s,q.1.n,((i+n:Nat):Int)⟩) (by omega) hG h6 λsl' G' H7 nx7 hG' h7=> ?_;have ew2:IntKind.i64.wrap (((i+n:Nat):Int)+(q.2:Int))=((i+n+q.2:Nat):Int):=by rw[aS (by omega)];omega
           simp only[af,ew2];exact ih (i+n+q.2) _ sl' (_::D) G' H7 nx7 (by omega) (by omega) (by rw[aj,dU];omega) hG' (λq=>by cases q) h7
theorem adr (s:List UInt8)(hl:s.length<ei):PT 22 [aK s] (vc (scan s)):=PT.of rfl λH nx hT=>by
 rw[q22];unfold scan;simp only[af,aV _ bq,aT];refine Wq.ite (λh=> ?_) (λh=> ?_)
 . rw[if_pos (by omega),j5];exact Wq.ret (.refl _ _)
 . rw[if_neg (by omega)];have h0:Hp nx H [] H nx:=⟨hT,Ag.refl nx H,by simp,λx hx=>by simp at hx⟩;exact afo (by omega) (s.length+1) 0 [] a_ [] [] H nx (by omega) (aN _) (by simp) (Gw.nil _ _ _) (λ_=>rfl) h0
end
section
variable {nx0 nx nx':Nat}{H0 H H':T OB}{L:List Tok}{s:List UInt8}
theorem Ln:∀{r:List UInt8} {n m:Nat},js n r=some m->n<=4611686018427387903->m<=4611686018427387903
 | [],n,m,h,hn=>by cases h;exact hn
 | c::r,n,m,h,hn=>by
   rw[js]at h;split at h
   . rename_i hc;have:=KC hc.1;exact Ln h (by omega)
   . cases h
theorem aaF:∀{f:Nat} {s:List UInt8} {q:List UInt8×Nat},qt f s=some q->q.1.length<=q.2:=by
 intro f
 induction f with
 | zero=>intro s q h;cases h
 | succ f ih=>
   intro s q h;cases s with
   | nil=>cases h
   | cons c r=>
     rw[nT]at h
     by_cases h1:c.toNat=34
     . rw[if_pos h1]at h;cases h;exact aN _
     rw[if_neg h1]at h
     by_cases h2:(eo (c::r)).2=0
     . rw[if_pos h2]at h;cases h
     rw[if_neg h2]at h;obtain⟨q1,hq,rfl⟩:=bO.1 h;have:=ih hq;show((eo (c::r)).1::q1.1).length<=(eo (c::r)).2+q1.2;rw[ao];omega
theorem VC {r:List UInt8}{q:Tok×Nat}(h:ox r=some q):rg q.1.n/\q.1.s.length<=r.length:=by
 cases r with
 | nil=>cases h
 | cons c u=>
   rw[ju]at h
   by_cases hd:cu c=true
   . rw[if_pos hd]at h;unfold HI at h;cases hN:js 0 ((c::u).takeWhile cu)with
     | none=>rw[hN]at h;cases h
     | some v=>
       rw[hN]at h;cases h;have:=Ln hN (by omega);exact⟨by show rg (v:Int);omega,aN _⟩
   rw[if_neg hd]at h;unfold zU at h
   by_cases h34:c.toNat=34
   . rw[if_pos h34]at h;obtain⟨q1,hq,rfl⟩:=bO.1 h;have:=Le hq;have:=aaF hq;exact⟨by show rg 0;omega,by show q1.1.length<=_;simp;omega⟩
   rw[if_neg h34]at h
   by_cases hl:(cV c||cX c)=true
   . rw[if_pos hl]at h;have hle:=zy (p:=kB) u;cases h;exact⟨by show rg 0;omega,by simp;omega⟩
   rw[if_neg hl]at h
   by_cases h39:c.toNat=39/\nd u=true
   . rw[if_pos h39]at h;cases h;exact⟨by show rg 0;omega,by show(List.take _ _).length<=_;rw[cC];omega⟩
   rw[if_neg h39]at h;obtain⟨x,hx,rfl⟩:=bO.1 h;have hp:=(dr.1 (by simpa using List.find?_some hx:x.isPrefixOf (c::u)=true)).length_le;exact⟨by show rg 0;omega,hp⟩
theorem RJ (s:List UInt8):∀(m:Nat) (out:List Tok) (i:Nat),out.length<=1000->(∀t,t∈out->rg t.n/\t.s.length<=s.length)->(lz s m out i).1.length<=1001/\∀t,t∈(lz s m out i).1->rg t.n/\t.s.length<=s.length:=by
 have hnil:([]:List Tok).length<=1001/\∀t,t∈([]:List Tok)->rg t.n/\t.s.length<=s.length:=⟨by decide,λt h=>by simp at h⟩;intro m
 induction m with
 | zero=>intro out i _ _;exact hnil
 | succ m ih=>
   intro out i ho hT;unfold lz;split
   . exact hnil
   split
   . refine⟨by simp;omega,λt ht=> ?_⟩;rcases dJ.1 ht with h | h
     . exact hT t h
     . rw[aP]at h;subst h;exact⟨by show rg 0;omega,aN _⟩
   split
   . exact hnil
   . rename_i q hq;split
     . exact hnil
     . rename_i h1000;refine ih _ _ (by rw[aj,dU];omega) λt ht=> ?_;rcases dJ.1 ht with h | h
       . exact hT t h
       . rw[aP]at h;subst h;have:=VC hq;rw[aD]at this;exact⟨this.1,by have:=this.2;show q.1.s.length<=_;omega⟩
theorem Lo (hl:s.length<ei):(scan s).1.length<=1001/\zr (scan s).1/\∀t,t∈(scan s).1->t.s.length<=4096:=by
 unfold scan;split
 . exact⟨by decide,λt h=>(by simp at h),λt h=>(by simp at h)⟩
 . have:=RJ s (s.length+1) [] 0 (by simp) (λt h=>by simp at h);exact⟨this.1,λt ht=>⟨(this.2 t ht).1,by have:=(this.2 t ht).2;show t.s.length<_;omega⟩,λt ht=>by have:=(this.2 t ht).2;omega⟩
theorem ads (es:List Value)(H:T OB)(nx:Nat)(k:Value->T OB->Nat->Q):gD P 29 (bM 4 es) H nx k=k (bM 4 es) H nx:=by kernel_rfl
theorem VF (hT0:g_ nx0 H0)(hL:L.length<=100000)(hT:zr L){n:Nat}(hn:n<=90000){o:nh (List bm)}(ho:(ps L n).iD [] 0=some o)(hA:Ag nx0 H0 nx H):bA P pl X0 (aX P pl (.call 15 [l9 L] false none H nx)) nx0 H0 (Va (zt L o)):=by
 rw[afh,ads];exact bA.mono (bA.base hA (k15 (hT0.ag hA) hL hT hn ho)) λq H2 nx2 hA2 h2=>h2.1
def parse (s:List UInt8)(o:nh (List bm)):List bm×Int×Int:=if(scan s).2.2=0 then zt (scan s).1 o else([],((scan s).2.1:Int),(scan s).2.2)
theorem RK (s:List UInt8):bH (some (vc (scan s))) 0=some (l9 (scan s).1)/\bH (some (vc (scan s))) 1=some (i64 ((scan s).2.1:Int))/\bH (some (vc (scan s))) 2=some (i64 (scan s).2.2):=⟨rfl,rfl,rfl⟩
theorem adt (hl:s.length<ei){o:nh (List bm)}(ho:(ps (scan s).1 90000).iD [] 0=some o)(hT0:g_ nx0 H0)(hA:Ag nx0 H0 nx H):bA P pl X0 (aX P pl (.call 12 [aK s] false none H nx)) nx0 H0 (Va (parse s o)):=by
 have hs:=Lo hl;obtain⟨x0,x1,x2⟩:=RK s;rw[q12];refine Wq.uW hT0 (adi s hl) hA λH1 aI hA1=> ?_;simp only[af,x0,x1,x2];unfold parse;refine bA.jr (λh=> ?_) (λh=> ?_)
 . rw[if_neg h];exact Wq.rC hA1 ⟨a_,rfl,.inr ⟨rfl,rfl⟩⟩
 . rw[if_pos h];refine Wq.lS rfl (VF hT0 (by omega) hs.2.1 (ax _) ho hA1) (λu H2 nx2 hA2 hR=> ?_) (λu H2 nx2 hA2 hR=>by obtain⟨v,q,_⟩:=hR;cases q);obtain⟨v,q,hv⟩:=hR;cases q;generalize zt (scan s).1 o=r at hv ⊢;obtain⟨ds,a,e⟩:=r;have y0:bH (some (Value.tuple ⟨[v,i64 a,i64 e]⟩)) 0=some v:=rfl;have y1:bH (some (Value.tuple ⟨[v,i64 a,i64 e]⟩)) 1=some (i64 a):=rfl;have y2:bH (some (Value.tuple ⟨[v,i64 a,i64 e]⟩)) 2=some (i64 e):=rfl;simp only[af,y0,y1,y2];exact Wq.rC hA2 ⟨v,rfl,hv⟩
theorem RL (l:List bm)(v w:Value)(hv:DV l v)(hw:DV l w)(hl:l.length<ei)(hok:∀d,d∈l->d.ok):P0 14 [v,w] (.bool true):=by
 have h:=Vm l v hv hl hok;rcases hw with rfl | ⟨rfl,rfl⟩
 . exact h
 . intro H nx;obtain⟨H1,aI,h1,h2⟩:=h H nx;refine⟨H1,aI,h1,?_⟩;rw[<- h2,tS,tS];have e1:aX P pl (.call 14 [v,a_] false none H nx)=aX P pl (.call 14 [v,cb []] false none H nx):=by
    rw[q14,q14];rcases hv with rfl | ⟨_,rfl⟩
    . rw[yX,yX];rfl
    . rfl
   rw[e1];rfl
end
section
variable {nx0 nx nx':Nat}{H0 H H':T OB}{L:List Tok}{s:List UInt8}{ts:List Tok}
theorem RX.ok {a b:List Tok}(h:RX a b)(hb:∀t,t∈b->cP t=true):a.all cP=true:=by
 induction a generalizing b with
 | nil=>rfl
 | cons x a ih=>
   cases b with
   | nil=>cases h
   | cons y b=>
     obtain⟨h1,h2⟩:=h;rw[cW,ih h2 λt ht=>hb t (by simp[ht]),aW];have:=hb y (by simp);unfold cP at this ⊢;rw[h1.1,h1.2.1,h1.2.2];exact this
theorem ML (h:Lx s ts)(hg:∀t,t∈ts->cP t=true):((4096<s.length\/1000<ts.length)/\∃j,scan s=([],j,3))\/(s.length<=4096/\ts.length<=1000/\∃L,scan s=(L,0,0)/\L.length=ts.length+1/\L.all cP=true/\Sg L 0 ts ts.length/\(tk L ts.length).k=0):=by
 rcases Vz h with h1 | ⟨h1,h2,tl,h3,h4⟩
 . exact .inl h1
 . refine .inr ⟨h1,h2,_,h4,by rw[aj,h3.len];rfl,?_,?_,?_⟩
   . rw[List.all_append,h3.ok hg];rfl
   . have:=RX.sg (out:=[]) (rest:=[⟨0,[],0,(s.length:Int)⟩]) h3;rw[cj,c_,bN,h3.len]at this;exact this
   . unfold tk;rw[<- h3.len,bZ (ax _),Nat.sub_self];rfl
theorem HM (l:List bm)(hr:eK l=true)(hok:∀d,d∈l->d.ok):∀t,t∈ib l->rM t:=(Dy l hr hok).1
theorem FV (l:List bm)(hr:eK l=true)(hok:∀d,d∈l->d.ok):((4096<(zo (ib l)).length\/1000<(ib l).length)/\∃j,scan (zo (ib l))=([],j,3))\/((zo (ib l)).length<=4096/\(ib l).length<=1000/\(scan (zo (ib l))).2.2=0/\0<(scan (zo (ib l))).1.length/\∀o,(ps (scan (zo (ib l))).1 90000).iD [] 0=some o->parse (zo (ib l)) o=if 100<lW l 0 then([],0,81)else(l,0,0)):=by
 have hg:=HM l hr hok;have hL:Lx (zo (ib l)) (ib l):=by
  have:=Lx.zo (rs:=[]) (r:=[]) (ib l) hg aaB Lx.nil;rwa[bf,bf]at this
 rcases ML hL λt ht=>(hg t ht).1 with h | ⟨h1,h2,L,h3,h4,h5,h6,h7⟩
 . exact .inl h
 . refine .inr ⟨h1,h2,by rw[h3],by rw[h3];show 0<L.length;omega,λo ho=> ?_⟩;rw[kS]at hr;rw[h3]at ho;have:=Hx (L:=L) l [] 90000 0 (λd hd=>dp hr hd) (by omega) h6 h7;rw[show(ps (L,0,0).1 90000)=ps L 90000 from rfl,this]at ho;cases ho;unfold parse;rw[h3];show(if(0:Int)=0 then zt L (.ok ([]++l) _)else _)=_;rw[if_pos rfl,cj];unfold zt Ro;rw[if_pos h5]
theorem HN (hl:s.length<ei):∃o,(ps (scan s).1 90000).iD [] 0=some o:=by
 have hs:=Lo hl;obtain⟨o,ho,_⟩:=(aca (L:=(scan s).1) 90000).iD [] 0 (by omega);exact⟨o,ho⟩
theorem afp (l:List bm)(hl:l.length<ei)(hok:∀d,d∈l->d.ok):PT 6 [cb l] (.bool true):=PT.of rfl λH nx hT=>by
 have hk:P0 11 [] (.bool true):=Pure.ext rfl;rw[q6];refine Wq.qL rfl (afl l hl hok H nx (.refl _ _)) λu H1 aI hA1 hu=> ?_;obtain⟨b,rfl,hb⟩:=hu;simp only[af];refine Wq.bK (λh=> ?_) (λh=> ?_)
 . refine Wq.call hk hA1 λH2 nx2 hA2=> ?_;simp only[af];exact Wq.ret hA2
 have hz:=hb h;refine Wq.uW hT (adm l hl hok hz) hA1 λH2 nx2 hA2=> ?_;simp only[af,afm,afn];cases hr:eK l with
 | false=>
   simp only[af,if_false,jW];rw[show(!decide ((110:Int)=0))=true from rfl];simp only[af];refine Wq.call (ZU l hl hok hz) hA2 λH3 nx3 hA3=> ?_;rw[hr];simp only[af,dL];refine Wq.call hk hA3 λH4 nx4 hA4=> ?_;simp only[af];exact Wq.ret hA4
 | true=>
   simp only[af,if_true];have hgt:=Dy l hr hok;have hsl:(zo (ib l)).length<ei:=by
    have:=UF (ib l);have:=hgt.2;have:ei=1125899906842624:=rfl;omega
   have hpp:=FV l hr hok;obtain⟨o,ho⟩:=HN hsl;generalize zo (ib l)=s at hsl hpp ho ⊢;obtain⟨y0,y1,y2⟩:=RK s;refine Wq.lS rfl (adt hsl ho hT hA2) (λu H3 nx3 hA3 hR=> ?_) (λu H3 nx3 hA3 hR=>by obtain⟨v,q,_⟩:=hR;cases q);obtain⟨v,q,hv⟩:=hR;cases q;have x0:∀a e:Int,bH (some (Value.tuple ⟨[v,i64 a,i64 e]⟩)) 0=some v:=λ_ _=>rfl;have x1:∀a e:Int,bH (some (Value.tuple ⟨[v,i64 a,i64 e]⟩)) 1=some (i64 a):=λ_ _=>rfl;have x2:∀a e:Int,bH (some (Value.tuple ⟨[v,i64 a,i64 e]⟩)) 2=some (i64 e):=λ_ _=>rfl;simp only[af,x0,x1,x2];refine Wq.uW hT (adr s hsl) hA3 λH4 nx4 hA4=> ?_;simp only[af,y0,y1,y2,aV _ bq,aT];have L20:∀b H5 nx5,b=decide (4096<s.length\/(scan s).2.2≠0)->Ag nx H nx5 H5->Wq P pl X0 (.jump (JG (cb l) v (i64 (parse s o).2.2) (l9 (scan s).1) b H5 nx5)) nx H (.bool true):=by
    intro b H5 nx5 hb5 hA5;refine Wq.jmp (abl ..) (λ_=>rfl) ?_;rcases hpp with⟨h1,j,h2⟩ | ⟨h1,h2,h3,h4,h5⟩
    . have e1:parse s o=([],(j:Int),3):=by unfold parse;rw[h2];rfl
      rw[show b=true by rw[hb5,h2];simp,e1];simp only[af];refine Wq.call hk hA5 λH6 nx6 hA6=> ?_;simp only[af];exact Wq.ret hA6
    . rw[show b=false by rw[hb5,h3];simp;omega];simp only[af];refine Wq.call (abG l hl hok) hA5 λH6 nx6 hA6=> ?_;rw[h5 o ho]at hv ⊢;simp only[af];refine Wq.ite (λh=> ?_) (λh=> ?_)
      . rw[if_pos (by omega)]at hv ⊢;simp only[af];refine Wq.call hk hA6 λH7 nx7 hA7=> ?_;simp only[af];exact Wq.ret hA7
      . rw[if_neg (by omega)]at hv ⊢;simp only[af,l9,aa,jP,h4];refine Wq.call (RL l (cb l) v (.inl rfl) hv hl hok) hA6 λH7 nx7 hA7=> ?_;simp only[af];refine Wq.call hk hA7 λH8 nx8 hA8=> ?_;simp only[af];exact Wq.ret hA8
   refine Wq.ite (λh=> ?_) (λh=> ?_)
   . exact L20 _ _ _ (by rw[decide_eq_true];exact .inl (by omega)) hA4
   . exact L20 _ _ _ (by rw[<- decide_not,decide_eq_decide];omega) hA4
end
end
end Go.Proofs.YthjhonhhbddhkaaGreatDoor
