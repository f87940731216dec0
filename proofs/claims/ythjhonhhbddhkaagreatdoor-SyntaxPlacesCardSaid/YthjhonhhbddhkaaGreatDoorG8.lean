/- Texts of this claim, side by side. -/
import Derived.Test.YthjhonhhbddhkaaGreatDoorG6
import Derived.Test.YthjhonhhbddhkaaGreatDoorG7
import Derived.Test.YthjhonhhbddhkaaGreatDoorProg
import Derived.WalkKit
import Derived.ProofKit
import Derived.OpenShut
import Derived.ShutString
import Derived.ChangeOld
import Derived.ChangeSame
import Derived.Deep.Slices
import Derived.DataElems
import Derived.Below
import Derived.SizedLaws
import Derived.Test.YthjhonhhbddhkaaGreatDoorRows
import Derived.LaidMore
import Derived.Stop.LaidErr
import Derived.Lib.AppendIntMem
namespace Go.Proofs.YthjhonhhbddhkaaGreatDoor
open Go.Ev Go.RowKit
noncomputable section
set_option maxRecDepth 100000
set_option linter.unusedVariables false
set_option linter.unusedSimpArgs false
set_option maxHeartbeats 8000000
section
variable {L:List Tok}{α β:Type}{Q:β->Prop}{Q1:α->Prop}{k m:Nat}
def aO {α:Type}(x:PR α)(Q:α->Prop):Prop:=∀a k,x=some (.ok a k)->Q a
theorem aO.none:aO (none:PR β) Q:=λa k h=>by cases h
theorem aO.bd {x:PR α}{f:α->Nat->PR β}(h:aO x Q1)(hf:∀a k,Q1 a->aO (f a k) Q):aO (bd x f) Q:=by
 cases x with
 | none=>exact aO.none
 | some r=>
   cases r with
   | bad a=>exact λa k h=>by cases h
   | ok a k=>exact hf a k (h a k rfl)
theorem aO.fail:aO (gY L k:PR β) Q:=λa k h=>by cases h
theorem aO.yes {a:β}(h:Q a):aO (yes a k) Q:=λa k h'=>by cases h';exact h
theorem aO.ite {c:Prop}[Decidable c]{x y:PR β}(h:aO x Q)(h':aO y Q):aO (if c then x else y) Q:=by
 by_cases hc:c
 . rw[if_pos hc];exact h
 . rw[if_neg hc];exact h'
theorem aO.bl {w:List UInt8}{f:Nat->PR β}(hf:∀k,aO (f k) Q):aO (bl L w k f) Q:=aO.ite (hf _) aO.fail
theorem aO.b_ {c:Int}{f:Tok->Nat->PR β}(hf:∀j k,aO (f (tk L j) k) Q):aO (b_ L c k f) Q:=aO.ite (hf _ _) aO.fail
def aw (Q:β->Prop)(m:Nat)(l:List β):Prop:=l.length<=m/\∀c,c∈l->Q c
theorem aw.nil:aw Q m []:=⟨Nat.zero_le _,λc h=>nomatch h⟩
theorem aw.snoc {l:List β}{a:β}(h:aw Q m l)(ha:Q a):aw Q (m+1) (l++[a]):=⟨by rw[List.length_append];exact Nat.add_le_add_right h.1 1,λc hc=>(List.mem_append.1 hc).elim (h.2 c) λq=>by rw[List.mem_singleton.1 q];exact ha⟩
theorem aw.one {a:β}(ha:Q a):aw Q 1 [a]:=⟨Nat.le_refl _,λc hc=>by rw[List.mem_singleton.1 hc];exact ha⟩
theorem aw.two {a b:β}(ha:Q a)(hb:Q b):aw Q 2 [a,b]:=(aw.one ha).snoc hb
theorem aw.three {a b c:β}(ha:Q a)(hb:Q b)(hc:Q c):aw Q 3 [a,b,c]:=(aw.two ha hb).snoc hc
theorem aw.mono {n:Nat}{l:List β}(h:aw Q m l)(hm:m<=n):aw Q n l:=⟨Nat.le_trans h.1 hm,h.2⟩
theorem aw.cY {l:List β}(h:aw Q m l)(hm:m<=300000):l.length<cY:=Nat.lt_of_le_of_lt (Nat.le_trans h.1 hm) (by decide)
theorem dZ {k n:Int}{s:List UInt8}{l:List aQ}{p:List bg}{d:List ba}{m1 m2 m3:Nat}(h1:rg n)(h2:eL s)(h3:aw aQ.ok m1 l)(g3:m1<=300000)(h4:aw bg.ok m2 p)(g4:m2<=300000)(h5:aw ba.ok m3 d)(g5:m3<=300000):(aQ.mk k n s l p d).ok:=(aQ.ct _).2 ⟨h1,h2,⟨h3.cY g3,h3.2⟩,⟨h4.cY g4,h4.2⟩,h5.cY g5,h5.2⟩
theorem gK {k n:Int}{s:List UInt8}{l:List bg}{m1:Nat}(h1:rg n)(h2:eL s)(h3:aw bg.ok m1 l)(g3:m1<=300000):(bg.mk k n s l).ok:=(bg.ct _).2 ⟨h1,h2,h3.cY g3,h3.2⟩
theorem jF {k:Int}{s:List UInt8}{l:List bj}{m1:Nat}(h2:eL s)(h3:aw bj.ok m1 l)(g3:m1<=300000):(bj.mk k s l).ok:=(bj.ct _).2 ⟨h2,h3.cY g3,h3.2⟩
theorem EC {s:List UInt8}{l:List bj}{m1:Nat}(h2:eL s)(h3:aw bj.ok m1 l)(g3:m1<=300000):(dp.mk s l).ok:=⟨h2,h3.cY g3,h3.2⟩
theorem AS {v:List (List UInt8)}{s:List UInt8}{l:List dp}{m0 m1:Nat}(h0:aw eL m0 v)(g0:m0<=300000)(h2:eL s)(h3:aw dp.ok m1 l)(g3:m1<=300000):(Data.mk v s l).ok:=⟨⟨h0.cY g0,h0.2⟩,h2,h3.cY g3,h3.2⟩
theorem N9 {s:List UInt8}{q:List bg}{b:aQ}{m1:Nat}(h2:eL s)(h3:aw bg.ok m1 q)(g3:m1<=300000)(h4:b.ok):(Fn.mk s q b).ok:=(Fn.ct _).2 ⟨h2,⟨h3.cY g3,h3.2⟩,h4⟩
theorem xo {k:Int}{p:bg}{e:aQ}{f:List Fn}{x:Data}{c:dp}{m1:Nat}(h1:p.ok)(h2:e.ok)(h3:aw Fn.ok m1 f)(g3:m1<=300000)(h4:x.ok)(h5:c.ok):(ba.mk k p e f x c).ok:=(ba.ct _).2 ⟨h1,h2,⟨h3.cY g3,h3.2⟩,h4,h5⟩
theorem e6:rg 0:=by unfold rg;omega
theorem bV:eL []:=by show(0:Nat)<_;omega
theorem ED:kC.ok:=gK e6 bV (aw.nil (m:=0)) (by decide)
theorem JF:lz.ok:=dZ e6 bV (aw.nil (m:=0)) (by decide) (aw.nil (m:=0)) (by decide) (aw.nil (m:=0)) (by decide)
theorem EE:gr.ok:=AS (aw.nil (m:=0)) (by decide) bV (aw.nil (m:=0)) (by decide)
theorem EF:kD.ok:=EC bV (aw.nil (m:=0)) (by decide)
def eB (m:Nat)(e:aQ):Prop:=∃k l p,e= .mk k 0 [] l p []/\aw aQ.ok m l/\aw bg.ok m p
theorem eB.ok {e:aQ}(h:eB m e)(hm:m<=300000):e.ok:=by
 obtain⟨k,l,p,rfl,h1,h2⟩:=h;exact dZ e6 bV h1 hm h2 hm (aw.nil (m:=0)) (by decide)
theorem eB.add {e b:aQ}(h:eB m e)(hb:b.ok):eB (m+1) (e.add b):=by
 obtain⟨k,l,p,rfl,h1,h2⟩:=h;exact⟨k,l++[b],p,rfl,h1.snoc hb,h2.mono (Nat.le_succ m)⟩
theorem eB.iR {e b:aQ}{q:bg}(h:eB m e)(hq:q.ok)(hb:b.ok):eB (m+1) (e.iR q b):=by
 obtain⟨k,l,p,rfl,h1,h2⟩:=h;exact⟨k,l++[b],p++[q],rfl,h1.snoc hb,h2.snoc hq⟩
theorem eB.one {k:Int}{b:aQ}(hb:b.ok):eB 1 (.mk k 0 [] [b] [] []):=⟨k,[b],[],rfl,aw.one hb,aw.nil⟩
theorem eB.zero {k:Int}:eB 0 (.mk k 0 [] [] [] []):=⟨k,[],[],rfl,aw.nil,aw.nil⟩
theorem dE (n:Int):rg (IntKind.i64.wrap n):=by
 unfold rg IntKind.wrap;have:IntKind.i64.bits=64:=rfl;have:IntKind.i64.signed=true:=rfl;simp only[*,Bool.true_and];split
 . rename_i h';simp only[decide_eq_true_eq]at h';omega
 . rename_i h';simp only[decide_eq_true_eq]at h';omega
def AT (d:Option ba):Prop:=∀x,d=some x->x.ok
def lD (L:List Tok):Prop:=∀t,t∈L->rg t.n/\eL t.s
theorem lD.tk (h:lD L)(k:Nat):rg (tk L k).n/\eL (tk L k).s:=by
 unfold Go.Proofs.YthjhonhhbddhkaaGreatDoor.tk;cases hk:L[k]? with
 | none=>exact⟨e6,bV⟩
 | some t=>exact h t (List.mem_of_getElem? hk)
structure d_ (n:Nat)(p:PS):Prop where
 exp:∀k,aO (p.exp k) aQ.ok
 g_:∀e k m,eB m e->m+n<=300000->aO (p.g_ e k) aQ.ok
 bin:∀lv k,aO (p.bin lv k) aQ.ok
 gE:∀lv a k,a.ok->aO (p.gE lv a k) aQ.ok
 un:∀k,aO (p.un k) aQ.ok
 gF:∀a k,a.ok->aO (p.gF a k) aQ.ok
 atom:∀k,aO (p.atom k) aQ.ok
 dQ:∀s e k m,eB m e->m+n<=300000->aO (p.dQ s e k) aQ.ok
 lt:∀k,aO (p.lt k) aQ.ok
 f_:∀l k m,aw ba.ok m l->m+n<=300000->aO (p.f_ l k) (aw ba.ok 300000)
 pat:∀k,aO (p.pat k) bg.ok
 bQ:∀k,aO (p.bQ k) bg.ok
 gG:∀l k m,aw bg.ok m l->m+n<=300000->aO (p.gG l k) (aw bg.ok 300000)
 fu:∀k,aO (p.fu k) bj.ok
 ee:∀l k m,aw bj.ok m l->m+n<=300000->aO (p.ee l k) (aw bj.ok 300000)
 post:∀k,aO (p.post k) bj.ok
 p7:∀l k m,aw bj.ok m l->m+n<=300000->aO (p.p7 l k) (aw bj.ok 300000)
 dm:∀a k,a.ok->aO (p.dm a k) bj.ok
 fY:∀k,aO (p.fY k) dp.ok
 bind:∀k,aO (p.bind k) AT
 gH:∀l k m,aw Fn.ok m l->m+n<=300000->aO (p.gH l k) (aw Fn.ok 300000)
 fn:∀k,aO (p.fn k) Fn.ok
 p8:∀l k m,aw bg.ok m l->m+n<=300000->aO (p.p8 l k) (aw bg.ok 300000)
 dec:∀k,aO (p.dec k) AT
 data:∀k,aO (p.data k) Data.ok
 fP:∀l k m,aw eL m l->m+n<=300000->aO (p.fP l k) (aw eL 300000)
 gI:∀l k m,aw dp.ok m l->m+n<=300000->aO (p.gI l k) (aw dp.ok 300000)
 bX:∀l k m,aw ba.ok m l->m+n<=300000->aO (p.bX l k) (aw ba.ok 300000)
variable {n:Nat}{p:PS}
theorem Lx (h:d_ n p)(ht:∀k,rg (tk L k).n/\eL (tk L k).s)(hn:n<=200000):∀k,aO (vu L p k) aQ.ok:=by
 intro k;unfold vu
 repeat' (first
 | exact aO.fail
 | exact aO.yes (by assumption)
 | exact aO.yes (dZ (by first | exact e6 | exact(ht _).1 | exact dE _) (by first | exact bV | exact(ht _).2 | assumption | (show _<_;decide)) (by first | exact aw.nil (m:=0) | assumption | exact aw.three (by assumption) (by assumption) (by assumption) | exact aw.two (by assumption) (by assumption) | exact aw.one (by assumption)) (by omega) (by first | exact aw.nil (m:=0) | assumption | exact aw.three (by assumption) (by assumption) (by assumption) | exact aw.two (by assumption) (by assumption) | exact aw.one (by assumption)) (by omega) (by first | exact aw.nil (m:=0) | assumption | exact aw.three (by assumption) (by assumption) (by assumption) | exact aw.two (by assumption) (by assumption) | exact aw.one (by assumption)) (by omega))
 | refine aO.bl (λk=> ?_)
 | exact h.exp _
 | refine aO.bd (h.exp _) (λa k ha=> ?_)
 | exact h.g_ _ _ _ (by first | exact eB.iR (by assumption) (by assumption) (by assumption) | exact eB.add (by assumption) (by assumption) | exact eB.one (by assumption) | exact eB.zero) (by omega)
 | refine aO.bd (h.g_ _ _ _ (by first | exact eB.iR (by assumption) (by assumption) (by assumption) | exact eB.add (by assumption) (by assumption) | exact eB.one (by assumption) | exact eB.zero) (by omega)) (λa k ha=> ?_)
 | exact h.bin _ _
 | refine aO.bd (h.bin _ _) (λa k ha=> ?_)
 | refine aO.ite ?_ ?_)
theorem Ly (h:d_ n p)(ht:∀k,rg (tk L k).n/\eL (tk L k).s)(hn:n<=200000):∀e k m,eB m e->m+(n+1)<=300000->aO (vt L p e k) aQ.ok:=by
 intro e k m he hm;unfold vt
 repeat' (first
 | exact aO.yes (eB.ok (by first | assumption | exact eB.iR (by assumption) (by assumption) (by assumption)) (by omega))
 | exact aO.fail
 | exact aO.yes (by assumption)
 | exact aO.yes (dZ (by first | exact e6 | exact(ht _).1 | exact dE _) (by first | exact bV | exact(ht _).2 | assumption | (show _<_;decide)) (by first | exact aw.nil (m:=0) | assumption | exact aw.three (by assumption) (by assumption) (by assumption) | exact aw.two (by assumption) (by assumption) | exact aw.one (by assumption)) (by omega) (by first | exact aw.nil (m:=0) | assumption | exact aw.three (by assumption) (by assumption) (by assumption) | exact aw.two (by assumption) (by assumption) | exact aw.one (by assumption)) (by omega) (by first | exact aw.nil (m:=0) | assumption | exact aw.three (by assumption) (by assumption) (by assumption) | exact aw.two (by assumption) (by assumption) | exact aw.one (by assumption)) (by omega))
 | refine aO.bl (λk=> ?_)
 | exact h.exp _
 | refine aO.bd (h.exp _) (λa k ha=> ?_)
 | exact h.g_ _ _ _ (by first | exact eB.iR (by assumption) (by assumption) (by assumption) | exact eB.add (by assumption) (by assumption) | exact eB.one (by assumption) | exact eB.zero) (by omega)
 | refine aO.bd (h.g_ _ _ _ (by first | exact eB.iR (by assumption) (by assumption) (by assumption) | exact eB.add (by assumption) (by assumption) | exact eB.one (by assumption) | exact eB.zero) (by omega)) (λa k ha=> ?_)
 | exact h.pat _
 | refine aO.bd (h.pat _) (λa k ha=> ?_)
 | refine aO.ite ?_ ?_)
theorem EG (h:d_ n p)(ht:∀k,rg (tk L k).n/\eL (tk L k).s)(hn:n<=200000):∀lv a k,a.ok->aO (tb L p lv a k) aQ.ok:=by
 intro lv a k ha;unfold tb
 repeat' (first
 | exact aO.fail
 | exact aO.yes (by assumption)
 | exact aO.yes (dZ (by first | exact e6 | exact(ht _).1 | exact dE _) (by first | exact bV | exact(ht _).2 | assumption | (show _<_;decide)) (by first | exact aw.nil (m:=0) | assumption | exact aw.three (by assumption) (by assumption) (by assumption) | exact aw.two (by assumption) (by assumption) | exact aw.one (by assumption)) (by omega) (by first | exact aw.nil (m:=0) | assumption | exact aw.three (by assumption) (by assumption) (by assumption) | exact aw.two (by assumption) (by assumption) | exact aw.one (by assumption)) (by omega) (by first | exact aw.nil (m:=0) | assumption | exact aw.three (by assumption) (by assumption) (by assumption) | exact aw.two (by assumption) (by assumption) | exact aw.one (by assumption)) (by omega))
 | exact h.bin _ _
 | refine aO.bd (h.bin _ _) (λa k ha=> ?_)
 | exact h.gE _ _ _ (by first | assumption | exact jF (by first | exact bV | exact(ht _).2 | assumption | (show _<_;decide)) (by first | exact aw.nil (m:=0) | assumption | exact aw.three (by assumption) (by assumption) (by assumption) | exact aw.two (by assumption) (by assumption) | exact aw.one (by assumption)) (by omega) | exact dZ e6 (by first | exact bV | exact(ht _).2 | assumption | (show _<_;decide)) (by first | exact aw.nil (m:=0) | assumption | exact aw.three (by assumption) (by assumption) (by assumption) | exact aw.two (by assumption) (by assumption) | exact aw.one (by assumption)) (by omega) (aw.nil (m:=0)) (by omega) (aw.nil (m:=0)) (by omega))
 | refine aO.bd (h.gE _ _ _ (by first | assumption | exact jF (by first | exact bV | exact(ht _).2 | assumption | (show _<_;decide)) (by first | exact aw.nil (m:=0) | assumption | exact aw.three (by assumption) (by assumption) (by assumption) | exact aw.two (by assumption) (by assumption) | exact aw.one (by assumption)) (by omega) | exact dZ e6 (by first | exact bV | exact(ht _).2 | assumption | (show _<_;decide)) (by first | exact aw.nil (m:=0) | assumption | exact aw.three (by assumption) (by assumption) (by assumption) | exact aw.two (by assumption) (by assumption) | exact aw.one (by assumption)) (by omega) (aw.nil (m:=0)) (by omega) (aw.nil (m:=0)) (by omega))) (λa k ha=> ?_)
 | refine aO.ite ?_ ?_)
theorem Lz (h:d_ n p)(ht:∀k,rg (tk L k).n/\eL (tk L k).s)(hn:n<=200000):∀lv k,aO (vw L p lv k) aQ.ok:=by
 intro lv k;unfold vw;exact aO.ite (h.un _) (aO.bd (h.bin _ _) λa k ha=>EG h ht hn _ _ _ ha)
theorem xp (h:d_ n p)(ht:∀k,rg (tk L k).n/\eL (tk L k).s)(hn:n<=200000):∀a k,a.ok->aO (tc L p a k) aQ.ok:=by
 intro a k ha;unfold tc
 repeat' (first
 | exact aO.fail
 | exact aO.yes (by assumption)
 | exact aO.yes (dZ (by first | exact e6 | exact(ht _).1 | exact dE _) (by first | exact bV | exact(ht _).2 | assumption | (show _<_;decide)) (by first | exact aw.nil (m:=0) | assumption | exact aw.three (by assumption) (by assumption) (by assumption) | exact aw.two (by assumption) (by assumption) | exact aw.one (by assumption)) (by omega) (by first | exact aw.nil (m:=0) | assumption | exact aw.three (by assumption) (by assumption) (by assumption) | exact aw.two (by assumption) (by assumption) | exact aw.one (by assumption)) (by omega) (by first | exact aw.nil (m:=0) | assumption | exact aw.three (by assumption) (by assumption) (by assumption) | exact aw.two (by assumption) (by assumption) | exact aw.one (by assumption)) (by omega))
 | exact h.gF _ _ (by first | assumption | exact jF (by first | exact bV | exact(ht _).2 | assumption | (show _<_;decide)) (by first | exact aw.nil (m:=0) | assumption | exact aw.three (by assumption) (by assumption) (by assumption) | exact aw.two (by assumption) (by assumption) | exact aw.one (by assumption)) (by omega) | exact dZ e6 (by first | exact bV | exact(ht _).2 | assumption | (show _<_;decide)) (by first | exact aw.nil (m:=0) | assumption | exact aw.three (by assumption) (by assumption) (by assumption) | exact aw.two (by assumption) (by assumption) | exact aw.one (by assumption)) (by omega) (aw.nil (m:=0)) (by omega) (aw.nil (m:=0)) (by omega))
 | refine aO.bd (h.gF _ _ (by first | assumption | exact jF (by first | exact bV | exact(ht _).2 | assumption | (show _<_;decide)) (by first | exact aw.nil (m:=0) | assumption | exact aw.three (by assumption) (by assumption) (by assumption) | exact aw.two (by assumption) (by assumption) | exact aw.one (by assumption)) (by omega) | exact dZ e6 (by first | exact bV | exact(ht _).2 | assumption | (show _<_;decide)) (by first | exact aw.nil (m:=0) | assumption | exact aw.three (by assumption) (by assumption) (by assumption) | exact aw.two (by assumption) (by assumption) | exact aw.one (by assumption)) (by omega) (aw.nil (m:=0)) (by omega) (aw.nil (m:=0)) (by omega))) (λa k ha=> ?_)
 | exact h.atom _
 | refine aO.bd (h.atom _) (λa k ha=> ?_)
 | refine aO.ite ?_ ?_)
theorem N_ (h:d_ n p)(ht:∀k,rg (tk L k).n/\eL (tk L k).s)(hn:n<=200000):∀k,aO (Jc L p k) aQ.ok:=by
 intro k;unfold Jc
 repeat' (first
 | exact aO.fail
 | exact aO.yes (by assumption)
 | exact aO.yes (dZ (by first | exact e6 | exact(ht _).1 | exact dE _) (by first | exact bV | exact(ht _).2 | assumption | (show _<_;decide)) (by first | exact aw.nil (m:=0) | assumption | exact aw.three (by assumption) (by assumption) (by assumption) | exact aw.two (by assumption) (by assumption) | exact aw.one (by assumption)) (by omega) (by first | exact aw.nil (m:=0) | assumption | exact aw.three (by assumption) (by assumption) (by assumption) | exact aw.two (by assumption) (by assumption) | exact aw.one (by assumption)) (by omega) (by first | exact aw.nil (m:=0) | assumption | exact aw.three (by assumption) (by assumption) (by assumption) | exact aw.two (by assumption) (by assumption) | exact aw.one (by assumption)) (by omega))
 | exact h.un _
 | refine aO.bd (h.un _) (λa k ha=> ?_)
 | exact h.atom _
 | refine aO.bd (h.atom _) (λa k ha=> ?_)
 | exact xp h ht hn _ _ (by assumption)
 | refine aO.bd (xp h ht hn _ _ (by assumption)) (λa k ha=> ?_)
 | refine aO.ite ?_ ?_)
theorem pH (h:d_ n p)(ht:∀k,rg (tk L k).n/\eL (tk L k).s)(hn:n<=200000):∀s e k m,eB m e->m+(n+1)<=300000->aO (jy L p s e k) aQ.ok:=by
 intro s e k m he hm;unfold jy
 repeat' (first
 | exact aO.yes (eB.ok (by first | assumption | exact eB.iR (by assumption) (by assumption) (by assumption)) (by omega))
 | exact aO.fail
 | exact aO.yes (by assumption)
 | exact aO.yes (dZ (by first | exact e6 | exact(ht _).1 | exact dE _) (by first | exact bV | exact(ht _).2 | assumption | (show _<_;decide)) (by first | exact aw.nil (m:=0) | assumption | exact aw.three (by assumption) (by assumption) (by assumption) | exact aw.two (by assumption) (by assumption) | exact aw.one (by assumption)) (by omega) (by first | exact aw.nil (m:=0) | assumption | exact aw.three (by assumption) (by assumption) (by assumption) | exact aw.two (by assumption) (by assumption) | exact aw.one (by assumption)) (by omega) (by first | exact aw.nil (m:=0) | assumption | exact aw.three (by assumption) (by assumption) (by assumption) | exact aw.two (by assumption) (by assumption) | exact aw.one (by assumption)) (by omega))
 | exact h.exp _
 | refine aO.bd (h.exp _) (λa k ha=> ?_)
 | exact h.dQ _ _ _ _ (by first | exact eB.iR (by assumption) (by assumption) (by assumption) | exact eB.add (by assumption) (by assumption) | exact eB.one (by assumption) | exact eB.zero) (by omega)
 | refine aO.bd (h.dQ _ _ _ _ (by first | exact eB.iR (by assumption) (by assumption) (by assumption) | exact eB.add (by assumption) (by assumption) | exact eB.one (by assumption) | exact eB.zero) (by omega)) (λa k ha=> ?_)
 | refine aO.ite ?_ ?_)
theorem Hx (h:d_ n p)(ht:∀k,rg (tk L k).n/\eL (tk L k).s)(hn:n<=200000):∀k,aO (mP L p k) aQ.ok:=by
 intro k;unfold mP
 repeat' (first
 | exact aO.fail
 | exact aO.yes (by assumption)
 | exact aO.yes (dZ (by first | exact e6 | exact(ht _).1 | exact dE _) (by first | exact bV | exact(ht _).2 | assumption | (show _<_;decide)) (by first | exact aw.nil (m:=0) | assumption | exact aw.three (by assumption) (by assumption) (by assumption) | exact aw.two (by assumption) (by assumption) | exact aw.one (by assumption)) (by omega) (by first | exact aw.nil (m:=0) | assumption | exact aw.three (by assumption) (by assumption) (by assumption) | exact aw.two (by assumption) (by assumption) | exact aw.one (by assumption)) (by omega) (by first | exact aw.nil (m:=0) | assumption | exact aw.three (by assumption) (by assumption) (by assumption) | exact aw.two (by assumption) (by assumption) | exact aw.one (by assumption)) (by omega))
 | refine aO.bl (λk=> ?_)
 | exact h.exp _
 | refine aO.bd (h.exp _) (λa k ha=> ?_)
 | exact h.lt _
 | refine aO.bd (h.lt _) (λa k ha=> ?_)
 | exact pH h ht hn _ _ _ _ (by first | exact eB.iR (by assumption) (by assumption) (by assumption) | exact eB.add (by assumption) (by assumption) | exact eB.one (by assumption) | exact eB.zero) (by omega)
 | refine aO.bd (pH h ht hn _ _ _ _ (by first | exact eB.iR (by assumption) (by assumption) (by assumption) | exact eB.add (by assumption) (by assumption) | exact eB.one (by assumption) | exact eB.zero) (by omega)) (λa k ha=> ?_)
 | refine aO.ite ?_ ?_)
theorem xq (h:d_ n p)(ht:∀k,rg (tk L k).n/\eL (tk L k).s)(hn:n<=200000):∀l k m,aw ba.ok m l->m+(n+1)<=300000->aO (td L p l k) (aw ba.ok 300000):=by
 intro l k m hl hm;unfold td;refine aO.ite (aO.yes (hl.mono (by omega))) (aO.bd (h.bind _) λd k hd=> ?_);cases d with
 | none=>exact aO.fail
 | some d=>exact h.f_ _ _ _ (hl.snoc (hd d rfl)) (by omega)
theorem Oa (h:d_ n p)(ht:∀k,rg (tk L k).n/\eL (tk L k).s)(hn:n<=200000):∀k,aO (Jd L p k) aQ.ok:=by
 intro k;unfold Jd
 repeat' (first
 | exact aO.fail
 | exact aO.yes (by assumption)
 | exact aO.yes (dZ (by first | exact e6 | exact(ht _).1 | exact dE _) (by first | exact bV | exact(ht _).2 | assumption | (show _<_;decide)) (by first | exact aw.nil (m:=0) | assumption | exact aw.three (by assumption) (by assumption) (by assumption) | exact aw.two (by assumption) (by assumption) | exact aw.one (by assumption)) (by omega) (by first | exact aw.nil (m:=0) | assumption | exact aw.three (by assumption) (by assumption) (by assumption) | exact aw.two (by assumption) (by assumption) | exact aw.one (by assumption)) (by omega) (by first | exact aw.nil (m:=0) | assumption | exact aw.three (by assumption) (by assumption) (by assumption) | exact aw.two (by assumption) (by assumption) | exact aw.one (by assumption)) (by omega))
 | refine aO.bl (λk=> ?_)
 | exact h.exp _
 | refine aO.bd (h.exp _) (λa k ha=> ?_)
 | exact xq h ht hn _ _ _ (by first | exact aw.nil (m:=0) | exact aw.snoc (by assumption) (by first | assumption | exact(ht _).2) | exact aw.one (by first | assumption | exact(ht _).2)) (by omega)
 | refine aO.bd (xq h ht hn _ _ _ (by first | exact aw.nil (m:=0) | exact aw.snoc (by assumption) (by first | assumption | exact(ht _).2) | exact aw.one (by first | assumption | exact(ht _).2)) (by omega)) (λa k ha=> ?_)
 | exact pH h ht hn _ _ _ _ (by first | exact eB.iR (by assumption) (by assumption) (by assumption) | exact eB.add (by assumption) (by assumption) | exact eB.one (by assumption) | exact eB.zero) (by omega)
 | refine aO.bd (pH h ht hn _ _ _ _ (by first | exact eB.iR (by assumption) (by assumption) (by assumption) | exact eB.add (by assumption) (by assumption) | exact eB.one (by assumption) | exact eB.zero) (by omega)) (λa k ha=> ?_)
 | refine aO.ite ?_ ?_)
theorem EH (h:d_ n p)(ht:∀k,rg (tk L k).n/\eL (tk L k).s)(hn:n<=200000):∀k,aO (w8 L p k) bg.ok:=by
 intro k;unfold w8
 repeat' (first
 | exact aO.fail
 | exact aO.yes (by assumption)
 | exact aO.yes (gK (by first | exact e6 | exact(ht _).1 | exact dE _) (by decide) (aw.one (gK e6 bV (aw.two (by assumption) (by assumption)) (by omega))) (by omega))
 | exact aO.yes (gK (by first | exact e6 | exact(ht _).1 | exact dE _) (by first | exact bV | exact(ht _).2 | assumption | (show _<_;decide)) (by first | exact aw.nil (m:=0) | assumption | exact aw.three (by assumption) (by assumption) (by assumption) | exact aw.two (by assumption) (by assumption) | exact aw.one (by assumption)) (by omega))
 | exact h.bQ _
 | refine aO.bd (h.bQ _) (λa k ha=> ?_)
 | refine aO.ite ?_ ?_)
theorem LA (h:d_ n p)(ht:∀k,rg (tk L k).n/\eL (tk L k).s)(hn:n<=200000):∀k,aO (vx L p k) bg.ok:=by
 intro k;unfold vx
 repeat' (first
 | exact aO.fail
 | exact aO.yes (by assumption)
 | exact aO.yes (gK (by first | exact e6 | exact(ht _).1 | exact dE _) (by decide) (aw.one (gK e6 bV (aw.two (by assumption) (by assumption)) (by omega))) (by omega))
 | exact aO.yes (gK (by first | exact e6 | exact(ht _).1 | exact dE _) (by first | exact bV | exact(ht _).2 | assumption | (show _<_;decide)) (by first | exact aw.nil (m:=0) | assumption | exact aw.three (by assumption) (by assumption) (by assumption) | exact aw.two (by assumption) (by assumption) | exact aw.one (by assumption)) (by omega))
 | exact h.pat _
 | refine aO.bd (h.pat _) (λa k ha=> ?_)
 | exact EH h ht hn _
 | refine aO.bd (EH h ht hn _) (λa k ha=> ?_)
 | refine aO.ite ?_ ?_)
theorem tA (h:d_ n p)(ht:∀k,rg (tk L k).n/\eL (tk L k).s)(hn:n<=200000):∀l k m,aw bg.ok m l->m+(n+1)<=300000->aO (lA L p l k) (aw bg.ok 300000):=by
 intro l k m hl hm;unfold lA
 repeat' (first
 | exact aO.fail
 | exact aO.yes (aw.mono (aw.nil (m:=0)) (by omega))
 | exact aO.yes (aw.mono (aw.one (ht _).2) (by omega))
 | exact aO.yes (aw.mono (by assumption) (by omega))
 | exact aO.yes (by first | exact aw.nil (m:=0) | assumption | exact aw.three (by assumption) (by assumption) (by assumption) | exact aw.two (by assumption) (by assumption) | exact aw.one (by assumption))
 | exact aO.yes (aw.mono (by first | exact aw.nil (m:=0) | assumption | exact aw.three (by assumption) (by assumption) (by assumption) | exact aw.two (by assumption) (by assumption) | exact aw.one (by assumption)) (by omega))
 | exact h.pat _
 | refine aO.bd (h.pat _) (λa k ha=> ?_)
 | exact h.gG _ _ _ (by first | exact aw.nil (m:=0) | exact aw.snoc (by assumption) (by first | assumption | exact(ht _).2) | exact aw.one (by first | assumption | exact(ht _).2)) (by omega)
 | refine aO.bd (h.gG _ _ _ (by first | exact aw.nil (m:=0) | exact aw.snoc (by assumption) (by first | assumption | exact(ht _).2) | exact aw.one (by first | assumption | exact(ht _).2)) (by omega)) (λa k ha=> ?_)
 | refine aO.ite ?_ ?_)
theorem EJ (h:d_ n p)(ht:∀k,rg (tk L k).n/\eL (tk L k).s)(hn:n<=200000):∀k,aO (jz L p k) bg.ok:=by
 intro k;unfold jz
 repeat' (first
 | exact aO.fail
 | exact aO.yes (by assumption)
 | exact aO.yes (gK (by first | exact e6 | exact(ht _).1 | exact dE _) (by decide) (aw.one (gK e6 bV (aw.two (by assumption) (by assumption)) (by omega))) (by omega))
 | exact aO.yes (gK (by first | exact e6 | exact(ht _).1 | exact dE _) (by first | exact bV | exact(ht _).2 | assumption | (show _<_;decide)) (by first | exact aw.nil (m:=0) | assumption | exact aw.three (by assumption) (by assumption) (by assumption) | exact aw.two (by assumption) (by assumption) | exact aw.one (by assumption)) (by omega))
 | refine aO.bl (λk=> ?_)
 | refine aO.b_ (λj k=> ?_)
 | exact h.pat _
 | refine aO.bd (h.pat _) (λa k ha=> ?_)
 | exact tA h ht hn _ _ _ (by first | exact aw.nil (m:=0) | exact aw.snoc (by assumption) (by first | assumption | exact(ht _).2) | exact aw.one (by first | assumption | exact(ht _).2)) (by omega)
 | refine aO.bd (tA h ht hn _ _ _ (by first | exact aw.nil (m:=0) | exact aw.snoc (by assumption) (by first | assumption | exact(ht _).2) | exact aw.one (by first | assumption | exact(ht _).2)) (by omega)) (λa k ha=> ?_)
 | refine aO.ite ?_ ?_)
theorem tB (h:d_ n p)(ht:∀k,rg (tk L k).n/\eL (tk L k).s)(hn:n<=200000):∀l k m,aw bj.ok m l->m+(n+1)<=300000->aO (lB L p l k) (aw bj.ok 300000):=by
 intro l k m hl hm;unfold lB
 repeat' (first
 | exact aO.fail
 | exact aO.yes (aw.mono (aw.nil (m:=0)) (by omega))
 | exact aO.yes (aw.mono (aw.one (ht _).2) (by omega))
 | exact aO.yes (aw.mono (by assumption) (by omega))
 | exact aO.yes (by first | exact aw.nil (m:=0) | assumption | exact aw.three (by assumption) (by assumption) (by assumption) | exact aw.two (by assumption) (by assumption) | exact aw.one (by assumption))
 | exact aO.yes (aw.mono (by first | exact aw.nil (m:=0) | assumption | exact aw.three (by assumption) (by assumption) (by assumption) | exact aw.two (by assumption) (by assumption) | exact aw.one (by assumption)) (by omega))
 | exact h.ee _ _ _ (by first | exact aw.nil (m:=0) | exact aw.snoc (by assumption) (by first | assumption | exact(ht _).2) | exact aw.one (by first | assumption | exact(ht _).2)) (by omega)
 | refine aO.bd (h.ee _ _ _ (by first | exact aw.nil (m:=0) | exact aw.snoc (by assumption) (by first | assumption | exact(ht _).2) | exact aw.one (by first | assumption | exact(ht _).2)) (by omega)) (λa k ha=> ?_)
 | exact h.post _
 | refine aO.bd (h.post _) (λa k ha=> ?_)
 | refine aO.ite ?_ ?_)
theorem AU (h:d_ n p)(ht:∀k,rg (tk L k).n/\eL (tk L k).s)(hn:n<=200000):∀k,aO (pC L p k) bj.ok:=by
 intro k;unfold pC
 repeat' (first
 | exact aO.fail
 | exact aO.yes (by assumption)
 | exact aO.yes (jF (by first | exact bV | exact(ht _).2 | assumption | (show _<_;decide)) (by first | exact aw.nil (m:=0) | assumption | exact aw.three (by assumption) (by assumption) (by assumption) | exact aw.two (by assumption) (by assumption) | exact aw.one (by assumption)) (by omega))
 | exact h.post _
 | refine aO.bd (h.post _) (λa k ha=> ?_)
 | exact tB h ht hn _ _ _ (by first | exact aw.nil (m:=0) | exact aw.snoc (by assumption) (by first | assumption | exact(ht _).2) | exact aw.one (by first | assumption | exact(ht _).2)) (by omega)
 | refine aO.bd (tB h ht hn _ _ _ (by first | exact aw.nil (m:=0) | exact aw.snoc (by assumption) (by first | assumption | exact(ht _).2) | exact aw.one (by first | assumption | exact(ht _).2)) (by omega)) (λa k ha=> ?_)
 | refine aO.ite ?_ ?_)
theorem LB (h:d_ n p)(ht:∀k,rg (tk L k).n/\eL (tk L k).s)(hn:n<=200000):∀k,aO (vy L p k) bj.ok:=by
 intro k;unfold vy
 repeat' (first
 | exact aO.fail
 | exact aO.yes (by assumption)
 | exact aO.yes (jF (by first | exact bV | exact(ht _).2 | assumption | (show _<_;decide)) (by first | exact aw.nil (m:=0) | assumption | exact aw.three (by assumption) (by assumption) (by assumption) | exact aw.two (by assumption) (by assumption) | exact aw.one (by assumption)) (by omega))
 | exact h.fu _
 | refine aO.bd (h.fu _) (λa k ha=> ?_)
 | exact AU h ht hn _
 | refine aO.bd (AU h ht hn _) (λa k ha=> ?_)
 | refine aO.ite ?_ ?_)
theorem xr (h:d_ n p)(ht:∀k,rg (tk L k).n/\eL (tk L k).s)(hn:n<=200000):∀l k m,aw bj.ok m l->m+(n+1)<=300000->aO (m6 L p l k) (aw bj.ok 300000):=by
 intro l k m hl hm;unfold m6
 repeat' (first
 | exact aO.fail
 | exact aO.yes (aw.mono (aw.nil (m:=0)) (by omega))
 | exact aO.yes (aw.mono (aw.one (ht _).2) (by omega))
 | exact aO.yes (aw.mono (by assumption) (by omega))
 | exact aO.yes (by first | exact aw.nil (m:=0) | assumption | exact aw.three (by assumption) (by assumption) (by assumption) | exact aw.two (by assumption) (by assumption) | exact aw.one (by assumption))
 | exact aO.yes (aw.mono (by first | exact aw.nil (m:=0) | assumption | exact aw.three (by assumption) (by assumption) (by assumption) | exact aw.two (by assumption) (by assumption) | exact aw.one (by assumption)) (by omega))
 | exact h.fu _
 | refine aO.bd (h.fu _) (λa k ha=> ?_)
 | exact h.p7 _ _ _ (by first | exact aw.nil (m:=0) | exact aw.snoc (by assumption) (by first | assumption | exact(ht _).2) | exact aw.one (by first | assumption | exact(ht _).2)) (by omega)
 | refine aO.bd (h.p7 _ _ _ (by first | exact aw.nil (m:=0) | exact aw.snoc (by assumption) (by first | assumption | exact(ht _).2) | exact aw.one (by first | assumption | exact(ht _).2)) (by omega)) (λa k ha=> ?_)
 | refine aO.ite ?_ ?_)
theorem AV (h:d_ n p)(ht:∀k,rg (tk L k).n/\eL (tk L k).s)(hn:n<=200000):∀k,aO (pD L p k) bj.ok:=by
 intro k;unfold pD
 repeat' (first
 | exact aO.fail
 | exact aO.yes (by assumption)
 | exact aO.yes (jF (by first | exact bV | exact(ht _).2 | assumption | (show _<_;decide)) (by first | exact aw.nil (m:=0) | assumption | exact aw.three (by assumption) (by assumption) (by assumption) | exact aw.two (by assumption) (by assumption) | exact aw.one (by assumption)) (by omega))
 | refine aO.bl (λk=> ?_)
 | exact h.fu _
 | refine aO.bd (h.fu _) (λa k ha=> ?_)
 | exact xr h ht hn _ _ _ (by first | exact aw.nil (m:=0) | exact aw.snoc (by assumption) (by first | assumption | exact(ht _).2) | exact aw.one (by first | assumption | exact(ht _).2)) (by omega)
 | refine aO.bd (xr h ht hn _ _ _ (by first | exact aw.nil (m:=0) | exact aw.snoc (by assumption) (by first | assumption | exact(ht _).2) | exact aw.one (by first | assumption | exact(ht _).2)) (by omega)) (λa k ha=> ?_)
 | refine aO.ite ?_ ?_)
theorem tC (h:d_ n p)(ht:∀k,rg (tk L k).n/\eL (tk L k).s)(hn:n<=200000):∀a k,a.ok->aO (jA L p a k) bj.ok:=by
 intro a k ha;unfold jA
 repeat' (first
 | exact aO.fail
 | exact aO.yes (by assumption)
 | exact aO.yes (jF (by first | exact bV | exact(ht _).2 | assumption | (show _<_;decide)) (by first | exact aw.nil (m:=0) | assumption | exact aw.three (by assumption) (by assumption) (by assumption) | exact aw.two (by assumption) (by assumption) | exact aw.one (by assumption)) (by omega))
 | exact h.dm _ _ (by first | assumption | exact jF (by first | exact bV | exact(ht _).2 | assumption | (show _<_;decide)) (by first | exact aw.nil (m:=0) | assumption | exact aw.three (by assumption) (by assumption) (by assumption) | exact aw.two (by assumption) (by assumption) | exact aw.one (by assumption)) (by omega) | exact dZ e6 (by first | exact bV | exact(ht _).2 | assumption | (show _<_;decide)) (by first | exact aw.nil (m:=0) | assumption | exact aw.three (by assumption) (by assumption) (by assumption) | exact aw.two (by assumption) (by assumption) | exact aw.one (by assumption)) (by omega) (aw.nil (m:=0)) (by omega) (aw.nil (m:=0)) (by omega))
 | refine aO.bd (h.dm _ _ (by first | assumption | exact jF (by first | exact bV | exact(ht _).2 | assumption | (show _<_;decide)) (by first | exact aw.nil (m:=0) | assumption | exact aw.three (by assumption) (by assumption) (by assumption) | exact aw.two (by assumption) (by assumption) | exact aw.one (by assumption)) (by omega) | exact dZ e6 (by first | exact bV | exact(ht _).2 | assumption | (show _<_;decide)) (by first | exact aw.nil (m:=0) | assumption | exact aw.three (by assumption) (by assumption) (by assumption) | exact aw.two (by assumption) (by assumption) | exact aw.one (by assumption)) (by omega) (aw.nil (m:=0)) (by omega) (aw.nil (m:=0)) (by omega))) (λa k ha=> ?_)
 | refine aO.ite ?_ ?_)
theorem Hy (h:d_ n p)(ht:∀k,rg (tk L k).n/\eL (tk L k).s)(hn:n<=200000):∀k,aO (mQ L p k) bj.ok:=by
 intro k;unfold mQ
 repeat' (first
 | exact aO.fail
 | exact aO.yes (by assumption)
 | exact aO.yes (jF (by first | exact bV | exact(ht _).2 | assumption | (show _<_;decide)) (by first | exact aw.nil (m:=0) | assumption | exact aw.three (by assumption) (by assumption) (by assumption) | exact aw.two (by assumption) (by assumption) | exact aw.one (by assumption)) (by omega))
 | exact AV h ht hn _
 | refine aO.bd (AV h ht hn _) (λa k ha=> ?_)
 | exact tC h ht hn _ _ (by assumption)
 | refine aO.bd (tC h ht hn _ _ (by assumption)) (λa k ha=> ?_)
 | refine aO.ite ?_ ?_)
theorem LC (h:d_ n p)(ht:∀k,rg (tk L k).n/\eL (tk L k).s)(hn:n<=200000):∀k,aO (vz L p k) dp.ok:=by
 intro k;unfold vz
 repeat' (first
 | exact aO.fail
 | exact aO.yes (EC (by first | exact bV | exact(ht _).2 | assumption | (show _<_;decide)) (by first | exact aw.nil (m:=0) | assumption | exact aw.three (by assumption) (by assumption) (by assumption) | exact aw.two (by assumption) (by assumption) | exact aw.one (by assumption)) (by omega))
 | refine aO.b_ (λj k=> ?_)
 | exact h.fu _
 | refine aO.bd (h.fu _) (λa k ha=> ?_)
 | refine aO.ite ?_ ?_)
theorem xu (h:d_ n p)(ht:∀k,rg (tk L k).n/\eL (tk L k).s)(hn:n<=200000):∀l k m,aw Fn.ok m l->m+(n+1)<=300000->aO (te L p l k) (aw Fn.ok 300000):=by
 intro l k m hl hm;unfold te
 repeat' (first
 | exact aO.fail
 | exact aO.yes (aw.mono (aw.nil (m:=0)) (by omega))
 | exact aO.yes (aw.mono (aw.one (ht _).2) (by omega))
 | exact aO.yes (aw.mono (by assumption) (by omega))
 | exact aO.yes (by first | exact aw.nil (m:=0) | assumption | exact aw.three (by assumption) (by assumption) (by assumption) | exact aw.two (by assumption) (by assumption) | exact aw.one (by assumption))
 | exact aO.yes (aw.mono (by first | exact aw.nil (m:=0) | assumption | exact aw.three (by assumption) (by assumption) (by assumption) | exact aw.two (by assumption) (by assumption) | exact aw.one (by assumption)) (by omega))
 | exact h.gH _ _ _ (by first | exact aw.nil (m:=0) | exact aw.snoc (by assumption) (by first | assumption | exact(ht _).2) | exact aw.one (by first | assumption | exact(ht _).2)) (by omega)
 | refine aO.bd (h.gH _ _ _ (by first | exact aw.nil (m:=0) | exact aw.snoc (by assumption) (by first | assumption | exact(ht _).2) | exact aw.one (by first | assumption | exact(ht _).2)) (by omega)) (λa k ha=> ?_)
 | exact h.fn _
 | refine aO.bd (h.fn _) (λa k ha=> ?_)
 | refine aO.ite ?_ ?_)
theorem Hz (h:d_ n p)(ht:∀k,rg (tk L k).n/\eL (tk L k).s)(hn:n<=200000):∀k,aO (mR L p k) AT:=by
 intro k;unfold mR
 repeat' (first
 | exact aO.fail
 | exact aO.yes (λx e=>by first | (cases e;done) | (cases e;exact xo (by first | assumption | exact ED) (by first | assumption | exact JF) (by first | exact aw.nil (m:=0) | assumption | exact aw.three (by assumption) (by assumption) (by assumption) | exact aw.two (by assumption) (by assumption) | exact aw.one (by assumption)) (by omega) (by first | assumption | exact EE) (by first | assumption | exact EF)))
 | refine aO.bl (λk=> ?_)
 | exact h.exp _
 | refine aO.bd (h.exp _) (λa k ha=> ?_)
 | exact h.pat _
 | refine aO.bd (h.pat _) (λa k ha=> ?_)
 | exact h.fn _
 | refine aO.bd (h.fn _) (λa k ha=> ?_)
 | exact xu h ht hn _ _ _ (by first | exact aw.nil (m:=0) | exact aw.snoc (by assumption) (by first | assumption | exact(ht _).2) | exact aw.one (by first | assumption | exact(ht _).2)) (by omega)
 | refine aO.bd (xu h ht hn _ _ _ (by first | exact aw.nil (m:=0) | exact aw.snoc (by assumption) (by first | assumption | exact(ht _).2) | exact aw.one (by first | assumption | exact(ht _).2)) (by omega)) (λa k ha=> ?_)
 | refine aO.ite ?_ ?_)
theorem xw (h:d_ n p)(ht:∀k,rg (tk L k).n/\eL (tk L k).s)(hn:n<=200000):∀l k m,aw bg.ok m l->m+(n+1)<=300000->aO (tg L p l k) (aw bg.ok 300000):=by
 intro l k m hl hm;unfold tg
 repeat' (first
 | exact aO.fail
 | exact aO.yes (aw.mono (aw.nil (m:=0)) (by omega))
 | exact aO.yes (aw.mono (aw.one (ht _).2) (by omega))
 | exact aO.yes (aw.mono (by assumption) (by omega))
 | exact aO.yes (by first | exact aw.nil (m:=0) | assumption | exact aw.three (by assumption) (by assumption) (by assumption) | exact aw.two (by assumption) (by assumption) | exact aw.one (by assumption))
 | exact aO.yes (aw.mono (by first | exact aw.nil (m:=0) | assumption | exact aw.three (by assumption) (by assumption) (by assumption) | exact aw.two (by assumption) (by assumption) | exact aw.one (by assumption)) (by omega))
 | exact h.bQ _
 | refine aO.bd (h.bQ _) (λa k ha=> ?_)
 | exact h.p8 _ _ _ (by first | exact aw.nil (m:=0) | exact aw.snoc (by assumption) (by first | assumption | exact(ht _).2) | exact aw.one (by first | assumption | exact(ht _).2)) (by omega)
 | refine aO.bd (h.p8 _ _ _ (by first | exact aw.nil (m:=0) | exact aw.snoc (by assumption) (by first | assumption | exact(ht _).2) | exact aw.one (by first | assumption | exact(ht _).2)) (by omega)) (λa k ha=> ?_)
 | refine aO.ite ?_ ?_)
theorem Ob (h:d_ n p)(ht:∀k,rg (tk L k).n/\eL (tk L k).s)(hn:n<=200000):∀k,aO (Je L p k) Fn.ok:=by
 intro k;unfold Je
 repeat' (first
 | exact aO.fail
 | exact aO.yes (N9 (by first | exact bV | exact(ht _).2 | assumption | (show _<_;decide)) (by first | exact aw.nil (m:=0) | assumption | exact aw.three (by assumption) (by assumption) (by assumption) | exact aw.two (by assumption) (by assumption) | exact aw.one (by assumption)) (by omega) (by assumption))
 | refine aO.bl (λk=> ?_)
 | refine aO.b_ (λj k=> ?_)
 | exact h.exp _
 | refine aO.bd (h.exp _) (λa k ha=> ?_)
 | exact h.bQ _
 | refine aO.bd (h.bQ _) (λa k ha=> ?_)
 | exact xw h ht hn _ _ _ (by first | exact aw.nil (m:=0) | exact aw.snoc (by assumption) (by first | assumption | exact(ht _).2) | exact aw.one (by first | assumption | exact(ht _).2)) (by omega)
 | refine aO.bd (xw h ht hn _ _ _ (by first | exact aw.nil (m:=0) | exact aw.snoc (by assumption) (by first | assumption | exact(ht _).2) | exact aw.one (by first | assumption | exact(ht _).2)) (by omega)) (λa k ha=> ?_)
 | refine aO.ite ?_ ?_)
theorem LD (h:d_ n p)(ht:∀k,rg (tk L k).n/\eL (tk L k).s)(hn:n<=200000):∀k,aO (vA L p k) AT:=by
 intro k;unfold vA
 repeat' (first
 | exact aO.fail
 | exact aO.yes (λx e=>by first | (cases e;done) | (cases e;exact xo (by first | assumption | exact ED) (by first | assumption | exact JF) (by first | exact aw.nil (m:=0) | assumption | exact aw.three (by assumption) (by assumption) (by assumption) | exact aw.two (by assumption) (by assumption) | exact aw.one (by assumption)) (by omega) (by first | assumption | exact EE) (by first | assumption | exact EF)))
 | exact h.fY _
 | refine aO.bd (h.fY _) (λa k ha=> ?_)
 | exact h.bind _
 | refine aO.bd (h.bind _) (λa k ha=> ?_)
 | exact h.data _
 | refine aO.bd (h.data _) (λa k ha=> ?_)
 | refine aO.ite ?_ ?_)
theorem xx (h:d_ n p)(ht:∀k,rg (tk L k).n/\eL (tk L k).s)(hn:n<=200000):∀l k m,aw eL m l->m+(n+1)<=300000->aO (mi L p l k) (aw eL 300000):=by
 intro l k m hl hm;unfold mi
 repeat' (first
 | exact aO.fail
 | exact aO.yes (aw.mono (aw.nil (m:=0)) (by omega))
 | exact aO.yes (aw.mono (aw.one (ht _).2) (by omega))
 | exact aO.yes (aw.mono (by assumption) (by omega))
 | exact aO.yes (by first | exact aw.nil (m:=0) | assumption | exact aw.three (by assumption) (by assumption) (by assumption) | exact aw.two (by assumption) (by assumption) | exact aw.one (by assumption))
 | exact aO.yes (aw.mono (by first | exact aw.nil (m:=0) | assumption | exact aw.three (by assumption) (by assumption) (by assumption) | exact aw.two (by assumption) (by assumption) | exact aw.one (by assumption)) (by omega))
 | refine aO.b_ (λj k=> ?_)
 | exact h.fP _ _ _ (by first | exact aw.nil (m:=0) | exact aw.snoc (by assumption) (by first | assumption | exact(ht _).2) | exact aw.one (by first | assumption | exact(ht _).2)) (by omega)
 | refine aO.bd (h.fP _ _ _ (by first | exact aw.nil (m:=0) | exact aw.snoc (by assumption) (by first | assumption | exact(ht _).2) | exact aw.one (by first | assumption | exact(ht _).2)) (by omega)) (λa k ha=> ?_)
 | refine aO.ite ?_ ?_)
theorem AW (h:d_ n p)(ht:∀k,rg (tk L k).n/\eL (tk L k).s)(hn:n<=200000):∀k,aO (pE L p k) (aw eL 300000):=by
 intro k;unfold pE
 repeat' (first
 | exact aO.fail
 | exact aO.yes (aw.mono (aw.nil (m:=0)) (by omega))
 | exact aO.yes (aw.mono (aw.one (ht _).2) (by omega))
 | exact aO.yes (aw.mono (by assumption) (by omega))
 | exact aO.yes (by first | exact aw.nil (m:=0) | assumption | exact aw.three (by assumption) (by assumption) (by assumption) | exact aw.two (by assumption) (by assumption) | exact aw.one (by assumption))
 | exact aO.yes (aw.mono (by first | exact aw.nil (m:=0) | assumption | exact aw.three (by assumption) (by assumption) (by assumption) | exact aw.two (by assumption) (by assumption) | exact aw.one (by assumption)) (by omega))
 | refine aO.bl (λk=> ?_)
 | refine aO.b_ (λj k=> ?_)
 | exact xx h ht hn _ _ _ (by first | exact aw.nil (m:=0) | exact aw.snoc (by assumption) (by first | assumption | exact(ht _).2) | exact aw.one (by first | assumption | exact(ht _).2)) (by omega)
 | refine aO.bd (xx h ht hn _ _ _ (by first | exact aw.nil (m:=0) | exact aw.snoc (by assumption) (by first | assumption | exact(ht _).2) | exact aw.one (by first | assumption | exact(ht _).2)) (by omega)) (λa k ha=> ?_)
 | refine aO.ite ?_ ?_)
theorem tD (h:d_ n p)(ht:∀k,rg (tk L k).n/\eL (tk L k).s)(hn:n<=200000):∀l k m,aw dp.ok m l->m+(n+1)<=300000->aO (gu L p l k) (aw dp.ok 300000):=by
 intro l k m hl hm;unfold gu
 repeat' (first
 | exact aO.fail
 | exact aO.yes (aw.mono (aw.nil (m:=0)) (by omega))
 | exact aO.yes (aw.mono (aw.one (ht _).2) (by omega))
 | exact aO.yes (aw.mono (by assumption) (by omega))
 | exact aO.yes (by first | exact aw.nil (m:=0) | assumption | exact aw.three (by assumption) (by assumption) (by assumption) | exact aw.two (by assumption) (by assumption) | exact aw.one (by assumption))
 | exact aO.yes (aw.mono (by first | exact aw.nil (m:=0) | assumption | exact aw.three (by assumption) (by assumption) (by assumption) | exact aw.two (by assumption) (by assumption) | exact aw.one (by assumption)) (by omega))
 | exact h.fY _
 | refine aO.bd (h.fY _) (λa k ha=> ?_)
 | exact h.gI _ _ _ (by first | exact aw.nil (m:=0) | exact aw.snoc (by assumption) (by first | assumption | exact(ht _).2) | exact aw.one (by first | assumption | exact(ht _).2)) (by omega)
 | refine aO.bd (h.gI _ _ _ (by first | exact aw.nil (m:=0) | exact aw.snoc (by assumption) (by first | assumption | exact(ht _).2) | exact aw.one (by first | assumption | exact(ht _).2)) (by omega)) (λa k ha=> ?_)
 | refine aO.ite ?_ ?_)
theorem HA (h:d_ n p)(ht:∀k,rg (tk L k).n/\eL (tk L k).s)(hn:n<=200000):∀k,aO (mS L p k) Data.ok:=by
 intro k;unfold mS
 repeat' (first
 | exact aO.fail
 | exact aO.yes (AS (by first | exact aw.nil (m:=0) | assumption | exact aw.three (by assumption) (by assumption) (by assumption) | exact aw.two (by assumption) (by assumption) | exact aw.one (by assumption)) (by omega) (by first | exact bV | exact(ht _).2 | assumption | (show _<_;decide)) (by first | exact aw.nil (m:=0) | assumption | exact aw.three (by assumption) (by assumption) (by assumption) | exact aw.two (by assumption) (by assumption) | exact aw.one (by assumption)) (by omega))
 | refine aO.bl (λk=> ?_)
 | refine aO.b_ (λj k=> ?_)
 | exact h.fY _
 | refine aO.bd (h.fY _) (λa k ha=> ?_)
 | exact AW h ht hn _
 | refine aO.bd (AW h ht hn _) (λa k ha=> ?_)
 | exact tD h ht hn _ _ _ (by first | exact aw.nil (m:=0) | exact aw.snoc (by assumption) (by first | assumption | exact(ht _).2) | exact aw.one (by first | assumption | exact(ht _).2)) (by omega)
 | refine aO.bd (tD h ht hn _ _ _ (by first | exact aw.nil (m:=0) | exact aw.snoc (by assumption) (by first | assumption | exact(ht _).2) | exact aw.one (by first | assumption | exact(ht _).2)) (by omega)) (λa k ha=> ?_)
 | refine aO.ite ?_ ?_)
theorem HB (h:d_ n p)(ht:∀k,rg (tk L k).n/\eL (tk L k).s)(hn:n<=200000):∀l k m,aw ba.ok m l->m+(n+1)<=300000->aO (mT L p l k) (aw ba.ok 300000):=by
 intro l k m hl hm;unfold mT;refine aO.ite (aO.yes (hl.mono (by omega))) (aO.bd (h.dec _) λd k hd=> ?_);cases d with
 | none=>exact aO.bd (h.exp _) λe k he=>h.bX _ _ _ (hl.snoc (xo ED he (aw.nil (m:=0)) (by omega) EE EF)) (by omega)
 | some d=>exact h.bX _ _ _ (hl.snoc (hd d rfl)) (by omega)
theorem Oc (ht:lD L):∀n,n<=200000->d_ n (ps L n)
 | 0,_=>by constructor<;>intros<;>exact aO.none
 | n+1,hn=>by
   have h:=Oc ht n (by omega);have ht:=ht.tk;have hn:n<=200000:=by omega
   exact {
    exp:=Lx (L:=L) h ht hn
    g_:=Ly (L:=L) h ht hn
    bin:=Lz (L:=L) h ht hn
    gE:=EG (L:=L) h ht hn
    un:=N_ (L:=L) h ht hn
    gF:=xp (L:=L) h ht hn
    atom:=Hx (L:=L) h ht hn
    dQ:=pH (L:=L) h ht hn
    lt:=Oa (L:=L) h ht hn
    f_:=xq (L:=L) h ht hn
    pat:=LA (L:=L) h ht hn
    bQ:=EJ (L:=L) h ht hn
    gG:=tA (L:=L) h ht hn
    fu:=LB (L:=L) h ht hn
    ee:=tB (L:=L) h ht hn
    post:=Hy (L:=L) h ht hn
    p7:=xr (L:=L) h ht hn
    dm:=tC (L:=L) h ht hn
    fY:=LC (L:=L) h ht hn
    bind:=Hz (L:=L) h ht hn
    gH:=xu (L:=L) h ht hn
    fn:=Ob (L:=L) h ht hn
    p8:=xw (L:=L) h ht hn
    dec:=LD (L:=L) h ht hn
    data:=HA (L:=L) h ht hn
    fP:=xx (L:=L) h ht hn
    gI:=tD (L:=L) h ht hn
    bX:=HB (L:=L) h ht hn }
end
section
variable {nx0 nx nx' bp k:Nat}{H0 H H':T OB}{F A B G G':List Bx}{R:Go.Ev.Out->T OB->Nat->Prop}{b:Nat}{l:List Value}{e t:TypeId}{L:List Tok}
def HC:gL (List ba)->List ba×Int×Int
 | .bad a=>([],a,80)
 | .ok ds _=>if 100<fN ds 0 then([],0,81)else(ds,0,0)
def ml (L:List Tok)(o:gL (List ba)):List ba×Int×Int:=if L.all dk=true then HC o else([],0,110)
def DV (ds:List ba)(v:Value):Prop:=v=cX ds\/(ds=[]/\v=aG)
abbrev EK (r:List ba×Int×Int):Go.Ev.Out->T OB->Nat->Prop:=λq _ _=>∃v,q= .ret (.tuple ⟨[v,i64 r.2.1,i64 r.2.2]⟩)/\DV r.1 v
theorem EL {i:Nat}{t:Tok}(hg:L[i]? = some t)(hp:(L.take i).all dk=true)(ht:dk t=true):(L.take (i+1)).all dk=true:=by
 rw[List.take_add_one,hg,List.all_append,hp];simp[ht]
theorem AX {i:Nat}{t:Tok}(hg:L[i]? = some t)(ht:dk t=false):¬L.all dk=true:=λq=>by
 have:=List.all_eq_true.1 q t (List.mem_of_getElem? hg);rw[ht]at this;cases this
theorem Qm {u:Value}:∃H',ja H nx e (some u)= .val (ptr nx) H' (nx+1)/\cm H' nx u.cells.toList e/\Ag nx H (nx+1) H'/\∀b l e,b<nx->cm H b l e->cm H' b l e:=by
 obtain⟨o,H',nx',hA,⟨h1,h2,h3,h4⟩,hr⟩:=Wq.box (P:=P) (pl:=pl) (X:=X0) (R:=λo H2 nx2=>o= .ret (ptr nx)/\nx2=nx+1/\cm H2 nx u.cells.toList e/\∀b l e,b<nx->cm H b l e->cm H2 b l e) (k:=λv H nx=> .ret ⟨.ret v,false,H,nx⟩) (u:=u) (e:=e) (Ag.refl nx H) λH' hb cA hA=>Wq.kr hA ⟨rfl,rfl,hb,cA⟩;cases he:ja H nx e (some u)with
 | val v H1 aJ=>
   rw[he]at hr;have hr:some (⟨.ret v,false,H1,aJ⟩:Rt)=some ⟨o,false,H',nx'⟩:=hr;cases hr;cases h1;subst h2;exact⟨_,rfl,h3,hA,h4⟩
 | _=>rw[he]at hr;cases hr
theorem EM {x:dI}{v:Value}{k:Value->T OB->Nat->Q}(h:x= .val v H nx):ao x k=k v H nx:=by rw[h];rfl
def Qn (x0:Value)(H:T OB)(nx:Nat):Q:=ao (aA P H nx 24) (λx1 H nx=>ao (aA P H nx 3) (λx2 H nx=>ao (aA P H nx 25) (λx3 H nx=>aa (aM P #[29] 3 (some [x0])) (λx4=> .jump (u_ x0 x1 x2 x3 x0 x4 (.int .i64 0) H nx)) .bad)))
theorem Od (a0:Value)(H:T OB)(nx:Nat):a4 P pl (.call 15 [a0] false none H nx)=fH P 29 a0 H nx Qn:=QK a0 H nx
theorem Oe (v:Value)(hv:au v=true):aC P 73 (some [(0,fQ L)])=some (.agg ⟨[fQ L,i64 0]⟩):=a_ (z:=[aG,i64 0]) (by kernel_rfl) (by kernel_rfl)
theorem QF (hL:L.length<=100000)(hT:lD L){n:Nat}(hn:n<=90000){o:gL (List ba)}(ho:(ps L n).bX [] 0=some o){x1 x2 x3:Nat}:∀(d i nx:Nat) (H:Go.Ev.T OB),i+d=L.length->(L.take i).all dk=true->Hp nx0 H0 [(x1,[aG],24),(x2,[i64 0],3),(x3,[i64 0],25)] H nx->
 aT P pl X0 (.jump (u_ (fQ L) (ptr x1) (ptr x2) (ptr x3) (fQ L) (i64 (L.length:Int)) (i64 ((i:Nat):Int)) H nx)) nx0 H0 (EK (ml L o))
 | d+1,i,nx,H,hd,hp,h=>by
   have hlt:i<L.length:=by omega
   have hg:L[i]? = some L[i]:=List.getElem?_eq_getElem hlt;have hx:(L.map Tok.v)[i]? = some L[i].v:=by simp[hg]
   refine Wq.jmp (IM ..) (λ_=>rfl) ?_;simp only[af,aU hlt,zz hx];refine Hq.var bR ch rfl rfl rfl h λH1 aJ h1=> ?_;refine Hq.po (MP L[i] (by have:=(hT _ (List.mem_of_getElem? hg)).2;have h9:L[i].s.length<_:=this;omega)) h1 λH2 nx2 h2=> ?_;cases ht:dk L[i]with
   | false=>
     simp only[af,Bool.not_false];refine Hq.put [] h2 qN rfl rfl (by simp) rfl λH3 h3=> ?_;refine Hq.put [_] h3 js rfl rfl (by simp) rfl λH4 h4=> ?_;refine Hq.put [_,_] h4 zS rfl rfl (by simp) rfl λH5 h5=> ?_;simp only[af,ax (off:=0) (u:=aG) (h5.at_ 0 rfl) kx rfl,ax (off:=0) (u:=i64 0) (h5.at_ 1 rfl) mJ rfl,ax (off:=0) (u:=i64 110) (h5.at_ 2 rfl) rM rfl];refine Wq.kr h5.ag ⟨aG,?_,?_⟩
     . unfold ml;rw[if_neg (AX hg ht)]
     . unfold ml;rw[if_neg (AX hg ht)];exact .inr ⟨rfl,rfl⟩
   | true=>
     simp only[af,Bool.not_true,aL (i:=i) (by omega)];exact QF hL hT hn ho d (i+1) nx2 H2 (by omega) (EL hg hp ht) h2
 | 0,i,nx,H,hd,hp,h=>by
   have hall:L.all dk=true:=by rwa[List.take_of_length_le (by omega)]at hp
   have hout:ml L o=HC o:=by unfold ml;rw[if_pos hall]
   rw[hout];refine Wq.jmp (IM ..) (λ_=>rfl) ?_;have hge:i=L.length:=by omega
   subst hge;simp only[af,aV,Oe (L:=L) aG rfl];obtain⟨H1,eb,hb,hA1,cA⟩:=Qm (H:=H) (nx:=nx) (e:=73) (u:= .agg ⟨[fQ L,i64 0]⟩);rw[EM eb];have h2:Hp nx H (ca nx L 0::[]) H1 (nx+1):=⟨h.sZ.ag h.ag,hA1,by simp,λx hx=>by
    rw[List.mem_singleton]at hx;subst hx;exact⟨Nat.le_refl _,Nat.lt_succ_self _,hb⟩⟩
   refine Wq.fi rfl (aT.base h.ag (Ql hL hn nx (nx+1) H H1 nx [] 0 o ho h2)) (λu H3 nx3 hA he=> ?_) (λu H3 nx3 hA he=> ?_)
   . have h4:=h.cA hA he.2.1 λb l e hb hi=>hi.ag he.2 hb;replace he:=he.1;cases o with
     | bad a=>cases he
     | ok ds k=>
       obtain⟨e1,h3⟩:=he;cases e1;have hok:=(Oc hT n (by omega)).bX [] 0 0 aw.nil (by omega) ds k ho;refine Hq.put [] h4 qN rfl rfl (by simp) rfl λH5 h5=> ?_;simp only[af,ax (off:=0) (u:=cX ds) (h5.at_ 0 rfl) kx rfl];refine Hq.call (MZ ds (hok.cY (by omega)) hok.2).2 h5 λH6 nx6 h6=> ?_;simp only[af];refine Wq.ite (λhi=> ?_) (λhi=> ?_)
       . refine Hq.put [] h6 qN rfl rfl (by simp) rfl λH7 h7=> ?_;refine Hq.put [_] h7 js rfl rfl (by simp) rfl λH8 h8=> ?_;refine Hq.put [_,_] h8 zS rfl rfl (by simp) rfl λH9 h9=> ?_;refine AR ?_;refine aT.cast (q':=aa (ae P H9 24 (some (ptr x1))) (λa=>aa (ae P H9 3 (some (ptr x2))) (λb=>aa (ae P H9 25 (some (ptr x3))) (λc=> .ret ⟨.ret (.tuple ⟨[a,b,c]⟩),false,H9,nx6⟩) .bad) .bad) .bad) (by kernel_rfl) ?_;simp only[af,ax (off:=0) (u:=aG) (h9.at_ 0 rfl) kx rfl,ax (off:=0) (u:=i64 0) (h9.at_ 1 rfl) mJ rfl,ax (off:=0) (u:=i64 81) (h9.at_ 2 rfl) rM rfl];have e9:HC (.ok ds k)=([],0,81):=by
          show(if _ then _ else _)=_;rw[if_pos hi]
         rw[e9];exact Wq.kr h9.ag ⟨aG,rfl,.inr ⟨rfl,rfl⟩⟩
       . simp only[af,ax (off:=0) (u:=cX ds) (h6.at_ 0 rfl) kx rfl];refine Hq.put [] h6 qN rfl rfl (by simp) rfl λH7 h7=> ?_;refine Hq.put [_] h7 js rfl rfl (by simp) rfl λH8 h8=> ?_;refine Hq.put [_,_] h8 zS rfl rfl (by simp) rfl λH9 h9=> ?_;refine AR ?_;refine aT.cast (q':=aa (ae P H9 24 (some (ptr x1))) (λa=>aa (ae P H9 3 (some (ptr x2))) (λb=>aa (ae P H9 25 (some (ptr x3))) (λc=> .ret ⟨.ret (.tuple ⟨[a,b,c]⟩),false,H9,nx6⟩) .bad) .bad) .bad) (by kernel_rfl) ?_;simp only[af,ax (off:=0) (u:=cX ds) (h9.at_ 0 rfl) kx rfl,ax (off:=0) (u:=i64 0) (h9.at_ 1 rfl) mJ rfl,ax (off:=0) (u:=i64 0) (h9.at_ 2 rfl) rM rfl];have e9:HC (.ok ds k)=(ds,0,0):=by
          show(if _ then _ else _)=_;rw[if_neg hi]
         rw[e9];exact Wq.kr h9.ag ⟨cX ds,rfl,.inl rfl⟩
   . have h4:=h.cA hA he.2.1 λb l e hb hi=>hi.ag he.2 hb;replace he:=he.1;cases o with
     | ok a k'=>cases he.1
     | bad a=>
       cases he;refine Hw h4 λH9 nx9 h9=> ?_;refine aT.cast (q':=aa (ae P H9 24 (some (ptr x1))) (λa=>aa (ae P H9 3 (some (ptr x2))) (λb=>aa (ae P H9 25 (some (ptr x3))) (λc=> .ret ⟨.ret (.tuple ⟨[a,b,c]⟩),false,H9,nx9⟩) .bad) .bad) .bad) (by kernel_rfl) ?_;simp only[af,ax (off:=0) (u:=aG) (h9.at_ 0 rfl) kx rfl,ax (off:=0) (u:=i64 a) (h9.at_ 1 rfl) mJ rfl,ax (off:=0) (u:=i64 80) (h9.at_ 2 rfl) rM rfl];exact Wq.kr h9.ag ⟨aG,rfl,.inr ⟨rfl,rfl⟩⟩
theorem QG (hT0:dN nx H)(hL:L.length<=100000)(hT:lD L){n:Nat}(hn:n<=90000){o:gL (List ba)}(ho:(ps L n).bX [] 0=some o):aT P pl X0 (Qn (fQ L) H nx) nx H (EK (ml L o)):=by
 unfold Qn;refine Wq.alloc FM (Ag.refl nx H) λH1 hb cA hA=> ?_;have h0:Hp nx H [] H nx:=⟨hT0,Ag.refl nx H,by simp,λx hx=>by simp at hx⟩;have h1:Hp nx H [(nx,[aG],24)] H1 (nx+1):=h0.new hb cA hA;refine Hq.alloc Kb h1 λx2 H2 nx2 h2=> ?_;refine Hq.alloc FN h2 λx3 H3 nx3 h3=> ?_;simp only[af,List.length_map];exact QF hL hT hn ho L.length 0 nx3 H3 (by omega) rfl (Hp.swap' h3)
theorem vJ:mg true 4 (L.map Tok.v):=λv hv=>by
 obtain⟨t,_,rfl⟩:=List.mem_map.1 hv;exact⟨rfl,rfl,⟨_,rfl⟩⟩
theorem LF {c:Nat}(hT0:dN nx0 H0)(hL:L.length<=100000)(hT:lD L){n:Nat}(hn:n<=90000){o:gL (List ba)}(ho:(ps L n).bX [] 0=some o)(hA:Ag nx0 H0 nx H)(hb:cm H b (bL (L.map Tok.v)) 31)(hbn:nx0<=b)(hbx:b<nx)(hc:c=dP\/c=L.length):
 aT P pl X0 (a4 P pl (.call 15 [.slice (some ⟨b,0,none⟩) L.length c] false none H nx)) nx0 H0 (λq H' nx'=>EK (ml L o) q H' nx'/\lp H' b (bL (L.map Tok.v))/\b<nx'):=by
 rw[Od];refine Wq.PE eH ch l7 rfl hb (by rw[iF vJ,List.length_map]) ?_ (by have:=(vJ (L:=L)).chunk;rwa[List.length_map]at this) ?_ hA hbn λH1 hr cA hA1=> ?_
 . rcases hc with rfl | rfl
   . rfl
   . rw[Nat.ble_eq_true_of_le (Nat.le_refl _),Bool.or_true]
 . rw[List.all_eq_true];intro v hv;rfl
 . have h15:=QG (nx:=nx+1) (H:=H1) (hT0.ag hA1) hL hT hn ho;exact aT.mono (aT.base hA1 h15) λq H2 nx2 hA2 h2=>⟨h2.1,hr.ag h2.2 (by omega),by have:=h2.2.1;omega⟩
end
section
variable {nx0 nx nx' bp k:Nat}{H0 H H':T OB}{F A B G G':List Bx}{R:Go.Ev.Out->T OB->Nat->Prop}{b:Nat}{l:List Value}{e t:TypeId}{L:List Tok}{s s':dn}{x:Bx}
theorem gT {n:Nat}:∀{vs:List Value} {i:Nat} {v:Value},mg true n vs->vs[i]? = some v->((bL vs).drop (i*n)).take n=v.cells.toList
 | w::vs,0,v,h,e=>by
   simp at e;subst e;show((w.cells.toList++bL vs).drop (0*n)).take n=_;rw[Nat.zero_mul,List.drop_zero,List.take_append_of_le_length (by rw[(h w (by simp)).1];exact Nat.le_refl _),<- (h w (by simp)).1,List.take_length]
 | w::vs,i+1,v,h,e=>by
   show((w.cells.toList++bL vs).drop ((i+1)*n)).take n=_;rw[Nat.add_mul,Nat.one_mul,Nat.add_comm,List.drop_append,show(w.cells.toList.drop (n+i*n))=[]from List.drop_eq_nil_of_le (by rw[(h w (by simp)).1];omega),List.nil_append,(h w (by simp)).1,Nat.add_sub_cancel_left];exact gT (λx hx=>h x (by simp[hx])) (by simpa using e)
end
section
variable {nx0:Nat}{H0:T OB}
def dv (c:UInt8):Nat:=c.toNat-48
def fU:Nat->List UInt8->Option Nat
 | n,[]=>some n
 | n,c::r=>if bq c=true/\n<=(4611686018427387903-dv c)/10 then fU (n*10+dv c) r else none
def HD (s:List UInt8):Option Nat->Value
 | some m=> .tuple ⟨[i64 (m:Int),.bool (!decide (s=[]))]⟩
 | none=> .tuple ⟨[i64 0,.bool false]⟩
theorem gZ {c:UInt8}:bq c=true↔48<=c.toNat/\c.toNat<=57:=by unfold bq;simp
theorem Qo {c:UInt8}(h:bq c=true):IntKind.u8.wrap ((c.toNat:Int)-48)=(dv c:Int):=by
 rw[gZ]at h;rw[wrap_u8];unfold dv;omega
theorem AY {c:UInt8}(h:bq c=true):dv c<=9:=by
 rw[gZ]at h;unfold dv;omega
theorem EN (s:List UInt8)(hl:s.length<cY):∀(r:List UInt8) (i n:Nat) (H:T OB) (nx:Nat),s.drop i=r->i<=s.length->n<=4611686018427387903->Ag nx0 H0 nx H->
 Wq P pl X0 (.jump (sC (aE s) (i64 (n:Int)) (i64 (i:Int)) H nx)) nx0 H0 (HD s (fU n r)):=by
 intro r
 induction r with
 | nil=>
   intro i n H nx hd hi h1 hA;have hil:=drop_nil hd hi;refine Wq.jmp (Ds ..) (λ_=>rfl) ?_;simp only[af,aF _ aR,aK,hil,aV,e_];exact Wq.ret hA
 | cons c r ih=>
   intro i n H nx hd hi h1 hA;obtain⟨hg,hlt,hd'⟩:=drop_cons hd;have L14:∀(b:Bool) H1 aJ,Ag nx0 H0 aJ H1->(b=false↔bq c=true/\n<=(4611686018427387903-dv c)/10)->Wq P pl X0 (.jump (nu (aE s) (i64 (n:Int)) (i64 (i:Int)) b H1 aJ)) nx0 H0 (HD s (fU n (c::r))):=by
    intro b H1 aJ hA1 hb;refine Wq.jmp (F0 ..) (λ_=>rfl) ?_;rw[fU];cases b with
    | true=>
      rw[if_neg (λq=>by have:=hb.2 q;cases this)];exact Wq.ret hA1
    | false=>
      have hc:=hb.1 rfl;rw[if_pos hc];have h9:=AY hc.1;have h10:=hc.2;have e1:IntKind.i64.wrap ((n:Int)*10)=((n*10:Nat):Int):=by rw[a7 (by omega)];omega
      have e2:IntKind.i64.wrap (dv c:Int)=(dv c:Int):=a7 (by omega);have e3:IntKind.i64.wrap (((n*10:Nat):Int)+(dv c:Int))=((n*10+dv c:Nat):Int):=by rw[a7 (by omega)];omega
      simp only[af,aW aR hg,w5,aL (show i<9223372036854775807 by have:=db hl;omega),Qo hc.1,e1,e2,e3];exact ih (i+1) _ H1 aJ hd' (by omega) (by omega) hA1
   refine Wq.jmp (Ds ..) (λ_=>rfl) ?_;simp only[af,aF _ aR,aK,aU hlt,aW aR hg];refine Wq.call (sW c) hA λH1 aJ hA1=> ?_;cases hdg:bq c with
   | false=>
     simp only[af,Bool.not_false];exact L14 _ _ _ hA1 (by simp[hdg])
   | true=>
     have h9:=AY hdg;have e2:IntKind.i64.wrap (dv c:Int)=(dv c:Int):=a7 (by omega);have e4:IntKind.i64.wrap (4611686018427387903-(dv c:Int))=((4611686018427387903-dv c:Nat):Int):=by rw[a7 (by omega)];omega
     have e5:IntKind.i64.wrap (((4611686018427387903-dv c:Nat):Int).tdiv 10)=(((4611686018427387903-dv c)/10:Nat):Int):=by
      rw[show((4611686018427387903-dv c:Nat):Int).tdiv 10=(((4611686018427387903-dv c)/10:Nat):Int)from rfl,a7 (by omega)]
     simp only[af,Bool.not_true,w5,Qo hdg,e2,e4,D_,e5];refine L14 _ _ _ hA1 ?_;rw[decide_eq_false_iff_not];simp only[hdg,true_and];omega
theorem LG (s:List UInt8)(hl:s.length<cY):P0 110 [aE s] (HD s (fU 0 s)):=Pure.of rfl λH nx=>by
 rw[O_];exact EN s hl s 0 0 H nx rfl (Nat.zero_le _) (by omega) (.refl _ _)
def cb (c:UInt8):Int:=if bq c=true then(c.toNat:Int)-48 else if(decide (65<=c.toNat)&&decide (c.toNat<=70))=true then(c.toNat:Int)-55 else -1
theorem nL (c:UInt8): -1<=cb c/\cb c<16:=by
 unfold cb;split
 . rename_i h;rw[gZ]at h;omega
 . split
   . rename_i h h2;simp only[Bool.and_eq_true,decide_eq_true_eq]at h2;omega
   . omega
theorem tE (c:UInt8):P0 180 [b8 c] (i64 (cb c)):=Pure.of rfl λH nx=>by
 rw[PA];refine Wq.call (sW c) (.refl _ _) λH1 aJ hA1=> ?_;have hc:=c.toNat_lt;have e0:IntKind.i64.wrap (c.toNat:Int)=(c.toNat:Int):=a7 (by omega);unfold cb;simp only[af,w6,e0];refine Wq.bK (λh=> ?_) (λh=> ?_)
 . rw[if_pos h];rw[show IntKind.i64.wrap ((c.toNat:Int)-48)=(c.toNat:Int)-48 from a7 (by omega)];exact Wq.ret hA1
 rw[if_neg (by rw[h];decide)];refine Wq.call (sU c 65 70) hA1 λH2 nx2 hA2=> ?_;simp only[af];refine Wq.bK (λh=> ?_) (λh=> ?_)
 . rw[if_pos h];rw[show IntKind.i64.wrap ((c.toNat:Int)-65)=(c.toNat:Int)-65 from a7 (by omega),show IntKind.i64.wrap ((c.toNat:Int)-65+10)=(c.toNat:Int)-55 from by rw[a7 (by omega)];omega];exact Wq.ret hA2
 rw[if_neg (by rw[h];decide)];exact Wq.ret hA2
def xy:List UInt8->UInt8×Nat
 | y::z::_=>if 0<=cb y/\0<=cb z then(UInt8.ofNat (16*cb y+cb z).toNat,4)else(0,0)
 | _=>(0,0)
def fm:List UInt8->UInt8×Nat
 | []=>(0,0)
 | x::t=>if x.toNat=34 then(34,2)else if x.toNat=92 then(92,2)else if x.toNat=110 then(10,2)else if x.toNat=116 then(9,2)else if x.toNat=120 then xy t else(0,0)
def bY:List UInt8->UInt8×Nat
 | []=>(0,0)
 | a::t=>if a.toNat<32\/126<a.toNat\/a.toNat=34 then(0,0)else if a.toNat=92 then fm t else(a,1)
theorem cU (x:UInt8)(t:List UInt8):fm (x::t)=if x.toNat=34 then(34,2)else if x.toNat=92 then(92,2)else if x.toNat=110 then(10,2)else if x.toNat=116 then(9,2)else if x.toNat=120 then xy t else(0,0):=rfl
theorem fF (a:UInt8)(t:List UInt8):bY (a::t)=if a.toNat<32\/126<a.toNat\/a.toNat=34 then(0,0)else if a.toNat=92 then fm t else(a,1):=rfl
theorem nM (s:List UInt8):(bY s).2<=s.length:=by
 cases s with
 | nil=>exact Nat.zero_le _
 | cons a t=>
   rw[fF]
   by_cases h1:a.toNat<32\/126<a.toNat\/a.toNat=34
   . rw[if_pos h1];exact Nat.zero_le _
   rw[if_neg h1]
   by_cases h2:a.toNat=92
   . rw[if_pos h2];cases t with
     | nil=>exact Nat.zero_le _
     | cons x t=>
       rw[cU];have h22:2<=(a::x::t).length:=by simp
       by_cases h3:x.toNat=34
       . rw[if_pos h3];exact h22
       rw[if_neg h3]
       by_cases h3:x.toNat=92
       . rw[if_pos h3];exact h22
       rw[if_neg h3]
       by_cases h3:x.toNat=110
       . rw[if_pos h3];exact h22
       rw[if_neg h3]
       by_cases h3:x.toNat=116
       . rw[if_pos h3];exact h22
       rw[if_neg h3]
       by_cases h3:x.toNat=120
       . rw[if_pos h3]
         match t with
         | []=>exact Nat.zero_le _
         | [_]=>exact Nat.zero_le _
         | y::z::r=>
           show(if 0<=cb y/\0<=cb z then _ else _:UInt8×Nat).2<=_
           by_cases h4:0<=cb y/\0<=cb z
           . rw[if_pos h4];show 4<=(a::x::y::z::r).length;simp
           . rw[if_neg h4];exact Nat.zero_le _
       . rw[if_neg h3];exact Nat.zero_le _
   . rw[if_neg h2];show 1<=(a::t).length;simp
abbrev EO (p:UInt8×Nat):Value:= .tuple ⟨[b8 p.1,i64 (p.2:Int)]⟩
theorem LH (s:List UInt8)(hs:s≠[])(hl:s.length<cY):P0 155 [aE s] (EO (bY s)):=Pure.of rfl λH nx=>by
 rw[Pr];have hA:=Ag.refl nx H;obtain⟨a,t,rfl⟩:∃a t,s=a::t:=by cases s with
  | nil=>exact absurd rfl hs
  | cons a t=>exact⟨a,t,rfl⟩
 have L36f:∀H1 aJ,Ag nx H aJ H1->bY (a::t)=(0,0)->Wq P pl X0 (.jump (jP (aE (a::t)) false H1 aJ)) nx H (EO (bY (a::t))):=by
  intro H1 aJ hA1 hb;refine Wq.jmp (Ah ..) (λ_=>rfl) ?_;rw[hb];exact Wq.ret hA1
 have L6:∀(b:Bool) H1 aJ,Ag nx H aJ H1->(b=true↔(a.toNat<32\/126<a.toNat\/a.toNat=34))->Wq P pl X0 (.jump (mb (aE (a::t)) b H1 aJ)) nx H (EO (bY (a::t))):=by
  intro b H1 aJ hA1 hb;refine Wq.jmp (KF ..) (λ_=>rfl) ?_;cases b with
  | true=>
    rw[show bY (a::t)=(0,0)from if_pos (hb.1 rfl)];exact Wq.ret hA1
  | false=>
    have hn:¬(a.toNat<32\/126<a.toNat\/a.toNat=34):=λq=>by have:=hb.2 q;cases this
    simp only[af,I_];refine Wq.BH (λh=> ?_) (λh=> ?_)
    . have h:¬a.toNat=92:=by omega
      rw[show bY (a::t)=(a,1)from by rw[fF,if_neg hn,if_neg h]];exact Wq.ret hA1
    have h92:a.toNat=92:=by omega
    have hE:bY (a::t)=fm t:=by rw[fF,if_neg hn,if_pos h92]
    cases t with
    | nil=>
      simp only[af,aF _ aR,aK,List.length_cons];rw[hE];exact Wq.ret hA1
    | cons x t=>
      have e2:decide (((a::x::t).length:Int)<2)=false:=by simp;omega
      simp only[af,aF _ aR,aK,e2,OD];refine Wq.ite (λh=> ?_) (λh1=> ?_)
      . rw[hE,show fm (x::t)=(34,2)from if_pos (by omega)];exact Wq.ret hA1
      refine Wq.ite (λh=> ?_) (λh2=> ?_)
      . rw[hE,show fm (x::t)=(92,2)from by rw[cU];rw[if_neg (by omega),if_pos (by omega)]];exact Wq.ret hA1
      refine Wq.ite (λh=> ?_) (λh3=> ?_)
      . rw[hE,show fm (x::t)=(10,2)from by rw[cU];rw[if_neg (by omega),if_neg (by omega),if_pos (by omega)]];exact Wq.ret hA1
      refine Wq.ite (λh=> ?_) (λh4=> ?_)
      . rw[hE,show fm (x::t)=(9,2)from by rw[cU];rw[if_neg (by omega),if_neg (by omega),if_neg (by omega),if_pos (by omega)]];exact Wq.ret hA1
      have hE2:fm (x::t)=if x.toNat=120 then xy t else(0,0):=by rw[cU];rw[if_neg (by omega),if_neg (by omega),if_neg (by omega),if_neg (by omega)]
      rw[hE2]at hE;refine Wq.ite (λh=> ?_) (λh5=>L36f _ _ hA1 (by rw[hE,if_neg (by omega)]));rw[if_pos (by omega)]at hE;refine Wq.ite (λh6=> ?_) (λh6=>L36f _ _ hA1 (by
       rw[hE]
       match t with
       | []=>rfl
       | [_]=>rfl
       | y::z::r=>simp at h6;omega))
      obtain⟨y,z,r,rfl⟩:∃y z r,t=y::z::r:=by
       match t with
       | []=>simp at h6
       | [_]=>simp at h6
       | y::z::r=>exact⟨y,z,r,rfl⟩
      have hX:xy (y::z::r)=if 0<=cb y/\0<=cb z then(UInt8.ofNat (16*cb y+cb z).toNat,4)else(0,0):=rfl;rw[hX]at hE;simp only[af,OE,QD];refine Wq.call (tE y) hA1 λH2 nx2 hA2=> ?_;simp only[af];refine Wq.ite (λh7=> ?_) (λh7=>L36f _ _ hA2 (by rw[hE,if_neg (by omega)]));refine Wq.call (tE z) hA2 λH3 nx3 hA3=> ?_;simp only[af]
      by_cases h8:0<=cb z
      . rw[decide_eq_true h8];refine Wq.jmp (Ah ..) (λ_=>rfl) ?_;have a1:=nL y;have a2:=nL z;have e1:IntKind.i64.wrap (16*cb y)=16*cb y:=a7 (by omega);have e3:IntKind.i64.wrap (16*cb y+cb z)=16*cb y+cb z:=a7 (by omega);simp only[af,OE,QD];refine Wq.call (tE y) hA3 λH4 nx4 hA4=> ?_;simp only[af];refine Wq.call (tE z) hA4 λH5 nx5 hA5=> ?_;simp only[af,e1,e3,D9,bf];rw[hE,if_pos ⟨h7,h8⟩];have e4:IntKind.u8.wrap (16*cb y+cb z)=((UInt8.ofNat (16*cb y+cb z).toNat).toNat:Int):=by
         rw[wrap_u8,UInt8.toNat_ofNat'];omega
        rw[e4];exact Wq.ret hA5
      . rw[decide_eq_false h8];exact L36f _ _ hA3 (by rw[hE,if_neg (by omega)])
 simp only[af,e_,Ay,I_];refine Wq.ite (λh=>L6 _ _ _ hA (by simp;omega)) (λh=> ?_);refine Wq.ite (λh2=>L6 _ _ _ hA (by simp;omega)) (λh2=> ?_);exact L6 _ _ _ hA (by rw[decide_eq_true_eq];omega)
end
section
variable {nx0:Nat}{H0:T OB}
def BM:Nat->List UInt8->List UInt8->List UInt8×Bool
 | 0,r,out=>(out,decide (r=[34]))
 | f+1,r,out=>if r.length<=1 then(out,decide (r=[34]))else if(bY r).2=0 then([],false)else BM f (r.drop (bY r).2) (out++[(bY r).1])
def iU (s:List UInt8):List UInt8×Bool:=if s.length<2\/first s 34=false then([],false)else BM s.length (s.drop 1) []
abbrev EP (p:List UInt8×Bool):Value:= .tuple ⟨[aE p.1,.bool p.2]⟩
theorem BN (s:List UInt8)(h2:2<=s.length)(hl:s.length<=1000000):∀(d i:Nat) (r:List UInt8) (sl:Value) (H:T OB) (nx:Nat),s.length-i<=d->1<=i->i<=s.length->r.length<=i->BS 5 nx0 H nx r sl->Ag nx0 H0 nx H->
 Wq P pl X0 (.jump (nv (aE s) sl (i64 (i:Int)) H nx)) nx0 H0 (EP (BM d (s.drop i) r)):=by
 have hw:IntKind.i64.wrap ((s.length:Int)-1)=((s.length-1:Nat):Int):=by rw[a7 (by omega)];omega
 have stop:∀(d i:Nat) (r:List UInt8),¬i<s.length-1->BM d (s.drop i) r=(r,decide (s.drop i=[34])):=by
  intro d i r h;cases d with
  | zero=>rfl
  | succ d=>exact if_pos (by rw[List.length_drop];omega)
 intro d
 induction d with
 | zero=>
   intro i r sl H nx hd hi hi2 hr hB hA;rw[stop 0 i r (by omega)];refine Wq.jmp (Ab ..) (λ_=>rfl) ?_;have e1:decide ((i:Int)<((s.length-1:Nat):Int))=false:=by simp;omega
   have e2:decide ((i:Int)=((s.length-1:Nat):Int))=false:=by simp;omega
   simp only[af,aF _ aR,aK,hw,e1,me jN qR aR sY hB,e2];have e3:s.drop i=[]:=List.drop_eq_nil_of_le (by omega);rw[e3];exact Wq.ret hA
 | succ d ih=>
   intro i r sl H nx hd hi hi2 hr hB hA;refine Wq.jmp (Ab ..) (λ_=>rfl) ?_
   by_cases hlt:i<s.length-1
   . have e0:BM (d+1) (s.drop i) r=if(bY (s.drop i)).2=0 then([],false)else BM d ((s.drop i).drop (bY (s.drop i)).2) (r++[(bY (s.drop i)).1]):=if_neg (by rw[List.length_drop];omega);have e1:decide ((i:Int)<((s.length-1:Nat):Int))=true:=by simp;omega
     have hn:=nM (s.drop i);rw[List.length_drop]at hn;rw[e0];simp only[af,aF _ aR,aK,hw,e1,cZ hi2];refine Wq.fj (LH (s.drop i) (by simp;omega) (by rw[List.length_drop];exact Nat.lt_of_le_of_lt (Nat.sub_le _ _) (Nat.lt_of_le_of_lt hl (by decide)))) hA λH1 aJ hA1 n1 k1=> ?_;generalize bY (s.drop i)=p at hn ⊢;obtain⟨c,n⟩:=p;have x0:ar (some (EO (c,n))) 0=some (b8 c):=rfl;have x1:ar (some (EO (c,n))) 1=some (i64 (n:Int)):=rfl;simp only[af,x0,x1];refine Wq.ite (λh=> ?_) (λh=> ?_)
     . have h0:n=0:=by omega
       rw[if_pos h0];exact Wq.ret hA1
     have h0:n≠0:=by omega
     have hn:n<=s.length-i:=hn;rw[if_neg h0];have hB':=BS.cA hB n1 k1;refine Wq.KK (x:=[c]) jN Kf w4 hB' rfl rfl (K4 c) (λm hm=>Ea (by simp at hm;omega)) hA1 λH2 sl2 nx2 hB2 hA2 _=> ?_;have ew:IntKind.i64.wrap ((i:Int)+(n:Int))=((i+n:Nat):Int):=by rw[a7 (by omega)];omega
     simp only[af,ew];rw[List.drop_drop];exact ih (i+n) (r++[c]) sl2 H2 nx2 (by omega) (by omega) (by omega) (by simp;omega) hB2 hA2
   . rw[stop (d+1) i r hlt];have e1:decide ((i:Int)<((s.length-1:Nat):Int))=false:=by simp;omega
     simp only[af,aF _ aR,aK,hw,e1,me jN qR aR sY hB];refine Wq.ite (λh=> ?_) (λh=> ?_)
     . have hi3:i<s.length:=by omega
       have e3:s.drop i=[s[i]]:=by
        rw[List.drop_eq_getElem_cons hi3,List.drop_eq_nil_of_le (by omega)]
       simp only[af,aW aR (List.getElem?_eq_getElem hi3)];rw[e3];have e4:decide ((s[i].toNat:Int)=34)=decide ([s[i]]=[34]):=by
        rw[decide_eq_decide,List.cons.injEq];simp only[and_true];rw[<- UInt8.toNat_inj];show _↔s[i].toNat=34;omega
       rw[e4];exact Wq.ret hA
     . have e3:s.drop i=[]:=List.drop_eq_nil_of_le (by omega);rw[e3];exact Wq.ret hA
theorem LI (s:List UInt8)(hl:s.length<=1000000):P0 111 [aE s] (EP (iU s)):=Pure.of rfl λH nx=>by
 rw[Pa];have hA:=Ag.refl nx H;have L6t:∀H1 aJ,Ag nx H aJ H1->(s.length<2\/first s 34=false)->Wq P pl X0 (.jump (sD (aE s) true H1 aJ)) nx H (EP (iU s)):=by
  intro H1 aJ hA1 hc;refine Wq.jmp (Dt ..) (λ_=>rfl) ?_;unfold iU;rw[if_pos hc];exact Wq.ret hA1
 simp only[af,aF _ aR,aK];refine Wq.ite (λh=>L6t _ _ hA (.inl (by omega))) (λh=> ?_);obtain⟨a,r,rfl⟩:∃a r,s=a::r:=by cases s with
  | nil=>simp at h
  | cons a r=>exact⟨a,r,rfl⟩
 simp only[af,I_]
 by_cases h34:a.toNat=34
 . have e:decide ((a.toNat:Int)=34)=true:=by simp;omega
   simp only[af,e,Bool.not_true];refine Wq.jmp (Dt ..) (λ_=>rfl) ?_;have e2:iU (a::r)=BM (a::r).length ((a::r).drop 1) []:=by
    unfold iU;rw[if_neg];simp only[first,h34,decide_true,not_or];exact⟨by omega,by simp⟩
   rw[e2];have:=BN (nx0:=nx) (H0:=H) (a::r) (by omega) hl (a::r).length 1 [] (.slice none 0 0) H nx (Nat.sub_le _ _) (by omega) (by omega) (by simp) (.nil _ _ _ _) hA;exact this
 . have e:decide ((a.toNat:Int)=34)=false:=by simp;omega
   simp only[af,e,Bool.not_false];exact L6t _ _ hA (.inr (by simp[first,h34]))
def kG (s:List UInt8):Int×Bool:=match fU 0 s with
 | some n=>((n:Int),!decide (s=[]))
 | none=>(0,false)
theorem LJ (s:List UInt8):HD s (fU 0 s)= .tuple ⟨[i64 (kG s).1,.bool (kG s).2]⟩:=by
 unfold kG;cases fU 0 s<;>rfl
def mU (s:List UInt8):Tok×Bool:=
 if(iU s).2=true then(⟨2,(iU s).1,0,0⟩,true)else if isWord s=true then(⟨eK s,s,0,0⟩,true)else if isVar s=true then(⟨5,s,0,0⟩,true)else if bk.contains s=true then(⟨7,s,0,0⟩,true)else(⟨0,[],0,0⟩,false)
def cR (s:List UInt8):Tok×Bool:=if(kG s).2=true then(⟨1,[],(kG s).1,0⟩,true)else mU s
abbrev BO (p:Tok×Bool):Value:= .tuple ⟨[p.1.v,.bool p.2]⟩
theorem JG (s:List UInt8)(hl:s.length<=1000000):P0 63 [aE s] (BO (cR s)):=Pure.of rfl λH nx=>by
 have hb:s.length<cY:=Nat.lt_of_le_of_lt hl (by decide);have hA:=Ag.refl nx H;rw[Q7];refine Wq.alloc bR hA λH1 hb1 _ hA1=> ?_;have E:∀(t:Tok) (b:Bool) H2 nx2,cm H2 nx [i64 0,aE [],i64 0,i64 0] 31->Ag nx H nx2 H2->
  Wq P pl X0 (ao (aj P H2 nx2 31 (some (.pointer (some ⟨nx,0,none⟩))) (some t.v)) λ_ H nx'=>aa (ae P H 31 (some (.pointer (some ⟨nx,0,none⟩)))) (λx=> .ret ⟨.ret (.tuple ⟨[x,.bool b]⟩),false,H,nx'⟩) .bad) nx H (BO (t,b)):=by
  intro t b H2 nx2 hb2 hA2;refine Wq.store hb2 ch (by simp) rfl rfl hA2 (Nat.le_refl _) λH3 hb3 _ hA3=> ?_;have hb3':cm H3 nx t.c 31:=hb3;rw[cq hb3' l7 ch (by simp)];exact Wq.ret hA3
 refine Wq.fj (LG s hb) hA1 λH2 nx2 hA2 n2 k2=> ?_;replace hb1:=k2 _ _ _ (Nat.lt_succ_self nx) hb1;rw[LJ];have x0:ar (some (Value.tuple ⟨[i64 (kG s).1,.bool (kG s).2]⟩)) 0=some (i64 (kG s).1):=rfl;have x1:ar (some (Value.tuple ⟨[i64 (kG s).1,.bool (kG s).2]⟩)) 1=some (.bool (kG s).2):=rfl;simp only[af,x0,x1];unfold cR;cases hn:(kG s).2 with
 | true=>
   rw[if_pos rfl];simp only[af,Gu];exact E _ true _ _ hb1 hA2
 | false=>
 rw[if_neg (by simp)];unfold mU;simp only[af];refine Wq.fj (LI s hl) hA2 λH3 nx3 hA3 n3 k3=> ?_;replace hb1:=k3 _ _ _ (by omega) hb1;have x0:ar (some (EP (iU s))) 0=some (aE (iU s).1):=rfl;have x1:ar (some (EP (iU s))) 1=some (.bool (iU s).2):=rfl;simp only[af,x0,x1];cases hq:(iU s).2 with
 | true=>
   rw[if_pos rfl];simp only[af,lu];exact E _ true _ _ hb1 hA3
 | false=>
 rw[if_neg (by simp)];simp only[af];refine Wq.fj (K1 s hb) hA3 λH4 nx4 hA4 n4 k4=> ?_;replace hb1:=k4 _ _ _ (by omega) hb1;simp only[af];cases hw:isWord s with
 | true=>
   rw[if_pos rfl];simp only[af];obtain⟨a,r,rfl⟩:∃a r,s=a::r:=by cases s with
    | nil=>cases hw
    | cons a r=>exact⟨a,r,rfl⟩
   refine Wq.fj (K3 a r) hA4 λH5 nx5 hA5 n5 k5=> ?_;replace hb1:=k5 _ _ _ (by omega) hb1;simp only[af,lu];exact E _ true _ _ hb1 hA5
 | false=>
 rw[if_neg (by simp)];simp only[af];refine Wq.fj (K2 s hb) hA4 λH5 nx5 hA5 n5 k5=> ?_;replace hb1:=k5 _ _ _ (by omega) hb1;simp only[af];cases hv:isVar s with
 | true=>
   rw[if_pos rfl];simp only[af,lu];exact E _ true _ _ hb1 hA5
 | false=>
 rw[if_neg (by simp)];simp only[af];refine Wq.fj K0 hA5 λH6 nx6 hA6 n6 k6=> ?_;replace hb1:=k6 _ _ _ (by omega) hb1;refine Wq.fj (D4 bk (by decide) s) hA6 λH7 nx7 hA7 n7 k7=> ?_;replace hb1:=k7 _ _ _ (by omega) hb1;simp only[af];cases bk.contains s with
 | true=>
   rw[if_pos rfl];simp only[af,lu];exact E _ true _ _ hb1 hA7
 | false=>
   rw[if_neg (by simp)];simp only[af];exact E ⟨0,[],0,0⟩ false _ _ hb1 hA7
end
theorem ER {s:List UInt8}(h:(kG s).2=true):fO s=true:=by
 cases s with
 | nil=>revert h;decide
 | cons c r=>
   unfold kG at h;rw[fU]at h
   by_cases hc:bq c=true
   . exact hc
   . rw[if_neg (λq=>hc q.1)]at h;cases h
theorem BQ {s:List UInt8}(h:(iU s).2=true):first s 34=true:=by
 unfold iU at h;cases hf:first s 34 with
 | true=>rfl
 | false=>rw[if_pos (.inr hf)]at h;cases h
theorem ES:∀x∈bk,fO x=false/\first x 34=false/\isWord x=false/\isVar x=false:=by decide
theorem AZ {s:List UInt8}(h:bk.contains s=true):fO s=false/\first s 34=false/\isWord s=false/\isVar s=false:=ES s (by simpa using h)
end
end Go.Proofs.YthjhonhhbddhkaaGreatDoor
namespace Go.Proofs.YthjhonhhbddhkaaGreatDoor
open Go.Ev Go.RowKit Go.ChangeShapes Go.WideShapes Go.ChangeAt
noncomputable section
set_option maxRecDepth 100000
set_option linter.unusedVariables false
set_option linter.unusedSimpArgs false
set_option maxHeartbeats 8000000
section
variable {H:Type}{enc:TypeId×Value->H}{W:World}{sp:Nat->Bool}{held:Bool}
def Wt (t:TypeId)(d:DataW H):Prop:=∀n,n∈d.weights P t->n<=reachBytes
theorem c2:P.cellsOf 2=1:=by kernel_rfl
theorem c3:P.cellsOf 3=1:=by kernel_rfl
theorem c9:P.cellsOf 9=1:=by kernel_rfl
def Op (enc:TypeId×Value->H)(W:World)(sp:Nat->Bool)(held:Bool){α:Type}(t:TypeId)(s:Nat)(ev:α->Value)(ok:α->Prop)(fuel:Nat):Prop:=∀cs x,DataW.trod enc P W 0 sp held fuel t cs=some x->∃a:α,(ev a).cells.toList.length=s/\LR (fZ W) (ev a).cells.toList cs/\(Wt t x.1->ok a)
theorem Rv {φ:bZ}(s:ByteArray):VR φ (aE s.data.toList) (.string s):=by
 have es:aE s.data.toList= .string s:=by cases s;rfl
 rw[es];exact .flat _ rfl
end
section
variable {W:World}
theorem xz {r:Option Rt}(h:isTrue r=true):∃H nx,r=some ⟨.ret (.bool true),false,H,nx⟩:=by
 unfold isTrue at h;split at h
 . exact⟨_,_,rfl⟩
 . cases h
theorem ET (w:World):uL P w (λ_ _=>none):=λf args v h=>by cases h
theorem g7:P.globals.size=4:=by kernel_rfl
structure mV (w:World):Prop where
 size:P.globals.size<=w.heap.size
 sZ:∀x,x∈fB->x.1<P.globals.size/\∃c el fz,w.heap[x.1]? = some (.cells c el fz)/\x.2.length<=c.size/\∀(i:Nat) (v v':Value),x.2[i]? = some v->c[i]? = some v'->VR (fZ w) v v'
theorem HE {w w':World}(hb:Below w.heap.size w w'):(fZ w).le (fZ w'):=λk e h=>by
 obtain⟨h1,rfl⟩:=ju h;have:jt w' k=jt w k:=by
  unfold jt;rw[hb.block k h1]
 rw[sS (Nat.lt_of_lt_of_le h1 hb.size),this]
theorem mV.below {w:World}(h:mV W)(hb:Below W.heap.size W w):mV w where
 size:=Nat.le_trans h.size hb.size
 sZ:=λx hx=>by
  obtain⟨h0,c,el,fz,h1,h2,h3⟩:=h.sZ x hx;exact⟨h0,c,el,fz,by rw[hb.block _ (Nat.lt_of_lt_of_le h0 h.size)];exact h1,h2,λi v v' a b=>(h3 i v v' a b).mono (HE hb)⟩
theorem Of {w:World}(ht:mV w):HR P w (fZ w) (hp (j8 fB .leaf)) w:=by
 have inv:∀k ob,hp (j8 fB .leaf) k=some ob->∃x∈fB,x.1=k/\ob= .ro x.2.length (dB x.2 0 .leaf):=λk ob h=>by
  rcases pn fB .leaf k ob h with h | h
  . exact h
  . rw[iD]at h;cases h
 have hW:=PD (P:=P) ht.size;exact {
  below:= .refl _ _
  mz:=λk ob h=>by
   obtain⟨x,hx,rfl,_⟩:=inv k ob h;rw[mN];exact Nat.lt_of_lt_of_le (ht.sZ x hx).1 ht.size
  lI:=hW.lI
  inj:=λk k' ob ob' e e' _ _ h _ hl=>by
   obtain⟨x,hx,rfl,rfl⟩:=inv k ob h;cases hl
  obj:=λk ob e h he=>by
   obtain⟨x,hx,rfl,rfl⟩:=inv k ob h;obtain⟨h0,c,el,fz,h1,h2,h3⟩:=ht.sZ x hx;obtain⟨h4,rfl⟩:=ju he;refine .inl ⟨h4,c,el,fz,h1,h2,λi hi v hv=> ?_⟩;rw[cS,if_pos (by omega),Nat.sub_zero]at hv;have hlt:i<c.size:=by omega
   exact⟨c[i],Array.getElem?_eq_getElem hlt,h3 i v _ hv (Array.getElem?_eq_getElem hlt)⟩
  gl:=hW.gl
  j3:=hW.j3
  oo:=λk k' e e' c ob _ _ _ h hl=>by
   obtain⟨x,hx,rfl,rfl⟩:=inv k' ob h;cases hl }
theorem BR {n:Nat}(hn:4<=n):dN n (j8 fB .leaf):=by
 refine⟨hn,λx hx=> ?_⟩;have key:∀(l:List Value) (i:Nat),i<l.length->(dB l 0 (.leaf:T Value)).get (Ev.bits i)=l[i]? := λl i hi=>by
  rw[cS,if_pos (by omega),Nat.sub_zero]
 have e:∀(b:Nat),(j8 fB .leaf).get (Ev.bits b)=if b=3 then some (.ro (fM.map aE).length (dB (fM.map aE) 0 .leaf))else if b=2 then some (.ro (bn.map lvl).length (dB (bn.map lvl) 0 .leaf))else if b=1 then some (.ro (eJ.map aE).length (dB (eJ.map aE) 0 .leaf))else if b=0 then some (.ro (bk.map aE).length (dB (bk.map aE) 0 .leaf))else none:=λb=>by
  show(Ev.set (Ev.set (Ev.set (Ev.set (.leaf:T OB) (Ev.bits 0) _) (Ev.bits 1) _) (Ev.bits 2) _) (Ev.bits 3) _).get (Ev.bits b)=_;rw[Ev.get_at,Ev.get_at,Ev.get_at,Ev.get_at];have:(T.leaf:T OB).get (Ev.bits b)=none:=iD b;rw[this]
 simp only[fB,List.mem_cons,List.not_mem_nil,or_false]at hx;rcases hx with rfl | rfl | rfl | rfl
 . exact⟨_,by rw[e];rfl,key _⟩
 . exact⟨_,by rw[e];rfl,key _⟩
 . exact⟨_,by rw[e];rfl,key _⟩
 . exact⟨_,by rw[e];rfl,key _⟩
theorem HF {w:World}{l:List (List UInt8)}{v':Value}(hl:l≠[])(h:VR (fZ w) (lvl l) v'):∃k,k<w.heap.size/\∀(φ:bZ) (j:Nat),φ[j]? = some (some ⟨k,0,0,jt w k⟩)->VR φ (lvl l) v':=by
 obtain⟨a0,r0,rfl⟩:∃a r,l=a::r:=by
  cases l with
  | nil=>exact absurd rfl hl
  | cons a r=>exact⟨a,r,rfl⟩
 have hl':(a0::r0).map aE≠[]:=by simp
 have key:∀x,x=lvl (a0::r0)->VR (fZ w) x v'->∃k,k<w.heap.size/\∀(φ:bZ) (j:Nat),φ[j]? = some (some ⟨k,0,0,jt w k⟩)->VR φ (lvl (a0::r0)) v':=by
  intro x hx h;cases h with
  | flat v h=>subst hx;cases h
  | pT s=>injection hx with _ h1 _;injection h1 with h1;exact absurd h1.symm hl'
  | oi s a c=>injection hx with _ h1 _;injection h1 with h1;exact absurd h1.symm hl'
  | row h1 hf hs hn hc hx'=>
    injection hx with h2 h3 _
    injection h2 with h2
    injection h3 with h3
    subst h2 h3;obtain⟨hk,rfl⟩:=ju h1;refine⟨_,hk,λφ j hj=>VR.row (o:=_) hj hf hs hn hc λi j x v v' a b c=> ?_⟩;have h4:=hx' i j x v v' a b c;obtain⟨s,_,rfl⟩:=List.mem_map.1 (List.mem_of_getElem? a);have hfl:Ev.flat v=true:=by
     have:v∈[aE s]:=List.mem_of_getElem? b;rw[List.mem_singleton.1 this];rfl
    rw[h4.aB hfl];exact .flat _ hfl
  | ep h1 hf hn hx'=>
    injection hx with _ _ h3
    injection h3 with h3
    injection h3 with h3
    cases h3
  | _=>cases hx
 exact key _ rfl h
def p9 (w:World)(f:Nat->Nat):bZ:=(List.range 11).map λk=>if k<4 then some ⟨k,0,0,none⟩else some ⟨f k,0,0,jt w (f k)⟩
theorem mW (w:World)(f:Nat->Nat):(p9 w f).length=11:=by simp[p9]
theorem pI {w:World}{f:Nat->Nat}{k:Nat}{e:fp}(h:(p9 w f)[k]? = some (some e)):k<11/\((k<4/\e=⟨k,0,0,none⟩)\/(4<=k/\e=⟨f k,0,0,jt w (f k)⟩)):=by
 unfold p9 at h;rw[List.getElem?_map]at h
 by_cases hk:k<11
 . rw[List.getElem?_range hk]at h;simp only[Option.map_some,Option.some.injEq]at h;refine⟨hk,?_⟩
   by_cases h4:k<4
   . rw[if_pos h4]at h;exact .inl ⟨h4,(Option.some.inj h).symm⟩
   . rw[if_neg h4]at h;exact .inr ⟨by omega,(Option.some.inj h).symm⟩
 . rw[List.getElem?_eq_none (by simp;omega)]at h;cases h
theorem HG {w:World}{f:Nat->Nat}{k:Nat}(h:k<4):(p9 w f)[k]? = some (some ⟨k,0,0,none⟩):=by
 unfold p9;rw[List.getElem?_map,List.getElem?_range (by omega)];simp[h]
theorem HH {w:World}{f:Nat->Nat}{k:Nat}(h:4<=k)(h':k<11):(p9 w f)[k]? = some (some ⟨f k,0,0,jt w (f k)⟩):=by
 unfold p9;rw[List.getElem?_map,List.getElem?_range h'];simp only[Option.map_some];rw[if_neg (by omega)]
theorem Og {w:World}{k:Nat}{c:Array Value}(h:jt w k=some c):∃el fz,w.heap[k]? = some (.cells c el fz):=by
 unfold jt at h;split at h
 . rename_i c' el fz hc;cases h;exact⟨el,fz,hc⟩
 . cases h
theorem Qp {w:World}(ht:mV w):∃f,HR P w (p9 w f) (hp (j8 fB .leaf)) w:=by
 obtain⟨_,c2,el2,fz2,hc2,hs2,hv2⟩:=ht.sZ (2,bn.map lvl) (by simp[fB]);have hlen:(bn.map lvl).length=7:=rfl;have hex:∀i:Fin 7,∃k,k<w.heap.size/\∀(φ:bZ) (j:Nat),φ[j]? = some (some ⟨k,0,0,jt w k⟩)->∀v v',(bn.map lvl)[i.val]? = some v->c2[i.val]? = some v'->VR φ v v':=by
  intro i;have hi:i.val<bn.length:=i.isLt;have h1:(bn.map lvl)[i.val]? = some (lvl bn[i.val]):=by rw[List.getElem?_map,List.getElem?_eq_getElem hi];rfl
  have hlt:i.val<c2.size:=by have:=i.isLt;simp only[hlen]at hs2;omega
  have h2:c2[i.val]? = some c2[i.val]:=Array.getElem?_eq_getElem hlt;have hne:bn[i.val]≠[]:=by
   have:∀x∈bn,x≠[]:=by decide
   exact this _ (List.getElem_mem _)
  obtain⟨k,hk,hφ⟩:=HF hne (hv2 i.val _ _ h1 h2);refine⟨k,hk,λφ j hj v v' a b=> ?_⟩;rw[h1]at a;rw[h2]at b;cases a;cases b;exact hφ φ j hj
 obtain⟨A,hA⟩:=Classical.axiomOfChoice hex;refine⟨λk=>A ⟨(k-4)%7,Nat.mod_lt _ (by omega)⟩,?_⟩;have inv:∀k ob,hp (j8 fB .leaf) k=some ob->∃x∈fB,x.1=k/\ob= .ro x.2.length (dB x.2 0 .leaf):=λk ob h=>by
  rcases pn fB .leaf k ob h with h | h
  . exact h
  . rw[iD]at h;cases h
 have hg:=ht.size;rw[g7]at hg;have h4:∀x,x∈fB->x.1<4:=λx hx=>by have:=(ht.sZ x hx).1;rw[g7]at this;exact this
 exact {
  below:= .refl _ _
  mz:=λk ob h=>by
   obtain⟨x,hx,rfl,_⟩:=inv k ob h;rw[mW];exact Nat.lt_trans (h4 x hx) (by omega)
  lI:=λk e h=>by
   obtain⟨h1,⟨h2,rfl⟩ | ⟨h2,rfl⟩⟩:=pI h
   . exact Nat.lt_of_lt_of_le h2 hg
   . exact(hA _).1
  inj:=λk k' ob ob' e e' _ _ h _ hl=>by
   obtain⟨x,hx,rfl,rfl⟩:=inv k ob h;cases hl
  obj:=λk ob e h he=>by
   obtain⟨x,hx,rfl,rfl⟩:=inv k ob h;obtain⟨h0,c,el,fz,h1,h2,h3⟩:=ht.sZ x hx;obtain⟨_,⟨h5,rfl⟩ | ⟨h5,rfl⟩⟩:=pI he
   . refine .inl ⟨Nat.lt_of_lt_of_le h5 hg,c,el,fz,h1,h2,λi hi v hv=> ?_⟩;rw[cS,if_pos (by omega),Nat.sub_zero]at hv;have hlt:i<c.size:=by omega
     have hci:c[i]? = some c[i]:=Array.getElem?_eq_getElem hlt;refine⟨c[i],hci,?_⟩;have h6:=h3 i v _ hv hci;have flatK:∀l:List (List UInt8),x.2=l.map aE->VR (p9 w λk=>A ⟨(k-4)%7,Nat.mod_lt _ (by omega)⟩) v c[i]:=λl hl=>by
      have hfl:Ev.flat v=true:=by
       rw[hl]at hv;obtain⟨s,_,rfl⟩:=List.mem_map.1 (List.mem_of_getElem? hv);rfl
      rw[h6.aB hfl];exact .flat _ hfl
     simp only[fB,List.mem_cons,List.not_mem_nil,or_false]at hx;rcases hx with rfl | rfl | rfl | rfl
     . exact flatK _ rfl
     . exact flatK _ rfl
     . have hcc:c=c2:=by
        have:=h1.symm.trans hc2;injection this with this
        injection this
       subst hcc;have hi7:i<7:=hi;refine(hA ⟨i,hi7⟩).2 _ (4+i) ?_ v _ hv hci;rw[HH (by omega) (by omega)];have:(4+i-4)%7=i:=by omega
       simp only[this]
     . exact flatK _ rfl
   . exact absurd (h4 x hx) (by omega)
  gl:=λk hk=>⟨_,HG (by rw[g7]at hk;exact hk),rfl⟩
  j3:=λk e c h hf=>by
   obtain⟨_,⟨h5,rfl⟩ | ⟨h5,rfl⟩⟩:=pI h
   . cases hf
   . exact Og hf
  oo:=λk k' e e' c ob _ _ _ h hl=>by
   obtain⟨x,hx,rfl,rfl⟩:=inv k' ob h;cases hl }
theorem Qq (hT:mV W):uL P W X0:=by
 intro f args v h;have hf:f=11/\args=[]/\v= .bool true:=by
  have h':(bif Nat.beq f 11 then(match args with | []=>some (Value.bool true) | _=>none)else none)=some v:=h;cases hb:Nat.beq f 11 with
  | true=>
    rw[hb]at h';cases args with
    | nil=>exact⟨Nat.eq_of_beq_eq_true hb,rfl,(Option.some.inj h').symm⟩
    | cons a l=>cases h'
  | false=>
    rw[hb]at h';cases h'
 obtain⟨rfl,rfl,rfl⟩:=hf;refine⟨λx hx=>(nomatch hx),rfl,λw hb=> ?_⟩;have hw:=hT.below hb;have hk:=BL;rw[Ao]at hk;obtain⟨H',nx',hr⟩:=xz hk;obtain⟨f,hf⟩:=Qp hw;refine(oU (pl:=QE) (ET w) hf (mW _ _) .nil rfl (OW hr)).mono λe w' ⟨he,hb'⟩=>⟨he,hb'⟩
theorem vK {fuel:Nat}{cs:List Value}{l:List (List UInt8)}{p:List MemPlace}(h:DataW.trod (λ_=>()) P W 0 (λ_=>true) false fuel 49 cs=some (.slice (l.map λs=> .lit (.string s)) [],p)):∃v,cs=[v]/\VR (fZ W) (lvl l) v:=by
 obtain⟨a,cap,rfl,hcap,hel⟩:=open_row Tryz.underlying49 c9 h;refine⟨_,rfl,?_⟩;rw[List.length_map]at hcap ⊢;refine KI (by simp) (λx hx=> ?_) (by omega) hcap (λi x hx=> ?_)
 . obtain⟨s,_,rfl⟩:=List.mem_map.1 hx;rfl
 . rw[List.getElem?_map]at hx;cases hs:l[i]? with
   | none=>rw[hs]at hx;cases hx
   | some s=>
     rw[hs]at hx;cases hx;obtain⟨v,n,q,h1,h2⟩:=hel i (.lit (.string s)) (by rw[List.getElem?_map,hs];rfl);obtain⟨z,hz,hq,_⟩:=DataW.trod_string Tryz.underlying9 h2;cases hz;have e:s=z.data.toList:=by
      have:=congrArg Prod.fst hq;simpa using this
     subst e;refine⟨[.string z],?_,?_⟩
     . unfold World.cells?;rw[if_pos (Nat.zero_le _)];have e0:(a.add (i*1)).add 0=a.add i:=by simp[Addr.add]
       simp only[List.range_succ,List.range_zero,List.nil_append,List.mapM_cons,List.mapM_nil,e0,h1];rfl
     . exact .cons (Rv z) .nil
abbrev Oh (l:List (List UInt8)):List ByteArray:=l.map λs=>⟨⟨s⟩⟩
theorem HI (l:List (List UInt8)):(Oh l).map Value.string=l.map aE:=by rw[List.map_map];rfl
theorem tF {c:Array Value}{l:List (List UInt8)}(h:c.toList=(Oh l).map Value.string):(l.map aE).length<=c.size/\∀(i:Nat) (v v':Value),(l.map aE)[i]? = some v->c[i]? = some v'->VR (fZ W) v v':=by
 rw[HI]at h;refine⟨by rw[<- h,Array.length_toList];exact Nat.le_refl _,λi v v' a b=> ?_⟩;have:c.toList[i]? = some v':=by rw[<- b];simp
 rw[h,a]at this;cases this;obtain⟨s,_,rfl⟩:=List.mem_map.1 (List.mem_of_getElem? a);exact .flat _ rfl
theorem BT {rest:List (String×DataW Unit)}(h:laidMet P (("kindling/syntax.levels",Rows.laid_kindling_syntax_levels)::rest) W):∃c el fz,W.heap[2]? = some (.cells c el fz)/\(bn.map lvl).length<=c.size/\∀(i:Nat) (v v':Value),(bn.map lvl)[i]? = some v->c[i]? = some v'->VR (fZ W) v v':=by
 obtain⟨ps,⟨g',t',cs,fuel,p,q,hg',ht',hvar,hd,_,_⟩,_⟩:=h;obtain rfl:g'=2:=(Option.some.inj ((show P.globalNamed "kindling/syntax.levels" = some 2 by kernel_rfl).symm.trans hg')).symm
 obtain rfl:t'=182:=(Option.some.inj ((show(P.globals[2]?).map (·.type)=some 182 by kernel_rfl).symm.trans ht')).symm;unfold World.var? at hvar;rw[show P.globalNamed "kindling/syntax.levels" = some 2 by kernel_rfl]at hvar
 simp only[Option.bind_some]at hvar;split at hvar
 . rename_i c el fz hb;cases hvar;obtain⟨xs,n,rfl,hx,hl,hlen,hf⟩:=DataW.trod_array Tryz.underlying182 hd;have hcs:P.cellsOf 182=7:=by kernel_rfl
   have hc49:P.cellsOf 49=1:=by kernel_rfl
   rw[hcs]at hl;rw[Array.length_toList]at hl;refine⟨_,_,_,hb,by show 7<=_;omega,λi v v' a b=> ?_⟩;have hi:i<7:=by
    have:=(List.getElem?_eq_some_iff.1 a).1;exact this
   have h1:=hf i hi;have hc49':Program.cellsOf Tryz.prog 49=1:=hc49;rw[hc49',Nat.mul_one,List.getElem?_eq_getElem (by omega)]at h1;have hxs:xs.map (·.1)=bn.map λl=>(DataW.slice (l.map λs=> .lit (.string s)) []:DataW Unit):=by
    have h2:Rows.laid_kindling_syntax_levels=DataW.agg (xs.map (·.1)):=congrArg Prod.fst hx;exact(DataW.agg.inj h2).symm
   obtain⟨l,hl1,hl2⟩:∃l,bn[i]? = some l/\v=lvl l:=by
    rw[List.getElem?_map]at a;cases hq:bn[i]? with
    | none=>rw[hq]at a;cases a
    | some l=>rw[hq]at a;cases a;exact⟨l,rfl,rfl⟩
   have h3:(xs[i]'(by omega)).1=DataW.slice (l.map λs=> .lit (.string s)) []:=by
    have h4:(xs.map (·.1))[i]? = some ((xs[i]'(by omega)).1):=by rw[List.getElem?_map,List.getElem?_eq_getElem (by omega)];rfl
    rw[hxs,List.getElem?_map,hl1]at h4;exact(Option.some.inj h4).symm
   have h5:(cs.toList.drop i).take 1=[v']:=by
    have h6:cs.toList[i]? = some v':=by rw[<- b];simp
    have h7:i<cs.toList.length:=(List.getElem?_eq_some_iff.1 h6).1;rw[List.drop_eq_getElem_cons h7];rw[List.getElem?_eq_getElem h7]at h6;rw[Option.some.inj h6];rfl
   rw[h5]at h1;have h8:DataW.trod (λ_=>()) P W 0 (λ_=>true) false n 49 [v']=some (.slice (l.map λs=> .lit (.string s)) [],(xs[i]'(by omega)).2):=by
    rw[<- h3];exact h1
   obtain⟨v2,e2,h9⟩:=vK h8;cases e2;rw[hl2];exact h9
 . cases hvar
theorem HJ (hL:laidMet P [("kindling/lex.keys",Rows.laid_kindling_lex_keys),("kindling/lex.signs",Rows.laid_kindling_lex_signs),("kindling/syntax.levels",Rows.laid_kindling_syntax_levels),("kindling/syntax.words",Rows.laid_kindling_syntax_words)] W)(hsh:W.ShapedOpen P):mV W:=by
 refine⟨Ev.wS hsh (of_decide_eq_true (by kernel_rfl)),λx hx=> ?_⟩;rw[g7];simp only[fB,List.mem_cons,List.not_mem_nil,or_false]at hx;have hk:laidMet P (("kindling/lex.keys",Ev.jT (Oh eJ))::[("kindling/lex.signs",Ev.jT (Oh bk)),("kindling/syntax.levels",Rows.laid_kindling_syntax_levels),("kindling/syntax.words",Ev.jT (Oh fM))]) W:=hL
 rcases hx with rfl | rfl | rfl | rfl
 . obtain⟨c,el,fz,h1,h2⟩:=Ev.jv (g:=0) (by kernel_rfl) (by kernel_rfl) Tryz.underlying99 Tryz.underlying9 (by kernel_rfl) (by kernel_rfl) hk.tail;exact⟨by show 0<4;omega,c,el,fz,h1,tF h2⟩
 . obtain⟨c,el,fz,h1,h2⟩:=Ev.jv (g:=1) (by kernel_rfl) (by kernel_rfl) Tryz.underlying144 Tryz.underlying9 (by kernel_rfl) (by kernel_rfl) hk;exact⟨by show 1<4;omega,c,el,fz,h1,tF h2⟩
 . obtain⟨c,el,fz,h1,h2⟩:=BT hk.tail.tail;exact⟨by show 2<4;omega,c,el,fz,h1,h2⟩
 . obtain⟨c,el,fz,h1,h2⟩:=Ev.jv (g:=3) (by kernel_rfl) (by kernel_rfl) Tryz.underlying188 Tryz.underlying9 (by kernel_rfl) (by kernel_rfl) hk.tail.tail.tail;exact⟨by show 3<4;omega,c,el,fz,h1,tF h2⟩
theorem LK (hT:mV W){f:FuncId}{args args':List Value}(hp:PT f args (.bool true))(hv:LR (fZ W) args args'):
 Calls P f args'.toArray W λe w'=>e= .returned (.bool true)/\Below W.heap.size W w':=by
 have hs:=hT.size;rw[g7]at hs;obtain⟨H',nx',_,h⟩:=hp (j8 fB .leaf) W.heap.size (BR hs);exact oU (Qq hT) (Of hT) (mN W) hv rfl h
end
end
end Go.Proofs.YthjhonhhbddhkaaGreatDoor
namespace Go.Proofs.YthjhonhhbddhkaaGreatDoor
open Go.Ev Go.RowKit
noncomputable section
set_option maxRecDepth 100000
set_option linter.unusedVariables false
set_option linter.unusedSimpArgs false
set_option maxHeartbeats 8000000
def eP:Nat->List UInt8->Option Nat
 | _,[]=>none
 | _,[_]=>none
 | d,c::e::r=>
   if c=40/\e=42 then(eP (d+1) r).map (· + 2)
   else if c=42/\e=41 then(if d<=1 then some 2 else(eP (d-1) r).map (· + 2))
   else(eP d (e::r)).map (· + 1)
def ws (c:UInt8):Bool:=c == 9||c == 10||c == 13||c == 32
theorem mm:∀(d:Nat) (l:List UInt8) (n:Nat),eP d l=some n->2<=n/\n<=l.length
 | _,[],n,h=>by simp[eP]at h
 | _,[_],n,h=>by simp[eP]at h
 | d,c::e::r,n,h=>by
   rw[eP]at h;split at h
   . obtain⟨m,hm,rfl⟩:=Option.map_eq_some_iff.1 h;have:=mm _ r m hm;simp;omega
   . split at h
     . split at h
       . simp at h;subst h;simp
       . obtain⟨m,hm,rfl⟩:=Option.map_eq_some_iff.1 h;have:=mm _ r m hm;simp;omega
     . obtain⟨m,hm,rfl⟩:=Option.map_eq_some_iff.1 h;have:=mm _ (e::r) m hm;simp at this ⊢;omega
theorem jG:∀(l:List UInt8) (d:Nat),eP (d+2) l=(eP 1 l).bind λn=>(eP (d+1) (l.drop n)).map (n+ ·)
 | [],d=>by simp[eP]
 | [_],d=>by simp[eP]
 | c::e::r,d=>by
   have h1:eP (d+2) (c::e::r)=if c=40/\e=42 then(eP (d+2+1) r).map (· + 2)
    else if c=42/\e=41 then(if d+2<=1 then some 2 else(eP (d+2-1) r).map (· + 2))else(eP (d+2) (e::r)).map (· + 1):=by rw[eP]
   have h2:eP 1 (c::e::r)=if c=40/\e=42 then(eP (1+1) r).map (· + 2)
    else if c=42/\e=41 then(if 1<=1 then some 2 else(eP (1-1) r).map (· + 2))else(eP 1 (e::r)).map (· + 1):=by rw[eP]
   rw[h1,h2]
   by_cases a:c=40/\e=42
   . rw[if_pos a,if_pos a,show d+2+1=(d+1)+2 from rfl,jG r (d+1),show 1+1=0+2 from rfl,jG r 0];cases h:eP 1 r with
     | none=>simp
     | some n=>
       simp only[Option.bind_some,Nat.zero_add];rw[jG (r.drop n) d];cases h3:eP 1 (r.drop n)with
       | none=>simp
       | some m=>
         simp only[Option.bind_some,Option.map_some,Option.map_map,List.drop_drop];rw[show(c::e::r).drop (n+m+2)=r.drop (n+m)by simp];cases eP (d+1) (r.drop (n+m))<;>simp
         omega
   . rw[if_neg a,if_neg a]
     by_cases b:c=42/\e=41
     . rw[if_pos b,if_pos b,if_neg (by omega),if_pos (by omega)];simp only[Option.bind_some];rw[show(c::e::r).drop 2=r from rfl,show d+2-1=d+1 from rfl];cases eP (d+1) r<;>simp
       omega
     . rw[if_neg b,if_neg b,jG (e::r) d];cases h:eP 1 (e::r)with
       | none=>simp
       | some n=>
         simp only[Option.bind_some,Option.map_some,Option.map_map];rw[show(c::e::r).drop (n+1)=(e::r).drop n by simp];cases eP (d+1) ((e::r).drop n)<;>simp
         omega
termination_by l=>l.length
decreasing_by all_goals (simp;try omega)
def dF:List UInt8->Nat×Bool
 | []=>(0,true)
 | [c]=>if ws c then(1,true)else(0,true)
 | c::e::r=>
   if ws c then((dF (e::r)).1+1,(dF (e::r)).2)
   else if c=40/\e=42 then
    match eP 1 r with
    | none=>(0,false)
    | some n=>((dF (r.drop n)).1+(n+2),(dF (r.drop n)).2)
   else(0,true)
termination_by l=>l.length
decreasing_by all_goals (simp;try omega)
theorem tG:∀(l:List UInt8),(dF l).1<=l.length
 | []=>by simp[dF]
 | [c]=>by rw[dF];split<;>simp
 | c::e::r=>by
   rw[dF];split
   . have:=tG (e::r);simp at this ⊢;omega
   . split
     . cases h:eP 1 r with
       | none=>simp
       | some n=>
         have h1:=mm 1 r n h;have h2:=tG (r.drop n);rw[List.length_drop]at h2;simp;omega
     . simp
termination_by l=>l.length
decreasing_by all_goals (simp;try omega)
theorem EU {c:UInt8}{r:List UInt8}(h:ws c=true):dF (c::r)=((dF r).1+1,(dF r).2):=by
 cases r with
 | nil=>simp[dF,h]
 | cons e r=>rw[dF,if_pos h]
theorem vL (r:List UInt8):dF (40::42::r)=match eP 1 r with
 | none=>(0,false)
 | some n=>((dF (r.drop n)).1+(n+2),(dF (r.drop n)).2):=by
 rw[dF,if_neg (by decide),if_pos ⟨rfl,rfl⟩]
theorem vM {c:UInt8}{r:List UInt8}(h:¬ws c=true)(h2:¬(c=40/\r.head? = some 42)):dF (c::r)=(0,true):=by
 cases r with
 | nil=>rw[dF,if_neg h]
 | cons e r=>rw[dF,if_neg h,if_neg (by simpa using h2)]
theorem vN (d:Nat)(r:List UInt8):eP d (40::42::r)=(eP (d+1) r).map (· + 2):=by
 rw[eP,if_pos ⟨rfl,rfl⟩]
theorem qX (d:Nat)(r:List UInt8):eP d (42::41::r)=if d<=1 then some 2 else(eP (d-1) r).map (· + 2):=by
 rw[eP,if_neg (by decide),if_pos ⟨rfl,rfl⟩]
theorem qY {d:Nat}{c:UInt8}{r:List UInt8}(h:¬(c=40/\r.head? = some 42))(h2:¬(c=42/\r.head? = some 41)):eP d (c::r)=(eP d r).map (· + 1):=by
 cases r with
 | nil=>simp[eP]
 | cons e r=>rw[eP,if_neg (by simpa using h),if_neg (by simpa using h2)]
theorem lE {r:List UInt8}{e:UInt8}(h:r.head? = some e):∃t,r=e::t:=by
 cases r with
 | nil=>simp at h
 | cons x t=>simp at h;exact⟨t,by rw[h]⟩
section
variable {nx0:Nat}{H0:T OB}
theorem tH (c:UInt8):P0 174 [b8 c] (i64 (cb c)):=Pure.of rfl λH nx=>by
 rw[Pu];refine Wq.call (Aq c) (.refl _ _) λH1 aJ hA1=> ?_;have hc:=c.toNat_lt;unfold cb;simp only[af];refine Wq.bK (λh=> ?_) (λh=> ?_)
 . rw[if_pos h];have hd:=gZ.1 h;rw[show IntKind.u8.wrap ((c.toNat:Int)-48)=(c.toNat:Int)-48 from by rw[wrap_u8];omega];simp only[af,w6];rw[show IntKind.i64.wrap ((c.toNat:Int)-48)=(c.toNat:Int)-48 from a7 (by omega)];exact Wq.ret hA1
 rw[if_neg (by rw[h];decide)];have L10:∀b,b=(decide (65<=c.toNat)&&decide (c.toNat<=70))->Wq P pl X0 (.jump (nD (b8 c) b H1 aJ)) nx H (i64 (if(decide (65<=c.toNat)&&decide (c.toNat<=70))=true then(c.toNat:Int)-55 else -1)):=by
  intro b hb;refine Wq.jmp (F9 ..) (λ_=>rfl) ?_;rw[<- hb];cases b with
  | true=>
    have h2:65<=c.toNat/\c.toNat<=70:=by simpa using hb.symm
    simp only[af];rw[show IntKind.u8.wrap ((c.toNat:Int)-65)=(c.toNat:Int)-65 from by rw[wrap_u8];omega];simp only[af,w6];rw[show IntKind.i64.wrap ((c.toNat:Int)-65)=(c.toNat:Int)-65 from a7 (by omega),show IntKind.i64.wrap ((c.toNat:Int)-65+10)=(c.toNat:Int)-55 from by rw[a7 (by omega)];omega];exact Wq.ret hA1
  | false=>exact Wq.ret hA1
 refine Wq.ite (λh2=> ?_) (λh2=>L10 _ (by simp;omega));refine L10 _ ?_;rw[show decide (65<=c.toNat)=true from by simp;omega,Bool.true_and,decide_eq_decide];omega
abbrev EV (p:UInt8×Nat):Value:= .tuple ⟨[b8 p.1,i64 ((p.2-1:Nat):Int)]⟩
theorem LL (s:List UInt8)(hl:s.length<cY):P0 145 [aE s] (EV (fm s)):=Pure.of rfl λH nx=>by
 rw[Ph];have hA:=Ag.refl nx H;have L28f:∀H1 aJ,Ag nx H aJ H1->fm s=(0,0)->Wq P pl X0 (.jump (lj (aE s) false H1 aJ)) nx H (EV (fm s)):=by
  intro H1 aJ hA1 hb;refine Wq.jmp (Ae ..) (λ_=>rfl) ?_;rw[hb];exact Wq.ret hA1
 cases s with
 | nil=>
   simp only[af,aF _ aR,aK,List.length_nil];exact Wq.ret hA
 | cons x t=>
   have e0:decide (((x::t).length:Int)=0)=false:=by simp;omega
   have L14:∀b,(b=true↔(x.toNat=34\/x.toNat=92))->Wq P pl X0 (.jump (nA (aE (x::t)) (b8 x) b H nx)) nx H (EV (fm (x::t))):=by
    intro b hb;refine Wq.jmp (F4 ..) (λ_=>rfl) ?_;cases b with
    | true=>
      simp only[af,I_];have:fm (x::t)=(x,2):=by
       rw[cU];rcases hb.1 rfl with h | h
       . rw[if_pos h,show x=34 from UInt8.toNat_inj.1 h]
       . rw[if_neg (by omega),if_pos h,show x=92 from UInt8.toNat_inj.1 h]
      rw[this];exact Wq.ret hA
    | false=>
      have hn:¬(x.toNat=34\/x.toNat=92):=λq=>by have:=hb.2 q;cases this
      simp only[af];refine Wq.ite (λh=> ?_) (λh3=> ?_)
      . rw[show fm (x::t)=(10,2)from by rw[cU];rw[if_neg (by omega),if_neg (by omega),if_pos (by omega)]];exact Wq.ret hA
      refine Wq.ite (λh=> ?_) (λh4=> ?_)
      . rw[show fm (x::t)=(9,2)from by rw[cU];rw[if_neg (by omega),if_neg (by omega),if_neg (by omega),if_pos (by omega)]];exact Wq.ret hA
      have hE:fm (x::t)=if x.toNat=120 then xy t else(0,0):=by rw[cU];rw[if_neg (by omega),if_neg (by omega),if_neg (by omega),if_neg (by omega)]
      refine Wq.ite (λh5=> ?_) (λh5=> ?_)
      . rw[if_pos (by omega)]at hE;simp only[af,aF _ aR,aK];refine Wq.ite (λh6=> ?_) (λh6=>L28f _ _ hA (by
         rw[hE]
         match t with
         | []=>rfl
         | [_]=>rfl
         | y::z::r=>simp at h6;omega))
        obtain⟨y,z,r,rfl⟩:∃y z r,t=y::z::r:=by
         match t with
         | []=>exact absurd h6 (by simp)
         | [_]=>exact absurd h6 (by simp)
         | y::z::r=>exact⟨y,z,r,rfl⟩
        have hX:xy (y::z::r)=if 0<=cb y/\0<=cb z then(UInt8.ofNat (16*cb y+cb z).toNat,4)else(0,0):=rfl;rw[hX]at hE;simp only[af,OD,OE];refine Wq.call (tH y) hA λH2 nx2 hA2=> ?_;simp only[af];refine Wq.ite (λh7=> ?_) (λh7=>L28f _ _ hA2 (by rw[hE,if_neg (by omega)]));refine Wq.call (tH z) hA2 λH3 nx3 hA3=> ?_;simp only[af]
        by_cases h8:0<=cb z
        . rw[decide_eq_true h8];refine Wq.jmp (Ae ..) (λ_=>rfl) ?_;have a1:=nL y;have a2:=nL z;have e1:IntKind.i64.wrap (cb y*16)=cb y*16:=a7 (by omega);have e3:IntKind.i64.wrap (cb y*16+cb z)=16*cb y+cb z:=by rw[a7 (by omega)];omega
          simp only[af,OD,OE];refine Wq.call (tH y) hA3 λH4 nx4 hA4=> ?_;simp only[af];refine Wq.call (tH z) hA4 λH5 nx5 hA5=> ?_;simp only[af,e1,e3,D9,bf];rw[hE,if_pos ⟨h7,h8⟩];have e4:IntKind.u8.wrap (16*cb y+cb z)=((UInt8.ofNat (16*cb y+cb z).toNat).toNat:Int):=by
           rw[wrap_u8,UInt8.toNat_ofNat'];omega
          rw[e4];exact Wq.ret hA5
        . rw[decide_eq_false h8];exact L28f _ _ hA3 (by rw[hE,if_neg (by omega)])
      . rw[hE,if_neg (by omega)];exact Wq.ret hA
   simp only[af,aF _ aR,aK,e0,I_];refine Wq.ite (λh=>L14 _ (by simp;omega)) (λh=> ?_);exact L14 _ (by simp;omega)
def Ff (n i:Nat)(r:List UInt8):Value:=match fU n (r.takeWhile bq)with
 | some m=> .tuple ⟨[i64 (m:Int),i64 ((i+(r.takeWhile bq).length:Nat):Int)]⟩
 | none=> .tuple ⟨[i64 0,i64 0]⟩
theorem EW (s:List UInt8)(hl:s.length<cY):∀(r:List UInt8) (i n:Nat) (H:T OB) (nx:Nat),s.drop i=r->i<=s.length->n<=4611686018427387903->Ag nx0 H0 nx H->
 Wq P pl X0 (.jump (sx (aE s) (i64 (n:Int)) (i64 (i:Int)) H nx)) nx0 H0 (Ff n i r):=by
 intro r
 induction r with
 | nil=>
   intro i n H nx hd hi h1 hA;have hil:=drop_nil hd hi;refine Wq.jmp (Dq ..) (λ_=>rfl) ?_;simp only[af,aF _ aR,aK,hil,aV];exact Wq.ret hA
 | cons c r ih=>
   intro i n H nx hd hi h1 hA;obtain⟨hg,hlt,hd'⟩:=drop_cons hd;have hin:=aW (P:=P) aR hg .i64;refine Wq.jmp (Dq ..) (λ_=>rfl) ?_;simp only[af,aF _ aR,aK,aU hlt,hin];refine Wq.call (Aq c) hA λH1 aJ hA1=> ?_;cases hdg:bq c with
   | false=>
     have e:Ff n i (c::r)= .tuple ⟨[i64 (n:Int),i64 (i:Int)]⟩:=by
      unfold Ff;rw[List.takeWhile_cons,hdg];rfl
     rw[e];simp only[af];exact Wq.ret hA1
   | true=>
     have h9:=AY hdg;have e2:IntKind.i64.wrap (dv c:Int)=(dv c:Int):=a7 (by omega);have e4:IntKind.i64.wrap (4611686018427387903-(dv c:Int))=((4611686018427387903-dv c:Nat):Int):=by rw[a7 (by omega)];omega
     have e5:IntKind.i64.wrap (((4611686018427387903-dv c:Nat):Int).tdiv 10)=(((4611686018427387903-dv c)/10:Nat):Int):=by
      rw[show((4611686018427387903-dv c:Nat):Int).tdiv 10=(((4611686018427387903-dv c)/10:Nat):Int)from rfl,a7 (by omega)]
     simp only[af,w5,Qo hdg,e2,e4,D_,e5];have hN:fU n ((c::r).takeWhile bq)=if bq c=true/\n<=(4611686018427387903-dv c)/10 then fU (n*10+dv c) (r.takeWhile bq)else none:=by
      rw[List.takeWhile_cons,hdg,if_pos rfl,fU,hdg]
     refine Wq.ite (λh=> ?_) (λh=> ?_)
     . have e:Ff n i (c::r)= .tuple ⟨[i64 0,i64 0]⟩:=by
        unfold Ff;rw[hN,if_neg (by omega)]
       rw[e];exact Wq.ret hA1
     . have e:Ff n i (c::r)=Ff (n*10+dv c) (i+1) r:=by
        unfold Ff;rw[hN,if_pos ⟨hdg,by omega⟩,List.takeWhile_cons,hdg];simp only[List.length_cons,if_true];rw[show i+((r.takeWhile bq).length+1)=i+1+(r.takeWhile bq).length by omega]
       rw[e];have e1:IntKind.i64.wrap ((n:Int)*10)=((n*10:Nat):Int):=by rw[a7 (by omega)];omega
       have e3:IntKind.i64.wrap (((n*10:Nat):Int)+(dv c:Int))=((n*10+dv c:Nat):Int):=by rw[a7 (by omega)];omega
       simp only[af,aL (show i<9223372036854775807 by have:=db hl;omega),e1,e3];exact ih (i+1) _ H1 aJ hd' (by omega) (by omega) hA1
theorem LM (s:List UInt8)(hl:s.length<cY):P0 100 [aE s] (Ff 0 0 s):=Pure.of rfl λH nx=>by
 rw[O1];exact EW s hl s 0 0 H nx rfl (Nat.zero_le _) (by omega) (.refl _ _)
def qt:Nat->List UInt8->Option (List UInt8×Nat)
 | 0,_=>none
 | _+1,[]=>none
 | f+1,c::r=>if c.toNat=34 then some ([],1)else if(bY (c::r)).2=0 then none else(qt f ((c::r).drop (bY (c::r)).2)).map λq=>((bY (c::r)).1::q.1,(bY (c::r)).2+q.2)
theorem lF (f:Nat)(c:UInt8)(r:List UInt8):qt (f+1) (c::r)=if c.toNat=34 then some ([],1)else if(bY (c::r)).2=0 then none else(qt f ((c::r).drop (bY (c::r)).2)).map λq=>((bY (c::r)).1::q.1,(bY (c::r)).2+q.2):=rfl
theorem tI (f:Nat):qt f []=none:=by cases f<;>rfl
def HK (acc:List UInt8)(i:Nat):Option (List UInt8×Nat)->Value
 | some q=> .tuple ⟨[aE (acc++q.1),i64 ((i+q.2:Nat):Int)]⟩
 | none=> .tuple ⟨[aE [],i64 0]⟩
theorem EX (t:List UInt8):(fm t).2=0\/2<=(fm t).2:=by
 cases t with
 | nil=>exact .inl rfl
 | cons x t=>
   rw[cU]
   by_cases h3:x.toNat=34
   . rw[if_pos h3];exact .inr (Nat.le_refl _)
   rw[if_neg h3]
   by_cases h3:x.toNat=92
   . rw[if_pos h3];exact .inr (Nat.le_refl _)
   rw[if_neg h3]
   by_cases h3:x.toNat=110
   . rw[if_pos h3];exact .inr (Nat.le_refl _)
   rw[if_neg h3]
   by_cases h3:x.toNat=116
   . rw[if_pos h3];exact .inr (Nat.le_refl _)
   rw[if_neg h3]
   by_cases h3:x.toNat=120
   . rw[if_pos h3]
     match t with
     | []=>exact .inl rfl
     | [_]=>exact .inl rfl
     | y::z::r=>
       show(if 0<=cb y/\0<=cb z then _ else _:UInt8×Nat).2=0\/2<=(if 0<=cb y/\0<=cb z then _ else _:UInt8×Nat).2
       by_cases h4:0<=cb y/\0<=cb z
       . rw[if_pos h4];exact .inr (by show 2<=4;omega)
       . rw[if_neg h4];exact .inl rfl
   . rw[if_neg h3];exact .inl rfl
theorem HL (s:List UInt8)(hl:s.length<=1000000):∀(d i:Nat) (r:List UInt8) (sl:Value) (H:T OB) (nx:Nat),s.length-i<=d->1<=i->i<=s.length->r.length<=i->BS 5 nx0 H nx r sl->Ag nx0 H0 nx H->
 Wq P pl X0 (.jump (pe (aE s) sl (i64 (i:Int)) H nx)) nx0 H0 (HK r i (qt d (s.drop i))):=by
 intro d
 induction d with
 | zero=>
   intro i r sl H nx hd hi hi2 hr hB hA;have hil:i=s.length:=by omega
   refine Wq.jmp (wR ..) (λ_=>rfl) ?_;simp only[af,aF _ aR,aK,hil,aV];exact Wq.ret hA
 | succ d ih=>
   intro i r sl H nx hd hi hi2 hr hB hA;cases hdr:s.drop i with
   | nil=>
     have hil:=drop_nil hdr hi2;refine Wq.jmp (wR ..) (λ_=>rfl) ?_;simp only[af,aF _ aR,aK,hil,aV];exact Wq.ret hA
   | cons c t=>
     obtain⟨hg,hlt,hd'⟩:=drop_cons hdr;have hin:=aW (P:=P) aR hg .i64;have hc:=c.toNat_lt;refine Wq.jmp (wR ..) (λ_=>rfl) ?_;simp only[af,aF _ aR,aK,aU hlt,hin];rw[lF];refine Wq.ite (λh=> ?_) (λh34=> ?_)
     . rw[if_pos (by omega)];simp only[af,me jN qR aR sY hB,aL (show i<9223372036854775807 by omega)];exact Wq.iE (by show _=Value.tuple _;rw[List.append_nil]) hA
     rw[if_neg (by omega)];have hS:bY (c::t)=if c.toNat<32\/126<c.toNat\/c.toNat=34 then(0,0)else if c.toNat=92 then fm t else(c,1):=rfl;refine Wq.ite (λh92=> ?_) (λh92=> ?_)
     . rw[if_neg (by omega),if_pos (by omega)]at hS;rw[hS];simp only[af,aL (show i<9223372036854775807 by omega),cZ (show i+1<=s.length by omega),hd'];have htl:t.length=s.length-(i+1):=by rw[<- hd',List.length_drop]
       refine Wq.fj (LL t (by have hbig:cY=1125899906842624:=rfl;omega)) hA λH1 aJ hA1 n1 k1=> ?_;have hn:=nM (c::t);rw[hS,List.length_cons]at hn;have h2:=EX t;generalize fm t=p at hn h2 ⊢;obtain⟨e,n⟩:=p;have x0:ar (some (EV (e,n))) 0=some (b8 e):=rfl;have x1:ar (some (EV (e,n))) 1=some (i64 ((n-1:Nat):Int)):=rfl;simp only at hn h2;simp only[af,x0,x1];refine Wq.ite (λh=> ?_) (λh=> ?_)
       . rw[if_pos (by omega)];exact Wq.ret hA1
       rw[if_neg (by omega)];have hB':=BS.cA hB n1 k1;refine Wq.KK (x:=[e]) jN Kf w4 hB' rfl rfl (K4 e) (λm hm=>Ea (by simp at hm;omega)) hA1 λH2 sl2 nx2 hB2 hA2 _=> ?_;have ew:IntKind.i64.wrap ((i:Int)+((n-1:Nat):Int))=((i+(n-1):Nat):Int):=by rw[a7 (by omega)];omega
       simp only[af,ew];refine Wq.jmp (FT ..) (λ_=>rfl) ?_;simp only[af,aL (show i+(n-1)<9223372036854775807 by omega)];rw[show i+(n-1)+1=i+n by omega];have:=ih (i+n) (r++[e]) sl2 H2 nx2 (by omega) (by omega) (by omega) (by simp;omega) hB2 hA2;rw[<- List.drop_drop,hdr]at this;cases hq:qt d ((c::t).drop n)with
       | none=>rw[hq]at this;exact this
       | some q=>
         rw[hq]at this;have e2:HK (r++[e]) (i+n) (some q)=HK r i (some (e::q.1,n+q.2)):=by
          show Value.tuple _=Value.tuple _;rw[List.append_assoc,Nat.add_assoc];rfl
         rw[e2]at this;exact this
     have L34:∀b,(b=true↔(c.toNat<32\/126<c.toNat))->Wq P pl X0 (.jump (nk (aE s) sl (i64 (i:Int)) (b8 c) b H nx)) nx0 H0 (HK r i (if(bY (c::t)).2=0 then none else(qt d ((c::t).drop (bY (c::t)).2)).map λq=>((bY (c::t)).1::q.1,(bY (c::t)).2+q.2))):=by
      intro b hb;refine Wq.jmp (FU ..) (λ_=>rfl) ?_;cases b with
      | true=>
        have hS0:bY (c::t)=(0,0):=by
         have:=hb.1 rfl;rw[hS,if_pos (by omega)]
        rw[hS0,if_pos rfl];exact Wq.ret hA
      | false=>
        have hn:¬(c.toNat<32\/126<c.toNat):=λq=>by have:=hb.2 q;cases this
        have hS1:bY (c::t)=(c,1):=by rw[hS,if_neg (by omega),if_neg (by omega)]
        rw[hS1,if_neg (show ¬(c,1).2=0 from Nat.one_ne_zero)];simp only[af];refine Wq.KK (x:=[c]) jN Kf w4 hB rfl rfl (K4 c) (λm hm=>Ea (by simp at hm;omega)) hA λH2 sl2 nx2 hB2 hA2 _=> ?_;simp only[af,aL (show i<9223372036854775807 by omega)];have:=ih (i+1) (r++[c]) sl2 H2 nx2 (by omega) (by omega) (by omega) (by simp;omega) hB2 hA2;rw[hd']at this;rw[show(c::t).drop 1=t from rfl];cases hq:qt d t with
        | none=>rw[hq]at this;exact this
        | some q=>
          rw[hq]at this;have e2:HK (r++[c]) (i+1) (some q)=HK r i (some (c::q.1,1+q.2)):=by
           show Value.tuple _=Value.tuple _;rw[List.append_assoc,Nat.add_assoc];rfl
          rw[e2]at this;exact this
     refine Wq.ite (λh=>L34 _ (by simp;omega)) (λh=> ?_);exact L34 _ (by simp;omega)
theorem LN (s:List UInt8)(h0:1<=s.length)(hl:s.length<=1000000):P0 101 [aE s] (HK [] 1 (qt s.length (s.drop 1))):=Pure.of rfl λH nx=>by
 rw[O2];exact HL s hl s.length 1 [] (.slice none 0 0) H nx (Nat.sub_le _ _) (by omega) h0 (by simp) (.nil _ _ _ _) (.refl _ _)
end
theorem take_cons {α:Type}{a:α}{t s':List α}{n:Nat}(hn:1<=n)(h:s'.take n=(a::t).take n):∃t',s'=a::t'/\t'.take (n-1)=t.take (n-1):=by
 obtain⟨m,rfl⟩:∃m,n=m+1:=⟨n-1,by omega⟩;cases s' with
 | nil=>simp at h
 | cons b t'=>
   simp only[List.take_succ_cons,List.cons.injEq]at h;exact⟨t',by rw[h.1],h.2⟩
theorem EY {t t':List UInt8}(h0:(fm t).2≠0)(h:t'.take ((fm t).2-1)=t.take ((fm t).2-1)):fm t'=fm t:=by
 have h2:=EX t;cases t with
 | nil=>exact absurd rfl h0
 | cons x u=>
   obtain⟨u',rfl,hu⟩:=take_cons (by omega) h;rw[cU]at h0 hu ⊢;rw[cU]
   by_cases h3:x.toNat=34
   . rw[if_pos h3,if_pos h3]
   rw[if_neg h3]at h0 hu ⊢;rw[if_neg h3]
   by_cases h3:x.toNat=92
   . rw[if_pos h3,if_pos h3]
   rw[if_neg h3]at h0 hu ⊢;rw[if_neg h3]
   by_cases h3:x.toNat=110
   . rw[if_pos h3,if_pos h3]
   rw[if_neg h3]at h0 hu ⊢;rw[if_neg h3]
   by_cases h3:x.toNat=116
   . rw[if_pos h3,if_pos h3]
   rw[if_neg h3]at h0 hu ⊢;rw[if_neg h3]
   by_cases h3:x.toNat=120
   . rw[if_pos h3]at h0 hu ⊢;rw[if_pos h3]
     match u with
     | []=>exact absurd rfl h0
     | [_]=>exact absurd rfl h0
     | y::z::r=>
       have e:∀r,xy (y::z::r)=if 0<=cb y/\0<=cb z then(UInt8.ofNat (16*cb y+cb z).toNat,4)else(0,0):=λ_=>rfl;rw[e]at h0 hu ⊢
       by_cases h4:0<=cb y/\0<=cb z
       . rw[if_pos h4]at hu ⊢;obtain⟨v',rfl,hv⟩:=take_cons (by show 1<=4-1-1;omega) hu;obtain⟨w',rfl,hw⟩:=take_cons (by show 1<=4-1-1-1;omega) hv;rw[e,if_pos h4]
       . rw[if_neg h4]at h0;exact absurd rfl h0
   . rw[if_neg h3]at h0;exact absurd rfl h0
theorem EZ {s s':List UInt8}(h0:(bY s).2≠0)(h:s'.take (bY s).2=s.take (bY s).2):bY s'=bY s:=by
 cases s with
 | nil=>exact absurd rfl h0
 | cons a t=>
   obtain⟨t',rfl,ht⟩:=take_cons (by omega) h;rw[fF]at h0 ht ⊢;rw[fF]
   by_cases h1:a.toNat<32\/126<a.toNat\/a.toNat=34
   . rw[if_pos h1]at h0;exact absurd rfl h0
   rw[if_neg h1]at h0 ht ⊢;rw[if_neg h1]
   by_cases h2:a.toNat=92
   . rw[if_pos h2]at h0 ht ⊢;rw[if_pos h2];exact EY h0 ht
   . rw[if_neg h2,if_neg h2]
theorem A0:∀{f:Nat} {s:List UInt8} {q:List UInt8×Nat},qt f s=some q->1<=q.2/\q.2<=s.length:=by
 intro f
 induction f with
 | zero=>intro s q h;cases h
 | succ f ih=>
   intro s q h;cases s with
   | nil=>cases h
   | cons c r=>
     rw[lF]at h
     by_cases h1:c.toNat=34
     . rw[if_pos h1]at h;cases h;exact⟨Nat.le_refl _,by simp⟩
     rw[if_neg h1]at h
     by_cases h2:(bY (c::r)).2=0
     . rw[if_pos h2]at h;cases h
     rw[if_neg h2]at h;obtain⟨q1,hq,rfl⟩:=Option.map_eq_some_iff.1 h;have:=ih hq;have:=nM (c::r);rw[List.length_drop]at*;show 1<=(bY (c::r)).2+q1.2/\(bY (c::r)).2+q1.2<=_;omega
theorem xA:∀{f:Nat} {s:List UInt8} {f':Nat} {s':List UInt8} {q:List UInt8×Nat},s'.length<=f'->qt f s=some q->s'.take q.2=s.take q.2->qt f' s'=some q:=by
 intro f
 induction f with
 | zero=>intro s f' s' q _ h;cases h
 | succ f ih=>
   intro s f' s' q hf' h ht;cases s with
   | nil=>cases h
   | cons c r=>
     have hle:=A0 h;obtain⟨r',rfl,hr⟩:=take_cons hle.1 ht;obtain⟨g,rfl⟩:∃g,f'=g+1:=⟨f'-1,by simp at hf';omega⟩;rw[lF]at h ⊢
     by_cases h1:c.toNat=34
     . rw[if_pos h1]at h ⊢;exact h
     rw[if_neg h1]at h ⊢
     by_cases h2:(bY (c::r)).2=0
     . rw[if_pos h2]at h;cases h
     rw[if_neg h2]at h;obtain⟨q1,hq,rfl⟩:=Option.map_eq_some_iff.1 h;have ht1:(c::r').take (bY (c::r)).2=(c::r).take (bY (c::r)).2:=by
      have:=congrArg (List.take (bY (c::r)).2) ht;rwa[List.take_take,List.take_take,Nat.min_eq_left (Nat.le_add_right _ _)]at this
     have ht2:((c::r').drop (bY (c::r)).2).take q1.2=((c::r).drop (bY (c::r)).2).take q1.2:=by
      have:=congrArg (List.drop (bY (c::r)).2) ht;rwa[List.drop_take,List.drop_take,Nat.add_sub_cancel_left]at this
     rw[EZ h2 ht1,if_neg h2,ih (by rw[List.length_drop];simp at hf' ⊢;omega) hq ht2];rfl
theorem HM {c:UInt8}{t:List UInt8}(h:c.toNat=34):bY (c::t)=(0,0):=by
 rw[fF,if_pos (.inr (.inr h))]
theorem LO:∀(f g:Nat) (u out:List UInt8),u.length<=f->u.length<=g->
 (∀o,qt g u=some (o,u.length)->BM f u out=(out++o,true))/\((∀o,qt g u≠some (o,u.length))->(BM f u out).2=false):=by
 intro f
 induction f with
 | zero=>
   intro g u out hf hg;obtain rfl:u=[]:=List.length_eq_zero_iff.1 (by omega);exact⟨λo h=>(by rw[tI]at h;cases h),λ_=>rfl⟩
 | succ f ih=>
   intro g u out hf hg;cases u with
   | nil=>exact⟨λo h=>(by rw[tI]at h;cases h),λ_=>rfl⟩
   | cons c r=>
     obtain⟨g,rfl⟩:∃k,g=k+1:=⟨g-1,by simp at hg;omega⟩;rw[lF];have hle:=nM (c::r);cases r with
     | nil=>
       have e:BM (f+1) [c] out=(out,decide ([c]=[34])):=rfl;rw[e]
       by_cases h1:c.toNat=34
       . have:c=34:=UInt8.toNat_inj.1 h1;subst this;rw[if_pos (show(34:UInt8).toNat=34 from rfl)];exact⟨λo h=>(by cases h;rw[List.append_nil];rfl),λh=>absurd rfl (h [])⟩
       . rw[if_neg h1];have:qt g ([c].drop (bY [c]).2)=none\/(bY [c]).2=0:=by
          by_cases h2:(bY [c]).2=0
          . exact .inr h2
          . rw[List.drop_eq_nil_of_le (by simp;omega),tI];exact .inl rfl
         refine⟨λo h=> ?_,λ_=> ?_⟩
         . rcases this with h2 | h2
           . rw[h2]at h;split at h<;>cases h
           . rw[if_pos h2]at h;cases h
         . rw[decide_eq_false_iff_not];intro q;cases q;exact h1 rfl
     | cons d r=>
       have e:BM (f+1) (c::d::r) out=if(bY (c::d::r)).2=0 then([],false)else BM f ((c::d::r).drop (bY (c::d::r)).2) (out++[(bY (c::d::r)).1]):=if_neg (by simp);rw[e]
       by_cases h1:c.toNat=34
       . rw[if_pos h1,HM h1];exact⟨λo h=>(by cases h),λ_=>rfl⟩
       rw[if_neg h1]
       by_cases h2:(bY (c::d::r)).2=0
       . rw[if_pos h2,if_pos h2];exact⟨λo h=>(by cases h),λ_=>rfl⟩
       rw[if_neg h2,if_neg h2];generalize hp:bY (c::d::r)=p at h2 hle ⊢;obtain⟨b,n⟩:=p;simp only at h2 hle ⊢;have:=ih g ((c::d::r).drop n) (out++[b]) (by rw[List.length_drop];simp at hf ⊢;omega) (by rw[List.length_drop];simp at hg ⊢;omega);refine⟨λo h=> ?_,λh=>this.2 λo q=> ?_⟩
       . obtain⟨q1,hq,he⟩:=Option.map_eq_some_iff.1 h;have he:=Prod.mk.inj he;rw[this.1 q1.1 (by rw[hq,List.length_drop];congr 1;refine Prod.ext rfl ?_;show q1.2=_;omega),List.append_assoc,<- he.1];rfl
       . refine h (b::o) ?_;rw[q,List.length_drop];show some (b::o,n+((c::d::r).length-n))=_;rw[Nat.add_sub_cancel' hle]
theorem iJ {s:List UInt8}(h:fO s=false):cR s=mU s:=by
 unfold cR;rw[if_neg (λq=>by rw[ER q]at h;cases h)]
theorem pJ {c:UInt8}{u:List UInt8}{g:Nat}(h:c.toNat=34)(hg:u.length<=g):
 (∀o,qt g u=some (o,u.length)->cR (c::u)=(⟨2,o,0,0⟩,true))/\((∀o,qt g u≠some (o,u.length))->(cR (c::u)).2=false):=by
 obtain rfl:c=34:=UInt8.toNat_inj.1 h;rw[iJ rfl];have hw:isWord (34::u)=false:=rfl;have hv:isVar (34::u)=false:=by cases u<;>rfl
 have hs:bk.contains (34::u)=false:=by
  cases hq:bk.contains (34::u)with
  | false=>rfl
  | true=>exact absurd (AZ hq).2.1 (by simp[first])
 unfold mU;rw[hw,hv,hs];cases u with
 | nil=>exact⟨λo h=>(by rw[tI]at h;cases h),λ_=>rfl⟩
 | cons d u=>
   have hQ:iU (34::d::u)=BM (u.length+1+1) (d::u) []:=by
    unfold iU;rw[if_neg (by simp[first])];rfl
   have:=LO (u.length+1+1) g (d::u) [] (by simp) hg;rw[hQ];refine⟨λo h=> ?_,λh=> ?_⟩
   . rw[this.1 o h,if_pos rfl];rfl
   . rw[if_neg (by rw[this.2 h];decide)];rfl
theorem LP:∀n:Nat,n<256->(bH (UInt8.ofNat n)||bC (UInt8.ofNat n))=true->bq (UInt8.ofNat n)=false/\(UInt8.ofNat n).toNat≠34/\(UInt8.ofNat n).toNat≠39:=by decide
theorem E0 {c:UInt8}(h:(bH c||bC c)=true):bq c=false/\c.toNat≠34/\c.toNat≠39:=by
 have:=LP c.toNat c.toNat_lt;rw[UInt8.ofNat_toNat]at this;exact this h
theorem tJ {c:UInt8}{u:List UInt8}(h:c.toNat≠34):(iU (c::u)).2=false:=by
 cases hq:(iU (c::u)).2 with
 | false=>rfl
 | true=>
   have:=BQ hq;simp[first]at this;exact absurd this h
theorem qZ {c:UInt8}{u:List UInt8}(h:(bH c||bC c)=true):cR (c::u)=if u.all eZ=true then(⟨eK (c::u),c::u,0,0⟩,true)else(⟨0,[],0,0⟩,false):=by
 obtain⟨h1,h2,h3⟩:=E0 h;rw[iJ (show fO (c::u)=false from h1)];unfold mU;rw[tJ h2,if_neg (by decide)];have hw:isWord (c::u)=u.all eZ:=by show((bH c||bC c)&&u.all eZ)=_;rw[h,Bool.true_and]
 rw[hw]
 by_cases hu:u.all eZ=true
 . rw[if_pos hu,if_pos hu]
 rw[if_neg hu,if_neg hu];have hv:isVar (c::u)=false:=by
  cases u with
  | nil=>rfl
  | cons d u=>show(decide (c.toNat=39)&&_)=false;rw[decide_eq_false h3];rfl
 have hs:bk.contains (c::u)=false:=by
  cases hq:bk.contains (c::u)with
  | false=>rfl
  | true=>
    exfalso;have:∀x∈bk,(match x with | []=>false | a::_=>bH a||bC a)=false:=by decide
    have this:(bH c||bC c)=false:=this (c::u) (by simpa using hq);rw[h]at this;cases this
 rw[hv,hs];rfl
def mX (x:UInt8):Bool:= !decide (x.toNat=39)&&eZ x
theorem A1:∀x∈bk,first x 39=false/\x≠[]:=by decide
theorem E1 {c:UInt8}{u:List UInt8}(h:c.toNat=39):cR (c::u)=if isVar (c::u)=true then(⟨5,c::u,0,0⟩,true)else(⟨0,[],0,0⟩,false):=by
 obtain rfl:c=39:=UInt8.toNat_inj.1 h;rw[iJ rfl];unfold mU;rw[tJ (by decide),if_neg (by decide),show isWord (39::u)=false from rfl,if_neg (by decide)]
 by_cases hv:isVar (39::u)=true
 . rw[if_pos hv,if_pos hv]
 rw[if_neg hv,if_neg hv];have hs:bk.contains (39::u)=false:=by
  cases hq:bk.contains (39::u)with
  | false=>rfl
  | true=>exact absurd (A1 _ (by simpa using hq)).1 (by simp[first])
 rw[hs];rfl
theorem xB {c:UInt8}{u:List UInt8}(h1:bq c=false)(h2:c.toNat≠34)(h3:(bH c||bC c)=false)(h4:c.toNat≠39):cR (c::u)=if bk.contains (c::u)=true then(⟨7,c::u,0,0⟩,true)else(⟨0,[],0,0⟩,false):=by
 rw[iJ (show fO (c::u)=false from h1)];unfold mU;have hw:isWord (c::u)=false:=by show((bH c||bC c)&&u.all eZ)=_;rw[h3,Bool.false_and]
 have hv:isVar (c::u)=false:=by
  cases u with
  | nil=>rfl
  | cons d u=>show(decide (c.toNat=39)&&_)=false;rw[decide_eq_false h4];rfl
 rw[tJ h2,hw,hv];rfl
theorem E2 {c:UInt8}{u:List UInt8}(h:bq c=true):cR (c::u)=match fU 0 (c::u)with
 | some v=>(⟨1,[],(v:Int),0⟩,true)
 | none=>(⟨0,[],0,0⟩,false):=by
 have hn:c.toNat≠34/\c.toNat≠39:=by rw[gZ]at h;omega
 have hl:(bH c||bC c)=false:=by
  cases hq:(bH c||bC c)with
  | false=>rfl
  | true=>rw[(E0 hq).1]at h;cases h
 unfold cR kG;cases fU 0 (c::u)with
 | some v=>rw[if_pos (by simp)]
 | none=>
   rw[if_neg (by simp)];unfold mU;have hw:isWord (c::u)=false:=by show((bH c||bC c)&&u.all eZ)=_;rw[hl,Bool.false_and]
   have hv:isVar (c::u)=false:=by
    cases u with
    | nil=>rfl
    | cons d u=>show(decide (c.toNat=39)&&_)=false;rw[decide_eq_false hn.2];rfl
   have hs:bk.contains (c::u)=false:=by
    cases hq:bk.contains (c::u)with
    | false=>rfl
    | true=>
      have:=(AZ hq).1;simp only[fO]at this;rw[h]at this;cases this
   rw[tJ hn.1,hw,hv,hs];rfl
def fW:List UInt8->Bool
 | []=>false
 | c::_=>bH c
def xC (c:UInt8)(u:List UInt8):Option (Tok×Nat):=
 if c.toNat=34 then(qt (u.length+1) u).map λq=>(⟨2,q.1,0,0⟩,1+q.2)
 else if(bH c||bC c)=true then some (⟨eK (c::u.takeWhile eZ),c::u.takeWhile eZ,0,0⟩,1+(u.takeWhile eZ).length)
 else if c.toNat=39/\fW u=true then some (⟨5,(c::u).take (2+((u.drop 1).takeWhile mX).length),0,0⟩,2+((u.drop 1).takeWhile mX).length)
 else(bk.find? λs=>s.isPrefixOf (c::u)).map λs=>(⟨7,s,0,0⟩,s.length)
def xD (l:List UInt8):Option (Tok×Nat):=match fU 0 l with
 | some v=>some (⟨1,[],(v:Int),0⟩,l.length)
 | none=>none
def m9:List UInt8->Option (Tok×Nat)
 | []=>none
 | c::u=>if bq c=true then xD ((c::u).takeWhile bq)else xC c u
theorem g8 (c:UInt8)(u:List UInt8):m9 (c::u)=if bq c=true then xD ((c::u).takeWhile bq)else xC c u:=rfl
def mY (r:List UInt8):Nat->Option (Tok×Nat)
 | 0=>none
 | n+1=>if(cR (r.take (n+1))).2=true then some ((cR (r.take (n+1))).1,n+1)else mY r n
def HN (r:List UInt8):Option (Tok×Nat):=
 if 0<(r.takeWhile bq).length then(if(cR (r.take (r.takeWhile bq).length)).2=true then some ((cR (r.take (r.takeWhile bq).length)).1,(r.takeWhile bq).length)else none)
 else mY r r.length
theorem jV {r:List UInt8}{n:Nat}{t:Tok}(h0:0<n)(ht:cR (r.take n)=(t,true)):∀m,n<=m->(∀j,n<j->j<=m->(cR (r.take j)).2=false)->mY r m=some (t,n):=by
 intro m
 induction m with
 | zero=>intro h _;omega
 | succ m ih=>
   intro h hj;rw[mY]
   by_cases e:n=m+1
   . subst e;rw[ht,if_pos rfl]
   . rw[if_neg (by rw[hj (m+1) (by omega) (Nat.le_refl _)];decide)];exact ih (by omega) λj h1 h2=>hj j h1 (by omega)
theorem mn {r:List UInt8}:∀m,(∀j,0<j->j<=m->(cR (r.take j)).2=false)->mY r m=none:=by
 intro m
 induction m with
 | zero=>intro _;rfl
 | succ m ih=>
   intro hj;rw[mY,if_neg (by rw[hj (m+1) (by omega) (Nat.le_refl _)];decide)];exact ih λj h1 h2=>hj j h1 (by omega)
theorem fX {p:UInt8->Bool}:∀(l:List UInt8) (j:Nat),j<=l.length->((l.take j).all p=true↔j<=(l.takeWhile p).length)
 | [],j,h=>by simp at h;subst h;simp
 | a::l,0,h=>by simp
 | a::l,j+1,h=>by
   have ih:=fX (p:=p) l j (by simpa using h);rw[List.take_succ_cons,List.all_cons,List.takeWhile_cons];cases p a with
   | true=>simp only[Bool.true_and,if_true,List.length_cons];rw[ih];omega
   | false=>simp
theorem jW {p:UInt8->Bool}:∀l:List UInt8,l.take (l.takeWhile p).length=l.takeWhile p
 | []=>rfl
 | a::l=>by
   rw[List.takeWhile_cons];cases p a with
   | true=>simp only[if_true,List.length_cons,List.take_succ_cons];rw[jW l]
   | false=>rfl
theorem pK {p:UInt8->Bool}(l:List UInt8):(l.takeWhile p).length<=l.length:=by
 have:=congrArg List.length (jW (p:=p) l);rw[List.length_take]at this;omega
theorem xE:bk.Pairwise (λa b=>b.length<=a.length):=by decide
theorem LQ (r:List UInt8):HN r=m9 r:=by
 cases r with
 | nil=>rfl
 | cons c u=>
   unfold HN;rw[g8];cases hd:bq c with
   | true=>
     have e:(c::u).takeWhile bq=c::u.takeWhile bq:=by rw[List.takeWhile_cons,hd];rfl
     rw[if_pos rfl,jW,e,if_pos (show 0<(c::u.takeWhile bq).length by simp),E2 hd];unfold xD;cases fU 0 (c::u.takeWhile bq)with
     | some v=>rfl
     | none=>rfl
   | false=>
     have e:(c::u).takeWhile bq=[]:=by rw[List.takeWhile_cons,hd];rfl
     rw[e,if_neg (show ¬ 0<([]:List UInt8).length by decide),if_neg (by decide)];unfold xC;have htk:∀j,0<j->(c::u).take j=c::u.take (j-1):=λj hj=>by
      obtain⟨m,rfl⟩:∃m,j=m+1:=⟨j-1,by omega⟩;rfl
     by_cases h34:c.toNat=34
     . rw[if_pos h34];cases hq:qt (u.length+1) u with
       | some q=>
         obtain⟨o,m⟩:=q;have hle:=A0 hq;simp only at hle;refine jV (by omega) ?_ _ (by simp;omega) λj h1 h2=> ?_
         . rw[htk _ (by omega),show 1+m-1=m by omega];refine(pJ (g:=m) h34 (by simp;omega)).1 o ?_;have:=xA (f':=m) (s':=u.take m) (by simp;omega) hq (by rw[List.take_take,Nat.min_self]);rw[this,List.length_take,Nat.min_eq_left hle.2]
         . rw[htk _ (by omega)];refine(pJ (g:=u.length) h34 (by rw[List.length_take];omega)).2 λo' h=> ?_;rw[List.length_take,Nat.min_eq_left (by simp at h2;omega)]at h;have:=xA (f':=u.length+1) (s':=u) (by omega) h (by rw[List.take_take,Nat.min_self]);rw[hq]at this;cases this;omega
       | none=>
         refine mn _ λj h1 h2=> ?_;rw[htk _ h1];refine(pJ (g:=u.length) h34 (by rw[List.length_take];omega)).2 λo' h=> ?_;rw[List.length_take,Nat.min_eq_left (by simp at h2;omega)]at h;have:=xA (f':=u.length+1) (s':=u) (by omega) h (by rw[List.take_take,Nat.min_self]);rw[hq]at this;cases this
     rw[if_neg h34];cases hl:(bH c||bC c)with
     | true=>
       rw[if_pos rfl];have hle:=pK (p:=eZ) u;refine jV (by omega) ?_ _ (by simp;omega) λj h1 h2=> ?_
       . rw[htk _ (by omega),Nat.add_sub_cancel_left,qZ hl,if_pos ((fX _ _ hle).2 (Nat.le_refl _)),jW]
       . rw[htk _ (by omega),qZ hl,if_neg (λq=>by have:=(fX _ _ (by simp at h2;omega)).1 q;omega)]
     | false=>
       rw[if_neg (by decide)]
       by_cases h39:c.toNat=39
       . have hT:∀j,0<j->cR ((c::u).take j)=if isVar (c::u.take (j-1))=true then(⟨5,c::u.take (j-1),0,0⟩,true)else(⟨0,[],0,0⟩,false):=λj hj=>by rw[htk _ hj,E1 h39]
         by_cases hf:fW u=true
         . rw[if_pos ⟨h39,hf⟩];obtain⟨d,w,rfl⟩:∃d w,u=d::w:=by
            cases u with
            | nil=>cases hf
            | cons d w=>exact⟨d,w,rfl⟩
           have hd1:bH d=true:=hf;have hle:=pK (p:=mX) w;have hV:∀k,isVar (c::(d::w).take (k+1))=(w.take k).all mX:=λk=>by
            show(decide (c.toNat=39)&&(bH d&&_))=_;rw[decide_eq_true h39,hd1,Bool.true_and,Bool.true_and];rfl
           refine jV (by omega) ?_ _ (by simp;omega) λj h1 h2=> ?_
           . rw[hT _ (by omega),show 2+((List.drop 1 (d::w)).takeWhile mX).length-1=(w.takeWhile mX).length+1 from by show 2+(w.takeWhile mX).length-1=_;omega,hV,if_pos ((fX _ _ hle).2 (Nat.le_refl _))];rw[show(2+((List.drop 1 (d::w)).takeWhile mX).length)=(w.takeWhile mX).length+1+1 from by show 2+(w.takeWhile mX).length=_;omega];rfl
           . have h1':2+(w.takeWhile mX).length<j:=h1;rw[hT _ (by omega),show j-1=(j-2)+1 by omega,hV,if_neg (λq=>by have:=(fX _ _ (by simp at h2;omega)).1 q;omega)]
         . rw[if_neg (λq=>hf q.2)];have e1:(bk.find? λs=>s.isPrefixOf (c::u))=none:=by
            rw[List.find?_eq_none];intro x hx hp;obtain⟨h1,h2⟩:=A1 x hx;cases x with
            | nil=>exact h2 rfl
            | cons a x=>
              simp only[List.isPrefixOf,Bool.and_eq_true,beq_iff_eq]at hp;rw[hp.1]at h1;simp only[first,decide_eq_false_iff_not]at h1;exact h1 h39
           rw[e1];refine mn _ λj h1 h2=> ?_;rw[hT _ h1,if_neg];intro q;apply hf;cases hu:u.take (j-1)with
           | nil=>rw[hu]at q;cases q
           | cons d w=>
             have:bH d=true:=by
              rw[hu]at q;have q':(decide (c.toNat=39)&&(bH d&&_))=true:=q;simp only[Bool.and_eq_true]at q';exact q'.2.1
             cases u with
             | nil=>simp at hu
             | cons x w'=>
               have hx:x=d:=by
                cases hj:j-1 with
                | zero=>rw[hj]at hu;cases hu
                | succ k=>rw[hj]at hu;cases hu;rfl
               subst hx;assumption
       . rw[if_neg (λq=>h39 q.1)];have hT:∀j,0<j->cR ((c::u).take j)=if bk.contains ((c::u).take j)=true then(⟨7,(c::u).take j,0,0⟩,true)else(⟨0,[],0,0⟩,false):=λj hj=>by rw[htk _ hj,xB hd h34 hl h39]
         cases hs:bk.find? λs=>s.isPrefixOf (c::u)with
         | some s=>
           have hp:s <+: (c::u):=List.isPrefixOf_iff_prefix.1 (by simpa using List.find?_some hs);have hm:s∈bk:=List.mem_of_find?_eq_some hs;have h0:0<s.length:=by
            cases s with
            | nil=>exact absurd rfl (A1 _ hm).2
            | cons a s=>simp
           have ht:(c::u).take s.length=s:=(List.prefix_iff_eq_take.1 hp).symm;refine jV h0 ?_ _ hp.length_le λj h1 h2=> ?_
           . rw[hT _ h0,ht,if_pos (by simpa using hm)]
           . rw[hT _ (by omega),if_neg];intro q;have q:(c::u).take j∈bk:=by simpa using q
             obtain⟨hp2,al,bs,hab,hno⟩:=List.find?_eq_some_iff_append.1 hs;have hfall:=xE;rw[hab]at hfall q;have hjl:((c::u).take j).length=j:=by rw[List.length_take];omega
             rcases List.mem_append.1 q with h | h
             . have:=hno _ h;rw[List.isPrefixOf_iff_prefix.2 (List.take_prefix _ _)]at this;cases this
             . rcases List.mem_cons.1 h with h | h
               . rw[h]at hjl;omega
               . have:=(List.pairwise_cons.1 (List.pairwise_append.1 hfall).2.1).1 _ h;omega
         | none=>
           refine mn _ λj h1 h2=> ?_;rw[hT _ h1,if_neg];intro q;have:=List.find?_eq_none.1 hs _ (by simpa using q);exact this (List.isPrefixOf_iff_prefix.2 (List.take_prefix _ _))
section
variable {nx0 nx nx':Nat}{H0 H H':T OB}{F:List Bx}{b:Nat}{s:List UInt8}
abbrev tO (b:Nat)(s:List UInt8)(i:Nat):Bx:=(b,[aE s,i64 (i:Int)],95)
theorem e7 {i:Nat}(h:Hp nx0 H0 (tO b s i::F) H nx):ae P H 3 (some (.pointer (some ⟨b,1,none⟩)))=some (i64 (i:Int)):=ax (h.at_ 0 rfl) mJ rfl
theorem q_ {i:Nat}(h:Hp nx0 H0 (tO b s i::F) H nx):ae P H 9 (some (.pointer (some ⟨b,0,none⟩)))=some (aE s):=ax (h.at_ 0 rfl) mK rfl
abbrev VE (u:Value)(G:List Bx)(nx0:Nat)(H0:T OB):Go.Ev.Out->T OB->Nat->Prop:=λo H nx=>o= .ret u/\Hp nx0 H0 G H nx
theorem HO (hl:s.length<cY){i p:Nat}:∀(r:List UInt8) (j:Nat) (H:T OB) (nx:Nat),s.drop j=r->p<=j->j<=s.length->Hp nx0 H0 (tO b s i::F) H nx->
 aT P pl X0 (.jump (sy (ptr b) (i64 (p:Int)) (i64 (j:Int)) H nx)) nx0 H0 (VE (aE ((s.drop p).take (j-p+(r.takeWhile eZ).length))) (tO b s i::F) nx0 H0):=by
 intro r
 induction r with
 | nil=>
   intro j H nx hd hp hj h;have hil:=drop_nil hd hj;refine Wq.jmp (Dr ..) (λ_=>rfl) ?_;simp only[af,q_ h,aF _ aR,aK,show decide ((j:Int)<(s.length:Int))=false by simp;omega,cI aR hp hj];exact iS h
 | cons c r ih=>
   intro j H nx hd hp hj h;obtain⟨hg,hlt,hd'⟩:=drop_cons hd;have hin:=aW (P:=P) aR hg .i64;refine Wq.jmp (Dr ..) (λ_=>rfl) ?_;simp only[af,q_ h,aF _ aR,aK,aU hlt,hin];refine Hq.call (Ar c) h λH1 aJ h1=> ?_;cases hw:eZ c with
   | false=>
     simp only[af,q_ h1,cI aR hp hj];rw[List.takeWhile_cons,hw];exact iS h1
   | true=>
     simp only[af,aL (show j<9223372036854775807 by have:=db hl;omega)];rw[List.takeWhile_cons,hw,if_pos rfl,List.length_cons,show j-p+((r.takeWhile eZ).length+1)=j+1-p+(r.takeWhile eZ).length by omega];exact ih (j+1) H1 aJ hd' (by omega) (by omega) h1
theorem LS (hl:s.length<cY){i p:Nat}(hp:p<s.length)(h:Hp nx0 H0 (tO b s i::F) H nx):
 aT P pl X0 (a4 P pl (.call 102 [ptr b,i64 (p:Int)] false none H nx)) nx0 H0 (VE (aE ((s.drop p).take (1+((s.drop (p+1)).takeWhile eZ).length))) (tO b s i::F) nx0 H0):=by
 rw[O3];simp only[af,aL (show p<9223372036854775807 by have:=db hl;omega)];have:=HO (b:=b) (F:=F) (i:=i) hl (s.drop (p+1)) (p+1) H nx rfl (Nat.le_succ p) hp h;rwa[show p+1-p=1 by omega]at this
def fx (s:List UInt8)(d fr i:Nat):Bool×Nat:=
 if d=0 then((dF (s.drop i)).2,if(dF (s.drop i)).2=true then i+(dF (s.drop i)).1 else i+(dF (s.drop i)).1)
 else match eP d (s.drop i)with
  | none=>(false,fr)
  | some n=>((dF (s.drop (i+n))).2,i+n+(dF (s.drop (i+n))).1)
theorem iK (s:List UInt8)(fr i:Nat):fx s 0 fr i=((dF (s.drop i)).2,i+(dF (s.drop i)).1):=by
 unfold fx;rw[if_pos rfl];split<;>rfl
theorem iL (s:List UInt8){d:Nat}(hd:d≠0)(fr i:Nat):fx s d fr i=match eP d (s.drop i)with
 | none=>(false,fr)
 | some n=>((dF (s.drop (i+n))).2,i+n+(dF (s.drop (i+n))).1):=if_neg hd
theorem BV {i d fr:Nat}{t:List UInt8}(h:s.drop i=40::42::t):fx s d fr i=fx s (d+1) (if d=0 then i else fr) (i+2):=by
 have h2:s.drop (i+2)=t:=by rw[<- List.drop_drop,h];rfl
 have hdrop:∀n,s.drop (i+2+n)=t.drop n:=λn=>by rw[<- List.drop_drop,h2]
 rw[iL s (Nat.succ_ne_zero d),h2]
 by_cases d0:d=0
 . subst d0;rw[iK,h,vL,if_pos rfl];cases hc:eP 1 t with
   | none=>simp[hc]
   | some n=>
     simp only[Nat.zero_add,hc,hdrop];rw[show i+((dF (t.drop n)).1+(n+2))=i+2+n+(dF (t.drop n)).1 by omega]
 . rw[iL s d0,h,vN,if_neg d0];cases hc:eP (d+1) t with
   | none=>simp
   | some n=>simp only[Option.map_some,show i+(n+2)=i+2+n by omega]
theorem xF {i d fr:Nat}{t:List UInt8}(h:s.drop i=42::41::t)(hd:0<d):fx s d fr i=fx s (d-1) fr (i+2):=by
 have h2:s.drop (i+2)=t:=by rw[<- List.drop_drop,h];rfl
 rw[iL s (by omega),h,qX]
 by_cases d1:d=1
 . subst d1;rw[if_pos (by omega),iK]
 . rw[if_neg (by omega),iL s (by omega),h2];cases hc:eP (d-1) t with
   | none=>simp
   | some n=>simp only[Option.map_some,show i+(n+2)=i+2+n by omega]
theorem BW {i d fr:Nat}{c:UInt8}{r:List UInt8}(h:s.drop i=c::r)(a:¬(c=40/\r.head? = some 42))(e:¬(0<d/\c=42/\r.head? = some 41))(w:0<d\/ws c=true):fx s d fr i=fx s d fr (i+1):=by
 have hr:s.drop (i+1)=r:=by rw[<- List.drop_drop,h];rfl
 by_cases d0:d=0
 . subst d0;rw[iK,iK,h,hr,EU (w.resolve_left (by omega))];simp only;rw[show i+((dF r).1+1)=i+1+(dF r).1 by omega]
 . rw[iL s d0,iL s d0,h,hr,qY a (λq=>e ⟨by omega,q⟩)];cases hc:eP d r with
   | none=>simp
   | some n=>simp only[Option.map_some,show i+(n+1)=i+1+n by omega]
theorem BX {i fr:Nat}{c:UInt8}{r:List UInt8}(h:s.drop i=c::r)(a:¬(c=40/\r.head? = some 42))(w:¬ws c=true):fx s 0 fr i=(true,i):=by
 rw[iK,h,vM w a];rfl
theorem E3 {i d fr:Nat}(h:s.length<=i):fx s d fr i=if d=0 then(true,i)else(false,fr):=by
 have hn:s.drop i=[]:=List.drop_eq_nil_of_le h
 by_cases d0:d=0
 . subst d0;rw[iK,hn,if_pos rfl];simp[dF]
 . rw[iL s d0,hn,if_neg d0];simp[eP]
abbrev L9 (b:Nat)(s:List UInt8)(F:List Bx)(nx0:Nat)(H0:T OB)(q:Bool×Nat):Go.Ev.Out->T OB->Nat->Prop:=VE (.bool q.1) (tO b s q.2::F) nx0 H0
theorem E4 (hl:s.length<cY):∀(m i d fr:Nat) (H:T OB) (nx:Nat),s.length-i<=m->i<=s.length->d<=i->fr<=s.length->Hp nx0 H0 (tO b s i::F) H nx->
 aT P pl X0 (.jump (qO (ptr b) (i64 (d:Int)) (i64 (fr:Int)) H nx)) nx0 H0 (L9 b s F nx0 H0 (fx s d fr i)):=by
 have hbig:cY=1125899906842624:=rfl;intro m
 induction m with
 | zero=>
   intro i d fr H nx hm hi hd hfr h;have hil:i=s.length:=by omega
   refine Wq.jmp (IS ..) (λ_=>rfl) ?_;simp only[af,e7 h,q_ h,aF _ aR,aK,show decide ((i:Int)<(s.length:Int))=false by simp;omega];rw[E3 (by omega)];refine Wq.ite (λh0=> ?_) (λh0=> ?_)
   . rw[if_neg (by omega)];refine Hq.put [] h js rfl rfl (by simp) rfl λH2 h2=> ?_;refine Wq.jmp (Dj ..) (λ_=>rfl) ?_;simp only[af,show decide ((d:Int)=0)=false by simp;omega];exact iS h2
   . rw[if_pos (by omega)];refine Wq.jmp (Dj ..) (λ_=>rfl) ?_;simp only[af,show decide ((d:Int)=0)=true by simp;omega];exact iS h
 | succ m ih=>
   intro i d fr H nx hm hi hd hfr h
   by_cases hlt:i<s.length
   case neg=>exact ih i d fr H nx (by omega) hi hd hfr h
   obtain⟨c,r,hdr⟩:∃c r,s.drop i=c::r:=by
    cases hq:s.drop i with
    | nil=>have:=drop_nil hq hi;omega
    | cons c r=>exact⟨c,r,rfl⟩
   obtain⟨hg,_,hd'⟩:=drop_cons hdr;have hin:=aW (P:=P) aR hg .i64;have hrl:r.length=s.length-(i+1):=by rw[<- hd',List.length_drop]
   have hu:∀n:Nat,n<256->(decide ((c.toNat:Int)=(n:Int))=decide (c=UInt8.ofNat n)):=λn hn=>by
    rw[decide_eq_decide,<- UInt8.toNat_inj,UInt8.toNat_ofNat',Nat.mod_eq_of_lt hn];omega
   have L18:∀tw:List UInt8,(∀x y,tw=[x,y]↔c=x/\r.head? = some y)->aT P pl X0 (.jump (si (ptr b) (i64 (d:Int)) (i64 (fr:Int)) (b8 c) (aE tw) H nx)) nx0 H0 (L9 b s F nx0 H0 (fx s d fr i)):=by
    intro tw htw;refine Wq.jmp (Kr ..) (λ_=>rfl) ?_;simp only[af,e_];refine Wq.ite (λa=> ?_) (λa=> ?_)
    . have a:=(htw _ _).1 a;obtain⟨t,ht⟩:=lE a.2;rw[a.1,ht]at hdr;have hl2:i+2<=s.length:=by
       have:=congrArg List.length hdr;rw[List.length_drop]at this;simp at this;omega
      rw[BV hdr];have L24:∀fr':Nat,fr'<=s.length->aT P pl X0 (.jump (sj (ptr b) (i64 (d:Int)) (i64 (fr':Int)) H nx)) nx0 H0 (L9 b s F nx0 H0 (fx s (d+1) fr' (i+2))):=by
       intro fr' hfr';refine Wq.jmp (Ks ..) (λ_=>rfl) ?_;have e2:IntKind.i64.wrap ((i:Int)+2)=((i+2:Nat):Int):=by rw[a7 (by omega)];omega
       simp only[af,e7 h,e2,aL (show d<9223372036854775807 by omega)];refine Hq.put [] h js rfl rfl (by simp) rfl λH2 h2=> ?_;exact ih (i+2) (d+1) fr' H2 nx (by omega) hl2 (by omega) hfr' h2
      refine Wq.ite (λd0=> ?_) (λd0=> ?_)
      . rw[if_pos (by omega)];simp only[af,e7 h];exact L24 i hi
      . rw[if_neg (by omega)];exact L24 fr hfr
    have a:¬(c=40/\r.head? = some 42):=λq=>a ((htw _ _).2 q);have L30:∀x:Bool,x=decide (0<d/\c=42/\r.head? = some 41)->aT P pl X0 (.jump (sk (ptr b) (i64 (d:Int)) (i64 (fr:Int)) (b8 c) x H nx)) nx0 H0 (L9 b s F nx0 H0 (fx s d fr i)):=by
     intro x hx;refine Wq.jmp (Ku ..) (λ_=>rfl) ?_;cases x with
     | true=>
       have e:=of_decide_eq_true hx.symm;obtain⟨t,ht⟩:=lE e.2.2;rw[e.2.1,ht]at hdr;have hl2:i+2<=s.length:=by
        have:=congrArg List.length hdr;rw[List.length_drop]at this;simp at this;omega
       rw[xF hdr e.1];have e1:IntKind.i64.wrap ((d:Int)-1)=((d-1:Nat):Int):=by rw[a7 (by omega)];omega
       have e2:IntKind.i64.wrap ((i:Int)+2)=((i+2:Nat):Int):=by rw[a7 (by omega)];omega
       simp only[af,e7 h,e1,e2];refine Hq.put [] h js rfl rfl (by simp) rfl λH2 h2=> ?_;exact ih (i+2) (d-1) fr H2 nx (by omega) hl2 (by omega) hfr h2
     | false=>
       have e:¬(0<d/\c=42/\r.head? = some 41):=of_decide_eq_false hx.symm;have L36:∀y:Bool,(y=true↔(0<d\/ws c=true))->aT P pl X0 (.jump (kz (ptr b) (i64 (d:Int)) (i64 (fr:Int)) y H nx)) nx0 H0 (L9 b s F nx0 H0 (fx s d fr i)):=by
        intro y hy;refine Wq.jmp (Kv ..) (λ_=>rfl) ?_;cases y with
        | true=>
          rw[BW hdr a e (hy.1 rfl)];simp only[af,e7 h,aL (show i<9223372036854775807 by omega)];refine Hq.put [] h js rfl rfl (by simp) rfl λH2 h2=> ?_;exact ih (i+1) d fr H2 nx (by omega) hlt (by omega) hfr h2
        | false=>
          have w:¬(0<d\/ws c=true):=λq=>by have:=hy.2 q;cases this
          obtain rfl:d=0:=by omega
          rw[BX hdr a (λq=>w (.inr q))];exact iS h
       simp only[af];have hws:ws c=(decide (c=9)||(decide (c=10)||(decide (c=13)||decide (c=32)))):=by
        unfold ws;rw[Bool.or_assoc,Bool.or_assoc];rfl
       refine Wq.ite (λh0=>L36 _ (by simp;omega)) (λh0=> ?_);have hd0:¬ 0<d:=by omega
       have h9:decide ((c.toNat:Int)=9)=decide (c=9):=hu 9 (by decide);have h10:decide ((c.toNat:Int)=10)=decide (c=10):=hu 10 (by decide);have h13:decide ((c.toNat:Int)=13)=decide (c=13):=hu 13 (by decide);have h32:decide ((c.toNat:Int)=32)=decide (c=32):=hu 32 (by decide);rw[h9,h10,h13,h32];refine Wq.ite (λq=>L36 _ (by rw[hws,decide_eq_true q];simp)) (λq1=> ?_);refine Wq.ite (λq=>L36 _ (by rw[hws,decide_eq_true q];simp)) (λq2=> ?_);refine Wq.ite (λq=>L36 _ (by rw[hws,decide_eq_true q];simp)) (λq3=> ?_);exact L36 _ (by rw[hws,decide_eq_false q1,decide_eq_false q2,decide_eq_false q3];simp[hd0])
    refine Wq.ite (λd0=> ?_) (λd0=> ?_)
    . refine L30 _ ?_;rw[decide_eq_decide,htw];have:0<d:=by omega
      simp[this]
    . exact L30 _ (by rw[decide_eq_false (λq=>d0 (by have:=q.1;omega))])
   refine Wq.jmp (IS ..) (λ_=>rfl) ?_;simp only[af,e7 h,q_ h,aF _ aR,aK,aU hlt,hin,aL (show i<9223372036854775807 by omega)];have e2:IntKind.i64.wrap ((i:Int)+2)=((i+2:Nat):Int):=by rw[a7 (by omega)];omega
   refine Wq.ite (λhl2=> ?_) (λhl2=> ?_)
   . have hl2:i+2<=s.length:=by omega
     simp only[af,e7 h,q_ h,e2,cI aR (show i<=i+2 by omega) hl2];rw[hdr,show i+2-i=2 by omega];refine L18 _ λx y=> ?_;cases r with
     | nil=>simp at hrl;omega
     | cons e t=>simp
   . refine L18 [] λx y=> ?_;cases r with
     | nil=>simp
     | cons e t=>simp at hrl;omega
theorem Oi (hl:s.length<cY){i:Nat}(hi:i<=s.length)(h:Hp nx0 H0 (tO b s i::F) H nx):
 aT P pl X0 (a4 P pl (.call 51 [ptr b] false none H nx)) nx0 H0 (L9 b s F nx0 H0 ((dF (s.drop i)).2,i+(dF (s.drop i)).1)):=by
 rw[QW,<- iK s 0];exact E4 hl s.length i 0 0 H nx (Nat.sub_le _ _) hi (Nat.zero_le _) (Nat.zero_le _) h
end
section
variable {nx0 nx nx':Nat}{H0 H H':T OB}{F:List Bx}{b:Nat}{s:List UInt8}
theorem HP (n:Int):aC P 31 (some [(3,i64 n)])=some (.agg ⟨[i64 0,aE [],i64 0,i64 n]⟩):=a_ bR (by kernel_rfl)
theorem Oj {j:Nat}{x:List UInt8}(hx:bk[j]? = some x):aH P 99 (some (.agg ⟨bk.map aE⟩)) (some (i64 (j:Int)))=some (aE x):=by
 have hj:j<22:=(List.getElem?_eq_some_iff.1 hx).1;show gb (j:Int) (Fi P 99 (bk.map aE)) none=_;rw[ek];unfold Fi;rw[show P.underlying 99=some (.array 22 9)from by kernel_rfl];simp only[show Nat.blt j 22=true from Nat.ble_eq_true_of_le hj,cond_true,mK,iC,Nat.mul_one,List.getElem?_map,hx,Option.map_some]
theorem aT.BH {p:Prop}[Decidable p]{R:Go.Ev.Out->T OB->Nat->Prop}{x y:Q}(h:¬p->aT P pl X0 x nx0 H0 R)(h':p->aT P pl X0 y nx0 H0 R):aT P pl X0 (Ev.bK (!decide p) x y) nx0 H0 R:=
 Wq.bK (λq=>h (by simpa using q)) (λq=>h' (by simpa using q))
def Qr (q:Option (Tok×Nat))(i:Nat)(t:Tok)(n:Nat):Prop:=match q with
 | some q=>t=⟨q.1.k,q.1.s,q.1.n,(i:Int)⟩/\n=q.2
 | none=>n=0
abbrev LU (b:Nat)(s:List UInt8)(i:Nat)(F:List Bx)(nx0:Nat)(H0:T OB):Go.Ev.Out->T OB->Nat->Prop:=λo H nx=>∃(t:Tok) (n:Nat),o= .ret (.tuple ⟨[t.v,i64 (n:Int)]⟩)/\Qr (m9 (s.drop i)) i t n/\Hp nx0 H0 (tO b s i::F) H nx
theorem ka {i n b0 b1:Nat}{t:Tok}{l:List Value}(hl:l.length=4)(ht:Qr (m9 (s.drop i)) i t n)(h:Hp nx0 H0 (tO b s i::(b1,t.c,31)::(b0,l,31)::F) H nx):
 aT P pl X0 (aa (ae P H 31 (some (ptr b1))) (λx0=>ao (aj P H nx 31 (some (ptr b0)) (some x0)) (λx1 H nx=>aa (ae P H 31 (some (ptr b0))) (λx2=> .ret ⟨.ret (.tuple ⟨[x2,i64 (n:Int)]⟩),false,H,nx⟩) .bad)) .bad) nx0 H0 (LU b s i F nx0 H0):=by
 simp only[af,BI (h.at_ 1 rfl)];refine Hq.store [_,_] h ch (by rw[hl];decide) rfl rfl λH2 h2=> ?_;have e:gk l t.v.cells.toList 0=t.c:=by
  obtain⟨a0,a1,a2,a3,rfl⟩:∃a0 a1 a2 a3,l=[a0,a1,a2,a3]:=by
   match l with
   | [a0,a1,a2,a3]=>exact⟨a0,a1,a2,a3,rfl⟩
  rfl
 rw[e]at h2;simp only[af,BI (h2.at_ 2 rfl)];exact Wq.kr h2.ag ⟨t,n,rfl,ht,h2.lx.lx⟩
theorem E5 {l x:List UInt8}(h:x.length<=l.length):decide (l.take x.length=x)=x.isPrefixOf l:=by
 rw[Bool.eq_iff_iff,decide_eq_true_eq,List.isPrefixOf_iff_prefix,List.prefix_iff_eq_take];exact eq_comm
theorem HQ (hl:s.length<cY){i b0 b1:Nat}{l0:List Value}(hi:i<=s.length)(hl0:l0.length=4)(hlex:m9 (s.drop i)=(bk.find? λx=>x.isPrefixOf (s.drop i)).map λx=>(⟨7,x,0,0⟩,x.length)):
 ∀(l:List (List UInt8)) (j:Nat) (H:T OB) (nx:Nat),bk.drop j=l->j<=22->(bk.find? λx=>x.isPrefixOf (s.drop i))=l.find? (λx=>x.isPrefixOf (s.drop i))->
 Hp nx0 H0 (tO b s i::(b1,[i64 0,aE [],i64 0,i64 (i:Int)],31)::(b0,l0,31)::F) H nx->
 aT P pl X0 (.jump (sq (ptr b) (ptr b0) (ptr b1) (i64 0) (.agg ⟨bk.map aE⟩) (i64 (j:Int)) H nx)) nx0 H0 (LU b s i F nx0 H0):=by
 have hbig:cY=1125899906842624:=rfl;intro l
 induction l with
 | nil=>
   intro j H nx hd hj hf h;have hj2:j=22:=drop_nil hd hj;refine Wq.jmp (Dl ..) (λ_=>rfl) ?_;simp only[af,show decide ((j:Int)<22)=false by simp;omega];exact ka (n:=0) (t:=⟨0,[],0,(i:Int)⟩) hl0 (by rw[hlex,hf];rfl) h
 | cons x l ih=>
   intro j H nx hd hj hf h;obtain⟨hg,hlt,hd'⟩:=drop_cons hd;have hlt:j<22:=hlt;have hxl:∀x∈bk,1<=x.length/\x.length<=2:=by decide
   have hx:=hxl x (List.mem_of_getElem? hg);have L18:∀y:Bool,y=x.isPrefixOf (s.drop i)->aT P pl X0 (.jump (sr (ptr b) (ptr b0) (ptr b1) (i64 0) (aE x) (.agg ⟨bk.map aE⟩) (i64 (j:Int)) y H nx)) nx0 H0 (LU b s i F nx0 H0):=by
    intro y hy;refine Wq.jmp (Ky ..) (λ_=>rfl) ?_;rw[List.find?_cons,<- hy]at hf;cases y with
    | true=>
      simp only[af,aF _ aR,aK];refine Hq.put [_] h js rfl rfl (by simp) rfl λH2 h2=> ?_;refine Hq.put [_] h2 iC rfl rfl (by simp) rfl λH3 h3=> ?_;exact ka (t:=⟨7,x,0,(i:Int)⟩) hl0 (by rw[hlex,hf];exact⟨rfl,rfl⟩) h3
    | false=>
      simp only[af,aL (show j<9223372036854775807 by omega)];exact ih (j+1) H nx hd' (by omega) hf h
   refine Wq.jmp (Dl ..) (λ_=>rfl) ?_;have e1:IntKind.i64.wrap ((s.length:Int)-(i:Int))=((s.length-i:Nat):Int):=by rw[a7 (by omega)];omega
   simp only[af,show decide ((j:Int)<22)=true by simp;omega,Oj hg,aF _ aR,aK,e7 h,q_ h,e1];refine Wq.ite (λhle=> ?_) (λhle=> ?_)
   . have hle:i+x.length<=s.length:=by omega
     have e2:IntKind.i64.wrap ((i:Int)+(x.length:Int))=((i+x.length:Nat):Int):=by rw[a7 (by omega)];omega
     simp only[af,e7 h,q_ h,aF _ aR,aK,e2,cI aR (Nat.le_add_right i x.length) hle,e_,Nat.add_sub_cancel_left];refine L18 _ ?_;exact E5 (by rw[List.length_drop];omega)
   . refine L18 _ ?_;cases hq:x.isPrefixOf (s.drop i)with
     | false=>rfl
     | true=>
       have:=(List.isPrefixOf_iff_prefix.1 hq).length_le;rw[List.length_drop]at this;omega
theorem HS (hl:s.length<cY){i b0 b1:Nat}{l0:List Value}{c d:UInt8}{w:List UInt8}(hdr:s.drop i=c::d::w)(hl0:l0.length=4)
 (hlex:m9 (s.drop i)=some (⟨5,(c::d::w).take (2+(w.takeWhile mX).length),0,0⟩,2+(w.takeWhile mX).length)):
 ∀(r:List UInt8) (n:Nat) (H:T OB) (nx:Nat),s.drop (i+n)=r->2<=n->i+n<=s.length->n+(r.takeWhile mX).length=2+(w.takeWhile mX).length->
 Hp nx0 H0 (tO b s i::(b1,[i64 0,aE [],i64 0,i64 (i:Int)],31)::(b0,l0,31)::F) H nx->
 aT P pl X0 (.jump (so (ptr b) (ptr b0) (ptr b1) (i64 (n:Int)) H nx)) nx0 H0 (LU b s i F nx0 H0):=by
 have hbig:cY=1125899906842624:=rfl;intro r
 induction r with
 | nil=>
   intro n H nx hd hn hin he h;have hil:=drop_nil hd hin;have e2:IntKind.i64.wrap ((i:Int)+(n:Int))=((i+n:Nat):Int):=by rw[a7 (by omega)];omega
   refine Wq.jmp (Dk ..) (λ_=>rfl) ?_;simp only[af,e7 h,q_ h,aF _ aR,aK,e2,show decide (((i+n:Nat):Int)<(s.length:Int))=false by simp;omega,cI aR (Nat.le_add_right i n) hin];refine Hq.put [_] h js rfl rfl (by simp) rfl λH2 h2=> ?_;simp only[af,e7 h2,q_ h2,e2,cI aR (Nat.le_add_right i n) hin,bf];refine Hq.put [_] h2 iC rfl rfl (by simp) rfl λH3 h3=> ?_;refine ka (t:=⟨5,(s.drop i).take (i+n-i),0,(i:Int)⟩) hl0 ?_ h3;rw[hlex,hdr,Nat.add_sub_cancel_left];rw[List.takeWhile_nil,List.length_nil,Nat.add_zero]at he;rw[he];exact⟨rfl,rfl⟩
 | cons x r ih=>
   intro n H nx hd hn hin he h;obtain⟨hg,hlt,hd'⟩:=drop_cons hd;have hix:=aW (P:=P) aR hg .i64;have e2:IntKind.i64.wrap ((i:Int)+(n:Int))=((i+n:Nat):Int):=by rw[a7 (by omega)];omega
   have stop:mX x=false->n=2+(w.takeWhile mX).length:=λq=>by
    rw[List.takeWhile_cons,q]at he;simpa using he
   refine Wq.jmp (Dk ..) (λ_=>rfl) ?_;simp only[af,e7 h,q_ h,aF _ aR,aK,e2,aU hlt,hix];have e39:decide ((x.toNat:Int)=39)=decide (x.toNat=39):=by rw[decide_eq_decide];omega
   rw[e39];refine _root_.Go.Proofs.YthjhonhhbddhkaaGreatDoor.aT.BH (λh39=> ?_) (λh39=> ?_)
   . refine Hq.call (Ar x) h λH1 aJ h1=> ?_;have hT:mX x=eZ x:=by unfold mX;rw[decide_eq_false h39];rfl
     cases hw:eZ x with
     | true=>
       simp only[af,aL (show n<9223372036854775807 by omega)];refine ih (n+1) H1 aJ hd' (by omega) (by omega) ?_ h1;rw[List.takeWhile_cons,hT,hw]at he;simp only[if_true,List.length_cons]at he;omega
     | false=>
       have hn2:=stop (by rw[hT,hw]);simp only[af,e7 h1,q_ h1,e2,cI aR (Nat.le_add_right i n) hin];refine Hq.put [_] h1 js rfl rfl (by simp) rfl λH2 h2=> ?_;simp only[af,e7 h2,q_ h2,e2,cI aR (Nat.le_add_right i n) hin,bf];refine Hq.put [_] h2 iC rfl rfl (by simp) rfl λH3 h3=> ?_;refine ka (t:=⟨5,(s.drop i).take (i+n-i),0,(i:Int)⟩) hl0 ?_ h3;rw[hlex,hdr,Nat.add_sub_cancel_left,hn2];exact⟨rfl,rfl⟩
   . have hn2:=stop (by unfold mX;rw[decide_eq_true h39];rfl);simp only[af,e7 h,q_ h,e2,cI aR (Nat.le_add_right i n) hin];refine Hq.put [_] h js rfl rfl (by simp) rfl λH2 h2=> ?_;simp only[af,e7 h2,q_ h2,e2,cI aR (Nat.le_add_right i n) hin,bf];refine Hq.put [_] h2 iC rfl rfl (by simp) rfl λH3 h3=> ?_;refine ka (t:=⟨5,(s.drop i).take (i+n-i),0,(i:Int)⟩) hl0 ?_ h3;rw[hlex,hdr,Nat.add_sub_cancel_left,hn2];exact⟨rfl,rfl⟩
theorem Ok (hl:s.length<=1000000){i:Nat}(hi:i<s.length)(h:Hp nx0 H0 (tO b s i::F) H nx):aT P pl X0 (a4 P pl (.call 52 [ptr b] false none H nx)) nx0 H0 (LU b s i F nx0 H0):=by
 have hbig:cY=1125899906842624:=rfl;have hlb:s.length<cY:=by omega
 obtain⟨c,u,hdr⟩:∃c u,s.drop i=c::u:=by
  cases hq:s.drop i with
  | nil=>have:=drop_nil hq (by omega);omega
  | cons c r=>exact⟨c,r,rfl⟩
 obtain⟨hg,_,hd'⟩:=drop_cons hdr;have hin:=aW (P:=P) aR hg .i64;have hul:u.length=s.length-(i+1):=by rw[<- hd',List.length_drop]
 have hP:=g8 c u;rw[<- hdr]at hP;have hc:=c.toNat_lt;rw[QX];refine Hq.alloc bR h λb0 H1 aJ h1=> ?_;simp only[af,e7 h1,q_ h1,hin,HP];refine Hq.alloc bR h1 λb1 H2 nx2 h2=> ?_;refine Hq.store [_] h2 ch (by simp) rfl rfl λH3 h3=> ?_;replace h3:Hp nx0 H0 (tO b s i::(b1,[i64 0,aE [],i64 0,i64 (i:Int)],31)::(b0,[i64 0,aE [],i64 0,i64 0],31)::F) H3 nx2:=h3;refine Hq.call (Aq c) h3 λH4 nx4 h4=> ?_;cases hdg:bq c with
 | true=>
   rw[if_pos hdg]at hP;simp only[af];refine Hq.put [_] h4 js rfl rfl (by simp) rfl λH5 h5=> ?_;simp only[af,e7 h5,q_ h5,cZ (show i<=s.length by omega)];refine Hq.call (LM (s.drop i) (by rw[List.length_drop];omega)) h5 λH6 nx6 h6=> ?_;unfold Ff;unfold xD at hP;rw[hdr]at hP ⊢;cases hN:fU 0 ((c::u).takeWhile bq)with
   | some v=>
     rw[hN]at hP;simp only[Nat.zero_add];refine Hq.put [_] h6 MC rfl rfl (by simp) rfl λH7 h7=> ?_;refine Wq.jmp (ss ..) (λ_=>rfl) ?_;exact ka (t:=⟨1,[],(v:Int),(i:Int)⟩) rfl (by rw[hdr,hP];exact⟨rfl,rfl⟩) h7
   | none=>
     rw[hN]at hP;simp only[af];refine Hq.put [_] h6 MC rfl rfl (by simp) rfl λH7 h7=> ?_;refine Wq.jmp (ss ..) (λ_=>rfl) ?_;exact ka (n:=0) (t:=⟨1,[],0,(i:Int)⟩) rfl (by rw[hdr,hP];rfl) h7
 | false=>
   rw[if_neg (by rw[hdg];decide)]at hP;unfold xC at hP;simp only[af];refine Wq.ite (λh34=> ?_) (λh34=> ?_)
   . rw[if_pos (by omega)]at hP;refine Hq.put [_] h4 js rfl rfl (by simp) rfl λH5 h5=> ?_;simp only[af,e7 h5,q_ h5,cZ (show i<=s.length by omega)];refine Hq.call (LN (s.drop i) (by rw[List.length_drop];omega) (by rw[List.length_drop];omega)) h5 λH6 nx6 h6=> ?_;have e:qt (s.drop i).length ((s.drop i).drop 1)=qt (u.length+1) u:=by rw[hdr];rfl
     rw[e];cases hN:qt (u.length+1) u with
     | some v=>
       rw[hN]at hP;unfold HK;simp only[af,List.nil_append];refine Hq.put [_] h6 iC rfl rfl (by simp) rfl λH7 h7=> ?_;refine Wq.jmp (ss ..) (λ_=>rfl) ?_;exact ka (t:=⟨2,v.1,0,(i:Int)⟩) rfl (by rw[hP];exact⟨rfl,rfl⟩) h7
     | none=>
       rw[hN]at hP;unfold HK;simp only[af];refine Hq.put [_] h6 iC rfl rfl (by simp) rfl λH7 h7=> ?_;refine Wq.jmp (ss ..) (λ_=>rfl) ?_;exact ka (n:=0) (t:=⟨2,[],0,(i:Int)⟩) rfl (by rw[hP];rfl) h7
   rw[if_neg (by omega)]at hP;have L38:∀(x:Bool) H5 nx5,x=(bH c||bC c)->Hp nx0 H0 (tO b s i::(b1,[i64 0,aE [],i64 0,i64 (i:Int)],31)::(b0,[i64 0,aE [],i64 0,i64 0],31)::F) H5 nx5->
    aT P pl X0 (.jump (sn (ptr b) (ptr b0) (b8 c) (ptr b1) (i64 0) x H5 nx5)) nx0 H0 (LU b s i F nx0 H0):=by
    intro x H5 nx5 hx h5;refine Wq.jmp (Kw ..) (λ_=>rfl) ?_;rw[<- hx]at hP;cases x with
    | true=>
      rw[if_pos rfl]at hP;simp only[af,e7 h5];have e:(s.drop i).take (1+((s.drop (i+1)).takeWhile eZ).length)=c::u.takeWhile eZ:=by
       rw[hdr,hd',Nat.add_comm,List.take_succ_cons,jW]
      have h102:=LS hlb hi h5;rw[e]at h102;refine Sq.jB rfl h102 λH6 nx6 h6=> ?_;refine Hq.put [_] h6 iC rfl rfl (by simp) rfl λH7 h7=> ?_;simp only[af,ax (off:=1) (u:=aE (c::u.takeWhile eZ)) (h7.at_ 1 rfl) mK rfl];refine Hq.po (I2 c (u.takeWhile eZ)) h7 λH8 nx8 h8=> ?_;refine Hq.put [_] h8 js rfl rfl (by simp) rfl λH9 h9=> ?_;simp only[af,ax (off:=1) (u:=aE (c::u.takeWhile eZ)) (h9.at_ 1 rfl) mK rfl,aF _ aR,aK];exact ka (t:=⟨eK (c::u.takeWhile eZ),c::u.takeWhile eZ,0,(i:Int)⟩) rfl (by rw[hP];exact⟨rfl,by rw[List.length_cons,Nat.add_comm]⟩) h9
    | false=>
      rw[if_neg (by decide)]at hP;have L46:∀(y:Bool) H5 nx5,(y=true↔(c.toNat=39/\fW u=true))->Hp nx0 H0 (tO b s i::(b1,[i64 0,aE [],i64 0,i64 (i:Int)],31)::(b0,[i64 0,aE [],i64 0,i64 0],31)::F) H5 nx5->
       aT P pl X0 (.jump (pc (ptr b) (ptr b0) (ptr b1) (i64 0) y H5 nx5)) nx0 H0 (LU b s i F nx0 H0):=by
       intro y H5 nx5 hy h5;refine Wq.jmp (Kx ..) (λ_=>rfl) ?_;cases y with
       | true=>
         have hc2:=hy.1 rfl;rw[if_pos hc2]at hP;obtain⟨d,w,rfl⟩:∃d w,u=d::w:=by
          cases u with
          | nil=>cases hc2.2
          | cons d w=>exact⟨d,w,rfl⟩
         simp only[List.length_cons]at hul;refine HS hlb hdr rfl hP (s.drop (i+2)) 2 H5 nx5 rfl (Nat.le_refl _) (by omega) ?_ h5;have:s.drop (i+2)=w:=by rw[<- List.drop_drop,hdr];rfl
         rw[this]
       | false=>
         rw[if_neg (λq=>by have:=hy.2 q;cases this)]at hP;simp only[af];rw[w9 ((h5.sZ.ag h5.ag).I1) Ke MG rfl];simp only[af];rw[<- hdr]at hP;exact HQ hlb (by omega) rfl hP bk 0 H5 nx5 rfl (by omega) rfl h5
      simp only[af];refine Wq.ite (λh39=> ?_) (λh39=>L46 _ _ _ (by simp;omega) h5);simp only[af,e7 h5,q_ h5,aF _ aR,aK,aL (show i<9223372036854775807 by omega)];refine Wq.ite (λhi2=> ?_) (λhi2=>L46 _ _ _ ?_ h5)
      . obtain⟨d,w,rfl⟩:∃d w,u=d::w:=by
         cases u with
         | nil=>simp at hul;omega
         | cons d w=>exact⟨d,w,rfl⟩
        have hg2:=(drop_cons hd').1;simp only[af,e7 h5,q_ h5,aL (show i<9223372036854775807 by omega),aW aR hg2];refine Hq.call (vi d) h5 λH6 nx6 h6=> ?_;simp only[af];refine L46 _ _ _ ?_ h6;show bH d=true↔_/\bH d=true;exact⟨λq=>⟨by omega,q⟩,λq=>q.2⟩
      . cases u with
        | nil=>simp[fW]
        | cons d w=>simp at hul;omega
   refine Hq.call (vi c) h4 λH5 nx5 h5=> ?_;cases hlow:bH c with
   | true=>
     simp only[af];exact L38 _ _ _ (by rw[hlow];rfl) h5
   | false=>
     simp only[af];refine Hq.call (Ap c) h5 λH6 nx6 h6=> ?_;simp only[af];exact L38 _ _ _ (by rw[hlow];rfl) h6
end
section
variable {nx0 nx nx':Nat}{H0 H H':T OB}{F G:List Bx}{b:Nat}{s:List UInt8}
def fy (s:List UInt8):Nat->List Tok->Nat->List Tok×Nat×Int
 | 0,_,i=>([],i,70)
 | m+1,out,i=>if(dF (s.drop i)).2=false then([],i+(dF (s.drop i)).1,70)
   else if s.length<=i+(dF (s.drop i)).1 then(out++[⟨0,[],0,(s.length:Int)⟩],0,0)
   else match m9 (s.drop (i+(dF (s.drop i)).1))with
    | none=>([],i+(dF (s.drop i)).1,70)
    | some q=>if 1000<=out.length then([],i+(dF (s.drop i)).1,3)
      else fy s m (out++[⟨q.1.k,q.1.s,q.1.n,((i+(dF (s.drop i)).1:Nat):Int)⟩]) (i+(dF (s.drop i)).1+q.2)
def scan (s:List UInt8):List Tok×Nat×Int:=if 4096<s.length then([],0,3)else fy s (s.length+1) [] 0
abbrev lG (q:List Tok×Nat×Int):Value:= .tuple ⟨[fQ q.1,i64 (q.2.1:Int),i64 q.2.2]⟩
theorem pL {r:List UInt8}{q:Tok×Nat}(h:m9 r=some q):0<q.2/\q.2<=r.length:=by
 cases r with
 | nil=>cases h
 | cons c u=>
   rw[g8]at h
   by_cases hd:bq c=true
   . rw[if_pos hd]at h;have e:(c::u).takeWhile bq=c::u.takeWhile bq:=by rw[List.takeWhile_cons,hd];rfl
     rw[e]at h;unfold xD at h;have hle:=pK (p:=bq) u;cases hN:fU 0 (c::u.takeWhile bq)with
     | none=>rw[hN]at h;cases h
     | some v=>rw[hN]at h;cases h;simp;omega
   rw[if_neg hd]at h;unfold xC at h
   by_cases h34:c.toNat=34
   . rw[if_pos h34]at h;obtain⟨q1,hq,rfl⟩:=Option.map_eq_some_iff.1 h;have:=A0 hq;simp;omega
   rw[if_neg h34]at h
   by_cases hl:(bH c||bC c)=true
   . rw[if_pos hl]at h;have hle:=pK (p:=eZ) u;cases h;simp;omega
   rw[if_neg hl]at h
   by_cases h39:c.toNat=39/\fW u=true
   . rw[if_pos h39]at h;cases u with
     | nil=>cases h39.2
     | cons d w=>
       have hle:=pK (p:=mX) w;cases h;simp only[List.drop_succ_cons,List.drop_zero,List.length_cons];omega
   rw[if_neg h39]at h;obtain⟨x,hx,rfl⟩:=Option.map_eq_some_iff.1 h;have hp:=(List.isPrefixOf_iff_prefix.1 (by simpa using List.find?_some hx:x.isPrefixOf (c::u)=true)).length_le;have hm:=A1 _ (List.mem_of_find?_eq_some hx);refine⟨?_,hp⟩;cases x with
   | nil=>exact absurd rfl hm.2
   | cons a x=>simp
theorem Ol:di P 4 31=[]:=by kernel_rfl
theorem A2 (t:Tok):mg true 4 [t.v]:=λv hv=>by
 rw[List.mem_singleton]at hv;subst hv;exact⟨rfl,rfl,⟨_,rfl⟩⟩
theorem mo {x:Bx}{out:List Tok}{sl:Value}{kt:Value->T OB->Nat->Q}{R:Go.Ev.Out->T OB->Nat->Prop}(hG:Gw true 4 31 (out.map Tok.v) sl G)(h:Hp nx0 H0 (x::(G++F)) H nx)(hk:∀H' nx',Hp nx0 H0 (x::F) H' nx'->aT P pl X0 (kt (fQ out) H' nx') nx0 H0 R):aT P pl X0 (bG P 29 sl H nx kt) nx0 H0 R:=by
 have e:bG P 29 sl H nx kt=ij P 100000 29 sl H nx kt:=by
  unfold bG;rcases hG.2 with⟨_,rfl,_⟩ | ⟨b,c,rfl,_⟩<;>rfl
 rw[e];exact(cG.gw (t:=29) (n:=0) eH ch l7 rfl Ol hG (gX.id λv hv=>by
  obtain⟨t,_,rfl⟩:=List.mem_map.1 hv;exact fC.of ed.nil) (λu hu=>by obtain⟨x,_,rfl⟩:=List.mem_map.1 hu;rfl) id) 100000 (by omega) nx0 nx H0 H x F kt R h hk
theorem ez (H:T OB)(nx:Nat)(k:Value->T OB->Nat->Q):bG P 29 aG H nx k=k (fQ []) H nx:=by kernel_rfl
theorem A3 (n:Int):aC P 31 (some [(0,i64 0),(3,i64 n)])=some (Tok.v ⟨0,[],0,n⟩):=a_ bR (by kernel_rfl)
theorem Hq.A4 (A:List Bx){B:List Bx}{x:Bx}{c:Nat}{l:List Tok}{t:Tok}{sl:Value}{kt:Value->T OB->Nat->Q}{R:Go.Ev.Out->T OB->Nat->Prop}(hl:l.length<=1000000)(hG:Gw true 4 31 (l.map Tok.v) sl G)(h:Hp nx0 H0 (x::(c,t.c,31)::(A++(G++B))) H nx)
 (hk:∀sl' G' H' nx',Gw true 4 31 ((l++[t]).map Tok.v) sl' G'->Hp nx0 H0 (x::(A++(G'++B))) H' nx'->aT P pl X0 (kt sl' H' nx') nx0 H0 R):aT P pl X0 (ao (bt P H nx [29,29] (some [sl,.slice (some ⟨c,0,none⟩) 1 1])) kt) nx0 H0 R:=
 Hq.add A eH ch (vp (by rw[List.length_map];omega)) (by rw[List.length_map];omega) (A2 t) hG h λsl' G' H' nx' hG' h'=>hk sl' G' H' nx' (by rw[List.map_append];exact hG') h'
theorem Gw.Om {l:List Tok}{sl:Value}(hG:Gw true 4 31 (l.map Tok.v) sl G):aM P #[29] 3 (some [sl])=some (i64 (l.length:Int)):=by
 rcases hG.2 with⟨h0,rfl,_⟩ | ⟨b,c,rfl,_⟩
 . rw[List.map_eq_nil_iff.1 h0];kernel_rfl
 . rw[List.length_map];exact dM (by kernel_rfl)
theorem Qs (hl:s.length<=4096):∀(m i:Nat) (out:List Tok) (sl:Value) (G:List Bx) (H:T OB) (nx:Nat),s.length-i<m->i<=s.length->out.length<=1000->Gw true 4 31 (out.map Tok.v) sl G->Hp nx0 H0 (tO b s i::([]++(G++[]))) H nx->
 Wq P pl X0 (.jump (rR (aE s) (ptr b) sl H nx)) nx0 H0 (lG (fy s m out i)):=by
 have hbig:cY=1125899906842624:=rfl;intro m
 induction m with
 | zero=>intro i out sl G H nx hm;omega
 | succ m ih=>
   intro i out sl G H nx hm hi ho hG h;refine Wq.jmp (Kj ..) (λ_=>rfl) ?_;refine Sq.jB rfl (Oi (by omega) hi h) λH1 aJ h1=> ?_;have hle:=tG (s.drop i);rw[List.length_drop]at hle;unfold fy;generalize hp:dF (s.drop i)=p at h1 hle ⊢;obtain⟨n,ok⟩:=p;simp only at h1 hle ⊢;cases ok with
   | false=>
     rw[if_pos rfl];simp only[af,e7 h1];rw[ez];exact Wq.ret h1.ag
   | true=>
     rw[if_neg (by decide)];simp only[af,e7 h1,aF _ aR,aK];refine Wq.ite (λhge=> ?_) (λhge=> ?_)
     . rw[if_pos (by omega)];simp only[af,A3];refine Hq.row eH ch bR rfl (pA _ _ _ _) h1 λc H2 nx2 h2=> ?_;refine Hq.A4 [] (t:=⟨0,[],0,(s.length:Int)⟩) (by omega) hG h2 λsl' G' H3 nx3 hG' h3=> ?_;refine mo hG' h3 λH4 nx4 h4=> ?_;exact Wq.ret h4.ag
     . have hlt:i+n<s.length:=by omega
       rw[if_neg (by omega)];refine Wq.fi rfl (Ok (by omega) hlt h1) (λv H2 nx2 hA2 hR=> ?_) (λv H2 nx2 hA2 hR=>by obtain⟨t,k,q,_⟩:=hR;cases q);obtain⟨t,k,q,hT,h2⟩:=hR;cases q;refine Hq.var (x:=t.v) bR ch rfl rfl rfl h2 λH3 nx3 h3=> ?_;unfold Qr at hT;cases hx:m9 (s.drop (i+n))with
       | none=>
         rw[hx]at hT;subst hT;simp only[af,e7 h3];rw[ez];exact Wq.ret h3.ag
       | some q=>
         rw[hx]at hT;obtain⟨rfl,rfl⟩:=hT;have hpos:=pL hx;rw[List.length_drop]at hpos;simp only[af,show decide ((q.2:Int)=0)=false by simp;omega,hG.Om];refine Wq.ite (λh1000=> ?_) (λh1000=> ?_)
         . rw[if_pos (by omega)];simp only[af,e7 h3];rw[ez];exact Wq.ret h3.ag
         . rw[if_neg (by omega)];refine Hq.row eH ch bR rfl (pA _ _ _ _) h3 λc H4 nx4 h4=> ?_;refine Hq.A4 [] (t:=⟨q.1.k,q.1.s,q.1.n,((i+n:Nat):Int)⟩) (by omega) hG h4 λsl' G' H5 nx5 hG' h5=> ?_;have ew:IntKind.i64.wrap (((i+n:Nat):Int)+(q.2:Int))=((i+n+q.2:Nat):Int):=by rw[a7 (by omega)];omega
           simp only[af,e7 h5,ew];refine Hq.put [] h5 js rfl rfl (by simp) rfl λH6 h6=> ?_;exact ih (i+n+q.2) _ sl' G' H6 nx5 (by omega) (by omega) (by rw[List.length_append,List.length_singleton];omega) hG' h6
theorem On (s:List UInt8)(hl:s.length<cY):PT 28 [aE s] (lG (scan s)):=PT.of rfl λH nx hT=>by
 rw[QO];unfold scan;simp only[af,aF _ aR,aK];refine Wq.ite (λh=> ?_) (λh=> ?_)
 . rw[if_pos (by omega),ez];exact Wq.ret (.refl _ _)
 . rw[if_neg (by omega)];have e:aC P 95 (some [(0,aE s)])=some (.agg ⟨[aE s,i64 0]⟩):=a_ (show bE P 95=some [aE [],i64 0]by kernel_rfl) (by kernel_rfl);simp only[af,e];refine Wq.box (.refl _ _) λH1 hb cA hA=> ?_;have h0:Hp nx H [] H nx:=⟨hT,Ag.refl nx H,by simp,λx hx=>by simp at hx⟩;exact Qs (by omega) (s.length+1) 0 [] aG [] H1 (nx+1) (by omega) (Nat.zero_le _) (by simp) (Gw.nil _ _ _) (h0.new hb cA hA)
end
section
variable {nx0:Nat}{H0:T OB}
theorem lH {H:T OB}{l:List UInt8}{hi:Nat}(h1:hi<=l.length):bm P H 9 (some (aE l)) (some none) (some (some (i64 (hi:Int)))) (some none)=some (aE (l.take hi)):=by
 show lK P 9 (aE l) (some none) (some (some (i64 (hi:Int)))) (some none)=_;show fV P (Instr.sliceAt 9 (aE l) none (some (i64 (hi:Int))) none)=_;have e0:(⟨⟨l⟩⟩:ByteArray).extract 0 hi=⟨⟨l.take hi⟩⟩:=by
  apply ByteArray.ext;rw[ByteArray.data_extract];apply Array.ext';simp
 have e1:bD P (Instr.sliceAt 9 (aE l) none (some (i64 (hi:Int))) none)=some (aE (l.take hi)):=by
  unfold Instr.sliceAt;simp only[a9,bT aR,Option.bind_some];unfold Instr.slice;simp only[a9,bT aR,Option.bind_some];unfold Instr.sliceBounds Instr.sliceBound;simp only[a9,asIntOf,Option.isSome];have pp:∀{α:Type} (a:α),bD P (pure a:Sem α)=some a:=λ_=>rfl;rw[if_neg (by decide)];simp only[a9,pp,Option.bind_some];have c1:(0:Int)<=(hi:Int)/\(hi:Int)<=((⟨⟨l⟩⟩:ByteArray).size:Int):=⟨by omega,by rw[aK];omega⟩;rw[if_pos c1];simp only[pp,Option.bind_some,Int.toNat_natCast,e0]
 exact mc e1 rfl
theorem LV (s:List UInt8)(hl:s.length<cY):∀(r:List UInt8) (i:Nat) (H:T OB) (nx:Nat),s.drop i=r->i<=s.length->Ag nx0 H0 nx H->
 Wq P pl X0 (.jump (z4 (aE s) (i64 (i:Int)) H nx)) nx0 H0 (i64 ((i+(r.takeWhile bq).length:Nat):Int)):=by
 intro r
 induction r with
 | nil=>
   intro i H nx hd hi hA;have hil:=drop_nil hd hi;refine Wq.jmp (IU ..) (λ_=>rfl) ?_;simp only[af,aF _ aR,aK,hil,aV];exact Wq.ret hA
 | cons c r ih=>
   intro i H nx hd hi hA;obtain⟨hg,hlt,hd'⟩:=drop_cons hd;refine Wq.jmp (IU ..) (λ_=>rfl) ?_;simp only[af,aF _ aR,aK,aU hlt,aW aR hg .i64];refine Wq.call (sW c) hA λH1 aJ hA1=> ?_;rw[List.takeWhile_cons];cases bq c with
   | false=>
     simp only[af];exact Wq.ret hA1
   | true=>
     simp only[af,aL (show i<9223372036854775807 by have:=db hl;omega)];rw[if_pos trivial,List.length_cons,show i+((r.takeWhile bq).length+1)=i+1+(r.takeWhile bq).length by omega];exact ih (i+1) H1 aJ hd' (by omega) hA1
theorem Oo (s:List UInt8)(hl:s.length<cY):P0 92 [aE s] (i64 ((s.takeWhile bq).length:Int)):=Pure.of rfl λH nx=>by
 rw[Q8];have:=LV (nx0:=nx) (H0:=H) s hl s 0 H nx rfl (Nat.zero_le _) (.refl _ _);rwa[Nat.zero_add]at this
def HT:Option (Tok×Nat)->Value
 | some q=> .tuple ⟨[q.1.v,i64 (q.2:Int)]⟩
 | none=> .tuple ⟨[Tok.v ⟨0,[],0,0⟩,i64 0]⟩
theorem A5 (t:Tok)(n:Int){b:Nat}{nx:Nat}{H:T OB}{l:List Value}(hl:l.length=4)(hb:cm H b l 31)(hbn:nx0<=b)(hA:Ag nx0 H0 nx H):
 Wq P pl X0 (ao (aj P H nx 31 (some (ptr b)) (some t.v)) λ_ H nx'=>aa (ae P H 31 (some (ptr b))) (λx=> .ret ⟨.ret (.tuple ⟨[x,i64 n]⟩),false,H,nx'⟩) .bad) nx0 H0 (.tuple ⟨[t.v,i64 n]⟩):=by
 obtain⟨a0,a1,a2,a3,rfl⟩:∃a0 a1 a2 a3,l=[a0,a1,a2,a3]:=by
  match l with
  | [a0,a1,a2,a3]=>exact⟨a0,a1,a2,a3,rfl⟩
 refine Wq.store hb ch (by simp) rfl rfl hA hbn λH3 hb3 _ hA3=> ?_;have hb3':cm H3 b t.c 31:=hb3;rw[cq hb3' l7 ch (by simp)];exact Wq.ret hA3
theorem HU (s:List UInt8)(hl:s.length<=1000000){b:Nat}(hbn:nx0<=b){l:List Value}(hl4:l.length=4):∀(n:Nat) (H:T OB) (nx:Nat),n<=s.length->b<nx->cm H b l 31->Ag nx0 H0 nx H->
 Wq P pl X0 (.jump (rW (aE s) (ptr b) (i64 (n:Int)) H nx)) nx0 H0 (HT (mY s n)):=by
 intro n
 induction n with
 | zero=>
   intro H nx hn hbx hb hA;refine Wq.jmp (C_ ..) (λ_=>rfl) ?_;simp only[af];exact A5 ⟨0,[],0,0⟩ 0 hl4 hb hbn hA
 | succ n ih=>
   intro H nx hn hbx hb hA;refine Wq.jmp (C_ ..) (λ_=>rfl) ?_;simp only[af,show decide (0<(((n+1:Nat)):Int))=true by simp,lH hn];refine Wq.fj (JG (s.take (n+1)) (by rw[List.length_take];omega)) hA λH1 aJ hA1 n1 k1=> ?_;have hb1:=k1 _ _ _ hbx hb;rw[mY];generalize cR (s.take (n+1))=p;obtain⟨t,ok⟩:=p;have x0:ar (some (BO (t,ok))) 0=some t.v:=rfl;have x1:ar (some (BO (t,ok))) 1=some (.bool ok):=rfl;simp only[af,x0,x1];refine Wq.Ka (x:=t.v) bR ch rfl rfl rfl hA1 λH2 nx2 hA2 n2 k2=> ?_;have hb2:=k2 _ _ _ (by omega) hb1;cases ok with
   | true=>
     rw[if_pos rfl];simp only[af];exact A5 t _ hl4 hb2 hbn hA2
   | false=>
     rw[if_neg (by decide)];simp only[af,show IntKind.i64.wrap (((n+1:Nat):Int)-1)=(n:Int)from by rw[a7 (by omega)];omega];exact ih H2 nx2 (by omega) (by omega) hb2 hA2
theorem Oq (s:List UInt8)(hl:s.length<=1000000):P0 47 [aE s] (HT (HN s)):=Pure.of rfl λH nx=>by
 have hbig:cY=1125899906842624:=rfl;rw[QS];refine Wq.alloc bR (.refl _ _) λH1 hb1 _ hA1=> ?_;refine Wq.fj (Oo s (by omega)) hA1 λH2 nx2 hA2 n2 k2=> ?_;replace hb1:=k2 _ _ _ (Nat.lt_succ_self nx) hb1;have hle:=pK (p:=bq) s;unfold HN;simp only[af];refine Wq.ite (λh0=> ?_) (λh0=> ?_)
 . rw[if_pos (by omega)];simp only[af,lH hle];refine Wq.fj (JG (s.take (s.takeWhile bq).length) (by rw[List.length_take];omega)) hA2 λH3 nx3 hA3 n3 k3=> ?_;have hb3:=k3 _ _ _ (by omega) hb1;generalize cR (s.take (s.takeWhile bq).length)=p;obtain⟨t,ok⟩:=p;have x0:ar (some (BO (t,ok))) 0=some t.v:=rfl;have x1:ar (some (BO (t,ok))) 1=some (.bool ok):=rfl;simp only[af,x0,x1];refine Wq.Ka (x:=t.v) bR ch rfl rfl rfl hA3 λH4 nx4 hA4 n4 k4=> ?_;have hb4:=k4 _ _ _ (by omega) hb3;cases ok with
   | true=>
     rw[if_pos rfl];simp only[af];exact A5 t _ rfl hb4 (Nat.le_refl _) hA4
   | false=>
     rw[if_neg (by decide)];simp only[af];exact A5 ⟨0,[],0,0⟩ 0 rfl hb4 (Nat.le_refl _) hA4
 . rw[if_neg (by omega)];simp only[af,aF _ aR,aK];exact HU s hl (Nat.le_refl _) rfl s.length H2 nx2 (Nat.le_refl _) (by omega) hb1 hA2
def eQ (s:List UInt8)(i:Nat):Nat:=match eP 1 (s.drop i)with
 | none=>0
 | some n=>i+n
theorem tK (s:List UInt8)(hl:s.length<cY){i:Nat}{c:UInt8}{r:List UInt8}(h:s.drop i=c::r)(x y:UInt8){k:Bool->Q}{H:T OB}{R:Go.Ev.Out->T OB->Nat->Prop}
 (hk:aT P pl X0 (k (decide (c=x/\r.head? = some y))) nx0 H0 R):
 aT P pl X0 (bK (decide (((i+1:Nat):Int)<(s.length:Int))) (bK (decide ((c.toNat:Int)=(x.toNat:Int))) (aa (aH P 9 (some (aE s)) (some (i64 ((i+1:Nat):Int)))) (λx11=>aa (ah P H .eql 5 true (some x11) (some (.int .u8 (y.toNat:Int)))) (λx12=>aI x12 (λb13=>k b13) .bad) .bad) .bad) (k false)) (k false)) nx0 H0 R:=by
 obtain⟨hg,hlt,hd'⟩:=drop_cons h;have hrl:r.length=s.length-(i+1):=by rw[<- hd',List.length_drop]
 cases r with
 | nil=>
   simp at hrl;rw[show decide (((i+1:Nat):Int)<(s.length:Int))=false by simp;omega];simpa using hk
 | cons e t=>
   simp at hrl;rw[show decide (((i+1:Nat):Int)<(s.length:Int))=true by simp;omega];have hg2:=(drop_cons hd').1
   by_cases hc:c=x
   . subst hc;rw[show decide ((c.toNat:Int)=(c.toNat:Int))=true by simp];simp only[af,aW aR hg2 .i64];have e1:decide ((e.toNat:Int)=(y.toNat:Int))=decide (c=c/\(e::t).head? = some y):=by
      rw[decide_eq_decide];simp only[true_and,List.head?_cons,Option.some.injEq,<- UInt8.toNat_inj];omega
     rw[e1];exact hk
   . rw[show decide ((c.toNat:Int)=(x.toNat:Int))=false by rw[decide_eq_false_iff_not];intro q;exact hc (UInt8.toNat_inj.1 (by omega))];rw[decide_eq_false (λq=>hc q.1)]at hk;exact hk
theorem Ot:∀(m:Nat) (s:List UInt8),s.length<=m->s.length<cY->P0 91 [aE s] (i64 ((eQ s 2:Nat):Int)):=by
 have hbig:cY=1125899906842624:=rfl;intro m
 induction m with
 | zero=>
   intro s hm hl;obtain rfl:s=[]:=List.length_eq_zero_iff.1 (by omega);refine Pure.of rfl λH nx=> ?_;rw[QB];refine Wq.jmp (Dm ..) (λ_=>rfl) ?_;simp only[af,aF _ aR,aK,List.length_nil];exact Wq.ret (.refl _ _)
 | succ m ihm=>
   intro s hm hl;refine Pure.of rfl λH nx=> ?_;rw[QB];have main:∀(d i:Nat) (H1:T OB) (aJ:Nat),s.length-i<=d->2<=i->Ag nx H aJ H1->Wq P pl X0 (.jump (vb (aE s) (i64 (i:Int)) H1 aJ)) nx H (i64 ((eQ s i:Nat):Int)):=by
    intro d
    induction d with
    | zero=>
      intro i H1 aJ hd hi hA;refine Wq.jmp (Dm ..) (λ_=>rfl) ?_;simp only[af,aF _ aR,aK,show decide ((i:Int)<(s.length:Int))=false by simp;omega];have:eQ s i=0:=by unfold eQ;rw[List.drop_eq_nil_of_le (by omega)];simp[eP]
      rw[this];exact Wq.ret hA
    | succ d ih=>
      intro i H1 aJ hd hi hA
      by_cases hlt:i<s.length
      case neg=>exact ih i H1 aJ (by omega) hi hA
      obtain⟨c,r,hdr⟩:∃c r,s.drop i=c::r:=by
       cases hq:s.drop i with
       | nil=>have:=drop_nil hq (by omega);omega
       | cons c r=>exact⟨c,r,rfl⟩
      obtain⟨hg,_,hd'⟩:=drop_cons hdr;have hw1:=aL (show i<9223372036854775807 by omega);have L12:∀x:Bool,x=decide (c=42/\r.head? = some 41)->Wq P pl X0 (.jump (l_ (aE s) (i64 (i:Int)) x H1 aJ)) nx H (i64 ((eQ s i:Nat):Int)):=by
       intro x hx;refine Wq.jmp (Kz ..) (λ_=>rfl) ?_;cases x with
       | true=>
         have e:=of_decide_eq_true hx.symm;obtain⟨t,ht⟩:=lE e.2;have e2:IntKind.i64.wrap ((i:Int)+2)=((i+2:Nat):Int):=by rw[a7 (by omega)];omega
         simp only[af,e2];have:eQ s i=i+2:=by unfold eQ;rw[hdr,e.1,ht,qX];rfl
         rw[this];exact Wq.ret hA
       | false=>
         have e:¬(c=42/\r.head? = some 41):=of_decide_eq_false hx.symm;have L16:∀y:Bool,y=decide (c=40/\r.head? = some 42)->Wq P pl X0 (.jump (ma (aE s) (i64 (i:Int)) y H1 aJ)) nx H (i64 ((eQ s i:Nat):Int)):=by
          intro y hy;refine Wq.jmp (KA ..) (λ_=>rfl) ?_;cases y with
          | true=>
            have a:=of_decide_eq_true hy.symm;obtain⟨t,ht⟩:=lE a.2;rw[a.1,ht]at hdr;have ht2:s.drop (i+2)=t:=by rw[<- List.drop_drop,hdr];rfl
            simp only[af,cZ (show i<=s.length by omega)];refine Wq.call (ihm (s.drop i) (by rw[List.length_drop];omega) (by rw[List.length_drop];omega)) hA λH2 nx2 hA2=> ?_;have hs1:eQ (s.drop i) 2=match eP 1 t with | none=>0 | some n=>2+n:=by
             unfold eQ;rw[List.drop_drop,ht2]
            have hc:=jG t 0;have hs2:eQ s i=match(eP 2 t).map (· + 2)with | none=>0 | some n=>i+n:=by
             unfold eQ;rw[hdr,vN]
            rw[hs1,hs2,show 2=0+2 from rfl,hc];cases hcm:eP 1 t with
            | none=>
              simp only[af];exact Wq.ret hA2
            | some n=>
              have hn:=mm 1 t n hcm;have hlen:t.length=s.length-(i+2):=by rw[<- ht2,List.length_drop]
              have e3:eQ s (i+2+n)=match((eP (0+1) (t.drop n)).map (n+ ·)).map (· + 2)with | none=>0 | some n=>i+n:=by
               unfold eQ;rw[<- List.drop_drop,ht2,show(0+1:Nat)=1 from rfl];cases eP 1 (t.drop n)with
               | none=>rfl
               | some m=>show i+2+n+m=i+(n+m+2);omega
              simp only[Option.bind_some];rw[<- e3];have ew:IntKind.i64.wrap ((i:Int)+((0+2+n:Nat):Int))=((i+2+n:Nat):Int):=by rw[a7 (by omega)];omega
              simp only[af,show decide (((0+2+n:Nat):Int)=0)=false by simp;omega,ew];exact ih (i+2+n) H2 nx2 (by omega) (by omega) hA2
          | false=>
            have a:=of_decide_eq_false hy.symm;simp only[af,hw1];have e4:eQ s i=eQ s (i+1):=by
             unfold eQ;rw[hdr,hd',qY a e];cases eP 1 r with
             | none=>rfl
             | some n=>simp only[Option.map_some];omega
            rw[e4];exact ih (i+1) H1 aJ (by omega) (by omega) hA
         simp only[af,hw1,aF _ aR,aK,aW aR hg .i64];exact tK s hl hdr 40 42 (k:=λx=> .jump (ma (aE s) (i64 (i:Int)) x H1 aJ)) (L16 _ rfl)
      refine Wq.jmp (Dm ..) (λ_=>rfl) ?_;simp only[af,hw1,aF _ aR,aK,aU hlt,aW aR hg .i64];exact tK s hl hdr 42 41 (k:=λx=> .jump (l_ (aE s) (i64 (i:Int)) x H1 aJ)) (L12 _ rfl)
   exact main s.length 2 H nx (Nat.sub_le _ _) (Nat.le_refl _) (.refl _ _)
end
section
variable {nx0 nx nx':Nat}{H0 H H':T OB}{F G:List Bx}{b:Nat}{s:List UInt8}
abbrev BY (q:Nat×Bool):Value:= .tuple ⟨[i64 (q.1:Int),.bool q.2]⟩
theorem LW (hl:s.length<cY):∀(d i:Nat) (H1:T OB) (aJ:Nat),s.length-i<=d->i<=s.length->Ag nx0 H0 aJ H1->
 Wq P pl X0 (.jump (va (aE s) (i64 (i:Int)) H1 aJ)) nx0 H0 (BY (i+(dF (s.drop i)).1,(dF (s.drop i)).2)):=by
 have hbig:cY=1125899906842624:=rfl;intro d
 induction d with
 | zero=>
   intro i H1 aJ hd hi hA;refine Wq.jmp (IQ ..) (λ_=>rfl) ?_;simp only[af,aF _ aR,aK,show decide ((i:Int)<(s.length:Int))=false by simp;omega];rw[List.drop_eq_nil_of_le (show s.length<=i by omega),show dF []=(0,true)by simp[dF]];exact Wq.ret hA
 | succ d ih=>
   intro i H1 aJ hd hi hA
   by_cases hlt:i<s.length
   case neg=>exact ih i H1 aJ (by omega) hi hA
   obtain⟨c,r,hdr⟩:∃c r,s.drop i=c::r:=by
    cases hq:s.drop i with
    | nil=>have:=drop_nil hq hi;omega
    | cons c r=>exact⟨c,r,rfl⟩
   obtain⟨hg,_,hd'⟩:=drop_cons hdr;have hw1:=aL (show i<9223372036854775807 by omega);have hu:∀n:Nat,n<256->(decide ((c.toNat:Int)=(n:Int))=decide (c=UInt8.ofNat n)):=λn hn=>by
    rw[decide_eq_decide,<- UInt8.toNat_inj,UInt8.toNat_ofNat',Nat.mod_eq_of_lt hn];omega
   have L12:∀x:Bool,x=ws c->Wq P pl X0 (.jump (l8 (aE s) (i64 (i:Int)) x H1 aJ)) nx0 H0 (BY (i+(dF (s.drop i)).1,(dF (s.drop i)).2)):=by
    intro x hx;refine Wq.jmp (Kn ..) (λ_=>rfl) ?_;cases x with
    | true=>
      simp only[af,hw1];rw[hdr,EU hx.symm,<- hd'];have:=ih (i+1) H1 aJ (by omega) hlt hA;rw[show i+1+(dF (s.drop (i+1))).1=i+((dF (s.drop (i+1))).1+1)by omega]at this;exact this
    | false=>
      have hw:¬ws c=true:=by rw[<- hx];decide
      have L16:∀y:Bool,y=decide (c=40/\r.head? = some 42)->Wq P pl X0 (.jump (l9 (aE s) (i64 (i:Int)) y H1 aJ)) nx0 H0 (BY (i+(dF (s.drop i)).1,(dF (s.drop i)).2)):=by
       intro y hy;refine Wq.jmp (Ko ..) (λ_=>rfl) ?_;cases y with
       | true=>
         have a:=of_decide_eq_true hy.symm;obtain⟨t,ht⟩:=lE a.2;rw[a.1,ht]at hdr;have ht2:s.drop (i+2)=t:=by rw[<- List.drop_drop,hdr];rfl
         simp only[af,cZ (show i<=s.length by omega)];refine Wq.call (Ot _ (s.drop i) (Nat.le_refl _) (by rw[List.length_drop];omega)) hA λH2 nx2 hA2=> ?_;have hs1:eQ (s.drop i) 2=match eP 1 t with | none=>0 | some n=>2+n:=by
          unfold eQ;rw[List.drop_drop,ht2]<;>
           (cases eP 1 t<;>rfl)
         rw[hs1,hdr,vL];cases hcm:eP 1 t with
         | none=>
           simp only[af];exact Wq.ret hA2
         | some n=>
           have hn:=mm 1 t n hcm;have hlen:t.length=s.length-(i+2):=by rw[<- ht2,List.length_drop]
           have ew:IntKind.i64.wrap ((i:Int)+((2+n:Nat):Int))=((i+2+n:Nat):Int):=by rw[a7 (by omega)];omega
           simp only[af,show decide (((2+n:Nat):Int)=0)=false by simp;omega,ew];have:=ih (i+2+n) H2 nx2 (by omega) (by omega) hA2;rw[<- List.drop_drop,ht2,show i+2+n+(dF (t.drop n)).1=i+((dF (t.drop n)).1+(n+2))by omega]at this;exact this
       | false=>
         have a:=of_decide_eq_false hy.symm;rw[hdr,vM hw a];simp only[af];exact Wq.ret hA
      simp only[af,hw1,aF _ aR,aK,aW aR hg .i64];exact tK s hl hdr 40 42 (k:=λx=> .jump (l9 (aE s) (i64 (i:Int)) x H1 aJ)) (L16 _ rfl)
   refine Wq.jmp (IQ ..) (λ_=>rfl) ?_;simp only[af,aF _ aR,aK,aU hlt,aW aR hg .i64];have hws:ws c=(decide (c=9)||(decide (c=10)||(decide (c=13)||decide (c=32)))):=by
    unfold ws;rw[Bool.or_assoc,Bool.or_assoc];rfl
   have h9:decide ((c.toNat:Int)=9)=decide (c=9):=hu 9 (by decide);have h10:decide ((c.toNat:Int)=10)=decide (c=10):=hu 10 (by decide);have h13:decide ((c.toNat:Int)=13)=decide (c=13):=hu 13 (by decide);have h32:decide ((c.toNat:Int)=32)=decide (c=32):=hu 32 (by decide);rw[h9,h10,h13,h32];refine Wq.ite (λq=>L12 _ (by rw[hws,decide_eq_true q];simp)) (λq1=> ?_);refine Wq.ite (λq=>L12 _ (by rw[hws,decide_eq_true q];simp)) (λq2=> ?_);refine Wq.ite (λq=>L12 _ (by rw[hws,decide_eq_true q];simp)) (λq3=> ?_);exact L12 _ (by rw[hws,decide_eq_false q1,decide_eq_false q2,decide_eq_false q3];simp)
theorem Ou (s:List UInt8)(hl:s.length<cY):P0 46 [aE s] (BY (dF s)):=Pure.of rfl λH nx=>by
 rw[QR];have:=LW (nx0:=nx) (H0:=H) hl s.length 0 H nx (Nat.sub_le _ _) (Nat.zero_le _) (.refl _ _);rwa[Nat.zero_add]at this
theorem Hq.E6 {e:TypeId}{l:List Value}{k:Value->T OB->Nat->Q}{R:Go.Ev.Out->T OB->Nat->Prop}(hz:bE P e=some l)(h:Hp nx0 H0 F H nx)(hk:∀b H' nx',Hp nx0 H0 ((b,l,e)::F) H' nx'->aT P pl X0 (k (ptr b) H' nx') nx0 H0 R):aT P pl X0 (ao (aA P H nx e) k) nx0 H0 R:=
 Wq.alloc hz h.ag λH' hb cA hA=>hk nx H' _ (h.new hb cA hA)
theorem LX {out:List Tok}{sl:Value}{D:List Bx}{i:Nat}(t:Tok)(ho:out.length<=1000)(hG:Gw true 4 31 (out.map Tok.v) sl G)(hD:D=[]->out=[])(h:Hp nx0 H0 (D++(G++[])) H nx):
 Wq P pl X0 (ao (aq P H nx 29 1 (some [(0,t.v)])) λx13 H nx=>ao (bt P H nx [29,29] (some [sl,x13])) λx14 H nx=>bG P 29 x14 H nx λx15 H nx=> .ret ⟨.ret (.tuple ⟨[x15,i64 0,i64 0]⟩),false,H,nx⟩) nx0 H0 (lG (out++[t],0,0)):=by
 cases D with
 | cons x D=>
   refine Hq.row eH ch bR rfl (pA _ _ _ _) h λc H2 nx2 h2=> ?_;refine Hq.A4 D (t:=t) (by omega) hG h2 λsl' G' H3 nx3 hG' h3=> ?_;have h3':Hp nx0 H0 (x::(G'++D)) H3 nx3:=by
    rw[List.append_nil]at h3;exact h3.perm (List.Perm.cons _ List.perm_append_comm)
   refine mo hG' h3' λH4 nx4 h4=> ?_;exact Wq.ret h4.ag
 | nil=>
   obtain rfl:=hD rfl;obtain⟨_,⟨_,rfl,rfl⟩ | ⟨b,c,_,_,h0,_⟩⟩:=hG
   . refine Wq.row eH ch bR rfl (pA _ _ _ _) h.ag λH2 hb cA hA=> ?_;have h2:Hp nx0 H0 [(nx,t.c,31)] H2 (nx+1):=h.new hb cA hA;have hxs:kc H2 4 (.slice (some ⟨nx,0,none⟩) 1 1)=some (1,t.c):=oZ hb rfl;refine Wq.FK eH ch rfl hxs (vp (by decide)) hA (λq=>by cases q) λH3 _ hb3 keep3 hA3=> ?_;have hb3':cm H3 (nx+1) (bL [t.v]) 31:=by
      show cm H3 (nx+1) t.c 31;simpa using hb3
     have h3:=h2.new hb3' keep3 hA3;have hG':Gw true 4 31 ([t].map Tok.v) (.slice (some ⟨nx+1,0,none⟩) 1 dP) [(nx+1,bL [t.v],31)]:=⟨A2 t,.inr ⟨nx+1,dP,rfl,.inl rfl,by simp,rfl⟩⟩;refine mo (F:=[]) hG' h3.swap λH4 nx4 h4=> ?_;exact Wq.ret h4.ag
   . simp at h0
theorem Qt (hl:s.length<=4096):∀(m i:Nat) (out:List Tok) (sl:Value) (D G:List Bx) (H:T OB) (nx:Nat),s.length-i<m->i<=s.length->out.length<=1000->Gw true 4 31 (out.map Tok.v) sl G->(D=[]->out=[])->Hp nx0 H0 (D++(G++[])) H nx->
 Wq P pl X0 (.jump (rQ (aE s) sl (i64 (i:Int)) H nx)) nx0 H0 (lG (fy s m out i)):=by
 have hbig:cY=1125899906842624:=rfl;intro m
 induction m with
 | zero=>intro i out sl D G H nx hm;omega
 | succ m ih=>
   intro i out sl D G H nx hm hi ho hG hD h;refine Wq.jmp (Ki ..) (λ_=>rfl) ?_;simp only[af,cZ hi];refine Hq.call (Ou (s.drop i) (by rw[List.length_drop];omega)) h λH1 aJ h1=> ?_;have hle:=tG (s.drop i);rw[List.length_drop]at hle;unfold fy;generalize hp:dF (s.drop i)=p at hle ⊢;obtain⟨n,ok⟩:=p;simp only at hle ⊢;have x0:ar (some (BY (n,ok))) 0=some (i64 (n:Int)):=rfl;have x1:ar (some (BY (n,ok))) 1=some (.bool ok):=rfl;have ew:IntKind.i64.wrap ((i:Int)+(n:Int))=((i+n:Nat):Int):=by rw[a7 (by omega)];omega
   simp only[af,x0,x1,ew];cases ok with
   | false=>
     rw[if_pos rfl];simp only[af];rw[ez];exact Wq.ret h1.ag
   | true=>
     rw[if_neg (by decide)];simp only[af,aF _ aR,aK];refine Wq.ite (λhge=> ?_) (λhge=> ?_)
     . rw[if_pos (by omega)];have hin:i+n=s.length:=by omega
       simp only[af,A3];rw[hin];exact LX (i:=i) ⟨0,[],0,(s.length:Int)⟩ ho hG hD h1
     . have hlt:i+n<s.length:=by omega
       rw[if_neg (by omega)];simp only[af,cZ (show i+n<=s.length by omega)];refine Hq.call (Oq (s.drop (i+n)) (by rw[List.length_drop];omega)) h1 λH2 nx2 h2=> ?_;rw[LQ];cases hx:m9 (s.drop (i+n))with
       | none=>
         unfold HT;simp only[af];refine Hq.E6 bR h2 λc H3 nx3 h3=> ?_;refine Hq.store [] h3 ch (by simp) rfl rfl λH4 h4=> ?_;simp only[af];rw[ez];exact Wq.ret h4.ag
       | some q=>
         have hpos:=pL hx;rw[List.length_drop]at hpos;unfold HT;simp only[af];refine Hq.E6 bR h2 λc H3 nx3 h3=> ?_;refine Hq.store [] h3 ch (by simp) rfl rfl λH4 h4=> ?_;simp only[af,show decide ((q.2:Int)=0)=false by simp;omega,hG.Om];refine Wq.ite (λh1000=> ?_) (λh1000=> ?_)
         . rw[if_pos (by omega)];rw[ez];exact Wq.ret h4.ag
         . rw[if_neg (by omega)];replace h4:Hp nx0 H0 ((c,q.1.c,31)::(D++(G++[]))) H4 nx3:=h4;refine Hq.put [] h4 js rfl rfl (by simp) rfl λH5 h5=> ?_;replace h5:Hp nx0 H0 ((c,[i64 q.1.k,aE q.1.s,i64 q.1.n,i64 ((i+n:Nat):Int)],31)::(D++(G++[]))) H5 nx3:=h5;simp only[af,BI (h5.at_ 0 rfl)];refine Hq.row eH ch bR rfl (pA _ _ _ _) h5 λc2 H6 nx6 h6=> ?_;refine Hq.A4 D (t:=⟨q.1.k,q.1.s,q.1.n,((i+n:Nat):Int)⟩) (by omega) hG h6 λsl' G' H7 nx7 hG' h7=> ?_;have ew2:IntKind.i64.wrap (((i+n:Nat):Int)+(q.2:Int))=((i+n+q.2:Nat):Int):=by rw[a7 (by omega)];omega
           simp only[af,ew2];exact ih (i+n+q.2) _ sl' (_::D) G' H7 nx7 (by omega) (by omega) (by rw[List.length_append,List.length_singleton];omega) hG' (λq=>by cases q) h7
theorem JH (s:List UInt8)(hl:s.length<cY):PT 22 [aE s] (lG (scan s)):=PT.of rfl λH nx hT=>by
 rw[QL];unfold scan;simp only[af,aF _ aR,aK];refine Wq.ite (λh=> ?_) (λh=> ?_)
 . rw[if_pos (by omega),ez];exact Wq.ret (.refl _ _)
 . rw[if_neg (by omega)];have h0:Hp nx H [] H nx:=⟨hT,Ag.refl nx H,by simp,λx hx=>by simp at hx⟩;exact Qt (by omega) (s.length+1) 0 [] aG [] [] H nx (by omega) (Nat.zero_le _) (by simp) (Gw.nil _ _ _) (λ_=>rfl) h0
end
end
end Go.Proofs.YthjhonhhbddhkaaGreatDoor
