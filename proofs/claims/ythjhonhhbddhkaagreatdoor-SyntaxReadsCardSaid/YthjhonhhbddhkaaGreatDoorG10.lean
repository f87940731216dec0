/- Texts of this claim, side by side. -/
import Derived.Test.YthjhonhhbddhkaaGreatDoorG8
import Derived.Test.YthjhonhhbddhkaaGreatDoorG9
import Derived.Test.YthjhonhhbddhkaaGreatDoorG7
import Derived.Test.YthjhonhhbddhkaaGreatDoorProg
import Derived.WalkKit
import Derived.ProofKit
import Derived.OpenShut
import Derived.ShutString
import Derived.ChangeOld
import Derived.ChangeSame
import Derived.Deep.Slices
import Derived.DataElems
import Derived.Below
import Derived.SizedLaws
import Derived.Test.YthjhonhhbddhkaaGreatDoorRows
import Derived.LaidMore
import Derived.Stop.LaidErr
import Derived.Lib.AppendIntMem
namespace Go.Proofs.YthjhonhhbddhkaaGreatDoor
open Go.Ev Go.RowKit
noncomputable section
set_option maxRecDepth 100000
set_option linter.unusedVariables false
set_option linter.unusedSimpArgs false
set_option maxHeartbeats 8000000
section
variable {L:List Tok}{α β:Type}{Q:β->Prop}{Q1:α->Prop}{k m:Nat}
def aW {α:Type}(x:PR α)(Q:α->Prop):Prop:=∀a k,x=some (.ok a k)->Q a
theorem aW.none:aW (none:PR β) Q:=λa k h=>by cases h
theorem aW.bd {x:PR α}{f:α->Nat->PR β}(h:aW x Q1)(hf:∀a k,Q1 a->aW (f a k) Q):aW (bd x f) Q:=by
 cases x with
 | none=>exact aW.none
 | some r=>
   cases r with
   | bad a=>exact λa k h=>by cases h
   | ok a k=>exact hf a k (h a k rfl)
theorem aW.fail:aW (kS L k:PR β) Q:=λa k h=>by cases h
theorem aW.yes {a:β}(h:Q a):aW (yes a k) Q:=λa k h'=>by cases h';exact h
theorem aW.ite {c:Prop}[Decidable c]{x y:PR β}(h:aW x Q)(h':aW y Q):aW (if c then x else y) Q:=by
 by_cases hc:c
 . rw[if_pos hc];exact h
 . rw[if_neg hc];exact h'
theorem aW.aZ {w:List UInt8}{f:Nat->PR β}(hf:∀k,aW (f k) Q):aW (aZ L w k f) Q:=aW.ite (hf _) aW.fail
theorem aW.bC {c:Int}{f:Tok->Nat->PR β}(hf:∀j k,aW (f (tk L j) k) Q):aW (bC L c k f) Q:=aW.ite (hf _ _) aW.fail
def aF (Q:β->Prop)(m:Nat)(l:List β):Prop:=l.length<=m/\∀c,c∈l->Q c
theorem aF.nil:aF Q m []:=⟨Nat.zero_le _,λc h=>nomatch h⟩
theorem aF.snoc {l:List β}{a:β}(h:aF Q m l)(ha:Q a):aF Q (m+1) (l++[a]):=⟨by rw[List.length_append];exact Nat.add_le_add_right h.1 1,λc hc=>(List.mem_append.1 hc).elim (h.2 c) λq=>by rw[List.mem_singleton.1 q];exact ha⟩
theorem aF.one {a:β}(ha:Q a):aF Q 1 [a]:=⟨Nat.le_refl _,λc hc=>by rw[List.mem_singleton.1 hc];exact ha⟩
theorem aF.two {a b:β}(ha:Q a)(hb:Q b):aF Q 2 [a,b]:=(aF.one ha).snoc hb
theorem aF.three {a b c:β}(ha:Q a)(hb:Q b)(hc:Q c):aF Q 3 [a,b,c]:=(aF.two ha hb).snoc hc
theorem aF.mono {n:Nat}{l:List β}(h:aF Q m l)(hm:m<=n):aF Q n l:=⟨Nat.le_trans h.1 hm,h.2⟩
theorem aF.cX {l:List β}(h:aF Q m l)(hm:m<=300000):l.length<cX:=Nat.lt_of_le_of_lt (Nat.le_trans h.1 hm) (by decide)
theorem fk {k n:Int}{s:List UInt8}{l:List aH}{p:List bh}{d:List a_}{m1 m2 m3:Nat}(h1:rg n)(h2:gi s)(h3:aF aH.ok m1 l)(g3:m1<=300000)(h4:aF bh.ok m2 p)(g4:m2<=300000)(h5:aF a_.ok m3 d)(g5:m3<=300000):(aH.mk k n s l p d).ok:=(aH.ch _).2 ⟨h1,h2,⟨h3.cX g3,h3.2⟩,⟨h4.cX g4,h4.2⟩,h5.cX g5,h5.2⟩
theorem iX {k n:Int}{s:List UInt8}{l:List bh}{m1:Nat}(h1:rg n)(h2:gi s)(h3:aF bh.ok m1 l)(g3:m1<=300000):(bh.mk k n s l).ok:=(bh.ch _).2 ⟨h1,h2,h3.cX g3,h3.2⟩
theorem la {k:Int}{s:List UInt8}{l:List bo}{m1:Nat}(h2:gi s)(h3:aF bo.ok m1 l)(g3:m1<=300000):(bo.mk k s l).ok:=(bo.ch _).2 ⟨h2,h3.cX g3,h3.2⟩
theorem J0 {s:List UInt8}{l:List bo}{m1:Nat}(h2:gi s)(h3:aF bo.ok m1 l)(g3:m1<=300000):(da.mk s l).ok:=⟨h2,h3.cX g3,h3.2⟩
theorem Fb {v:List (List UInt8)}{s:List UInt8}{l:List da}{m0 m1:Nat}(h0:aF gi m0 v)(g0:m0<=300000)(h2:gi s)(h3:aF da.ok m1 l)(g3:m1<=300000):(Data.mk v s l).ok:=⟨⟨h0.cX g0,h0.2⟩,h2,h3.cX g3,h3.2⟩
theorem Vb {s:List UInt8}{q:List bh}{b:aH}{m1:Nat}(h2:gi s)(h3:aF bh.ok m1 q)(g3:m1<=300000)(h4:b.ok):(Fn.mk s q b).ok:=(Fn.ch _).2 ⟨h2,⟨h3.cX g3,h3.2⟩,h4⟩
theorem BF {k:Int}{p:bh}{e:aH}{f:List Fn}{x:Data}{c:da}{m1:Nat}(h1:p.ok)(h2:e.ok)(h3:aF Fn.ok m1 f)(g3:m1<=300000)(h4:x.ok)(h5:c.ok):(a_.mk k p e f x c).ok:=(a_.ch _).2 ⟨h1,h2,⟨h3.cX g3,h3.2⟩,h4,h5⟩
theorem gC:rg 0:=by unfold rg;omega
theorem cM:gi []:=by show(0:Nat)<_;omega
theorem J1:jV.ok:=iX gC cM (aF.nil (m:=0)) (by decide)
theorem Pe:ke.ok:=fk gC cM (aF.nil (m:=0)) (by decide) (aF.nil (m:=0)) (by decide) (aF.nil (m:=0)) (by decide)
theorem J2:gO.ok:=Fb (aF.nil (m:=0)) (by decide) cM (aF.nil (m:=0)) (by decide)
theorem J3:jW.ok:=J0 cM (aF.nil (m:=0)) (by decide)
def fS (m:Nat)(e:aH):Prop:=∃k l p,e= .mk k 0 [] l p []/\aF aH.ok m l/\aF bh.ok m p
theorem fS.ok {e:aH}(h:fS m e)(hm:m<=300000):e.ok:=by
 obtain⟨k,l,p,rfl,h1,h2⟩:=h;exact fk gC cM h1 hm h2 hm (aF.nil (m:=0)) (by decide)
theorem fS.add {e b:aH}(h:fS m e)(hb:b.ok):fS (m+1) (e.add b):=by
 obtain⟨k,l,p,rfl,h1,h2⟩:=h;exact⟨k,l++[b],p,rfl,h1.snoc hb,h2.mono (Nat.le_succ m)⟩
theorem fS.kc {e b:aH}{q:bh}(h:fS m e)(hq:q.ok)(hb:b.ok):fS (m+1) (e.kc q b):=by
 obtain⟨k,l,p,rfl,h1,h2⟩:=h;exact⟨k,l++[b],p++[q],rfl,h1.snoc hb,h2.snoc hq⟩
theorem fS.one {k:Int}{b:aH}(hb:b.ok):fS 1 (.mk k 0 [] [b] [] []):=⟨k,[b],[],rfl,aF.one hb,aF.nil⟩
theorem fS.zero {k:Int}:fS 0 (.mk k 0 [] [] [] []):=⟨k,[],[],rfl,aF.nil,aF.nil⟩
theorem eI (n:Int):rg (IntKind.i64.wrap n):=by
 unfold rg IntKind.wrap;have:IntKind.i64.bits=64:=rfl;have:IntKind.i64.signed=true:=rfl;simp only[*,Bool.true_and];split
 . rename_i h';simp only[decide_eq_true_eq]at h';omega
 . rename_i h';simp only[decide_eq_true_eq]at h';omega
def Fc (d:Option a_):Prop:=∀x,d=some x->x.ok
def pn (L:List Tok):Prop:=∀t,t∈L->rg t.n/\gi t.s
theorem pn.tk (h:pn L)(k:Nat):rg (tk L k).n/\gi (tk L k).s:=by
 unfold Go.Proofs.YthjhonhhbddhkaaGreatDoor.tk;cases hk:L[k]? with
 | none=>exact⟨gC,cM⟩
 | some t=>exact h t (List.mem_of_getElem? hk)
structure fl (n:Nat)(p:PS):Prop where
 exp:∀k,aW (p.exp k) aH.ok
 fO:∀e k m,fS m e->m+n<=300000->aW (p.fO e k) aH.ok
 bin:∀lv k,aW (p.bin lv k) aH.ok
 fy:∀lv a k,a.ok->aW (p.fy lv a k) aH.ok
 un:∀k,aW (p.un k) aH.ok
 fP:∀a k,a.ok->aW (p.fP a k) aH.ok
 atom:∀k,aW (p.atom k) aH.ok
 dQ:∀s e k m,fS m e->m+n<=300000->aW (p.dQ s e k) aH.ok
 lt:∀k,aW (p.lt k) aH.ok
 ga:∀l k m,aF a_.ok m l->m+n<=300000->aW (p.ga l k) (aF a_.ok 300000)
 pat:∀k,aW (p.pat k) bh.ok
 bw:∀k,aW (p.bw k) bh.ok
 fQ:∀l k m,aF bh.ok m l->m+n<=300000->aW (p.fQ l k) (aF bh.ok 300000)
 dT:∀k,aW (p.dT k) bo.ok
 dA:∀l k m,aF bo.ok m l->m+n<=300000->aW (p.dA l k) (aF bo.ok 300000)
 post:∀k,aW (p.post k) bo.ok
 mC:∀l k m,aF bo.ok m l->m+n<=300000->aW (p.mC l k) (aF bo.ok 300000)
 cP:∀a k,a.ok->aW (p.cP a k) bo.ok
 dY:∀k,aW (p.dY k) da.ok
 bind:∀k,aW (p.bind k) Fc
 fA:∀l k m,aF Fn.ok m l->m+n<=300000->aW (p.fA l k) (aF Fn.ok 300000)
 fn:∀k,aW (p.fn k) Fn.ok
 mD:∀l k m,aF bh.ok m l->m+n<=300000->aW (p.mD l k) (aF bh.ok 300000)
 dec:∀k,aW (p.dec k) Fc
 data:∀k,aW (p.data k) Data.ok
 fB:∀l k m,aF gi m l->m+n<=300000->aW (p.fB l k) (aF gi 300000)
 fC:∀l k m,aF da.ok m l->m+n<=300000->aW (p.fC l k) (aF da.ok 300000)
 bW:∀l k m,aF a_.ok m l->m+n<=300000->aW (p.bW l k) (aF a_.ok 300000)
variable {n:Nat}{p:PS}
theorem Ss (h:fl n p)(ht:∀k,rg (tk L k).n/\gi (tk L k).s)(hn:n<=200000):∀k,aW (xp L p k) aH.ok:=by
 intro k;unfold xp
 repeat' (first
 | exact aW.fail
 | exact aW.yes (by assumption)
 | exact aW.yes (fk (by first | exact gC | exact(ht _).1 | exact eI _) (by first | exact cM | exact(ht _).2 | assumption | (show _<_;decide)) (by first | exact aF.nil (m:=0) | assumption | exact aF.three (by assumption) (by assumption) (by assumption) | exact aF.two (by assumption) (by assumption) | exact aF.one (by assumption)) (by omega) (by first | exact aF.nil (m:=0) | assumption | exact aF.three (by assumption) (by assumption) (by assumption) | exact aF.two (by assumption) (by assumption) | exact aF.one (by assumption)) (by omega) (by first | exact aF.nil (m:=0) | assumption | exact aF.three (by assumption) (by assumption) (by assumption) | exact aF.two (by assumption) (by assumption) | exact aF.one (by assumption)) (by omega))
 | refine aW.aZ (λk=> ?_)
 | exact h.exp _
 | refine aW.bd (h.exp _) (λa k ha=> ?_)
 | exact h.fO _ _ _ (by first | exact fS.kc (by assumption) (by assumption) (by assumption) | exact fS.add (by assumption) (by assumption) | exact fS.one (by assumption) | exact fS.zero) (by omega)
 | refine aW.bd (h.fO _ _ _ (by first | exact fS.kc (by assumption) (by assumption) (by assumption) | exact fS.add (by assumption) (by assumption) | exact fS.one (by assumption) | exact fS.zero) (by omega)) (λa k ha=> ?_)
 | exact h.bin _ _
 | refine aW.bd (h.bin _ _) (λa k ha=> ?_)
 | refine aW.ite ?_ ?_)
theorem Su (h:fl n p)(ht:∀k,rg (tk L k).n/\gi (tk L k).s)(hn:n<=200000):∀e k m,fS m e->m+(n+1)<=300000->aW (xo L p e k) aH.ok:=by
 intro e k m he hm;unfold xo
 repeat' (first
 | exact aW.yes (fS.ok (by first | assumption | exact fS.kc (by assumption) (by assumption) (by assumption)) (by omega))
 | exact aW.fail
 | exact aW.yes (by assumption)
 | exact aW.yes (fk (by first | exact gC | exact(ht _).1 | exact eI _) (by first | exact cM | exact(ht _).2 | assumption | (show _<_;decide)) (by first | exact aF.nil (m:=0) | assumption | exact aF.three (by assumption) (by assumption) (by assumption) | exact aF.two (by assumption) (by assumption) | exact aF.one (by assumption)) (by omega) (by first | exact aF.nil (m:=0) | assumption | exact aF.three (by assumption) (by assumption) (by assumption) | exact aF.two (by assumption) (by assumption) | exact aF.one (by assumption)) (by omega) (by first | exact aF.nil (m:=0) | assumption | exact aF.three (by assumption) (by assumption) (by assumption) | exact aF.two (by assumption) (by assumption) | exact aF.one (by assumption)) (by omega))
 | refine aW.aZ (λk=> ?_)
 | exact h.exp _
 | refine aW.bd (h.exp _) (λa k ha=> ?_)
 | exact h.fO _ _ _ (by first | exact fS.kc (by assumption) (by assumption) (by assumption) | exact fS.add (by assumption) (by assumption) | exact fS.one (by assumption) | exact fS.zero) (by omega)
 | refine aW.bd (h.fO _ _ _ (by first | exact fS.kc (by assumption) (by assumption) (by assumption) | exact fS.add (by assumption) (by assumption) | exact fS.one (by assumption) | exact fS.zero) (by omega)) (λa k ha=> ?_)
 | exact h.pat _
 | refine aW.bd (h.pat _) (λa k ha=> ?_)
 | refine aW.ite ?_ ?_)
theorem J4 (h:fl n p)(ht:∀k,rg (tk L k).n/\gi (tk L k).s)(hn:n<=200000):∀lv a k,a.ok->aW (tJ L p lv a k) aH.ok:=by
 intro lv a k ha;unfold tJ
 repeat' (first
 | exact aW.fail
 | exact aW.yes (by assumption)
 | exact aW.yes (fk (by first | exact gC | exact(ht _).1 | exact eI _) (by first | exact cM | exact(ht _).2 | assumption | (show _<_;decide)) (by first | exact aF.nil (m:=0) | assumption | exact aF.three (by assumption) (by assumption) (by assumption) | exact aF.two (by assumption) (by assumption) | exact aF.one (by assumption)) (by omega) (by first | exact aF.nil (m:=0) | assumption | exact aF.three (by assumption) (by assumption) (by assumption) | exact aF.two (by assumption) (by assumption) | exact aF.one (by assumption)) (by omega) (by first | exact aF.nil (m:=0) | assumption | exact aF.three (by assumption) (by assumption) (by assumption) | exact aF.two (by assumption) (by assumption) | exact aF.one (by assumption)) (by omega))
 | exact h.bin _ _
 | refine aW.bd (h.bin _ _) (λa k ha=> ?_)
 | exact h.fy _ _ _ (by first | assumption | exact la (by first | exact cM | exact(ht _).2 | assumption | (show _<_;decide)) (by first | exact aF.nil (m:=0) | assumption | exact aF.three (by assumption) (by assumption) (by assumption) | exact aF.two (by assumption) (by assumption) | exact aF.one (by assumption)) (by omega) | exact fk gC (by first | exact cM | exact(ht _).2 | assumption | (show _<_;decide)) (by first | exact aF.nil (m:=0) | assumption | exact aF.three (by assumption) (by assumption) (by assumption) | exact aF.two (by assumption) (by assumption) | exact aF.one (by assumption)) (by omega) (aF.nil (m:=0)) (by omega) (aF.nil (m:=0)) (by omega))
 | refine aW.bd (h.fy _ _ _ (by first | assumption | exact la (by first | exact cM | exact(ht _).2 | assumption | (show _<_;decide)) (by first | exact aF.nil (m:=0) | assumption | exact aF.three (by assumption) (by assumption) (by assumption) | exact aF.two (by assumption) (by assumption) | exact aF.one (by assumption)) (by omega) | exact fk gC (by first | exact cM | exact(ht _).2 | assumption | (show _<_;decide)) (by first | exact aF.nil (m:=0) | assumption | exact aF.three (by assumption) (by assumption) (by assumption) | exact aF.two (by assumption) (by assumption) | exact aF.one (by assumption)) (by omega) (aF.nil (m:=0)) (by omega) (aF.nil (m:=0)) (by omega))) (λa k ha=> ?_)
 | refine aW.ite ?_ ?_)
theorem Sv (h:fl n p)(ht:∀k,rg (tk L k).n/\gi (tk L k).s)(hn:n<=200000):∀lv k,aW (xq L p lv k) aH.ok:=by
 intro lv k;unfold xq;exact aW.ite (h.un _) (aW.bd (h.bin _ _) λa k ha=>J4 h ht hn _ _ _ ha)
theorem BG (h:fl n p)(ht:∀k,rg (tk L k).n/\gi (tk L k).s)(hn:n<=200000):∀a k,a.ok->aW (tK L p a k) aH.ok:=by
 intro a k ha;unfold tK
 repeat' (first
 | exact aW.fail
 | exact aW.yes (by assumption)
 | exact aW.yes (fk (by first | exact gC | exact(ht _).1 | exact eI _) (by first | exact cM | exact(ht _).2 | assumption | (show _<_;decide)) (by first | exact aF.nil (m:=0) | assumption | exact aF.three (by assumption) (by assumption) (by assumption) | exact aF.two (by assumption) (by assumption) | exact aF.one (by assumption)) (by omega) (by first | exact aF.nil (m:=0) | assumption | exact aF.three (by assumption) (by assumption) (by assumption) | exact aF.two (by assumption) (by assumption) | exact aF.one (by assumption)) (by omega) (by first | exact aF.nil (m:=0) | assumption | exact aF.three (by assumption) (by assumption) (by assumption) | exact aF.two (by assumption) (by assumption) | exact aF.one (by assumption)) (by omega))
 | exact h.fP _ _ (by first | assumption | exact la (by first | exact cM | exact(ht _).2 | assumption | (show _<_;decide)) (by first | exact aF.nil (m:=0) | assumption | exact aF.three (by assumption) (by assumption) (by assumption) | exact aF.two (by assumption) (by assumption) | exact aF.one (by assumption)) (by omega) | exact fk gC (by first | exact cM | exact(ht _).2 | assumption | (show _<_;decide)) (by first | exact aF.nil (m:=0) | assumption | exact aF.three (by assumption) (by assumption) (by assumption) | exact aF.two (by assumption) (by assumption) | exact aF.one (by assumption)) (by omega) (aF.nil (m:=0)) (by omega) (aF.nil (m:=0)) (by omega))
 | refine aW.bd (h.fP _ _ (by first | assumption | exact la (by first | exact cM | exact(ht _).2 | assumption | (show _<_;decide)) (by first | exact aF.nil (m:=0) | assumption | exact aF.three (by assumption) (by assumption) (by assumption) | exact aF.two (by assumption) (by assumption) | exact aF.one (by assumption)) (by omega) | exact fk gC (by first | exact cM | exact(ht _).2 | assumption | (show _<_;decide)) (by first | exact aF.nil (m:=0) | assumption | exact aF.three (by assumption) (by assumption) (by assumption) | exact aF.two (by assumption) (by assumption) | exact aF.one (by assumption)) (by omega) (aF.nil (m:=0)) (by omega) (aF.nil (m:=0)) (by omega))) (λa k ha=> ?_)
 | exact h.atom _
 | refine aW.bd (h.atom _) (λa k ha=> ?_)
 | refine aW.ite ?_ ?_)
theorem Vc (h:fl n p)(ht:∀k,rg (tk L k).n/\gi (tk L k).s)(hn:n<=200000):∀k,aW (LY L p k) aH.ok:=by
 intro k;unfold LY
 repeat' (first
 | exact aW.fail
 | exact aW.yes (by assumption)
 | exact aW.yes (fk (by first | exact gC | exact(ht _).1 | exact eI _) (by first | exact cM | exact(ht _).2 | assumption | (show _<_;decide)) (by first | exact aF.nil (m:=0) | assumption | exact aF.three (by assumption) (by assumption) (by assumption) | exact aF.two (by assumption) (by assumption) | exact aF.one (by assumption)) (by omega) (by first | exact aF.nil (m:=0) | assumption | exact aF.three (by assumption) (by assumption) (by assumption) | exact aF.two (by assumption) (by assumption) | exact aF.one (by assumption)) (by omega) (by first | exact aF.nil (m:=0) | assumption | exact aF.three (by assumption) (by assumption) (by assumption) | exact aF.two (by assumption) (by assumption) | exact aF.one (by assumption)) (by omega))
 | exact h.un _
 | refine aW.bd (h.un _) (λa k ha=> ?_)
 | exact h.atom _
 | refine aW.bd (h.atom _) (λa k ha=> ?_)
 | exact BG h ht hn _ _ (by assumption)
 | refine aW.bd (BG h ht hn _ _ (by assumption)) (λa k ha=> ?_)
 | refine aW.ite ?_ ?_)
theorem tc (h:fl n p)(ht:∀k,rg (tk L k).n/\gi (tk L k).s)(hn:n<=200000):∀s e k m,fS m e->m+(n+1)<=300000->aW (kf L p s e k) aH.ok:=by
 intro s e k m he hm;unfold kf
 repeat' (first
 | exact aW.yes (fS.ok (by first | assumption | exact fS.kc (by assumption) (by assumption) (by assumption)) (by omega))
 | exact aW.fail
 | exact aW.yes (by assumption)
 | exact aW.yes (fk (by first | exact gC | exact(ht _).1 | exact eI _) (by first | exact cM | exact(ht _).2 | assumption | (show _<_;decide)) (by first | exact aF.nil (m:=0) | assumption | exact aF.three (by assumption) (by assumption) (by assumption) | exact aF.two (by assumption) (by assumption) | exact aF.one (by assumption)) (by omega) (by first | exact aF.nil (m:=0) | assumption | exact aF.three (by assumption) (by assumption) (by assumption) | exact aF.two (by assumption) (by assumption) | exact aF.one (by assumption)) (by omega) (by first | exact aF.nil (m:=0) | assumption | exact aF.three (by assumption) (by assumption) (by assumption) | exact aF.two (by assumption) (by assumption) | exact aF.one (by assumption)) (by omega))
 | exact h.exp _
 | refine aW.bd (h.exp _) (λa k ha=> ?_)
 | exact h.dQ _ _ _ _ (by first | exact fS.kc (by assumption) (by assumption) (by assumption) | exact fS.add (by assumption) (by assumption) | exact fS.one (by assumption) | exact fS.zero) (by omega)
 | refine aW.bd (h.dQ _ _ _ _ (by first | exact fS.kc (by assumption) (by assumption) (by assumption) | exact fS.add (by assumption) (by assumption) | exact fS.one (by assumption) | exact fS.zero) (by omega)) (λa k ha=> ?_)
 | refine aW.ite ?_ ?_)
theorem Ng (h:fl n p)(ht:∀k,rg (tk L k).n/\gi (tk L k).s)(hn:n<=200000):∀k,aW (nn L p k) aH.ok:=by
 intro k;unfold nn
 repeat' (first
 | exact aW.fail
 | exact aW.yes (by assumption)
 | exact aW.yes (fk (by first | exact gC | exact(ht _).1 | exact eI _) (by first | exact cM | exact(ht _).2 | assumption | (show _<_;decide)) (by first | exact aF.nil (m:=0) | assumption | exact aF.three (by assumption) (by assumption) (by assumption) | exact aF.two (by assumption) (by assumption) | exact aF.one (by assumption)) (by omega) (by first | exact aF.nil (m:=0) | assumption | exact aF.three (by assumption) (by assumption) (by assumption) | exact aF.two (by assumption) (by assumption) | exact aF.one (by assumption)) (by omega) (by first | exact aF.nil (m:=0) | assumption | exact aF.three (by assumption) (by assumption) (by assumption) | exact aF.two (by assumption) (by assumption) | exact aF.one (by assumption)) (by omega))
 | refine aW.aZ (λk=> ?_)
 | exact h.exp _
 | refine aW.bd (h.exp _) (λa k ha=> ?_)
 | exact h.lt _
 | refine aW.bd (h.lt _) (λa k ha=> ?_)
 | exact tc h ht hn _ _ _ _ (by first | exact fS.kc (by assumption) (by assumption) (by assumption) | exact fS.add (by assumption) (by assumption) | exact fS.one (by assumption) | exact fS.zero) (by omega)
 | refine aW.bd (tc h ht hn _ _ _ _ (by first | exact fS.kc (by assumption) (by assumption) (by assumption) | exact fS.add (by assumption) (by assumption) | exact fS.one (by assumption) | exact fS.zero) (by omega)) (λa k ha=> ?_)
 | refine aW.ite ?_ ?_)
theorem BH (h:fl n p)(ht:∀k,rg (tk L k).n/\gi (tk L k).s)(hn:n<=200000):∀l k m,aF a_.ok m l->m+(n+1)<=300000->aW (tL L p l k) (aF a_.ok 300000):=by
 intro l k m hl hm;unfold tL;refine aW.ite (aW.yes (hl.mono (by omega))) (aW.bd (h.bind _) λd k hd=> ?_);cases d with
 | none=>exact aW.fail
 | some d=>exact h.ga _ _ _ (hl.snoc (hd d rfl)) (by omega)
theorem Vd (h:fl n p)(ht:∀k,rg (tk L k).n/\gi (tk L k).s)(hn:n<=200000):∀k,aW (LZ L p k) aH.ok:=by
 intro k;unfold LZ
 repeat' (first
 | exact aW.fail
 | exact aW.yes (by assumption)
 | exact aW.yes (fk (by first | exact gC | exact(ht _).1 | exact eI _) (by first | exact cM | exact(ht _).2 | assumption | (show _<_;decide)) (by first | exact aF.nil (m:=0) | assumption | exact aF.three (by assumption) (by assumption) (by assumption) | exact aF.two (by assumption) (by assumption) | exact aF.one (by assumption)) (by omega) (by first | exact aF.nil (m:=0) | assumption | exact aF.three (by assumption) (by assumption) (by assumption) | exact aF.two (by assumption) (by assumption) | exact aF.one (by assumption)) (by omega) (by first | exact aF.nil (m:=0) | assumption | exact aF.three (by assumption) (by assumption) (by assumption) | exact aF.two (by assumption) (by assumption) | exact aF.one (by assumption)) (by omega))
 | refine aW.aZ (λk=> ?_)
 | exact h.exp _
 | refine aW.bd (h.exp _) (λa k ha=> ?_)
 | exact BH h ht hn _ _ _ (by first | exact aF.nil (m:=0) | exact aF.snoc (by assumption) (by first | assumption | exact(ht _).2) | exact aF.one (by first | assumption | exact(ht _).2)) (by omega)
 | refine aW.bd (BH h ht hn _ _ _ (by first | exact aF.nil (m:=0) | exact aF.snoc (by assumption) (by first | assumption | exact(ht _).2) | exact aF.one (by first | assumption | exact(ht _).2)) (by omega)) (λa k ha=> ?_)
 | exact tc h ht hn _ _ _ _ (by first | exact fS.kc (by assumption) (by assumption) (by assumption) | exact fS.add (by assumption) (by assumption) | exact fS.one (by assumption) | exact fS.zero) (by omega)
 | refine aW.bd (tc h ht hn _ _ _ _ (by first | exact fS.kc (by assumption) (by assumption) (by assumption) | exact fS.add (by assumption) (by assumption) | exact fS.one (by assumption) | exact fS.zero) (by omega)) (λa k ha=> ?_)
 | refine aW.ite ?_ ?_)
theorem J5 (h:fl n p)(ht:∀k,rg (tk L k).n/\gi (tk L k).s)(hn:n<=200000):∀k,aW (zO L p k) bh.ok:=by
 intro k;unfold zO
 repeat' (first
 | exact aW.fail
 | exact aW.yes (by assumption)
 | exact aW.yes (iX (by first | exact gC | exact(ht _).1 | exact eI _) (by decide) (aF.one (iX gC cM (aF.two (by assumption) (by assumption)) (by omega))) (by omega))
 | exact aW.yes (iX (by first | exact gC | exact(ht _).1 | exact eI _) (by first | exact cM | exact(ht _).2 | assumption | (show _<_;decide)) (by first | exact aF.nil (m:=0) | assumption | exact aF.three (by assumption) (by assumption) (by assumption) | exact aF.two (by assumption) (by assumption) | exact aF.one (by assumption)) (by omega))
 | exact h.bw _
 | refine aW.bd (h.bw _) (λa k ha=> ?_)
 | refine aW.ite ?_ ?_)
theorem Sw (h:fl n p)(ht:∀k,rg (tk L k).n/\gi (tk L k).s)(hn:n<=200000):∀k,aW (xr L p k) bh.ok:=by
 intro k;unfold xr
 repeat' (first
 | exact aW.fail
 | exact aW.yes (by assumption)
 | exact aW.yes (iX (by first | exact gC | exact(ht _).1 | exact eI _) (by decide) (aF.one (iX gC cM (aF.two (by assumption) (by assumption)) (by omega))) (by omega))
 | exact aW.yes (iX (by first | exact gC | exact(ht _).1 | exact eI _) (by first | exact cM | exact(ht _).2 | assumption | (show _<_;decide)) (by first | exact aF.nil (m:=0) | assumption | exact aF.three (by assumption) (by assumption) (by assumption) | exact aF.two (by assumption) (by assumption) | exact aF.one (by assumption)) (by omega))
 | exact h.pat _
 | refine aW.bd (h.pat _) (λa k ha=> ?_)
 | exact J5 h ht hn _
 | refine aW.bd (J5 h ht hn _) (λa k ha=> ?_)
 | refine aW.ite ?_ ?_)
theorem xT (h:fl n p)(ht:∀k,rg (tk L k).n/\gi (tk L k).s)(hn:n<=200000):∀l k m,aF bh.ok m l->m+(n+1)<=300000->aW (l4 L p l k) (aF bh.ok 300000):=by
 intro l k m hl hm;unfold l4
 repeat' (first
 | exact aW.fail
 | exact aW.yes (aF.mono (aF.nil (m:=0)) (by omega))
 | exact aW.yes (aF.mono (aF.one (ht _).2) (by omega))
 | exact aW.yes (aF.mono (by assumption) (by omega))
 | exact aW.yes (by first | exact aF.nil (m:=0) | assumption | exact aF.three (by assumption) (by assumption) (by assumption) | exact aF.two (by assumption) (by assumption) | exact aF.one (by assumption))
 | exact aW.yes (aF.mono (by first | exact aF.nil (m:=0) | assumption | exact aF.three (by assumption) (by assumption) (by assumption) | exact aF.two (by assumption) (by assumption) | exact aF.one (by assumption)) (by omega))
 | exact h.pat _
 | refine aW.bd (h.pat _) (λa k ha=> ?_)
 | exact h.fQ _ _ _ (by first | exact aF.nil (m:=0) | exact aF.snoc (by assumption) (by first | assumption | exact(ht _).2) | exact aF.one (by first | assumption | exact(ht _).2)) (by omega)
 | refine aW.bd (h.fQ _ _ _ (by first | exact aF.nil (m:=0) | exact aF.snoc (by assumption) (by first | assumption | exact(ht _).2) | exact aF.one (by first | assumption | exact(ht _).2)) (by omega)) (λa k ha=> ?_)
 | refine aW.ite ?_ ?_)
theorem J6 (h:fl n p)(ht:∀k,rg (tk L k).n/\gi (tk L k).s)(hn:n<=200000):∀k,aW (jX L p k) bh.ok:=by
 intro k;unfold jX
 repeat' (first
 | exact aW.fail
 | exact aW.yes (by assumption)
 | exact aW.yes (iX (by first | exact gC | exact(ht _).1 | exact eI _) (by decide) (aF.one (iX gC cM (aF.two (by assumption) (by assumption)) (by omega))) (by omega))
 | exact aW.yes (iX (by first | exact gC | exact(ht _).1 | exact eI _) (by first | exact cM | exact(ht _).2 | assumption | (show _<_;decide)) (by first | exact aF.nil (m:=0) | assumption | exact aF.three (by assumption) (by assumption) (by assumption) | exact aF.two (by assumption) (by assumption) | exact aF.one (by assumption)) (by omega))
 | refine aW.aZ (λk=> ?_)
 | refine aW.bC (λj k=> ?_)
 | exact h.pat _
 | refine aW.bd (h.pat _) (λa k ha=> ?_)
 | exact xT h ht hn _ _ _ (by first | exact aF.nil (m:=0) | exact aF.snoc (by assumption) (by first | assumption | exact(ht _).2) | exact aF.one (by first | assumption | exact(ht _).2)) (by omega)
 | refine aW.bd (xT h ht hn _ _ _ (by first | exact aF.nil (m:=0) | exact aF.snoc (by assumption) (by first | assumption | exact(ht _).2) | exact aF.one (by first | assumption | exact(ht _).2)) (by omega)) (λa k ha=> ?_)
 | refine aW.ite ?_ ?_)
theorem xU (h:fl n p)(ht:∀k,rg (tk L k).n/\gi (tk L k).s)(hn:n<=200000):∀l k m,aF bo.ok m l->m+(n+1)<=300000->aW (l5 L p l k) (aF bo.ok 300000):=by
 intro l k m hl hm;unfold l5
 repeat' (first
 | exact aW.fail
 | exact aW.yes (aF.mono (aF.nil (m:=0)) (by omega))
 | exact aW.yes (aF.mono (aF.one (ht _).2) (by omega))
 | exact aW.yes (aF.mono (by assumption) (by omega))
 | exact aW.yes (by first | exact aF.nil (m:=0) | assumption | exact aF.three (by assumption) (by assumption) (by assumption) | exact aF.two (by assumption) (by assumption) | exact aF.one (by assumption))
 | exact aW.yes (aF.mono (by first | exact aF.nil (m:=0) | assumption | exact aF.three (by assumption) (by assumption) (by assumption) | exact aF.two (by assumption) (by assumption) | exact aF.one (by assumption)) (by omega))
 | exact h.dA _ _ _ (by first | exact aF.nil (m:=0) | exact aF.snoc (by assumption) (by first | assumption | exact(ht _).2) | exact aF.one (by first | assumption | exact(ht _).2)) (by omega)
 | refine aW.bd (h.dA _ _ _ (by first | exact aF.nil (m:=0) | exact aF.snoc (by assumption) (by first | assumption | exact(ht _).2) | exact aF.one (by first | assumption | exact(ht _).2)) (by omega)) (λa k ha=> ?_)
 | exact h.post _
 | refine aW.bd (h.post _) (λa k ha=> ?_)
 | refine aW.ite ?_ ?_)
theorem Fe (h:fl n p)(ht:∀k,rg (tk L k).n/\gi (tk L k).s)(hn:n<=200000):∀k,aW (pb L p k) bo.ok:=by
 intro k;unfold pb
 repeat' (first
 | exact aW.fail
 | exact aW.yes (by assumption)
 | exact aW.yes (la (by first | exact cM | exact(ht _).2 | assumption | (show _<_;decide)) (by first | exact aF.nil (m:=0) | assumption | exact aF.three (by assumption) (by assumption) (by assumption) | exact aF.two (by assumption) (by assumption) | exact aF.one (by assumption)) (by omega))
 | exact h.post _
 | refine aW.bd (h.post _) (λa k ha=> ?_)
 | exact xU h ht hn _ _ _ (by first | exact aF.nil (m:=0) | exact aF.snoc (by assumption) (by first | assumption | exact(ht _).2) | exact aF.one (by first | assumption | exact(ht _).2)) (by omega)
 | refine aW.bd (xU h ht hn _ _ _ (by first | exact aF.nil (m:=0) | exact aF.snoc (by assumption) (by first | assumption | exact(ht _).2) | exact aF.one (by first | assumption | exact(ht _).2)) (by omega)) (λa k ha=> ?_)
 | refine aW.ite ?_ ?_)
theorem Sx (h:fl n p)(ht:∀k,rg (tk L k).n/\gi (tk L k).s)(hn:n<=200000):∀k,aW (xu L p k) bo.ok:=by
 intro k;unfold xu
 repeat' (first
 | exact aW.fail
 | exact aW.yes (by assumption)
 | exact aW.yes (la (by first | exact cM | exact(ht _).2 | assumption | (show _<_;decide)) (by first | exact aF.nil (m:=0) | assumption | exact aF.three (by assumption) (by assumption) (by assumption) | exact aF.two (by assumption) (by assumption) | exact aF.one (by assumption)) (by omega))
 | exact h.dT _
 | refine aW.bd (h.dT _) (λa k ha=> ?_)
 | exact Fe h ht hn _
 | refine aW.bd (Fe h ht hn _) (λa k ha=> ?_)
 | refine aW.ite ?_ ?_)
theorem BI (h:fl n p)(ht:∀k,rg (tk L k).n/\gi (tk L k).s)(hn:n<=200000):∀l k m,aF bo.ok m l->m+(n+1)<=300000->aW (oG L p l k) (aF bo.ok 300000):=by
 intro l k m hl hm;unfold oG
 repeat' (first
 | exact aW.fail
 | exact aW.yes (aF.mono (aF.nil (m:=0)) (by omega))
 | exact aW.yes (aF.mono (aF.one (ht _).2) (by omega))
 | exact aW.yes (aF.mono (by assumption) (by omega))
 | exact aW.yes (by first | exact aF.nil (m:=0) | assumption | exact aF.three (by assumption) (by assumption) (by assumption) | exact aF.two (by assumption) (by assumption) | exact aF.one (by assumption))
 | exact aW.yes (aF.mono (by first | exact aF.nil (m:=0) | assumption | exact aF.three (by assumption) (by assumption) (by assumption) | exact aF.two (by assumption) (by assumption) | exact aF.one (by assumption)) (by omega))
 | exact h.dT _
 | refine aW.bd (h.dT _) (λa k ha=> ?_)
 | exact h.mC _ _ _ (by first | exact aF.nil (m:=0) | exact aF.snoc (by assumption) (by first | assumption | exact(ht _).2) | exact aF.one (by first | assumption | exact(ht _).2)) (by omega)
 | refine aW.bd (h.mC _ _ _ (by first | exact aF.nil (m:=0) | exact aF.snoc (by assumption) (by first | assumption | exact(ht _).2) | exact aF.one (by first | assumption | exact(ht _).2)) (by omega)) (λa k ha=> ?_)
 | refine aW.ite ?_ ?_)
theorem Ff (h:fl n p)(ht:∀k,rg (tk L k).n/\gi (tk L k).s)(hn:n<=200000):∀k,aW (pc L p k) bo.ok:=by
 intro k;unfold pc
 repeat' (first
 | exact aW.fail
 | exact aW.yes (by assumption)
 | exact aW.yes (la (by first | exact cM | exact(ht _).2 | assumption | (show _<_;decide)) (by first | exact aF.nil (m:=0) | assumption | exact aF.three (by assumption) (by assumption) (by assumption) | exact aF.two (by assumption) (by assumption) | exact aF.one (by assumption)) (by omega))
 | refine aW.aZ (λk=> ?_)
 | exact h.dT _
 | refine aW.bd (h.dT _) (λa k ha=> ?_)
 | exact BI h ht hn _ _ _ (by first | exact aF.nil (m:=0) | exact aF.snoc (by assumption) (by first | assumption | exact(ht _).2) | exact aF.one (by first | assumption | exact(ht _).2)) (by omega)
 | refine aW.bd (BI h ht hn _ _ _ (by first | exact aF.nil (m:=0) | exact aF.snoc (by assumption) (by first | assumption | exact(ht _).2) | exact aF.one (by first | assumption | exact(ht _).2)) (by omega)) (λa k ha=> ?_)
 | refine aW.ite ?_ ?_)
theorem xV (h:fl n p)(ht:∀k,rg (tk L k).n/\gi (tk L k).s)(hn:n<=200000):∀a k,a.ok->aW (ka L p a k) bo.ok:=by
 intro a k ha;unfold ka
 repeat' (first
 | exact aW.fail
 | exact aW.yes (by assumption)
 | exact aW.yes (la (by first | exact cM | exact(ht _).2 | assumption | (show _<_;decide)) (by first | exact aF.nil (m:=0) | assumption | exact aF.three (by assumption) (by assumption) (by assumption) | exact aF.two (by assumption) (by assumption) | exact aF.one (by assumption)) (by omega))
 | exact h.cP _ _ (by first | assumption | exact la (by first | exact cM | exact(ht _).2 | assumption | (show _<_;decide)) (by first | exact aF.nil (m:=0) | assumption | exact aF.three (by assumption) (by assumption) (by assumption) | exact aF.two (by assumption) (by assumption) | exact aF.one (by assumption)) (by omega) | exact fk gC (by first | exact cM | exact(ht _).2 | assumption | (show _<_;decide)) (by first | exact aF.nil (m:=0) | assumption | exact aF.three (by assumption) (by assumption) (by assumption) | exact aF.two (by assumption) (by assumption) | exact aF.one (by assumption)) (by omega) (aF.nil (m:=0)) (by omega) (aF.nil (m:=0)) (by omega))
 | refine aW.bd (h.cP _ _ (by first | assumption | exact la (by first | exact cM | exact(ht _).2 | assumption | (show _<_;decide)) (by first | exact aF.nil (m:=0) | assumption | exact aF.three (by assumption) (by assumption) (by assumption) | exact aF.two (by assumption) (by assumption) | exact aF.one (by assumption)) (by omega) | exact fk gC (by first | exact cM | exact(ht _).2 | assumption | (show _<_;decide)) (by first | exact aF.nil (m:=0) | assumption | exact aF.three (by assumption) (by assumption) (by assumption) | exact aF.two (by assumption) (by assumption) | exact aF.one (by assumption)) (by omega) (aF.nil (m:=0)) (by omega) (aF.nil (m:=0)) (by omega))) (λa k ha=> ?_)
 | refine aW.ite ?_ ?_)
theorem Nh (h:fl n p)(ht:∀k,rg (tk L k).n/\gi (tk L k).s)(hn:n<=200000):∀k,aW (np L p k) bo.ok:=by
 intro k;unfold np
 repeat' (first
 | exact aW.fail
 | exact aW.yes (by assumption)
 | exact aW.yes (la (by first | exact cM | exact(ht _).2 | assumption | (show _<_;decide)) (by first | exact aF.nil (m:=0) | assumption | exact aF.three (by assumption) (by assumption) (by assumption) | exact aF.two (by assumption) (by assumption) | exact aF.one (by assumption)) (by omega))
 | exact Ff h ht hn _
 | refine aW.bd (Ff h ht hn _) (λa k ha=> ?_)
 | exact xV h ht hn _ _ (by assumption)
 | refine aW.bd (xV h ht hn _ _ (by assumption)) (λa k ha=> ?_)
 | refine aW.ite ?_ ?_)
theorem Sy (h:fl n p)(ht:∀k,rg (tk L k).n/\gi (tk L k).s)(hn:n<=200000):∀k,aW (xw L p k) da.ok:=by
 intro k;unfold xw
 repeat' (first
 | exact aW.fail
 | exact aW.yes (J0 (by first | exact cM | exact(ht _).2 | assumption | (show _<_;decide)) (by first | exact aF.nil (m:=0) | assumption | exact aF.three (by assumption) (by assumption) (by assumption) | exact aF.two (by assumption) (by assumption) | exact aF.one (by assumption)) (by omega))
 | refine aW.bC (λj k=> ?_)
 | exact h.dT _
 | refine aW.bd (h.dT _) (λa k ha=> ?_)
 | refine aW.ite ?_ ?_)
theorem BJ (h:fl n p)(ht:∀k,rg (tk L k).n/\gi (tk L k).s)(hn:n<=200000):∀l k m,aF Fn.ok m l->m+(n+1)<=300000->aW (tM L p l k) (aF Fn.ok 300000):=by
 intro l k m hl hm;unfold tM
 repeat' (first
 | exact aW.fail
 | exact aW.yes (aF.mono (aF.nil (m:=0)) (by omega))
 | exact aW.yes (aF.mono (aF.one (ht _).2) (by omega))
 | exact aW.yes (aF.mono (by assumption) (by omega))
 | exact aW.yes (by first | exact aF.nil (m:=0) | assumption | exact aF.three (by assumption) (by assumption) (by assumption) | exact aF.two (by assumption) (by assumption) | exact aF.one (by assumption))
 | exact aW.yes (aF.mono (by first | exact aF.nil (m:=0) | assumption | exact aF.three (by assumption) (by assumption) (by assumption) | exact aF.two (by assumption) (by assumption) | exact aF.one (by assumption)) (by omega))
 | exact h.fA _ _ _ (by first | exact aF.nil (m:=0) | exact aF.snoc (by assumption) (by first | assumption | exact(ht _).2) | exact aF.one (by first | assumption | exact(ht _).2)) (by omega)
 | refine aW.bd (h.fA _ _ _ (by first | exact aF.nil (m:=0) | exact aF.snoc (by assumption) (by first | assumption | exact(ht _).2) | exact aF.one (by first | assumption | exact(ht _).2)) (by omega)) (λa k ha=> ?_)
 | exact h.fn _
 | refine aW.bd (h.fn _) (λa k ha=> ?_)
 | refine aW.ite ?_ ?_)
theorem Ni (h:fl n p)(ht:∀k,rg (tk L k).n/\gi (tk L k).s)(hn:n<=200000):∀k,aW (nq L p k) Fc:=by
 intro k;unfold nq
 repeat' (first
 | exact aW.fail
 | exact aW.yes (λx e=>by first | (cases e;done) | (cases e;exact BF (by first | assumption | exact J1) (by first | assumption | exact Pe) (by first | exact aF.nil (m:=0) | assumption | exact aF.three (by assumption) (by assumption) (by assumption) | exact aF.two (by assumption) (by assumption) | exact aF.one (by assumption)) (by omega) (by first | assumption | exact J2) (by first | assumption | exact J3)))
 | refine aW.aZ (λk=> ?_)
 | exact h.exp _
 | refine aW.bd (h.exp _) (λa k ha=> ?_)
 | exact h.pat _
 | refine aW.bd (h.pat _) (λa k ha=> ?_)
 | exact h.fn _
 | refine aW.bd (h.fn _) (λa k ha=> ?_)
 | exact BJ h ht hn _ _ _ (by first | exact aF.nil (m:=0) | exact aF.snoc (by assumption) (by first | assumption | exact(ht _).2) | exact aF.one (by first | assumption | exact(ht _).2)) (by omega)
 | refine aW.bd (BJ h ht hn _ _ _ (by first | exact aF.nil (m:=0) | exact aF.snoc (by assumption) (by first | assumption | exact(ht _).2) | exact aF.one (by first | assumption | exact(ht _).2)) (by omega)) (λa k ha=> ?_)
 | refine aW.ite ?_ ?_)
theorem BK (h:fl n p)(ht:∀k,rg (tk L k).n/\gi (tk L k).s)(hn:n<=200000):∀l k m,aF bh.ok m l->m+(n+1)<=300000->aW (tN L p l k) (aF bh.ok 300000):=by
 intro l k m hl hm;unfold tN
 repeat' (first
 | exact aW.fail
 | exact aW.yes (aF.mono (aF.nil (m:=0)) (by omega))
 | exact aW.yes (aF.mono (aF.one (ht _).2) (by omega))
 | exact aW.yes (aF.mono (by assumption) (by omega))
 | exact aW.yes (by first | exact aF.nil (m:=0) | assumption | exact aF.three (by assumption) (by assumption) (by assumption) | exact aF.two (by assumption) (by assumption) | exact aF.one (by assumption))
 | exact aW.yes (aF.mono (by first | exact aF.nil (m:=0) | assumption | exact aF.three (by assumption) (by assumption) (by assumption) | exact aF.two (by assumption) (by assumption) | exact aF.one (by assumption)) (by omega))
 | exact h.bw _
 | refine aW.bd (h.bw _) (λa k ha=> ?_)
 | exact h.mD _ _ _ (by first | exact aF.nil (m:=0) | exact aF.snoc (by assumption) (by first | assumption | exact(ht _).2) | exact aF.one (by first | assumption | exact(ht _).2)) (by omega)
 | refine aW.bd (h.mD _ _ _ (by first | exact aF.nil (m:=0) | exact aF.snoc (by assumption) (by first | assumption | exact(ht _).2) | exact aF.one (by first | assumption | exact(ht _).2)) (by omega)) (λa k ha=> ?_)
 | refine aW.ite ?_ ?_)
theorem Ve (h:fl n p)(ht:∀k,rg (tk L k).n/\gi (tk L k).s)(hn:n<=200000):∀k,aW (L0 L p k) Fn.ok:=by
 intro k;unfold L0
 repeat' (first
 | exact aW.fail
 | exact aW.yes (Vb (by first | exact cM | exact(ht _).2 | assumption | (show _<_;decide)) (by first | exact aF.nil (m:=0) | assumption | exact aF.three (by assumption) (by assumption) (by assumption) | exact aF.two (by assumption) (by assumption) | exact aF.one (by assumption)) (by omega) (by assumption))
 | refine aW.aZ (λk=> ?_)
 | refine aW.bC (λj k=> ?_)
 | exact h.exp _
 | refine aW.bd (h.exp _) (λa k ha=> ?_)
 | exact h.bw _
 | refine aW.bd (h.bw _) (λa k ha=> ?_)
 | exact BK h ht hn _ _ _ (by first | exact aF.nil (m:=0) | exact aF.snoc (by assumption) (by first | assumption | exact(ht _).2) | exact aF.one (by first | assumption | exact(ht _).2)) (by omega)
 | refine aW.bd (BK h ht hn _ _ _ (by first | exact aF.nil (m:=0) | exact aF.snoc (by assumption) (by first | assumption | exact(ht _).2) | exact aF.one (by first | assumption | exact(ht _).2)) (by omega)) (λa k ha=> ?_)
 | refine aW.ite ?_ ?_)
theorem SA (h:fl n p)(ht:∀k,rg (tk L k).n/\gi (tk L k).s)(hn:n<=200000):∀k,aW (xx L p k) Fc:=by
 intro k;unfold xx
 repeat' (first
 | exact aW.fail
 | exact aW.yes (λx e=>by first | (cases e;done) | (cases e;exact BF (by first | assumption | exact J1) (by first | assumption | exact Pe) (by first | exact aF.nil (m:=0) | assumption | exact aF.three (by assumption) (by assumption) (by assumption) | exact aF.two (by assumption) (by assumption) | exact aF.one (by assumption)) (by omega) (by first | assumption | exact J2) (by first | assumption | exact J3)))
 | exact h.dY _
 | refine aW.bd (h.dY _) (λa k ha=> ?_)
 | exact h.bind _
 | refine aW.bd (h.bind _) (λa k ha=> ?_)
 | exact h.data _
 | refine aW.bd (h.data _) (λa k ha=> ?_)
 | refine aW.ite ?_ ?_)
theorem BL (h:fl n p)(ht:∀k,rg (tk L k).n/\gi (tk L k).s)(hn:n<=200000):∀l k m,aF gi m l->m+(n+1)<=300000->aW (nr L p l k) (aF gi 300000):=by
 intro l k m hl hm;unfold nr
 repeat' (first
 | exact aW.fail
 | exact aW.yes (aF.mono (aF.nil (m:=0)) (by omega))
 | exact aW.yes (aF.mono (aF.one (ht _).2) (by omega))
 | exact aW.yes (aF.mono (by assumption) (by omega))
 | exact aW.yes (by first | exact aF.nil (m:=0) | assumption | exact aF.three (by assumption) (by assumption) (by assumption) | exact aF.two (by assumption) (by assumption) | exact aF.one (by assumption))
 | exact aW.yes (aF.mono (by first | exact aF.nil (m:=0) | assumption | exact aF.three (by assumption) (by assumption) (by assumption) | exact aF.two (by assumption) (by assumption) | exact aF.one (by assumption)) (by omega))
 | refine aW.bC (λj k=> ?_)
 | exact h.fB _ _ _ (by first | exact aF.nil (m:=0) | exact aF.snoc (by assumption) (by first | assumption | exact(ht _).2) | exact aF.one (by first | assumption | exact(ht _).2)) (by omega)
 | refine aW.bd (h.fB _ _ _ (by first | exact aF.nil (m:=0) | exact aF.snoc (by assumption) (by first | assumption | exact(ht _).2) | exact aF.one (by first | assumption | exact(ht _).2)) (by omega)) (λa k ha=> ?_)
 | refine aW.ite ?_ ?_)
theorem Fg (h:fl n p)(ht:∀k,rg (tk L k).n/\gi (tk L k).s)(hn:n<=200000):∀k,aW (pe L p k) (aF gi 300000):=by
 intro k;unfold pe
 repeat' (first
 | exact aW.fail
 | exact aW.yes (aF.mono (aF.nil (m:=0)) (by omega))
 | exact aW.yes (aF.mono (aF.one (ht _).2) (by omega))
 | exact aW.yes (aF.mono (by assumption) (by omega))
 | exact aW.yes (by first | exact aF.nil (m:=0) | assumption | exact aF.three (by assumption) (by assumption) (by assumption) | exact aF.two (by assumption) (by assumption) | exact aF.one (by assumption))
 | exact aW.yes (aF.mono (by first | exact aF.nil (m:=0) | assumption | exact aF.three (by assumption) (by assumption) (by assumption) | exact aF.two (by assumption) (by assumption) | exact aF.one (by assumption)) (by omega))
 | refine aW.aZ (λk=> ?_)
 | refine aW.bC (λj k=> ?_)
 | exact BL h ht hn _ _ _ (by first | exact aF.nil (m:=0) | exact aF.snoc (by assumption) (by first | assumption | exact(ht _).2) | exact aF.one (by first | assumption | exact(ht _).2)) (by omega)
 | refine aW.bd (BL h ht hn _ _ _ (by first | exact aF.nil (m:=0) | exact aF.snoc (by assumption) (by first | assumption | exact(ht _).2) | exact aF.one (by first | assumption | exact(ht _).2)) (by omega)) (λa k ha=> ?_)
 | refine aW.ite ?_ ?_)
theorem xW (h:fl n p)(ht:∀k,rg (tk L k).n/\gi (tk L k).s)(hn:n<=200000):∀l k m,aF da.ok m l->m+(n+1)<=300000->aW (iu L p l k) (aF da.ok 300000):=by
 intro l k m hl hm;unfold iu
 repeat' (first
 | exact aW.fail
 | exact aW.yes (aF.mono (aF.nil (m:=0)) (by omega))
 | exact aW.yes (aF.mono (aF.one (ht _).2) (by omega))
 | exact aW.yes (aF.mono (by assumption) (by omega))
 | exact aW.yes (by first | exact aF.nil (m:=0) | assumption | exact aF.three (by assumption) (by assumption) (by assumption) | exact aF.two (by assumption) (by assumption) | exact aF.one (by assumption))
 | exact aW.yes (aF.mono (by first | exact aF.nil (m:=0) | assumption | exact aF.three (by assumption) (by assumption) (by assumption) | exact aF.two (by assumption) (by assumption) | exact aF.one (by assumption)) (by omega))
 | exact h.dY _
 | refine aW.bd (h.dY _) (λa k ha=> ?_)
 | exact h.fC _ _ _ (by first | exact aF.nil (m:=0) | exact aF.snoc (by assumption) (by first | assumption | exact(ht _).2) | exact aF.one (by first | assumption | exact(ht _).2)) (by omega)
 | refine aW.bd (h.fC _ _ _ (by first | exact aF.nil (m:=0) | exact aF.snoc (by assumption) (by first | assumption | exact(ht _).2) | exact aF.one (by first | assumption | exact(ht _).2)) (by omega)) (λa k ha=> ?_)
 | refine aW.ite ?_ ?_)
theorem Nj (h:fl n p)(ht:∀k,rg (tk L k).n/\gi (tk L k).s)(hn:n<=200000):∀k,aW (nu L p k) Data.ok:=by
 intro k;unfold nu
 repeat' (first
 | exact aW.fail
 | exact aW.yes (Fb (by first | exact aF.nil (m:=0) | assumption | exact aF.three (by assumption) (by assumption) (by assumption) | exact aF.two (by assumption) (by assumption) | exact aF.one (by assumption)) (by omega) (by first | exact cM | exact(ht _).2 | assumption | (show _<_;decide)) (by first | exact aF.nil (m:=0) | assumption | exact aF.three (by assumption) (by assumption) (by assumption) | exact aF.two (by assumption) (by assumption) | exact aF.one (by assumption)) (by omega))
 | refine aW.aZ (λk=> ?_)
 | refine aW.bC (λj k=> ?_)
 | exact h.dY _
 | refine aW.bd (h.dY _) (λa k ha=> ?_)
 | exact Fg h ht hn _
 | refine aW.bd (Fg h ht hn _) (λa k ha=> ?_)
 | exact xW h ht hn _ _ _ (by first | exact aF.nil (m:=0) | exact aF.snoc (by assumption) (by first | assumption | exact(ht _).2) | exact aF.one (by first | assumption | exact(ht _).2)) (by omega)
 | refine aW.bd (xW h ht hn _ _ _ (by first | exact aF.nil (m:=0) | exact aF.snoc (by assumption) (by first | assumption | exact(ht _).2) | exact aF.one (by first | assumption | exact(ht _).2)) (by omega)) (λa k ha=> ?_)
 | refine aW.ite ?_ ?_)
theorem Nk (h:fl n p)(ht:∀k,rg (tk L k).n/\gi (tk L k).s)(hn:n<=200000):∀l k m,aF a_.ok m l->m+(n+1)<=300000->aW (nv L p l k) (aF a_.ok 300000):=by
 intro l k m hl hm;unfold nv;refine aW.ite (aW.yes (hl.mono (by omega))) (aW.bd (h.dec _) λd k hd=> ?_);cases d with
 | none=>exact aW.bd (h.exp _) λe k he=>h.bW _ _ _ (hl.snoc (BF J1 he (aF.nil (m:=0)) (by omega) J2 J3)) (by omega)
 | some d=>exact h.bW _ _ _ (hl.snoc (hd d rfl)) (by omega)
theorem SB (ht:pn L):∀n,n<=200000->fl n (ps L n)
 | 0,_=>by constructor<;>intros<;>exact aW.none
 | n+1,hn=>by
   have h:=SB ht n (by omega);have ht:=ht.tk;have hn:n<=200000:=by omega
   exact {
    exp:=Ss (L:=L) h ht hn
    fO:=Su (L:=L) h ht hn
    bin:=Sv (L:=L) h ht hn
    fy:=J4 (L:=L) h ht hn
    un:=Vc (L:=L) h ht hn
    fP:=BG (L:=L) h ht hn
    atom:=Ng (L:=L) h ht hn
    dQ:=tc (L:=L) h ht hn
    lt:=Vd (L:=L) h ht hn
    ga:=BH (L:=L) h ht hn
    pat:=Sw (L:=L) h ht hn
    bw:=J6 (L:=L) h ht hn
    fQ:=xT (L:=L) h ht hn
    dT:=Sx (L:=L) h ht hn
    dA:=xU (L:=L) h ht hn
    post:=Nh (L:=L) h ht hn
    mC:=BI (L:=L) h ht hn
    cP:=xV (L:=L) h ht hn
    dY:=Sy (L:=L) h ht hn
    bind:=Ni (L:=L) h ht hn
    fA:=BJ (L:=L) h ht hn
    fn:=Ve (L:=L) h ht hn
    mD:=BK (L:=L) h ht hn
    dec:=SA (L:=L) h ht hn
    data:=Nj (L:=L) h ht hn
    fB:=BL (L:=L) h ht hn
    fC:=xW (L:=L) h ht hn
    bW:=Nk (L:=L) h ht hn }
end
section
variable {nx0 nx nx' bp k:Nat}{H0 H H':T OB}{F A B G G':List Bx}{R:Go.Ev.Out->T OB->Nat->Prop}{b:Nat}{l:List Value}{e t:TypeId}{L:List Tok}
def Gd:iZ (List a_)->List a_×Int×Int
 | .bad a=>([],a,80)
 | .ok ds _=>if 100<fJ ds 0 then([],0,81)else(ds,0,0)
def mB (L:List Tok)(o:iZ (List a_)):List a_×Int×Int:=if L.all fp=true then Gd o else([],0,110)
def DV (ds:List a_)(v:Value):Prop:=v=bQ ds\/(ds=[]/\v=aC)
abbrev J7 (r:List a_×Int×Int):Go.Ev.Out->T OB->Nat->Prop:=λq _ _=>∃v,q= .ret (.tuple ⟨[v,i64 r.2.1,i64 r.2.2]⟩)/\DV r.1 v
theorem z4 {i:Nat}{t:Tok}(hg:L[i]? = some t)(hp:(L.take i).all fp=true)(ht:fp t=true):(L.take (i+1)).all fp=true:=by
 rw[List.take_add_one,hg,List.all_append,hp];simp[ht]
theorem xX {i:Nat}{t:Tok}(hg:L[i]? = some t)(ht:fp t=false):¬L.all fp=true:=λq=>by
 have:=List.all_eq_true.1 q t (List.mem_of_getElem? hg);rw[ht]at this;cases this
theorem XH {u:Value}:∃H',i_ H nx e (some u)= .val (ptr nx) H' (nx+1)/\cR H' nx u.cells.toList e/\Ag nx H (nx+1) H'/\∀b l e,b<nx->cR H b l e->cR H' b l e:=by
 obtain⟨o,H',nx',hA,⟨h1,h2,h3,h4⟩,hr⟩:=Wq.box (P:=P) (pl:=pl) (X:=X0) (R:=λo H2 nx2=>o= .ret (ptr nx)/\nx2=nx+1/\cR H2 nx u.cells.toList e/\∀b l e,b<nx->cR H b l e->cR H2 b l e) (k:=λv H nx=> .ret ⟨.ret v,false,H,nx⟩) (u:=u) (e:=e) (Ag.refl nx H) λH' hb dx hA=>Wq.ic hA ⟨rfl,rfl,hb,dx⟩;cases he:i_ H nx e (some u)with
 | val v H1 aE=>
   rw[he]at hr;have hr:some (⟨.ret v,false,H1,aE⟩:Rt)=some ⟨o,false,H',nx'⟩:=hr;cases hr;cases h1;subst h2;exact⟨_,rfl,h3,hA,h4⟩
 | _=>rw[he]at hr;cases hr
theorem J8 {x:eL}{v:Value}{k:Value->T OB->Nat->Q}(h:x= .val v H nx):ao x k=k v H nx:=by rw[h];rfl
def XI (x0:Value)(H:T OB)(nx:Nat):Q:=ao (au P H nx 24) (λx1 H nx=>ao (au P H nx 3) (λx2 H nx=>ao (au P H nx 25) (λx3 H nx=>aa (aN P #[29] 3 (some [x0])) (λx4=> .jump (zt x0 x1 x2 x3 x0 x4 (.int .i64 0) H nx)) .bad)))
theorem XJ (a0:Value)(H:T OB)(nx:Nat):aQ P pl (.call 15 [a0] false none H nx)=eg P 29 a0 H nx XI:=Yg a0 H nx
theorem Vf (v:Value)(hv:aA v=true):az P 73 (some [(0,fK L)])=some (.agg ⟨[fK L,i64 0]⟩):=bt (z:=[aC,i64 0]) (by kernel_rfl) (by kernel_rfl)
theorem X_ (hL:L.length<=100000)(hT:pn L){n:Nat}(hn:n<=90000){o:iZ (List a_)}(ho:(ps L n).bW [] 0=some o){x1 x2 x3:Nat}:∀(d i nx:Nat) (H:Go.Ev.T OB),i+d=L.length->(L.take i).all fp=true->Hp nx0 H0 [(x1,[aC],24),(x2,[i64 0],3),(x3,[i64 0],25)] H nx->
 aO P pl X0 (.jump (zt (fK L) (ptr x1) (ptr x2) (ptr x3) (fK L) (i64 (L.length:Int)) (i64 ((i:Nat):Int)) H nx)) nx0 H0 (J7 (mB L o))
 | d+1,i,nx,H,hd,hp,h=>by
   have hlt:i<L.length:=by omega
   have hg:L[i]? = some L[i]:=List.getElem?_eq_getElem hlt;have hx:(L.map Tok.v)[i]? = some L[i].v:=by simp[hg]
   refine Wq.jmp (N7 ..) (λ_=>rfl) ?_;simp only[af,aU hlt,Ds hx];refine Hq.var cB dy rfl rfl rfl h λH1 aE h1=> ?_;refine Hq.sJ (TX L[i] (by have:=(hT _ (List.mem_of_getElem? hg)).2;have h9:L[i].s.length<_:=this;omega)) h1 λH2 nx2 h2=> ?_;cases ht:fp L[i]with
   | false=>
     simp only[af,Bool.not_false];refine Hq.put [] h2 sk rfl rfl (by simp) rfl λH3 h3=> ?_;refine Hq.put [_] h3 jk rfl rfl (by simp) rfl λH4 h4=> ?_;refine Hq.put [_,_] h4 DK rfl rfl (by simp) rfl λH5 h5=> ?_;simp only[af,aw (off:=0) (u:=aC) (h5.at_ 0 rfl) kL rfl,aw (off:=0) (u:=i64 0) (h5.at_ 1 rfl) m_ rfl,aw (off:=0) (u:=i64 110) (h5.at_ 2 rfl) vC rfl];refine Wq.ic h5.ag ⟨aC,?_,?_⟩
     . unfold mB;rw[if_neg (xX hg ht)]
     . unfold mB;rw[if_neg (xX hg ht)];exact .inr ⟨rfl,rfl⟩
   | true=>
     simp only[af,Bool.not_true,aG (i:=i) (by omega)];exact X_ hL hT hn ho d (i+1) nx2 H2 (by omega) (z4 hg hp ht) h2
 | 0,i,nx,H,hd,hp,h=>by
   have hall:L.all fp=true:=by rwa[List.take_of_length_le (by omega)]at hp
   have hout:mB L o=Gd o:=by unfold mB;rw[if_pos hall]
   rw[hout];refine Wq.jmp (N7 ..) (λ_=>rfl) ?_;have hge:i=L.length:=by omega
   subst hge;simp only[af,aR,Vf (L:=L) aC rfl];obtain⟨H1,eb,hb,hA1,dx⟩:=XH (H:=H) (nx:=nx) (e:=73) (u:= .agg ⟨[fK L,i64 0]⟩);rw[J8 eb];have h2:Hp nx H (cQ nx L 0::[]) H1 (nx+1):=⟨h.uI.ag h.ag,hA1,by simp,λx hx=>by
    rw[List.mem_singleton]at hx;subst hx;exact⟨Nat.le_refl _,Nat.lt_succ_self _,hb⟩⟩
   refine Wq.gM rfl (aO.base h.ag (XD hL hn nx (nx+1) H H1 nx [] 0 o ho h2)) (λu H3 nx3 hA he=> ?_) (λu H3 nx3 hA he=> ?_)
   . have h4:=h.dx hA he.2.1 λb l e hb hi=>hi.ag he.2 hb;replace he:=he.1;cases o with
     | bad a=>cases he
     | ok ds k=>
       obtain⟨e1,h3⟩:=he;cases e1;have hok:=(SB hT n (by omega)).bW [] 0 0 aF.nil (by omega) ds k ho;refine Hq.put [] h4 sk rfl rfl (by simp) rfl λH5 h5=> ?_;simp only[af,aw (off:=0) (u:=bQ ds) (h5.at_ 0 rfl) kL rfl];refine Hq.call (T8 ds (hok.cX (by omega)) hok.2).2 h5 λH6 nx6 h6=> ?_;simp only[af];refine Wq.ite (λhi=> ?_) (λhi=> ?_)
       . refine Hq.put [] h6 sk rfl rfl (by simp) rfl λH7 h7=> ?_;refine Hq.put [_] h7 jk rfl rfl (by simp) rfl λH8 h8=> ?_;refine Hq.put [_,_] h8 DK rfl rfl (by simp) rfl λH9 h9=> ?_;refine Fa ?_;refine aO.cast (q':=aa (ae P H9 24 (some (ptr x1))) (λa=>aa (ae P H9 3 (some (ptr x2))) (λb=>aa (ae P H9 25 (some (ptr x3))) (λc=> .ret ⟨.ret (.tuple ⟨[a,b,c]⟩),false,H9,nx6⟩) .bad) .bad) .bad) (by kernel_rfl) ?_;simp only[af,aw (off:=0) (u:=aC) (h9.at_ 0 rfl) kL rfl,aw (off:=0) (u:=i64 0) (h9.at_ 1 rfl) m_ rfl,aw (off:=0) (u:=i64 81) (h9.at_ 2 rfl) vC rfl];have e9:Gd (.ok ds k)=([],0,81):=by
          show(if _ then _ else _)=_;rw[if_pos hi]
         rw[e9];exact Wq.ic h9.ag ⟨aC,rfl,.inr ⟨rfl,rfl⟩⟩
       . simp only[af,aw (off:=0) (u:=bQ ds) (h6.at_ 0 rfl) kL rfl];refine Hq.put [] h6 sk rfl rfl (by simp) rfl λH7 h7=> ?_;refine Hq.put [_] h7 jk rfl rfl (by simp) rfl λH8 h8=> ?_;refine Hq.put [_,_] h8 DK rfl rfl (by simp) rfl λH9 h9=> ?_;refine Fa ?_;refine aO.cast (q':=aa (ae P H9 24 (some (ptr x1))) (λa=>aa (ae P H9 3 (some (ptr x2))) (λb=>aa (ae P H9 25 (some (ptr x3))) (λc=> .ret ⟨.ret (.tuple ⟨[a,b,c]⟩),false,H9,nx6⟩) .bad) .bad) .bad) (by kernel_rfl) ?_;simp only[af,aw (off:=0) (u:=bQ ds) (h9.at_ 0 rfl) kL rfl,aw (off:=0) (u:=i64 0) (h9.at_ 1 rfl) m_ rfl,aw (off:=0) (u:=i64 0) (h9.at_ 2 rfl) vC rfl];have e9:Gd (.ok ds k)=(ds,0,0):=by
          show(if _ then _ else _)=_;rw[if_neg hi]
         rw[e9];exact Wq.ic h9.ag ⟨bQ ds,rfl,.inl rfl⟩
   . have h4:=h.dx hA he.2.1 λb l e hb hi=>hi.ag he.2 hb;replace he:=he.1;cases o with
     | ok a k'=>cases he.1
     | bad a=>
       cases he;refine Nf h4 λH9 nx9 h9=> ?_;refine aO.cast (q':=aa (ae P H9 24 (some (ptr x1))) (λa=>aa (ae P H9 3 (some (ptr x2))) (λb=>aa (ae P H9 25 (some (ptr x3))) (λc=> .ret ⟨.ret (.tuple ⟨[a,b,c]⟩),false,H9,nx9⟩) .bad) .bad) .bad) (by kernel_rfl) ?_;simp only[af,aw (off:=0) (u:=aC) (h9.at_ 0 rfl) kL rfl,aw (off:=0) (u:=i64 a) (h9.at_ 1 rfl) m_ rfl,aw (off:=0) (u:=i64 80) (h9.at_ 2 rfl) vC rfl];exact Wq.ic h9.ag ⟨aC,rfl,.inr ⟨rfl,rfl⟩⟩
theorem Zd (hT0:eG nx H)(hL:L.length<=100000)(hT:pn L){n:Nat}(hn:n<=90000){o:iZ (List a_)}(ho:(ps L n).bW [] 0=some o):aO P pl X0 (XI (fK L) H nx) nx H (J7 (mB L o)):=by
 unfold XI;refine Wq.alloc K5 (Ag.refl nx H) λH1 hb dx hA=> ?_;have h0:Hp nx H [] H nx:=⟨hT0,Ag.refl nx H,by simp,λx hx=>by simp at hx⟩;have h1:Hp nx H [(nx,[aC],24)] H1 (nx+1):=h0.new hb dx hA;refine Hq.alloc PO h1 λx2 H2 nx2 h2=> ?_;refine Hq.alloc K6 h2 λx3 H3 nx3 h3=> ?_;simp only[af,List.length_map];exact X_ hL hT hn ho L.length 0 nx3 H3 (by omega) rfl (Hp.swap' h3)
end
section
variable {nx0 nx nx' bp k:Nat}{H0 H H':T OB}{F A B G G':List Bx}{R:Go.Ev.Out->T OB->Nat->Prop}{b:Nat}{l:List Value}{e t:TypeId}{L:List Tok}{s s':bJ}{x:Bx}
structure XK (L:List Tok)(p:RP):Prop where
 exp:bf 39 L aH.v p.exp
 fO:E2 L p.fO
 b0:bf 70 L aH.v (p.bin 0)
 b1:bf 124 L aH.v (p.bin 1)
 b2:bf 161 L aH.v (p.bin 2)
 b3:bf 182 L aH.v (p.bin 3)
 b4:bf 191 L aH.v (p.bin 4)
 b5:bf 193 L aH.v (p.bin 5)
 b6:bf 194 L aH.v (p.bin 6)
 b7:bf 195 L aH.v (p.bin 7)
 un:bf 195 L aH.v p.un
 atom:bf 196 L aH.v p.atom
 lt:bf 198 L aH.v p.lt
 pat:bf 121 L bh.v p.pat
 bw:bf 160 L bh.v p.bw
 dT:bf 120 L bo.v p.dT
 post:bf 181 L bo.v p.post
 dY:bf 66 L da.v p.dY
 bind:bf 67 L gZ p.bind
 fn:bf 122 L Fn.v p.fn
 dec:bf 38 L gZ p.dec
 data:bf 65 L Data.v p.data
theorem SC (hL:L.length<=100000):∀n,n<=94001->∀j,j<=n->XK L (rp L j)
 | 0,_,j,hj=>by
   have:j=0:=by omega
   subst this;exact⟨bf.none,λnx0 nx H0 H bp F G s o kk l sl hl hG ho h=>(by cases ho),bf.none,bf.none,bf.none,bf.none,bf.none,bf.none,bf.none,bf.none,bf.none,bf.none,bf.none,bf.none,bf.none,bf.none,bf.none,bf.none,bf.none,bf.none,bf.none,bf.none⟩
 | n+1,hn,j,hj=>by
   have ih:=SC hL n (by omega)
   by_cases hjn:j<=n
   . exact ih j hjn
   . have:j=n+1:=by omega
     subst this;have i:=ih n (Nat.le_refl n);have hn':n<=94000:=by omega
     exact {
      exp:=Sl hL i.exp i.fO i.b0
      fO:=Sj hL hn' (λj hj=>(ih j hj).pat) (λj hj=>(ih j hj).exp)
      b0:=Si hL λj hj=>(ih j hj).b1
      b1:=MW hL λj hj=>(ih j hj).b2
      b2:=M0 hL i.b3 i.b2
      b3:=MX hL λj hj=>(ih j hj).b4
      b4:=M1 hL i.b5 i.b4
      b5:=MY hL λj hj=>(ih j hj).b6
      b6:=MZ hL λj hj=>(ih j hj).b7
      b7:=by
       have:(rp L (n+1)).bin 7=(rp L n).un:=by
        funext s;show iV L (rp L n) 7 s=_;unfold iV;rw[if_pos rfl]
       rw[this];exact i.un
      un:=M3 hL hn' (λj hj=>(ih j hj).atom) i.un
      atom:=M6 hL hn' (λj hj=>(ih j hj).exp) i.lt
      lt:=M7 hL hn' (λj hj=>(ih j hj).exp) (λj hj=>(ih j hj).bind)
      pat:=M8 hL i.bw i.pat
      bw:=M9 hL hn' (λj hj=>(ih j hj).pat)
      dT:=M_ hL (Na hL hn' λj hj=>(ih j hj).post) i.dT
      post:=Nb hL hn' (λj hj=>(ih j hj).dT)
      dY:=Sm hL i.dT
      bind:=Sn hL hn' i.pat i.exp (λj hj=>(ih j hj).fn)
      fn:=Nc hL hn' (λj hj=>(ih j hj).bw) i.exp
      dec:=Sp hL i.data i.dY i.bind
      data:=So hL hn' (λj hj=>(ih j hj).dY) }
def SD (c:aH):Value:= .agg ⟨[i64 5,i64 0,i64 0,aD [],aC,i64 c.k,i64 c.n,aD c.s,gm c.l,cD c.p,bQ c.d,aC,aC,aD [],aC,aD [],aC]⟩
def VD (v:Value)(d:a_):Prop:=v=d.v\/∃c,d=zP c/\v=SD c
theorem SE (c:aH)(hc:c.ok):P0 49 [SD c] (i64 (xd (zP c))):=Pure.of rfl λH nx=>by
 rw[XY];unfold SD;refine Wq.fH (.refl _ _) λhA=> ?_;simp only[af];refine Wq.jmp (AY ..) (λ_=>rfl) ?_;simp only[af];rw[show xd (zP c)=fN c from by rw[xf];rfl];have e:(Value.agg ⟨[i64 c.k,i64 c.n,aD c.s,gm c.l,cD c.p,bQ c.d]⟩)=c.v:=(aH.br c).symm;simp only[e,show decide ((5:Int)=1)=false from rfl,show decide ((5:Int)=5)=true from rfl,Go.Ev.mJ,Go.Ev.mI];refine Wq.call (xg.1 c hc) hA λH3 nx3 hA3=> ?_;refine Wq.jmp (HX ..) (λ_=>rfl) ?_;exact Wq.ret hA3
theorem SF {v:Value}{d:a_}(hv:VD v d)(hd:d.ok):P0 49 [v] (i64 (xd d)):=by
 rcases hv with rfl | ⟨c,rfl,rfl⟩
 . exact xg.2 d hd
 . exact SE c ((a_.ch _).1 hd).2.1
def Ge:List Value->List a_->Prop
 | [],[]=>True
 | v::vs,d::ds=>VD v d/\Ge vs ds
 | _,_=>False
theorem Ge.snoc {v:Value}{d:a_}:∀{vs:List Value} {ds:List a_},Ge vs ds->VD v d->Ge (vs++[v]) (ds++[d])
 | [],[],_,h=>⟨h,trivial⟩
 | _::_,_::_,h,h'=>⟨h.1,Ge.snoc h.2 h'⟩
theorem Ge.len:∀{vs:List Value} {ds:List a_},Ge vs ds->vs.length=ds.length
 | [],[],_=>rfl
 | _::_,_::_,h=>congrArg Nat.succ h.2.len
theorem Ge.get:∀{vs:List Value} {ds:List a_} {i:Nat} {d:a_},Ge vs ds->ds[i]? = some d->∃v,vs[i]? = some v/\VD v d
 | _::_,_::_,0,_,h,e=>by simp at e;subst e;exact⟨_,rfl,h.1⟩
 | _::_,_::_,i+1,_,h,e=>Ge.get (i:=i) h.2 e
 | [],[],_,_,_,e=>by simp at e
 | [],_::_,_,_,h,_=>h.elim
 | _::_,[],_,_,h,_=>h.elim
theorem g8 {n:Nat}:∀{vs:List Value} {i:Nat} {v:Value},pa true n vs->vs[i]? = some v->((cj vs).drop (i*n)).take n=v.cells.toList
 | w::vs,0,v,h,e=>by
   simp at e;subst e;show((w.cells.toList++cj vs).drop (0*n)).take n=_;rw[Nat.zero_mul,List.drop_zero,List.take_append_of_le_length (by rw[(h w (by simp)).1];exact Nat.le_refl _),<- (h w (by simp)).1,List.take_length]
 | w::vs,i+1,v,h,e=>by
   show((w.cells.toList++cj vs).drop ((i+1)*n)).take n=_;rw[Nat.add_mul,Nat.one_mul,Nat.add_comm,List.drop_append,show(w.cells.toList.drop (n+i*n))=[]from List.drop_eq_nil_of_le (by rw[(h w (by simp)).1];omega),List.nil_append,(h w (by simp)).1,Nat.add_sub_cancel_left];exact g8 (λx hx=>h x (by simp[hx])) (by simpa using e)
theorem Vg:eK P (some 24)=true:=by kernel_rfl
theorem XL {vs:List Value}{ds:List a_}{sv:Value}(hG:Gw true 17 57 vs sv G)(hv:Ge vs ds)(hl:ds.length<cX)(hok:∀d,d∈ds->d.ok):∀(r:List a_) (i:Nat) (n:Int) (nx:Nat) (H:Go.Ev.T OB),ds.drop i=r->i<=ds.length->Hp nx0 H0 (x::(G++F)) H nx->
 aO P pl X0 (.jump (zu sv (i64 n) (i64 ((i:Nat):Int)) H nx)) nx0 H0 (λo H nx=>o= .ret (i64 (fJ r n))/\Hp nx0 H0 (x::(G++F)) H nx):=by
 have hln:aN P #[24] 3 (some [sv])=some (i64 (ds.length:Int)):=by
  rw[<- hv.len];rcases hG.2 with⟨rfl,rfl,_⟩ | ⟨b,c,rfl,_⟩
  . rfl
  . exact dW Vg
 intro r
 induction r with
 | nil=>
   intro i n nx H hd hi h;have hil:=drop_nil hd hi;refine Wq.jmp (DM ..) (λ_=>rfl) ?_;simp only[af,hln,hil,aR];rw[fJ];exact fD h
 | cons d r ih=>
   intro i n nx H hd hi h;obtain⟨hg,hlt,hd'⟩:=drop_cons hd;obtain⟨v,hgv,hvd⟩:=hv.get hg;have hdo:=hok d (List.mem_of_getElem? hg);obtain⟨b,c,rfl,_,_,rfl⟩:∃b c,sv= .slice (some ⟨b,0,none⟩) vs.length c/\(c=fe\/c=vs.length)/\0<vs.length/\G=[(b,cj vs,57)]:=by
    rcases hG.2 with⟨rfl,_,_⟩ | q
    . simp at hgv
    . exact q
   have hlv:=(List.getElem?_eq_some_iff.1 hgv).1;have hp:ay P 24 (some (.slice (some ⟨b,0,none⟩) vs.length c)) (some (i64 ((i:Nat):Int)))=some (.pointer (some ⟨b,0+i*17,none⟩)):=jO (by kernel_rfl) hlv .i64;have hle:0+i*17+17<=(cj vs).length:=by rw[jS hG.1];omega
   have hld:ae P H 57 (some (.pointer (some ⟨b,0+i*17,none⟩)))=some v:=by
    rw[bY (h.at_ 1 rfl) fw dz hle,Nat.zero_add,g8 hG.1 hgv];obtain⟨_,_,q⟩:=hG.1 v (List.mem_of_getElem? hgv);rw[if_pos rfl]at q;obtain⟨cs,rfl⟩:=q;rfl
   refine Wq.jmp (DM ..) (λ_=>rfl) ?_;simp only[af,hln,aU hlt,hp,hld];refine Hq.call (SF hvd hdo) h λH2 nx2 h2=> ?_;simp only[af,Int.add_comm 1];refine Hq.call (lZ _ _) h2 λH3 nx3 h3=> ?_;rw[fJ];simp only[af,aG (show i<9223372036854775807 by have:=cU hl;omega)];exact ih (i+1) _ nx3 H3 hd' (by omega) h3
theorem td (H:T OB)(nx:Nat)(k:Value->T OB->Nat->Q):aX P 24 aC H nx k=k (bQ []) H nx:=by kernel_rfl
def BM (o:List a_×bJ):List a_×Int×Int:=match o.2.2 with
 | some a=>([],a,80)
 | none=>if 100<fJ o.1 0 then([],0,81)else(o.1,0,0)
abbrev te (r:List a_×Int×Int):Go.Ev.Out->T OB->Nat->Prop:=λq _ _=>q= .ret (.tuple ⟨[bQ r.1,i64 r.2.1,i64 r.2.2]⟩)
theorem J9 {ds:List a_}{vs:List Value}{sv:Value}(hG:Gw true 17 57 vs sv G)(hL:iN 0 k0 vs (ds.map a_.v) [])(hv:Ge vs ds)(hok:s.2=none->ds.length<cX/\∀d,d∈ds->d.ok)(h:Hp nx0 H0 (cq bp L s::(G++F)) H nx){q:Q}
 (hq:q=bK s.2.isSome (aX P 24 aC H nx λx30 H nx=> .ret ⟨.ret (.tuple ⟨[x30,i64 (s.2.getD 0),i64 80]⟩),false,H,nx⟩) (aj (.call 23 [sv] false none H nx) (λx31 H nx=>
  aa (ai P H .gtr 3 true (some x31) (some (.int .i64 100))) (λx32=>
  aB x32 (λb33=>bK b33
  (aX P 24 (.slice none 0 0) H nx (λx34 H nx=> .ret ⟨.ret (.tuple ⟨[x34,(.int .i64 0),(.int .i64 81)]⟩),false,H,nx⟩))
  (aX P 24 sv H nx (λx35 H nx=> .ret ⟨.ret (.tuple ⟨[x35,(.int .i64 0),(.int .i64 0)]⟩),false,H,nx⟩))) .bad) .bad) ar)):
 aO P pl X0 q nx0 H0 (te (BM (ds,s))):=by
 subst hq;unfold BM;cases hs:s.2 with
 | some a=>
   simp only[af,Option.isSome_some,td,Option.getD_some];exact Wq.ic h.ag rfl
 | none=>
   simp only[af,Option.isSome_none];refine Sq.dO rfl (F':=cq bp L s::(G++F)) (by
    rw[XX];exact XL hG hv (hok hs).1 (hok hs).2 ds 0 0 nx H rfl (Nat.zero_le _) h) λH1 aE h1=> ?_
   simp only[af];refine Wq.ite (λhi=> ?_) (λhi=> ?_)
   . simp only[af,td];refine Wq.ic h1.ag ?_;show _=Go.Ev.Out.ret (Value.tuple ⟨[bQ (if _ then _ else _:List a_×Int×Int).1,_,_]⟩);rw[if_pos hi]
   . refine z1 hG hL (by rw[hv.len]) h1 λH9 nx9 h9=> ?_;refine Wq.ic h9.ag ?_;show _=Go.Ev.Out.ret (Value.tuple ⟨[bQ (if _ then _ else _:List a_×Int×Int).1,_,_]⟩);rw[if_neg hi]
theorem J_ (hLL:L.length<=100000):∀(m:Nat),(∀j,j<m->bf 38 L gZ (rp L j).dec)->(∀j,j<m->bf 39 L aH.v (rp L j).exp)->∀(ds:List a_) (vs:List Value) (s:bJ) (sl:Value) (G:List Bx) (o:List a_×bJ) (nx:Nat) (H:Go.Ev.T OB),ds.length+m<=95000->Gw true 17 57 vs sl G->iN 0 k0 vs (ds.map a_.v) []->Ge vs ds->
 (rp L m).bW ds s=some o->(o.2.2=none->o.1.length<cX/\∀d,d∈o.1->d.ok)->Hp nx0 H0 (cq bp L s::(G++F)) H nx->aO P pl X0 (.jump (vH (ptr bp) sl H nx)) nx0 H0 (te (BM o))
 | 0,_,_,ds,vs,s,sl,G,o,nx,H,hm,hG,hL,hv,ho,hok,h=>by cases ho
 | m+1,hd,he,ds,vs,s,sl,G,o,nx,H,hm,hG,hL,hv,ho,hok,h=>by
   have ho:sV L (rp L m) ds s=some o:=ho;unfold sV at ho;have J28:∀(cs:List Value) (d:a_) (s':bJ) (x1 nx2:Nat) (H2:Go.Ev.T OB),cs.length=17->cs.all aA=true->gB 0 k0 (.agg ⟨cs⟩) d.v []->VD (.agg ⟨cs⟩) d->(rp L m).bW (ds++[d]) (jo L [59] s')=some o->Hp nx0 H0 (cq bp L s'::(x1,cs,57)::(G++F)) H2 nx2->aO P pl X0 (.jump (vI (ptr bp) sl (ptr x1) H2 nx2)) nx0 H0 (te (BM o)):=by
    intro cs d s' x1 nx2 H2 hc h1 hz hvd ho2 h2;refine Wq.jmp (PY ..) (λ_=>rfl) ?_;simp only[af,EK (h2.at_ 1 rfl) hc];refine Hq.qy cs hc h2 λx H3 nx3 h3=> ?_;refine Hq.add [_] (v:= .agg ⟨cs⟩) gu dz (JC (by rw[hv.len];omega)) (by rw[hv.len];omega) (λv hv=>by rw[List.mem_singleton]at hv;subst hv;exact⟨hc,h1,⟨_,rfl⟩⟩) hG h3 λsl' G' H4 nx4 hG' h4=> ?_;refine Rq.O_ hLL (Hp.jm h4) λbb H5 nx5 h5=> ?_;simp only[af];exact J_ hLL m (λj hj=>hd j (by omega)) (λj hj=>he j (by omega)) (ds++[d]) (vs++[.agg ⟨cs⟩]) _ sl' G' o nx5 H5 (by rw[List.length_append];simp;omega) hG' (by rw[List.map_append];exact hL.snoc hz) (hv.snoc hvd) ho2 hok h5
   refine Wq.jmp (PX ..) (λ_=>rfl) ?_;cases hs:s.2 with
   | some a=>
     rw[if_pos (by rw[hs];rfl)]at ho;cases ho;simp only[af,tb h,hs,Option.isSome_some,Bool.not_true,X6 h];refine J9 hG hL hv hok h ?_;rw[hs];rfl
   | none=>
     rw[if_neg (by rw[hs];simp)]at ho;simp only[af,tb h,hs,Option.isSome_none,Bool.not_false];refine Rq.now h λH1 aE h1=> ?_;simp only[af];refine Wq.bK (λhi=> ?_) (λhi=> ?_)
     . have hne:¬(tk L s.1).k=0:=by simpa using hi
       rw[if_neg hne]at ho;refine Rq.call (hd m (Nat.lt_succ_self m)) rfl h1 ho λd s' H2 nx2 _ ho h2=> ?_;unfold gZ;simp only[af,F9,F_];refine Hq.alloc cW h2 λx1 H3 nx3 h3=> ?_;refine Hq.set [_] h3 dz rfl (d.getD kU).len ((d.getD kU).fR (d.getD kU).v (by simp)).2.1 λH4 h4=> ?_
       cases d with
       | some d=>
         simp only[af,Option.isSome_some,Bool.not_true];exact J28 _ d s' x1 _ H4 d.len (d.fR d.v (by simp)).2.1 d.fz (.inl rfl) ho h4
       | none=>
         simp only[af,Option.isSome_none,Bool.not_false];refine Rq.call (he m (Nat.lt_succ_self m)) rfl h4 ho λc s2 H5 nx5 _ ho h5=> ?_;refine Hq.gV h5 λH6 nx6 h6=> ?_;simp only[af,pj,zZ];refine Hq.set [_] h6 dz (kU.len) rfl rfl λH7 h7=> ?_
         exact J28 _ (zP c) s2 x1 _ H7 rfl rfl a_.O7 (.inr ⟨c,rfl,rfl⟩) ho h7
     . have h0:(tk L s.1).k=0:=by simpa using hi
       rw[if_pos h0]at ho;cases ho;simp only[af,tb h1,hs,Option.isSome_none,X6 h1];refine J9 hG hL hv hok h1 ?_;rw[hs];rfl
theorem Vh:az P 77 (some [(0,fK L)])=some (.agg ⟨[fK L,i64 0,.bool false,i64 0]⟩):=bt (z:=[aC,i64 0,.bool false,i64 0]) (by kernel_rfl) (by kernel_rfl)
theorem Ya (hL:L.length<=100000)(hR:∀t,t∈L->P0 36 [t.v] (.bool (fp t))){n:Nat}(hn:n<=94000){o:List a_×bJ}(ho:(rp L n).bW [] (0,none)=some o)(hok:o.2.2=none->o.1.length<cX/\∀d,d∈o.1->d.ok)(hT:eG nx0 H0):∀(d i nx:Nat) (H:Go.Ev.T OB),i+d=L.length->(L.take i).all fp=true->Ag nx0 H0 nx H->
 aO P pl X0 (.jump (DL (fK L) (i64 ((i:Nat):Int)) H nx)) nx0 H0 (te (if L.all fp=true then BM o else([],0,110)))
 | d+1,i,nx,H,hd,hp,hA=>by
   have hlt:i<L.length:=by omega
   have hg:L[i]? = some L[i]:=List.getElem?_eq_getElem hlt;have hx:(L.map Tok.v)[i]? = some L[i].v:=by simp[hg]
   refine Wq.jmp (N8 ..) (λ_=>rfl) ?_;simp only[af,List.length_map,aU hlt,Ds hx];refine Wq.call (hR L[i] (List.mem_of_getElem? hg)) hA λH2 nx2 hA2=> ?_;cases ht:fp L[i]with
   | false=>
     simp only[af,Bool.not_false,td];refine Wq.ic hA2 ?_;rw[if_neg (xX hg ht)]
   | true=>
     simp only[af,Bool.not_true,aG (i:=i) (by omega)];exact Ya hL hR hn ho hok hT d (i+1) nx2 H2 (by omega) (z4 hg hp ht) hA2
 | 0,i,nx,H,hd,hp,hA=>by
   have hall:L.all fp=true:=by rwa[List.take_of_length_le (by omega)]at hp
   rw[if_pos hall];refine Wq.jmp (N8 ..) (λ_=>rfl) ?_;have hge:i=L.length:=by omega
   subst hge;simp only[af,List.length_map,aR,Vh];refine Wq.box hA λH1 hb dx hA1=> ?_;have h0:Hp nx0 H0 [] H nx:=⟨hT,hA,by simp,λx hx=>by simp at hx⟩;have h1:Hp nx0 H0 (cq nx L (0,none)::([]++[])) H1 (nx+1):=h0.new hb dx hA1;exact J_ hL n (λj hj=>(SC hL n (by omega) j (by omega)).dec) (λj hj=>(SC hL n (by omega) j (by omega)).exp) [] [] (0,none) aC [] o (nx+1) H1 (by simp;omega) (Gw.nil _ _ _) iN.nil trivial ho hok h1
end
section
variable {nx0:Nat}{H0:T OB}
def dv (c:UInt8):Nat:=c.toNat-48
def gf:Nat->List UInt8->Option Nat
 | n,[]=>some n
 | n,c::r=>if bH c=true/\n<=(4611686018427387903-dv c)/10 then gf (n*10+dv c) r else none
def Nl (s:List UInt8):Option Nat->Value
 | some m=> .tuple ⟨[i64 (m:Int),.bool (!decide (s=[]))]⟩
 | none=> .tuple ⟨[i64 0,.bool false]⟩
theorem g_ {c:UInt8}:bH c=true↔48<=c.toNat/\c.toNat<=57:=by unfold bH;simp
theorem XM {c:UInt8}(h:bH c=true):IntKind.u8.wrap ((c.toNat:Int)-48)=(dv c:Int):=by
 rw[g_]at h;rw[wrap_u8];unfold dv;omega
theorem Fh {c:UInt8}(h:bH c=true):dv c<=9:=by
 rw[g_]at h;unfold dv;omega
theorem Ka (s:List UInt8)(hl:s.length<cX):∀(r:List UInt8) (i n:Nat) (H:T OB) (nx:Nat),s.drop i=r->i<=s.length->n<=4611686018427387903->Ag nx0 H0 nx H->
 Wq P pl X0 (.jump (wG (aD s) (i64 (n:Int)) (i64 (i:Int)) H nx)) nx0 H0 (Nl s (gf n r)):=by
 intro r
 induction r with
 | nil=>
   intro i n H nx hd hi h1 hA;have hil:=drop_nil hd hi;refine Wq.jmp (Iv ..) (λ_=>rfl) ?_;simp only[af,aK _ aV,aP,hil,aR,dn];exact Wq.ret hA
 | cons c r ih=>
   intro i n H nx hd hi h1 hA;obtain⟨hg,hlt,hd'⟩:=drop_cons hd;have L14:∀(b:Bool) H1 aE,Ag nx0 H0 aE H1->(b=false↔bH c=true/\n<=(4611686018427387903-dv c)/10)->Wq P pl X0 (.jump (pU (aD s) (i64 (n:Int)) (i64 (i:Int)) b H1 aE)) nx0 H0 (Nl s (gf n (c::r))):=by
    intro b H1 aE hA1 hb;refine Wq.jmp (Le ..) (λ_=>rfl) ?_;rw[gf];cases b with
    | true=>
      rw[if_neg (λq=>by have:=hb.2 q;cases this)];exact Wq.ret hA1
    | false=>
      have hc:=hb.1 rfl;rw[if_pos hc];have h9:=Fh hc.1;have h10:=hc.2;have e1:IntKind.i64.wrap ((n:Int)*10)=((n*10:Nat):Int):=by rw[bk (by omega)];omega
      have e2:IntKind.i64.wrap (dv c:Int)=(dv c:Int):=bk (by omega);have e3:IntKind.i64.wrap (((n*10:Nat):Int)+(dv c:Int))=((n*10+dv c:Nat):Int):=by rw[bk (by omega)];omega
      simp only[af,a9 aV hg,Bc,aG (show i<9223372036854775807 by have:=cU hl;omega),XM hc.1,e1,e2,e3];exact ih (i+1) _ H1 aE hd' (by omega) (by omega) hA1
   refine Wq.jmp (Iv ..) (λ_=>rfl) ?_;simp only[af,aK _ aV,aP,aU hlt,a9 aV hg];refine Wq.call (xj c) hA λH1 aE hA1=> ?_;cases hdg:bH c with
   | false=>
     simp only[af,Bool.not_false];exact L14 _ _ _ hA1 (by simp[hdg])
   | true=>
     have h9:=Fh hdg;have e2:IntKind.i64.wrap (dv c:Int)=(dv c:Int):=bk (by omega);have e4:IntKind.i64.wrap (4611686018427387903-(dv c:Int))=((4611686018427387903-dv c:Nat):Int):=by rw[bk (by omega)];omega
     have e5:IntKind.i64.wrap (((4611686018427387903-dv c:Nat):Int).tdiv 10)=(((4611686018427387903-dv c)/10:Nat):Int):=by
      rw[show((4611686018427387903-dv c:Nat):Int).tdiv 10=(((4611686018427387903-dv c)/10:Nat):Int)from rfl,bk (by omega)]
     simp only[af,Bool.not_true,Bc,XM hdg,e2,e4,Jn,e5];refine L14 _ _ _ hA1 ?_;rw[decide_eq_false_iff_not];simp only[hdg,true_and];omega
theorem SG (s:List UInt8)(hl:s.length<cX):P0 110 [aD s] (Nl s (gf 0 s)):=Pure.of rfl λH nx=>by
 rw[We];exact Ka s hl s 0 0 H nx rfl (Nat.zero_le _) (by omega) (.refl _ _)
def cJ (c:UInt8):Int:=if bH c=true then(c.toNat:Int)-48 else if(decide (65<=c.toNat)&&decide (c.toNat<=70))=true then(c.toNat:Int)-55 else -1
theorem qJ (c:UInt8): -1<=cJ c/\cJ c<16:=by
 unfold cJ;split
 . rename_i h;rw[g_]at h;omega
 . split
   . rename_i h h2;simp only[Bool.and_eq_true,decide_eq_true_eq]at h2;omega
   . omega
theorem xY (c:UInt8):P0 180 [b8 c] (i64 (cJ c)):=Pure.of rfl λH nx=>by
 rw[WW];refine Wq.call (xj c) (.refl _ _) λH1 aE hA1=> ?_;have hc:=c.toNat_lt;have e0:IntKind.i64.wrap (c.toNat:Int)=(c.toNat:Int):=bk (by omega);unfold cJ;simp only[af,Bd,e0];refine Wq.bK (λh=> ?_) (λh=> ?_)
 . rw[if_pos h];rw[show IntKind.i64.wrap ((c.toNat:Int)-48)=(c.toNat:Int)-48 from bk (by omega)];exact Wq.ret hA1
 rw[if_neg (by rw[h];decide)];refine Wq.call (xh c 65 70) hA1 λH2 nx2 hA2=> ?_;simp only[af];refine Wq.bK (λh=> ?_) (λh=> ?_)
 . rw[if_pos h];rw[show IntKind.i64.wrap ((c.toNat:Int)-65)=(c.toNat:Int)-65 from bk (by omega),show IntKind.i64.wrap ((c.toNat:Int)-65+10)=(c.toNat:Int)-55 from by rw[bk (by omega)];omega];exact Wq.ret hA2
 rw[if_neg (by rw[h];decide)];exact Wq.ret hA2
def BN:List UInt8->UInt8×Nat
 | y::z::_=>if 0<=cJ y/\0<=cJ z then(UInt8.ofNat (16*cJ y+cJ z).toNat,4)else(0,0)
 | _=>(0,0)
def gP:List UInt8->UInt8×Nat
 | []=>(0,0)
 | x::t=>if x.toNat=34 then(34,2)else if x.toNat=92 then(92,2)else if x.toNat=110 then(10,2)else if x.toNat=116 then(9,2)else if x.toNat=120 then BN t else(0,0)
def cA:List UInt8->UInt8×Nat
 | []=>(0,0)
 | a::t=>if a.toNat<32\/126<a.toNat\/a.toNat=34 then(0,0)else if a.toNat=92 then gP t else(a,1)
theorem dh (x:UInt8)(t:List UInt8):gP (x::t)=if x.toNat=34 then(34,2)else if x.toNat=92 then(92,2)else if x.toNat=110 then(10,2)else if x.toNat=116 then(9,2)else if x.toNat=120 then BN t else(0,0):=rfl
theorem fc (a:UInt8)(t:List UInt8):cA (a::t)=if a.toNat<32\/126<a.toNat\/a.toNat=34 then(0,0)else if a.toNat=92 then gP t else(a,1):=rfl
theorem qK (s:List UInt8):(cA s).2<=s.length:=by
 cases s with
 | nil=>exact Nat.zero_le _
 | cons a t=>
   rw[fc]
   by_cases h1:a.toNat<32\/126<a.toNat\/a.toNat=34
   . rw[if_pos h1];exact Nat.zero_le _
   rw[if_neg h1]
   by_cases h2:a.toNat=92
   . rw[if_pos h2];cases t with
     | nil=>exact Nat.zero_le _
     | cons x t=>
       rw[dh];have h22:2<=(a::x::t).length:=by simp
       by_cases h3:x.toNat=34
       . rw[if_pos h3];exact h22
       rw[if_neg h3]
       by_cases h3:x.toNat=92
       . rw[if_pos h3];exact h22
       rw[if_neg h3]
       by_cases h3:x.toNat=110
       . rw[if_pos h3];exact h22
       rw[if_neg h3]
       by_cases h3:x.toNat=116
       . rw[if_pos h3];exact h22
       rw[if_neg h3]
       by_cases h3:x.toNat=120
       . rw[if_pos h3]
         match t with
         | []=>exact Nat.zero_le _
         | [_]=>exact Nat.zero_le _
         | y::z::r=>
           show(if 0<=cJ y/\0<=cJ z then _ else _:UInt8×Nat).2<=_
           by_cases h4:0<=cJ y/\0<=cJ z
           . rw[if_pos h4];show 4<=(a::x::y::z::r).length;simp
           . rw[if_neg h4];exact Nat.zero_le _
       . rw[if_neg h3];exact Nat.zero_le _
   . rw[if_neg h2];show 1<=(a::t).length;simp
abbrev Kb (p:UInt8×Nat):Value:= .tuple ⟨[b8 p.1,i64 (p.2:Int)]⟩
theorem SH (s:List UInt8)(hs:s≠[])(hl:s.length<cX):P0 155 [aD s] (Kb (cA s)):=Pure.of rfl λH nx=>by
 rw[WI];have hA:=Ag.refl nx H;obtain⟨a,t,rfl⟩:∃a t,s=a::t:=by cases s with
  | nil=>exact absurd rfl hs
  | cons a t=>exact⟨a,t,rfl⟩
 have L36f:∀H1 aE,Ag nx H aE H1->cA (a::t)=(0,0)->Wq P pl X0 (.jump (lx (aD (a::t)) false H1 aE)) nx H (Kb (cA (a::t))):=by
  intro H1 aE hA1 hb;refine Wq.jmp (D6 ..) (λ_=>rfl) ?_;rw[hb];exact Wq.ret hA1
 have L6:∀(b:Bool) H1 aE,Ag nx H aE H1->(b=true↔(a.toNat<32\/126<a.toNat\/a.toNat=34))->Wq P pl X0 (.jump (oB (aD (a::t)) b H1 aE)) nx H (Kb (cA (a::t))):=by
  intro b H1 aE hA1 hb;refine Wq.jmp (Qw ..) (λ_=>rfl) ?_;cases b with
  | true=>
    rw[show cA (a::t)=(0,0)from if_pos (hb.1 rfl)];exact Wq.ret hA1
  | false=>
    have hn:¬(a.toNat<32\/126<a.toNat\/a.toNat=34):=λq=>by have:=hb.2 q;cases this
    simp only[af,OH];refine Wq.iT (λh=> ?_) (λh=> ?_)
    . have h:¬a.toNat=92:=by omega
      rw[show cA (a::t)=(a,1)from by rw[fc,if_neg hn,if_neg h]];exact Wq.ret hA1
    have h92:a.toNat=92:=by omega
    have hE:cA (a::t)=gP t:=by rw[fc,if_neg hn,if_pos h92]
    cases t with
    | nil=>
      simp only[af,aK _ aV,aP,List.length_cons];rw[hE];exact Wq.ret hA1
    | cons x t=>
      have e2:decide (((a::x::t).length:Int)<2)=false:=by simp;omega
      simp only[af,aK _ aV,aP,e2,VI];refine Wq.ite (λh=> ?_) (λh1=> ?_)
      . rw[hE,show gP (x::t)=(34,2)from if_pos (by omega)];exact Wq.ret hA1
      refine Wq.ite (λh=> ?_) (λh2=> ?_)
      . rw[hE,show gP (x::t)=(92,2)from by rw[dh];rw[if_neg (by omega),if_pos (by omega)]];exact Wq.ret hA1
      refine Wq.ite (λh=> ?_) (λh3=> ?_)
      . rw[hE,show gP (x::t)=(10,2)from by rw[dh];rw[if_neg (by omega),if_neg (by omega),if_pos (by omega)]];exact Wq.ret hA1
      refine Wq.ite (λh=> ?_) (λh4=> ?_)
      . rw[hE,show gP (x::t)=(9,2)from by rw[dh];rw[if_neg (by omega),if_neg (by omega),if_neg (by omega),if_pos (by omega)]];exact Wq.ret hA1
      have hE2:gP (x::t)=if x.toNat=120 then BN t else(0,0):=by rw[dh];rw[if_neg (by omega),if_neg (by omega),if_neg (by omega),if_neg (by omega)]
      rw[hE2]at hE;refine Wq.ite (λh=> ?_) (λh5=>L36f _ _ hA1 (by rw[hE,if_neg (by omega)]));rw[if_pos (by omega)]at hE;refine Wq.ite (λh6=> ?_) (λh6=>L36f _ _ hA1 (by
       rw[hE]
       match t with
       | []=>rfl
       | [_]=>rfl
       | y::z::r=>simp at h6;omega))
      obtain⟨y,z,r,rfl⟩:∃y z r,t=y::z::r:=by
       match t with
       | []=>simp at h6
       | [_]=>simp at h6
       | y::z::r=>exact⟨y,z,r,rfl⟩
      have hX:BN (y::z::r)=if 0<=cJ y/\0<=cJ z then(UInt8.ofNat (16*cJ y+cJ z).toNat,4)else(0,0):=rfl;rw[hX]at hE;simp only[af,VJ,X2];refine Wq.call (xY y) hA1 λH2 nx2 hA2=> ?_;simp only[af];refine Wq.ite (λh7=> ?_) (λh7=>L36f _ _ hA2 (by rw[hE,if_neg (by omega)]));refine Wq.call (xY z) hA2 λH3 nx3 hA3=> ?_;simp only[af]
      by_cases h8:0<=cJ z
      . rw[decide_eq_true h8];refine Wq.jmp (D6 ..) (λ_=>rfl) ?_;have a1:=qJ y;have a2:=qJ z;have e1:IntKind.i64.wrap (16*cJ y)=16*cJ y:=bk (by omega);have e3:IntKind.i64.wrap (16*cJ y+cJ z)=16*cJ y+cJ z:=bk (by omega);simp only[af,VJ,X2];refine Wq.call (xY y) hA3 λH4 nx4 hA4=> ?_;simp only[af];refine Wq.call (xY z) hA4 λH5 nx5 hA5=> ?_;simp only[af,e1,e3,Jm,bj];rw[hE,if_pos ⟨h7,h8⟩];have e4:IntKind.u8.wrap (16*cJ y+cJ z)=((UInt8.ofNat (16*cJ y+cJ z).toNat).toNat:Int):=by
         rw[wrap_u8,UInt8.toNat_ofNat'];omega
        rw[e4];exact Wq.ret hA5
      . rw[decide_eq_false h8];exact L36f _ _ hA3 (by rw[hE,if_neg (by omega)])
 simp only[af,dn,Et,OH];refine Wq.ite (λh=>L6 _ _ _ hA (by simp;omega)) (λh=> ?_);refine Wq.ite (λh2=>L6 _ _ _ hA (by simp;omega)) (λh2=> ?_);exact L6 _ _ _ hA (by rw[decide_eq_true_eq];omega)
end
section
variable {nx0:Nat}{H0:T OB}
def z5:Nat->List UInt8->List UInt8->List UInt8×Bool
 | 0,r,out=>(out,decide (r=[34]))
 | f+1,r,out=>if r.length<=1 then(out,decide (r=[34]))else if(cA r).2=0 then([],false)else z5 f (r.drop (cA r).2) (out++[(cA r).1])
def iY (s:List UInt8):List UInt8×Bool:=if s.length<2\/first s 34=false then([],false)else z5 s.length (s.drop 1) []
abbrev Kc (p:List UInt8×Bool):Value:= .tuple ⟨[aD p.1,.bool p.2]⟩
theorem Gf (s:List UInt8)(h2:2<=s.length)(hl:s.length<=1000000):∀(d i:Nat) (r:List UInt8) (sl:Value) (H:T OB) (nx:Nat),s.length-i<=d->1<=i->i<=s.length->r.length<=i->BS 5 nx0 H nx r sl->Ag nx0 H0 nx H->
 Wq P pl X0 (.jump (pV (aD s) sl (i64 (i:Int)) H nx)) nx0 H0 (Kc (z5 d (s.drop i) r)):=by
 have hw:IntKind.i64.wrap ((s.length:Int)-1)=((s.length-1:Nat):Int):=by rw[bk (by omega)];omega
 have stop:∀(d i:Nat) (r:List UInt8),¬i<s.length-1->z5 d (s.drop i) r=(r,decide (s.drop i=[34])):=by
  intro d i r h;cases d with
  | zero=>rfl
  | succ d=>exact if_pos (by rw[List.length_drop];omega)
 intro d
 induction d with
 | zero=>
   intro i r sl H nx hd hi hi2 hr hB hA;rw[stop 0 i r (by omega)];refine Wq.jmp (D1 ..) (λ_=>rfl) ?_;have e1:decide ((i:Int)<((s.length-1:Nat):Int))=false:=by simp;omega
   have e2:decide ((i:Int)=((s.length-1:Nat):Int))=false:=by simp;omega
   simp only[af,aK _ aV,aP,hw,e1,lE cN nj aV xk hB,e2];have e3:s.drop i=[]:=List.drop_eq_nil_of_le (by omega);rw[e3];exact Wq.ret hA
 | succ d ih=>
   intro i r sl H nx hd hi hi2 hr hB hA;refine Wq.jmp (D1 ..) (λ_=>rfl) ?_
   by_cases hlt:i<s.length-1
   . have e0:z5 (d+1) (s.drop i) r=if(cA (s.drop i)).2=0 then([],false)else z5 d ((s.drop i).drop (cA (s.drop i)).2) (r++[(cA (s.drop i)).1]):=if_neg (by rw[List.length_drop];omega);have e1:decide ((i:Int)<((s.length-1:Nat):Int))=true:=by simp;omega
     have hn:=qK (s.drop i);rw[List.length_drop]at hn;rw[e0];simp only[af,aK _ aV,aP,hw,e1,dL hi2];refine Wq.eQ (SH (s.drop i) (by simp;omega) (by rw[List.length_drop];exact Nat.lt_of_le_of_lt (Nat.sub_le _ _) (Nat.lt_of_le_of_lt hl (by decide)))) hA λH1 aE hA1 n1 k1=> ?_;generalize cA (s.drop i)=p at hn ⊢;obtain⟨c,n⟩:=p;have x0:av (some (Kb (c,n))) 0=some (b8 c):=rfl;have x1:av (some (Kb (c,n))) 1=some (i64 (n:Int)):=rfl;simp only[af,x0,x1];refine Wq.ite (λh=> ?_) (λh=> ?_)
     . have h0:n=0:=by omega
       rw[if_pos h0];exact Wq.ret hA1
     have h0:n≠0:=by omega
     have hn:n<=s.length-i:=hn;rw[if_neg h0];have hB':=BS.dx hB n1 k1;refine Wq.mu (x:=[c]) cN gS eB hB' rfl rfl (Rf c) (λm hm=>iq (by simp at hm;omega)) hA1 λH2 sl2 nx2 hB2 hA2 _=> ?_;have ew:IntKind.i64.wrap ((i:Int)+(n:Int))=((i+n:Nat):Int):=by rw[bk (by omega)];omega
     simp only[af,ew];rw[List.drop_drop];exact ih (i+n) (r++[c]) sl2 H2 nx2 (by omega) (by omega) (by omega) (by simp;omega) hB2 hA2
   . rw[stop (d+1) i r hlt];have e1:decide ((i:Int)<((s.length-1:Nat):Int))=false:=by simp;omega
     simp only[af,aK _ aV,aP,hw,e1,lE cN nj aV xk hB];refine Wq.ite (λh=> ?_) (λh=> ?_)
     . have hi3:i<s.length:=by omega
       have e3:s.drop i=[s[i]]:=by
        rw[List.drop_eq_getElem_cons hi3,List.drop_eq_nil_of_le (by omega)]
       simp only[af,a9 aV (List.getElem?_eq_getElem hi3)];rw[e3];have e4:decide ((s[i].toNat:Int)=34)=decide ([s[i]]=[34]):=by
        rw[decide_eq_decide,List.cons.injEq];simp only[and_true];rw[<- UInt8.toNat_inj];show _↔s[i].toNat=34;omega
       rw[e4];exact Wq.ret hA
     . have e3:s.drop i=[]:=List.drop_eq_nil_of_le (by omega);rw[e3];exact Wq.ret hA
theorem SI (s:List UInt8)(hl:s.length<=1000000):P0 111 [aD s] (Kc (iY s)):=Pure.of rfl λH nx=>by
 rw[Wf];have hA:=Ag.refl nx H;have L6t:∀H1 aE,Ag nx H aE H1->(s.length<2\/first s 34=false)->Wq P pl X0 (.jump (wH (aD s) true H1 aE)) nx H (Kc (iY s)):=by
  intro H1 aE hA1 hc;refine Wq.jmp (Iw ..) (λ_=>rfl) ?_;unfold iY;rw[if_pos hc];exact Wq.ret hA1
 simp only[af,aK _ aV,aP];refine Wq.ite (λh=>L6t _ _ hA (.inl (by omega))) (λh=> ?_);obtain⟨a,r,rfl⟩:∃a r,s=a::r:=by cases s with
  | nil=>simp at h
  | cons a r=>exact⟨a,r,rfl⟩
 simp only[af,OH]
 by_cases h34:a.toNat=34
 . have e:decide ((a.toNat:Int)=34)=true:=by simp;omega
   simp only[af,e,Bool.not_true];refine Wq.jmp (Iw ..) (λ_=>rfl) ?_;have e2:iY (a::r)=z5 (a::r).length ((a::r).drop 1) []:=by
    unfold iY;rw[if_neg];simp only[first,h34,decide_true,not_or];exact⟨by omega,by simp⟩
   rw[e2];have:=Gf (nx0:=nx) (H0:=H) (a::r) (by omega) hl (a::r).length 1 [] (.slice none 0 0) H nx (Nat.sub_le _ _) (by omega) (by omega) (by simp) (.nil _ _ _ _) hA;exact this
 . have e:decide ((a.toNat:Int)=34)=false:=by simp;omega
   simp only[af,e,Bool.not_false];exact L6t _ _ hA (.inr (by simp[first,h34]))
def jt (s:List UInt8):Int×Bool:=match gf 0 s with
 | some n=>((n:Int),!decide (s=[]))
 | none=>(0,false)
theorem SJ (s:List UInt8):Nl s (gf 0 s)= .tuple ⟨[i64 (jt s).1,.bool (jt s).2]⟩:=by
 unfold jt;cases gf 0 s<;>rfl
def l6 (s:List UInt8):Tok×Bool:=
 if(iY s).2=true then(⟨2,(iY s).1,0,0⟩,true)else if isWord s=true then(⟨eR s,s,0,0⟩,true)else if isVar s=true then(⟨5,s,0,0⟩,true)else if bu.contains s=true then(⟨7,s,0,0⟩,true)else(⟨0,[],0,0⟩,false)
def bT (s:List UInt8):Tok×Bool:=if(jt s).2=true then(⟨1,[],(jt s).1,0⟩,true)else l6 s
abbrev z6 (p:Tok×Bool):Value:= .tuple ⟨[p.1.v,.bool p.2]⟩
theorem Kd (s:List UInt8)(hl:s.length<=1000000):P0 63 [aD s] (z6 (bT s)):=Pure.of rfl λH nx=>by
 have hb:s.length<cX:=Nat.lt_of_le_of_lt hl (by decide);have hA:=Ag.refl nx H;rw[YM];refine Wq.alloc cB hA λH1 hb1 _ hA1=> ?_;have E:∀(t:Tok) (b:Bool) H2 nx2,cR H2 nx [i64 0,aD [],i64 0,i64 0] 31->Ag nx H nx2 H2->
  Wq P pl X0 (ao (ah P H2 nx2 31 (some (.pointer (some ⟨nx,0,none⟩))) (some t.v)) λ_ H nx'=>aa (ae P H 31 (some (.pointer (some ⟨nx,0,none⟩)))) (λx=> .ret ⟨.ret (.tuple ⟨[x,.bool b]⟩),false,H,nx'⟩) .bad) nx H (z6 (t,b)):=by
  intro t b H2 nx2 hb2 hA2;refine Wq.store hb2 dy (by simp) rfl rfl hA2 (Nat.le_refl _) λH3 hb3 _ hA3=> ?_;have hb3':cR H3 nx t.c 31:=hb3;rw[bY hb3' si dy (by simp)];exact Wq.ret hA3
 refine Wq.eQ (SG s hb) hA1 λH2 nx2 hA2 n2 k2=> ?_;replace hb1:=k2 _ _ _ (Nat.lt_succ_self nx) hb1;rw[SJ];have x0:av (some (Value.tuple ⟨[i64 (jt s).1,.bool (jt s).2]⟩)) 0=some (i64 (jt s).1):=rfl;have x1:av (some (Value.tuple ⟨[i64 (jt s).1,.bool (jt s).2]⟩)) 1=some (.bool (jt s).2):=rfl;simp only[af,x0,x1];unfold bT;cases hn:(jt s).2 with
 | true=>
   rw[if_pos rfl];simp only[af,LW];exact E _ true _ _ hb1 hA2
 | false=>
 rw[if_neg (by simp)];unfold l6;simp only[af];refine Wq.eQ (SI s hl) hA2 λH3 nx3 hA3 n3 k3=> ?_;replace hb1:=k3 _ _ _ (by omega) hb1;have x0:av (some (Kc (iY s))) 0=some (aD (iY s).1):=rfl;have x1:av (some (Kc (iY s))) 1=some (.bool (iY s).2):=rfl;simp only[af,x0,x1];cases hq:(iY s).2 with
 | true=>
   rw[if_pos rfl];simp only[af,nk];exact E _ true _ _ hb1 hA3
 | false=>
 rw[if_neg (by simp)];simp only[af];refine Wq.eQ (Rc s hb) hA3 λH4 nx4 hA4 n4 k4=> ?_;replace hb1:=k4 _ _ _ (by omega) hb1;simp only[af];cases hw:isWord s with
 | true=>
   rw[if_pos rfl];simp only[af];obtain⟨a,r,rfl⟩:∃a r,s=a::r:=by cases s with
    | nil=>cases hw
    | cons a r=>exact⟨a,r,rfl⟩
   refine Wq.eQ (Re a r) hA4 λH5 nx5 hA5 n5 k5=> ?_;replace hb1:=k5 _ _ _ (by omega) hb1;simp only[af,nk];exact E _ true _ _ hb1 hA5
 | false=>
 rw[if_neg (by simp)];simp only[af];refine Wq.eQ (Rd s hb) hA4 λH5 nx5 hA5 n5 k5=> ?_;replace hb1:=k5 _ _ _ (by omega) hb1;simp only[af];cases hv:isVar s with
 | true=>
   rw[if_pos rfl];simp only[af,nk];exact E _ true _ _ hb1 hA5
 | false=>
 rw[if_neg (by simp)];simp only[af];refine Wq.eQ Q_ hA5 λH6 nx6 hA6 n6 k6=> ?_;replace hb1:=k6 _ _ _ (by omega) hb1;refine Wq.eQ (Jf bu (by decide) s) hA6 λH7 nx7 hA7 n7 k7=> ?_;replace hb1:=k7 _ _ _ (by omega) hb1;simp only[af];cases bu.contains s with
 | true=>
   rw[if_pos rfl];simp only[af,nk];exact E _ true _ _ hb1 hA7
 | false=>
   rw[if_neg (by simp)];simp only[af];exact E ⟨0,[],0,0⟩ false _ _ hb1 hA7
def Fi (t:Tok):Bool:=
 if t.k=0 then decide (t.s=[])&&decide (t.n=0)
 else if t.k=1/\(t.n<0\/4611686018427387903<t.n)then false
 else(bT (cY t)).2&&(decide ((bT (cY t)).1.k=t.k)&&(decide ((bT (cY t)).1.s=t.s)&&decide ((bT (cY t)).1.n=t.n)))
theorem Vi (t:Tok)(h0:t.k≠0)(hn:rg t.n)(hl:t.s.length<=200000):P0 64 [t.v] (aD (cY t)):=Pure.of rfl λH nx=>by
 rw[YN];refine Wq.fH (.refl _ _) λhA=> ?_;unfold cY;simp only[af,show decide (t.k=0)=false by simpa]
 by_cases h1:t.k=1
 . rw[if_pos h1];simp only[af,show decide (t.k=1)=true by simpa];refine Wq.call (R5 t.n hn) hA λH1 aE hA1=> ?_;exact Wq.ret hA1
 rw[if_neg h1];simp only[af,show decide (t.k=1)=false by simpa]
 by_cases h2:t.k=2
 . rw[if_pos h2];simp only[af,show decide (t.k=2)=true by simpa];refine Wq.call (R9 t.s (by have:=uS t.s;omega) (by omega)) hA λH1 aE hA1=> ?_;exact Wq.ret hA1
 rw[if_neg h2];simp only[af,show decide (t.k=2)=false by simpa];exact Wq.ret hA
theorem z7 (t:Tok)(hn:rg t.n)(hl:t.s.length<=200000):(cY t).length<=1000000:=by
 unfold cY;split
 . have:=BB t.n hn;omega
 . split
   . have:=uS t.s;simp[quote];omega
   . omega
theorem Vj (t:Tok)(hn:rg t.n)(hl:t.s.length<=200000):P0 36 [t.v] (.bool (Fi t)):=Pure.of rfl λH nx=>by
 rw[Ys];refine Wq.fH (.refl _ _) λhA=> ?_;unfold Fi
 by_cases h0:t.k=0
 . rw[if_pos h0];simp only[af,show decide (t.k=0)=true by simpa,dn];cases decide (t.s=[])with
   | true=>simp only[af];exact Wq.ret hA
   | false=>simp only[af];exact Wq.ret hA
 rw[if_neg h0];simp only[af,show decide (t.k=0)=false by simpa];have L:¬(t.k=1/\(t.n<0\/4611686018427387903<t.n))->∀H1 aE,Ag nx H aE H1->Wq P pl X0 (.jump (ow (ak t.v) false H1 aE)) nx H (.bool ((bT (cY t)).2&&(decide ((bT (cY t)).1.k=t.k)&&(decide ((bT (cY t)).1.s=t.s)&&decide ((bT (cY t)).1.n=t.n))))):=by
  intro _ H1 aE hA1;refine Wq.jmp (HU ..) (λ_=>rfl) ?_;simp only[af];refine Wq.call (Vi t h0 hn hl) hA1 λH2 nx2 hA2=> ?_;refine Wq.call (Kd _ (z7 t hn hl)) hA2 λH3 nx3 hA3=> ?_;generalize bT (cY t)=p;obtain⟨u,b⟩:=p;have x0:av (some (z6 (u,b))) 0=some u.v:=rfl;have x1:av (some (z6 (u,b))) 1=some (.bool b):=rfl;simp only[af,x0,x1];refine Wq.var cB dy rfl rfl rfl hA3 λH4 nx4 hA4=> ?_;cases b with
  | false=>exact Wq.ret hA4
  | true=>
    simp only[af,dn];rw[Bool.true_and];refine Wq.bK (λh1=> ?_) (λh1=> ?_)
    . rw[h1,Bool.true_and];refine Wq.bK (λh2=> ?_) (λh2=> ?_)
      . rw[h2,Bool.true_and];exact Wq.ret hA4
      . rw[h2,Bool.false_and];exact Wq.ret hA4
    . rw[h1,Bool.false_and];exact Wq.ret hA4
 have T:t.k=1/\(t.n<0\/4611686018427387903<t.n)->Wq P pl X0 (.jump (ow (ak t.v) true H (nx+1))) nx H (.bool false):=by
  intro _;refine Wq.jmp (HU ..) (λ_=>rfl) ?_;exact Wq.ret hA
 refine Wq.ite (λh1=> ?_) (λh1=> ?_)
 . refine Wq.ite (λh2=> ?_) (λh2=> ?_)
   . rw[if_pos ⟨h1,.inl h2⟩];exact T ⟨h1,.inl h2⟩
   . by_cases h3:4611686018427387903<t.n
     . rw[decide_eq_true h3,if_pos ⟨h1,.inr h3⟩];exact T ⟨h1,.inr h3⟩
     . have:¬(t.k=1/\(t.n<0\/4611686018427387903<t.n)):=by omega
       rw[decide_eq_false h3,if_neg this];exact L this _ _ hA
 . have:¬(t.k=1/\(t.n<0\/4611686018427387903<t.n)):=λq=>h1 q.1;rw[if_neg this];exact L this _ _ hA
end
theorem Ke {u:Nat}(h:u<10):((48+u).toUInt8).toNat=48+u:=by
 show(UInt8.ofNat (48+u)).toNat=_;rw[UInt8.toNat_ofNat'];omega
theorem lb {u:Nat}(h:u<10):bH (48+u).toUInt8=true/\dv (48+u).toUInt8=u:=by
 rw[g_];unfold dv;rw[Ke h];omega
theorem Kf:∀(n u:Nat) (s:List UInt8),u<=n->u<=4611686018427387903->gf 0 (ta u s)=gf u s:=by
 intro n
 induction n with
 | zero=>
   intro u s h1 h2;have:u=0:=by omega
   subst this;rw[ta,if_pos (by omega)];rw[gf,if_pos ⟨(lb (by omega)).1,by rw[(lb (u:=0) (by omega)).2];omega⟩,(lb (u:=0) (by omega)).2]
 | succ n ih=>
   intro u s h1 h2;rw[ta]
   by_cases h:u<10
   . rw[if_pos h,gf,if_pos ⟨(lb h).1,Nat.zero_le _⟩,(lb h).2];congr 1;omega
   . rw[if_neg h,ih (u/10) _ (by omega) (by omega)];have hm:u%10<10:=Nat.mod_lt _ (by omega);rw[gf,if_pos ⟨(lb hm).1,by rw[(lb hm).2];omega⟩,(lb hm).2];congr 1;omega
theorem SK (u:Nat)(s:List UInt8):ta u s≠[]:=by
 induction u using Nat.strongRecOn generalizing s with
 | _ u ih=>
   rw[ta]
   by_cases h:u<10
   . rw[if_pos h];simp
   . rw[if_neg h];exact ih (u/10) (by omega) _
theorem Gg (n:Int)(h0:0<=n)(h1:n<=4611686018427387903):bT (EP n)=(⟨1,[],n,0⟩,true):=by
 have e:EP n=ta n.natAbs []:=if_neg (by omega);have e2:gf 0 (EP n)=some n.natAbs:=by rw[e,Kf n.natAbs n.natAbs [] (Nat.le_refl _) (by omega)];rfl
 have e3:jt (EP n)=(n,true):=by
  unfold jt;rw[e2];have:decide (EP n=[])=false:=by rw[e];simpa using SK _ _
  rw[this];show((n.natAbs:Int),true)=_;congr 1;omega
 unfold bT;rw[e3,if_pos rfl]
theorem Fj:∀n,n<16->cJ (hx n)=n:=by decide
theorem SL (c:UInt8)(r:List UInt8):cA (qc c++r)=(c,(qc c).length):=by
 have hc:=c.toNat_lt;unfold qc
 by_cases h1:c.toNat=34\/c.toNat=92
 . rw[if_pos h1];show cA (92::c::r)=(c,2);rw[fc,if_neg (by decide),if_pos (by decide),dh];rcases h1 with h | h
   . rw[if_pos h,show c=34 from UInt8.toNat_inj.1 h]
   . rw[if_neg (by omega),if_pos h,show c=92 from UInt8.toNat_inj.1 h]
 rw[if_neg h1]
 by_cases h2:c.toNat=10
 . rw[if_pos h2,show c=10 from UInt8.toNat_inj.1 h2];rfl
 rw[if_neg h2]
 by_cases h3:c.toNat=9
 . rw[if_pos h3,show c=9 from UInt8.toNat_inj.1 h3];rfl
 rw[if_neg h3]
 by_cases h4:c.toNat<32\/126<c.toNat
 . rw[if_pos h4];show cA (92::120::hx (c.toNat/16)::hx (c.toNat%16)::r)=(c,4);rw[fc,if_neg (by decide),if_pos (by decide),dh,if_neg (by decide),if_neg (by decide),if_neg (by decide),if_neg (by decide),if_pos (by decide)];show(if 0<=cJ (hx (c.toNat/16))/\0<=cJ (hx (c.toNat%16))then(UInt8.ofNat (16*cJ (hx (c.toNat/16))+cJ (hx (c.toNat%16))).toNat,4)else(0,0):UInt8×Nat)=_;rw[Fj _ (by omega),Fj _ (by omega),if_pos ⟨by omega,by omega⟩];congr 1;rw[<- UInt8.toNat_inj,UInt8.toNat_ofNat'];omega
 rw[if_neg h4];show cA (c::r)=(c,1);rw[fc,if_neg (by omega),if_neg (by omega)]
theorem SM (c:UInt8):1<=(qc c).length:=by
 unfold qc;split<;>(try split)<;>(try split)<;>(try split)<;>simp
theorem Fk:∀(l:List UInt8) (f:Nat) (out:List UInt8),(qs l).length<=f->z5 f (qs l++[34]) out=(out++l,true)
 | [],f,out,h=>by
   rw[List.append_nil];cases f with
   | zero=>rfl
   | succ f=>exact if_pos (by simp[qs])
 | c::l,f,out,h=>by
   have e:qs (c::l)=qc c++qs l:=rfl;rw[e,List.length_append]at h;have hp:=SM c;cases f with
   | zero=>omega
   | succ f=>
     rw[e,List.append_assoc];have hs:=SL c (qs l++[34]);show(if(qc c++(qs l++[34])).length<=1 then _ else if(cA (qc c++(qs l++[34]))).2=0 then _ else z5 f ((qc c++(qs l++[34])).drop (cA (qc c++(qs l++[34]))).2) (out++[(cA (qc c++(qs l++[34]))).1]):List UInt8×Bool)=_;rw[if_neg (by simp;omega),hs,if_neg (by show ¬(qc c).length=0;omega)];show z5 f ((qc c++(qs l++[34])).drop (qc c).length) (out++[c])=_;rw[List.drop_left,Fk l f _ (by omega),List.append_assoc];rfl
theorem Kg (l:List UInt8):iY (quote l)=(l,true):=by
 unfold iY quote;rw[if_neg (by simp[first])];show z5 _ (qs l++[34]) []=_;rw[Fk l _ [] (by simp;omega)];rfl
theorem SN (l:List UInt8):jt (quote l)=(0,false):=by
 unfold jt quote;rw[gf,if_neg (λq=>by have:=q.1;revert this;decide)]
theorem Gh (l:List UInt8):bT (quote l)=(⟨2,l,0,0⟩,true):=by
 unfold bT l6;rw[SN,if_neg (by simp),Kg,if_pos rfl]
theorem nM {s:List UInt8}(h:(jt s).2=true):eT s=true:=by
 cases s with
 | nil=>revert h;decide
 | cons c r=>
   unfold jt at h;rw[gf]at h
   by_cases hc:bH c=true
   . exact hc
   . rw[if_neg (λq=>hc q.1)]at h;cases h
theorem lK {s:List UInt8}(h:(iY s).2=true):first s 34=true:=by
 unfold iY at h;cases hf:first s 34 with
 | true=>rfl
 | false=>rw[if_pos (.inr hf)]at h;cases h
theorem Kh:∀x∈bu,eT x=false/\first x 34=false/\isWord x=false/\isVar x=false:=by decide
theorem lL {s:List UInt8}(h:bu.contains s=true):eT s=false/\first s 34=false/\isWord s=false/\isVar s=false:=Kh s (by simpa using h)
theorem qL {k n a:Int}{s:List UInt8}(h0:k≠0)(h1:k≠1)(h2:k≠2):fp ⟨k,s,n,a⟩=if k=7 then decide (n=0)&&bu.contains s else if k=5 then isVar s&&decide (n=0)else if k=3\/k=4\/k=6 then isWord s&&(decide (n=0)&&decide (eR s=k))else false:=by
 unfold fp;rw[if_neg h0,if_neg h1,if_neg h2]
theorem tg {k n a:Int}{s:List UInt8}(h0:k≠0)(h1:k≠1)(h2:k≠2)(hs:bu.contains s=false)(hv:isVar s=false)(hw:isWord s=false):fp ⟨k,s,n,a⟩=false:=by
 rw[qL h0 h1 h2,hs,hv,hw];split
 . simp
 . split
   . rfl
   . split<;>rfl
theorem Ki (t:Tok):Fi t=fp t:=by
 obtain⟨k,s,n,a⟩:=t;unfold Fi
 by_cases h0:k=0
 . subst h0;rfl
 show(if k=0 then _ else if k=1/\(n<0\/4611686018427387903<n)then false else(bT (cY ⟨k,s,n,a⟩)).2&&(decide ((bT (cY ⟨k,s,n,a⟩)).1.k=k)&&(decide ((bT (cY ⟨k,s,n,a⟩)).1.s=s)&&decide ((bT (cY ⟨k,s,n,a⟩)).1.n=n))))=_;rw[if_neg h0]
 by_cases h1:k=1
 . subst h1;have e:fp ⟨1,s,n,a⟩=(decide (s=[])&&(decide (0<=n)&&decide (n<=4611686018427387903))):=rfl
   by_cases hr:n<0\/4611686018427387903<n
   . rw[if_pos ⟨rfl,hr⟩,e];rcases hr with h | h
     . rw[show decide (0<=n)=false by simp;omega];simp
     . rw[show decide (n<=4611686018427387903)=false by simp;omega];simp
   . rw[if_neg (λq=>hr q.2)];have et:cY ⟨1,s,n,a⟩=EP n:=rfl;rw[et,Gg n (by omega) (by omega),e,show decide (0<=n)=true by simp;omega,show decide (n<=4611686018427387903)=true by simp;omega];show(true&&(decide ((1:Int)=1)&&(decide ([]=s)&&decide (n=n))))=_;simp[eq_comm]
 rw[if_neg (λq=>h1 q.1)]
 by_cases h2:k=2
 . subst h2;have et:cY ⟨2,s,n,a⟩=quote s:=rfl;rw[et,Gh];show(true&&(decide ((2:Int)=2)&&(decide (s=s)&&decide (0=n))))=decide (n=0);simp[eq_comm]
 have et:cY ⟨k,s,n,a⟩=s:=by
  show(if k=1 then _ else if k=2 then _ else s)=s;rw[if_neg h1,if_neg h2]
 rw[et];unfold bT
 by_cases hn:(jt s).2=true
 . rw[if_pos hn,tg h0 h1 h2 (by cases h:bu.contains s with
    | false=>rfl
    | true=>have:=(lL h).1;rw[nM hn]at this;cases this) (by cases h:isVar s with
    | false=>rfl
    | true=>have:=(kR h).1;rw[nM hn]at this;cases this) (by cases h:isWord s with
    | false=>rfl
    | true=>have:=(jR h).1;rw[nM hn]at this;cases this)]
   show(true&&(decide (1=k)&&_))=false;rw[show decide (1=k)=false by simp;omega];rfl
 rw[if_neg hn];unfold l6
 by_cases hq:(iY s).2=true
 . rw[if_pos hq,tg h0 h1 h2 (by cases h:bu.contains s with
    | false=>rfl
    | true=>have:=(lL h).2.1;rw[lK hq]at this;cases this) (by cases h:isVar s with
    | false=>rfl
    | true=>have:=(kR h).2.1;rw[lK hq]at this;cases this) (by cases h:isWord s with
    | false=>rfl
    | true=>have:=(jR h).2.1;rw[lK hq]at this;cases this)]
   show(true&&(decide (2=k)&&_))=false;rw[show decide (2=k)=false by simp;omega];rfl
 rw[if_neg hq];have hk:=Jo s
 by_cases hw:isWord s=true
 . rw[if_pos hw,qL h0 h1 h2];have hs:bu.contains s=false:=by cases h:bu.contains s with
    | false=>rfl
    | true=>have:=(lL h).2.2.1;rw[hw]at this;cases this
   have hv:isVar s=false:=by cases h:isVar s with
    | false=>rfl
    | true=>have:=(kR h).2.2;rw[(jR hw).2.2]at this;cases this
   show(true&&(decide (eR s=k)&&(decide (s=s)&&decide (0=n))))=_;rw[hs,hv,hw]
   by_cases h7:k=7
   . rw[if_pos h7,show decide (eR s=k)=false by simp;omega];simp
   rw[if_neg h7]
   by_cases h5:k=5
   . rw[if_pos h5,show decide (eR s=k)=false by simp;omega];simp
   rw[if_neg h5]
   by_cases h3:k=3\/k=4\/k=6
   . rw[if_pos h3];simp[eq_comm,Bool.and_comm]
   . rw[if_neg h3,show decide (eR s=k)=false by simp;omega];simp
 rw[if_neg hw];have hw':isWord s=false:=by simpa using hw
 by_cases hv:isVar s=true
 . rw[if_pos hv,qL h0 h1 h2];have hs:bu.contains s=false:=by cases h:bu.contains s with
    | false=>rfl
    | true=>have:=(lL h).2.2.2;rw[hv]at this;cases this
   show(true&&(decide (5=k)&&(decide (s=s)&&decide (0=n))))=_;rw[hs,hv,hw']
   by_cases h7:k=7
   . rw[if_pos h7,show decide (5=k)=false by simp;omega];simp
   rw[if_neg h7]
   by_cases h5:k=5
   . rw[if_pos h5];subst h5;simp[eq_comm]
   rw[if_neg h5,show decide (5=k)=false by simp;omega];split<;>simp
 rw[if_neg hv];have hv':isVar s=false:=by simpa using hv
 by_cases hs:bu.contains s=true
 . rw[if_pos hs,qL h0 h1 h2];show(true&&(decide (7=k)&&(decide (s=s)&&decide (0=n))))=_;rw[hs,hv',hw']
   by_cases h7:k=7
   . rw[if_pos h7];subst h7;simp[eq_comm]
   rw[if_neg h7,show decide (7=k)=false by simp;omega];split
   . simp
   . split<;>simp
 rw[if_neg hs,tg h0 h1 h2 (by simpa using hs) hv' hw'];rfl
end
end Go.Proofs.YthjhonhhbddhkaaGreatDoor
namespace Go.Proofs.YthjhonhhbddhkaaGreatDoor
open Go.Ev Go.RowKit Go.ChangeShapes Go.WideShapes Go.ChangeAt
noncomputable section
set_option maxRecDepth 100000
set_option linter.unusedVariables false
set_option linter.unusedSimpArgs false
set_option maxHeartbeats 8000000
section
variable {H:Type}{enc:TypeId×Value->H}{W:World}{sp:Nat->Bool}{held:Bool}
def Wt (t:TypeId)(d:DataW H):Prop:=∀n,n∈d.weights P t->n<=reachBytes
theorem c2:P.cellsOf 2=1:=by kernel_rfl
theorem c3:P.cellsOf 3=1:=by kernel_rfl
theorem c9:P.cellsOf 9=1:=by kernel_rfl
def Op (enc:TypeId×Value->H)(W:World)(sp:Nat->Bool)(held:Bool){α:Type}(t:TypeId)(s:Nat)(ev:α->Value)(ok:α->Prop)(fuel:Nat):Prop:=∀cs x,DataW.trod enc P W 0 sp held fuel t cs=some x->∃a:α,(ev a).cells.toList.length=s/\LR (iB W) (ev a).cells.toList cs/\(Wt t x.1->ok a)
theorem Ze {φ:cO}(s:ByteArray):VR φ (aD s.data.toList) (.string s):=by
 have es:aD s.data.toList= .string s:=by cases s;rfl
 rw[es];exact .flat _ rfl
end
section
variable {W:World}
theorem BO {r:Option Rt}(h:isTrue r=true):∃H nx,r=some ⟨.ret (.bool true),false,H,nx⟩:=by
 unfold isTrue at h;split at h
 . exact⟨_,_,rfl⟩
 . cases h
theorem Kj (w:World):y4 P w (λ_ _=>none):=λf args v h=>by cases h
theorem ju:P.globals.size=4:=by kernel_rfl
structure po (w:World):Prop where
 size:P.globals.size<=w.heap.size
 uI:∀x,x∈gY->x.1<P.globals.size/\∃c el fz,w.heap[x.1]? = some (.cells c el fz)/\x.2.length<=c.size/\∀(i:Nat) (v v':Value),x.2[i]? = some v->c[i]? = some v'->VR (iB w) v v'
theorem Nm {w w':World}(hb:Below w.heap.size w w'):(iB w).le (iB w'):=λk e h=>by
 obtain⟨h1,rfl⟩:=kO h;have:kN w' k=kN w k:=by
  unfold kN;rw[hb.block k h1]
 rw[w8 (Nat.lt_of_lt_of_le h1 hb.size),this]
theorem po.below {w:World}(h:po W)(hb:Below W.heap.size W w):po w where
 size:=Nat.le_trans h.size hb.size
 uI:=λx hx=>by
  obtain⟨h0,c,el,fz,h1,h2,h3⟩:=h.uI x hx;exact⟨h0,c,el,fz,by rw[hb.block _ (Nat.lt_of_lt_of_le h0 h.size)];exact h1,h2,λi v v' a b=>(h3 i v v' a b).mono (Nm hb)⟩
theorem Vk {w:World}(ht:po w):HR P w (iB w) (hp (lY gY .leaf)) w:=by
 have inv:∀k ob,hp (lY gY .leaf) k=some ob->∃x∈gY,x.1=k/\ob= .ro x.2.length (eD x.2 0 .leaf):=λk ob h=>by
  rcases sI gY .leaf k ob h with h | h
  . exact h
  . rw[jQ]at h;cases h
 have hW:=Xa (P:=P) ht.size;exact {
  below:= .refl _ _
  oT:=λk ob h=>by
   obtain⟨x,hx,rfl,_⟩:=inv k ob h;rw[o9];exact Nat.lt_of_lt_of_le (ht.uI x hx).1 ht.size
  nS:=hW.nS
  inj:=λk k' ob ob' e e' _ _ h _ hl=>by
   obtain⟨x,hx,rfl,rfl⟩:=inv k ob h;cases hl
  obj:=λk ob e h he=>by
   obtain⟨x,hx,rfl,rfl⟩:=inv k ob h;obtain⟨h0,c,el,fz,h1,h2,h3⟩:=ht.uI x hx;obtain⟨h4,rfl⟩:=kO he;refine .inl ⟨h4,c,el,fz,h1,h2,λi hi v hv=> ?_⟩;rw[dF,if_pos (by omega),Nat.sub_zero]at hv;have hlt:i<c.size:=by omega
   exact⟨c[i],Array.getElem?_eq_getElem hlt,h3 i v _ hv (Array.getElem?_eq_getElem hlt)⟩
  gl:=hW.gl
  km:=hW.km
  rq:=λk k' e e' c ob _ _ _ h hl=>by
   obtain⟨x,hx,rfl,rfl⟩:=inv k' ob h;cases hl }
theorem Gi {n:Nat}(hn:4<=n):eG n (lY gY .leaf):=by
 refine⟨hn,λx hx=> ?_⟩;have key:∀(l:List Value) (i:Nat),i<l.length->(eD l 0 (.leaf:T Value)).get (Ev.bits i)=l[i]? := λl i hi=>by
  rw[dF,if_pos (by omega),Nat.sub_zero]
 have e:∀(b:Nat),(lY gY .leaf).get (Ev.bits b)=if b=3 then some (.ro (eA.map aD).length (eD (eA.map aD) 0 .leaf))else if b=2 then some (.ro (bE.map lvl).length (eD (bE.map lvl) 0 .leaf))else if b=1 then some (.ro (f_.map aD).length (eD (f_.map aD) 0 .leaf))else if b=0 then some (.ro (bu.map aD).length (eD (bu.map aD) 0 .leaf))else none:=λb=>by
  show(Ev.set (Ev.set (Ev.set (Ev.set (.leaf:T OB) (Ev.bits 0) _) (Ev.bits 1) _) (Ev.bits 2) _) (Ev.bits 3) _).get (Ev.bits b)=_;rw[Ev.get_at,Ev.get_at,Ev.get_at,Ev.get_at];have:(T.leaf:T OB).get (Ev.bits b)=none:=jQ b;rw[this]
 simp only[gY,List.mem_cons,List.not_mem_nil,or_false]at hx;rcases hx with rfl | rfl | rfl | rfl
 . exact⟨_,by rw[e];rfl,key _⟩
 . exact⟨_,by rw[e];rfl,key _⟩
 . exact⟨_,by rw[e];rfl,key _⟩
 . exact⟨_,by rw[e];rfl,key _⟩
theorem Nn {w:World}{l:List (List UInt8)}{v':Value}(hl:l≠[])(h:VR (iB w) (lvl l) v'):∃k,k<w.heap.size/\∀(φ:cO) (j:Nat),φ[j]? = some (some ⟨k,0,0,kN w k⟩)->VR φ (lvl l) v':=by
 obtain⟨a0,r0,rfl⟩:∃a r,l=a::r:=by
  cases l with
  | nil=>exact absurd rfl hl
  | cons a r=>exact⟨a,r,rfl⟩
 have hl':(a0::r0).map aD≠[]:=by simp
 have key:∀x,x=lvl (a0::r0)->VR (iB w) x v'->∃k,k<w.heap.size/\∀(φ:cO) (j:Nat),φ[j]? = some (some ⟨k,0,0,kN w k⟩)->VR φ (lvl (a0::r0)) v':=by
  intro x hx h;cases h with
  | flat v h=>subst hx;cases h
  | tz s=>injection hx with _ h1 _;injection h1 with h1;exact absurd h1.symm hl'
  | rl s a c=>injection hx with _ h1 _;injection h1 with h1;exact absurd h1.symm hl'
  | row h1 hf hs hn hc hx'=>
    injection hx with h2 h3 _
    injection h2 with h2
    injection h3 with h3
    subst h2 h3;obtain⟨hk,rfl⟩:=kO h1;refine⟨_,hk,λφ j hj=>VR.row (o:=_) hj hf hs hn hc λi j x v v' a b c=> ?_⟩;have h4:=hx' i j x v v' a b c;obtain⟨s,_,rfl⟩:=List.mem_map.1 (List.mem_of_getElem? a);have hfl:Ev.flat v=true:=by
     have:v∈[aD s]:=List.mem_of_getElem? b;rw[List.mem_singleton.1 this];rfl
    rw[h4.aI hfl];exact .flat _ hfl
  | ep h1 hf hn hx'=>
    injection hx with _ _ h3
    injection h3 with h3
    injection h3 with h3
    cases h3
  | _=>cases hx
 exact key _ rfl h
def tP (w:World)(f:Nat->Nat):cO:=(List.range 11).map λk=>if k<4 then some ⟨k,0,0,none⟩else some ⟨f k,0,0,kN w (f k)⟩
theorem pq (w:World)(f:Nat->Nat):(tP w f).length=11:=by simp[tP]
theorem th {w:World}{f:Nat->Nat}{k:Nat}{e:gR}(h:(tP w f)[k]? = some (some e)):k<11/\((k<4/\e=⟨k,0,0,none⟩)\/(4<=k/\e=⟨f k,0,0,kN w (f k)⟩)):=by
 unfold tP at h;rw[List.getElem?_map]at h
 by_cases hk:k<11
 . rw[List.getElem?_range hk]at h;simp only[Option.map_some,Option.some.injEq]at h;refine⟨hk,?_⟩
   by_cases h4:k<4
   . rw[if_pos h4]at h;exact .inl ⟨h4,(Option.some.inj h).symm⟩
   . rw[if_neg h4]at h;exact .inr ⟨by omega,(Option.some.inj h).symm⟩
 . rw[List.getElem?_eq_none (by simp;omega)]at h;cases h
theorem No {w:World}{f:Nat->Nat}{k:Nat}(h:k<4):(tP w f)[k]? = some (some ⟨k,0,0,none⟩):=by
 unfold tP;rw[List.getElem?_map,List.getElem?_range (by omega)];simp[h]
theorem Np {w:World}{f:Nat->Nat}{k:Nat}(h:4<=k)(h':k<11):(tP w f)[k]? = some (some ⟨f k,0,0,kN w (f k)⟩):=by
 unfold tP;rw[List.getElem?_map,List.getElem?_range h'];simp only[Option.map_some];rw[if_neg (by omega)]
theorem Vl {w:World}{k:Nat}{c:Array Value}(h:kN w k=some c):∃el fz,w.heap[k]? = some (.cells c el fz):=by
 unfold kN at h;split at h
 . rename_i c' el fz hc;cases h;exact⟨el,fz,hc⟩
 . cases h
theorem XN {w:World}(ht:po w):∃f,HR P w (tP w f) (hp (lY gY .leaf)) w:=by
 obtain⟨_,c2,el2,fz2,hc2,hs2,hv2⟩:=ht.uI (2,bE.map lvl) (by simp[gY]);have hlen:(bE.map lvl).length=7:=rfl;have hex:∀i:Fin 7,∃k,k<w.heap.size/\∀(φ:cO) (j:Nat),φ[j]? = some (some ⟨k,0,0,kN w k⟩)->∀v v',(bE.map lvl)[i.val]? = some v->c2[i.val]? = some v'->VR φ v v':=by
  intro i;have hi:i.val<bE.length:=i.isLt;have h1:(bE.map lvl)[i.val]? = some (lvl bE[i.val]):=by rw[List.getElem?_map,List.getElem?_eq_getElem hi];rfl
  have hlt:i.val<c2.size:=by have:=i.isLt;simp only[hlen]at hs2;omega
  have h2:c2[i.val]? = some c2[i.val]:=Array.getElem?_eq_getElem hlt;have hne:bE[i.val]≠[]:=by
   have:∀x∈bE,x≠[]:=by decide
   exact this _ (List.getElem_mem _)
  obtain⟨k,hk,hφ⟩:=Nn hne (hv2 i.val _ _ h1 h2);refine⟨k,hk,λφ j hj v v' a b=> ?_⟩;rw[h1]at a;rw[h2]at b;cases a;cases b;exact hφ φ j hj
 obtain⟨A,hA⟩:=Classical.axiomOfChoice hex;refine⟨λk=>A ⟨(k-4)%7,Nat.mod_lt _ (by omega)⟩,?_⟩;have inv:∀k ob,hp (lY gY .leaf) k=some ob->∃x∈gY,x.1=k/\ob= .ro x.2.length (eD x.2 0 .leaf):=λk ob h=>by
  rcases sI gY .leaf k ob h with h | h
  . exact h
  . rw[jQ]at h;cases h
 have hg:=ht.size;rw[ju]at hg;have h4:∀x,x∈gY->x.1<4:=λx hx=>by have:=(ht.uI x hx).1;rw[ju]at this;exact this
 exact {
  below:= .refl _ _
  oT:=λk ob h=>by
   obtain⟨x,hx,rfl,_⟩:=inv k ob h;rw[pq];exact Nat.lt_trans (h4 x hx) (by omega)
  nS:=λk e h=>by
   obtain⟨h1,⟨h2,rfl⟩ | ⟨h2,rfl⟩⟩:=th h
   . exact Nat.lt_of_lt_of_le h2 hg
   . exact(hA _).1
  inj:=λk k' ob ob' e e' _ _ h _ hl=>by
   obtain⟨x,hx,rfl,rfl⟩:=inv k ob h;cases hl
  obj:=λk ob e h he=>by
   obtain⟨x,hx,rfl,rfl⟩:=inv k ob h;obtain⟨h0,c,el,fz,h1,h2,h3⟩:=ht.uI x hx;obtain⟨_,⟨h5,rfl⟩ | ⟨h5,rfl⟩⟩:=th he
   . refine .inl ⟨Nat.lt_of_lt_of_le h5 hg,c,el,fz,h1,h2,λi hi v hv=> ?_⟩;rw[dF,if_pos (by omega),Nat.sub_zero]at hv;have hlt:i<c.size:=by omega
     have hci:c[i]? = some c[i]:=Array.getElem?_eq_getElem hlt;refine⟨c[i],hci,?_⟩;have h6:=h3 i v _ hv hci;have flatK:∀l:List (List UInt8),x.2=l.map aD->VR (tP w λk=>A ⟨(k-4)%7,Nat.mod_lt _ (by omega)⟩) v c[i]:=λl hl=>by
      have hfl:Ev.flat v=true:=by
       rw[hl]at hv;obtain⟨s,_,rfl⟩:=List.mem_map.1 (List.mem_of_getElem? hv);rfl
      rw[h6.aI hfl];exact .flat _ hfl
     simp only[gY,List.mem_cons,List.not_mem_nil,or_false]at hx;rcases hx with rfl | rfl | rfl | rfl
     . exact flatK _ rfl
     . exact flatK _ rfl
     . have hcc:c=c2:=by
        have:=h1.symm.trans hc2;injection this with this
        injection this
       subst hcc;have hi7:i<7:=hi;refine(hA ⟨i,hi7⟩).2 _ (4+i) ?_ v _ hv hci;rw[Np (by omega) (by omega)];have:(4+i-4)%7=i:=by omega
       simp only[this]
     . exact flatK _ rfl
   . exact absurd (h4 x hx) (by omega)
  gl:=λk hk=>⟨_,No (by rw[ju]at hk;exact hk),rfl⟩
  km:=λk e c h hf=>by
   obtain⟨_,⟨h5,rfl⟩ | ⟨h5,rfl⟩⟩:=th h
   . cases hf
   . exact Vl hf
  rq:=λk k' e e' c ob _ _ _ h hl=>by
   obtain⟨x,hx,rfl,rfl⟩:=inv k' ob h;cases hl }
theorem XO (hT:po W):y4 P W X0:=by
 intro f args v h;have hf:f=11/\args=[]/\v= .bool true:=by
  have h':(bif Nat.beq f 11 then(match args with | []=>some (Value.bool true) | _=>none)else none)=some v:=h;cases hb:Nat.beq f 11 with
  | true=>
    rw[hb]at h';cases args with
    | nil=>exact⟨Nat.eq_of_beq_eq_true hb,rfl,(Option.some.inj h').symm⟩
    | cons a l=>cases h'
  | false=>
    rw[hb]at h';cases h'
 obtain⟨rfl,rfl,rfl⟩:=hf;refine⟨λx hx=>(nomatch hx),rfl,λw hb=> ?_⟩;have hw:=hT.below hb;have hk:=Gc;rw[Eh]at hk;obtain⟨H',nx',hr⟩:=BO hk;obtain⟨f,hf⟩:=XN hw;refine(rY (pl:=X9) (Kj w) hf (pq _ _) .nil rfl (V0 hr)).mono λe w' ⟨he,hb'⟩=>⟨he,hb'⟩
theorem z8 {fuel:Nat}{cs:List Value}{l:List (List UInt8)}{p:List MemPlace}(h:DataW.trod (λ_=>()) P W 0 (λ_=>true) false fuel 49 cs=some (.slice (l.map λs=> .lit (.string s)) [],p)):∃v,cs=[v]/\VR (iB W) (lvl l) v:=by
 obtain⟨a,cap,rfl,hcap,hel⟩:=open_row Tryz.underlying49 c9 h;refine⟨_,rfl,?_⟩;rw[List.length_map]at hcap ⊢;refine QF (by simp) (λx hx=> ?_) (by omega) hcap (λi x hx=> ?_)
 . obtain⟨s,_,rfl⟩:=List.mem_map.1 hx;rfl
 . rw[List.getElem?_map]at hx;cases hs:l[i]? with
   | none=>rw[hs]at hx;cases hx
   | some s=>
     rw[hs]at hx;cases hx;obtain⟨v,n,q,h1,h2⟩:=hel i (.lit (.string s)) (by rw[List.getElem?_map,hs];rfl);obtain⟨z,hz,hq,_⟩:=DataW.trod_string Tryz.underlying9 h2;cases hz;have e:s=z.data.toList:=by
      have:=congrArg Prod.fst hq;simpa using this
     subst e;refine⟨[.string z],?_,?_⟩
     . unfold World.cells?;rw[if_pos (Nat.zero_le _)];have e0:(a.add (i*1)).add 0=a.add i:=by simp[Addr.add]
       simp only[List.range_succ,List.range_zero,List.nil_append,List.mapM_cons,List.mapM_nil,e0,h1];rfl
     . exact .cons (Ze z) .nil
abbrev Vm (l:List (List UInt8)):List ByteArray:=l.map λs=>⟨⟨s⟩⟩
theorem Nq (l:List (List UInt8)):(Vm l).map Value.string=l.map aD:=by rw[List.map_map];rfl
theorem xZ {c:Array Value}{l:List (List UInt8)}(h:c.toList=(Vm l).map Value.string):(l.map aD).length<=c.size/\∀(i:Nat) (v v':Value),(l.map aD)[i]? = some v->c[i]? = some v'->VR (iB W) v v':=by
 rw[Nq]at h;refine⟨by rw[<- h,Array.length_toList];exact Nat.le_refl _,λi v v' a b=> ?_⟩;have:c.toList[i]? = some v':=by rw[<- b];simp
 rw[h,a]at this;cases this;obtain⟨s,_,rfl⟩:=List.mem_map.1 (List.mem_of_getElem? a);exact .flat _ rfl
theorem Gj {rest:List (String×DataW Unit)}(h:laidMet P (("kindling/syntax.levels",Rows.laid_kindling_syntax_levels)::rest) W):∃c el fz,W.heap[2]? = some (.cells c el fz)/\(bE.map lvl).length<=c.size/\∀(i:Nat) (v v':Value),(bE.map lvl)[i]? = some v->c[i]? = some v'->VR (iB W) v v':=by
 obtain⟨ps,⟨g',t',cs,fuel,p,q,hg',ht',hvar,hd,_,_⟩,_⟩:=h;obtain rfl:g'=2:=(Option.some.inj ((show P.globalNamed "kindling/syntax.levels" = some 2 by kernel_rfl).symm.trans hg')).symm
 obtain rfl:t'=182:=(Option.some.inj ((show(P.globals[2]?).map (·.type)=some 182 by kernel_rfl).symm.trans ht')).symm;unfold World.var? at hvar;rw[show P.globalNamed "kindling/syntax.levels" = some 2 by kernel_rfl]at hvar
 simp only[Option.bind_some]at hvar;split at hvar
 . rename_i c el fz hb;cases hvar;obtain⟨xs,n,rfl,hx,hl,hlen,hf⟩:=DataW.trod_array Tryz.underlying182 hd;have hcs:P.cellsOf 182=7:=by kernel_rfl
   have hc49:P.cellsOf 49=1:=by kernel_rfl
   rw[hcs]at hl;rw[Array.length_toList]at hl;refine⟨_,_,_,hb,by show 7<=_;omega,λi v v' a b=> ?_⟩;have hi:i<7:=by
    have:=(List.getElem?_eq_some_iff.1 a).1;exact this
   have h1:=hf i hi;have hc49':Program.cellsOf Tryz.prog 49=1:=hc49;rw[hc49',Nat.mul_one,List.getElem?_eq_getElem (by omega)]at h1;have hxs:xs.map (·.1)=bE.map λl=>(DataW.slice (l.map λs=> .lit (.string s)) []:DataW Unit):=by
    have h2:Rows.laid_kindling_syntax_levels=DataW.agg (xs.map (·.1)):=congrArg Prod.fst hx;exact(DataW.agg.inj h2).symm
   obtain⟨l,hl1,hl2⟩:∃l,bE[i]? = some l/\v=lvl l:=by
    rw[List.getElem?_map]at a;cases hq:bE[i]? with
    | none=>rw[hq]at a;cases a
    | some l=>rw[hq]at a;cases a;exact⟨l,rfl,rfl⟩
   have h3:(xs[i]'(by omega)).1=DataW.slice (l.map λs=> .lit (.string s)) []:=by
    have h4:(xs.map (·.1))[i]? = some ((xs[i]'(by omega)).1):=by rw[List.getElem?_map,List.getElem?_eq_getElem (by omega)];rfl
    rw[hxs,List.getElem?_map,hl1]at h4;exact(Option.some.inj h4).symm
   have h5:(cs.toList.drop i).take 1=[v']:=by
    have h6:cs.toList[i]? = some v':=by rw[<- b];simp
    have h7:i<cs.toList.length:=(List.getElem?_eq_some_iff.1 h6).1;rw[List.drop_eq_getElem_cons h7];rw[List.getElem?_eq_getElem h7]at h6;rw[Option.some.inj h6];rfl
   rw[h5]at h1;have h8:DataW.trod (λ_=>()) P W 0 (λ_=>true) false n 49 [v']=some (.slice (l.map λs=> .lit (.string s)) [],(xs[i]'(by omega)).2):=by
    rw[<- h3];exact h1
   obtain⟨v2,e2,h9⟩:=z8 h8;cases e2;rw[hl2];exact h9
 . cases hvar
theorem Nr (hL:laidMet P [("kindling/lex.keys",Rows.laid_kindling_lex_keys),("kindling/lex.signs",Rows.laid_kindling_lex_signs),("kindling/syntax.levels",Rows.laid_kindling_syntax_levels),("kindling/syntax.words",Rows.laid_kindling_syntax_words)] W)(hsh:W.ShapedOpen P):po W:=by
 refine⟨Ev.A4 hsh (of_decide_eq_true (by kernel_rfl)),λx hx=> ?_⟩;rw[ju];simp only[gY,List.mem_cons,List.not_mem_nil,or_false]at hx;have hk:laidMet P (("kindling/lex.keys",Ev.lF (Vm f_))::[("kindling/lex.signs",Ev.lF (Vm bu)),("kindling/syntax.levels",Rows.laid_kindling_syntax_levels),("kindling/syntax.words",Ev.lF (Vm eA))]) W:=hL
 rcases hx with rfl | rfl | rfl | rfl
 . obtain⟨c,el,fz,h1,h2⟩:=Ev.kP (g:=0) (by kernel_rfl) (by kernel_rfl) Tryz.underlying99 Tryz.underlying9 (by kernel_rfl) (by kernel_rfl) hk.tail;exact⟨by show 0<4;omega,c,el,fz,h1,xZ h2⟩
 . obtain⟨c,el,fz,h1,h2⟩:=Ev.kP (g:=1) (by kernel_rfl) (by kernel_rfl) Tryz.underlying144 Tryz.underlying9 (by kernel_rfl) (by kernel_rfl) hk;exact⟨by show 1<4;omega,c,el,fz,h1,xZ h2⟩
 . obtain⟨c,el,fz,h1,h2⟩:=Gj hk.tail.tail;exact⟨by show 2<4;omega,c,el,fz,h1,h2⟩
 . obtain⟨c,el,fz,h1,h2⟩:=Ev.kP (g:=3) (by kernel_rfl) (by kernel_rfl) Tryz.underlying188 Tryz.underlying9 (by kernel_rfl) (by kernel_rfl) hk.tail.tail.tail;exact⟨by show 3<4;omega,c,el,fz,h1,xZ h2⟩
theorem SO (hT:po W){f:FuncId}{args args':List Value}(hp:PT f args (.bool true))(hv:LR (iB W) args args'):
 Calls P f args'.toArray W λe w'=>e= .returned (.bool true)/\Below W.heap.size W w':=by
 have hs:=hT.size;rw[ju]at hs;obtain⟨H',nx',_,h⟩:=hp (lY gY .leaf) W.heap.size (Gi hs);exact rY (XO hT) (Vk hT) (o9 W) hv rfl h
end
end
end Go.Proofs.YthjhonhhbddhkaaGreatDoor
namespace Go.Proofs.YthjhonhhbddhkaaGreatDoor
open Go.Ev Go.RowKit
noncomputable section
set_option maxRecDepth 100000
set_option linter.unusedVariables false
set_option linter.unusedSimpArgs false
set_option maxHeartbeats 8000000
section
variable {nx0 nx nx' bp k:Nat}{H0 H H':T OB}{L:List Tok}
theorem Ns (l:List a_)(v:Value)(hv:DV l v)(hl:l.length<cX)(hok:∀d,d∈l->d.ok):P0 14 [v,bQ l] (.bool true):=by
 have h:=OG l l hl hok (λd hd v hv q=>(Es.2 d (hok d hd)).1 q v hv) (λd hd f hf q=>(Es.2 d (hok d hd)).2 f hf q _ f.b.vv);have e:dK l l=true:=by simp[dK]
 rw[e]at h;rcases hv with rfl | ⟨rfl,rfl⟩
 . exact h
 . intro H nx;obtain⟨H1,aE,h1,h2⟩:=h H nx;refine⟨H1,aE,h1,?_⟩;rw[<- h2,ov,ov];have e1:aQ P pl (.call 14 [aC,bQ []] false none H nx)=aQ P pl (.call 14 [bQ [],bQ []] false none H nx):=by
    rw[TM,TM,sP];rfl
   rw[e1];rfl
theorem BP (hT:pn L)(hl:L.length<=2000):∃(o:iZ (List a_)) (o2:List a_×bJ),(ps L 90000).bW [] 0=some o/\(rp L 90016).bW [] (0,none)=some o2/\BM o2=Gd o/\(o2.2.2=none->o2.1.length<cX/\∀d,d∈o2.1->d.ok)/\((mB L o).1.length<cX/\∀d,d∈(mB L o).1->d.ok):=by
 obtain⟨o,ho,_⟩:=(Us (L:=L) 90000).bW [] 0 (by omega);have hr:=(UA (L:=L) 90000).bW [] 0;rw[ho]at hr;have hok:=λds k (e:o= .ok ds k)=>(SB hT 90000 (by omega)).bW [] 0 0 aF.nil (by omega) ds k (by rw[ho,e]);have hnil:([]:List a_).length<cX/\∀d,d∈([]:List a_)->d.ok:=⟨by decide,λd h=>by simp at h⟩;cases o with
 | ok ds k=>
   have hr:(rp L 90016).bW [] (0,none)=some (ds,(k,none)):=hr;have h1:=hok ds k rfl;refine⟨_,_,ho,hr,rfl,λ_=>⟨h1.cX (by omega),h1.2⟩,?_⟩;unfold mB;split
   . show(if 100<fJ ds 0 then([],0,81)else(ds,0,0):List a_×Int×Int).1.length<cX/\∀d,d∈(if 100<fJ ds 0 then([],0,81)else(ds,0,0):List a_×Int×Int).1->d.ok;split
     . exact hnil
     . exact⟨h1.cX (by omega),h1.2⟩
   . exact hnil
 | bad a=>
   obtain⟨ds,k,hr⟩:∃a' k,(rp L 90016).bW [] (0,none)=some (a',(k,some a)):=hr;refine⟨_,_,ho,hr,rfl,(λq=>by cases q),?_⟩;unfold mB;split
   . exact hnil
   . exact hnil
end
def gg:Nat->List UInt8->Option Nat
 | _,[]=>none
 | _,[_]=>none
 | d,c::e::r=>
   if c=40/\e=42 then(gg (d+1) r).map (· + 2)
   else if c=42/\e=41 then(if d<=1 then some 2 else(gg (d-1) r).map (· + 2))
   else(gg d (e::r)).map (· + 1)
def ws (c:UInt8):Bool:=c == 9||c == 10||c == 13||c == 32
theorem oL:∀(d:Nat) (l:List UInt8) (n:Nat),gg d l=some n->2<=n/\n<=l.length
 | _,[],n,h=>by simp[gg]at h
 | _,[_],n,h=>by simp[gg]at h
 | d,c::e::r,n,h=>by
   rw[gg]at h;split at h
   . obtain⟨m,hm,rfl⟩:=Option.map_eq_some_iff.1 h;have:=oL _ r m hm;simp;omega
   . split at h
     . split at h
       . simp at h;subst h;simp
       . obtain⟨m,hm,rfl⟩:=Option.map_eq_some_iff.1 h;have:=oL _ r m hm;simp;omega
     . obtain⟨m,hm,rfl⟩:=Option.map_eq_some_iff.1 h;have:=oL _ (e::r) m hm;simp at this ⊢;omega
theorem ld:∀(l:List UInt8) (d:Nat),gg (d+2) l=(gg 1 l).bind λn=>(gg (d+1) (l.drop n)).map (n+ ·)
 | [],d=>by simp[gg]
 | [_],d=>by simp[gg]
 | c::e::r,d=>by
   have h1:gg (d+2) (c::e::r)=if c=40/\e=42 then(gg (d+2+1) r).map (· + 2)
    else if c=42/\e=41 then(if d+2<=1 then some 2 else(gg (d+2-1) r).map (· + 2))else(gg (d+2) (e::r)).map (· + 1):=by rw[gg]
   have h2:gg 1 (c::e::r)=if c=40/\e=42 then(gg (1+1) r).map (· + 2)
    else if c=42/\e=41 then(if 1<=1 then some 2 else(gg (1-1) r).map (· + 2))else(gg 1 (e::r)).map (· + 1):=by rw[gg]
   rw[h1,h2]
   by_cases a:c=40/\e=42
   . rw[if_pos a,if_pos a,show d+2+1=(d+1)+2 from rfl,ld r (d+1),show 1+1=0+2 from rfl,ld r 0];cases h:gg 1 r with
     | none=>simp
     | some n=>
       simp only[Option.bind_some,Nat.zero_add];rw[ld (r.drop n) d];cases h3:gg 1 (r.drop n)with
       | none=>simp
       | some m=>
         simp only[Option.bind_some,Option.map_some,Option.map_map,List.drop_drop];rw[show(c::e::r).drop (n+m+2)=r.drop (n+m)by simp];cases gg (d+1) (r.drop (n+m))<;>simp
         omega
   . rw[if_neg a,if_neg a]
     by_cases b:c=42/\e=41
     . rw[if_pos b,if_pos b,if_neg (by omega),if_pos (by omega)];simp only[Option.bind_some];rw[show(c::e::r).drop 2=r from rfl,show d+2-1=d+1 from rfl];cases gg (d+1) r<;>simp
       omega
     . rw[if_neg b,if_neg b,ld (e::r) d];cases h:gg 1 (e::r)with
       | none=>simp
       | some n=>
         simp only[Option.bind_some,Option.map_some,Option.map_map];rw[show(c::e::r).drop (n+1)=(e::r).drop n by simp];cases gg (d+1) ((e::r).drop n)<;>simp
         omega
termination_by l=>l.length
decreasing_by all_goals (simp;try omega)
def e8:List UInt8->Nat×Bool
 | []=>(0,true)
 | [c]=>if ws c then(1,true)else(0,true)
 | c::e::r=>
   if ws c then((e8 (e::r)).1+1,(e8 (e::r)).2)
   else if c=40/\e=42 then
    match gg 1 r with
    | none=>(0,false)
    | some n=>((e8 (r.drop n)).1+(n+2),(e8 (r.drop n)).2)
   else(0,true)
termination_by l=>l.length
decreasing_by all_goals (simp;try omega)
theorem x_:∀(l:List UInt8),(e8 l).1<=l.length
 | []=>by simp[e8]
 | [c]=>by rw[e8];split<;>simp
 | c::e::r=>by
   rw[e8];split
   . have:=x_ (e::r);simp at this ⊢;omega
   . split
     . cases h:gg 1 r with
       | none=>simp
       | some n=>
         have h1:=oL 1 r n h;have h2:=x_ (r.drop n);rw[List.length_drop]at h2;simp;omega
     . simp
termination_by l=>l.length
decreasing_by all_goals (simp;try omega)
theorem Kk {c:UInt8}{r:List UInt8}(h:ws c=true):e8 (c::r)=((e8 r).1+1,(e8 r).2):=by
 cases r with
 | nil=>simp[e8,h]
 | cons e r=>rw[e8,if_pos h]
theorem z9 (r:List UInt8):e8 (40::42::r)=match gg 1 r with
 | none=>(0,false)
 | some n=>((e8 (r.drop n)).1+(n+2),(e8 (r.drop n)).2):=by
 rw[e8,if_neg (by decide),if_pos ⟨rfl,rfl⟩]
theorem z_ {c:UInt8}{r:List UInt8}(h:¬ws c=true)(h2:¬(c=40/\r.head? = some 42)):e8 (c::r)=(0,true):=by
 cases r with
 | nil=>rw[e8,if_neg h]
 | cons e r=>rw[e8,if_neg h,if_neg (by simpa using h2)]
theorem Aa (d:Nat)(r:List UInt8):gg d (40::42::r)=(gg (d+1) r).map (· + 2):=by
 rw[gg,if_pos ⟨rfl,rfl⟩]
theorem uU (d:Nat)(r:List UInt8):gg d (42::41::r)=if d<=1 then some 2 else(gg (d-1) r).map (· + 2):=by
 rw[gg,if_neg (by decide),if_pos ⟨rfl,rfl⟩]
theorem uV {d:Nat}{c:UInt8}{r:List UInt8}(h:¬(c=40/\r.head? = some 42))(h2:¬(c=42/\r.head? = some 41)):gg d (c::r)=(gg d r).map (· + 1):=by
 cases r with
 | nil=>simp[gg]
 | cons e r=>rw[gg,if_neg (by simpa using h),if_neg (by simpa using h2)]
theorem nN {r:List UInt8}{e:UInt8}(h:r.head? = some e):∃t,r=e::t:=by
 cases r with
 | nil=>simp at h
 | cons x t=>simp at h;exact⟨t,by rw[h]⟩
section
variable {nx0:Nat}{H0:T OB}
theorem yb (c:UInt8):P0 174 [b8 c] (i64 (cJ c)):=Pure.of rfl λH nx=>by
 rw[WQ];refine Wq.call (Ej c) (.refl _ _) λH1 aE hA1=> ?_;have hc:=c.toNat_lt;unfold cJ;simp only[af];refine Wq.bK (λh=> ?_) (λh=> ?_)
 . rw[if_pos h];have hd:=g_.1 h;rw[show IntKind.u8.wrap ((c.toNat:Int)-48)=(c.toNat:Int)-48 from by rw[wrap_u8];omega];simp only[af,Bd];rw[show IntKind.i64.wrap ((c.toNat:Int)-48)=(c.toNat:Int)-48 from bk (by omega)];exact Wq.ret hA1
 rw[if_neg (by rw[h];decide)];have L10:∀b,b=(decide (65<=c.toNat)&&decide (c.toNat<=70))->Wq P pl X0 (.jump (qb (b8 c) b H1 aE)) nx H (i64 (if(decide (65<=c.toNat)&&decide (c.toNat<=70))=true then(c.toNat:Int)-55 else -1)):=by
  intro b hb;refine Wq.jmp (Lt ..) (λ_=>rfl) ?_;rw[<- hb];cases b with
  | true=>
    have h2:65<=c.toNat/\c.toNat<=70:=by simpa using hb.symm
    simp only[af];rw[show IntKind.u8.wrap ((c.toNat:Int)-65)=(c.toNat:Int)-65 from by rw[wrap_u8];omega];simp only[af,Bd];rw[show IntKind.i64.wrap ((c.toNat:Int)-65)=(c.toNat:Int)-65 from bk (by omega),show IntKind.i64.wrap ((c.toNat:Int)-65+10)=(c.toNat:Int)-55 from by rw[bk (by omega)];omega];exact Wq.ret hA1
  | false=>exact Wq.ret hA1
 refine Wq.ite (λh2=> ?_) (λh2=>L10 _ (by simp;omega));refine L10 _ ?_;rw[show decide (65<=c.toNat)=true from by simp;omega,Bool.true_and,decide_eq_decide];omega
abbrev Kl (p:UInt8×Nat):Value:= .tuple ⟨[b8 p.1,i64 ((p.2-1:Nat):Int)]⟩
theorem SP (s:List UInt8)(hl:s.length<cX):P0 145 [aD s] (Kl (gP s)):=Pure.of rfl λH nx=>by
 rw[Wy];have hA:=Ag.refl nx H;have L28f:∀H1 aE,Ag nx H aE H1->gP s=(0,0)->Wq P pl X0 (.jump (nd (aD s) false H1 aE)) nx H (Kl (gP s)):=by
  intro H1 aE hA1 hb;refine Wq.jmp (D4 ..) (λ_=>rfl) ?_;rw[hb];exact Wq.ret hA1
 cases s with
 | nil=>
   simp only[af,aK _ aV,aP,List.length_nil];exact Wq.ret hA
 | cons x t=>
   have e0:decide (((x::t).length:Int)=0)=false:=by simp;omega
   have L14:∀b,(b=true↔(x.toNat=34\/x.toNat=92))->Wq P pl X0 (.jump (p6 (aD (x::t)) (b8 x) b H nx)) nx H (Kl (gP (x::t))):=by
    intro b hb;refine Wq.jmp (Ll ..) (λ_=>rfl) ?_;cases b with
    | true=>
      simp only[af,OH];have:gP (x::t)=(x,2):=by
       rw[dh];rcases hb.1 rfl with h | h
       . rw[if_pos h,show x=34 from UInt8.toNat_inj.1 h]
       . rw[if_neg (by omega),if_pos h,show x=92 from UInt8.toNat_inj.1 h]
      rw[this];exact Wq.ret hA
    | false=>
      have hn:¬(x.toNat=34\/x.toNat=92):=λq=>by have:=hb.2 q;cases this
      simp only[af];refine Wq.ite (λh=> ?_) (λh3=> ?_)
      . rw[show gP (x::t)=(10,2)from by rw[dh];rw[if_neg (by omega),if_neg (by omega),if_pos (by omega)]];exact Wq.ret hA
      refine Wq.ite (λh=> ?_) (λh4=> ?_)
      . rw[show gP (x::t)=(9,2)from by rw[dh];rw[if_neg (by omega),if_neg (by omega),if_neg (by omega),if_pos (by omega)]];exact Wq.ret hA
      have hE:gP (x::t)=if x.toNat=120 then BN t else(0,0):=by rw[dh];rw[if_neg (by omega),if_neg (by omega),if_neg (by omega),if_neg (by omega)]
      refine Wq.ite (λh5=> ?_) (λh5=> ?_)
      . rw[if_pos (by omega)]at hE;simp only[af,aK _ aV,aP];refine Wq.ite (λh6=> ?_) (λh6=>L28f _ _ hA (by
         rw[hE]
         match t with
         | []=>rfl
         | [_]=>rfl
         | y::z::r=>simp at h6;omega))
        obtain⟨y,z,r,rfl⟩:∃y z r,t=y::z::r:=by
         match t with
         | []=>exact absurd h6 (by simp)
         | [_]=>exact absurd h6 (by simp)
         | y::z::r=>exact⟨y,z,r,rfl⟩
        have hX:BN (y::z::r)=if 0<=cJ y/\0<=cJ z then(UInt8.ofNat (16*cJ y+cJ z).toNat,4)else(0,0):=rfl;rw[hX]at hE;simp only[af,VI,VJ];refine Wq.call (yb y) hA λH2 nx2 hA2=> ?_;simp only[af];refine Wq.ite (λh7=> ?_) (λh7=>L28f _ _ hA2 (by rw[hE,if_neg (by omega)]));refine Wq.call (yb z) hA2 λH3 nx3 hA3=> ?_;simp only[af]
        by_cases h8:0<=cJ z
        . rw[decide_eq_true h8];refine Wq.jmp (D4 ..) (λ_=>rfl) ?_;have a1:=qJ y;have a2:=qJ z;have e1:IntKind.i64.wrap (cJ y*16)=cJ y*16:=bk (by omega);have e3:IntKind.i64.wrap (cJ y*16+cJ z)=16*cJ y+cJ z:=by rw[bk (by omega)];omega
          simp only[af,VI,VJ];refine Wq.call (yb y) hA3 λH4 nx4 hA4=> ?_;simp only[af];refine Wq.call (yb z) hA4 λH5 nx5 hA5=> ?_;simp only[af,e1,e3,Jm,bj];rw[hE,if_pos ⟨h7,h8⟩];have e4:IntKind.u8.wrap (16*cJ y+cJ z)=((UInt8.ofNat (16*cJ y+cJ z).toNat).toNat:Int):=by
           rw[wrap_u8,UInt8.toNat_ofNat'];omega
          rw[e4];exact Wq.ret hA5
        . rw[decide_eq_false h8];exact L28f _ _ hA3 (by rw[hE,if_neg (by omega)])
      . rw[hE,if_neg (by omega)];exact Wq.ret hA
   simp only[af,aK _ aV,aP,e0,OH];refine Wq.ite (λh=>L14 _ (by simp;omega)) (λh=> ?_);exact L14 _ (by simp;omega)
def KE (n i:Nat)(r:List UInt8):Value:=match gf n (r.takeWhile bH)with
 | some m=> .tuple ⟨[i64 (m:Int),i64 ((i+(r.takeWhile bH).length:Nat):Int)]⟩
 | none=> .tuple ⟨[i64 0,i64 0]⟩
theorem Km (s:List UInt8)(hl:s.length<cX):∀(r:List UInt8) (i n:Nat) (H:T OB) (nx:Nat),s.drop i=r->i<=s.length->n<=4611686018427387903->Ag nx0 H0 nx H->
 Wq P pl X0 (.jump (wC (aD s) (i64 (n:Int)) (i64 (i:Int)) H nx)) nx0 H0 (KE n i r):=by
 intro r
 induction r with
 | nil=>
   intro i n H nx hd hi h1 hA;have hil:=drop_nil hd hi;refine Wq.jmp (It ..) (λ_=>rfl) ?_;simp only[af,aK _ aV,aP,hil,aR];exact Wq.ret hA
 | cons c r ih=>
   intro i n H nx hd hi h1 hA;obtain⟨hg,hlt,hd'⟩:=drop_cons hd;have hin:=a9 (P:=P) aV hg .i64;refine Wq.jmp (It ..) (λ_=>rfl) ?_;simp only[af,aK _ aV,aP,aU hlt,hin];refine Wq.call (Ej c) hA λH1 aE hA1=> ?_;cases hdg:bH c with
   | false=>
     have e:KE n i (c::r)= .tuple ⟨[i64 (n:Int),i64 (i:Int)]⟩:=by
      unfold KE;rw[List.takeWhile_cons,hdg];rfl
     rw[e];simp only[af];exact Wq.ret hA1
   | true=>
     have h9:=Fh hdg;have e2:IntKind.i64.wrap (dv c:Int)=(dv c:Int):=bk (by omega);have e4:IntKind.i64.wrap (4611686018427387903-(dv c:Int))=((4611686018427387903-dv c:Nat):Int):=by rw[bk (by omega)];omega
     have e5:IntKind.i64.wrap (((4611686018427387903-dv c:Nat):Int).tdiv 10)=(((4611686018427387903-dv c)/10:Nat):Int):=by
      rw[show((4611686018427387903-dv c:Nat):Int).tdiv 10=(((4611686018427387903-dv c)/10:Nat):Int)from rfl,bk (by omega)]
     simp only[af,Bc,XM hdg,e2,e4,Jn,e5];have hN:gf n ((c::r).takeWhile bH)=if bH c=true/\n<=(4611686018427387903-dv c)/10 then gf (n*10+dv c) (r.takeWhile bH)else none:=by
      rw[List.takeWhile_cons,hdg,if_pos rfl,gf,hdg]
     refine Wq.ite (λh=> ?_) (λh=> ?_)
     . have e:KE n i (c::r)= .tuple ⟨[i64 0,i64 0]⟩:=by
        unfold KE;rw[hN,if_neg (by omega)]
       rw[e];exact Wq.ret hA1
     . have e:KE n i (c::r)=KE (n*10+dv c) (i+1) r:=by
        unfold KE;rw[hN,if_pos ⟨hdg,by omega⟩,List.takeWhile_cons,hdg];simp only[List.length_cons,if_true];rw[show i+((r.takeWhile bH).length+1)=i+1+(r.takeWhile bH).length by omega]
       rw[e];have e1:IntKind.i64.wrap ((n:Int)*10)=((n*10:Nat):Int):=by rw[bk (by omega)];omega
       have e3:IntKind.i64.wrap (((n*10:Nat):Int)+(dv c:Int))=((n*10+dv c:Nat):Int):=by rw[bk (by omega)];omega
       simp only[af,aG (show i<9223372036854775807 by have:=cU hl;omega),e1,e3];exact ih (i+1) _ H1 aE hd' (by omega) (by omega) hA1
theorem SQ (s:List UInt8)(hl:s.length<cX):P0 100 [aD s] (KE 0 0 s):=Pure.of rfl λH nx=>by
 rw[V6];exact Km s hl s 0 0 H nx rfl (Nat.zero_le _) (by omega) (.refl _ _)
def qt:Nat->List UInt8->Option (List UInt8×Nat)
 | 0,_=>none
 | _+1,[]=>none
 | f+1,c::r=>if c.toNat=34 then some ([],1)else if(cA (c::r)).2=0 then none else(qt f ((c::r).drop (cA (c::r)).2)).map λq=>((cA (c::r)).1::q.1,(cA (c::r)).2+q.2)
theorem nO (f:Nat)(c:UInt8)(r:List UInt8):qt (f+1) (c::r)=if c.toNat=34 then some ([],1)else if(cA (c::r)).2=0 then none else(qt f ((c::r).drop (cA (c::r)).2)).map λq=>((cA (c::r)).1::q.1,(cA (c::r)).2+q.2):=rfl
theorem yc (f:Nat):qt f []=none:=by cases f<;>rfl
def Nt (acc:List UInt8)(i:Nat):Option (List UInt8×Nat)->Value
 | some q=> .tuple ⟨[aD (acc++q.1),i64 ((i+q.2:Nat):Int)]⟩
 | none=> .tuple ⟨[aD [],i64 0]⟩
theorem Kn (t:List UInt8):(gP t).2=0\/2<=(gP t).2:=by
 cases t with
 | nil=>exact .inl rfl
 | cons x t=>
   rw[dh]
   by_cases h3:x.toNat=34
   . rw[if_pos h3];exact .inr (Nat.le_refl _)
   rw[if_neg h3]
   by_cases h3:x.toNat=92
   . rw[if_pos h3];exact .inr (Nat.le_refl _)
   rw[if_neg h3]
   by_cases h3:x.toNat=110
   . rw[if_pos h3];exact .inr (Nat.le_refl _)
   rw[if_neg h3]
   by_cases h3:x.toNat=116
   . rw[if_pos h3];exact .inr (Nat.le_refl _)
   rw[if_neg h3]
   by_cases h3:x.toNat=120
   . rw[if_pos h3]
     match t with
     | []=>exact .inl rfl
     | [_]=>exact .inl rfl
     | y::z::r=>
       show(if 0<=cJ y/\0<=cJ z then _ else _:UInt8×Nat).2=0\/2<=(if 0<=cJ y/\0<=cJ z then _ else _:UInt8×Nat).2
       by_cases h4:0<=cJ y/\0<=cJ z
       . rw[if_pos h4];exact .inr (by show 2<=4;omega)
       . rw[if_neg h4];exact .inl rfl
   . rw[if_neg h3];exact .inl rfl
theorem Nu (s:List UInt8)(hl:s.length<=1000000):∀(d i:Nat) (r:List UInt8) (sl:Value) (H:T OB) (nx:Nat),s.length-i<=d->1<=i->i<=s.length->r.length<=i->BS 5 nx0 H nx r sl->Ag nx0 H0 nx H->
 Wq P pl X0 (.jump (sD (aD s) sl (i64 (i:Int)) H nx)) nx0 H0 (Nt r i (qt d (s.drop i))):=by
 intro d
 induction d with
 | zero=>
   intro i r sl H nx hd hi hi2 hr hB hA;have hil:i=s.length:=by omega
   refine Wq.jmp (A3 ..) (λ_=>rfl) ?_;simp only[af,aK _ aV,aP,hil,aR];exact Wq.ret hA
 | succ d ih=>
   intro i r sl H nx hd hi hi2 hr hB hA;cases hdr:s.drop i with
   | nil=>
     have hil:=drop_nil hdr hi2;refine Wq.jmp (A3 ..) (λ_=>rfl) ?_;simp only[af,aK _ aV,aP,hil,aR];exact Wq.ret hA
   | cons c t=>
     obtain⟨hg,hlt,hd'⟩:=drop_cons hdr;have hin:=a9 (P:=P) aV hg .i64;have hc:=c.toNat_lt;refine Wq.jmp (A3 ..) (λ_=>rfl) ?_;simp only[af,aK _ aV,aP,aU hlt,hin];rw[nO];refine Wq.ite (λh=> ?_) (λh34=> ?_)
     . rw[if_pos (by omega)];simp only[af,lE cN nj aV xk hB,aG (show i<9223372036854775807 by omega)];exact Wq.e7 (by show _=Value.tuple _;rw[List.append_nil]) hA
     rw[if_neg (by omega)];have hS:cA (c::t)=if c.toNat<32\/126<c.toNat\/c.toNat=34 then(0,0)else if c.toNat=92 then gP t else(c,1):=rfl;refine Wq.ite (λh92=> ?_) (λh92=> ?_)
     . rw[if_neg (by omega),if_pos (by omega)]at hS;rw[hS];simp only[af,aG (show i<9223372036854775807 by omega),dL (show i+1<=s.length by omega),hd'];have htl:t.length=s.length-(i+1):=by rw[<- hd',List.length_drop]
       refine Wq.eQ (SP t (by have hbig:cX=1125899906842624:=rfl;omega)) hA λH1 aE hA1 n1 k1=> ?_;have hn:=qK (c::t);rw[hS,List.length_cons]at hn;have h2:=Kn t;generalize gP t=p at hn h2 ⊢;obtain⟨e,n⟩:=p;have x0:av (some (Kl (e,n))) 0=some (b8 e):=rfl;have x1:av (some (Kl (e,n))) 1=some (i64 ((n-1:Nat):Int)):=rfl;simp only at hn h2;simp only[af,x0,x1];refine Wq.ite (λh=> ?_) (λh=> ?_)
       . rw[if_pos (by omega)];exact Wq.ret hA1
       rw[if_neg (by omega)];have hB':=BS.dx hB n1 k1;refine Wq.mu (x:=[e]) cN gS eB hB' rfl rfl (Rf e) (λm hm=>iq (by simp at hm;omega)) hA1 λH2 sl2 nx2 hB2 hA2 _=> ?_;have ew:IntKind.i64.wrap ((i:Int)+((n-1:Nat):Int))=((i+(n-1):Nat):Int):=by rw[bk (by omega)];omega
       simp only[af,ew];refine Wq.jmp (K8 ..) (λ_=>rfl) ?_;simp only[af,aG (show i+(n-1)<9223372036854775807 by omega)];rw[show i+(n-1)+1=i+n by omega];have:=ih (i+n) (r++[e]) sl2 H2 nx2 (by omega) (by omega) (by omega) (by simp;omega) hB2 hA2;rw[<- List.drop_drop,hdr]at this;cases hq:qt d ((c::t).drop n)with
       | none=>rw[hq]at this;exact this
       | some q=>
         rw[hq]at this;have e2:Nt (r++[e]) (i+n) (some q)=Nt r i (some (e::q.1,n+q.2)):=by
          show Value.tuple _=Value.tuple _;rw[List.append_assoc,Nat.add_assoc];rfl
         rw[e2]at this;exact this
     have L34:∀b,(b=true↔(c.toNat<32\/126<c.toNat))->Wq P pl X0 (.jump (pO (aD s) sl (i64 (i:Int)) (b8 c) b H nx)) nx0 H0 (Nt r i (if(cA (c::t)).2=0 then none else(qt d ((c::t).drop (cA (c::t)).2)).map λq=>((cA (c::t)).1::q.1,(cA (c::t)).2+q.2))):=by
      intro b hb;refine Wq.jmp (K9 ..) (λ_=>rfl) ?_;cases b with
      | true=>
        have hS0:cA (c::t)=(0,0):=by
         have:=hb.1 rfl;rw[hS,if_pos (by omega)]
        rw[hS0,if_pos rfl];exact Wq.ret hA
      | false=>
        have hn:¬(c.toNat<32\/126<c.toNat):=λq=>by have:=hb.2 q;cases this
        have hS1:cA (c::t)=(c,1):=by rw[hS,if_neg (by omega),if_neg (by omega)]
        rw[hS1,if_neg (show ¬(c,1).2=0 from Nat.one_ne_zero)];simp only[af];refine Wq.mu (x:=[c]) cN gS eB hB rfl rfl (Rf c) (λm hm=>iq (by simp at hm;omega)) hA λH2 sl2 nx2 hB2 hA2 _=> ?_;simp only[af,aG (show i<9223372036854775807 by omega)];have:=ih (i+1) (r++[c]) sl2 H2 nx2 (by omega) (by omega) (by omega) (by simp;omega) hB2 hA2;rw[hd']at this;rw[show(c::t).drop 1=t from rfl];cases hq:qt d t with
        | none=>rw[hq]at this;exact this
        | some q=>
          rw[hq]at this;have e2:Nt (r++[c]) (i+1) (some q)=Nt r i (some (c::q.1,1+q.2)):=by
           show Value.tuple _=Value.tuple _;rw[List.append_assoc,Nat.add_assoc];rfl
          rw[e2]at this;exact this
     refine Wq.ite (λh=>L34 _ (by simp;omega)) (λh=> ?_);exact L34 _ (by simp;omega)
theorem SR (s:List UInt8)(h0:1<=s.length)(hl:s.length<=1000000):P0 101 [aD s] (Nt [] 1 (qt s.length (s.drop 1))):=Pure.of rfl λH nx=>by
 rw[V7];exact Nu s hl s.length 1 [] (.slice none 0 0) H nx (Nat.sub_le _ _) (by omega) h0 (by simp) (.nil _ _ _ _) (.refl _ _)
end
theorem take_cons {α:Type}{a:α}{t s':List α}{n:Nat}(hn:1<=n)(h:s'.take n=(a::t).take n):∃t',s'=a::t'/\t'.take (n-1)=t.take (n-1):=by
 obtain⟨m,rfl⟩:∃m,n=m+1:=⟨n-1,by omega⟩;cases s' with
 | nil=>simp at h
 | cons b t'=>
   simp only[List.take_succ_cons,List.cons.injEq]at h;exact⟨t',by rw[h.1],h.2⟩
theorem Ko {t t':List UInt8}(h0:(gP t).2≠0)(h:t'.take ((gP t).2-1)=t.take ((gP t).2-1)):gP t'=gP t:=by
 have h2:=Kn t;cases t with
 | nil=>exact absurd rfl h0
 | cons x u=>
   obtain⟨u',rfl,hu⟩:=take_cons (by omega) h;rw[dh]at h0 hu ⊢;rw[dh]
   by_cases h3:x.toNat=34
   . rw[if_pos h3,if_pos h3]
   rw[if_neg h3]at h0 hu ⊢;rw[if_neg h3]
   by_cases h3:x.toNat=92
   . rw[if_pos h3,if_pos h3]
   rw[if_neg h3]at h0 hu ⊢;rw[if_neg h3]
   by_cases h3:x.toNat=110
   . rw[if_pos h3,if_pos h3]
   rw[if_neg h3]at h0 hu ⊢;rw[if_neg h3]
   by_cases h3:x.toNat=116
   . rw[if_pos h3,if_pos h3]
   rw[if_neg h3]at h0 hu ⊢;rw[if_neg h3]
   by_cases h3:x.toNat=120
   . rw[if_pos h3]at h0 hu ⊢;rw[if_pos h3]
     match u with
     | []=>exact absurd rfl h0
     | [_]=>exact absurd rfl h0
     | y::z::r=>
       have e:∀r,BN (y::z::r)=if 0<=cJ y/\0<=cJ z then(UInt8.ofNat (16*cJ y+cJ z).toNat,4)else(0,0):=λ_=>rfl;rw[e]at h0 hu ⊢
       by_cases h4:0<=cJ y/\0<=cJ z
       . rw[if_pos h4]at hu ⊢;obtain⟨v',rfl,hv⟩:=take_cons (by show 1<=4-1-1;omega) hu;obtain⟨w',rfl,hw⟩:=take_cons (by show 1<=4-1-1-1;omega) hv;rw[e,if_pos h4]
       . rw[if_neg h4]at h0;exact absurd rfl h0
   . rw[if_neg h3]at h0;exact absurd rfl h0
theorem Kp {s s':List UInt8}(h0:(cA s).2≠0)(h:s'.take (cA s).2=s.take (cA s).2):cA s'=cA s:=by
 cases s with
 | nil=>exact absurd rfl h0
 | cons a t=>
   obtain⟨t',rfl,ht⟩:=take_cons (by omega) h;rw[fc]at h0 ht ⊢;rw[fc]
   by_cases h1:a.toNat<32\/126<a.toNat\/a.toNat=34
   . rw[if_pos h1]at h0;exact absurd rfl h0
   rw[if_neg h1]at h0 ht ⊢;rw[if_neg h1]
   by_cases h2:a.toNat=92
   . rw[if_pos h2]at h0 ht ⊢;rw[if_pos h2];exact Ko h0 ht
   . rw[if_neg h2,if_neg h2]
theorem Fl:∀{f:Nat} {s:List UInt8} {q:List UInt8×Nat},qt f s=some q->1<=q.2/\q.2<=s.length:=by
 intro f
 induction f with
 | zero=>intro s q h;cases h
 | succ f ih=>
   intro s q h;cases s with
   | nil=>cases h
   | cons c r=>
     rw[nO]at h
     by_cases h1:c.toNat=34
     . rw[if_pos h1]at h;cases h;exact⟨Nat.le_refl _,by simp⟩
     rw[if_neg h1]at h
     by_cases h2:(cA (c::r)).2=0
     . rw[if_pos h2]at h;cases h
     rw[if_neg h2]at h;obtain⟨q1,hq,rfl⟩:=Option.map_eq_some_iff.1 h;have:=ih hq;have:=qK (c::r);rw[List.length_drop]at*;show 1<=(cA (c::r)).2+q1.2/\(cA (c::r)).2+q1.2<=_;omega
theorem BQ:∀{f:Nat} {s:List UInt8} {f':Nat} {s':List UInt8} {q:List UInt8×Nat},s'.length<=f'->qt f s=some q->s'.take q.2=s.take q.2->qt f' s'=some q:=by
 intro f
 induction f with
 | zero=>intro s f' s' q _ h;cases h
 | succ f ih=>
   intro s f' s' q hf' h ht;cases s with
   | nil=>cases h
   | cons c r=>
     have hle:=Fl h;obtain⟨r',rfl,hr⟩:=take_cons hle.1 ht;obtain⟨g,rfl⟩:∃g,f'=g+1:=⟨f'-1,by simp at hf';omega⟩;rw[nO]at h ⊢
     by_cases h1:c.toNat=34
     . rw[if_pos h1]at h ⊢;exact h
     rw[if_neg h1]at h ⊢
     by_cases h2:(cA (c::r)).2=0
     . rw[if_pos h2]at h;cases h
     rw[if_neg h2]at h;obtain⟨q1,hq,rfl⟩:=Option.map_eq_some_iff.1 h;have ht1:(c::r').take (cA (c::r)).2=(c::r).take (cA (c::r)).2:=by
      have:=congrArg (List.take (cA (c::r)).2) ht;rwa[List.take_take,List.take_take,Nat.min_eq_left (Nat.le_add_right _ _)]at this
     have ht2:((c::r').drop (cA (c::r)).2).take q1.2=((c::r).drop (cA (c::r)).2).take q1.2:=by
      have:=congrArg (List.drop (cA (c::r)).2) ht;rwa[List.drop_take,List.drop_take,Nat.add_sub_cancel_left]at this
     rw[Kp h2 ht1,if_neg h2,ih (by rw[List.length_drop];simp at hf' ⊢;omega) hq ht2];rfl
theorem Nv {c:UInt8}{t:List UInt8}(h:c.toNat=34):cA (c::t)=(0,0):=by
 rw[fc,if_pos (.inr (.inr h))]
theorem SU:∀(f g:Nat) (u out:List UInt8),u.length<=f->u.length<=g->
 (∀o,qt g u=some (o,u.length)->z5 f u out=(out++o,true))/\((∀o,qt g u≠some (o,u.length))->(z5 f u out).2=false):=by
 intro f
 induction f with
 | zero=>
   intro g u out hf hg;obtain rfl:u=[]:=List.length_eq_zero_iff.1 (by omega);exact⟨λo h=>(by rw[yc]at h;cases h),λ_=>rfl⟩
 | succ f ih=>
   intro g u out hf hg;cases u with
   | nil=>exact⟨λo h=>(by rw[yc]at h;cases h),λ_=>rfl⟩
   | cons c r=>
     obtain⟨g,rfl⟩:∃k,g=k+1:=⟨g-1,by simp at hg;omega⟩;rw[nO];have hle:=qK (c::r);cases r with
     | nil=>
       have e:z5 (f+1) [c] out=(out,decide ([c]=[34])):=rfl;rw[e]
       by_cases h1:c.toNat=34
       . have:c=34:=UInt8.toNat_inj.1 h1;subst this;rw[if_pos (show(34:UInt8).toNat=34 from rfl)];exact⟨λo h=>(by cases h;rw[List.append_nil];rfl),λh=>absurd rfl (h [])⟩
       . rw[if_neg h1];have:qt g ([c].drop (cA [c]).2)=none\/(cA [c]).2=0:=by
          by_cases h2:(cA [c]).2=0
          . exact .inr h2
          . rw[List.drop_eq_nil_of_le (by simp;omega),yc];exact .inl rfl
         refine⟨λo h=> ?_,λ_=> ?_⟩
         . rcases this with h2 | h2
           . rw[h2]at h;split at h<;>cases h
           . rw[if_pos h2]at h;cases h
         . rw[decide_eq_false_iff_not];intro q;cases q;exact h1 rfl
     | cons d r=>
       have e:z5 (f+1) (c::d::r) out=if(cA (c::d::r)).2=0 then([],false)else z5 f ((c::d::r).drop (cA (c::d::r)).2) (out++[(cA (c::d::r)).1]):=if_neg (by simp);rw[e]
       by_cases h1:c.toNat=34
       . rw[if_pos h1,Nv h1];exact⟨λo h=>(by cases h),λ_=>rfl⟩
       rw[if_neg h1]
       by_cases h2:(cA (c::d::r)).2=0
       . rw[if_pos h2,if_pos h2];exact⟨λo h=>(by cases h),λ_=>rfl⟩
       rw[if_neg h2,if_neg h2];generalize hp:cA (c::d::r)=p at h2 hle ⊢;obtain⟨b,n⟩:=p;simp only at h2 hle ⊢;have:=ih g ((c::d::r).drop n) (out++[b]) (by rw[List.length_drop];simp at hf ⊢;omega) (by rw[List.length_drop];simp at hg ⊢;omega);refine⟨λo h=> ?_,λh=>this.2 λo q=> ?_⟩
       . obtain⟨q1,hq,he⟩:=Option.map_eq_some_iff.1 h;have he:=Prod.mk.inj he;rw[this.1 q1.1 (by rw[hq,List.length_drop];congr 1;refine Prod.ext rfl ?_;show q1.2=_;omega),List.append_assoc,<- he.1];rfl
       . refine h (b::o) ?_;rw[q,List.length_drop];show some (b::o,n+((c::d::r).length-n))=_;rw[Nat.add_sub_cancel' hle]
theorem j2 {s:List UInt8}(h:eT s=false):bT s=l6 s:=by
 unfold bT;rw[if_neg (λq=>by rw[nM q]at h;cases h)]
theorem ti {c:UInt8}{u:List UInt8}{g:Nat}(h:c.toNat=34)(hg:u.length<=g):
 (∀o,qt g u=some (o,u.length)->bT (c::u)=(⟨2,o,0,0⟩,true))/\((∀o,qt g u≠some (o,u.length))->(bT (c::u)).2=false):=by
 obtain rfl:c=34:=UInt8.toNat_inj.1 h;rw[j2 rfl];have hw:isWord (34::u)=false:=rfl;have hv:isVar (34::u)=false:=by cases u<;>rfl
 have hs:bu.contains (34::u)=false:=by
  cases hq:bu.contains (34::u)with
  | false=>rfl
  | true=>exact absurd (lL hq).2.1 (by simp[first])
 unfold l6;rw[hw,hv,hs];cases u with
 | nil=>exact⟨λo h=>(by rw[yc]at h;cases h),λ_=>rfl⟩
 | cons d u=>
   have hQ:iY (34::d::u)=z5 (u.length+1+1) (d::u) []:=by
    unfold iY;rw[if_neg (by simp[first])];rfl
   have:=SU (u.length+1+1) g (d::u) [] (by simp) hg;rw[hQ];refine⟨λo h=> ?_,λh=> ?_⟩
   . rw[this.1 o h,if_pos rfl];rfl
   . rw[if_neg (by rw[this.2 h];decide)];rfl
theorem SV:∀n:Nat,n<256->(cb (UInt8.ofNat n)||bS (UInt8.ofNat n))=true->bH (UInt8.ofNat n)=false/\(UInt8.ofNat n).toNat≠34/\(UInt8.ofNat n).toNat≠39:=by decide
theorem Kq {c:UInt8}(h:(cb c||bS c)=true):bH c=false/\c.toNat≠34/\c.toNat≠39:=by
 have:=SV c.toNat c.toNat_lt;rw[UInt8.ofNat_toNat]at this;exact this h
theorem yd {c:UInt8}{u:List UInt8}(h:c.toNat≠34):(iY (c::u)).2=false:=by
 cases hq:(iY (c::u)).2 with
 | false=>rfl
 | true=>
   have:=lK hq;simp[first]at this;exact absurd this h
theorem uW {c:UInt8}{u:List UInt8}(h:(cb c||bS c)=true):bT (c::u)=if u.all gN=true then(⟨eR (c::u),c::u,0,0⟩,true)else(⟨0,[],0,0⟩,false):=by
 obtain⟨h1,h2,h3⟩:=Kq h;rw[j2 (show eT (c::u)=false from h1)];unfold l6;rw[yd h2,if_neg (by decide)];have hw:isWord (c::u)=u.all gN:=by show((cb c||bS c)&&u.all gN)=_;rw[h,Bool.true_and]
 rw[hw]
 by_cases hu:u.all gN=true
 . rw[if_pos hu,if_pos hu]
 rw[if_neg hu,if_neg hu];have hv:isVar (c::u)=false:=by
  cases u with
  | nil=>rfl
  | cons d u=>show(decide (c.toNat=39)&&_)=false;rw[decide_eq_false h3];rfl
 have hs:bu.contains (c::u)=false:=by
  cases hq:bu.contains (c::u)with
  | false=>rfl
  | true=>
    exfalso;have:∀x∈bu,(match x with | []=>false | a::_=>cb a||bS a)=false:=by decide
    have this:(cb c||bS c)=false:=this (c::u) (by simpa using hq);rw[h]at this;cases this
 rw[hv,hs];rfl
def tQ (x:UInt8):Bool:= !decide (x.toNat=39)&&gN x
theorem Fm:∀x∈bu,first x 39=false/\x≠[]:=by decide
theorem Kr {c:UInt8}{u:List UInt8}(h:c.toNat=39):bT (c::u)=if isVar (c::u)=true then(⟨5,c::u,0,0⟩,true)else(⟨0,[],0,0⟩,false):=by
 obtain rfl:c=39:=UInt8.toNat_inj.1 h;rw[j2 rfl];unfold l6;rw[yd (by decide),if_neg (by decide),show isWord (39::u)=false from rfl,if_neg (by decide)]
 by_cases hv:isVar (39::u)=true
 . rw[if_pos hv,if_pos hv]
 rw[if_neg hv,if_neg hv];have hs:bu.contains (39::u)=false:=by
  cases hq:bu.contains (39::u)with
  | false=>rfl
  | true=>exact absurd (Fm _ (by simpa using hq)).1 (by simp[first])
 rw[hs];rfl
theorem BR {c:UInt8}{u:List UInt8}(h1:bH c=false)(h2:c.toNat≠34)(h3:(cb c||bS c)=false)(h4:c.toNat≠39):bT (c::u)=if bu.contains (c::u)=true then(⟨7,c::u,0,0⟩,true)else(⟨0,[],0,0⟩,false):=by
 rw[j2 (show eT (c::u)=false from h1)];unfold l6;have hw:isWord (c::u)=false:=by show((cb c||bS c)&&u.all gN)=_;rw[h3,Bool.false_and]
 have hv:isVar (c::u)=false:=by
  cases u with
  | nil=>rfl
  | cons d u=>show(decide (c.toNat=39)&&_)=false;rw[decide_eq_false h4];rfl
 rw[yd h2,hw,hv];rfl
theorem Ks {c:UInt8}{u:List UInt8}(h:bH c=true):bT (c::u)=match gf 0 (c::u)with
 | some v=>(⟨1,[],(v:Int),0⟩,true)
 | none=>(⟨0,[],0,0⟩,false):=by
 have hn:c.toNat≠34/\c.toNat≠39:=by rw[g_]at h;omega
 have hl:(cb c||bS c)=false:=by
  cases hq:(cb c||bS c)with
  | false=>rfl
  | true=>rw[(Kq hq).1]at h;cases h
 unfold bT jt;cases gf 0 (c::u)with
 | some v=>rw[if_pos (by simp)]
 | none=>
   rw[if_neg (by simp)];unfold l6;have hw:isWord (c::u)=false:=by show((cb c||bS c)&&u.all gN)=_;rw[hl,Bool.false_and]
   have hv:isVar (c::u)=false:=by
    cases u with
    | nil=>rfl
    | cons d u=>show(decide (c.toNat=39)&&_)=false;rw[decide_eq_false hn.2];rfl
   have hs:bu.contains (c::u)=false:=by
    cases hq:bu.contains (c::u)with
    | false=>rfl
    | true=>
      have:=(lL hq).1;simp only[eT]at this;rw[h]at this;cases this
   rw[yd hn.1,hw,hv,hs];rfl
def jv:List UInt8->Bool
 | []=>false
 | c::_=>cb c
def Gk (c:UInt8)(u:List UInt8):Option (Tok×Nat):=
 if c.toNat=34 then(qt (u.length+1) u).map λq=>(⟨2,q.1,0,0⟩,1+q.2)
 else if(cb c||bS c)=true then some (⟨eR (c::u.takeWhile gN),c::u.takeWhile gN,0,0⟩,1+(u.takeWhile gN).length)
 else if c.toNat=39/\jv u=true then some (⟨5,(c::u).take (2+((u.drop 1).takeWhile tQ).length),0,0⟩,2+((u.drop 1).takeWhile tQ).length)
 else(bu.find? λs=>s.isPrefixOf (c::u)).map λs=>(⟨7,s,0,0⟩,s.length)
def Gl (l:List UInt8):Option (Tok×Nat):=match gf 0 l with
 | some v=>some (⟨1,[],(v:Int),0⟩,l.length)
 | none=>none
def tj:List UInt8->Option (Tok×Nat)
 | []=>none
 | c::u=>if bH c=true then Gl ((c::u).takeWhile bH)else Gk c u
theorem lM (c:UInt8)(u:List UInt8):tj (c::u)=if bH c=true then Gl ((c::u).takeWhile bH)else Gk c u:=rfl
def pw (r:List UInt8):Nat->Option (Tok×Nat)
 | 0=>none
 | n+1=>if(bT (r.take (n+1))).2=true then some ((bT (r.take (n+1))).1,n+1)else pw r n
def Nw (r:List UInt8):Option (Tok×Nat):=
 if 0<(r.takeWhile bH).length then(if(bT (r.take (r.takeWhile bH).length)).2=true then some ((bT (r.take (r.takeWhile bH).length)).1,(r.takeWhile bH).length)else none)
 else pw r r.length
theorem lO {r:List UInt8}{n:Nat}{t:Tok}(h0:0<n)(ht:bT (r.take n)=(t,true)):∀m,n<=m->(∀j,n<j->j<=m->(bT (r.take j)).2=false)->pw r m=some (t,n):=by
 intro m
 induction m with
 | zero=>intro h _;omega
 | succ m ih=>
   intro h hj;rw[pw]
   by_cases e:n=m+1
   . subst e;rw[ht,if_pos rfl]
   . rw[if_neg (by rw[hj (m+1) (by omega) (Nat.le_refl _)];decide)];exact ih (by omega) λj h1 h2=>hj j h1 (by omega)
theorem oM {r:List UInt8}:∀m,(∀j,0<j->j<=m->(bT (r.take j)).2=false)->pw r m=none:=by
 intro m
 induction m with
 | zero=>intro _;rfl
 | succ m ih=>
   intro hj;rw[pw,if_neg (by rw[hj (m+1) (by omega) (Nat.le_refl _)];decide)];exact ih λj h1 h2=>hj j h1 (by omega)
theorem iA {p:UInt8->Bool}:∀(l:List UInt8) (j:Nat),j<=l.length->((l.take j).all p=true↔j<=(l.takeWhile p).length)
 | [],j,h=>by simp at h;subst h;simp
 | a::l,0,h=>by simp
 | a::l,j+1,h=>by
   have ih:=iA (p:=p) l j (by simpa using h);rw[List.take_succ_cons,List.all_cons,List.takeWhile_cons];cases p a with
   | true=>simp only[Bool.true_and,if_true,List.length_cons];rw[ih];omega
   | false=>simp
theorem nP {p:UInt8->Bool}:∀l:List UInt8,l.take (l.takeWhile p).length=l.takeWhile p
 | []=>rfl
 | a::l=>by
   rw[List.takeWhile_cons];cases p a with
   | true=>simp only[if_true,List.length_cons,List.take_succ_cons];rw[nP l]
   | false=>rfl
theorem tl {p:UInt8->Bool}(l:List UInt8):(l.takeWhile p).length<=l.length:=by
 have:=congrArg List.length (nP (p:=p) l);rw[List.length_take]at this;omega
theorem BT:bu.Pairwise (λa b=>b.length<=a.length):=by decide
theorem SW (r:List UInt8):Nw r=tj r:=by
 cases r with
 | nil=>rfl
 | cons c u=>
   unfold Nw;rw[lM];cases hd:bH c with
   | true=>
     have e:(c::u).takeWhile bH=c::u.takeWhile bH:=by rw[List.takeWhile_cons,hd];rfl
     rw[if_pos rfl,nP,e,if_pos (show 0<(c::u.takeWhile bH).length by simp),Ks hd];unfold Gl;cases gf 0 (c::u.takeWhile bH)with
     | some v=>rfl
     | none=>rfl
   | false=>
     have e:(c::u).takeWhile bH=[]:=by rw[List.takeWhile_cons,hd];rfl
     rw[e,if_neg (show ¬ 0<([]:List UInt8).length by decide),if_neg (by decide)];unfold Gk;have htk:∀j,0<j->(c::u).take j=c::u.take (j-1):=λj hj=>by
      obtain⟨m,rfl⟩:∃m,j=m+1:=⟨j-1,by omega⟩;rfl
     by_cases h34:c.toNat=34
     . rw[if_pos h34];cases hq:qt (u.length+1) u with
       | some q=>
         obtain⟨o,m⟩:=q;have hle:=Fl hq;simp only at hle;refine lO (by omega) ?_ _ (by simp;omega) λj h1 h2=> ?_
         . rw[htk _ (by omega),show 1+m-1=m by omega];refine(ti (g:=m) h34 (by simp;omega)).1 o ?_;have:=BQ (f':=m) (s':=u.take m) (by simp;omega) hq (by rw[List.take_take,Nat.min_self]);rw[this,List.length_take,Nat.min_eq_left hle.2]
         . rw[htk _ (by omega)];refine(ti (g:=u.length) h34 (by rw[List.length_take];omega)).2 λo' h=> ?_;rw[List.length_take,Nat.min_eq_left (by simp at h2;omega)]at h;have:=BQ (f':=u.length+1) (s':=u) (by omega) h (by rw[List.take_take,Nat.min_self]);rw[hq]at this;cases this;omega
       | none=>
         refine oM _ λj h1 h2=> ?_;rw[htk _ h1];refine(ti (g:=u.length) h34 (by rw[List.length_take];omega)).2 λo' h=> ?_;rw[List.length_take,Nat.min_eq_left (by simp at h2;omega)]at h;have:=BQ (f':=u.length+1) (s':=u) (by omega) h (by rw[List.take_take,Nat.min_self]);rw[hq]at this;cases this
     rw[if_neg h34];cases hl:(cb c||bS c)with
     | true=>
       rw[if_pos rfl];have hle:=tl (p:=gN) u;refine lO (by omega) ?_ _ (by simp;omega) λj h1 h2=> ?_
       . rw[htk _ (by omega),Nat.add_sub_cancel_left,uW hl,if_pos ((iA _ _ hle).2 (Nat.le_refl _)),nP]
       . rw[htk _ (by omega),uW hl,if_neg (λq=>by have:=(iA _ _ (by simp at h2;omega)).1 q;omega)]
     | false=>
       rw[if_neg (by decide)]
       by_cases h39:c.toNat=39
       . have hT:∀j,0<j->bT ((c::u).take j)=if isVar (c::u.take (j-1))=true then(⟨5,c::u.take (j-1),0,0⟩,true)else(⟨0,[],0,0⟩,false):=λj hj=>by rw[htk _ hj,Kr h39]
         by_cases hf:jv u=true
         . rw[if_pos ⟨h39,hf⟩];obtain⟨d,w,rfl⟩:∃d w,u=d::w:=by
            cases u with
            | nil=>cases hf
            | cons d w=>exact⟨d,w,rfl⟩
           have hd1:cb d=true:=hf;have hle:=tl (p:=tQ) w;have hV:∀k,isVar (c::(d::w).take (k+1))=(w.take k).all tQ:=λk=>by
            show(decide (c.toNat=39)&&(cb d&&_))=_;rw[decide_eq_true h39,hd1,Bool.true_and,Bool.true_and];rfl
           refine lO (by omega) ?_ _ (by simp;omega) λj h1 h2=> ?_
           . rw[hT _ (by omega),show 2+((List.drop 1 (d::w)).takeWhile tQ).length-1=(w.takeWhile tQ).length+1 from by show 2+(w.takeWhile tQ).length-1=_;omega,hV,if_pos ((iA _ _ hle).2 (Nat.le_refl _))];rw[show(2+((List.drop 1 (d::w)).takeWhile tQ).length)=(w.takeWhile tQ).length+1+1 from by show 2+(w.takeWhile tQ).length=_;omega];rfl
           . have h1':2+(w.takeWhile tQ).length<j:=h1;rw[hT _ (by omega),show j-1=(j-2)+1 by omega,hV,if_neg (λq=>by have:=(iA _ _ (by simp at h2;omega)).1 q;omega)]
         . rw[if_neg (λq=>hf q.2)];have e1:(bu.find? λs=>s.isPrefixOf (c::u))=none:=by
            rw[List.find?_eq_none];intro x hx hp;obtain⟨h1,h2⟩:=Fm x hx;cases x with
            | nil=>exact h2 rfl
            | cons a x=>
              simp only[List.isPrefixOf,Bool.and_eq_true,beq_iff_eq]at hp;rw[hp.1]at h1;simp only[first,decide_eq_false_iff_not]at h1;exact h1 h39
           rw[e1];refine oM _ λj h1 h2=> ?_;rw[hT _ h1,if_neg];intro q;apply hf;cases hu:u.take (j-1)with
           | nil=>rw[hu]at q;cases q
           | cons d w=>
             have:cb d=true:=by
              rw[hu]at q;have q':(decide (c.toNat=39)&&(cb d&&_))=true:=q;simp only[Bool.and_eq_true]at q';exact q'.2.1
             cases u with
             | nil=>simp at hu
             | cons x w'=>
               have hx:x=d:=by
                cases hj:j-1 with
                | zero=>rw[hj]at hu;cases hu
                | succ k=>rw[hj]at hu;cases hu;rfl
               subst hx;assumption
       . rw[if_neg (λq=>h39 q.1)];have hT:∀j,0<j->bT ((c::u).take j)=if bu.contains ((c::u).take j)=true then(⟨7,(c::u).take j,0,0⟩,true)else(⟨0,[],0,0⟩,false):=λj hj=>by rw[htk _ hj,BR hd h34 hl h39]
         cases hs:bu.find? λs=>s.isPrefixOf (c::u)with
         | some s=>
           have hp:s <+: (c::u):=List.isPrefixOf_iff_prefix.1 (by simpa using List.find?_some hs);have hm:s∈bu:=List.mem_of_find?_eq_some hs;have h0:0<s.length:=by
            cases s with
            | nil=>exact absurd rfl (Fm _ hm).2
            | cons a s=>simp
           have ht:(c::u).take s.length=s:=(List.prefix_iff_eq_take.1 hp).symm;refine lO h0 ?_ _ hp.length_le λj h1 h2=> ?_
           . rw[hT _ h0,ht,if_pos (by simpa using hm)]
           . rw[hT _ (by omega),if_neg];intro q;have q:(c::u).take j∈bu:=by simpa using q
             obtain⟨hp2,al,bs,hab,hno⟩:=List.find?_eq_some_iff_append.1 hs;have hfall:=BT;rw[hab]at hfall q;have hjl:((c::u).take j).length=j:=by rw[List.length_take];omega
             rcases List.mem_append.1 q with h | h
             . have:=hno _ h;rw[List.isPrefixOf_iff_prefix.2 (List.take_prefix _ _)]at this;cases this
             . rcases List.mem_cons.1 h with h | h
               . rw[h]at hjl;omega
               . have:=(List.pairwise_cons.1 (List.pairwise_append.1 hfall).2.1).1 _ h;omega
         | none=>
           refine oM _ λj h1 h2=> ?_;rw[hT _ h1,if_neg];intro q;have:=List.find?_eq_none.1 hs _ (by simpa using q);exact this (List.isPrefixOf_iff_prefix.2 (List.take_prefix _ _))
section
variable {nx0 nx nx':Nat}{H0 H H':T OB}{F:List Bx}{b:Nat}{s:List UInt8}
abbrev yg (b:Nat)(s:List UInt8)(i:Nat):Bx:=(b,[aD s,i64 (i:Int)],95)
theorem gD {i:Nat}(h:Hp nx0 H0 (yg b s i::F) H nx):ae P H 3 (some (.pointer (some ⟨b,1,none⟩)))=some (i64 (i:Int)):=aw (h.at_ 0 rfl) m_ rfl
theorem uX {i:Nat}(h:Hp nx0 H0 (yg b s i::F) H nx):ae P H 9 (some (.pointer (some ⟨b,0,none⟩)))=some (aD s):=aw (h.at_ 0 rfl) lX rfl
abbrev VE (u:Value)(G:List Bx)(nx0:Nat)(H0:T OB):Go.Ev.Out->T OB->Nat->Prop:=λo H nx=>o= .ret u/\Hp nx0 H0 G H nx
theorem Nx (hl:s.length<cX){i p:Nat}:∀(r:List UInt8) (j:Nat) (H:T OB) (nx:Nat),s.drop j=r->p<=j->j<=s.length->Hp nx0 H0 (yg b s i::F) H nx->
 aO P pl X0 (.jump (wD (ptr b) (i64 (p:Int)) (i64 (j:Int)) H nx)) nx0 H0 (VE (aD ((s.drop p).take (j-p+(r.takeWhile gN).length))) (yg b s i::F) nx0 H0):=by
 intro r
 induction r with
 | nil=>
   intro j H nx hd hp hj h;have hil:=drop_nil hd hj;refine Wq.jmp (Iu ..) (λ_=>rfl) ?_;simp only[af,uX h,aK _ aV,aP,show decide ((j:Int)<(s.length:Int))=false by simp;omega,dr aV hp hj];exact fD h
 | cons c r ih=>
   intro j H nx hd hp hj h;obtain⟨hg,hlt,hd'⟩:=drop_cons hd;have hin:=a9 (P:=P) aV hg .i64;refine Wq.jmp (Iu ..) (λ_=>rfl) ?_;simp only[af,uX h,aK _ aV,aP,aU hlt,hin];refine Hq.call (Ek c) h λH1 aE h1=> ?_;cases hw:gN c with
   | false=>
     simp only[af,uX h1,dr aV hp hj];rw[List.takeWhile_cons,hw];exact fD h1
   | true=>
     simp only[af,aG (show j<9223372036854775807 by have:=cU hl;omega)];rw[List.takeWhile_cons,hw,if_pos rfl,List.length_cons,show j-p+((r.takeWhile gN).length+1)=j+1-p+(r.takeWhile gN).length by omega];exact ih (j+1) H1 aE hd' (by omega) (by omega) h1
theorem SX (hl:s.length<cX){i p:Nat}(hp:p<s.length)(h:Hp nx0 H0 (yg b s i::F) H nx):
 aO P pl X0 (aQ P pl (.call 102 [ptr b,i64 (p:Int)] false none H nx)) nx0 H0 (VE (aD ((s.drop p).take (1+((s.drop (p+1)).takeWhile gN).length))) (yg b s i::F) nx0 H0):=by
 rw[V8];simp only[af,aG (show p<9223372036854775807 by have:=cU hl;omega)];have:=Nx (b:=b) (F:=F) (i:=i) hl (s.drop (p+1)) (p+1) H nx rfl (Nat.le_succ p) hp h;rwa[show p+1-p=1 by omega]at this
def gW (s:List UInt8)(d fr i:Nat):Bool×Nat:=
 if d=0 then((e8 (s.drop i)).2,if(e8 (s.drop i)).2=true then i+(e8 (s.drop i)).1 else i+(e8 (s.drop i)).1)
 else match gg d (s.drop i)with
  | none=>(false,fr)
  | some n=>((e8 (s.drop (i+n))).2,i+n+(e8 (s.drop (i+n))).1)
theorem j3 (s:List UInt8)(fr i:Nat):gW s 0 fr i=((e8 (s.drop i)).2,i+(e8 (s.drop i)).1):=by
 unfold gW;rw[if_pos rfl];split<;>rfl
theorem j4 (s:List UInt8){d:Nat}(hd:d≠0)(fr i:Nat):gW s d fr i=match gg d (s.drop i)with
 | none=>(false,fr)
 | some n=>((e8 (s.drop (i+n))).2,i+n+(e8 (s.drop (i+n))).1):=if_neg hd
theorem Gm {i d fr:Nat}{t:List UInt8}(h:s.drop i=40::42::t):gW s d fr i=gW s (d+1) (if d=0 then i else fr) (i+2):=by
 have h2:s.drop (i+2)=t:=by rw[<- List.drop_drop,h];rfl
 have hdrop:∀n,s.drop (i+2+n)=t.drop n:=λn=>by rw[<- List.drop_drop,h2]
 rw[j4 s (Nat.succ_ne_zero d),h2]
 by_cases d0:d=0
 . subst d0;rw[j3,h,z9,if_pos rfl];cases hc:gg 1 t with
   | none=>simp[hc]
   | some n=>
     simp only[Nat.zero_add,hc,hdrop];rw[show i+((e8 (t.drop n)).1+(n+2))=i+2+n+(e8 (t.drop n)).1 by omega]
 . rw[j4 s d0,h,Aa,if_neg d0];cases hc:gg (d+1) t with
   | none=>simp
   | some n=>simp only[Option.map_some,show i+(n+2)=i+2+n by omega]
theorem BV {i d fr:Nat}{t:List UInt8}(h:s.drop i=42::41::t)(hd:0<d):gW s d fr i=gW s (d-1) fr (i+2):=by
 have h2:s.drop (i+2)=t:=by rw[<- List.drop_drop,h];rfl
 rw[j4 s (by omega),h,uU]
 by_cases d1:d=1
 . subst d1;rw[if_pos (by omega),j3]
 . rw[if_neg (by omega),j4 s (by omega),h2];cases hc:gg (d-1) t with
   | none=>simp
   | some n=>simp only[Option.map_some,show i+(n+2)=i+2+n by omega]
theorem Gn {i d fr:Nat}{c:UInt8}{r:List UInt8}(h:s.drop i=c::r)(a:¬(c=40/\r.head? = some 42))(e:¬(0<d/\c=42/\r.head? = some 41))(w:0<d\/ws c=true):gW s d fr i=gW s d fr (i+1):=by
 have hr:s.drop (i+1)=r:=by rw[<- List.drop_drop,h];rfl
 by_cases d0:d=0
 . subst d0;rw[j3,j3,h,hr,Kk (w.resolve_left (by omega))];simp only;rw[show i+((e8 r).1+1)=i+1+(e8 r).1 by omega]
 . rw[j4 s d0,j4 s d0,h,hr,uV a (λq=>e ⟨by omega,q⟩)];cases hc:gg d r with
   | none=>simp
   | some n=>simp only[Option.map_some,show i+(n+1)=i+1+n by omega]
theorem Gp {i fr:Nat}{c:UInt8}{r:List UInt8}(h:s.drop i=c::r)(a:¬(c=40/\r.head? = some 42))(w:¬ws c=true):gW s 0 fr i=(true,i):=by
 rw[j3,h,z_ w a];rfl
theorem Ku {i d fr:Nat}(h:s.length<=i):gW s d fr i=if d=0 then(true,i)else(false,fr):=by
 have hn:s.drop i=[]:=List.drop_eq_nil_of_le h
 by_cases d0:d=0
 . subst d0;rw[j3,hn,if_pos rfl];simp[e8]
 . rw[j4 s d0,hn,if_neg d0];simp[gg]
abbrev Td (b:Nat)(s:List UInt8)(F:List Bx)(nx0:Nat)(H0:T OB)(q:Bool×Nat):Go.Ev.Out->T OB->Nat->Prop:=VE (.bool q.1) (yg b s q.2::F) nx0 H0
theorem Kv (hl:s.length<cX):∀(m i d fr:Nat) (H:T OB) (nx:Nat),s.length-i<=m->i<=s.length->d<=i->fr<=s.length->Hp nx0 H0 (yg b s i::F) H nx->
 aO P pl X0 (.jump (uE (ptr b) (i64 (d:Int)) (i64 (fr:Int)) H nx)) nx0 H0 (Td b s F nx0 H0 (gW s d fr i)):=by
 have hbig:cX=1125899906842624:=rfl;intro m
 induction m with
 | zero=>
   intro i d fr H nx hm hi hd hfr h;have hil:i=s.length:=by omega
   refine Wq.jmp (Oc ..) (λ_=>rfl) ?_;simp only[af,gD h,uX h,aK _ aV,aP,show decide ((i:Int)<(s.length:Int))=false by simp;omega];rw[Ku (by omega)];refine Wq.ite (λh0=> ?_) (λh0=> ?_)
   . rw[if_neg (by omega)];refine Hq.put [] h jk rfl rfl (by simp) rfl λH2 h2=> ?_;refine Wq.jmp (Ih ..) (λ_=>rfl) ?_;simp only[af,show decide ((d:Int)=0)=false by simp;omega];exact fD h2
   . rw[if_pos (by omega)];refine Wq.jmp (Ih ..) (λ_=>rfl) ?_;simp only[af,show decide ((d:Int)=0)=true by simp;omega];exact fD h
 | succ m ih=>
   intro i d fr H nx hm hi hd hfr h
   by_cases hlt:i<s.length
   case neg=>exact ih i d fr H nx (by omega) hi hd hfr h
   obtain⟨c,r,hdr⟩:∃c r,s.drop i=c::r:=by
    cases hq:s.drop i with
    | nil=>have:=drop_nil hq hi;omega
    | cons c r=>exact⟨c,r,rfl⟩
   obtain⟨hg,_,hd'⟩:=drop_cons hdr;have hin:=a9 (P:=P) aV hg .i64;have hrl:r.length=s.length-(i+1):=by rw[<- hd',List.length_drop]
   have hu:∀n:Nat,n<256->(decide ((c.toNat:Int)=(n:Int))=decide (c=UInt8.ofNat n)):=λn hn=>by
    rw[decide_eq_decide,<- UInt8.toNat_inj,UInt8.toNat_ofNat',Nat.mod_eq_of_lt hn];omega
   have L18:∀tw:List UInt8,(∀x y,tw=[x,y]↔c=x/\r.head? = some y)->aO P pl X0 (.jump (wa (ptr b) (i64 (d:Int)) (i64 (fr:Int)) (b8 c) (aD tw) H nx)) nx0 H0 (Td b s F nx0 H0 (gW s d fr i)):=by
    intro tw htw;refine Wq.jmp (P8 ..) (λ_=>rfl) ?_;simp only[af,dn];refine Wq.ite (λa=> ?_) (λa=> ?_)
    . have a:=(htw _ _).1 a;obtain⟨t,ht⟩:=nN a.2;rw[a.1,ht]at hdr;have hl2:i+2<=s.length:=by
       have:=congrArg List.length hdr;rw[List.length_drop]at this;simp at this;omega
      rw[Gm hdr];have L24:∀fr':Nat,fr'<=s.length->aO P pl X0 (.jump (wb (ptr b) (i64 (d:Int)) (i64 (fr':Int)) H nx)) nx0 H0 (Td b s F nx0 H0 (gW s (d+1) fr' (i+2))):=by
       intro fr' hfr';refine Wq.jmp (P9 ..) (λ_=>rfl) ?_;have e2:IntKind.i64.wrap ((i:Int)+2)=((i+2:Nat):Int):=by rw[bk (by omega)];omega
       simp only[af,gD h,e2,aG (show d<9223372036854775807 by omega)];refine Hq.put [] h jk rfl rfl (by simp) rfl λH2 h2=> ?_;exact ih (i+2) (d+1) fr' H2 nx (by omega) hl2 (by omega) hfr' h2
      refine Wq.ite (λd0=> ?_) (λd0=> ?_)
      . rw[if_pos (by omega)];simp only[af,gD h];exact L24 i hi
      . rw[if_neg (by omega)];exact L24 fr hfr
    have a:¬(c=40/\r.head? = some 42):=λq=>a ((htw _ _).2 q);have L30:∀x:Bool,x=decide (0<d/\c=42/\r.head? = some 41)->aO P pl X0 (.jump (wc (ptr b) (i64 (d:Int)) (i64 (fr:Int)) (b8 c) x H nx)) nx0 H0 (Td b s F nx0 H0 (gW s d fr i)):=by
     intro x hx;refine Wq.jmp (P_ ..) (λ_=>rfl) ?_;cases x with
     | true=>
       have e:=of_decide_eq_true hx.symm;obtain⟨t,ht⟩:=nN e.2.2;rw[e.2.1,ht]at hdr;have hl2:i+2<=s.length:=by
        have:=congrArg List.length hdr;rw[List.length_drop]at this;simp at this;omega
       rw[BV hdr e.1];have e1:IntKind.i64.wrap ((d:Int)-1)=((d-1:Nat):Int):=by rw[bk (by omega)];omega
       have e2:IntKind.i64.wrap ((i:Int)+2)=((i+2:Nat):Int):=by rw[bk (by omega)];omega
       simp only[af,gD h,e1,e2];refine Hq.put [] h jk rfl rfl (by simp) rfl λH2 h2=> ?_;exact ih (i+2) (d-1) fr H2 nx (by omega) hl2 (by omega) hfr h2
     | false=>
       have e:¬(0<d/\c=42/\r.head? = some 41):=of_decide_eq_false hx.symm;have L36:∀y:Bool,(y=true↔(0<d\/ws c=true))->aO P pl X0 (.jump (mo (ptr b) (i64 (d:Int)) (i64 (fr:Int)) y H nx)) nx0 H0 (Td b s F nx0 H0 (gW s d fr i)):=by
        intro y hy;refine Wq.jmp (Qa ..) (λ_=>rfl) ?_;cases y with
        | true=>
          rw[Gn hdr a e (hy.1 rfl)];simp only[af,gD h,aG (show i<9223372036854775807 by omega)];refine Hq.put [] h jk rfl rfl (by simp) rfl λH2 h2=> ?_;exact ih (i+1) d fr H2 nx (by omega) hlt (by omega) hfr h2
        | false=>
          have w:¬(0<d\/ws c=true):=λq=>by have:=hy.2 q;cases this
          obtain rfl:d=0:=by omega
          rw[Gp hdr a (λq=>w (.inr q))];exact fD h
       simp only[af];have hws:ws c=(decide (c=9)||(decide (c=10)||(decide (c=13)||decide (c=32)))):=by
        unfold ws;rw[Bool.or_assoc,Bool.or_assoc];rfl
       refine Wq.ite (λh0=>L36 _ (by simp;omega)) (λh0=> ?_);have hd0:¬ 0<d:=by omega
       have h9:decide ((c.toNat:Int)=9)=decide (c=9):=hu 9 (by decide);have h10:decide ((c.toNat:Int)=10)=decide (c=10):=hu 10 (by decide);have h13:decide ((c.toNat:Int)=13)=decide (c=13):=hu 13 (by decide);have h32:decide ((c.toNat:Int)=32)=decide (c=32):=hu 32 (by decide);rw[h9,h10,h13,h32];refine Wq.ite (λq=>L36 _ (by rw[hws,decide_eq_true q];simp)) (λq1=> ?_);refine Wq.ite (λq=>L36 _ (by rw[hws,decide_eq_true q];simp)) (λq2=> ?_);refine Wq.ite (λq=>L36 _ (by rw[hws,decide_eq_true q];simp)) (λq3=> ?_);exact L36 _ (by rw[hws,decide_eq_false q1,decide_eq_false q2,decide_eq_false q3];simp[hd0])
    refine Wq.ite (λd0=> ?_) (λd0=> ?_)
    . refine L30 _ ?_;rw[decide_eq_decide,htw];have:0<d:=by omega
      simp[this]
    . exact L30 _ (by rw[decide_eq_false (λq=>d0 (by have:=q.1;omega))])
   refine Wq.jmp (Oc ..) (λ_=>rfl) ?_;simp only[af,gD h,uX h,aK _ aV,aP,aU hlt,hin,aG (show i<9223372036854775807 by omega)];have e2:IntKind.i64.wrap ((i:Int)+2)=((i+2:Nat):Int):=by rw[bk (by omega)];omega
   refine Wq.ite (λhl2=> ?_) (λhl2=> ?_)
   . have hl2:i+2<=s.length:=by omega
     simp only[af,gD h,uX h,e2,dr aV (show i<=i+2 by omega) hl2];rw[hdr,show i+2-i=2 by omega];refine L18 _ λx y=> ?_;cases r with
     | nil=>simp at hrl;omega
     | cons e t=>simp
   . refine L18 [] λx y=> ?_;cases r with
     | nil=>simp
     | cons e t=>simp at hrl;omega
theorem Vn (hl:s.length<cX){i:Nat}(hi:i<=s.length)(h:Hp nx0 H0 (yg b s i::F) H nx):
 aO P pl X0 (aQ P pl (.call 51 [ptr b] false none H nx)) nx0 H0 (Td b s F nx0 H0 ((e8 (s.drop i)).2,i+(e8 (s.drop i)).1)):=by
 rw[YB,<- j3 s 0];exact Kv hl s.length i 0 0 H nx (Nat.sub_le _ _) hi (Nat.zero_le _) (Nat.zero_le _) h
end
section
variable {nx0 nx nx':Nat}{H0 H H':T OB}{F:List Bx}{b:Nat}{s:List UInt8}
theorem Ny (n:Int):az P 31 (some [(3,i64 n)])=some (.agg ⟨[i64 0,aD [],i64 0,i64 n]⟩):=bt cB (by kernel_rfl)
theorem Vo {j:Nat}{x:List UInt8}(hx:bu[j]? = some x):aL P 99 (some (.agg ⟨bu.map aD⟩)) (some (i64 (j:Int)))=some (aD x):=by
 have hj:j<22:=(List.getElem?_eq_some_iff.1 hx).1;show hJ (j:Int) (KG P 99 (bu.map aD)) none=_;rw[eM];unfold KG;rw[show P.underlying 99=some (.array 22 9)from by kernel_rfl];simp only[show Nat.blt j 22=true from Nat.ble_eq_true_of_le hj,cond_true,lX,gT,Nat.mul_one,List.getElem?_map,hx,Option.map_some]
theorem aO.iT {p:Prop}[Decidable p]{R:Go.Ev.Out->T OB->Nat->Prop}{x y:Q}(h:¬p->aO P pl X0 x nx0 H0 R)(h':p->aO P pl X0 y nx0 H0 R):aO P pl X0 (Ev.bK (!decide p) x y) nx0 H0 R:=
 Wq.bK (λq=>h (by simpa using q)) (λq=>h' (by simpa using q))
def XP (q:Option (Tok×Nat))(i:Nat)(t:Tok)(n:Nat):Prop:=match q with
 | some q=>t=⟨q.1.k,q.1.s,q.1.n,(i:Int)⟩/\n=q.2
 | none=>n=0
abbrev SY (b:Nat)(s:List UInt8)(i:Nat)(F:List Bx)(nx0:Nat)(H0:T OB):Go.Ev.Out->T OB->Nat->Prop:=λo H nx=>∃(t:Tok) (n:Nat),o= .ret (.tuple ⟨[t.v,i64 (n:Int)]⟩)/\XP (tj (s.drop i)) i t n/\Hp nx0 H0 (yg b s i::F) H nx
theorem l7 {i n b0 b1:Nat}{t:Tok}{l:List Value}(hl:l.length=4)(ht:XP (tj (s.drop i)) i t n)(h:Hp nx0 H0 (yg b s i::(b1,t.c,31)::(b0,l,31)::F) H nx):
 aO P pl X0 (aa (ae P H 31 (some (ptr b1))) (λx0=>ao (ah P H nx 31 (some (ptr b0)) (some x0)) (λx1 H nx=>aa (ae P H 31 (some (ptr b0))) (λx2=> .ret ⟨.ret (.tuple ⟨[x2,i64 (n:Int)]⟩),false,H,nx⟩) .bad)) .bad) nx0 H0 (SY b s i F nx0 H0):=by
 simp only[af,zQ (h.at_ 1 rfl)];refine Hq.store [_,_] h dy (by rw[hl];decide) rfl rfl λH2 h2=> ?_;have e:ij l t.v.cells.toList 0=t.c:=by
  obtain⟨a0,a1,a2,a3,rfl⟩:∃a0 a1 a2 a3,l=[a0,a1,a2,a3]:=by
   match l with
   | [a0,a1,a2,a3]=>exact⟨a0,a1,a2,a3,rfl⟩
  rfl
 rw[e]at h2;simp only[af,zQ (h2.at_ 2 rfl)];exact Wq.ic h2.ag ⟨t,n,rfl,ht,h2.jm.jm⟩
theorem Kw {l x:List UInt8}(h:x.length<=l.length):decide (l.take x.length=x)=x.isPrefixOf l:=by
 rw[Bool.eq_iff_iff,decide_eq_true_eq,List.isPrefixOf_iff_prefix,List.prefix_iff_eq_take];exact eq_comm
theorem Nz (hl:s.length<cX){i b0 b1:Nat}{l0:List Value}(hi:i<=s.length)(hl0:l0.length=4)(hlex:tj (s.drop i)=(bu.find? λx=>x.isPrefixOf (s.drop i)).map λx=>(⟨7,x,0,0⟩,x.length)):
 ∀(l:List (List UInt8)) (j:Nat) (H:T OB) (nx:Nat),bu.drop j=l->j<=22->(bu.find? λx=>x.isPrefixOf (s.drop i))=l.find? (λx=>x.isPrefixOf (s.drop i))->
 Hp nx0 H0 (yg b s i::(b1,[i64 0,aD [],i64 0,i64 (i:Int)],31)::(b0,l0,31)::F) H nx->
 aO P pl X0 (.jump (wh (ptr b) (ptr b0) (ptr b1) (i64 0) (.agg ⟨bu.map aD⟩) (i64 (j:Int)) H nx)) nx0 H0 (SY b s i F nx0 H0):=by
 have hbig:cX=1125899906842624:=rfl;intro l
 induction l with
 | nil=>
   intro j H nx hd hj hf h;have hj2:j=22:=drop_nil hd hj;refine Wq.jmp (Ij ..) (λ_=>rfl) ?_;simp only[af,show decide ((j:Int)<22)=false by simp;omega];exact l7 (n:=0) (t:=⟨0,[],0,(i:Int)⟩) hl0 (by rw[hlex,hf];rfl) h
 | cons x l ih=>
   intro j H nx hd hj hf h;obtain⟨hg,hlt,hd'⟩:=drop_cons hd;have hlt:j<22:=hlt;have hxl:∀x∈bu,1<=x.length/\x.length<=2:=by decide
   have hx:=hxl x (List.mem_of_getElem? hg);have L18:∀y:Bool,y=x.isPrefixOf (s.drop i)->aO P pl X0 (.jump (wi (ptr b) (ptr b0) (ptr b1) (i64 0) (aD x) (.agg ⟨bu.map aD⟩) (i64 (j:Int)) y H nx)) nx0 H0 (SY b s i F nx0 H0):=by
    intro y hy;refine Wq.jmp (Qd ..) (λ_=>rfl) ?_;rw[List.find?_cons,<- hy]at hf;cases y with
    | true=>
      simp only[af,aK _ aV,aP];refine Hq.put [_] h jk rfl rfl (by simp) rfl λH2 h2=> ?_;refine Hq.put [_] h2 gT rfl rfl (by simp) rfl λH3 h3=> ?_;exact l7 (t:=⟨7,x,0,(i:Int)⟩) hl0 (by rw[hlex,hf];exact⟨rfl,rfl⟩) h3
    | false=>
      simp only[af,aG (show j<9223372036854775807 by omega)];exact ih (j+1) H nx hd' (by omega) hf h
   refine Wq.jmp (Ij ..) (λ_=>rfl) ?_;have e1:IntKind.i64.wrap ((s.length:Int)-(i:Int))=((s.length-i:Nat):Int):=by rw[bk (by omega)];omega
   simp only[af,show decide ((j:Int)<22)=true by simp;omega,Vo hg,aK _ aV,aP,gD h,uX h,e1];refine Wq.ite (λhle=> ?_) (λhle=> ?_)
   . have hle:i+x.length<=s.length:=by omega
     have e2:IntKind.i64.wrap ((i:Int)+(x.length:Int))=((i+x.length:Nat):Int):=by rw[bk (by omega)];omega
     simp only[af,gD h,uX h,aK _ aV,aP,e2,dr aV (Nat.le_add_right i x.length) hle,dn,Nat.add_sub_cancel_left];refine L18 _ ?_;exact Kw (by rw[List.length_drop];omega)
   . refine L18 _ ?_;cases hq:x.isPrefixOf (s.drop i)with
     | false=>rfl
     | true=>
       have:=(List.isPrefixOf_iff_prefix.1 hq).length_le;rw[List.length_drop]at this;omega
theorem NA (hl:s.length<cX){i b0 b1:Nat}{l0:List Value}{c d:UInt8}{w:List UInt8}(hdr:s.drop i=c::d::w)(hl0:l0.length=4)
 (hlex:tj (s.drop i)=some (⟨5,(c::d::w).take (2+(w.takeWhile tQ).length),0,0⟩,2+(w.takeWhile tQ).length)):
 ∀(r:List UInt8) (n:Nat) (H:T OB) (nx:Nat),s.drop (i+n)=r->2<=n->i+n<=s.length->n+(r.takeWhile tQ).length=2+(w.takeWhile tQ).length->
 Hp nx0 H0 (yg b s i::(b1,[i64 0,aD [],i64 0,i64 (i:Int)],31)::(b0,l0,31)::F) H nx->
 aO P pl X0 (.jump (wg (ptr b) (ptr b0) (ptr b1) (i64 (n:Int)) H nx)) nx0 H0 (SY b s i F nx0 H0):=by
 have hbig:cX=1125899906842624:=rfl;intro r
 induction r with
 | nil=>
   intro n H nx hd hn hin he h;have hil:=drop_nil hd hin;have e2:IntKind.i64.wrap ((i:Int)+(n:Int))=((i+n:Nat):Int):=by rw[bk (by omega)];omega
   refine Wq.jmp (Ii ..) (λ_=>rfl) ?_;simp only[af,gD h,uX h,aK _ aV,aP,e2,show decide (((i+n:Nat):Int)<(s.length:Int))=false by simp;omega,dr aV (Nat.le_add_right i n) hin];refine Hq.put [_] h jk rfl rfl (by simp) rfl λH2 h2=> ?_;simp only[af,gD h2,uX h2,e2,dr aV (Nat.le_add_right i n) hin,bj];refine Hq.put [_] h2 gT rfl rfl (by simp) rfl λH3 h3=> ?_;refine l7 (t:=⟨5,(s.drop i).take (i+n-i),0,(i:Int)⟩) hl0 ?_ h3;rw[hlex,hdr,Nat.add_sub_cancel_left];rw[List.takeWhile_nil,List.length_nil,Nat.add_zero]at he;rw[he];exact⟨rfl,rfl⟩
 | cons x r ih=>
   intro n H nx hd hn hin he h;obtain⟨hg,hlt,hd'⟩:=drop_cons hd;have hix:=a9 (P:=P) aV hg .i64;have e2:IntKind.i64.wrap ((i:Int)+(n:Int))=((i+n:Nat):Int):=by rw[bk (by omega)];omega
   have stop:tQ x=false->n=2+(w.takeWhile tQ).length:=λq=>by
    rw[List.takeWhile_cons,q]at he;simpa using he
   refine Wq.jmp (Ii ..) (λ_=>rfl) ?_;simp only[af,gD h,uX h,aK _ aV,aP,e2,aU hlt,hix];have e39:decide ((x.toNat:Int)=39)=decide (x.toNat=39):=by rw[decide_eq_decide];omega
   rw[e39];refine _root_.Go.Proofs.YthjhonhhbddhkaaGreatDoor.aO.iT (λh39=> ?_) (λh39=> ?_)
   . refine Hq.call (Ek x) h λH1 aE h1=> ?_;have hT:tQ x=gN x:=by unfold tQ;rw[decide_eq_false h39];rfl
     cases hw:gN x with
     | true=>
       simp only[af,aG (show n<9223372036854775807 by omega)];refine ih (n+1) H1 aE hd' (by omega) (by omega) ?_ h1;rw[List.takeWhile_cons,hT,hw]at he;simp only[if_true,List.length_cons]at he;omega
     | false=>
       have hn2:=stop (by rw[hT,hw]);simp only[af,gD h1,uX h1,e2,dr aV (Nat.le_add_right i n) hin];refine Hq.put [_] h1 jk rfl rfl (by simp) rfl λH2 h2=> ?_;simp only[af,gD h2,uX h2,e2,dr aV (Nat.le_add_right i n) hin,bj];refine Hq.put [_] h2 gT rfl rfl (by simp) rfl λH3 h3=> ?_;refine l7 (t:=⟨5,(s.drop i).take (i+n-i),0,(i:Int)⟩) hl0 ?_ h3;rw[hlex,hdr,Nat.add_sub_cancel_left,hn2];exact⟨rfl,rfl⟩
   . have hn2:=stop (by unfold tQ;rw[decide_eq_true h39];rfl);simp only[af,gD h,uX h,e2,dr aV (Nat.le_add_right i n) hin];refine Hq.put [_] h jk rfl rfl (by simp) rfl λH2 h2=> ?_;simp only[af,gD h2,uX h2,e2,dr aV (Nat.le_add_right i n) hin,bj];refine Hq.put [_] h2 gT rfl rfl (by simp) rfl λH3 h3=> ?_;refine l7 (t:=⟨5,(s.drop i).take (i+n-i),0,(i:Int)⟩) hl0 ?_ h3;rw[hlex,hdr,Nat.add_sub_cancel_left,hn2];exact⟨rfl,rfl⟩
theorem Vp (hl:s.length<=1000000){i:Nat}(hi:i<s.length)(h:Hp nx0 H0 (yg b s i::F) H nx):aO P pl X0 (aQ P pl (.call 52 [ptr b] false none H nx)) nx0 H0 (SY b s i F nx0 H0):=by
 have hbig:cX=1125899906842624:=rfl;have hlb:s.length<cX:=by omega
 obtain⟨c,u,hdr⟩:∃c u,s.drop i=c::u:=by
  cases hq:s.drop i with
  | nil=>have:=drop_nil hq (by omega);omega
  | cons c r=>exact⟨c,r,rfl⟩
 obtain⟨hg,_,hd'⟩:=drop_cons hdr;have hin:=a9 (P:=P) aV hg .i64;have hul:u.length=s.length-(i+1):=by rw[<- hd',List.length_drop]
 have hP:=lM c u;rw[<- hdr]at hP;have hc:=c.toNat_lt;rw[YC];refine Hq.alloc cB h λb0 H1 aE h1=> ?_;simp only[af,gD h1,uX h1,hin,Ny];refine Hq.alloc cB h1 λb1 H2 nx2 h2=> ?_;refine Hq.store [_] h2 dy (by simp) rfl rfl λH3 h3=> ?_;replace h3:Hp nx0 H0 (yg b s i::(b1,[i64 0,aD [],i64 0,i64 (i:Int)],31)::(b0,[i64 0,aD [],i64 0,i64 0],31)::F) H3 nx2:=h3;refine Hq.call (Ej c) h3 λH4 nx4 h4=> ?_;cases hdg:bH c with
 | true=>
   rw[if_pos hdg]at hP;simp only[af];refine Hq.put [_] h4 jk rfl rfl (by simp) rfl λH5 h5=> ?_;simp only[af,gD h5,uX h5,dL (show i<=s.length by omega)];refine Hq.call (SQ (s.drop i) (by rw[List.length_drop];omega)) h5 λH6 nx6 h6=> ?_;unfold KE;unfold Gl at hP;rw[hdr]at hP ⊢;cases hN:gf 0 ((c::u).takeWhile bH)with
   | some v=>
     rw[hN]at hP;simp only[Nat.zero_add];refine Hq.put [_] h6 TJ rfl rfl (by simp) rfl λH7 h7=> ?_;refine Wq.jmp (wj ..) (λ_=>rfl) ?_;exact l7 (t:=⟨1,[],(v:Int),(i:Int)⟩) rfl (by rw[hdr,hP];exact⟨rfl,rfl⟩) h7
   | none=>
     rw[hN]at hP;simp only[af];refine Hq.put [_] h6 TJ rfl rfl (by simp) rfl λH7 h7=> ?_;refine Wq.jmp (wj ..) (λ_=>rfl) ?_;exact l7 (n:=0) (t:=⟨1,[],0,(i:Int)⟩) rfl (by rw[hdr,hP];rfl) h7
 | false=>
   rw[if_neg (by rw[hdg];decide)]at hP;unfold Gk at hP;simp only[af];refine Wq.ite (λh34=> ?_) (λh34=> ?_)
   . rw[if_pos (by omega)]at hP;refine Hq.put [_] h4 jk rfl rfl (by simp) rfl λH5 h5=> ?_;simp only[af,gD h5,uX h5,dL (show i<=s.length by omega)];refine Hq.call (SR (s.drop i) (by rw[List.length_drop];omega) (by rw[List.length_drop];omega)) h5 λH6 nx6 h6=> ?_;have e:qt (s.drop i).length ((s.drop i).drop 1)=qt (u.length+1) u:=by rw[hdr];rfl
     rw[e];cases hN:qt (u.length+1) u with
     | some v=>
       rw[hN]at hP;unfold Nt;simp only[af,List.nil_append];refine Hq.put [_] h6 gT rfl rfl (by simp) rfl λH7 h7=> ?_;refine Wq.jmp (wj ..) (λ_=>rfl) ?_;exact l7 (t:=⟨2,v.1,0,(i:Int)⟩) rfl (by rw[hP];exact⟨rfl,rfl⟩) h7
     | none=>
       rw[hN]at hP;unfold Nt;simp only[af];refine Hq.put [_] h6 gT rfl rfl (by simp) rfl λH7 h7=> ?_;refine Wq.jmp (wj ..) (λ_=>rfl) ?_;exact l7 (n:=0) (t:=⟨2,[],0,(i:Int)⟩) rfl (by rw[hP];rfl) h7
   rw[if_neg (by omega)]at hP;have L38:∀(x:Bool) H5 nx5,x=(cb c||bS c)->Hp nx0 H0 (yg b s i::(b1,[i64 0,aD [],i64 0,i64 (i:Int)],31)::(b0,[i64 0,aD [],i64 0,i64 0],31)::F) H5 nx5->
    aO P pl X0 (.jump (we (ptr b) (ptr b0) (b8 c) (ptr b1) (i64 0) x H5 nx5)) nx0 H0 (SY b s i F nx0 H0):=by
    intro x H5 nx5 hx h5;refine Wq.jmp (Qb ..) (λ_=>rfl) ?_;rw[<- hx]at hP;cases x with
    | true=>
      rw[if_pos rfl]at hP;simp only[af,gD h5];have e:(s.drop i).take (1+((s.drop (i+1)).takeWhile gN).length)=c::u.takeWhile gN:=by
       rw[hdr,hd',Nat.add_comm,List.take_succ_cons,nP]
      have h102:=SX hlb hi h5;rw[e]at h102;refine Sq.dO rfl h102 λH6 nx6 h6=> ?_;refine Hq.put [_] h6 gT rfl rfl (by simp) rfl λH7 h7=> ?_;simp only[af,aw (off:=1) (u:=aD (c::u.takeWhile gN)) (h7.at_ 1 rfl) lX rfl];refine Hq.sJ (On c (u.takeWhile gN)) h7 λH8 nx8 h8=> ?_;refine Hq.put [_] h8 jk rfl rfl (by simp) rfl λH9 h9=> ?_;simp only[af,aw (off:=1) (u:=aD (c::u.takeWhile gN)) (h9.at_ 1 rfl) lX rfl,aK _ aV,aP];exact l7 (t:=⟨eR (c::u.takeWhile gN),c::u.takeWhile gN,0,(i:Int)⟩) rfl (by rw[hP];exact⟨rfl,by rw[List.length_cons,Nat.add_comm]⟩) h9
    | false=>
      rw[if_neg (by decide)]at hP;have L46:∀(y:Bool) H5 nx5,(y=true↔(c.toNat=39/\jv u=true))->Hp nx0 H0 (yg b s i::(b1,[i64 0,aD [],i64 0,i64 (i:Int)],31)::(b0,[i64 0,aD [],i64 0,i64 0],31)::F) H5 nx5->
       aO P pl X0 (.jump (sA (ptr b) (ptr b0) (ptr b1) (i64 0) y H5 nx5)) nx0 H0 (SY b s i F nx0 H0):=by
       intro y H5 nx5 hy h5;refine Wq.jmp (Qc ..) (λ_=>rfl) ?_;cases y with
       | true=>
         have hc2:=hy.1 rfl;rw[if_pos hc2]at hP;obtain⟨d,w,rfl⟩:∃d w,u=d::w:=by
          cases u with
          | nil=>cases hc2.2
          | cons d w=>exact⟨d,w,rfl⟩
         simp only[List.length_cons]at hul;refine NA hlb hdr rfl hP (s.drop (i+2)) 2 H5 nx5 rfl (Nat.le_refl _) (by omega) ?_ h5;have:s.drop (i+2)=w:=by rw[<- List.drop_drop,hdr];rfl
         rw[this]
       | false=>
         rw[if_neg (λq=>by have:=hy.2 q;cases this)]at hP;simp only[af];rw[Be ((h5.uI.ag h5.ag).Om) PQ TL rfl];simp only[af];rw[<- hdr]at hP;exact Nz hlb (by omega) rfl hP bu 0 H5 nx5 rfl (by omega) rfl h5
      simp only[af];refine Wq.ite (λh39=> ?_) (λh39=>L46 _ _ _ (by simp;omega) h5);simp only[af,gD h5,uX h5,aK _ aV,aP,aG (show i<9223372036854775807 by omega)];refine Wq.ite (λhi2=> ?_) (λhi2=>L46 _ _ _ ?_ h5)
      . obtain⟨d,w,rfl⟩:∃d w,u=d::w:=by
         cases u with
         | nil=>simp at hul;omega
         | cons d w=>exact⟨d,w,rfl⟩
        have hg2:=(drop_cons hd').1;simp only[af,gD h5,uX h5,aG (show i<9223372036854775807 by omega),a9 aV hg2];refine Hq.call (zE d) h5 λH6 nx6 h6=> ?_;simp only[af];refine L46 _ _ _ ?_ h6;show cb d=true↔_/\cb d=true;exact⟨λq=>⟨by omega,q⟩,λq=>q.2⟩
      . cases u with
        | nil=>simp[jv]
        | cons d w=>simp at hul;omega
   refine Hq.call (zE c) h4 λH5 nx5 h5=> ?_;cases hlow:cb c with
   | true=>
     simp only[af];exact L38 _ _ _ (by rw[hlow];rfl) h5
   | false=>
     simp only[af];refine Hq.call (Ei c) h5 λH6 nx6 h6=> ?_;simp only[af];exact L38 _ _ _ (by rw[hlow];rfl) h6
end
end
end Go.Proofs.YthjhonhhbddhkaaGreatDoor
