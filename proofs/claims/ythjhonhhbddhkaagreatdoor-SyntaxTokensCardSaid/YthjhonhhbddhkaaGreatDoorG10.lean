/- Texts of this claim, side by side. -/
import Derived.Test.YthjhonhhbddhkaaGreatDoorG8
import Derived.Test.YthjhonhhbddhkaaGreatDoorG9
import Derived.Test.YthjhonhhbddhkaaGreatDoorG7
import Derived.Test.YthjhonhhbddhkaaGreatDoorRows
import Derived.LaidMore
import Derived.Stop.LaidErr
import Derived.Lib.AppendIntMem
namespace Go.Proofs.YthjhonhhbddhkaaGreatDoor
open Go.Ev Go.RowKit
noncomputable section
set_option maxRecDepth 100000
set_option linter.unusedVariables false
set_option linter.unusedSimpArgs false
set_option maxHeartbeats 8000000
section
variable {L:List Tok}{α β:Type}{Q:β->Prop}{Q1:α->Prop}{k m:Nat}
def aO {α:Type}(x:PR α)(Q:α->Prop):Prop:=∀a k,x=some (.ok a k)->Q a
theorem aO.none:aO (none:PR β) Q:=λa k h=>by cases h
theorem aO.bd {x:PR α}{f:α->Nat->PR β}(h:aO x Q1)(hf:∀a k,Q1 a->aO (f a k) Q):aO (bd x f) Q:=by
 cases x with
 | none=>exact aO.none
 | some r=>
   cases r with
   | bad a=>exact λa k h=>by cases h
   | ok a k=>exact hf a k (h a k rfl)
theorem aO.fail:aO (kp L k:PR β) Q:=λa k h=>by cases h
theorem aO.yes {a:β}(h:Q a):aO (yes a k) Q:=λa k h'=>by cases h';exact h
theorem aO.ite {c:Prop}[Decidable c]{x y:PR β}(h:aO x Q)(h':aO y Q):aO (if c then x else y) Q:=by
 by_cases hc:c
 . rw[if_pos hc];exact h
 . rw[if_neg hc];exact h'
theorem aO.aS {w:List UInt8}{f:Nat->PR β}(hf:∀k,aO (f k) Q):aO (aS L w k f) Q:=aO.ite (hf _) aO.fail
theorem aO.bo {c:Int}{f:Tok->Nat->PR β}(hf:∀j k,aO (f (tk L j) k) Q):aO (bo L c k f) Q:=aO.ite (hf _ _) aO.fail
def aD (Q:β->Prop)(m:Nat)(l:List β):Prop:=l.length<=m/\∀c,c∈l->Q c
theorem aD.nil:aD Q m []:=⟨Nat.zero_le _,λc h=>nomatch h⟩
theorem aD.snoc {l:List β}{a:β}(h:aD Q m l)(ha:Q a):aD Q (m+1) (l++[a]):=⟨by rw[List.length_append];exact Nat.add_le_add_right h.1 1,λc hc=>(List.mem_append.1 hc).elim (h.2 c) λq=>by rw[List.mem_singleton.1 q];exact ha⟩
theorem aD.one {a:β}(ha:Q a):aD Q 1 [a]:=⟨Nat.le_refl _,λc hc=>by rw[List.mem_singleton.1 hc];exact ha⟩
theorem aD.two {a b:β}(ha:Q a)(hb:Q b):aD Q 2 [a,b]:=(aD.one ha).snoc hb
theorem aD.three {a b c:β}(ha:Q a)(hb:Q b)(hc:Q c):aD Q 3 [a,b,c]:=(aD.two ha hb).snoc hc
theorem aD.mono {n:Nat}{l:List β}(h:aD Q m l)(hm:m<=n):aD Q n l:=⟨Nat.le_trans h.1 hm,h.2⟩
theorem aD.dO {l:List β}(h:aD Q m l)(hm:m<=300000):l.length<dO:=Nat.lt_of_le_of_lt (Nat.le_trans h.1 hm) (by decide)
theorem eV {k n:Int}{s:List UInt8}{l:List aF}{p:List aZ}{d:List aT}{m1 m2 m3:Nat}(h1:rg n)(h2:fE s)(h3:aD aF.ok m1 l)(g3:m1<=300000)(h4:aD aZ.ok m2 p)(g4:m2<=300000)(h5:aD aT.ok m3 d)(g5:m3<=300000):(aF.mk k n s l p d).ok:=(aF.bX _).2 ⟨h1,h2,⟨h3.dO g3,h3.2⟩,⟨h4.dO g4,h4.2⟩,h5.dO g5,h5.2⟩
theorem iF {k n:Int}{s:List UInt8}{l:List aZ}{m1:Nat}(h1:rg n)(h2:fE s)(h3:aD aZ.ok m1 l)(g3:m1<=300000):(aZ.mk k n s l).ok:=(aZ.bX _).2 ⟨h1,h2,h3.dO g3,h3.2⟩
theorem kE {k:Int}{s:List UInt8}{l:List bg}{m1:Nat}(h2:fE s)(h3:aD bg.ok m1 l)(g3:m1<=300000):(bg.mk k s l).ok:=(bg.bX _).2 ⟨h2,h3.dO g3,h3.2⟩
theorem Ib {s:List UInt8}{l:List bg}{m1:Nat}(h2:fE s)(h3:aD bg.ok m1 l)(g3:m1<=300000):(cM.mk s l).ok:=⟨h2,h3.dO g3,h3.2⟩
theorem Dw {v:List (List UInt8)}{s:List UInt8}{l:List cM}{m0 m1:Nat}(h0:aD fE m0 v)(g0:m0<=300000)(h2:fE s)(h3:aD cM.ok m1 l)(g3:m1<=300000):(Data.mk v s l).ok:=⟨⟨h0.dO g0,h0.2⟩,h2,h3.dO g3,h3.2⟩
theorem SF {s:List UInt8}{q:List aZ}{b:aF}{m1:Nat}(h2:fE s)(h3:aD aZ.ok m1 q)(g3:m1<=300000)(h4:b.ok):(Fn.mk s q b).ok:=(Fn.bX _).2 ⟨h2,⟨h3.dO g3,h3.2⟩,h4⟩
theorem Ad {k:Int}{p:aZ}{e:aF}{f:List Fn}{x:Data}{c:cM}{m1:Nat}(h1:p.ok)(h2:e.ok)(h3:aD Fn.ok m1 f)(g3:m1<=300000)(h4:x.ok)(h5:c.ok):(aT.mk k p e f x c).ok:=(aT.bX _).2 ⟨h1,h2,⟨h3.dO g3,h3.2⟩,h4,h5⟩
theorem gj:rg 0:=by unfold rg;omega
theorem cw:fE []:=by show(0:Nat)<_;omega
theorem Ic:jt.ok:=iF gj cw (aD.nil (m:=0)) (by decide)
theorem MW:jO.ok:=eV gj cw (aD.nil (m:=0)) (by decide) (aD.nil (m:=0)) (by decide) (aD.nil (m:=0)) (by decide)
theorem Ie:gC.ok:=Dw (aD.nil (m:=0)) (by decide) cw (aD.nil (m:=0)) (by decide)
theorem Ig:ju.ok:=Ib cw (aD.nil (m:=0)) (by decide)
def fF (m:Nat)(e:aF):Prop:=∃k l p,e= .mk k 0 [] l p []/\aD aF.ok m l/\aD aZ.ok m p
theorem fF.ok {e:aF}(h:fF m e)(hm:m<=300000):e.ok:=by
 obtain⟨k,l,p,rfl,h1,h2⟩:=h
 exact eV gj cw h1 hm h2 hm (aD.nil (m:=0)) (by decide)
theorem fF.add {e b:aF}(h:fF m e)(hb:b.ok):fF (m+1) (e.add b):=by
 obtain⟨k,l,p,rfl,h1,h2⟩:=h
 exact⟨k,l++[b],p,rfl,h1.snoc hb,h2.mono (Nat.le_succ m)⟩
theorem fF.jN {e b:aF}{q:aZ}(h:fF m e)(hq:q.ok)(hb:b.ok):fF (m+1) (e.jN q b):=by
 obtain⟨k,l,p,rfl,h1,h2⟩:=h
 exact⟨k,l++[b],p++[q],rfl,h1.snoc hb,h2.snoc hq⟩
theorem fF.one {k:Int}{b:aF}(hb:b.ok):fF 1 (.mk k 0 [] [b] [] []):=⟨k,[b],[],rfl,aD.one hb,aD.nil⟩
theorem fF.zero {k:Int}:fF 0 (.mk k 0 [] [] [] []):=⟨k,[],[],rfl,aD.nil,aD.nil⟩
theorem ez (n:Int):rg (IntKind.i64.wrap n):=by
 unfold rg IntKind.wrap
 have:IntKind.i64.bits=64:=rfl
 have:IntKind.i64.signed=true:=rfl
 simp only[*,Bool.true_and]
 split
 . rename_i h'
   simp only[decide_eq_true_eq]at h'
   omega
 . rename_i h'
   simp only[decide_eq_true_eq]at h'
   omega
def Dx (d:Option aT):Prop:=∀x,d=some x->x.ok
def oB (L:List Tok):Prop:=∀t,t∈L->rg t.n/\fE t.s
theorem oB.tk (h:oB L)(k:Nat):rg (tk L k).n/\fE (tk L k).s:=by
 unfold Go.Proofs.YthjhonhhbddhkaaGreatDoor.tk
 cases hk:L[k]? with
 | none=>exact⟨gj,cw⟩
 | some t=>exact h t (List.mem_of_getElem? hk)
structure eW (n:Nat)(p:PS):Prop where
 exp:∀k,aO (p.exp k) aF.ok
 fA:∀e k m,fF m e->m+n<=300000->aO (p.fA e k) aF.ok
 bin:∀lv k,aO (p.bin lv k) aF.ok
 fh:∀lv a k,a.ok->aO (p.fh lv a k) aF.ok
 un:∀k,aO (p.un k) aF.ok
 fB:∀a k,a.ok->aO (p.fB a k) aF.ok
 atom:∀k,aO (p.atom k) aF.ok
 dF:∀s e k m,fF m e->m+n<=300000->aO (p.dF s e k) aF.ok
 lt:∀k,aO (p.lt k) aF.ok
 fO:∀l k m,aD aT.ok m l->m+n<=300000->aO (p.fO l k) (aD aT.ok 300000)
 pat:∀k,aO (p.pat k) aZ.ok
 bl:∀k,aO (p.bl k) aZ.ok
 fC:∀l k m,aD aZ.ok m l->m+n<=300000->aO (p.fC l k) (aD aZ.ok 300000)
 dH:∀k,aO (p.dH k) bg.ok
 dk:∀l k m,aD bg.ok m l->m+n<=300000->aO (p.dk l k) (aD bg.ok 300000)
 post:∀k,aO (p.post k) bg.ok
 lX:∀l k m,aD bg.ok m l->m+n<=300000->aO (p.lX l k) (aD bg.ok 300000)
 cB:∀a k,a.ok->aO (p.cB a k) bg.ok
 dS:∀k,aO (p.dS k) cM.ok
 bind:∀k,aO (p.bind k) Dx
 fi:∀l k m,aD Fn.ok m l->m+n<=300000->aO (p.fi l k) (aD Fn.ok 300000)
 fn:∀k,aO (p.fn k) Fn.ok
 lY:∀l k m,aD aZ.ok m l->m+n<=300000->aO (p.lY l k) (aD aZ.ok 300000)
 dec:∀k,aO (p.dec k) Dx
 data:∀k,aO (p.data k) Data.ok
 fj:∀l k m,aD fE m l->m+n<=300000->aO (p.fj l k) (aD fE 300000)
 fk:∀l k m,aD cM.ok m l->m+n<=300000->aO (p.fk l k) (aD cM.ok 300000)
 bM:∀l k m,aD aT.ok m l->m+n<=300000->aO (p.bM l k) (aD aT.ok 300000)
variable {n:Nat}{p:PS}
theorem PW (h:eW n p)(ht:∀k,rg (tk L k).n/\fE (tk L k).s)(hn:n<=200000):∀k,aO (vX L p k) aF.ok:=by
 intro k
 unfold vX
 repeat' (first
 | exact aO.fail
 | exact aO.yes (by assumption)
 | exact aO.yes (eV (by first | exact gj | exact(ht _).1 | exact ez _) (by first | exact cw | exact(ht _).2 | assumption | (show _<_;decide)) (by first | exact aD.nil (m:=0) | assumption | exact aD.three (by assumption) (by assumption) (by assumption) | exact aD.two (by assumption) (by assumption) | exact aD.one (by assumption)) (by omega) (by first | exact aD.nil (m:=0) | assumption | exact aD.three (by assumption) (by assumption) (by assumption) | exact aD.two (by assumption) (by assumption) | exact aD.one (by assumption)) (by omega) (by first | exact aD.nil (m:=0) | assumption | exact aD.three (by assumption) (by assumption) (by assumption) | exact aD.two (by assumption) (by assumption) | exact aD.one (by assumption)) (by omega))
 | refine aO.aS (λk=> ?_)
 | exact h.exp _
 | refine aO.bd (h.exp _) (λa k ha=> ?_)
 | exact h.fA _ _ _ (by first | exact fF.jN (by assumption) (by assumption) (by assumption) | exact fF.add (by assumption) (by assumption) | exact fF.one (by assumption) | exact fF.zero) (by omega)
 | refine aO.bd (h.fA _ _ _ (by first | exact fF.jN (by assumption) (by assumption) (by assumption) | exact fF.add (by assumption) (by assumption) | exact fF.one (by assumption) | exact fF.zero) (by omega)) (λa k ha=> ?_)
 | exact h.bin _ _
 | refine aO.bd (h.bin _ _) (λa k ha=> ?_)
 | refine aO.ite ?_ ?_)
theorem PX (h:eW n p)(ht:∀k,rg (tk L k).n/\fE (tk L k).s)(hn:n<=200000):∀e k m,fF m e->m+(n+1)<=300000->aO (vW L p e k) aF.ok:=by
 intro e k m he hm
 unfold vW
 repeat' (first
 | exact aO.yes (fF.ok (by first | assumption | exact fF.jN (by assumption) (by assumption) (by assumption)) (by omega))
 | exact aO.fail
 | exact aO.yes (by assumption)
 | exact aO.yes (eV (by first | exact gj | exact(ht _).1 | exact ez _) (by first | exact cw | exact(ht _).2 | assumption | (show _<_;decide)) (by first | exact aD.nil (m:=0) | assumption | exact aD.three (by assumption) (by assumption) (by assumption) | exact aD.two (by assumption) (by assumption) | exact aD.one (by assumption)) (by omega) (by first | exact aD.nil (m:=0) | assumption | exact aD.three (by assumption) (by assumption) (by assumption) | exact aD.two (by assumption) (by assumption) | exact aD.one (by assumption)) (by omega) (by first | exact aD.nil (m:=0) | assumption | exact aD.three (by assumption) (by assumption) (by assumption) | exact aD.two (by assumption) (by assumption) | exact aD.one (by assumption)) (by omega))
 | refine aO.aS (λk=> ?_)
 | exact h.exp _
 | refine aO.bd (h.exp _) (λa k ha=> ?_)
 | exact h.fA _ _ _ (by first | exact fF.jN (by assumption) (by assumption) (by assumption) | exact fF.add (by assumption) (by assumption) | exact fF.one (by assumption) | exact fF.zero) (by omega)
 | refine aO.bd (h.fA _ _ _ (by first | exact fF.jN (by assumption) (by assumption) (by assumption) | exact fF.add (by assumption) (by assumption) | exact fF.one (by assumption) | exact fF.zero) (by omega)) (λa k ha=> ?_)
 | exact h.pat _
 | refine aO.bd (h.pat _) (λa k ha=> ?_)
 | refine aO.ite ?_ ?_)
theorem Ih (h:eW n p)(ht:∀k,rg (tk L k).n/\fE (tk L k).s)(hn:n<=200000):∀lv a k,a.ok->aO (sA L p lv a k) aF.ok:=by
 intro lv a k ha
 unfold sA
 repeat' (first
 | exact aO.fail
 | exact aO.yes (by assumption)
 | exact aO.yes (eV (by first | exact gj | exact(ht _).1 | exact ez _) (by first | exact cw | exact(ht _).2 | assumption | (show _<_;decide)) (by first | exact aD.nil (m:=0) | assumption | exact aD.three (by assumption) (by assumption) (by assumption) | exact aD.two (by assumption) (by assumption) | exact aD.one (by assumption)) (by omega) (by first | exact aD.nil (m:=0) | assumption | exact aD.three (by assumption) (by assumption) (by assumption) | exact aD.two (by assumption) (by assumption) | exact aD.one (by assumption)) (by omega) (by first | exact aD.nil (m:=0) | assumption | exact aD.three (by assumption) (by assumption) (by assumption) | exact aD.two (by assumption) (by assumption) | exact aD.one (by assumption)) (by omega))
 | exact h.bin _ _
 | refine aO.bd (h.bin _ _) (λa k ha=> ?_)
 | exact h.fh _ _ _ (by first | assumption | exact kE (by first | exact cw | exact(ht _).2 | assumption | (show _<_;decide)) (by first | exact aD.nil (m:=0) | assumption | exact aD.three (by assumption) (by assumption) (by assumption) | exact aD.two (by assumption) (by assumption) | exact aD.one (by assumption)) (by omega) | exact eV gj (by first | exact cw | exact(ht _).2 | assumption | (show _<_;decide)) (by first | exact aD.nil (m:=0) | assumption | exact aD.three (by assumption) (by assumption) (by assumption) | exact aD.two (by assumption) (by assumption) | exact aD.one (by assumption)) (by omega) (aD.nil (m:=0)) (by omega) (aD.nil (m:=0)) (by omega))
 | refine aO.bd (h.fh _ _ _ (by first | assumption | exact kE (by first | exact cw | exact(ht _).2 | assumption | (show _<_;decide)) (by first | exact aD.nil (m:=0) | assumption | exact aD.three (by assumption) (by assumption) (by assumption) | exact aD.two (by assumption) (by assumption) | exact aD.one (by assumption)) (by omega) | exact eV gj (by first | exact cw | exact(ht _).2 | assumption | (show _<_;decide)) (by first | exact aD.nil (m:=0) | assumption | exact aD.three (by assumption) (by assumption) (by assumption) | exact aD.two (by assumption) (by assumption) | exact aD.one (by assumption)) (by omega) (aD.nil (m:=0)) (by omega) (aD.nil (m:=0)) (by omega))) (λa k ha=> ?_)
 | refine aO.ite ?_ ?_)
theorem PY (h:eW n p)(ht:∀k,rg (tk L k).n/\fE (tk L k).s)(hn:n<=200000):∀lv k,aO (vY L p lv k) aF.ok:=by
 intro lv k
 unfold vY
 exact aO.ite (h.un _) (aO.bd (h.bin _ _) λa k ha=>Ih h ht hn _ _ _ ha)
theorem Ae (h:eW n p)(ht:∀k,rg (tk L k).n/\fE (tk L k).s)(hn:n<=200000):∀a k,a.ok->aO (sB L p a k) aF.ok:=by
 intro a k ha
 unfold sB
 repeat' (first
 | exact aO.fail
 | exact aO.yes (by assumption)
 | exact aO.yes (eV (by first | exact gj | exact(ht _).1 | exact ez _) (by first | exact cw | exact(ht _).2 | assumption | (show _<_;decide)) (by first | exact aD.nil (m:=0) | assumption | exact aD.three (by assumption) (by assumption) (by assumption) | exact aD.two (by assumption) (by assumption) | exact aD.one (by assumption)) (by omega) (by first | exact aD.nil (m:=0) | assumption | exact aD.three (by assumption) (by assumption) (by assumption) | exact aD.two (by assumption) (by assumption) | exact aD.one (by assumption)) (by omega) (by first | exact aD.nil (m:=0) | assumption | exact aD.three (by assumption) (by assumption) (by assumption) | exact aD.two (by assumption) (by assumption) | exact aD.one (by assumption)) (by omega))
 | exact h.fB _ _ (by first | assumption | exact kE (by first | exact cw | exact(ht _).2 | assumption | (show _<_;decide)) (by first | exact aD.nil (m:=0) | assumption | exact aD.three (by assumption) (by assumption) (by assumption) | exact aD.two (by assumption) (by assumption) | exact aD.one (by assumption)) (by omega) | exact eV gj (by first | exact cw | exact(ht _).2 | assumption | (show _<_;decide)) (by first | exact aD.nil (m:=0) | assumption | exact aD.three (by assumption) (by assumption) (by assumption) | exact aD.two (by assumption) (by assumption) | exact aD.one (by assumption)) (by omega) (aD.nil (m:=0)) (by omega) (aD.nil (m:=0)) (by omega))
 | refine aO.bd (h.fB _ _ (by first | assumption | exact kE (by first | exact cw | exact(ht _).2 | assumption | (show _<_;decide)) (by first | exact aD.nil (m:=0) | assumption | exact aD.three (by assumption) (by assumption) (by assumption) | exact aD.two (by assumption) (by assumption) | exact aD.one (by assumption)) (by omega) | exact eV gj (by first | exact cw | exact(ht _).2 | assumption | (show _<_;decide)) (by first | exact aD.nil (m:=0) | assumption | exact aD.three (by assumption) (by assumption) (by assumption) | exact aD.two (by assumption) (by assumption) | exact aD.one (by assumption)) (by omega) (aD.nil (m:=0)) (by omega) (aD.nil (m:=0)) (by omega))) (λa k ha=> ?_)
 | exact h.atom _
 | refine aO.bd (h.atom _) (λa k ha=> ?_)
 | refine aO.ite ?_ ?_)
theorem SG (h:eW n p)(ht:∀k,rg (tk L k).n/\fE (tk L k).s)(hn:n<=200000):∀k,aO (JV L p k) aF.ok:=by
 intro k
 unfold JV
 repeat' (first
 | exact aO.fail
 | exact aO.yes (by assumption)
 | exact aO.yes (eV (by first | exact gj | exact(ht _).1 | exact ez _) (by first | exact cw | exact(ht _).2 | assumption | (show _<_;decide)) (by first | exact aD.nil (m:=0) | assumption | exact aD.three (by assumption) (by assumption) (by assumption) | exact aD.two (by assumption) (by assumption) | exact aD.one (by assumption)) (by omega) (by first | exact aD.nil (m:=0) | assumption | exact aD.three (by assumption) (by assumption) (by assumption) | exact aD.two (by assumption) (by assumption) | exact aD.one (by assumption)) (by omega) (by first | exact aD.nil (m:=0) | assumption | exact aD.three (by assumption) (by assumption) (by assumption) | exact aD.two (by assumption) (by assumption) | exact aD.one (by assumption)) (by omega))
 | exact h.un _
 | refine aO.bd (h.un _) (λa k ha=> ?_)
 | exact h.atom _
 | refine aO.bd (h.atom _) (λa k ha=> ?_)
 | exact Ae h ht hn _ _ (by assumption)
 | refine aO.bd (Ae h ht hn _ _ (by assumption)) (λa k ha=> ?_)
 | refine aO.ite ?_ ?_)
theorem rY (h:eW n p)(ht:∀k,rg (tk L k).n/\fE (tk L k).s)(hn:n<=200000):∀s e k m,fF m e->m+(n+1)<=300000->aO (jP L p s e k) aF.ok:=by
 intro s e k m he hm
 unfold jP
 repeat' (first
 | exact aO.yes (fF.ok (by first | assumption | exact fF.jN (by assumption) (by assumption) (by assumption)) (by omega))
 | exact aO.fail
 | exact aO.yes (by assumption)
 | exact aO.yes (eV (by first | exact gj | exact(ht _).1 | exact ez _) (by first | exact cw | exact(ht _).2 | assumption | (show _<_;decide)) (by first | exact aD.nil (m:=0) | assumption | exact aD.three (by assumption) (by assumption) (by assumption) | exact aD.two (by assumption) (by assumption) | exact aD.one (by assumption)) (by omega) (by first | exact aD.nil (m:=0) | assumption | exact aD.three (by assumption) (by assumption) (by assumption) | exact aD.two (by assumption) (by assumption) | exact aD.one (by assumption)) (by omega) (by first | exact aD.nil (m:=0) | assumption | exact aD.three (by assumption) (by assumption) (by assumption) | exact aD.two (by assumption) (by assumption) | exact aD.one (by assumption)) (by omega))
 | exact h.exp _
 | refine aO.bd (h.exp _) (λa k ha=> ?_)
 | exact h.dF _ _ _ _ (by first | exact fF.jN (by assumption) (by assumption) (by assumption) | exact fF.add (by assumption) (by assumption) | exact fF.one (by assumption) | exact fF.zero) (by omega)
 | refine aO.bd (h.dF _ _ _ _ (by first | exact fF.jN (by assumption) (by assumption) (by assumption) | exact fF.add (by assumption) (by assumption) | exact fF.one (by assumption) | exact fF.zero) (by omega)) (λa k ha=> ?_)
 | refine aO.ite ?_ ?_)
theorem K9 (h:eW n p)(ht:∀k,rg (tk L k).n/\fE (tk L k).s)(hn:n<=200000):∀k,aO (mI L p k) aF.ok:=by
 intro k
 unfold mI
 repeat' (first
 | exact aO.fail
 | exact aO.yes (by assumption)
 | exact aO.yes (eV (by first | exact gj | exact(ht _).1 | exact ez _) (by first | exact cw | exact(ht _).2 | assumption | (show _<_;decide)) (by first | exact aD.nil (m:=0) | assumption | exact aD.three (by assumption) (by assumption) (by assumption) | exact aD.two (by assumption) (by assumption) | exact aD.one (by assumption)) (by omega) (by first | exact aD.nil (m:=0) | assumption | exact aD.three (by assumption) (by assumption) (by assumption) | exact aD.two (by assumption) (by assumption) | exact aD.one (by assumption)) (by omega) (by first | exact aD.nil (m:=0) | assumption | exact aD.three (by assumption) (by assumption) (by assumption) | exact aD.two (by assumption) (by assumption) | exact aD.one (by assumption)) (by omega))
 | refine aO.aS (λk=> ?_)
 | exact h.exp _
 | refine aO.bd (h.exp _) (λa k ha=> ?_)
 | exact h.lt _
 | refine aO.bd (h.lt _) (λa k ha=> ?_)
 | exact rY h ht hn _ _ _ _ (by first | exact fF.jN (by assumption) (by assumption) (by assumption) | exact fF.add (by assumption) (by assumption) | exact fF.one (by assumption) | exact fF.zero) (by omega)
 | refine aO.bd (rY h ht hn _ _ _ _ (by first | exact fF.jN (by assumption) (by assumption) (by assumption) | exact fF.add (by assumption) (by assumption) | exact fF.one (by assumption) | exact fF.zero) (by omega)) (λa k ha=> ?_)
 | refine aO.ite ?_ ?_)
theorem Af (h:eW n p)(ht:∀k,rg (tk L k).n/\fE (tk L k).s)(hn:n<=200000):∀l k m,aD aT.ok m l->m+(n+1)<=300000->aO (sC L p l k) (aD aT.ok 300000):=by
 intro l k m hl hm
 unfold sC
 refine aO.ite (aO.yes (hl.mono (by omega))) (aO.bd (h.bind _) λd k hd=> ?_)
 cases d with
 | none=>exact aO.fail
 | some d=>exact h.fO _ _ _ (hl.snoc (hd d rfl)) (by omega)
theorem SH (h:eW n p)(ht:∀k,rg (tk L k).n/\fE (tk L k).s)(hn:n<=200000):∀k,aO (JW L p k) aF.ok:=by
 intro k
 unfold JW
 repeat' (first
 | exact aO.fail
 | exact aO.yes (by assumption)
 | exact aO.yes (eV (by first | exact gj | exact(ht _).1 | exact ez _) (by first | exact cw | exact(ht _).2 | assumption | (show _<_;decide)) (by first | exact aD.nil (m:=0) | assumption | exact aD.three (by assumption) (by assumption) (by assumption) | exact aD.two (by assumption) (by assumption) | exact aD.one (by assumption)) (by omega) (by first | exact aD.nil (m:=0) | assumption | exact aD.three (by assumption) (by assumption) (by assumption) | exact aD.two (by assumption) (by assumption) | exact aD.one (by assumption)) (by omega) (by first | exact aD.nil (m:=0) | assumption | exact aD.three (by assumption) (by assumption) (by assumption) | exact aD.two (by assumption) (by assumption) | exact aD.one (by assumption)) (by omega))
 | refine aO.aS (λk=> ?_)
 | exact h.exp _
 | refine aO.bd (h.exp _) (λa k ha=> ?_)
 | exact Af h ht hn _ _ _ (by first | exact aD.nil (m:=0) | exact aD.snoc (by assumption) (by first | assumption | exact(ht _).2) | exact aD.one (by first | assumption | exact(ht _).2)) (by omega)
 | refine aO.bd (Af h ht hn _ _ _ (by first | exact aD.nil (m:=0) | exact aD.snoc (by assumption) (by first | assumption | exact(ht _).2) | exact aD.one (by first | assumption | exact(ht _).2)) (by omega)) (λa k ha=> ?_)
 | exact rY h ht hn _ _ _ _ (by first | exact fF.jN (by assumption) (by assumption) (by assumption) | exact fF.add (by assumption) (by assumption) | exact fF.one (by assumption) | exact fF.zero) (by omega)
 | refine aO.bd (rY h ht hn _ _ _ _ (by first | exact fF.jN (by assumption) (by assumption) (by assumption) | exact fF.add (by assumption) (by assumption) | exact fF.one (by assumption) | exact fF.zero) (by omega)) (λa k ha=> ?_)
 | refine aO.ite ?_ ?_)
theorem Ii (h:eW n p)(ht:∀k,rg (tk L k).n/\fE (tk L k).s)(hn:n<=200000):∀k,aO (yu L p k) aZ.ok:=by
 intro k
 unfold yu
 repeat' (first
 | exact aO.fail
 | exact aO.yes (by assumption)
 | exact aO.yes (iF (by first | exact gj | exact(ht _).1 | exact ez _) (by decide) (aD.one (iF gj cw (aD.two (by assumption) (by assumption)) (by omega))) (by omega))
 | exact aO.yes (iF (by first | exact gj | exact(ht _).1 | exact ez _) (by first | exact cw | exact(ht _).2 | assumption | (show _<_;decide)) (by first | exact aD.nil (m:=0) | assumption | exact aD.three (by assumption) (by assumption) (by assumption) | exact aD.two (by assumption) (by assumption) | exact aD.one (by assumption)) (by omega))
 | exact h.bl _
 | refine aO.bd (h.bl _) (λa k ha=> ?_)
 | refine aO.ite ?_ ?_)
theorem PZ (h:eW n p)(ht:∀k,rg (tk L k).n/\fE (tk L k).s)(hn:n<=200000):∀k,aO (vZ L p k) aZ.ok:=by
 intro k
 unfold vZ
 repeat' (first
 | exact aO.fail
 | exact aO.yes (by assumption)
 | exact aO.yes (iF (by first | exact gj | exact(ht _).1 | exact ez _) (by decide) (aD.one (iF gj cw (aD.two (by assumption) (by assumption)) (by omega))) (by omega))
 | exact aO.yes (iF (by first | exact gj | exact(ht _).1 | exact ez _) (by first | exact cw | exact(ht _).2 | assumption | (show _<_;decide)) (by first | exact aD.nil (m:=0) | assumption | exact aD.three (by assumption) (by assumption) (by assumption) | exact aD.two (by assumption) (by assumption) | exact aD.one (by assumption)) (by omega))
 | exact h.pat _
 | refine aO.bd (h.pat _) (λa k ha=> ?_)
 | exact Ii h ht hn _
 | refine aO.bd (Ii h ht hn _) (λa k ha=> ?_)
 | refine aO.ite ?_ ?_)
theorem wC (h:eW n p)(ht:∀k,rg (tk L k).n/\fE (tk L k).s)(hn:n<=200000):∀l k m,aD aZ.ok m l->m+(n+1)<=300000->aO (ly L p l k) (aD aZ.ok 300000):=by
 intro l k m hl hm
 unfold ly
 repeat' (first
 | exact aO.fail
 | exact aO.yes (aD.mono (aD.nil (m:=0)) (by omega))
 | exact aO.yes (aD.mono (aD.one (ht _).2) (by omega))
 | exact aO.yes (aD.mono (by assumption) (by omega))
 | exact aO.yes (by first | exact aD.nil (m:=0) | assumption | exact aD.three (by assumption) (by assumption) (by assumption) | exact aD.two (by assumption) (by assumption) | exact aD.one (by assumption))
 | exact aO.yes (aD.mono (by first | exact aD.nil (m:=0) | assumption | exact aD.three (by assumption) (by assumption) (by assumption) | exact aD.two (by assumption) (by assumption) | exact aD.one (by assumption)) (by omega))
 | exact h.pat _
 | refine aO.bd (h.pat _) (λa k ha=> ?_)
 | exact h.fC _ _ _ (by first | exact aD.nil (m:=0) | exact aD.snoc (by assumption) (by first | assumption | exact(ht _).2) | exact aD.one (by first | assumption | exact(ht _).2)) (by omega)
 | refine aO.bd (h.fC _ _ _ (by first | exact aD.nil (m:=0) | exact aD.snoc (by assumption) (by first | assumption | exact(ht _).2) | exact aD.one (by first | assumption | exact(ht _).2)) (by omega)) (λa k ha=> ?_)
 | refine aO.ite ?_ ?_)
theorem Ij (h:eW n p)(ht:∀k,rg (tk L k).n/\fE (tk L k).s)(hn:n<=200000):∀k,aO (jv L p k) aZ.ok:=by
 intro k
 unfold jv
 repeat' (first
 | exact aO.fail
 | exact aO.yes (by assumption)
 | exact aO.yes (iF (by first | exact gj | exact(ht _).1 | exact ez _) (by decide) (aD.one (iF gj cw (aD.two (by assumption) (by assumption)) (by omega))) (by omega))
 | exact aO.yes (iF (by first | exact gj | exact(ht _).1 | exact ez _) (by first | exact cw | exact(ht _).2 | assumption | (show _<_;decide)) (by first | exact aD.nil (m:=0) | assumption | exact aD.three (by assumption) (by assumption) (by assumption) | exact aD.two (by assumption) (by assumption) | exact aD.one (by assumption)) (by omega))
 | refine aO.aS (λk=> ?_)
 | refine aO.bo (λj k=> ?_)
 | exact h.pat _
 | refine aO.bd (h.pat _) (λa k ha=> ?_)
 | exact wC h ht hn _ _ _ (by first | exact aD.nil (m:=0) | exact aD.snoc (by assumption) (by first | assumption | exact(ht _).2) | exact aD.one (by first | assumption | exact(ht _).2)) (by omega)
 | refine aO.bd (wC h ht hn _ _ _ (by first | exact aD.nil (m:=0) | exact aD.snoc (by assumption) (by first | assumption | exact(ht _).2) | exact aD.one (by first | assumption | exact(ht _).2)) (by omega)) (λa k ha=> ?_)
 | refine aO.ite ?_ ?_)
theorem wD (h:eW n p)(ht:∀k,rg (tk L k).n/\fE (tk L k).s)(hn:n<=200000):∀l k m,aD bg.ok m l->m+(n+1)<=300000->aO (lz L p l k) (aD bg.ok 300000):=by
 intro l k m hl hm
 unfold lz
 repeat' (first
 | exact aO.fail
 | exact aO.yes (aD.mono (aD.nil (m:=0)) (by omega))
 | exact aO.yes (aD.mono (aD.one (ht _).2) (by omega))
 | exact aO.yes (aD.mono (by assumption) (by omega))
 | exact aO.yes (by first | exact aD.nil (m:=0) | assumption | exact aD.three (by assumption) (by assumption) (by assumption) | exact aD.two (by assumption) (by assumption) | exact aD.one (by assumption))
 | exact aO.yes (aD.mono (by first | exact aD.nil (m:=0) | assumption | exact aD.three (by assumption) (by assumption) (by assumption) | exact aD.two (by assumption) (by assumption) | exact aD.one (by assumption)) (by omega))
 | exact h.dk _ _ _ (by first | exact aD.nil (m:=0) | exact aD.snoc (by assumption) (by first | assumption | exact(ht _).2) | exact aD.one (by first | assumption | exact(ht _).2)) (by omega)
 | refine aO.bd (h.dk _ _ _ (by first | exact aD.nil (m:=0) | exact aD.snoc (by assumption) (by first | assumption | exact(ht _).2) | exact aD.one (by first | assumption | exact(ht _).2)) (by omega)) (λa k ha=> ?_)
 | exact h.post _
 | refine aO.bd (h.post _) (λa k ha=> ?_)
 | refine aO.ite ?_ ?_)
theorem Dy (h:eW n p)(ht:∀k,rg (tk L k).n/\fE (tk L k).s)(hn:n<=200000):∀k,aO (ou L p k) bg.ok:=by
 intro k
 unfold ou
 repeat' (first
 | exact aO.fail
 | exact aO.yes (by assumption)
 | exact aO.yes (kE (by first | exact cw | exact(ht _).2 | assumption | (show _<_;decide)) (by first | exact aD.nil (m:=0) | assumption | exact aD.three (by assumption) (by assumption) (by assumption) | exact aD.two (by assumption) (by assumption) | exact aD.one (by assumption)) (by omega))
 | exact h.post _
 | refine aO.bd (h.post _) (λa k ha=> ?_)
 | exact wD h ht hn _ _ _ (by first | exact aD.nil (m:=0) | exact aD.snoc (by assumption) (by first | assumption | exact(ht _).2) | exact aD.one (by first | assumption | exact(ht _).2)) (by omega)
 | refine aO.bd (wD h ht hn _ _ _ (by first | exact aD.nil (m:=0) | exact aD.snoc (by assumption) (by first | assumption | exact(ht _).2) | exact aD.one (by first | assumption | exact(ht _).2)) (by omega)) (λa k ha=> ?_)
 | refine aO.ite ?_ ?_)
theorem P1 (h:eW n p)(ht:∀k,rg (tk L k).n/\fE (tk L k).s)(hn:n<=200000):∀k,aO (v5 L p k) bg.ok:=by
 intro k
 unfold v5
 repeat' (first
 | exact aO.fail
 | exact aO.yes (by assumption)
 | exact aO.yes (kE (by first | exact cw | exact(ht _).2 | assumption | (show _<_;decide)) (by first | exact aD.nil (m:=0) | assumption | exact aD.three (by assumption) (by assumption) (by assumption) | exact aD.two (by assumption) (by assumption) | exact aD.one (by assumption)) (by omega))
 | exact h.dH _
 | refine aO.bd (h.dH _) (λa k ha=> ?_)
 | exact Dy h ht hn _
 | refine aO.bd (Dy h ht hn _) (λa k ha=> ?_)
 | refine aO.ite ?_ ?_)
theorem Ah (h:eW n p)(ht:∀k,rg (tk L k).n/\fE (tk L k).s)(hn:n<=200000):∀l k m,aD bg.ok m l->m+(n+1)<=300000->aO (nF L p l k) (aD bg.ok 300000):=by
 intro l k m hl hm
 unfold nF
 repeat' (first
 | exact aO.fail
 | exact aO.yes (aD.mono (aD.nil (m:=0)) (by omega))
 | exact aO.yes (aD.mono (aD.one (ht _).2) (by omega))
 | exact aO.yes (aD.mono (by assumption) (by omega))
 | exact aO.yes (by first | exact aD.nil (m:=0) | assumption | exact aD.three (by assumption) (by assumption) (by assumption) | exact aD.two (by assumption) (by assumption) | exact aD.one (by assumption))
 | exact aO.yes (aD.mono (by first | exact aD.nil (m:=0) | assumption | exact aD.three (by assumption) (by assumption) (by assumption) | exact aD.two (by assumption) (by assumption) | exact aD.one (by assumption)) (by omega))
 | exact h.dH _
 | refine aO.bd (h.dH _) (λa k ha=> ?_)
 | exact h.lX _ _ _ (by first | exact aD.nil (m:=0) | exact aD.snoc (by assumption) (by first | assumption | exact(ht _).2) | exact aD.one (by first | assumption | exact(ht _).2)) (by omega)
 | refine aO.bd (h.lX _ _ _ (by first | exact aD.nil (m:=0) | exact aD.snoc (by assumption) (by first | assumption | exact(ht _).2) | exact aD.one (by first | assumption | exact(ht _).2)) (by omega)) (λa k ha=> ?_)
 | refine aO.ite ?_ ?_)
theorem Dz (h:eW n p)(ht:∀k,rg (tk L k).n/\fE (tk L k).s)(hn:n<=200000):∀k,aO (ov L p k) bg.ok:=by
 intro k
 unfold ov
 repeat' (first
 | exact aO.fail
 | exact aO.yes (by assumption)
 | exact aO.yes (kE (by first | exact cw | exact(ht _).2 | assumption | (show _<_;decide)) (by first | exact aD.nil (m:=0) | assumption | exact aD.three (by assumption) (by assumption) (by assumption) | exact aD.two (by assumption) (by assumption) | exact aD.one (by assumption)) (by omega))
 | refine aO.aS (λk=> ?_)
 | exact h.dH _
 | refine aO.bd (h.dH _) (λa k ha=> ?_)
 | exact Ah h ht hn _ _ _ (by first | exact aD.nil (m:=0) | exact aD.snoc (by assumption) (by first | assumption | exact(ht _).2) | exact aD.one (by first | assumption | exact(ht _).2)) (by omega)
 | refine aO.bd (Ah h ht hn _ _ _ (by first | exact aD.nil (m:=0) | exact aD.snoc (by assumption) (by first | assumption | exact(ht _).2) | exact aD.one (by first | assumption | exact(ht _).2)) (by omega)) (λa k ha=> ?_)
 | refine aO.ite ?_ ?_)
theorem wE (h:eW n p)(ht:∀k,rg (tk L k).n/\fE (tk L k).s)(hn:n<=200000):∀a k,a.ok->aO (jJ L p a k) bg.ok:=by
 intro a k ha
 unfold jJ
 repeat' (first
 | exact aO.fail
 | exact aO.yes (by assumption)
 | exact aO.yes (kE (by first | exact cw | exact(ht _).2 | assumption | (show _<_;decide)) (by first | exact aD.nil (m:=0) | assumption | exact aD.three (by assumption) (by assumption) (by assumption) | exact aD.two (by assumption) (by assumption) | exact aD.one (by assumption)) (by omega))
 | exact h.cB _ _ (by first | assumption | exact kE (by first | exact cw | exact(ht _).2 | assumption | (show _<_;decide)) (by first | exact aD.nil (m:=0) | assumption | exact aD.three (by assumption) (by assumption) (by assumption) | exact aD.two (by assumption) (by assumption) | exact aD.one (by assumption)) (by omega) | exact eV gj (by first | exact cw | exact(ht _).2 | assumption | (show _<_;decide)) (by first | exact aD.nil (m:=0) | assumption | exact aD.three (by assumption) (by assumption) (by assumption) | exact aD.two (by assumption) (by assumption) | exact aD.one (by assumption)) (by omega) (aD.nil (m:=0)) (by omega) (aD.nil (m:=0)) (by omega))
 | refine aO.bd (h.cB _ _ (by first | assumption | exact kE (by first | exact cw | exact(ht _).2 | assumption | (show _<_;decide)) (by first | exact aD.nil (m:=0) | assumption | exact aD.three (by assumption) (by assumption) (by assumption) | exact aD.two (by assumption) (by assumption) | exact aD.one (by assumption)) (by omega) | exact eV gj (by first | exact cw | exact(ht _).2 | assumption | (show _<_;decide)) (by first | exact aD.nil (m:=0) | assumption | exact aD.three (by assumption) (by assumption) (by assumption) | exact aD.two (by assumption) (by assumption) | exact aD.one (by assumption)) (by omega) (aD.nil (m:=0)) (by omega) (aD.nil (m:=0)) (by omega))) (λa k ha=> ?_)
 | refine aO.ite ?_ ?_)
theorem K_ (h:eW n p)(ht:∀k,rg (tk L k).n/\fE (tk L k).s)(hn:n<=200000):∀k,aO (mJ L p k) bg.ok:=by
 intro k
 unfold mJ
 repeat' (first
 | exact aO.fail
 | exact aO.yes (by assumption)
 | exact aO.yes (kE (by first | exact cw | exact(ht _).2 | assumption | (show _<_;decide)) (by first | exact aD.nil (m:=0) | assumption | exact aD.three (by assumption) (by assumption) (by assumption) | exact aD.two (by assumption) (by assumption) | exact aD.one (by assumption)) (by omega))
 | exact Dz h ht hn _
 | refine aO.bd (Dz h ht hn _) (λa k ha=> ?_)
 | exact wE h ht hn _ _ (by assumption)
 | refine aO.bd (wE h ht hn _ _ (by assumption)) (λa k ha=> ?_)
 | refine aO.ite ?_ ?_)
theorem P2 (h:eW n p)(ht:∀k,rg (tk L k).n/\fE (tk L k).s)(hn:n<=200000):∀k,aO (v7 L p k) cM.ok:=by
 intro k
 unfold v7
 repeat' (first
 | exact aO.fail
 | exact aO.yes (Ib (by first | exact cw | exact(ht _).2 | assumption | (show _<_;decide)) (by first | exact aD.nil (m:=0) | assumption | exact aD.three (by assumption) (by assumption) (by assumption) | exact aD.two (by assumption) (by assumption) | exact aD.one (by assumption)) (by omega))
 | refine aO.bo (λj k=> ?_)
 | exact h.dH _
 | refine aO.bd (h.dH _) (λa k ha=> ?_)
 | refine aO.ite ?_ ?_)
theorem Ai (h:eW n p)(ht:∀k,rg (tk L k).n/\fE (tk L k).s)(hn:n<=200000):∀l k m,aD Fn.ok m l->m+(n+1)<=300000->aO (sD L p l k) (aD Fn.ok 300000):=by
 intro l k m hl hm
 unfold sD
 repeat' (first
 | exact aO.fail
 | exact aO.yes (aD.mono (aD.nil (m:=0)) (by omega))
 | exact aO.yes (aD.mono (aD.one (ht _).2) (by omega))
 | exact aO.yes (aD.mono (by assumption) (by omega))
 | exact aO.yes (by first | exact aD.nil (m:=0) | assumption | exact aD.three (by assumption) (by assumption) (by assumption) | exact aD.two (by assumption) (by assumption) | exact aD.one (by assumption))
 | exact aO.yes (aD.mono (by first | exact aD.nil (m:=0) | assumption | exact aD.three (by assumption) (by assumption) (by assumption) | exact aD.two (by assumption) (by assumption) | exact aD.one (by assumption)) (by omega))
 | exact h.fi _ _ _ (by first | exact aD.nil (m:=0) | exact aD.snoc (by assumption) (by first | assumption | exact(ht _).2) | exact aD.one (by first | assumption | exact(ht _).2)) (by omega)
 | refine aO.bd (h.fi _ _ _ (by first | exact aD.nil (m:=0) | exact aD.snoc (by assumption) (by first | assumption | exact(ht _).2) | exact aD.one (by first | assumption | exact(ht _).2)) (by omega)) (λa k ha=> ?_)
 | exact h.fn _
 | refine aO.bd (h.fn _) (λa k ha=> ?_)
 | refine aO.ite ?_ ?_)
theorem La (h:eW n p)(ht:∀k,rg (tk L k).n/\fE (tk L k).s)(hn:n<=200000):∀k,aO (mK L p k) Dx:=by
 intro k
 unfold mK
 repeat' (first
 | exact aO.fail
 | exact aO.yes (λx e=>by first | (cases e;done) | (cases e;exact Ad (by first | assumption | exact Ic) (by first | assumption | exact MW) (by first | exact aD.nil (m:=0) | assumption | exact aD.three (by assumption) (by assumption) (by assumption) | exact aD.two (by assumption) (by assumption) | exact aD.one (by assumption)) (by omega) (by first | assumption | exact Ie) (by first | assumption | exact Ig)))
 | refine aO.aS (λk=> ?_)
 | exact h.exp _
 | refine aO.bd (h.exp _) (λa k ha=> ?_)
 | exact h.pat _
 | refine aO.bd (h.pat _) (λa k ha=> ?_)
 | exact h.fn _
 | refine aO.bd (h.fn _) (λa k ha=> ?_)
 | exact Ai h ht hn _ _ _ (by first | exact aD.nil (m:=0) | exact aD.snoc (by assumption) (by first | assumption | exact(ht _).2) | exact aD.one (by first | assumption | exact(ht _).2)) (by omega)
 | refine aO.bd (Ai h ht hn _ _ _ (by first | exact aD.nil (m:=0) | exact aD.snoc (by assumption) (by first | assumption | exact(ht _).2) | exact aD.one (by first | assumption | exact(ht _).2)) (by omega)) (λa k ha=> ?_)
 | refine aO.ite ?_ ?_)
theorem Aj (h:eW n p)(ht:∀k,rg (tk L k).n/\fE (tk L k).s)(hn:n<=200000):∀l k m,aD aZ.ok m l->m+(n+1)<=300000->aO (sE L p l k) (aD aZ.ok 300000):=by
 intro l k m hl hm
 unfold sE
 repeat' (first
 | exact aO.fail
 | exact aO.yes (aD.mono (aD.nil (m:=0)) (by omega))
 | exact aO.yes (aD.mono (aD.one (ht _).2) (by omega))
 | exact aO.yes (aD.mono (by assumption) (by omega))
 | exact aO.yes (by first | exact aD.nil (m:=0) | assumption | exact aD.three (by assumption) (by assumption) (by assumption) | exact aD.two (by assumption) (by assumption) | exact aD.one (by assumption))
 | exact aO.yes (aD.mono (by first | exact aD.nil (m:=0) | assumption | exact aD.three (by assumption) (by assumption) (by assumption) | exact aD.two (by assumption) (by assumption) | exact aD.one (by assumption)) (by omega))
 | exact h.bl _
 | refine aO.bd (h.bl _) (λa k ha=> ?_)
 | exact h.lY _ _ _ (by first | exact aD.nil (m:=0) | exact aD.snoc (by assumption) (by first | assumption | exact(ht _).2) | exact aD.one (by first | assumption | exact(ht _).2)) (by omega)
 | refine aO.bd (h.lY _ _ _ (by first | exact aD.nil (m:=0) | exact aD.snoc (by assumption) (by first | assumption | exact(ht _).2) | exact aD.one (by first | assumption | exact(ht _).2)) (by omega)) (λa k ha=> ?_)
 | refine aO.ite ?_ ?_)
theorem SI (h:eW n p)(ht:∀k,rg (tk L k).n/\fE (tk L k).s)(hn:n<=200000):∀k,aO (JX L p k) Fn.ok:=by
 intro k
 unfold JX
 repeat' (first
 | exact aO.fail
 | exact aO.yes (SF (by first | exact cw | exact(ht _).2 | assumption | (show _<_;decide)) (by first | exact aD.nil (m:=0) | assumption | exact aD.three (by assumption) (by assumption) (by assumption) | exact aD.two (by assumption) (by assumption) | exact aD.one (by assumption)) (by omega) (by assumption))
 | refine aO.aS (λk=> ?_)
 | refine aO.bo (λj k=> ?_)
 | exact h.exp _
 | refine aO.bd (h.exp _) (λa k ha=> ?_)
 | exact h.bl _
 | refine aO.bd (h.bl _) (λa k ha=> ?_)
 | exact Aj h ht hn _ _ _ (by first | exact aD.nil (m:=0) | exact aD.snoc (by assumption) (by first | assumption | exact(ht _).2) | exact aD.one (by first | assumption | exact(ht _).2)) (by omega)
 | refine aO.bd (Aj h ht hn _ _ _ (by first | exact aD.nil (m:=0) | exact aD.snoc (by assumption) (by first | assumption | exact(ht _).2) | exact aD.one (by first | assumption | exact(ht _).2)) (by omega)) (λa k ha=> ?_)
 | refine aO.ite ?_ ?_)
theorem P3 (h:eW n p)(ht:∀k,rg (tk L k).n/\fE (tk L k).s)(hn:n<=200000):∀k,aO (v8 L p k) Dx:=by
 intro k
 unfold v8
 repeat' (first
 | exact aO.fail
 | exact aO.yes (λx e=>by first | (cases e;done) | (cases e;exact Ad (by first | assumption | exact Ic) (by first | assumption | exact MW) (by first | exact aD.nil (m:=0) | assumption | exact aD.three (by assumption) (by assumption) (by assumption) | exact aD.two (by assumption) (by assumption) | exact aD.one (by assumption)) (by omega) (by first | assumption | exact Ie) (by first | assumption | exact Ig)))
 | exact h.dS _
 | refine aO.bd (h.dS _) (λa k ha=> ?_)
 | exact h.bind _
 | refine aO.bd (h.bind _) (λa k ha=> ?_)
 | exact h.data _
 | refine aO.bd (h.data _) (λa k ha=> ?_)
 | refine aO.ite ?_ ?_)
theorem Ak (h:eW n p)(ht:∀k,rg (tk L k).n/\fE (tk L k).s)(hn:n<=200000):∀l k m,aD fE m l->m+(n+1)<=300000->aO (mL L p l k) (aD fE 300000):=by
 intro l k m hl hm
 unfold mL
 repeat' (first
 | exact aO.fail
 | exact aO.yes (aD.mono (aD.nil (m:=0)) (by omega))
 | exact aO.yes (aD.mono (aD.one (ht _).2) (by omega))
 | exact aO.yes (aD.mono (by assumption) (by omega))
 | exact aO.yes (by first | exact aD.nil (m:=0) | assumption | exact aD.three (by assumption) (by assumption) (by assumption) | exact aD.two (by assumption) (by assumption) | exact aD.one (by assumption))
 | exact aO.yes (aD.mono (by first | exact aD.nil (m:=0) | assumption | exact aD.three (by assumption) (by assumption) (by assumption) | exact aD.two (by assumption) (by assumption) | exact aD.one (by assumption)) (by omega))
 | refine aO.bo (λj k=> ?_)
 | exact h.fj _ _ _ (by first | exact aD.nil (m:=0) | exact aD.snoc (by assumption) (by first | assumption | exact(ht _).2) | exact aD.one (by first | assumption | exact(ht _).2)) (by omega)
 | refine aO.bd (h.fj _ _ _ (by first | exact aD.nil (m:=0) | exact aD.snoc (by assumption) (by first | assumption | exact(ht _).2) | exact aD.one (by first | assumption | exact(ht _).2)) (by omega)) (λa k ha=> ?_)
 | refine aO.ite ?_ ?_)
theorem DA (h:eW n p)(ht:∀k,rg (tk L k).n/\fE (tk L k).s)(hn:n<=200000):∀k,aO (ow L p k) (aD fE 300000):=by
 intro k
 unfold ow
 repeat' (first
 | exact aO.fail
 | exact aO.yes (aD.mono (aD.nil (m:=0)) (by omega))
 | exact aO.yes (aD.mono (aD.one (ht _).2) (by omega))
 | exact aO.yes (aD.mono (by assumption) (by omega))
 | exact aO.yes (by first | exact aD.nil (m:=0) | assumption | exact aD.three (by assumption) (by assumption) (by assumption) | exact aD.two (by assumption) (by assumption) | exact aD.one (by assumption))
 | exact aO.yes (aD.mono (by first | exact aD.nil (m:=0) | assumption | exact aD.three (by assumption) (by assumption) (by assumption) | exact aD.two (by assumption) (by assumption) | exact aD.one (by assumption)) (by omega))
 | refine aO.aS (λk=> ?_)
 | refine aO.bo (λj k=> ?_)
 | exact Ak h ht hn _ _ _ (by first | exact aD.nil (m:=0) | exact aD.snoc (by assumption) (by first | assumption | exact(ht _).2) | exact aD.one (by first | assumption | exact(ht _).2)) (by omega)
 | refine aO.bd (Ak h ht hn _ _ _ (by first | exact aD.nil (m:=0) | exact aD.snoc (by assumption) (by first | assumption | exact(ht _).2) | exact aD.one (by first | assumption | exact(ht _).2)) (by omega)) (λa k ha=> ?_)
 | refine aO.ite ?_ ?_)
theorem wF (h:eW n p)(ht:∀k,rg (tk L k).n/\fE (tk L k).s)(hn:n<=200000):∀l k m,aD cM.ok m l->m+(n+1)<=300000->aO (g_ L p l k) (aD cM.ok 300000):=by
 intro l k m hl hm
 unfold g_
 repeat' (first
 | exact aO.fail
 | exact aO.yes (aD.mono (aD.nil (m:=0)) (by omega))
 | exact aO.yes (aD.mono (aD.one (ht _).2) (by omega))
 | exact aO.yes (aD.mono (by assumption) (by omega))
 | exact aO.yes (by first | exact aD.nil (m:=0) | assumption | exact aD.three (by assumption) (by assumption) (by assumption) | exact aD.two (by assumption) (by assumption) | exact aD.one (by assumption))
 | exact aO.yes (aD.mono (by first | exact aD.nil (m:=0) | assumption | exact aD.three (by assumption) (by assumption) (by assumption) | exact aD.two (by assumption) (by assumption) | exact aD.one (by assumption)) (by omega))
 | exact h.dS _
 | refine aO.bd (h.dS _) (λa k ha=> ?_)
 | exact h.fk _ _ _ (by first | exact aD.nil (m:=0) | exact aD.snoc (by assumption) (by first | assumption | exact(ht _).2) | exact aD.one (by first | assumption | exact(ht _).2)) (by omega)
 | refine aO.bd (h.fk _ _ _ (by first | exact aD.nil (m:=0) | exact aD.snoc (by assumption) (by first | assumption | exact(ht _).2) | exact aD.one (by first | assumption | exact(ht _).2)) (by omega)) (λa k ha=> ?_)
 | refine aO.ite ?_ ?_)
theorem Lb (h:eW n p)(ht:∀k,rg (tk L k).n/\fE (tk L k).s)(hn:n<=200000):∀k,aO (mM L p k) Data.ok:=by
 intro k
 unfold mM
 repeat' (first
 | exact aO.fail
 | exact aO.yes (Dw (by first | exact aD.nil (m:=0) | assumption | exact aD.three (by assumption) (by assumption) (by assumption) | exact aD.two (by assumption) (by assumption) | exact aD.one (by assumption)) (by omega) (by first | exact cw | exact(ht _).2 | assumption | (show _<_;decide)) (by first | exact aD.nil (m:=0) | assumption | exact aD.three (by assumption) (by assumption) (by assumption) | exact aD.two (by assumption) (by assumption) | exact aD.one (by assumption)) (by omega))
 | refine aO.aS (λk=> ?_)
 | refine aO.bo (λj k=> ?_)
 | exact h.dS _
 | refine aO.bd (h.dS _) (λa k ha=> ?_)
 | exact DA h ht hn _
 | refine aO.bd (DA h ht hn _) (λa k ha=> ?_)
 | exact wF h ht hn _ _ _ (by first | exact aD.nil (m:=0) | exact aD.snoc (by assumption) (by first | assumption | exact(ht _).2) | exact aD.one (by first | assumption | exact(ht _).2)) (by omega)
 | refine aO.bd (wF h ht hn _ _ _ (by first | exact aD.nil (m:=0) | exact aD.snoc (by assumption) (by first | assumption | exact(ht _).2) | exact aD.one (by first | assumption | exact(ht _).2)) (by omega)) (λa k ha=> ?_)
 | refine aO.ite ?_ ?_)
theorem Lc (h:eW n p)(ht:∀k,rg (tk L k).n/\fE (tk L k).s)(hn:n<=200000):∀l k m,aD aT.ok m l->m+(n+1)<=300000->aO (mN L p l k) (aD aT.ok 300000):=by
 intro l k m hl hm
 unfold mN
 refine aO.ite (aO.yes (hl.mono (by omega))) (aO.bd (h.dec _) λd k hd=> ?_)
 cases d with
 | none=>exact aO.bd (h.exp _) λe k he=>h.bM _ _ _ (hl.snoc (Ad Ic he (aD.nil (m:=0)) (by omega) Ie Ig)) (by omega)
 | some d=>exact h.bM _ _ _ (hl.snoc (hd d rfl)) (by omega)
theorem P4 (ht:oB L):∀n,n<=200000->eW n (ps L n)
 | 0,_=>by constructor<;>intros<;>exact aO.none
 | n+1,hn=>by
   have h:=P4 ht n (by omega)
   have ht:=ht.tk
   have hn:n<=200000:=by omega
   exact {
    exp:=PW (L:=L) h ht hn
    fA:=PX (L:=L) h ht hn
    bin:=PY (L:=L) h ht hn
    fh:=Ih (L:=L) h ht hn
    un:=SG (L:=L) h ht hn
    fB:=Ae (L:=L) h ht hn
    atom:=K9 (L:=L) h ht hn
    dF:=rY (L:=L) h ht hn
    lt:=SH (L:=L) h ht hn
    fO:=Af (L:=L) h ht hn
    pat:=PZ (L:=L) h ht hn
    bl:=Ij (L:=L) h ht hn
    fC:=wC (L:=L) h ht hn
    dH:=P1 (L:=L) h ht hn
    dk:=wD (L:=L) h ht hn
    post:=K_ (L:=L) h ht hn
    lX:=Ah (L:=L) h ht hn
    cB:=wE (L:=L) h ht hn
    dS:=P2 (L:=L) h ht hn
    bind:=La (L:=L) h ht hn
    fi:=Ai (L:=L) h ht hn
    fn:=SI (L:=L) h ht hn
    lY:=Aj (L:=L) h ht hn
    dec:=P3 (L:=L) h ht hn
    data:=Lb (L:=L) h ht hn
    fj:=Ak (L:=L) h ht hn
    fk:=wF (L:=L) h ht hn
    bM:=Lc (L:=L) h ht hn }
end
section
variable {nx0 nx nx' bp k:Nat}{H0 H H':T OB}{F A B G G':List Bx}{R:Go.Ev.Out->T OB->Nat->Prop}{b:Nat}{l:List Value}{e t:TypeId}{L:List Tok}
def Ik:iY (List aT)->List aT×Int×Int
 | .bad a=>([],a,80)
 | .ok ds _=>if 100<fw ds 0 then([],0,81)else(ds,0,0)
def nK (L:List Tok)(o:iY (List aT)):List aT×Int×Int:=if L.all eZ=true then Ik o else([],0,110)
def DV (ds:List aT)(v:Value):Prop:=v=bP ds\/(ds=[]/\v=az)
abbrev Ld (r:List aT×Int×Int):Go.Ev.Out->T OB->Nat->Prop:=λq _ _=>∃v,q= .ret (.tuple ⟨[v,i64 r.2.1,i64 r.2.2]⟩)/\DV r.1 v
theorem yI {i:Nat}{t:Tok}(hg:L[i]? = some t)(hp:(L.take i).all eZ=true)(ht:eZ t=true):(L.take (i+1)).all eZ=true:=by
 rw[List.take_add_one,hg,List.all_append,hp]
 simp[ht]
theorem wG {i:Nat}{t:Tok}(hg:L[i]? = some t)(ht:eZ t=false):¬L.all eZ=true:=λq=>by
 have:=List.all_eq_true.1 q t (List.mem_of_getElem? hg)
 rw[ht]at this
 cases this
theorem UY {u:Value}:∃H',jE H nx e (some u)= .val (ptr nx) H' (nx+1)/\cG H' nx u.cells.toList e/\Ag nx H (nx+1) H'/\∀b l e,b<nx->cG H b l e->cG H' b l e:=by
 obtain⟨o,H',nx',hA,⟨h1,h2,h3,h4⟩,hr⟩:=Wq.box (P:=P) (pl:=pl) (X:=X0) (R:=λo H2 nx2=>o= .ret (ptr nx)/\nx2=nx+1/\cG H2 nx u.cells.toList e/\∀b l e,b<nx->cG H b l e->cG H2 b l e) (k:=λv H nx=> .ret ⟨.ret v,false,H,nx⟩) (u:=u) (e:=e) (Ag.refl nx H) λH' hb dz hA=>Wq.jM hA ⟨rfl,rfl,hb,dz⟩
 cases he:jE H nx e (some u)with
 | val v H1 aC=>
   rw[he]at hr
   have hr:some (⟨.ret v,false,H1,aC⟩:Rt)=some ⟨o,false,H',nx'⟩:=hr
   cases hr
   cases h1
   subst h2
   exact⟨_,rfl,h3,hA,h4⟩
 | _=>rw[he]at hr;cases hr
theorem Il {x:eC}{v:Value}{k:Value->T OB->Nat->Q}(h:x= .val v H nx):ak x k=k v H nx:=by rw[h];rfl
def UZ (x0:Value)(H:T OB)(nx:Nat):Q:=ak (aq P H nx 24) (λx1 H nx=>ak (aq P H nx 3) (λx2 H nx=>ak (aq P H nx 25) (λx3 H nx=>aa (aM P #[29] 3 (some [x0])) (λx4=> .jump (yb x0 x1 x2 x3 x0 x4 (.int .i64 0) H nx)) .bad)))
theorem SJ (a0:Value)(H:T OB)(nx:Nat):aN P pl (.call 15 [a0] false none H nx)=dK P 29 a0 H nx UZ:=Vt a0 H nx
theorem SK (v:Value)(hv:ax v=true):aw P 73 (some [(0,dm L)])=some (.agg ⟨[dm L,i64 0]⟩):=bn (z:=[az,i64 0]) (by kernel_rfl) (by kernel_rfl)
theorem Vm (hL:L.length<=100000)(hT:oB L){n:Nat}(hn:n<=90000){o:iY (List aT)}(ho:(ps L n).bM [] 0=some o){x1 x2 x3:Nat}:∀(d i nx:Nat) (H:Go.Ev.T OB),i+d=L.length->(L.take i).all eZ=true->Hp nx0 H0 [(x1,[az],24),(x2,[i64 0],3),(x3,[i64 0],25)] H nx->
 aK P pl X0 (.jump (yb (dm L) (ptr x1) (ptr x2) (ptr x3) (dm L) (i64 (L.length:Int)) (i64 ((i:Nat):Int)) H nx)) nx0 H0 (Ld (nK L o))
 | d+1,i,nx,H,hd,hp,h=>by
   have hlt:i<L.length:=by omega
   have hg:L[i]? = some L[i]:=List.getElem?_eq_getElem hlt
   have hx:(L.map Tok.v)[i]? = some L[i].v:=by simp[hg]
   refine Wq.jmp (LV ..) (λ_=>rfl) ?_
   simp only[af,aQ hlt,tq hx]
   refine Hq.var e8 fT rfl rfl rfl h λH1 aC h1=> ?_
   refine Hq.CF (Rf L[i] (by have:=(hT _ (List.mem_of_getElem? hg)).2;have h9:L[i].s.length<_:=this;omega)) h1 λH2 nx2 h2=> ?_
   cases ht:eZ L[i]with
   | false=>
     simp only[af,Bool.not_false]
     refine Hq.put [] h2 ra rfl rfl (by simp) rfl λH3 h3=> ?_
     refine Hq.put [_] h3 zu rfl rfl (by simp) rfl λH4 h4=> ?_
     refine Hq.put [_,_] h4 B_ rfl rfl (by simp) rfl λH5 h5=> ?_
     simp only[af,av (off:=0) (u:=az) (h5.at_ 0 rfl) kc rfl,av (off:=0) (u:=i64 0) (h5.at_ 1 rfl) od rfl,av (off:=0) (u:=i64 110) (h5.at_ 2 rfl) uA rfl]
     refine Wq.jM h5.ag ⟨az,?_,?_⟩
     . unfold nK;rw[if_neg (wG hg ht)]
     . unfold nK;rw[if_neg (wG hg ht)];exact .inr ⟨rfl,rfl⟩
   | true=>
     simp only[af,Bool.not_true,aI (i:=i) (by omega)]
     exact Vm hL hT hn ho d (i+1) nx2 H2 (by omega) (yI hg hp ht) h2
 | 0,i,nx,H,hd,hp,h=>by
   have hall:L.all eZ=true:=by rwa[List.take_of_length_le (by omega)]at hp
   have hout:nK L o=Ik o:=by unfold nK;rw[if_pos hall]
   rw[hout]
   refine Wq.jmp (LV ..) (λ_=>rfl) ?_
   have hge:i=L.length:=by omega
   subst hge
   simp only[af,aL,SK (L:=L) az rfl]
   obtain⟨H1,eb,hb,hA1,dz⟩:=UY (H:=H) (nx:=nx) (e:=73) (u:= .agg ⟨[dm L,i64 0]⟩)
   rw[Il eb]
   have h2:Hp nx H (cD nx L 0::[]) H1 (nx+1):=⟨h.vT.ag h.ag,hA1,by simp,λx hx=>by
    rw[List.mem_singleton]at hx
    subst hx
    exact⟨Nat.le_refl _,Nat.lt_succ_self _,hb⟩⟩
   refine Wq.gB rfl (aK.base h.ag (UT hL hn nx (nx+1) H H1 nx [] 0 o ho h2)) (λu H3 nx3 hA he=> ?_) (λu H3 nx3 hA he=> ?_)
   . have h4:=h.dz hA he.2.1 λb l e hb hi=>hi.ag he.2 hb
     replace he:=he.1
     cases o with
     | bad a=>cases he
     | ok ds k=>
       obtain⟨e1,h3⟩:=he
       cases e1
       have hok:=(P4 hT n (by omega)).bM [] 0 0 aD.nil (by omega) ds k ho
       refine Hq.put [] h4 ra rfl rfl (by simp) rfl λH5 h5=> ?_
       simp only[af,av (off:=0) (u:=bP ds) (h5.at_ 0 rfl) kc rfl]
       refine Hq.call (Rs ds (hok.dO (by omega)) hok.2).2 h5 λH6 nx6 h6=> ?_
       simp only[af]
       refine Wq.ite (λhi=> ?_) (λhi=> ?_)
       . refine Hq.put [] h6 ra rfl rfl (by simp) rfl λH7 h7=> ?_
         refine Hq.put [_] h7 zu rfl rfl (by simp) rfl λH8 h8=> ?_
         refine Hq.put [_,_] h8 B_ rfl rfl (by simp) rfl λH9 h9=> ?_
         refine Dv ?_
         refine aK.cast (q':=aa (ae P H9 24 (some (ptr x1))) (λa=>aa (ae P H9 3 (some (ptr x2))) (λb=>aa (ae P H9 25 (some (ptr x3))) (λc=> .ret ⟨.ret (.tuple ⟨[a,b,c]⟩),false,H9,nx6⟩) .bad) .bad) .bad) (by kernel_rfl) ?_
         simp only[af,av (off:=0) (u:=az) (h9.at_ 0 rfl) kc rfl,av (off:=0) (u:=i64 0) (h9.at_ 1 rfl) od rfl,av (off:=0) (u:=i64 81) (h9.at_ 2 rfl) uA rfl]
         have e9:Ik (.ok ds k)=([],0,81):=by
          show(if _ then _ else _)=_
          rw[if_pos hi]
         rw[e9]
         exact Wq.jM h9.ag ⟨az,rfl,.inr ⟨rfl,rfl⟩⟩
       . simp only[af,av (off:=0) (u:=bP ds) (h6.at_ 0 rfl) kc rfl]
         refine Hq.put [] h6 ra rfl rfl (by simp) rfl λH7 h7=> ?_
         refine Hq.put [_] h7 zu rfl rfl (by simp) rfl λH8 h8=> ?_
         refine Hq.put [_,_] h8 B_ rfl rfl (by simp) rfl λH9 h9=> ?_
         refine Dv ?_
         refine aK.cast (q':=aa (ae P H9 24 (some (ptr x1))) (λa=>aa (ae P H9 3 (some (ptr x2))) (λb=>aa (ae P H9 25 (some (ptr x3))) (λc=> .ret ⟨.ret (.tuple ⟨[a,b,c]⟩),false,H9,nx6⟩) .bad) .bad) .bad) (by kernel_rfl) ?_
         simp only[af,av (off:=0) (u:=bP ds) (h9.at_ 0 rfl) kc rfl,av (off:=0) (u:=i64 0) (h9.at_ 1 rfl) od rfl,av (off:=0) (u:=i64 0) (h9.at_ 2 rfl) uA rfl]
         have e9:Ik (.ok ds k)=(ds,0,0):=by
          show(if _ then _ else _)=_
          rw[if_neg hi]
         rw[e9]
         exact Wq.jM h9.ag ⟨bP ds,rfl,.inl rfl⟩
   . have h4:=h.dz hA he.2.1 λb l e hb hi=>hi.ag he.2 hb
     replace he:=he.1
     cases o with
     | ok a k'=>cases he.1
     | bad a=>
       cases he
       refine K8 h4 λH9 nx9 h9=> ?_
       refine aK.cast (q':=aa (ae P H9 24 (some (ptr x1))) (λa=>aa (ae P H9 3 (some (ptr x2))) (λb=>aa (ae P H9 25 (some (ptr x3))) (λc=> .ret ⟨.ret (.tuple ⟨[a,b,c]⟩),false,H9,nx9⟩) .bad) .bad) .bad) (by kernel_rfl) ?_
       simp only[af,av (off:=0) (u:=az) (h9.at_ 0 rfl) kc rfl,av (off:=0) (u:=i64 a) (h9.at_ 1 rfl) od rfl,av (off:=0) (u:=i64 80) (h9.at_ 2 rfl) uA rfl]
       exact Wq.jM h9.ag ⟨az,rfl,.inr ⟨rfl,rfl⟩⟩
theorem Vn (hT0:dj nx H)(hL:L.length<=100000)(hT:oB L){n:Nat}(hn:n<=90000){o:iY (List aT)}(ho:(ps L n).bM [] 0=some o):aK P pl X0 (UZ (dm L) H nx) nx H (Ld (nK L o)):=by
 unfold UZ
 refine Wq.alloc I4 (Ag.refl nx H) λH1 hb dz hA=> ?_
 have h0:Hp nx H [] H nx:=⟨hT0,Ag.refl nx H,by simp,λx hx=>by simp at hx⟩
 have h1:Hp nx H [(nx,[az],24)] H1 (nx+1):=h0.new hb dz hA
 refine Hq.alloc Nu h1 λx2 H2 nx2 h2=> ?_
 refine Hq.alloc I5 h2 λx3 H3 nx3 h3=> ?_
 simp only[af,List.length_map]
 exact Vm hL hT hn ho L.length 0 nx3 H3 (by omega) rfl (Hp.swap' h3)
theorem m6:ot true 4 (L.map Tok.v):=λv hv=>by
 obtain⟨t,_,rfl⟩:=List.mem_map.1 hv
 exact⟨rfl,rfl,⟨_,rfl⟩⟩
theorem P5 {c:Nat}(hT0:dj nx0 H0)(hL:L.length<=100000)(hT:oB L){n:Nat}(hn:n<=90000){o:iY (List aT)}(ho:(ps L n).bM [] 0=some o)(hA:Ag nx0 H0 nx H)(hb:cG H b (bR (L.map Tok.v)) 31)(hbn:nx0<=b)(hbx:b<nx)(hc:c=eN\/c=L.length):
 aK P pl X0 (aN P pl (.call 15 [.slice (some ⟨b,0,none⟩) L.length c] false none H nx)) nx0 H0 (λq H' nx'=>Ld (nK L o) q H' nx'/\lS H' b (bR (L.map Tok.v))/\b<nx'):=by
 rw[SJ]
 refine Wq.Up Fz fT q7 rfl hb (by rw[gi m6,List.length_map]) ?_ (by have:=(m6 (L:=L)).chunk;rwa[List.length_map]at this) ?_ hA hbn λH1 hr dz hA1=> ?_
 . rcases hc with rfl | rfl
   . rfl
   . rw[Nat.ble_eq_true_of_le (Nat.le_refl _),Bool.or_true]
 . rw[List.all_eq_true];intro v hv;rfl
 . have h15:=Vn (nx:=nx+1) (H:=H1) (hT0.ag hA1) hL hT hn ho
   exact aK.mono (aK.base hA1 h15) λq H2 nx2 hA2 h2=>⟨h2.1,hr.ag h2.2 (by omega),by have:=h2.2.1;omega⟩
theorem Im (H:T OB)(nx:Nat)(k:Value->T OB->Nat->Q):dK P 29 az H nx k=k (dm []) H nx:=by kernel_rfl
theorem Le (hT0:dj nx0 H0){n:Nat}(hn:n<=90000){o:iY (List aT)}(ho:(ps [] n).bM [] 0=some o)(hA:Ag nx0 H0 nx H):aK P pl X0 (aN P pl (.call 15 [az] false none H nx)) nx0 H0 (Ld (nK [] o)):=by
 rw[SJ,Im]
 exact aK.mono (aK.base hA (Vn (hT0.ag hA) (by simp) (λt h=>by simp at h) hn ho)) λq H2 nx2 hA2 h2=>h2.1
end
section
variable {nx0 nx nx' bp k:Nat}{H0 H H':T OB}{F A B G G':List Bx}{R:Go.Ev.Out->T OB->Nat->Prop}{b:Nat}{l:List Value}{e t:TypeId}{L:List Tok}{s s':bx}{x:Bx}
structure U0 (L:List Tok)(p:RP):Prop where
 exp:aX 39 L aF.v p.exp
 fA:Dl L p.fA
 b0:aX 70 L aF.v (p.bin 0)
 b1:aX 124 L aF.v (p.bin 1)
 b2:aX 161 L aF.v (p.bin 2)
 b3:aX 182 L aF.v (p.bin 3)
 b4:aX 191 L aF.v (p.bin 4)
 b5:aX 193 L aF.v (p.bin 5)
 b6:aX 194 L aF.v (p.bin 6)
 b7:aX 195 L aF.v (p.bin 7)
 un:aX 195 L aF.v p.un
 atom:aX 196 L aF.v p.atom
 lt:aX 198 L aF.v p.lt
 pat:aX 121 L aZ.v p.pat
 bl:aX 160 L aZ.v p.bl
 dH:aX 120 L bg.v p.dH
 post:aX 181 L bg.v p.post
 dS:aX 66 L cM.v p.dS
 bind:aX 67 L gL p.bind
 fn:aX 122 L Fn.v p.fn
 dec:aX 38 L gL p.dec
 data:aX 65 L Data.v p.data
theorem P6 (hL:L.length<=100000):∀n,n<=94001->∀j,j<=n->U0 L (rp L j)
 | 0,_,j,hj=>by
   have:j=0:=by omega
   subst this
   exact⟨aX.none,λnx0 nx H0 H bp F G s o kk l sl hl hG ho h=>(by cases ho),aX.none,aX.none,aX.none,aX.none,aX.none,aX.none,aX.none,aX.none,aX.none,aX.none,aX.none,aX.none,aX.none,aX.none,aX.none,aX.none,aX.none,aX.none,aX.none,aX.none⟩
 | n+1,hn,j,hj=>by
   have ih:=P6 hL n (by omega)
   by_cases hjn:j<=n
   . exact ih j hjn
   . have:j=n+1:=by omega
     subst this
     have i:=ih n (Nat.le_refl n)
     have hn':n<=94000:=by omega
     exact {
      exp:=PM hL i.exp i.fA i.b0
      fA:=PJ hL hn' (λj hj=>(ih j hj).pat) (λj hj=>(ih j hj).exp)
      b0:=PH hL λj hj=>(ih j hj).b1
      b1:=KQ hL λj hj=>(ih j hj).b2
      b2:=KU hL i.b3 i.b2
      b3:=KR hL λj hj=>(ih j hj).b4
      b4:=KV hL i.b5 i.b4
      b5:=KS hL λj hj=>(ih j hj).b6
      b6:=KT hL λj hj=>(ih j hj).b7
      b7:=by
       have:(rp L (n+1)).bin 7=(rp L n).un:=by
        funext s
        show iD L (rp L n) 7 s=_
        unfold iD
        rw[if_pos rfl]
       rw[this]
       exact i.un
      un:=KW hL hn' (λj hj=>(ih j hj).atom) i.un
      atom:=KZ hL hn' (λj hj=>(ih j hj).exp) i.lt
      lt:=K0 hL hn' (λj hj=>(ih j hj).exp) (λj hj=>(ih j hj).bind)
      pat:=K1 hL i.bl i.pat
      bl:=K2 hL hn' (λj hj=>(ih j hj).pat)
      dH:=K3 hL (K4 hL hn' λj hj=>(ih j hj).post) i.dH
      post:=K5 hL hn' (λj hj=>(ih j hj).dH)
      dS:=PN hL i.dH
      bind:=PO hL hn' i.pat i.exp (λj hj=>(ih j hj).fn)
      fn:=K6 hL hn' (λj hj=>(ih j hj).bl) i.exp
      dec:=PU hL i.data i.dS i.bind
      data:=PQ hL hn' (λj hj=>(ih j hj).dS) }
def P7 (c:aF):Value:= .agg ⟨[i64 5,i64 0,i64 0,aE [],az,i64 c.k,i64 c.n,aE c.s,fX c.l,cj c.p,bP c.d,az,az,aE [],az,aE [],az]⟩
def VD (v:Value)(d:aT):Prop:=v=d.v\/∃c,d=yv c/\v=P7 c
theorem P8 (c:aF)(hc:c.ok):P0 49 [P7 c] (i64 (vL (yv c))):=Pure.of rfl λH nx=>by
 rw[U_]
 unfold P7
 refine Wq.fq (.refl _ _) λhA=> ?_
 simp only[af]
 refine Wq.jmp (zz ..) (λ_=>rfl) ?_
 simp only[af]
 rw[show vL (yv c)=fy c from by rw[vN];rfl]
 have e:(Value.agg ⟨[i64 c.k,i64 c.n,aE c.s,fX c.l,cj c.p,bP c.d]⟩)=c.v:=(aF.bk c).symm
 simp only[e,show decide ((5:Int)=1)=false from rfl,show decide ((5:Int)=5)=true from rfl,Go.Ev.l8,Go.Ev.l7]
 refine Wq.call (vO.1 c hc) hA λH3 nx3 hA3=> ?_
 refine Wq.jmp (F7 ..) (λ_=>rfl) ?_
 exact Wq.ret hA3
theorem P9 {v:Value}{d:aT}(hv:VD v d)(hd:d.ok):P0 49 [v] (i64 (vL d)):=by
 rcases hv with rfl | ⟨c,rfl,rfl⟩
 . exact vO.2 d hd
 . exact P8 c ((aT.bX _).1 hd).2.1
def Eo:List Value->List aT->Prop
 | [],[]=>True
 | v::vs,d::ds=>VD v d/\Eo vs ds
 | _,_=>False
theorem Eo.snoc {v:Value}{d:aT}:∀{vs:List Value} {ds:List aT},Eo vs ds->VD v d->Eo (vs++[v]) (ds++[d])
 | [],[],_,h=>⟨h,trivial⟩
 | _::_,_::_,h,h'=>⟨h.1,Eo.snoc h.2 h'⟩
theorem Eo.len:∀{vs:List Value} {ds:List aT},Eo vs ds->vs.length=ds.length
 | [],[],_=>rfl
 | _::_,_::_,h=>congrArg Nat.succ h.2.len
theorem Eo.get:∀{vs:List Value} {ds:List aT} {i:Nat} {d:aT},Eo vs ds->ds[i]? = some d->∃v,vs[i]? = some v/\VD v d
 | _::_,_::_,0,_,h,e=>by simp at e;subst e;exact⟨_,rfl,h.1⟩
 | _::_,_::_,i+1,_,h,e=>Eo.get (i:=i) h.2 e
 | [],[],_,_,_,e=>by simp at e
 | [],_::_,_,_,h,_=>h.elim
 | _::_,[],_,_,h,_=>h.elim
theorem gb {n:Nat}:∀{vs:List Value} {i:Nat} {v:Value},ot true n vs->vs[i]? = some v->((bR vs).drop (i*n)).take n=v.cells.toList
 | w::vs,0,v,h,e=>by
   simp at e
   subst e
   show((w.cells.toList++bR vs).drop (0*n)).take n=_
   rw[Nat.zero_mul,List.drop_zero,List.take_append_of_le_length (by rw[(h w (by simp)).1];exact Nat.le_refl _),<- (h w (by simp)).1,List.take_length]
 | w::vs,i+1,v,h,e=>by
   show((w.cells.toList++bR vs).drop ((i+1)*n)).take n=_
   rw[Nat.add_mul,Nat.one_mul,Nat.add_comm,List.drop_append,show(w.cells.toList.drop (n+i*n))=[]from List.drop_eq_nil_of_le (by rw[(h w (by simp)).1];omega),List.nil_append,(h w (by simp)).1,Nat.add_sub_cancel_left]
   exact gb (λx hx=>h x (by simp[hx])) (by simpa using e)
theorem SL:eB P (some 24)=true:=by kernel_rfl
theorem U1 {vs:List Value}{ds:List aT}{sv:Value}(hG:Gw true 17 57 vs sv G)(hv:Eo vs ds)(hl:ds.length<dO)(hok:∀d,d∈ds->d.ok):∀(r:List aT) (i:Nat) (n:Int) (nx:Nat) (H:Go.Ev.T OB),ds.drop i=r->i<=ds.length->Hp nx0 H0 (x::(G++F)) H nx->
 aK P pl X0 (.jump (yc sv (i64 n) (i64 ((i:Nat):Int)) H nx)) nx0 H0 (λo H nx=>o= .ret (i64 (fw r n))/\Hp nx0 H0 (x::(G++F)) H nx):=by
 have hln:aM P #[24] 3 (some [sv])=some (i64 (ds.length:Int)):=by
  rw[<- hv.len]
  rcases hG.2 with⟨rfl,rfl,_⟩ | ⟨b,c,rfl,_⟩
  . rfl
  . exact dN SL
 intro r
 induction r with
 | nil=>
   intro i n nx H hd hi h
   have hil:=drop_nil hd hi
   refine Wq.jmp (Cb ..) (λ_=>rfl) ?_
   simp only[af,hln,hil,aL]
   rw[fw]
   exact gD h
 | cons d r ih=>
   intro i n nx H hd hi h
   obtain⟨hg,hlt,hd'⟩:=drop_cons hd
   obtain⟨v,hgv,hvd⟩:=hv.get hg
   have hdo:=hok d (List.mem_of_getElem? hg)
   obtain⟨b,c,rfl,_,_,rfl⟩:∃b c,sv= .slice (some ⟨b,0,none⟩) vs.length c/\(c=eN\/c=vs.length)/\0<vs.length/\G=[(b,bR vs,57)]:=by
    rcases hG.2 with⟨rfl,_,_⟩ | q
    . simp at hgv
    . exact q
   have hlv:=(List.getElem?_eq_some_iff.1 hgv).1
   have hp:au P 24 (some (.slice (some ⟨b,0,none⟩) vs.length c)) (some (i64 ((i:Nat):Int)))=some (.pointer (some ⟨b,0+i*17,none⟩)):=gW (by kernel_rfl) hlv .i64
   have hle:0+i*17+17<=(bR vs).length:=by rw[gi hG.1];omega
   have hld:ae P H 57 (some (.pointer (some ⟨b,0+i*17,none⟩)))=some v:=by
    rw[bV (h.at_ 1 rfl) fe di hle,Nat.zero_add,gb hG.1 hgv]
    obtain⟨_,_,q⟩:=hG.1 v (List.mem_of_getElem? hgv)
    rw[if_pos rfl]at q
    obtain⟨cs,rfl⟩:=q
    rfl
   refine Wq.jmp (Cb ..) (λ_=>rfl) ?_
   simp only[af,hln,aQ hlt,hp,hld]
   refine Hq.call (P9 hvd hdo) h λH2 nx2 h2=> ?_
   simp only[af,Int.add_comm 1]
   refine Hq.call (lx _ _) h2 λH3 nx3 h3=> ?_
   rw[fw]
   simp only[af,aI (show i<9223372036854775807 by have:=cV hl;omega)]
   exact ih (i+1) _ nx3 H3 hd' (by omega) h3
theorem rZ (H:T OB)(nx:Nat)(k:Value->T OB->Nat->Q):aW P 24 az H nx k=k (bP []) H nx:=by kernel_rfl
def Ep (o:List aT×bx):List aT×Int×Int:=match o.2.2 with
 | some a=>([],a,80)
 | none=>if 100<fw o.1 0 then([],0,81)else(o.1,0,0)
abbrev nL (r:List aT×Int×Int):Go.Ev.Out->T OB->Nat->Prop:=λq _ _=>q= .ret (.tuple ⟨[bP r.1,i64 r.2.1,i64 r.2.2]⟩)
theorem Io {ds:List aT}{vs:List Value}{sv:Value}(hG:Gw true 17 57 vs sv G)(hL:iB 0 kC vs (ds.map aT.v) [])(hv:Eo vs ds)(hok:s.2=none->ds.length<dO/\∀d,d∈ds->d.ok)(h:Hp nx0 H0 (bZ bp L s::(G++F)) H nx){q:Q}
 (hq:q=bK s.2.isSome (aW P 24 az H nx λx30 H nx=> .ret ⟨.ret (.tuple ⟨[x30,i64 (s.2.getD 0),i64 80]⟩),false,H,nx⟩) (ah (.call 23 [sv] false none H nx) (λx31 H nx=>
  aa (al P H .gtr 3 true (some x31) (some (.int .i64 100))) (λx32=>
  aB x32 (λb33=>bK b33
  (aW P 24 (.slice none 0 0) H nx (λx34 H nx=> .ret ⟨.ret (.tuple ⟨[x34,(.int .i64 0),(.int .i64 81)]⟩),false,H,nx⟩))
  (aW P 24 sv H nx (λx35 H nx=> .ret ⟨.ret (.tuple ⟨[x35,(.int .i64 0),(.int .i64 0)]⟩),false,H,nx⟩))) .bad) .bad) ar)):
 aK P pl X0 q nx0 H0 (nL (Ep (ds,s))):=by
 subst hq
 unfold Ep
 cases hs:s.2 with
 | some a=>
   simp only[af,Option.isSome_some,rZ,Option.getD_some]
   exact Wq.jM h.ag rfl
 | none=>
   simp only[af,Option.isSome_none]
   refine Sq.dP rfl (F':=bZ bp L s::(G++F)) (by
    rw[U9]
    exact U1 hG hv (hok hs).1 (hok hs).2 ds 0 0 nx H rfl (Nat.zero_le _) h) λH1 aC h1=> ?_
   simp only[af]
   refine Wq.ite (λhi=> ?_) (λhi=> ?_)
   . simp only[af,rZ]
     refine Wq.jM h1.ag ?_
     show _=Go.Ev.Out.ret (Value.tuple ⟨[bP (if _ then _ else _:List aT×Int×Int).1,_,_]⟩)
     rw[if_pos hi]
   . refine yF hG hL (by rw[hv.len]) h1 λH9 nx9 h9=> ?_
     refine Wq.jM h9.ag ?_
     show _=Go.Ev.Out.ret (Value.tuple ⟨[bP (if _ then _ else _:List aT×Int×Int).1,_,_]⟩)
     rw[if_neg hi]
theorem Ip (hLL:L.length<=100000):∀(m:Nat),(∀j,j<m->aX 38 L gL (rp L j).dec)->(∀j,j<m->aX 39 L aF.v (rp L j).exp)->∀(ds:List aT) (vs:List Value) (s:bx) (sl:Value) (G:List Bx) (o:List aT×bx) (nx:Nat) (H:Go.Ev.T OB),ds.length+m<=95000->Gw true 17 57 vs sl G->iB 0 kC vs (ds.map aT.v) []->Eo vs ds->
 (rp L m).bM ds s=some o->(o.2.2=none->o.1.length<dO/\∀d,d∈o.1->d.ok)->Hp nx0 H0 (bZ bp L s::(G++F)) H nx->aK P pl X0 (.jump (uF (ptr bp) sl H nx)) nx0 H0 (nL (Ep o))
 | 0,_,_,ds,vs,s,sl,G,o,nx,H,hm,hG,hL,hv,ho,hok,h=>by cases ho
 | m+1,hd,he,ds,vs,s,sl,G,o,nx,H,hm,hG,hL,hv,ho,hok,h=>by
   have ho:rP L (rp L m) ds s=some o:=ho
   unfold rP at ho
   have J28:∀(cs:List Value) (d:aT) (s':bx) (x1 nx2:Nat) (H2:Go.Ev.T OB),cs.length=17->cs.all ax=true->gp 0 kC (.agg ⟨cs⟩) d.v []->VD (.agg ⟨cs⟩) d->(rp L m).bM (ds++[d]) (iS L [59] s')=some o->Hp nx0 H0 (bZ bp L s'::(x1,cs,57)::(G++F)) H2 nx2->aK P pl X0 (.jump (uG (ptr bp) sl (ptr x1) H2 nx2)) nx0 H0 (nL (Ep o)):=by
    intro cs d s' x1 nx2 H2 hc h1 hz hvd ho2 h2
    refine Wq.jmp (Nz ..) (λ_=>rfl) ?_
    simp only[af,C5 (h2.at_ 1 rfl) hc]
    refine Hq.pG cs hc h2 λx H3 nx3 h3=> ?_
    refine Hq.add [_] (v:= .agg ⟨cs⟩) gd di (HD (by rw[hv.len];omega)) (by rw[hv.len];omega) (λv hv=>by rw[List.mem_singleton]at hv;subst hv;exact⟨hc,h1,⟨_,rfl⟩⟩) hG h3 λsl' G' H4 nx4 hG' h4=> ?_
    refine Rq.MR hLL (Hp.ko h4) λbb H5 nx5 h5=> ?_
    simp only[af]
    exact Ip hLL m (λj hj=>hd j (by omega)) (λj hj=>he j (by omega)) (ds++[d]) (vs++[.agg ⟨cs⟩]) _ sl' G' o nx5 H5 (by rw[List.length_append];simp;omega) hG' (by rw[List.map_append];exact hL.snoc hz) (hv.snoc hvd) ho2 hok h5
   refine Wq.jmp (Ny ..) (λ_=>rfl) ?_
   cases hs:s.2 with
   | some a=>
     rw[if_pos (by rw[hs];rfl)]at ho
     cases ho
     simp only[af,rX h,hs,Option.isSome_some,Bool.not_true,Vi h]
     refine Io hG hL hv hok h ?_
     rw[hs]
     rfl
   | none=>
     rw[if_neg (by rw[hs];simp)]at ho
     simp only[af,rX h,hs,Option.isSome_none,Bool.not_false]
     refine Rq.now h λH1 aC h1=> ?_
     simp only[af]
     refine Wq.bK (λhi=> ?_) (λhi=> ?_)
     . have hne:¬(tk L s.1).k=0:=by simpa using hi
       rw[if_neg hne]at ho
       refine Rq.call (hd m (Nat.lt_succ_self m)) rfl h1 ho λd s' H2 nx2 _ ho h2=> ?_
       unfold gL
       simp only[af,Ej,Ek]
       refine Hq.alloc cJ h2 λx1 H3 nx3 h3=> ?_
       refine Hq.set [_] h3 di rfl (d.getD kr).len ((d.getD kr).fD (d.getD kr).v (by simp)).2.1 λH4 h4=> ?_
       cases d with
       | some d=>
         simp only[af,Option.isSome_some,Bool.not_true]
         exact J28 _ d s' x1 _ H4 d.len (d.fD d.v (by simp)).2.1 d.fz (.inl rfl) ho h4
       | none=>
         simp only[af,Option.isSome_none,Bool.not_false]
         refine Rq.call (he m (Nat.lt_succ_self m)) rfl h4 ho λc s2 H5 nx5 _ ho h5=> ?_
         refine Hq.gH h5 λH6 nx6 h6=> ?_
         simp only[af,oA,yE]
         refine Hq.set [_] h6 di (kr.len) rfl rfl λH7 h7=> ?_
         exact J28 _ (yv c) s2 x1 _ H7 rfl rfl aT.MO (.inr ⟨c,rfl,rfl⟩) ho h7
     . have h0:(tk L s.1).k=0:=by simpa using hi
       rw[if_pos h0]at ho
       cases ho
       simp only[af,rX h1,hs,Option.isSome_none,Vi h1]
       refine Io hG hL hv hok h1 ?_
       rw[hs]
       rfl
theorem SM:aw P 77 (some [(0,dm L)])=some (.agg ⟨[dm L,i64 0,.bool false,i64 0]⟩):=bn (z:=[az,i64 0,.bool false,i64 0]) (by kernel_rfl) (by kernel_rfl)
theorem Vo (hL:L.length<=100000)(hR:∀t,t∈L->P0 36 [t.v] (.bool (eZ t))){n:Nat}(hn:n<=94000){o:List aT×bx}(ho:(rp L n).bM [] (0,none)=some o)(hok:o.2.2=none->o.1.length<dO/\∀d,d∈o.1->d.ok)(hT:dj nx0 H0):∀(d i nx:Nat) (H:Go.Ev.T OB),i+d=L.length->(L.take i).all eZ=true->Ag nx0 H0 nx H->
 aK P pl X0 (.jump (Ca (dm L) (i64 ((i:Nat):Int)) H nx)) nx0 H0 (nL (if L.all eZ=true then Ep o else([],0,110)))
 | d+1,i,nx,H,hd,hp,hA=>by
   have hlt:i<L.length:=by omega
   have hg:L[i]? = some L[i]:=List.getElem?_eq_getElem hlt
   have hx:(L.map Tok.v)[i]? = some L[i].v:=by simp[hg]
   refine Wq.jmp (LW ..) (λ_=>rfl) ?_
   simp only[af,List.length_map,aQ hlt,tq hx]
   refine Wq.call (hR L[i] (List.mem_of_getElem? hg)) hA λH2 nx2 hA2=> ?_
   cases ht:eZ L[i]with
   | false=>
     simp only[af,Bool.not_false,rZ]
     refine Wq.jM hA2 ?_
     rw[if_neg (wG hg ht)]
   | true=>
     simp only[af,Bool.not_true,aI (i:=i) (by omega)]
     exact Vo hL hR hn ho hok hT d (i+1) nx2 H2 (by omega) (yI hg hp ht) hA2
 | 0,i,nx,H,hd,hp,hA=>by
   have hall:L.all eZ=true:=by rwa[List.take_of_length_le (by omega)]at hp
   rw[if_pos hall]
   refine Wq.jmp (LW ..) (λ_=>rfl) ?_
   have hge:i=L.length:=by omega
   subst hge
   simp only[af,List.length_map,aL,SM]
   refine Wq.box hA λH1 hb dz hA1=> ?_
   have h0:Hp nx0 H0 [] H nx:=⟨hT,hA,by simp,λx hx=>by simp at hx⟩
   have h1:Hp nx0 H0 (bZ nx L (0,none)::([]++[])) H1 (nx+1):=h0.new hb dz hA1
   exact Ip hL n (λj hj=>(P6 hL n (by omega) j (by omega)).dec) (λj hj=>(P6 hL n (by omega) j (by omega)).exp) [] [] (0,none) az [] o (nx+1) H1 (by simp;omega) (Gw.nil _ _ _) iB.nil trivial ho hok h1
end
section
variable {nx0:Nat}{H0:T OB}
def dv (c:UInt8):Nat:=c.toNat-48
def ld:Nat->List UInt8->Option Nat
 | n,[]=>some n
 | n,c::r=>if fU c=true/\n<=(4611686018427387903-dv c)/10 then ld (n*10+dv c) r else none
def Lf (s:List UInt8):Option Nat->Value
 | some m=> .tuple ⟨[i64 (m:Int),.bool (!decide (s=[]))]⟩
 | none=> .tuple ⟨[i64 0,.bool false]⟩
theorem la {c:UInt8}:fU c=true↔48<=c.toNat/\c.toNat<=57:=by unfold fU;simp
theorem Vp {c:UInt8}(h:fU c=true):IntKind.u8.wrap ((c.toNat:Int)-48)=(dv c:Int):=by
 rw[la]at h
 rw[wrap_u8]
 unfold dv
 omega
theorem MX {c:UInt8}(h:fU c=true):dv c<=9:=by
 rw[la]at h
 unfold dv
 omega
theorem Iq (s:List UInt8)(hl:s.length<dO):∀(r:List UInt8) (i n:Nat) (H:T OB) (nx:Nat),s.drop i=r->i<=s.length->n<=4611686018427387903->Ag nx0 H0 nx H->
 Wq P pl X0 (.jump (vd (aE s) (i64 (n:Int)) (i64 (i:Int)) H nx)) nx0 H0 (Lf s (ld n r)):=by
 intro r
 induction r with
 | nil=>
   intro i n H nx hd hi h1 hA
   have hil:=drop_nil hd hi
   refine Wq.jmp (Gm ..) (λ_=>rfl) ?_
   simp only[af,bt _ bU,bD,hil,aL,dB]
   exact Wq.ret hA
 | cons c r ih=>
   intro i n H nx hd hi h1 hA
   obtain⟨hg,hlt,hd'⟩:=drop_cons hd
   have L14:∀(b:Bool) H1 aC,Ag nx0 H0 aC H1->(b=false↔fU c=true/\n<=(4611686018427387903-dv c)/10)->Wq P pl X0 (.jump (oZ (aE s) (i64 (n:Int)) (i64 (i:Int)) b H1 aC)) nx0 H0 (Lf s (ld n (c::r))):=by
    intro b H1 aC hA1 hb
    refine Wq.jmp (Jc ..) (λ_=>rfl) ?_
    rw[ld]
    cases b with
    | true=>
      rw[if_neg (λq=>by have:=hb.2 q;cases this)]
      exact Wq.ret hA1
    | false=>
      have hc:=hb.1 rfl
      rw[if_pos hc]
      have h9:=MX hc.1
      have h10:=hc.2
      have e1:IntKind.i64.wrap ((n:Int)*10)=((n*10:Nat):Int):=by rw[ct (by omega)];omega
      have e2:IntKind.i64.wrap (dv c:Int)=(dv c:Int):=ct (by omega)
      have e3:IntKind.i64.wrap (((n*10:Nat):Int)+(dv c:Int))=((n*10+dv c:Nat):Int):=by rw[ct (by omega)];omega
      simp only[af,bG bU hg,Hl,aI (show i<9223372036854775807 by have:=cV hl;omega),Vp hc.1,e1,e2,e3]
      exact ih (i+1) _ H1 aC hd' (by omega) (by omega) hA1
   refine Wq.jmp (Gm ..) (λ_=>rfl) ?_
   simp only[af,bt _ bU,bD,aQ hlt,bG bU hg]
   refine Wq.call (zM c) hA λH1 aC hA1=> ?_
   cases hdg:fU c with
   | false=>
     simp only[af,Bool.not_false]
     exact L14 _ _ _ hA1 (by simp[hdg])
   | true=>
     have h9:=MX hdg
     have e2:IntKind.i64.wrap (dv c:Int)=(dv c:Int):=ct (by omega)
     have e4:IntKind.i64.wrap (4611686018427387903-(dv c:Int))=((4611686018427387903-dv c:Nat):Int):=by rw[ct (by omega)];omega
     have e5:IntKind.i64.wrap (((4611686018427387903-dv c:Nat):Int).tdiv 10)=(((4611686018427387903-dv c)/10:Nat):Int):=by
      rw[show((4611686018427387903-dv c:Nat):Int).tdiv 10=(((4611686018427387903-dv c)/10:Nat):Int)from rfl,ct (by omega)]
     simp only[af,Bool.not_true,Hl,Vp hdg,e2,e4,OJ,e5]
     refine L14 _ _ _ hA1 ?_
     rw[decide_eq_false_iff_not]
     simp only[hdg,true_and]
     omega
theorem P_ (s:List UInt8)(hl:s.length<dO):P0 110 [aE s] (Lf s (ld 0 s)):=Pure.of rfl λH nx=>by
 rw[Tv]
 exact Iq s hl s 0 0 H nx rfl (Nat.zero_le _) (by omega) (.refl _ _)
def eX (c:UInt8):Int:=if fU c=true then(c.toNat:Int)-48 else if(decide (65<=c.toNat)&&decide (c.toNat<=70))=true then(c.toNat:Int)-55 else -1
theorem DB (c:UInt8): -1<=eX c/\eX c<16:=by
 unfold eX
 split
 . rename_i h;rw[la]at h;omega
 . split
   . rename_i h h2;simp only[Bool.and_eq_true,decide_eq_true_eq]at h2;omega
   . omega
theorem wH (c:UInt8):P0 180 [b8 c] (i64 (eX c)):=Pure.of rfl λH nx=>by
 rw[T_]
 refine Wq.call (zM c) (.refl _ _) λH1 aC hA1=> ?_
 have hc:=c.toNat_lt
 have e0:IntKind.i64.wrap (c.toNat:Int)=(c.toNat:Int):=ct (by omega)
 unfold eX
 simp only[af,OH,e0]
 refine Wq.bK (λh=> ?_) (λh=> ?_)
 . rw[if_pos h]
   rw[show IntKind.i64.wrap ((c.toNat:Int)-48)=(c.toNat:Int)-48 from ct (by omega)]
   exact Wq.ret hA1
 rw[if_neg (by rw[h];decide)]
 refine Wq.call (vP c 65 70) hA1 λH2 nx2 hA2=> ?_
 simp only[af]
 refine Wq.bK (λh=> ?_) (λh=> ?_)
 . rw[if_pos h]
   rw[show IntKind.i64.wrap ((c.toNat:Int)-65)=(c.toNat:Int)-65 from ct (by omega),show IntKind.i64.wrap ((c.toNat:Int)-65+10)=(c.toNat:Int)-55 from by rw[ct (by omega)];omega]
   exact Wq.ret hA2
 rw[if_neg (by rw[h];decide)]
 exact Wq.ret hA2
def Lg:List UInt8->UInt8×Nat
 | y::z::_=>if 0<=eX y/\0<=eX z then(UInt8.ofNat (16*eX y+eX z).toNat,4)else(0,0)
 | _=>(0,0)
def wI:List UInt8->UInt8×Nat
 | []=>(0,0)
 | x::t=>if x.toNat=34 then(34,2)else if x.toNat=92 then(92,2)else if x.toNat=110 then(10,2)else if x.toNat=116 then(9,2)else if x.toNat=120 then Lg t else(0,0)
def hU:List UInt8->UInt8×Nat
 | []=>(0,0)
 | a::t=>if a.toNat<32\/126<a.toNat\/a.toNat=34 then(0,0)else if a.toNat=92 then wI t else(a,1)
theorem gk (x:UInt8)(t:List UInt8):wI (x::t)=if x.toNat=34 then(34,2)else if x.toNat=92 then(92,2)else if x.toNat=110 then(10,2)else if x.toNat=116 then(9,2)else if x.toNat=120 then Lg t else(0,0):=rfl
theorem gO (a:UInt8)(t:List UInt8):hU (a::t)=if a.toNat<32\/126<a.toNat\/a.toNat=34 then(0,0)else if a.toNat=92 then wI t else(a,1):=rfl
theorem Lh (s:List UInt8):(hU s).2<=s.length:=by
 cases s with
 | nil=>exact Nat.zero_le _
 | cons a t=>
   rw[gO]
   by_cases h1:a.toNat<32\/126<a.toNat\/a.toNat=34
   . rw[if_pos h1];exact Nat.zero_le _
   rw[if_neg h1]
   by_cases h2:a.toNat=92
   . rw[if_pos h2]
     cases t with
     | nil=>exact Nat.zero_le _
     | cons x t=>
       rw[gk]
       have h22:2<=(a::x::t).length:=by simp
       by_cases h3:x.toNat=34
       . rw[if_pos h3];exact h22
       rw[if_neg h3]
       by_cases h3:x.toNat=92
       . rw[if_pos h3];exact h22
       rw[if_neg h3]
       by_cases h3:x.toNat=110
       . rw[if_pos h3];exact h22
       rw[if_neg h3]
       by_cases h3:x.toNat=116
       . rw[if_pos h3];exact h22
       rw[if_neg h3]
       by_cases h3:x.toNat=120
       . rw[if_pos h3]
         match t with
         | []=>exact Nat.zero_le _
         | [_]=>exact Nat.zero_le _
         | y::z::r=>
           show(if 0<=eX y/\0<=eX z then _ else _:UInt8×Nat).2<=_
           by_cases h4:0<=eX y/\0<=eX z
           . rw[if_pos h4];show 4<=(a::x::y::z::r).length;simp
           . rw[if_neg h4];exact Nat.zero_le _
       . rw[if_neg h3];exact Nat.zero_le _
   . rw[if_neg h2];show 1<=(a::t).length;simp
abbrev Ir (p:UInt8×Nat):Value:= .tuple ⟨[b8 p.1,i64 (p.2:Int)]⟩
theorem Qa (s:List UInt8)(hs:s≠[])(hl:s.length<dO):P0 155 [aE s] (Ir (hU s)):=Pure.of rfl λH nx=>by
 rw[TY]
 have hA:=Ag.refl nx H
 obtain⟨a,t,rfl⟩:∃a t,s=a::t:=by cases s with
  | nil=>exact absurd rfl hs
  | cons a t=>exact⟨a,t,rfl⟩
 have L36f:∀H1 aC,Ag nx H aC H1->hU (a::t)=(0,0)->Wq P pl X0 (.jump (kQ (aE (a::t)) false H1 aC)) nx H (Ir (hU (a::t))):=by
  intro H1 aC hA1 hb
  refine Wq.jmp (Cs ..) (λ_=>rfl) ?_
  rw[hb]
  exact Wq.ret hA1
 have L6:∀(b:Bool) H1 aC,Ag nx H aC H1->(b=true↔(a.toNat<32\/126<a.toNat\/a.toNat=34))->Wq P pl X0 (.jump (ny (aE (a::t)) b H1 aC)) nx H (Ir (hU (a::t))):=by
  intro b H1 aC hA1 hb
  refine Wq.jmp (NW ..) (λ_=>rfl) ?_
  cases b with
  | true=>
    rw[show hU (a::t)=(0,0)from if_pos (hb.1 rfl)]
    exact Wq.ret hA1
  | false=>
    have hn:¬(a.toNat<32\/126<a.toNat\/a.toNat=34):=λq=>by have:=hb.2 q;cases this
    simp only[af,Qu]
    refine Wq.km (λh=> ?_) (λh=> ?_)
    . have h:¬a.toNat=92:=by omega
      rw[show hU (a::t)=(a,1)from by rw[gO,if_neg hn,if_neg h]]
      exact Wq.ret hA1
    have h92:a.toNat=92:=by omega
    have hE:hU (a::t)=wI t:=by rw[gO,if_neg hn,if_pos h92]
    cases t with
    | nil=>
      simp only[af,bt _ bU,bD,List.length_cons]
      rw[hE]
      exact Wq.ret hA1
    | cons x t=>
      have e2:decide (((a::x::t).length:Int)<2)=false:=by simp;omega
      simp only[af,bt _ bU,bD,e2,Vb]
      refine Wq.ite (λh=> ?_) (λh1=> ?_)
      . rw[hE,show wI (x::t)=(34,2)from if_pos (by omega)];exact Wq.ret hA1
      refine Wq.ite (λh=> ?_) (λh2=> ?_)
      . rw[hE,show wI (x::t)=(92,2)from by rw[gk];rw[if_neg (by omega),if_pos (by omega)]];exact Wq.ret hA1
      refine Wq.ite (λh=> ?_) (λh3=> ?_)
      . rw[hE,show wI (x::t)=(10,2)from by rw[gk];rw[if_neg (by omega),if_neg (by omega),if_pos (by omega)]];exact Wq.ret hA1
      refine Wq.ite (λh=> ?_) (λh4=> ?_)
      . rw[hE,show wI (x::t)=(9,2)from by rw[gk];rw[if_neg (by omega),if_neg (by omega),if_neg (by omega),if_pos (by omega)]];exact Wq.ret hA1
      have hE2:wI (x::t)=if x.toNat=120 then Lg t else(0,0):=by rw[gk];rw[if_neg (by omega),if_neg (by omega),if_neg (by omega),if_neg (by omega)]
      rw[hE2]at hE
      refine Wq.ite (λh=> ?_) (λh5=>L36f _ _ hA1 (by rw[hE,if_neg (by omega)]))
      rw[if_pos (by omega)]at hE
      refine Wq.ite (λh6=> ?_) (λh6=>L36f _ _ hA1 (by
       rw[hE]
       match t with
       | []=>rfl
       | [_]=>rfl
       | y::z::r=>simp at h6;omega))
      obtain⟨y,z,r,rfl⟩:∃y z r,t=y::z::r:=by
       match t with
       | []=>simp at h6
       | [_]=>simp at h6
       | y::z::r=>exact⟨y,z,r,rfl⟩
      have hX:Lg (y::z::r)=if 0<=eX y/\0<=eX z then(UInt8.ofNat (16*eX y+eX z).toNat,4)else(0,0):=rfl
      rw[hX]at hE
      simp only[af,Vc,Vd]
      refine Wq.call (wH y) hA1 λH2 nx2 hA2=> ?_
      simp only[af]
      refine Wq.ite (λh7=> ?_) (λh7=>L36f _ _ hA2 (by rw[hE,if_neg (by omega)]))
      refine Wq.call (wH z) hA2 λH3 nx3 hA3=> ?_
      simp only[af]
      by_cases h8:0<=eX z
      . rw[decide_eq_true h8]
        refine Wq.jmp (Cs ..) (λ_=>rfl) ?_
        have a1:=DB y
        have a2:=DB z
        have e1:IntKind.i64.wrap (16*eX y)=16*eX y:=ct (by omega)
        have e3:IntKind.i64.wrap (16*eX y+eX z)=16*eX y+eX z:=ct (by omega)
        simp only[af,Vc,Vd]
        refine Wq.call (wH y) hA3 λH4 nx4 hA4=> ?_
        simp only[af]
        refine Wq.call (wH z) hA4 λH5 nx5 hA5=> ?_
        simp only[af,e1,e3,OI,bj]
        rw[hE,if_pos ⟨h7,h8⟩]
        have e4:IntKind.u8.wrap (16*eX y+eX z)=((UInt8.ofNat (16*eX y+eX z).toNat).toNat:Int):=by
         rw[wrap_u8,UInt8.toNat_ofNat']
         omega
        rw[e4]
        exact Wq.ret hA5
      . rw[decide_eq_false h8]
        exact L36f _ _ hA3 (by rw[hE,if_neg (by omega)])
 simp only[af,dB,CO,Qu]
 refine Wq.ite (λh=>L6 _ _ _ hA (by simp;omega)) (λh=> ?_)
 refine Wq.ite (λh2=>L6 _ _ _ hA (by simp;omega)) (λh2=> ?_)
 exact L6 _ _ _ hA (by rw[decide_eq_true_eq];omega)
end
section
variable {nx0:Nat}{H0:T OB}
def Is:Nat->List UInt8->List UInt8->List UInt8×Bool
 | 0,r,out=>(out,decide (r=[34]))
 | f+1,r,out=>if r.length<=1 then(out,decide (r=[34]))else if(hU r).2=0 then([],false)else Is f (r.drop (hU r).2) (out++[(hU r).1])
def kF (s:List UInt8):List UInt8×Bool:=if s.length<2\/first s 34=false then([],false)else Is s.length (s.drop 1) []
abbrev It (p:List UInt8×Bool):Value:= .tuple ⟨[aE p.1,.bool p.2]⟩
theorem Er (s:List UInt8)(h2:2<=s.length)(hl:s.length<=1000000):∀(d i:Nat) (r:List UInt8) (sl:Value) (H:T OB) (nx:Nat),s.length-i<=d->1<=i->i<=s.length->r.length<=i->BS 5 nx0 H nx r sl->Ag nx0 H0 nx H->
 Wq P pl X0 (.jump (o0 (aE s) sl (i64 (i:Int)) H nx)) nx0 H0 (It (Is d (s.drop i) r)):=by
 have hw:IntKind.i64.wrap ((s.length:Int)-1)=((s.length-1:Nat):Int):=by rw[ct (by omega)];omega
 have stop:∀(d i:Nat) (r:List UInt8),¬i<s.length-1->Is d (s.drop i) r=(r,decide (s.drop i=[34])):=by
  intro d i r h
  cases d with
  | zero=>rfl
  | succ d=>exact if_pos (by rw[List.length_drop];omega)
 intro d
 induction d with
 | zero=>
   intro i r sl H nx hd hi hi2 hr hB hA
   rw[stop 0 i r (by omega)]
   refine Wq.jmp (Co ..) (λ_=>rfl) ?_
   have e1:decide ((i:Int)<((s.length-1:Nat):Int))=false:=by simp;omega
   have e2:decide ((i:Int)=((s.length-1:Nat):Int))=false:=by simp;omega
   simp only[af,bt _ bU,bD,hw,e1,nD cO oo bU CP hB,e2]
   have e3:s.drop i=[]:=List.drop_eq_nil_of_le (by omega)
   rw[e3]
   exact Wq.ret hA
 | succ d ih=>
   intro i r sl H nx hd hi hi2 hr hB hA
   refine Wq.jmp (Co ..) (λ_=>rfl) ?_
   by_cases hlt:i<s.length-1
   . have e0:Is (d+1) (s.drop i) r=if(hU (s.drop i)).2=0 then([],false)else Is d ((s.drop i).drop (hU (s.drop i)).2) (r++[(hU (s.drop i)).1]):=if_neg (by rw[List.length_drop];omega)
     have e1:decide ((i:Int)<((s.length-1:Nat):Int))=true:=by simp;omega
     have hn:=Lh (s.drop i)
     rw[List.length_drop]at hn
     rw[e0]
     simp only[af,bt _ bU,bD,hw,e1,vR hi2]
     refine Wq.fM (Qa (s.drop i) (by simp;omega) (by rw[List.length_drop];exact Nat.lt_of_le_of_lt (Nat.sub_le _ _) (Nat.lt_of_le_of_lt hl (by decide)))) hA λH1 aC hA1 n1 k1=> ?_
     generalize hU (s.drop i)=p at hn ⊢
     obtain⟨c,n⟩:=p
     have x0:aA (some (Ir (c,n))) 0=some (b8 c):=rfl
     have x1:aA (some (Ir (c,n))) 1=some (i64 (n:Int)):=rfl
     simp only[af,x0,x1]
     refine Wq.ite (λh=> ?_) (λh=> ?_)
     . have h0:n=0:=by omega
       rw[if_pos h0]
       exact Wq.ret hA1
     have h0:n≠0:=by omega
     have hn:n<=s.length-i:=hn
     rw[if_neg h0]
     have hB':=BS.dz hB n1 k1
     refine Wq.nC (x:=[c]) cO gY eQ hB' rfl rfl (UB c) (λm hm=>iQ (by simp at hm;omega)) hA1 λH2 sl2 nx2 hB2 hA2 _=> ?_
     have ew:IntKind.i64.wrap ((i:Int)+(n:Int))=((i+n:Nat):Int):=by rw[ct (by omega)];omega
     simp only[af,ew]
     rw[List.drop_drop]
     exact ih (i+n) (r++[c]) sl2 H2 nx2 (by omega) (by omega) (by omega) (by simp;omega) hB2 hA2
   . rw[stop (d+1) i r hlt]
     have e1:decide ((i:Int)<((s.length-1:Nat):Int))=false:=by simp;omega
     simp only[af,bt _ bU,bD,hw,e1,nD cO oo bU CP hB]
     refine Wq.ite (λh=> ?_) (λh=> ?_)
     . have hi3:i<s.length:=by omega
       have e3:s.drop i=[s[i]]:=by
        rw[List.drop_eq_getElem_cons hi3,List.drop_eq_nil_of_le (by omega)]
       simp only[af,bG bU (List.getElem?_eq_getElem hi3)]
       rw[e3]
       have e4:decide ((s[i].toNat:Int)=34)=decide ([s[i]]=[34]):=by
        rw[decide_eq_decide,List.cons.injEq]
        simp only[and_true]
        rw[<- UInt8.toNat_inj]
        show _↔s[i].toNat=34
        omega
       rw[e4]
       exact Wq.ret hA
     . have e3:s.drop i=[]:=List.drop_eq_nil_of_le (by omega)
       rw[e3]
       exact Wq.ret hA
theorem Qb (s:List UInt8)(hl:s.length<=1000000):P0 111 [aE s] (It (kF s)):=Pure.of rfl λH nx=>by
 rw[Tw]
 have hA:=Ag.refl nx H
 have L6t:∀H1 aC,Ag nx H aC H1->(s.length<2\/first s 34=false)->Wq P pl X0 (.jump (ve (aE s) true H1 aC)) nx H (It (kF s)):=by
  intro H1 aC hA1 hc
  refine Wq.jmp (Gn ..) (λ_=>rfl) ?_
  unfold kF
  rw[if_pos hc]
  exact Wq.ret hA1
 simp only[af,bt _ bU,bD]
 refine Wq.ite (λh=>L6t _ _ hA (.inl (by omega))) (λh=> ?_)
 obtain⟨a,r,rfl⟩:∃a r,s=a::r:=by cases s with
  | nil=>simp at h
  | cons a r=>exact⟨a,r,rfl⟩
 simp only[af,Qu]
 by_cases h34:a.toNat=34
 . have e:decide ((a.toNat:Int)=34)=true:=by simp;omega
   simp only[af,e,Bool.not_true]
   refine Wq.jmp (Gn ..) (λ_=>rfl) ?_
   have e2:kF (a::r)=Is (a::r).length ((a::r).drop 1) []:=by
    unfold kF
    rw[if_neg]
    simp only[first,h34,decide_true,not_or]
    exact⟨by omega,by simp⟩
   rw[e2]
   have:=Er (nx0:=nx) (H0:=H) (a::r) (by omega) hl (a::r).length 1 [] (.slice none 0 0) H nx (Nat.sub_le _ _) (by omega) (by omega) (by simp) (.nil _ _ _ _) hA
   exact this
 . have e:decide ((a.toNat:Int)=34)=false:=by simp;omega
   simp only[af,e,Bool.not_false]
   exact L6t _ _ hA (.inr (by simp[first,h34]))
def jB (s:List UInt8):Int×Bool:=match ld 0 s with
 | some n=>((n:Int),!decide (s=[]))
 | none=>(0,false)
theorem Qc (s:List UInt8):Lf s (ld 0 s)= .tuple ⟨[i64 (jB s).1,.bool (jB s).2]⟩:=by
 unfold jB
 cases ld 0 s<;>rfl
def DC (s:List UInt8):Tok×Bool:=
 if(kF s).2=true then(⟨2,(kF s).1,0,0⟩,true)else if isWord s=true then(⟨ft s,s,0,0⟩,true)else if isVar s=true then(⟨5,s,0,0⟩,true)else if cH.contains s=true then(⟨7,s,0,0⟩,true)else(⟨0,[],0,0⟩,false)
def dQ (s:List UInt8):Tok×Bool:=if(jB s).2=true then(⟨1,[],(jB s).1,0⟩,true)else DC s
abbrev Li (p:Tok×Bool):Value:= .tuple ⟨[p.1.v,.bool p.2]⟩
theorem SN (s:List UInt8)(hl:s.length<=1000000):P0 63 [aE s] (Li (dQ s)):=Pure.of rfl λH nx=>by
 have hb:s.length<dO:=Nat.lt_of_le_of_lt hl (by decide)
 have hA:=Ag.refl nx H
 rw[VW]
 refine Wq.alloc e8 hA λH1 hb1 _ hA1=> ?_
 have E:∀(t:Tok) (b:Bool) H2 nx2,cG H2 nx [i64 0,aE [],i64 0,i64 0] 31->Ag nx H nx2 H2->
  Wq P pl X0 (ak (ai P H2 nx2 31 (some (.pointer (some ⟨nx,0,none⟩))) (some t.v)) λ_ H nx'=>aa (ae P H 31 (some (.pointer (some ⟨nx,0,none⟩)))) (λx=> .ret ⟨.ret (.tuple ⟨[x,.bool b]⟩),false,H,nx'⟩) .bad) nx H (Li (t,b)):=by
  intro t b H2 nx2 hb2 hA2
  refine Wq.store hb2 fT (by simp) rfl rfl hA2 (Nat.le_refl _) λH3 hb3 _ hA3=> ?_
  have hb3':cG H3 nx t.c 31:=hb3
  rw[bV hb3' q7 fT (by simp)]
  exact Wq.ret hA3
 refine Wq.fM (P_ s hb) hA1 λH2 nx2 hA2 n2 k2=> ?_
 replace hb1:=k2 _ _ _ (Nat.lt_succ_self nx) hb1
 rw[Qc]
 have x0:aA (some (Value.tuple ⟨[i64 (jB s).1,.bool (jB s).2]⟩)) 0=some (i64 (jB s).1):=rfl
 have x1:aA (some (Value.tuple ⟨[i64 (jB s).1,.bool (jB s).2]⟩)) 1=some (.bool (jB s).2):=rfl
 simp only[af,x0,x1]
 unfold dQ
 cases hn:(jB s).2 with
 | true=>
   rw[if_pos rfl]
   simp only[af,JQ]
   exact E _ true _ _ hb1 hA2
 | false=>
 rw[if_neg (by simp)]
 unfold DC
 simp only[af]
 refine Wq.fM (Qb s hl) hA2 λH3 nx3 hA3 n3 k3=> ?_
 replace hb1:=k3 _ _ _ (by omega) hb1
 have x0:aA (some (It (kF s))) 0=some (aE (kF s).1):=rfl
 have x1:aA (some (It (kF s))) 1=some (.bool (kF s).2):=rfl
 simp only[af,x0,x1]
 cases hq:(kF s).2 with
 | true=>
   rw[if_pos rfl]
   simp only[af,mH]
   exact E _ true _ _ hb1 hA3
 | false=>
 rw[if_neg (by simp)]
 simp only[af]
 refine Wq.fM (OE s hb) hA3 λH4 nx4 hA4 n4 k4=> ?_
 replace hb1:=k4 _ _ _ (by omega) hb1
 simp only[af]
 cases hw:isWord s with
 | true=>
   rw[if_pos rfl]
   simp only[af]
   obtain⟨a,r,rfl⟩:∃a r,s=a::r:=by cases s with
    | nil=>cases hw
    | cons a r=>exact⟨a,r,rfl⟩
   refine Wq.fM (OG a r) hA4 λH5 nx5 hA5 n5 k5=> ?_
   replace hb1:=k5 _ _ _ (by omega) hb1
   simp only[af,mH]
   exact E _ true _ _ hb1 hA5
 | false=>
 rw[if_neg (by simp)]
 simp only[af]
 refine Wq.fM (OF s hb) hA4 λH5 nx5 hA5 n5 k5=> ?_
 replace hb1:=k5 _ _ _ (by omega) hb1
 simp only[af]
 cases hv:isVar s with
 | true=>
   rw[if_pos rfl]
   simp only[af,mH]
   exact E _ true _ _ hb1 hA5
 | false=>
 rw[if_neg (by simp)]
 simp only[af]
 refine Wq.fM OA hA5 λH6 nx6 hA6 n6 k6=> ?_
 replace hb1:=k6 _ _ _ (by omega) hb1
 refine Wq.fM (Hf cH (by decide) s) hA6 λH7 nx7 hA7 n7 k7=> ?_
 replace hb1:=k7 _ _ _ (by omega) hb1
 simp only[af]
 cases cH.contains s with
 | true=>
   rw[if_pos rfl]
   simp only[af,mH]
   exact E _ true _ _ hb1 hA7
 | false=>
   rw[if_neg (by simp)]
   simp only[af]
   exact E ⟨0,[],0,0⟩ false _ _ hb1 hA7
def DD (t:Tok):Bool:=
 if t.k=0 then decide (t.s=[])&&decide (t.n=0)
 else if t.k=1/\(t.n<0\/4611686018427387903<t.n)then false
 else(dQ (cR t)).2&&(decide ((dQ (cR t)).1.k=t.k)&&(decide ((dQ (cR t)).1.s=t.s)&&decide ((dQ (cR t)).1.n=t.n)))
theorem SO (t:Tok)(h0:t.k≠0)(hn:rg t.n)(hl:t.s.length<=200000):P0 64 [t.v] (aE (cR t)):=Pure.of rfl λH nx=>by
 rw[VX]
 refine Wq.fq (.refl _ _) λhA=> ?_
 unfold cR
 simp only[af,show decide (t.k=0)=false by simpa]
 by_cases h1:t.k=1
 . rw[if_pos h1]
   simp only[af,show decide (t.k=1)=true by simpa]
   refine Wq.call (Pt t.n hn) hA λH1 aC hA1=> ?_
   exact Wq.ret hA1
 rw[if_neg h1]
 simp only[af,show decide (t.k=1)=false by simpa]
 by_cases h2:t.k=2
 . rw[if_pos h2]
   simp only[af,show decide (t.k=2)=true by simpa]
   refine Wq.call (Px t.s (by have:=tK t.s;omega) (by omega)) hA λH1 aC hA1=> ?_
   exact Wq.ret hA1
 rw[if_neg h2]
 simp only[af,show decide (t.k=2)=false by simpa]
 exact Wq.ret hA
theorem yJ (t:Tok)(hn:rg t.n)(hl:t.s.length<=200000):(cR t).length<=1000000:=by
 unfold cR
 split
 . have:=z_ t.n hn;omega
 . split
   . have:=tK t.s
     simp[quote]
     omega
   . omega
theorem SP (t:Tok)(hn:rg t.n)(hl:t.s.length<=200000):P0 36 [t.v] (.bool (DD t)):=Pure.of rfl λH nx=>by
 rw[VF]
 refine Wq.fq (.refl _ _) λhA=> ?_
 unfold DD
 by_cases h0:t.k=0
 . rw[if_pos h0]
   simp only[af,show decide (t.k=0)=true by simpa,dB]
   cases decide (t.s=[])with
   | true=>simp only[af];exact Wq.ret hA
   | false=>simp only[af];exact Wq.ret hA
 rw[if_neg h0]
 simp only[af,show decide (t.k=0)=false by simpa]
 have L:¬(t.k=1/\(t.n<0\/4611686018427387903<t.n))->∀H1 aC,Ag nx H aC H1->Wq P pl X0 (.jump (nw (aj t.v) false H1 aC)) nx H (.bool ((dQ (cR t)).2&&(decide ((dQ (cR t)).1.k=t.k)&&(decide ((dQ (cR t)).1.s=t.s)&&decide ((dQ (cR t)).1.n=t.n))))):=by
  intro _ H1 aC hA1
  refine Wq.jmp (F5 ..) (λ_=>rfl) ?_
  simp only[af]
  refine Wq.call (SO t h0 hn hl) hA1 λH2 nx2 hA2=> ?_
  refine Wq.call (SN _ (yJ t hn hl)) hA2 λH3 nx3 hA3=> ?_
  generalize dQ (cR t)=p
  obtain⟨u,b⟩:=p
  have x0:aA (some (Li (u,b))) 0=some u.v:=rfl
  have x1:aA (some (Li (u,b))) 1=some (.bool b):=rfl
  simp only[af,x0,x1]
  refine Wq.var e8 fT rfl rfl rfl hA3 λH4 nx4 hA4=> ?_
  cases b with
  | false=>exact Wq.ret hA4
  | true=>
    simp only[af,dB]
    rw[Bool.true_and]
    refine Wq.bK (λh1=> ?_) (λh1=> ?_)
    . rw[h1,Bool.true_and]
      refine Wq.bK (λh2=> ?_) (λh2=> ?_)
      . rw[h2,Bool.true_and];exact Wq.ret hA4
      . rw[h2,Bool.false_and];exact Wq.ret hA4
    . rw[h1,Bool.false_and];exact Wq.ret hA4
 have T:t.k=1/\(t.n<0\/4611686018427387903<t.n)->Wq P pl X0 (.jump (nw (aj t.v) true H (nx+1))) nx H (.bool false):=by
  intro _
  refine Wq.jmp (F5 ..) (λ_=>rfl) ?_
  exact Wq.ret hA
 refine Wq.ite (λh1=> ?_) (λh1=> ?_)
 . refine Wq.ite (λh2=> ?_) (λh2=> ?_)
   . rw[if_pos ⟨h1,.inl h2⟩];exact T ⟨h1,.inl h2⟩
   . by_cases h3:4611686018427387903<t.n
     . rw[decide_eq_true h3,if_pos ⟨h1,.inr h3⟩];exact T ⟨h1,.inr h3⟩
     . have:¬(t.k=1/\(t.n<0\/4611686018427387903<t.n)):=by omega
       rw[decide_eq_false h3,if_neg this];exact L this _ _ hA
 . have:¬(t.k=1/\(t.n<0\/4611686018427387903<t.n)):=λq=>h1 q.1
   rw[if_neg this]
   exact L this _ _ hA
end
theorem Iu {u:Nat}(h:u<10):((48+u).toUInt8).toNat=48+u:=by
 show(UInt8.ofNat (48+u)).toNat=_
 rw[UInt8.toNat_ofNat']
 omega
theorem kG {u:Nat}(h:u<10):fU (48+u).toUInt8=true/\dv (48+u).toUInt8=u:=by
 rw[la]
 unfold dv
 rw[Iu h]
 omega
theorem Iv:∀(n u:Nat) (s:List UInt8),u<=n->u<=4611686018427387903->ld 0 (rW u s)=ld u s:=by
 intro n
 induction n with
 | zero=>
   intro u s h1 h2
   have:u=0:=by omega
   subst this
   rw[rW,if_pos (by omega)]
   rw[ld,if_pos ⟨(kG (by omega)).1,by rw[(kG (u:=0) (by omega)).2];omega⟩,(kG (u:=0) (by omega)).2]
 | succ n ih=>
   intro u s h1 h2
   rw[rW]
   by_cases h:u<10
   . rw[if_pos h,ld,if_pos ⟨(kG h).1,Nat.zero_le _⟩,(kG h).2]
     congr 1
     omega
   . rw[if_neg h,ih (u/10) _ (by omega) (by omega)]
     have hm:u%10<10:=Nat.mod_lt _ (by omega)
     rw[ld,if_pos ⟨(kG hm).1,by rw[(kG hm).2];omega⟩,(kG hm).2]
     congr 1
     omega
theorem Qd (u:Nat)(s:List UInt8):rW u s≠[]:=by
 induction u using Nat.strongRecOn generalizing s with
 | _ u ih=>
   rw[rW]
   by_cases h:u<10
   . rw[if_pos h];simp
   . rw[if_neg h];exact ih (u/10) (by omega) _
theorem Es (n:Int)(h0:0<=n)(h1:n<=4611686018427387903):dQ (C_ n)=(⟨1,[],n,0⟩,true):=by
 have e:C_ n=rW n.natAbs []:=if_neg (by omega)
 have e2:ld 0 (C_ n)=some n.natAbs:=by rw[e,Iv n.natAbs n.natAbs [] (Nat.le_refl _) (by omega)];rfl
 have e3:jB (C_ n)=(n,true):=by
  unfold jB
  rw[e2]
  have:decide (C_ n=[])=false:=by rw[e];simpa using Qd _ _
  rw[this]
  show((n.natAbs:Int),true)=_
  congr 1
  omega
 unfold dQ
 rw[e3,if_pos rfl]
theorem DE:∀n,n<16->eX (hx n)=n:=by decide
theorem Qe (c:UInt8)(r:List UInt8):hU (qc c++r)=(c,(qc c).length):=by
 have hc:=c.toNat_lt
 unfold qc
 by_cases h1:c.toNat=34\/c.toNat=92
 . rw[if_pos h1]
   show hU (92::c::r)=(c,2)
   rw[gO,if_neg (by decide),if_pos (by decide),gk]
   rcases h1 with h | h
   . rw[if_pos h,show c=34 from UInt8.toNat_inj.1 h]
   . rw[if_neg (by omega),if_pos h,show c=92 from UInt8.toNat_inj.1 h]
 rw[if_neg h1]
 by_cases h2:c.toNat=10
 . rw[if_pos h2,show c=10 from UInt8.toNat_inj.1 h2];rfl
 rw[if_neg h2]
 by_cases h3:c.toNat=9
 . rw[if_pos h3,show c=9 from UInt8.toNat_inj.1 h3];rfl
 rw[if_neg h3]
 by_cases h4:c.toNat<32\/126<c.toNat
 . rw[if_pos h4]
   show hU (92::120::hx (c.toNat/16)::hx (c.toNat%16)::r)=(c,4)
   rw[gO,if_neg (by decide),if_pos (by decide),gk,if_neg (by decide),if_neg (by decide),if_neg (by decide),if_neg (by decide),if_pos (by decide)]
   show(if 0<=eX (hx (c.toNat/16))/\0<=eX (hx (c.toNat%16))then(UInt8.ofNat (16*eX (hx (c.toNat/16))+eX (hx (c.toNat%16))).toNat,4)else(0,0):UInt8×Nat)=_
   rw[DE _ (by omega),DE _ (by omega),if_pos ⟨by omega,by omega⟩]
   congr 1
   rw[<- UInt8.toNat_inj,UInt8.toNat_ofNat']
   omega
 rw[if_neg h4]
 show hU (c::r)=(c,1)
 rw[gO,if_neg (by omega),if_neg (by omega)]
theorem Qf (c:UInt8):1<=(qc c).length:=by
 unfold qc
 split<;>(try split)<;>(try split)<;>(try split)<;>simp
theorem DF:∀(l:List UInt8) (f:Nat) (out:List UInt8),(qs l).length<=f->Is f (qs l++[34]) out=(out++l,true)
 | [],f,out,h=>by
   rw[List.append_nil]
   cases f with
   | zero=>rfl
   | succ f=>exact if_pos (by simp[qs])
 | c::l,f,out,h=>by
   have e:qs (c::l)=qc c++qs l:=rfl
   rw[e,List.length_append]at h
   have hp:=Qf c
   cases f with
   | zero=>omega
   | succ f=>
     rw[e,List.append_assoc]
     have hs:=Qe c (qs l++[34])
     show(if(qc c++(qs l++[34])).length<=1 then _ else if(hU (qc c++(qs l++[34]))).2=0 then _ else Is f ((qc c++(qs l++[34])).drop (hU (qc c++(qs l++[34]))).2) (out++[(hU (qc c++(qs l++[34]))).1]):List UInt8×Bool)=_
     rw[if_neg (by simp;omega),hs,if_neg (by show ¬(qc c).length=0;omega)]
     show Is f ((qc c++(qs l++[34])).drop (qc c).length) (out++[c])=_
     rw[List.drop_left,DF l f _ (by omega),List.append_assoc]
     rfl
theorem Iw (l:List UInt8):kF (quote l)=(l,true):=by
 unfold kF quote
 rw[if_neg (by simp[first])]
 show Is _ (qs l++[34]) []=_
 rw[DF l _ [] (by simp;omega)]
 rfl
theorem Qg (l:List UInt8):jB (quote l)=(0,false):=by
 unfold jB quote
 rw[ld,if_neg (λq=>by have:=q.1;revert this;decide)]
theorem Et (l:List UInt8):dQ (quote l)=(⟨2,l,0,0⟩,true):=by
 unfold dQ DC
 rw[Qg,if_neg (by simp),Iw,if_pos rfl]
theorem r8 {s:List UInt8}(h:(jB s).2=true):g8 s=true:=by
 cases s with
 | nil=>revert h;decide
 | cons c r=>
   unfold jB at h
   rw[ld]at h
   by_cases hc:fU c=true
   . exact hc
   . rw[if_neg (λq=>hc q.1)]at h;cases h
theorem nM {s:List UInt8}(h:(kF s).2=true):first s 34=true:=by
 unfold kF at h
 cases hf:first s 34 with
 | true=>rfl
 | false=>rw[if_pos (.inr hf)]at h;cases h
theorem Ix:∀x∈cH,g8 x=false/\first x 34=false/\isWord x=false/\isVar x=false:=by decide
theorem pR {s:List UInt8}(h:cH.contains s=true):g8 s=false/\first s 34=false/\isWord s=false/\isVar s=false:=Ix s (by simpa using h)
theorem pS {k n a:Int}{s:List UInt8}(h0:k≠0)(h1:k≠1)(h2:k≠2):eZ ⟨k,s,n,a⟩=if k=7 then decide (n=0)&&cH.contains s else if k=5 then isVar s&&decide (n=0)else if k=3\/k=4\/k=6 then isWord s&&(decide (n=0)&&decide (ft s=k))else false:=by
 unfold eZ
 rw[if_neg h0,if_neg h1,if_neg h2]
theorem r9 {k n a:Int}{s:List UInt8}(h0:k≠0)(h1:k≠1)(h2:k≠2)(hs:cH.contains s=false)(hv:isVar s=false)(hw:isWord s=false):eZ ⟨k,s,n,a⟩=false:=by
 rw[pS h0 h1 h2,hs,hv,hw]
 split
 . simp
 . split
   . rfl
   . split<;>rfl
theorem Iy (t:Tok):DD t=eZ t:=by
 obtain⟨k,s,n,a⟩:=t
 unfold DD
 by_cases h0:k=0
 . subst h0;rfl
 show(if k=0 then _ else if k=1/\(n<0\/4611686018427387903<n)then false else(dQ (cR ⟨k,s,n,a⟩)).2&&(decide ((dQ (cR ⟨k,s,n,a⟩)).1.k=k)&&(decide ((dQ (cR ⟨k,s,n,a⟩)).1.s=s)&&decide ((dQ (cR ⟨k,s,n,a⟩)).1.n=n))))=_
 rw[if_neg h0]
 by_cases h1:k=1
 . subst h1
   have e:eZ ⟨1,s,n,a⟩=(decide (s=[])&&(decide (0<=n)&&decide (n<=4611686018427387903))):=rfl
   by_cases hr:n<0\/4611686018427387903<n
   . rw[if_pos ⟨rfl,hr⟩,e]
     rcases hr with h | h
     . rw[show decide (0<=n)=false by simp;omega];simp
     . rw[show decide (n<=4611686018427387903)=false by simp;omega];simp
   . rw[if_neg (λq=>hr q.2)]
     have et:cR ⟨1,s,n,a⟩=C_ n:=rfl
     rw[et,Es n (by omega) (by omega),e,show decide (0<=n)=true by simp;omega,show decide (n<=4611686018427387903)=true by simp;omega]
     show(true&&(decide ((1:Int)=1)&&(decide ([]=s)&&decide (n=n))))=_
     simp[eq_comm]
 rw[if_neg (λq=>h1 q.1)]
 by_cases h2:k=2
 . subst h2
   have et:cR ⟨2,s,n,a⟩=quote s:=rfl
   rw[et,Et]
   show(true&&(decide ((2:Int)=2)&&(decide (s=s)&&decide (0=n))))=decide (n=0)
   simp[eq_comm]
 have et:cR ⟨k,s,n,a⟩=s:=by
  show(if k=1 then _ else if k=2 then _ else s)=s
  rw[if_neg h1,if_neg h2]
 rw[et]
 unfold dQ
 by_cases hn:(jB s).2=true
 . rw[if_pos hn,r9 h0 h1 h2 (by cases h:cH.contains s with
    | false=>rfl
    | true=>have:=(pR h).1;rw[r8 hn]at this;cases this) (by cases h:isVar s with
    | false=>rfl
    | true=>have:=(kn h).1;rw[r8 hn]at this;cases this) (by cases h:isWord s with
    | false=>rfl
    | true=>have:=(jq h).1;rw[r8 hn]at this;cases this)]
   show(true&&(decide (1=k)&&_))=false
   rw[show decide (1=k)=false by simp;omega]
   rfl
 rw[if_neg hn]
 unfold DC
 by_cases hq:(kF s).2=true
 . rw[if_pos hq,r9 h0 h1 h2 (by cases h:cH.contains s with
    | false=>rfl
    | true=>have:=(pR h).2.1;rw[nM hq]at this;cases this) (by cases h:isVar s with
    | false=>rfl
    | true=>have:=(kn h).2.1;rw[nM hq]at this;cases this) (by cases h:isWord s with
    | false=>rfl
    | true=>have:=(jq h).2.1;rw[nM hq]at this;cases this)]
   show(true&&(decide (2=k)&&_))=false
   rw[show decide (2=k)=false by simp;omega]
   rfl
 rw[if_neg hq]
 have hk:=Hm s
 by_cases hw:isWord s=true
 . rw[if_pos hw,pS h0 h1 h2]
   have hs:cH.contains s=false:=by cases h:cH.contains s with
    | false=>rfl
    | true=>have:=(pR h).2.2.1;rw[hw]at this;cases this
   have hv:isVar s=false:=by cases h:isVar s with
    | false=>rfl
    | true=>have:=(kn h).2.2;rw[(jq hw).2.2]at this;cases this
   show(true&&(decide (ft s=k)&&(decide (s=s)&&decide (0=n))))=_
   rw[hs,hv,hw]
   by_cases h7:k=7
   . rw[if_pos h7,show decide (ft s=k)=false by simp;omega];simp
   rw[if_neg h7]
   by_cases h5:k=5
   . rw[if_pos h5,show decide (ft s=k)=false by simp;omega];simp
   rw[if_neg h5]
   by_cases h3:k=3\/k=4\/k=6
   . rw[if_pos h3]
     simp[eq_comm,Bool.and_comm]
   . rw[if_neg h3,show decide (ft s=k)=false by simp;omega];simp
 rw[if_neg hw]
 have hw':isWord s=false:=by simpa using hw
 by_cases hv:isVar s=true
 . rw[if_pos hv,pS h0 h1 h2]
   have hs:cH.contains s=false:=by cases h:cH.contains s with
    | false=>rfl
    | true=>have:=(pR h).2.2.2;rw[hv]at this;cases this
   show(true&&(decide (5=k)&&(decide (s=s)&&decide (0=n))))=_
   rw[hs,hv,hw']
   by_cases h7:k=7
   . rw[if_pos h7,show decide (5=k)=false by simp;omega];simp
   rw[if_neg h7]
   by_cases h5:k=5
   . rw[if_pos h5];subst h5;simp[eq_comm]
   rw[if_neg h5,show decide (5=k)=false by simp;omega]
   split<;>simp
 rw[if_neg hv]
 have hv':isVar s=false:=by simpa using hv
 by_cases hs:cH.contains s=true
 . rw[if_pos hs,pS h0 h1 h2]
   show(true&&(decide (7=k)&&(decide (s=s)&&decide (0=n))))=_
   rw[hs,hv',hw']
   by_cases h7:k=7
   . rw[if_pos h7];subst h7;simp[eq_comm]
   rw[if_neg h7,show decide (7=k)=false by simp;omega]
   split
   . simp
   . split<;>simp
 rw[if_neg hs,r9 h0 h1 h2 (by simpa using hs) hv' hw']
 rfl
end
end Go.Proofs.YthjhonhhbddhkaaGreatDoor
namespace Go.Proofs.YthjhonhhbddhkaaGreatDoor
open Go.Ev Go.RowKit Go.ChangeShapes Go.WideShapes Go.ChangeAt
noncomputable section
set_option maxRecDepth 100000
set_option linter.unusedVariables false
set_option linter.unusedSimpArgs false
set_option maxHeartbeats 8000000
section
variable {W:World}
theorem Al {r:Option Rt}(h:isTrue r=true):∃H nx,r=some ⟨.ret (.bool true),false,H,nx⟩:=by
 unfold isTrue at h
 split at h
 . exact⟨_,_,rfl⟩
 . cases h
theorem Iz (w:World):xC P w (λ_ _=>none):=λf args v h=>by cases h
theorem iW:P.globals.size=4:=by kernel_rfl
structure oC (w:World):Prop where
 size:P.globals.size<=w.heap.size
 vT:∀x,x∈gK->x.1<P.globals.size/\∃c el fz,w.heap[x.1]? = some (.cells c el fz)/\x.2.length<=c.size/\∀(i:Nat) (v v':Value),x.2[i]? = some v->c[i]? = some v'->VR (fS w) v v'
theorem Lj {w w':World}(hb:Below w.heap.size w w'):(fS w).le (fS w'):=λk e h=>by
 obtain⟨h1,rfl⟩:=ki h
 have:kh w' k=kh w k:=by
  unfold kh
  rw[hb.block k h1]
 rw[vH (Nat.lt_of_lt_of_le h1 hb.size),this]
theorem oC.below {w:World}(h:oC W)(hb:Below W.heap.size W w):oC w where
 size:=Nat.le_trans h.size hb.size
 vT:=λx hx=>by
  obtain⟨h0,c,el,fz,h1,h2,h3⟩:=h.vT x hx
  exact⟨h0,c,el,fz,by rw[hb.block _ (Nat.lt_of_lt_of_le h0 h.size)];exact h1,h2,λi v v' a b=>(h3 i v v' a b).mono (Lj hb)⟩
theorem SQ {w:World}(ht:oC w):HR P w (fS w) (hp (lu gK .leaf)) w:=by
 have inv:∀k ob,hp (lu gK .leaf) k=some ob->∃x∈gK,x.1=k/\ob= .ro x.2.length (ej x.2 0 .leaf):=λk ob h=>by
  rcases rE gK .leaf k ob h with h | h
  . exact h
  . rw[jo]at h;cases h
 have hW:=Uo (P:=P) ht.size
 exact {
  below:= .refl _ _
  nR:=λk ob h=>by
   obtain⟨x,hx,rfl,_⟩:=inv k ob h
   rw[oh];exact Nat.lt_of_lt_of_le (ht.vT x hx).1 ht.size
  m7:=hW.m7
  inj:=λk k' ob ob' e e' _ _ h _ hl=>by
   obtain⟨x,hx,rfl,rfl⟩:=inv k ob h
   cases hl
  obj:=λk ob e h he=>by
   obtain⟨x,hx,rfl,rfl⟩:=inv k ob h
   obtain⟨h0,c,el,fz,h1,h2,h3⟩:=ht.vT x hx
   obtain⟨h4,rfl⟩:=ki he
   refine .inl ⟨h4,c,el,fz,h1,h2,λi hi v hv=> ?_⟩
   rw[dr,if_pos (by omega),Nat.sub_zero]at hv
   have hlt:i<c.size:=by omega
   exact⟨c[i],Array.getElem?_eq_getElem hlt,h3 i v _ hv (Array.getElem?_eq_getElem hlt)⟩
  gl:=hW.gl
  jU:=hW.jU
  qn:=λk k' e e' c ob _ _ _ h hl=>by
   obtain⟨x,hx,rfl,rfl⟩:=inv k' ob h
   cases hl }
theorem Eu {n:Nat}(hn:4<=n):dj n (lu gK .leaf):=by
 refine⟨hn,λx hx=> ?_⟩
 have key:∀(l:List Value) (i:Nat),i<l.length->(ej l 0 (.leaf:T Value)).get (Ev.bits i)=l[i]? := λl i hi=>by
  rw[dr,if_pos (by omega),Nat.sub_zero]
 have e:∀(b:Nat),(lu gK .leaf).get (Ev.bits b)=if b=3 then some (.ro (eg.map aE).length (ej (eg.map aE) 0 .leaf))else if b=2 then some (.ro (br.map lvl).length (ej (br.map lvl) 0 .leaf))else if b=1 then some (.ro (fN.map aE).length (ej (fN.map aE) 0 .leaf))else if b=0 then some (.ro (cH.map aE).length (ej (cH.map aE) 0 .leaf))else none:=λb=>by
  show(Ev.set (Ev.set (Ev.set (Ev.set (.leaf:T OB) (Ev.bits 0) _) (Ev.bits 1) _) (Ev.bits 2) _) (Ev.bits 3) _).get (Ev.bits b)=_
  rw[Ev.get_at,Ev.get_at,Ev.get_at,Ev.get_at]
  have:(T.leaf:T OB).get (Ev.bits b)=none:=jo b
  rw[this]
 simp only[gK,List.mem_cons,List.not_mem_nil,or_false]at hx
 rcases hx with rfl | rfl | rfl | rfl
 . exact⟨_,by rw[e];rfl,key _⟩
 . exact⟨_,by rw[e];rfl,key _⟩
 . exact⟨_,by rw[e];rfl,key _⟩
 . exact⟨_,by rw[e];rfl,key _⟩
theorem Lk {w:World}{l:List (List UInt8)}{v':Value}(hl:l≠[])(h:VR (fS w) (lvl l) v'):∃k,k<w.heap.size/\∀(φ:cA) (j:Nat),φ[j]? = some (some ⟨k,0,0,kh w k⟩)->VR φ (lvl l) v':=by
 obtain⟨a0,r0,rfl⟩:∃a r,l=a::r:=by
  cases l with
  | nil=>exact absurd rfl hl
  | cons a r=>exact⟨a,r,rfl⟩
 have hl':(a0::r0).map aE≠[]:=by simp
 have key:∀x,x=lvl (a0::r0)->VR (fS w) x v'->∃k,k<w.heap.size/\∀(φ:cA) (j:Nat),φ[j]? = some (some ⟨k,0,0,kh w k⟩)->VR φ (lvl (a0::r0)) v':=by
  intro x hx h
  cases h with
  | flat v h=>subst hx;cases h
  | qk s=>injection hx with _ h1 _;injection h1 with h1;exact absurd h1.symm hl'
  | ql s a c=>injection hx with _ h1 _;injection h1 with h1;exact absurd h1.symm hl'
  | row h1 hf hs hn hc hx'=>
    injection hx with h2 h3 _
    injection h2 with h2
    injection h3 with h3
    subst h2 h3
    obtain⟨hk,rfl⟩:=ki h1
    refine⟨_,hk,λφ j hj=>VR.row (o:=_) hj hf hs hn hc λi j x v v' a b c=> ?_⟩
    have h4:=hx' i j x v v' a b c
    obtain⟨s,_,rfl⟩:=List.mem_map.1 (List.mem_of_getElem? a)
    have hfl:Ev.flat v=true:=by
     have:v∈[aE s]:=List.mem_of_getElem? b
     rw[List.mem_singleton.1 this];rfl
    rw[h4.aG hfl]
    exact .flat _ hfl
  | ep h1 hf hn hx'=>
    injection hx with _ _ h3
    injection h3 with h3
    injection h3 with h3
    cases h3
  | _=>cases hx
 exact key _ rfl h
def sG (w:World)(f:Nat->Nat):cA:=(List.range 11).map λk=>if k<4 then some ⟨k,0,0,none⟩else some ⟨f k,0,0,kh w (f k)⟩
theorem oD (w:World)(f:Nat->Nat):(sG w f).length=11:=by simp[sG]
theorem r_ {w:World}{f:Nat->Nat}{k:Nat}{e:gF}(h:(sG w f)[k]? = some (some e)):k<11/\((k<4/\e=⟨k,0,0,none⟩)\/(4<=k/\e=⟨f k,0,0,kh w (f k)⟩)):=by
 unfold sG at h
 rw[List.getElem?_map]at h
 by_cases hk:k<11
 . rw[List.getElem?_range hk]at h
   simp only[Option.map_some,Option.some.injEq]at h
   refine⟨hk,?_⟩
   by_cases h4:k<4
   . rw[if_pos h4]at h;exact .inl ⟨h4,(Option.some.inj h).symm⟩
   . rw[if_neg h4]at h;exact .inr ⟨by omega,(Option.some.inj h).symm⟩
 . rw[List.getElem?_eq_none (by simp;omega)]at h
   cases h
theorem Ll {w:World}{f:Nat->Nat}{k:Nat}(h:k<4):(sG w f)[k]? = some (some ⟨k,0,0,none⟩):=by
 unfold sG
 rw[List.getElem?_map,List.getElem?_range (by omega)]
 simp[h]
theorem Lm {w:World}{f:Nat->Nat}{k:Nat}(h:4<=k)(h':k<11):(sG w f)[k]? = some (some ⟨f k,0,0,kh w (f k)⟩):=by
 unfold sG
 rw[List.getElem?_map,List.getElem?_range h']
 simp only[Option.map_some]
 rw[if_neg (by omega)]
theorem SR {w:World}{k:Nat}{c:Array Value}(h:kh w k=some c):∃el fz,w.heap[k]? = some (.cells c el fz):=by
 unfold kh at h
 split at h
 . rename_i c' el fz hc;cases h;exact⟨el,fz,hc⟩
 . cases h
theorem U2 {w:World}(ht:oC w):∃f,HR P w (sG w f) (hp (lu gK .leaf)) w:=by
 obtain⟨_,c2,el2,fz2,hc2,hs2,hv2⟩:=ht.vT (2,br.map lvl) (by simp[gK])
 have hlen:(br.map lvl).length=7:=rfl
 have hex:∀i:Fin 7,∃k,k<w.heap.size/\∀(φ:cA) (j:Nat),φ[j]? = some (some ⟨k,0,0,kh w k⟩)->∀v v',(br.map lvl)[i.val]? = some v->c2[i.val]? = some v'->VR φ v v':=by
  intro i
  have hi:i.val<br.length:=i.isLt
  have h1:(br.map lvl)[i.val]? = some (lvl br[i.val]):=by rw[List.getElem?_map,List.getElem?_eq_getElem hi];rfl
  have hlt:i.val<c2.size:=by have:=i.isLt;simp only[hlen]at hs2;omega
  have h2:c2[i.val]? = some c2[i.val]:=Array.getElem?_eq_getElem hlt
  have hne:br[i.val]≠[]:=by
   have:∀x∈br,x≠[]:=by decide
   exact this _ (List.getElem_mem _)
  obtain⟨k,hk,hφ⟩:=Lk hne (hv2 i.val _ _ h1 h2)
  refine⟨k,hk,λφ j hj v v' a b=> ?_⟩
  rw[h1]at a
  rw[h2]at b
  cases a;cases b
  exact hφ φ j hj
 obtain⟨A,hA⟩:=Classical.axiomOfChoice hex
 refine⟨λk=>A ⟨(k-4)%7,Nat.mod_lt _ (by omega)⟩,?_⟩
 have inv:∀k ob,hp (lu gK .leaf) k=some ob->∃x∈gK,x.1=k/\ob= .ro x.2.length (ej x.2 0 .leaf):=λk ob h=>by
  rcases rE gK .leaf k ob h with h | h
  . exact h
  . rw[jo]at h;cases h
 have hg:=ht.size
 rw[iW]at hg
 have h4:∀x,x∈gK->x.1<4:=λx hx=>by have:=(ht.vT x hx).1;rw[iW]at this;exact this
 exact {
  below:= .refl _ _
  nR:=λk ob h=>by
   obtain⟨x,hx,rfl,_⟩:=inv k ob h
   rw[oD];exact Nat.lt_trans (h4 x hx) (by omega)
  m7:=λk e h=>by
   obtain⟨h1,⟨h2,rfl⟩ | ⟨h2,rfl⟩⟩:=r_ h
   . exact Nat.lt_of_lt_of_le h2 hg
   . exact(hA _).1
  inj:=λk k' ob ob' e e' _ _ h _ hl=>by
   obtain⟨x,hx,rfl,rfl⟩:=inv k ob h
   cases hl
  obj:=λk ob e h he=>by
   obtain⟨x,hx,rfl,rfl⟩:=inv k ob h
   obtain⟨h0,c,el,fz,h1,h2,h3⟩:=ht.vT x hx
   obtain⟨_,⟨h5,rfl⟩ | ⟨h5,rfl⟩⟩:=r_ he
   . refine .inl ⟨Nat.lt_of_lt_of_le h5 hg,c,el,fz,h1,h2,λi hi v hv=> ?_⟩
     rw[dr,if_pos (by omega),Nat.sub_zero]at hv
     have hlt:i<c.size:=by omega
     have hci:c[i]? = some c[i]:=Array.getElem?_eq_getElem hlt
     refine⟨c[i],hci,?_⟩
     have h6:=h3 i v _ hv hci
     have flatK:∀l:List (List UInt8),x.2=l.map aE->VR (sG w λk=>A ⟨(k-4)%7,Nat.mod_lt _ (by omega)⟩) v c[i]:=λl hl=>by
      have hfl:Ev.flat v=true:=by
       rw[hl]at hv
       obtain⟨s,_,rfl⟩:=List.mem_map.1 (List.mem_of_getElem? hv)
       rfl
      rw[h6.aG hfl]
      exact .flat _ hfl
     simp only[gK,List.mem_cons,List.not_mem_nil,or_false]at hx
     rcases hx with rfl | rfl | rfl | rfl
     . exact flatK _ rfl
     . exact flatK _ rfl
     . have hcc:c=c2:=by
        have:=h1.symm.trans hc2
        injection this with this
        injection this
       subst hcc
       have hi7:i<7:=hi
       refine(hA ⟨i,hi7⟩).2 _ (4+i) ?_ v _ hv hci
       rw[Lm (by omega) (by omega)]
       have:(4+i-4)%7=i:=by omega
       simp only[this]
     . exact flatK _ rfl
   . exact absurd (h4 x hx) (by omega)
  gl:=λk hk=>⟨_,Ll (by rw[iW]at hk;exact hk),rfl⟩
  jU:=λk e c h hf=>by
   obtain⟨_,⟨h5,rfl⟩ | ⟨h5,rfl⟩⟩:=r_ h
   . cases hf
   . exact SR hf
  qn:=λk k' e e' c ob _ _ _ h hl=>by
   obtain⟨x,hx,rfl,rfl⟩:=inv k' ob h
   cases hl }
theorem U3 (hT:oC W):xC P W X0:=by
 intro f args v h
 have hf:f=11/\args=[]/\v= .bool true:=by
  have h':(bif Nat.beq f 11 then(match args with | []=>some (Value.bool true) | _=>none)else none)=some v:=h
  cases hb:Nat.beq f 11 with
  | true=>
    rw[hb]at h'
    cases args with
    | nil=>exact⟨Nat.eq_of_beq_eq_true hb,rfl,(Option.some.inj h').symm⟩
    | cons a l=>cases h'
  | false=>
    rw[hb]at h'
    cases h'
 obtain⟨rfl,rfl,rfl⟩:=hf
 refine⟨λx hx=>(nomatch hx),rfl,λw hb=> ?_⟩
 have hw:=hT.below hb
 have hk:=En
 rw[CE]at hk
 obtain⟨H',nx',hr⟩:=Al hk
 obtain⟨f,hf⟩:=U2 hw
 refine(qS (pl:=Vl) (Iz w) hf (oD _ _) .nil rfl (Th hr)).mono λe w' ⟨he,hb'⟩=>⟨he,hb'⟩
theorem yK {fuel:Nat}{cs:List Value}{l:List (List UInt8)}{p:List MemPlace}(h:DataW.trod (λ_=>()) P W 0 (λ_=>true) false fuel 49 cs=some (.slice (l.map λs=> .lit (.string s)) [],p)):∃v,cs=[v]/\VR (fS W) (lvl l) v:=by
 obtain⟨a,cap,rfl,hcap,hel⟩:=open_row Tryz.underlying49 c9 h
 refine⟨_,rfl,?_⟩
 rw[List.length_map]at hcap ⊢
 refine Gv (by simp) (λx hx=> ?_) (by omega) hcap (λi x hx=> ?_)
 . obtain⟨s,_,rfl⟩:=List.mem_map.1 hx
   rfl
 . rw[List.getElem?_map]at hx
   cases hs:l[i]? with
   | none=>rw[hs]at hx;cases hx
   | some s=>
     rw[hs]at hx
     cases hx
     obtain⟨v,n,q,h1,h2⟩:=hel i (.lit (.string s)) (by rw[List.getElem?_map,hs];rfl)
     obtain⟨z,hz,hq,_⟩:=DataW.trod_string Tryz.underlying9 h2
     cases hz
     have e:s=z.data.toList:=by
      have:=congrArg Prod.fst hq
      simpa using this
     subst e
     refine⟨[.string z],?_,?_⟩
     . unfold World.cells?
       rw[if_pos (Nat.zero_le _)]
       have e0:(a.add (i*1)).add 0=a.add i:=by simp[Addr.add]
       simp only[List.range_succ,List.range_zero,List.nil_append,List.mapM_cons,List.mapM_nil,e0,h1]
       rfl
     . exact .cons (Ve z) .nil
abbrev SU (l:List (List UInt8)):List ByteArray:=l.map λs=>⟨⟨s⟩⟩
theorem Ln (l:List (List UInt8)):(SU l).map Value.string=l.map aE:=by rw[List.map_map];rfl
theorem wJ {c:Array Value}{l:List (List UInt8)}(h:c.toList=(SU l).map Value.string):(l.map aE).length<=c.size/\∀(i:Nat) (v v':Value),(l.map aE)[i]? = some v->c[i]? = some v'->VR (fS W) v v':=by
 rw[Ln]at h
 refine⟨by rw[<- h,Array.length_toList];exact Nat.le_refl _,λi v v' a b=> ?_⟩
 have:c.toList[i]? = some v':=by rw[<- b];simp
 rw[h,a]at this
 cases this
 obtain⟨s,_,rfl⟩:=List.mem_map.1 (List.mem_of_getElem? a)
 exact .flat _ rfl
theorem Ew {rest:List (String×DataW Unit)}(h:laidMet P (("kindling/syntax.levels",Rows.laid_kindling_syntax_levels)::rest) W):∃c el fz,W.heap[2]? = some (.cells c el fz)/\(br.map lvl).length<=c.size/\∀(i:Nat) (v v':Value),(br.map lvl)[i]? = some v->c[i]? = some v'->VR (fS W) v v':=by
 obtain⟨ps,⟨g',t',cs,fuel,p,q,hg',ht',hvar,hd,_,_⟩,_⟩:=h
 obtain rfl:g'=2:=(Option.some.inj ((show P.globalNamed "kindling/syntax.levels" = some 2 by kernel_rfl).symm.trans hg')).symm
 obtain rfl:t'=182:=(Option.some.inj ((show(P.globals[2]?).map (·.type)=some 182 by kernel_rfl).symm.trans ht')).symm
 unfold World.var? at hvar
 rw[show P.globalNamed "kindling/syntax.levels" = some 2 by kernel_rfl]at hvar
 simp only[Option.bind_some]at hvar
 split at hvar
 . rename_i c el fz hb
   cases hvar
   obtain⟨xs,n,rfl,hx,hl,hlen,hf⟩:=DataW.trod_array Tryz.underlying182 hd
   have hcs:P.cellsOf 182=7:=by kernel_rfl
   have hc49:P.cellsOf 49=1:=by kernel_rfl
   rw[hcs]at hl
   rw[Array.length_toList]at hl
   refine⟨_,_,_,hb,by show 7<=_;omega,λi v v' a b=> ?_⟩
   have hi:i<7:=by
    have:=(List.getElem?_eq_some_iff.1 a).1
    exact this
   have h1:=hf i hi
   have hc49':Program.cellsOf Tryz.prog 49=1:=hc49
   rw[hc49',Nat.mul_one,List.getElem?_eq_getElem (by omega)]at h1
   have hxs:xs.map (·.1)=br.map λl=>(DataW.slice (l.map λs=> .lit (.string s)) []:DataW Unit):=by
    have h2:Rows.laid_kindling_syntax_levels=DataW.agg (xs.map (·.1)):=congrArg Prod.fst hx
    exact(DataW.agg.inj h2).symm
   obtain⟨l,hl1,hl2⟩:∃l,br[i]? = some l/\v=lvl l:=by
    rw[List.getElem?_map]at a
    cases hq:br[i]? with
    | none=>rw[hq]at a;cases a
    | some l=>rw[hq]at a;cases a;exact⟨l,rfl,rfl⟩
   have h3:(xs[i]'(by omega)).1=DataW.slice (l.map λs=> .lit (.string s)) []:=by
    have h4:(xs.map (·.1))[i]? = some ((xs[i]'(by omega)).1):=by rw[List.getElem?_map,List.getElem?_eq_getElem (by omega)];rfl
    rw[hxs,List.getElem?_map,hl1]at h4
    exact(Option.some.inj h4).symm
   have h5:(cs.toList.drop i).take 1=[v']:=by
    have h6:cs.toList[i]? = some v':=by rw[<- b];simp
    have h7:i<cs.toList.length:=(List.getElem?_eq_some_iff.1 h6).1
    rw[List.drop_eq_getElem_cons h7]
    rw[List.getElem?_eq_getElem h7]at h6
    rw[Option.some.inj h6]
    rfl
   rw[h5]at h1
   have h8:DataW.trod (λ_=>()) P W 0 (λ_=>true) false n 49 [v']=some (.slice (l.map λs=> .lit (.string s)) [],(xs[i]'(by omega)).2):=by
    rw[<- h3];exact h1
   obtain⟨v2,e2,h9⟩:=yK h8
   cases e2
   rw[hl2]
   exact h9
 . cases hvar
theorem Lo (hL:laidMet P [("kindling/lex.keys",Rows.laid_kindling_lex_keys),("kindling/lex.signs",Rows.laid_kindling_lex_signs),("kindling/syntax.levels",Rows.laid_kindling_syntax_levels),("kindling/syntax.words",Rows.laid_kindling_syntax_words)] W)(hsh:W.ShapedOpen P):oC W:=by
 refine⟨Ev.zC hsh (of_decide_eq_true (by kernel_rfl)),λx hx=> ?_⟩
 rw[iW]
 simp only[gK,List.mem_cons,List.not_mem_nil,or_false]at hx
 have hk:laidMet P (("kindling/lex.keys",Ev.kX (SU fN))::[("kindling/lex.signs",Ev.kX (SU cH)),("kindling/syntax.levels",Rows.laid_kindling_syntax_levels),("kindling/syntax.words",Ev.kX (SU eg))]) W:=hL
 rcases hx with rfl | rfl | rfl | rfl
 . obtain⟨c,el,fz,h1,h2⟩:=Ev.kj (g:=0) (by kernel_rfl) (by kernel_rfl) Tryz.underlying99 Tryz.underlying9 (by kernel_rfl) (by kernel_rfl) hk.tail
   exact⟨by show 0<4;omega,c,el,fz,h1,wJ h2⟩
 . obtain⟨c,el,fz,h1,h2⟩:=Ev.kj (g:=1) (by kernel_rfl) (by kernel_rfl) Tryz.underlying144 Tryz.underlying9 (by kernel_rfl) (by kernel_rfl) hk
   exact⟨by show 1<4;omega,c,el,fz,h1,wJ h2⟩
 . obtain⟨c,el,fz,h1,h2⟩:=Ew hk.tail.tail
   exact⟨by show 2<4;omega,c,el,fz,h1,h2⟩
 . obtain⟨c,el,fz,h1,h2⟩:=Ev.kj (g:=3) (by kernel_rfl) (by kernel_rfl) Tryz.underlying188 Tryz.underlying9 (by kernel_rfl) (by kernel_rfl) hk.tail.tail.tail
   exact⟨by show 3<4;omega,c,el,fz,h1,wJ h2⟩
theorem Qh (hT:oC W){f:FuncId}{args args':List Value}(hp:PT f args (.bool true))(hv:LR (fS W) args args'):
 Calls P f args'.toArray W λe w'=>e= .returned (.bool true)/\Below W.heap.size W w':=by
 have hs:=hT.size
 rw[iW]at hs
 obtain⟨H',nx',_,h⟩:=hp (lu gK .leaf) W.heap.size (Eu hs)
 exact qS (U3 hT) (SQ hT) (oh W) hv rfl h
end
end
end Go.Proofs.YthjhonhhbddhkaaGreatDoor
namespace Go.Proofs.YthjhonhhbddhkaaGreatDoor
open Go.Ev Go.RowKit
noncomputable section
set_option maxRecDepth 100000
set_option linter.unusedVariables false
set_option linter.unusedSimpArgs false
set_option maxHeartbeats 8000000
section
variable {nx0 nx nx' bp k:Nat}{H0 H H':T OB}{F:List Bx}{R:Go.Ev.Out->T OB->Nat->Prop}{b:Nat}{l:List Value}{e t:TypeId}{L:List Tok}{x:Bx}
theorem Am {b off s:Nat}{l:List Value}{t:TypeId}(h:lS H b l)(ha:dh P t=some true)(hs:bh P t=some s)(hn:off+s<=l.length):
 ae P H t (some (.pointer (some ⟨b,off,none⟩)))=some (.agg ⟨(l.drop off).take s⟩):=by
 obtain⟨tr,h1,h2⟩:=h
 show jC P H t b off=_
 unfold jC
 rw[h1]
 show jV P l.length tr t off=_
 unfold jV
 rw[ha,aJ]
 show pV P l.length tr t off=_
 unfold pV
 rw[hs,aJ,iz h2 s off hn,Nat.ble_eq_true_of_le hn]
 rfl
theorem SV (t:Tok):al P H .neq 31 false (some t.v) (some t.v)=some (.bool false):=by
 obtain⟨k,s,n,a⟩:=t
 show al P H .neq 31 false (some (.agg ⟨[i64 k,aE s,i64 n,i64 a]⟩)) (some (.agg ⟨[i64 k,aE s,i64 n,i64 a]⟩))=_
 rw[Ea (ks:=[0,1,0,0]) (by kernel_rfl)]
 simp[lh,p5,Qy]
def Lp (nx0:Nat)(H0:T OB)(L:List Tok)(sv:Value):Prop:=aM P #[29] 3 (some [sv])=some (i64 (L.length:Int))/\∀i t,L[i]? = some t->∃p,au P 29 (some sv) (some (i64 ((i:Nat):Int)))=some p/\∀H nx,Ag nx0 H0 nx H->ae P H 31 (some p)=some t.v
theorem Qi {c:Nat}(h:lS H0 b (bR (L.map Tok.v)))(hb:b<nx0):Lp nx0 H0 L (.slice (some ⟨b,0,none⟩) L.length c):=by
 refine⟨dN (by kernel_rfl),λi t hg=>⟨_,gW (s:=4) (by kernel_rfl) (List.getElem?_eq_some_iff.1 hg).1 .i64,λH nx hA=> ?_⟩⟩
 have hg':(L.map Tok.v)[i]? = some t.v:=by simp[hg]
 have hlt:=(List.getElem?_eq_some_iff.1 hg).1
 have hle:0+i*4+4<=(bR (L.map Tok.v)).length:=by rw[gi m6,List.length_map];omega
 have:=Am (off:=0+i*4) (h.ag hA hb) q7 fT hle
 rw[this,Nat.zero_add,gb m6 hg']
 rfl
theorem SW:Lp nx0 H0 L (dm L):=by
 refine⟨by rw[dM 4 _ (by kernel_rfl),List.length_map],λi t hg=>⟨_,tq (u:=t.v) (by simp[hg]) .i64,λH nx hA=> ?_⟩⟩
 simp only[af]
theorem Lq:Lp nx0 H0 [] az:=⟨by kernel_rfl,λi t hg=>by simp at hg⟩
theorem SX {sv:Value}(hL:L.length<=100000)(hT:dj nx0 H0)(h1:Lp nx0 H0 L sv)(h2:Lp nx0 H0 L (dm L)):∀(d i nx:Nat) (H:Go.Ev.T OB),i+d=L.length->Ag nx0 H0 nx H->Wq P pl X0 (.jump (uH sv (dm L) true (i64 ((i:Nat):Int)) H nx)) nx0 H0 (.bool true)
 | 0,i,nx,H,hd,hA=>by
   have hge:i=L.length:=by omega
   subst hge
   refine Wq.jmp (FV ..) (λ_=>rfl) ?_
   simp only[af,h1.1,aL]
   exact Wq.ret hA
 | d+1,i,nx,H,hd,hA=>by
   have hlt:i<L.length:=by omega
   have hg:L[i]? = some L[i]:=List.getElem?_eq_getElem hlt
   obtain⟨p1,e1,g1⟩:=h1.2 i L[i] hg
   obtain⟨p2,e2,g2⟩:=h2.2 i L[i] hg
   refine Wq.jmp (FV ..) (λ_=>rfl) ?_
   simp only[af,h1.1,aQ hlt,e1,e2,g1 _ _ hA,g2 _ _ hA]
   have h0:Hp nx0 H0 [] H nx:=⟨hT,hA,by simp,λx hx=>by simp at hx⟩
   refine Wq.alloc e8 hA λH2 hb dz hA2=> ?_
   have h3:Hp nx0 H0 [(nx,[i64 0,aE [],i64 0,i64 0],31)] H2 (nx+1):=h0.new hb dz hA2
   refine Hq.alloc e8 h3 λx2 H3 nx3 h4=> ?_
   refine Hq.set [] h4 fT rfl rfl rfl λH4 h5=> ?_
   simp only[af,g2 _ _ h5.ag,bj]
   refine Hq.set [_] h5 fT rfl rfl rfl λH5 h6=> ?_
   refine Wq.jmp (NA ..) (λ_=>rfl) ?_
   simp only[af,zN (h6.at_ 0 rfl),zN (h6.at_ 1 rfl)]
   have e:al P H5 .neq 31 false (some (.agg ⟨[i64 L[i].k,aE L[i].s,i64 L[i].n,i64 L[i].at_]⟩)) (some (.agg ⟨[i64 L[i].k,aE L[i].s,i64 L[i].n,i64 L[i].at_]⟩))=some (.bool false):=SV L[i]
   simp only[af,e,aI (i:=i) (by omega)]
   exact SX hL hT h1 h2 d (i+1) _ _ (by omega) h6.ag
theorem Qj {sv:Value}(hL:L.length<=100000)(hT:dj nx0 H0)(hA:Ag nx0 H0 nx H)(h1:Lp nx H L sv):Wq P pl X0 (aN P pl (.call 17 [sv,dm L,.bool true] false none H nx)) nx0 H0 (.bool true):=by
 refine aK.mono (aK.base hA (R:=λo H nx=>∃v,o= .ret v/\v= .bool true) ?_) λq H2 nx2 hA2 h2=>h2.1
 rw[Vv]
 simp only[af,h1.1,List.length_map]
 exact SX hL (hT.ag hA) h1 SW L.length 0 nx H (by omega) (.refl _ _)
def Lr:List Tok->Nat
 | []=>0
 | t::r=>1+t.s.length+Lr r
theorem DG:∀l:List Tok,l.length<=Lr l
 | []=>Nat.le_refl _
 | t::r=>by have:=DG r;show r.length+1<=1+t.s.length+Lr r;omega
theorem DH:∀{l:List Tok} {t:Tok},t∈l->t.s.length<=Lr l
 | u::r,t,h=>by
   show _<=1+u.s.length+Lr r
   rcases List.mem_cons.1 h with rfl | h
   . omega
   . have:=DH h;omega
def IA (L:List Tok):Prop:=∀(nx0 nx:Nat) (H0 H:T OB),dj nx0 H0->Ag nx0 H0 nx H->Lr L<=2000->Wq P pl X0 (ak (a9 P H nx [29,29] (some [az,dm L])) (λx16 H nx=>
 ah (.call 15 [x16] false none H nx) (λx17 H nx=>
 aa (aA (some x17) 0) (λx18=>
 aa (aA (some x17) 1) (λx19=>
 aa (aA (some x17) 2) (λx20=>
 ah (.call 16 [dm L] false none H nx) (λx21 H nx=>
 aa (aA (some x21) 0) (λx22=>
 aa (aA (some x21) 1) (λx23=>
 aa (aA (some x21) 2) (λx24=>
 ah (.call 14 [x18,x22] false none H nx) (λx25 H nx=>
 aB x25 (λb26=>bK b26 (aa (al P H .eql 3 false (some x19) (some x23)) (λx27=>
 aB x27 (λb28=>bK b28 (aa (al P H .eql 25 false (some x20) (some x24)) (λx29=>
 aB x29 (λb30=>bK b30 (ah (.call 17 [x16,dm L,(.bool true)] false none H nx) (λx31 H nx=>
 aB x31 (λb32=>bK b32 (ah (.call 11 [] false none H nx) (λx33 H nx=>
 aB x33 (λb34=> .ret ⟨.ret (.bool b34),false,H,nx⟩) .bad) ar) (.ret ⟨.ret (.bool false),false,H,nx⟩)) .bad) ar) (.ret ⟨.ret (.bool false),false,H,nx⟩)) .bad) .bad) (.ret ⟨.ret (.bool false),false,H,nx⟩)) .bad) .bad) (.ret ⟨.ret (.bool false),false,H,nx⟩)) .bad) ar) .bad) .bad) .bad) ar) .bad) .bad) .bad) ar)) nx0 H0 (.bool true)
theorem Wm (hl:L.length<dO)(hs:∀t,t∈L->t.s.length<dO)(hM:IA L)(hT:dj nx0 H0):∀(r:List Tok) (i n:Nat) (nx:Nat) (H:Go.Ev.T OB),L.drop i=r->i<=L.length->n<2*dO->(n+Lr r<=2000->Lr L<=2000)->Ag nx0 H0 nx H->
 Wq P pl X0 (.jump (I7 (dm L) (i64 (n:Int)) (i64 ((i:Nat):Int)) H nx)) nx0 H0 (.bool true):=by
 have hk:P0 11 [] (.bool true):=Pure.ext rfl
 have hbig:dO=1125899906842624:=rfl
 intro r
 induction r with
 | nil=>
   intro i n nx H hd hi hn hw hA
   have hil:=drop_nil hd hi
   refine Wq.jmp (Q4 ..) (λ_=>rfl) ?_
   simp only[af,List.length_map,hil,aL]
   refine Wq.ite (λh=> ?_) (λh=> ?_)
   . refine Wq.call hk hA λH2 nx2 hA2=> ?_
     simp only[af]
     exact Wq.ret hA2
   . exact hM nx0 nx H0 H hT hA (hw (by show n+0<=_;omega))
 | cons t r ih=>
   intro i n nx H hd hi hn hw hA
   obtain⟨hg,hlt,hd'⟩:=drop_cons hd
   have hx:(L.map Tok.v)[i]? = some t.v:=by simp[hg]
   have htl:=hs t (List.mem_of_getElem? hg)
   refine Wq.jmp (Q4 ..) (λ_=>rfl) ?_
   simp only[af,List.length_map,aQ hlt]
   refine Wq.ite (λh=> ?_) (λh=> ?_)
   . have e1:IntKind.i64.wrap ((n:Int)+1)=((n+1:Nat):Int):=by rw[ct (by omega)];omega
     have e2:IntKind.i64.wrap (((n+1:Nat):Int)+(t.s.length:Int))=((n+1+t.s.length:Nat):Int):=by rw[ct (by omega)];omega
     simp only[af,tq hx,bt _ bU,bD,e1,e2,aI (show i<9223372036854775807 by have:=cV hl;omega)]
     refine ih (i+1) _ nx H hd' (by omega) (by omega) (λq=>hw ?_) hA
     show n+(1+t.s.length+Lr r)<=2000
     omega
   . refine Wq.ite (λh=> ?_) (λh'=> ?_)
     . refine Wq.call hk hA λH2 nx2 hA2=> ?_
       simp only[af]
       exact Wq.ret hA2
     . omega
theorem U4 (hl:L.length<dO)(hs:∀t,t∈L->t.s.length<dO)(hM:IA L):PT 4 [dm L] (.bool true):=PT.of rfl λH nx hT=>by
 rw[q4]
 exact Wm hl hs hM hT L 0 0 nx H rfl (Nat.zero_le _) (by omega) (λq=>by omega) (.refl _ _)
end
section
variable {nx0 nx nx' bp k:Nat}{H0 H H':T OB}{L:List Tok}
theorem DI (l:List aT)(v:Value)(hv:DV l v)(hl:l.length<dO)(hok:∀d,d∈l->d.ok):P0 14 [v,bP l] (.bool true):=by
 have h:=Mn l l hl hok (λd hd v hv q=>(CM.2 d (hok d hd)).1 q v hv) (λd hd f hf q=>(CM.2 d (hok d hd)).2 f hf q _ f.b.vv)
 have e:dA l l=true:=by simp[dA]
 rw[e]at h
 rcases hv with rfl | ⟨rfl,rfl⟩
 . exact h
 . intro H nx
   obtain⟨H1,aC,h1,h2⟩:=h H nx
   refine⟨H1,aC,h1,?_⟩
   rw[<- h2,oI,oI]
   have e1:aN P pl (.call 14 [az,bP []] false none H nx)=aN P pl (.call 14 [bP [],bP []] false none H nx):=by
    rw[Tl,Tl,zK]
    rfl
   rw[e1]
   rfl
theorem An (hT:oB L)(hl:L.length<=2000):∃(o:iY (List aT)) (o2:List aT×bx),(ps L 90000).bM [] 0=some o/\(rp L 90016).bM [] (0,none)=some o2/\Ep o2=Ik o/\(o2.2.2=none->o2.1.length<dO/\∀d,d∈o2.1->d.ok)/\((nK L o).1.length<dO/\∀d,d∈(nK L o).1->d.ok):=by
 obtain⟨o,ho,_⟩:=(RT (L:=L) 90000).bM [] 0 (by omega)
 have hr:=(R2 (L:=L) 90000).bM [] 0
 rw[ho]at hr
 have hok:=λds k (e:o= .ok ds k)=>(P4 hT 90000 (by omega)).bM [] 0 0 aD.nil (by omega) ds k (by rw[ho,e])
 have hnil:([]:List aT).length<dO/\∀d,d∈([]:List aT)->d.ok:=⟨by decide,λd h=>by simp at h⟩
 cases o with
 | ok ds k=>
   have hr:(rp L 90016).bM [] (0,none)=some (ds,(k,none)):=hr
   have h1:=hok ds k rfl
   refine⟨_,_,ho,hr,rfl,λ_=>⟨h1.dO (by omega),h1.2⟩,?_⟩
   unfold nK
   split
   . show(if 100<fw ds 0 then([],0,81)else(ds,0,0):List aT×Int×Int).1.length<dO/\∀d,d∈(if 100<fw ds 0 then([],0,81)else(ds,0,0):List aT×Int×Int).1->d.ok
     split
     . exact hnil
     . exact⟨h1.dO (by omega),h1.2⟩
   . exact hnil
 | bad a=>
   obtain⟨ds,k,hr⟩:∃a' k,(rp L 90016).bM [] (0,none)=some (a',(k,some a)):=hr
   refine⟨_,_,ho,hr,rfl,(λq=>by cases q),?_⟩
   unfold nK
   split
   . exact hnil
   . exact hnil
theorem MY {sv v:Value}{r:List aT×Int×Int}{u:Value}(hL:L.length<=100000)(hT0:dj nx0 H0)(hu:u= .tuple ⟨[v,i64 r.2.1,i64 r.2.2]⟩)(hv:DV r.1 v)(hr:r.1.length<dO/\∀d,d∈r.1->d.ok)
 (h16:∀(nx0 nx:Nat) (H0 H:Go.Ev.T OB),dj nx0 H0->Ag nx0 H0 nx H->aK P pl X0 (aN P pl (.call 16 [dm L] false none H nx)) nx0 H0 (nL r)) (hA:Ag nx0 H0 nx H) (hsv:Lp nx H L sv):
 Wq P pl X0 (aa (aA (some u) 0) (λx18=>
 aa (aA (some u) 1) (λx19=>
 aa (aA (some u) 2) (λx20=>
 ah (.call 16 [dm L] false none H nx) (λx21 H nx=>
 aa (aA (some x21) 0) (λx22=>
 aa (aA (some x21) 1) (λx23=>
 aa (aA (some x21) 2) (λx24=>
 ah (.call 14 [x18,x22] false none H nx) (λx25 H nx=>
 aB x25 (λb26=>bK b26 (aa (al P H .eql 3 false (some x19) (some x23)) (λx27=>
 aB x27 (λb28=>bK b28 (aa (al P H .eql 25 false (some x20) (some x24)) (λx29=>
 aB x29 (λb30=>bK b30 (ah (.call 17 [sv,dm L,(.bool true)] false none H nx) (λx31 H nx=>
 aB x31 (λb32=>bK b32 (ah (.call 11 [] false none H nx) (λx33 H nx=>
 aB x33 (λb34=> .ret ⟨.ret (.bool b34),false,H,nx⟩) .bad) ar) (.ret ⟨.ret (.bool false),false,H,nx⟩)) .bad) ar) (.ret ⟨.ret (.bool false),false,H,nx⟩)) .bad) .bad) (.ret ⟨.ret (.bool false),false,H,nx⟩)) .bad) .bad) (.ret ⟨.ret (.bool false),false,H,nx⟩)) .bad) ar) .bad) .bad) .bad) ar) .bad) .bad) .bad) nx0 H0 (.bool true):=by
 have hk:P0 11 [] (.bool true):=Pure.ext rfl
 obtain⟨ds,a,e⟩:=r
 subst hu
 have x0:∀w:Value,aA (some (Value.tuple ⟨[w,i64 a,i64 e]⟩)) 0=some w:=λ_=>rfl
 have x1:∀w:Value,aA (some (Value.tuple ⟨[w,i64 a,i64 e]⟩)) 1=some (i64 a):=λ_=>rfl
 have x2:∀w:Value,aA (some (Value.tuple ⟨[w,i64 a,i64 e]⟩)) 2=some (i64 e):=λ_=>rfl
 simp only[af,x0,x1,x2]
 refine Wq.gB rfl (aK.base hA (h16 nx nx H H (hT0.ag hA) (.refl _ _))) (λw H1 aC hA1 hw=> ?_) (λw H1 aC hA1 hw=>by cases hw.1)
 obtain⟨hw,hag⟩:=hw
 cases hw
 simp only[af,x0,x1,x2]
 have hsv1:Lp aC H1 L sv:=⟨hsv.1,λi t hg=>by
  obtain⟨p,h1,h2⟩:=hsv.2 i t hg
  exact⟨p,h1,λH nx hA=>h2 H nx (hag.trans hA)⟩⟩
 obtain⟨H2,nx2,h1,h2⟩:=DI ds v hv hr.1 hr.2 H1 aC
 have hc:Pure P pl X0 14 [v,bP ds] (.bool true):=DI ds v hv hr.1 hr.2
 refine Wq.gB (R1:=λo H nx=>o= .ret (.bool true)/\Ag aC H1 nx H) rfl ?_ (λw H2 nx2 hA2 hw=> ?_) (λw H2 nx2 hA2 hw=>by cases hw.1)
 . refine⟨_,H2,nx2,hA1.trans h1,⟨rfl,h1⟩,?_⟩
   rw[oI]at h2
   exact h2
 . obtain⟨hw,hag2⟩:=hw
   cases hw
   have hsv2:Lp nx2 H2 L sv:=⟨hsv1.1,λi t hg=>by
    obtain⟨p,h1,h2⟩:=hsv1.2 i t hg
    exact⟨p,h1,λH nx hA=>h2 H nx (hag2.trans hA)⟩⟩
   simp only[af]
   refine Wq.gB rfl (Qj hL hT0 hA2 hsv2) (λw H3 nx3 hA3 hw=> ?_) (λw H3 nx3 hA3 hw=>by obtain⟨_,q,_⟩:=hw;cases q)
   obtain⟨_,q,rfl⟩:=hw
   cases q
   simp only[af]
   refine Wq.call hk hA3 λH4 nx4 hA4=> ?_
   simp only[af]
   exact Wq.ret hA4
theorem SY (hT:oB L):IA L:=by
 intro nx0 nx H0 H hT0 hA hw
 have hl:L.length<=2000:=Nat.le_trans (DG L) hw
 obtain⟨o,o2,ho,ho2,he,hok2,hok⟩:=An hT hl
 have h16:∀(nx0 nx:Nat) (H0 H:Go.Ev.T OB),dj nx0 H0->Ag nx0 H0 nx H->aK P pl X0 (aN P pl (.call 16 [dm L] false none H nx)) nx0 H0 (nL (nK L o)):=by
  intro nx0 nx H0 H hT0 hA
  rw[Vu]
  have:=Vo (nx0:=nx0) (H0:=H0) (L:=L) (by omega) (λt ht=>by
   rw[<- Iy]
   exact SP t (hT t ht).1 (by have:=DH ht;omega)) (n:=90016) (by omega) ho2 hok2 hT0 L.length 0 nx H (by omega) rfl hA
  rw[he]at this
  exact this
 refine Wq.Nr Fz fT rfl (Fj 4 _) (RF (by rw[List.length_map];omega)) hA (λh0=> ?_) λH1 hm hb dz hA1=> ?_
 . have hn:L=[]:=by
    rw[List.length_map]at h0
    exact List.length_eq_zero_iff.1 h0
   subst hn
   refine Wq.gB rfl (Le hT0 (by omega) ho hA) (λu H2 nx2 hA2 hR=> ?_) (λu H2 nx2 hA2 hR=>by obtain⟨v,q,_⟩:=hR;cases q)
   obtain⟨v,q,hv⟩:=hR
   cases q
   exact MY (by simp) hT0 rfl hv hok h16 hA2 Lq
 . rw[List.length_map]
   refine Wq.gB rfl (P5 (c:=eN) hT0 (by omega) hT (by omega) ho hA1 hb hA.1 (Nat.lt_succ_self nx) (.inl rfl)) (λu H2 nx2 hA2 hR=> ?_) (λu H2 nx2 hA2 hR=>by obtain⟨⟨v,q,_⟩,_⟩:=hR;cases q)
   obtain⟨⟨v,q,hv⟩,hro,hbn⟩:=hR
   cases q
   exact MY (by omega) hT0 rfl hv hok h16 hA2 (Qi hro hbn)
theorem SZ (hl:L.length<dO)(hT:∀t,t∈L->rg t.n/\fE t.s):PT 4 [dm L] (.bool true):=U4 hl (λt ht=>by
 have h:t.s.length<140737488355328:=(hT t ht).2
 have hbig:dO=1125899906842624:=rfl
 omega) (SY hT)
end
end
end Go.Proofs.YthjhonhhbddhkaaGreatDoor
namespace Go.Proofs.YthjhonhhbddhkaaGreatDoor
open Go.Ev Go.RowKit Go.ChangeShapes Go.WideShapes Go.ChangeAt
noncomputable section
set_option maxRecDepth 100000
set_option linter.unusedVariables false
set_option linter.unusedSimpArgs false
set_option maxHeartbeats 8000000
section
variable {H:Type}{enc:TypeId×Value->H}{W:World}{sp:Nat->Bool}{held:Bool}
theorem Vq:P.cellsOf 31=4:=by kernel_rfl
def Tok.ok (t:Tok):Prop:=rg t.n/\fE t.s
theorem Qk (fuel:Nat):Op enc W sp held 31 4 Tok.v Tok.ok fuel:=by
 intro cs x h
 obtain⟨xs,n,rfl,rfl,hl,hlen,hf⟩:=DataW.trod_struct Tryz.underlying31 h
 rw[Vq]at hl
 match xs,hlen with
 | [y0,y1,y2,y3],_=>
   match cs,hl with
   | [v0,v1,v2,v3],_=>
     have h0:=hf 0 _ rfl
     have h1:=hf 1 _ rfl
     have h2:=hf 2 _ rfl
     have h3:=hf 3 _ rfl
     simp[c2,c3,c9]at h0 h1 h2 h3
     obtain⟨n0,e0,q0,w0⟩:=DataW.trod_int Tryz.underlying3 h0
     obtain⟨s1,e1,q1,w1⟩:=DataW.trod_string Tryz.underlying9 h1
     obtain⟨n2,e2,q2,w2⟩:=DataW.trod_int Tryz.underlying2 h2
     obtain⟨n3,e3,q3,w3⟩:=DataW.trod_int Tryz.underlying3 h3
     simp at e0 e1 e2 e3
     subst e0 e1 e2 e3
     refine⟨(Tok.mk n0 s1.data.toList n2 n3),rfl,?_,λhw=> ?_⟩
     . show LR (fS W) (Tok.c (Tok.mk n0 s1.data.toList n2 n3)) _
       show LR (fS W) [_,_,_,_] _
       exact(LR.cons (.flat _ rfl) (LR.cons (Ve s1) (LR.cons (.flat _ rfl) (LR.cons (.flat _ rfl) .nil))))
     . have hr:reachBytes=140737488351232:=rfl
       have e11:s1.data.toList.length=s1.size:=by rw[Array.length_toList];rfl
       have hs1:s1.data.toList.length<140737488355328:=by
        have hz:=hw s1.size (by subst q0 q1 q2 q3;simp[DataW.weights,Tryz.underlying31,DataW.weightsEach,e11])
        omega
       exact⟨RH w2,hs1⟩
theorem Ex {A:Option Addr}{ln cp:Nat}{d:DataW H}{ps:List MemPlace}(h:DataW.Trod enc P W 0 sp held 29 (.slice A ln cp) d ps):∃l:List Tok,VR (fS W) (dm l) (.slice A ln cp)/\(Wt 29 d->l.length<dO/\∀a,a∈l->a.ok):=by
 obtain⟨fuel,hf⟩:=h
 obtain⟨u,l,e,r,z⟩:=JT Tok.v Tok.ok Tryz.underlying29 Vq (by omega) (of_decide_eq_true (by kernel_rfl)) (λm _ cs x h=>Qk m cs x h) hf
 have e':[Value.slice A ln cp]=[u]:=e
 cases e'
 exact⟨l,r,z⟩
end
end
end Go.Proofs.YthjhonhhbddhkaaGreatDoor
