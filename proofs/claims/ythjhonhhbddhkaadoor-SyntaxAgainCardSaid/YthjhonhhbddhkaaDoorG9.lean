/- Texts of this claim, side by side. -/
import Derived.Test.YthjhonhhbddhkaaDoorG7
import Derived.Test.YthjhonhhbddhkaaDoorG8
import Derived.Test.YthjhonhhbddhkaaDoorG6
import Derived.Test.YthjhonhhbddhkaaDoorProg
import Derived.WalkKit
import Derived.ProofKit
import Derived.OpenShut
import Derived.ShutString
import Derived.ChangeOld
import Derived.ChangeSame
import Derived.Deep.Slices
import Derived.DataElems
import Derived.Below
import Derived.SizedLaws
import Derived.Test.YthjhonhhbddhkaaDoorRows
import Derived.LaidMore
import Derived.Stop.LaidErr
import Derived.Lib.AppendIntMem
namespace Go.Proofs.YthjhonhhbddhkaaDoor
open Go.Ev Go.RowKit
noncomputable section
set_option maxRecDepth 100000
set_option linter.unusedVariables false
set_option linter.unusedSimpArgs false
set_option maxHeartbeats 8000000
section
variable {L:List Tok}{α β:Type}{Q:β->Prop}{Q1:α->Prop}{k m:Nat}
def aD {α:Type}(x:PR α)(Q:α->Prop):Prop:=∀a k,x=some (.ok a k)->Q a
theorem aD.none:aD (none:PR β) Q:=λa k h=>by cases h
theorem aD.bd {x:PR α}{f:α->Nat->PR β}(h:aD x Q1)(hf:∀a k,Q1 a->aD (f a k) Q):aD (bd x f) Q:=by
 cases x with
 | none=>exact aD.none
 | some r=>
   cases r with
   | bad a=>exact λa k h=>by cases h
   | ok a k=>exact hf a k (h a k rfl)
theorem aD.fail:aD (jL L k:PR β) Q:=λa k h=>by cases h
theorem aD.yes {a:β}(h:Q a):aD (yes a k) Q:=λa k h'=>by cases h';exact h
theorem aD.ite {c:Prop}[Decidable c]{x y:PR β}(h:aD x Q)(h':aD y Q):aD (if c then x else y) Q:=by
 by_cases hc:c
 . rw[if_pos hc];exact h
 . rw[if_neg hc];exact h'
theorem aD.aQ {w:List UInt8}{f:Nat->PR β}(hf:∀k,aD (f k) Q):aD (aQ L w k f) Q:=aD.ite (hf _) aD.fail
theorem aD.bY {c:Int}{f:Tok->Nat->PR β}(hf:∀j k,aD (f (tk L j) k) Q):aD (bY L c k f) Q:=aD.ite (hf _ _) aD.fail
def ak (Q:β->Prop)(m:Nat)(l:List β):Prop:=l.length<=m/\∀c,c∈l->Q c
theorem ak.nil:ak Q m []:=⟨Nat.zero_le _,λc h=>nomatch h⟩
theorem ak.snoc {l:List β}{a:β}(h:ak Q m l)(ha:Q a):ak Q (m+1) (l++[a]):=⟨by rw[List.length_append];exact Nat.add_le_add_right h.1 1,λc hc=>(List.mem_append.1 hc).elim (h.2 c) λq=>by rw[List.mem_singleton.1 q];exact ha⟩
theorem ak.one {a:β}(ha:Q a):ak Q 1 [a]:=⟨Nat.le_refl _,λc hc=>by rw[List.mem_singleton.1 hc];exact ha⟩
theorem ak.two {a b:β}(ha:Q a)(hb:Q b):ak Q 2 [a,b]:=(ak.one ha).snoc hb
theorem ak.three {a b c:β}(ha:Q a)(hb:Q b)(hc:Q c):ak Q 3 [a,b,c]:=(ak.two ha hb).snoc hc
theorem ak.mono {n:Nat}{l:List β}(h:ak Q m l)(hm:m<=n):ak Q n l:=⟨Nat.le_trans h.1 hm,h.2⟩
theorem ak.dQ {l:List β}(h:ak Q m l)(hm:m<=300000):l.length<dQ:=Nat.lt_of_le_of_lt (Nat.le_trans h.1 hm) (by decide)
theorem fT {k n:Int}{s:List UInt8}{l:List aq}{p:List aB}{d:List aG}{m1 m2 m3:Nat}(h1:rg n)(h2:gi s)(h3:ak aq.ok m1 l)(g3:m1<=300000)(h4:ak aB.ok m2 p)(g4:m2<=300000)(h5:ak aG.ok m3 d)(g5:m3<=300000):(aq.mk k n s l p d).ok:=(aq.bm _).2 ⟨h1,h2,⟨h3.dQ g3,h3.2⟩,⟨h4.dQ g4,h4.2⟩,h5.dQ g5,h5.2⟩
theorem j3 {k n:Int}{s:List UInt8}{l:List aB}{m1:Nat}(h1:rg n)(h2:gi s)(h3:ak aB.ok m1 l)(g3:m1<=300000):(aB.mk k n s l).ok:=(aB.bm _).2 ⟨h1,h2,h3.dQ g3,h3.2⟩
theorem mA {k:Int}{s:List UInt8}{l:List aO}{m1:Nat}(h2:gi s)(h3:ak aO.ok m1 l)(g3:m1<=300000):(aO.mk k s l).ok:=(aO.bm _).2 ⟨h2,h3.dQ g3,h3.2⟩
theorem Ll {s:List UInt8}{l:List aO}{m1:Nat}(h2:gi s)(h3:ak aO.ok m1 l)(g3:m1<=300000):(cS.mk s l).ok:=⟨h2,h3.dQ g3,h3.2⟩
theorem FA {v:List (List UInt8)}{s:List UInt8}{l:List cS}{m0 m1:Nat}(h0:ak gi m0 v)(g0:m0<=300000)(h2:gi s)(h3:ak cS.ok m1 l)(g3:m1<=300000):(Data.mk v s l).ok:=⟨⟨h0.dQ g0,h0.2⟩,h2,h3.dQ g3,h3.2⟩
theorem Xc {s:List UInt8}{q:List aB}{b:aq}{m1:Nat}(h2:gi s)(h3:ak aB.ok m1 q)(g3:m1<=300000)(h4:b.ok):(Fn.mk s q b).ok:=(Fn.bm _).2 ⟨h2,⟨h3.dQ g3,h3.2⟩,h4⟩
theorem Ct {k:Int}{p:aB}{e:aq}{f:List Fn}{x:Data}{c:cS}{m1:Nat}(h1:p.ok)(h2:e.ok)(h3:ak Fn.ok m1 f)(g3:m1<=300000)(h4:x.ok)(h5:c.ok):(aG.mk k p e f x c).ok:=(aG.bm _).2 ⟨h1,h2,⟨h3.dQ g3,h3.2⟩,h4,h5⟩
theorem gX:rg 0:=by unfold rg;omega
theorem cH:gi []:=by show(0:Nat)<_;omega
theorem Lm:f_.ok:=j3 gX cH (ak.nil (m:=0)) (by decide)
theorem QM:gk.ok:=fT gX cH (ak.nil (m:=0)) (by decide) (ak.nil (m:=0)) (by decide) (ak.nil (m:=0)) (by decide)
theorem Ln:dF.ok:=FA (ak.nil (m:=0)) (by decide) cH (ak.nil (m:=0)) (by decide)
theorem Lo:fO.ok:=Ll cH (ak.nil (m:=0)) (by decide)
def gz (m:Nat)(e:aq):Prop:=∃k l p,e= .mk k 0 [] l p []/\ak aq.ok m l/\ak aB.ok m p
theorem gz.ok {e:aq}(h:gz m e)(hm:m<=300000):e.ok:=by
 obtain⟨k,l,p,rfl,h1,h2⟩:=h;exact fT gX cH h1 hm h2 hm (ak.nil (m:=0)) (by decide)
theorem gz.add {e b:aq}(h:gz m e)(hb:b.ok):gz (m+1) (e.add b):=by
 obtain⟨k,l,p,rfl,h1,h2⟩:=h;exact⟨k,l++[b],p,rfl,h1.snoc hb,h2.mono (Nat.le_succ m)⟩
theorem gz.mm {e b:aq}{q:aB}(h:gz m e)(hq:q.ok)(hb:b.ok):gz (m+1) (e.mm q b):=by
 obtain⟨k,l,p,rfl,h1,h2⟩:=h;exact⟨k,l++[b],p++[q],rfl,h1.snoc hb,h2.snoc hq⟩
theorem gz.one {k:Int}{b:aq}(hb:b.ok):gz 1 (.mk k 0 [] [b] [] []):=⟨k,[b],[],rfl,ak.one hb,ak.nil⟩
theorem gz.zero {k:Int}:gz 0 (.mk k 0 [] [] [] []):=⟨k,[],[],rfl,ak.nil,ak.nil⟩
theorem fh (n:Int):rg (IntKind.i64.wrap n):=by
 unfold rg IntKind.wrap;have:IntKind.i64.bits=64:=rfl;have:IntKind.i64.signed=true:=rfl;simp only[*,Bool.true_and];split
 . rename_i h';simp only[decide_eq_true_eq]at h';omega
 . rename_i h';simp only[decide_eq_true_eq]at h';omega
def FC (d:Option aG):Prop:=∀x,d=some x->x.ok
def tS (L:List Tok):Prop:=∀t,t∈L->rg t.n/\gi t.s
theorem tS.tk (h:tS L)(k:Nat):rg (tk L k).n/\gi (tk L k).s:=by
 unfold Go.Proofs.YthjhonhhbddhkaaDoor.tk;cases hk:L[k]? with
 | none=>exact⟨gX,cH⟩
 | some t=>exact h t (List.mem_of_getElem? hk)
structure fU (n:Nat)(p:PS):Prop where
 exp:∀k,aD (p.exp k) aq.ok
 j4:∀e k m,gz m e->m+n<=300000->aD (p.j4 e k) aq.ok
 bin:∀lv k,aD (p.bin lv k) aq.ok
 jt:∀lv a k,a.ok->aD (p.jt lv a k) aq.ok
 un:∀k,aD (p.un k) aq.ok
 ju:∀a k,a.ok->aD (p.ju a k) aq.ok
 atom:∀k,aD (p.atom k) aq.ok
 cU:∀s e k m,gz m e->m+n<=300000->aD (p.cU s e k) aq.ok
 lt:∀k,aD (p.lt k) aq.ok
 iD:∀l k m,ak aG.ok m l->m+n<=300000->aD (p.iD l k) (ak aG.ok 300000)
 pat:∀k,aD (p.pat k) aB.ok
 cm:∀k,aD (p.cm k) aB.ok
 iP:∀l k m,ak aB.ok m l->m+n<=300000->aD (p.iP l k) (ak aB.ok 300000)
 gJ:∀k,aD (p.gJ k) aO.ok
 ff:∀l k m,ak aO.ok m l->m+n<=300000->aD (p.ff l k) (ak aO.ok 300000)
 post:∀k,aD (p.post k) aO.ok
 rC:∀l k m,ak aO.ok m l->m+n<=300000->aD (p.rC l k) (ak aO.ok 300000)
 dZ:∀a k,a.ok->aD (p.dZ a k) aO.ok
 iH:∀k,aD (p.iH k) cS.ok
 bind:∀k,aD (p.bind k) FC
 ji:∀l k m,ak Fn.ok m l->m+n<=300000->aD (p.ji l k) (ak Fn.ok 300000)
 fn:∀k,aD (p.fn k) Fn.ok
 tH:∀l k m,ak aB.ok m l->m+n<=300000->aD (p.tH l k) (ak aB.ok 300000)
 dec:∀k,aD (p.dec k) FC
 data:∀k,aD (p.data k) Data.ok
 iq:∀l k m,ak gi m l->m+n<=300000->aD (p.iq l k) (ak gi 300000)
 iQ:∀l k m,ak cS.ok m l->m+n<=300000->aD (p.iQ l k) (ak cS.ok 300000)
 cq:∀l k m,ak aG.ok m l->m+n<=300000->aD (p.cq l k) (ak aG.ok 300000)
variable {n:Nat}{p:PS}
theorem T5 (h:fU n p)(ht:∀k,rg (tk L k).n/\gi (tk L k).s)(hn:n<=200000):∀k,aD (jv L p k) aq.ok:=by
 intro k;unfold jv
 repeat' (first
 | exact aD.fail
 | exact aD.yes (by assumption)
 | exact aD.yes (fT (by first | exact gX | exact(ht _).1 | exact fh _) (by first | exact cH | exact(ht _).2 | assumption | (show _<_;decide)) (by first | exact ak.nil (m:=0) | assumption | exact ak.three (by assumption) (by assumption) (by assumption) | exact ak.two (by assumption) (by assumption) | exact ak.one (by assumption)) (by omega) (by first | exact ak.nil (m:=0) | assumption | exact ak.three (by assumption) (by assumption) (by assumption) | exact ak.two (by assumption) (by assumption) | exact ak.one (by assumption)) (by omega) (by first | exact ak.nil (m:=0) | assumption | exact ak.three (by assumption) (by assumption) (by assumption) | exact ak.two (by assumption) (by assumption) | exact ak.one (by assumption)) (by omega))
 | refine aD.aQ (λk=> ?_)
 | exact h.exp _
 | refine aD.bd (h.exp _) (λa k ha=> ?_)
 | exact h.j4 _ _ _ (by first | exact gz.mm (by assumption) (by assumption) (by assumption) | exact gz.add (by assumption) (by assumption) | exact gz.one (by assumption) | exact gz.zero) (by omega)
 | refine aD.bd (h.j4 _ _ _ (by first | exact gz.mm (by assumption) (by assumption) (by assumption) | exact gz.add (by assumption) (by assumption) | exact gz.one (by assumption) | exact gz.zero) (by omega)) (λa k ha=> ?_)
 | exact h.bin _ _
 | refine aD.bd (h.bin _ _) (λa k ha=> ?_)
 | refine aD.ite ?_ ?_)
theorem T6 (h:fU n p)(ht:∀k,rg (tk L k).n/\gi (tk L k).s)(hn:n<=200000):∀e k m,gz m e->m+(n+1)<=300000->aD (qY L p e k) aq.ok:=by
 intro e k m he hm;unfold qY
 repeat' (first
 | exact aD.yes (gz.ok (by first | assumption | exact gz.mm (by assumption) (by assumption) (by assumption)) (by omega))
 | exact aD.fail
 | exact aD.yes (by assumption)
 | exact aD.yes (fT (by first | exact gX | exact(ht _).1 | exact fh _) (by first | exact cH | exact(ht _).2 | assumption | (show _<_;decide)) (by first | exact ak.nil (m:=0) | assumption | exact ak.three (by assumption) (by assumption) (by assumption) | exact ak.two (by assumption) (by assumption) | exact ak.one (by assumption)) (by omega) (by first | exact ak.nil (m:=0) | assumption | exact ak.three (by assumption) (by assumption) (by assumption) | exact ak.two (by assumption) (by assumption) | exact ak.one (by assumption)) (by omega) (by first | exact ak.nil (m:=0) | assumption | exact ak.three (by assumption) (by assumption) (by assumption) | exact ak.two (by assumption) (by assumption) | exact ak.one (by assumption)) (by omega))
 | refine aD.aQ (λk=> ?_)
 | exact h.exp _
 | refine aD.bd (h.exp _) (λa k ha=> ?_)
 | exact h.j4 _ _ _ (by first | exact gz.mm (by assumption) (by assumption) (by assumption) | exact gz.add (by assumption) (by assumption) | exact gz.one (by assumption) | exact gz.zero) (by omega)
 | refine aD.bd (h.j4 _ _ _ (by first | exact gz.mm (by assumption) (by assumption) (by assumption) | exact gz.add (by assumption) (by assumption) | exact gz.one (by assumption) | exact gz.zero) (by omega)) (λa k ha=> ?_)
 | exact h.pat _
 | refine aD.bd (h.pat _) (λa k ha=> ?_)
 | refine aD.ite ?_ ?_)
theorem Lp (h:fU n p)(ht:∀k,rg (tk L k).n/\gi (tk L k).s)(hn:n<=200000):∀lv a k,a.ok->aD (mZ L p lv a k) aq.ok:=by
 intro lv a k ha;unfold mZ
 repeat' (first
 | exact aD.fail
 | exact aD.yes (by assumption)
 | exact aD.yes (fT (by first | exact gX | exact(ht _).1 | exact fh _) (by first | exact cH | exact(ht _).2 | assumption | (show _<_;decide)) (by first | exact ak.nil (m:=0) | assumption | exact ak.three (by assumption) (by assumption) (by assumption) | exact ak.two (by assumption) (by assumption) | exact ak.one (by assumption)) (by omega) (by first | exact ak.nil (m:=0) | assumption | exact ak.three (by assumption) (by assumption) (by assumption) | exact ak.two (by assumption) (by assumption) | exact ak.one (by assumption)) (by omega) (by first | exact ak.nil (m:=0) | assumption | exact ak.three (by assumption) (by assumption) (by assumption) | exact ak.two (by assumption) (by assumption) | exact ak.one (by assumption)) (by omega))
 | exact h.bin _ _
 | refine aD.bd (h.bin _ _) (λa k ha=> ?_)
 | exact h.jt _ _ _ (by first | assumption | exact mA (by first | exact cH | exact(ht _).2 | assumption | (show _<_;decide)) (by first | exact ak.nil (m:=0) | assumption | exact ak.three (by assumption) (by assumption) (by assumption) | exact ak.two (by assumption) (by assumption) | exact ak.one (by assumption)) (by omega) | exact fT gX (by first | exact cH | exact(ht _).2 | assumption | (show _<_;decide)) (by first | exact ak.nil (m:=0) | assumption | exact ak.three (by assumption) (by assumption) (by assumption) | exact ak.two (by assumption) (by assumption) | exact ak.one (by assumption)) (by omega) (ak.nil (m:=0)) (by omega) (ak.nil (m:=0)) (by omega))
 | refine aD.bd (h.jt _ _ _ (by first | assumption | exact mA (by first | exact cH | exact(ht _).2 | assumption | (show _<_;decide)) (by first | exact ak.nil (m:=0) | assumption | exact ak.three (by assumption) (by assumption) (by assumption) | exact ak.two (by assumption) (by assumption) | exact ak.one (by assumption)) (by omega) | exact fT gX (by first | exact cH | exact(ht _).2 | assumption | (show _<_;decide)) (by first | exact ak.nil (m:=0) | assumption | exact ak.three (by assumption) (by assumption) (by assumption) | exact ak.two (by assumption) (by assumption) | exact ak.one (by assumption)) (by omega) (ak.nil (m:=0)) (by omega) (ak.nil (m:=0)) (by omega))) (λa k ha=> ?_)
 | refine aD.ite ?_ ?_)
theorem T7 (h:fU n p)(ht:∀k,rg (tk L k).n/\gi (tk L k).s)(hn:n<=200000):∀lv k,aD (lI L p lv k) aq.ok:=by
 intro lv k;unfold lI;exact aD.ite (h.un _) (aD.bd (h.bin _ _) λa k ha=>Lp h ht hn _ _ _ ha)
theorem Cu (h:fU n p)(ht:∀k,rg (tk L k).n/\gi (tk L k).s)(hn:n<=200000):∀a k,a.ok->aD (nT L p a k) aq.ok:=by
 intro a k ha;unfold nT
 repeat' (first
 | exact aD.fail
 | exact aD.yes (by assumption)
 | exact aD.yes (fT (by first | exact gX | exact(ht _).1 | exact fh _) (by first | exact cH | exact(ht _).2 | assumption | (show _<_;decide)) (by first | exact ak.nil (m:=0) | assumption | exact ak.three (by assumption) (by assumption) (by assumption) | exact ak.two (by assumption) (by assumption) | exact ak.one (by assumption)) (by omega) (by first | exact ak.nil (m:=0) | assumption | exact ak.three (by assumption) (by assumption) (by assumption) | exact ak.two (by assumption) (by assumption) | exact ak.one (by assumption)) (by omega) (by first | exact ak.nil (m:=0) | assumption | exact ak.three (by assumption) (by assumption) (by assumption) | exact ak.two (by assumption) (by assumption) | exact ak.one (by assumption)) (by omega))
 | exact h.ju _ _ (by first | assumption | exact mA (by first | exact cH | exact(ht _).2 | assumption | (show _<_;decide)) (by first | exact ak.nil (m:=0) | assumption | exact ak.three (by assumption) (by assumption) (by assumption) | exact ak.two (by assumption) (by assumption) | exact ak.one (by assumption)) (by omega) | exact fT gX (by first | exact cH | exact(ht _).2 | assumption | (show _<_;decide)) (by first | exact ak.nil (m:=0) | assumption | exact ak.three (by assumption) (by assumption) (by assumption) | exact ak.two (by assumption) (by assumption) | exact ak.one (by assumption)) (by omega) (ak.nil (m:=0)) (by omega) (ak.nil (m:=0)) (by omega))
 | refine aD.bd (h.ju _ _ (by first | assumption | exact mA (by first | exact cH | exact(ht _).2 | assumption | (show _<_;decide)) (by first | exact ak.nil (m:=0) | assumption | exact ak.three (by assumption) (by assumption) (by assumption) | exact ak.two (by assumption) (by assumption) | exact ak.one (by assumption)) (by omega) | exact fT gX (by first | exact cH | exact(ht _).2 | assumption | (show _<_;decide)) (by first | exact ak.nil (m:=0) | assumption | exact ak.three (by assumption) (by assumption) (by assumption) | exact ak.two (by assumption) (by assumption) | exact ak.one (by assumption)) (by omega) (ak.nil (m:=0)) (by omega) (ak.nil (m:=0)) (by omega))) (λa k ha=> ?_)
 | exact h.atom _
 | refine aD.bd (h.atom _) (λa k ha=> ?_)
 | refine aD.ite ?_ ?_)
theorem Xd (h:fU n p)(ht:∀k,rg (tk L k).n/\gi (tk L k).s)(hn:n<=200000):∀k,aD (A3 L p k) aq.ok:=by
 intro k;unfold A3
 repeat' (first
 | exact aD.fail
 | exact aD.yes (by assumption)
 | exact aD.yes (fT (by first | exact gX | exact(ht _).1 | exact fh _) (by first | exact cH | exact(ht _).2 | assumption | (show _<_;decide)) (by first | exact ak.nil (m:=0) | assumption | exact ak.three (by assumption) (by assumption) (by assumption) | exact ak.two (by assumption) (by assumption) | exact ak.one (by assumption)) (by omega) (by first | exact ak.nil (m:=0) | assumption | exact ak.three (by assumption) (by assumption) (by assumption) | exact ak.two (by assumption) (by assumption) | exact ak.one (by assumption)) (by omega) (by first | exact ak.nil (m:=0) | assumption | exact ak.three (by assumption) (by assumption) (by assumption) | exact ak.two (by assumption) (by assumption) | exact ak.one (by assumption)) (by omega))
 | exact h.un _
 | refine aD.bd (h.un _) (λa k ha=> ?_)
 | exact h.atom _
 | refine aD.bd (h.atom _) (λa k ha=> ?_)
 | exact Cu h ht hn _ _ (by assumption)
 | refine aD.bd (Cu h ht hn _ _ (by assumption)) (λa k ha=> ?_)
 | refine aD.ite ?_ ?_)
theorem tT (h:fU n p)(ht:∀k,rg (tk L k).n/\gi (tk L k).s)(hn:n<=200000):∀s e k m,gz m e->m+(n+1)<=300000->aD (kp L p s e k) aq.ok:=by
 intro s e k m he hm;unfold kp
 repeat' (first
 | exact aD.yes (gz.ok (by first | assumption | exact gz.mm (by assumption) (by assumption) (by assumption)) (by omega))
 | exact aD.fail
 | exact aD.yes (by assumption)
 | exact aD.yes (fT (by first | exact gX | exact(ht _).1 | exact fh _) (by first | exact cH | exact(ht _).2 | assumption | (show _<_;decide)) (by first | exact ak.nil (m:=0) | assumption | exact ak.three (by assumption) (by assumption) (by assumption) | exact ak.two (by assumption) (by assumption) | exact ak.one (by assumption)) (by omega) (by first | exact ak.nil (m:=0) | assumption | exact ak.three (by assumption) (by assumption) (by assumption) | exact ak.two (by assumption) (by assumption) | exact ak.one (by assumption)) (by omega) (by first | exact ak.nil (m:=0) | assumption | exact ak.three (by assumption) (by assumption) (by assumption) | exact ak.two (by assumption) (by assumption) | exact ak.one (by assumption)) (by omega))
 | exact h.exp _
 | refine aD.bd (h.exp _) (λa k ha=> ?_)
 | exact h.cU _ _ _ _ (by first | exact gz.mm (by assumption) (by assumption) (by assumption) | exact gz.add (by assumption) (by assumption) | exact gz.one (by assumption) | exact gz.zero) (by omega)
 | refine aD.bd (h.cU _ _ _ _ (by first | exact gz.mm (by assumption) (by assumption) (by assumption) | exact gz.add (by assumption) (by assumption) | exact gz.one (by assumption) | exact gz.zero) (by omega)) (λa k ha=> ?_)
 | refine aD.ite ?_ ?_)
theorem Oo (h:fU n p)(ht:∀k,rg (tk L k).n/\gi (tk L k).s)(hn:n<=200000):∀k,aD (fK L p k) aq.ok:=by
 intro k;unfold fK
 repeat' (first
 | exact aD.fail
 | exact aD.yes (by assumption)
 | exact aD.yes (fT (by first | exact gX | exact(ht _).1 | exact fh _) (by first | exact cH | exact(ht _).2 | assumption | (show _<_;decide)) (by first | exact ak.nil (m:=0) | assumption | exact ak.three (by assumption) (by assumption) (by assumption) | exact ak.two (by assumption) (by assumption) | exact ak.one (by assumption)) (by omega) (by first | exact ak.nil (m:=0) | assumption | exact ak.three (by assumption) (by assumption) (by assumption) | exact ak.two (by assumption) (by assumption) | exact ak.one (by assumption)) (by omega) (by first | exact ak.nil (m:=0) | assumption | exact ak.three (by assumption) (by assumption) (by assumption) | exact ak.two (by assumption) (by assumption) | exact ak.one (by assumption)) (by omega))
 | refine aD.aQ (λk=> ?_)
 | exact h.exp _
 | refine aD.bd (h.exp _) (λa k ha=> ?_)
 | exact h.lt _
 | refine aD.bd (h.lt _) (λa k ha=> ?_)
 | exact tT h ht hn _ _ _ _ (by first | exact gz.mm (by assumption) (by assumption) (by assumption) | exact gz.add (by assumption) (by assumption) | exact gz.one (by assumption) | exact gz.zero) (by omega)
 | refine aD.bd (tT h ht hn _ _ _ _ (by first | exact gz.mm (by assumption) (by assumption) (by assumption) | exact gz.add (by assumption) (by assumption) | exact gz.one (by assumption) | exact gz.zero) (by omega)) (λa k ha=> ?_)
 | refine aD.ite ?_ ?_)
theorem Cv (h:fU n p)(ht:∀k,rg (tk L k).n/\gi (tk L k).s)(hn:n<=200000):∀l k m,ak aG.ok m l->m+(n+1)<=300000->aD (m4 L p l k) (ak aG.ok 300000):=by
 intro l k m hl hm;unfold m4;refine aD.ite (aD.yes (hl.mono (by omega))) (aD.bd (h.bind _) λd k hd=> ?_);cases d with
 | none=>exact aD.fail
 | some d=>exact h.iD _ _ _ (hl.snoc (hd d rfl)) (by omega)
theorem Xe (h:fU n p)(ht:∀k,rg (tk L k).n/\gi (tk L k).s)(hn:n<=200000):∀k,aD (Hy L p k) aq.ok:=by
 intro k;unfold Hy
 repeat' (first
 | exact aD.fail
 | exact aD.yes (by assumption)
 | exact aD.yes (fT (by first | exact gX | exact(ht _).1 | exact fh _) (by first | exact cH | exact(ht _).2 | assumption | (show _<_;decide)) (by first | exact ak.nil (m:=0) | assumption | exact ak.three (by assumption) (by assumption) (by assumption) | exact ak.two (by assumption) (by assumption) | exact ak.one (by assumption)) (by omega) (by first | exact ak.nil (m:=0) | assumption | exact ak.three (by assumption) (by assumption) (by assumption) | exact ak.two (by assumption) (by assumption) | exact ak.one (by assumption)) (by omega) (by first | exact ak.nil (m:=0) | assumption | exact ak.three (by assumption) (by assumption) (by assumption) | exact ak.two (by assumption) (by assumption) | exact ak.one (by assumption)) (by omega))
 | refine aD.aQ (λk=> ?_)
 | exact h.exp _
 | refine aD.bd (h.exp _) (λa k ha=> ?_)
 | exact Cv h ht hn _ _ _ (by first | exact ak.nil (m:=0) | exact ak.snoc (by assumption) (by first | assumption | exact(ht _).2) | exact ak.one (by first | assumption | exact(ht _).2)) (by omega)
 | refine aD.bd (Cv h ht hn _ _ _ (by first | exact ak.nil (m:=0) | exact ak.snoc (by assumption) (by first | assumption | exact(ht _).2) | exact ak.one (by first | assumption | exact(ht _).2)) (by omega)) (λa k ha=> ?_)
 | exact tT h ht hn _ _ _ _ (by first | exact gz.mm (by assumption) (by assumption) (by assumption) | exact gz.add (by assumption) (by assumption) | exact gz.one (by assumption) | exact gz.zero) (by omega)
 | refine aD.bd (tT h ht hn _ _ _ _ (by first | exact gz.mm (by assumption) (by assumption) (by assumption) | exact gz.add (by assumption) (by assumption) | exact gz.one (by assumption) | exact gz.zero) (by omega)) (λa k ha=> ?_)
 | refine aD.ite ?_ ?_)
theorem Lq (h:fU n p)(ht:∀k,rg (tk L k).n/\gi (tk L k).s)(hn:n<=200000):∀k,aD (oV L p k) aB.ok:=by
 intro k;unfold oV
 repeat' (first
 | exact aD.fail
 | exact aD.yes (by assumption)
 | exact aD.yes (j3 (by first | exact gX | exact(ht _).1 | exact fh _) (by decide) (ak.one (j3 gX cH (ak.two (by assumption) (by assumption)) (by omega))) (by omega))
 | exact aD.yes (j3 (by first | exact gX | exact(ht _).1 | exact fh _) (by first | exact cH | exact(ht _).2 | assumption | (show _<_;decide)) (by first | exact ak.nil (m:=0) | assumption | exact ak.three (by assumption) (by assumption) (by assumption) | exact ak.two (by assumption) (by assumption) | exact ak.one (by assumption)) (by omega))
 | exact h.cm _
 | refine aD.bd (h.cm _) (λa k ha=> ?_)
 | refine aD.ite ?_ ?_)
theorem T8 (h:fU n p)(ht:∀k,rg (tk L k).n/\gi (tk L k).s)(hn:n<=200000):∀k,aD (oW L p k) aB.ok:=by
 intro k;unfold oW
 repeat' (first
 | exact aD.fail
 | exact aD.yes (by assumption)
 | exact aD.yes (j3 (by first | exact gX | exact(ht _).1 | exact fh _) (by decide) (ak.one (j3 gX cH (ak.two (by assumption) (by assumption)) (by omega))) (by omega))
 | exact aD.yes (j3 (by first | exact gX | exact(ht _).1 | exact fh _) (by first | exact cH | exact(ht _).2 | assumption | (show _<_;decide)) (by first | exact ak.nil (m:=0) | assumption | exact ak.three (by assumption) (by assumption) (by assumption) | exact ak.two (by assumption) (by assumption) | exact ak.one (by assumption)) (by omega))
 | exact h.pat _
 | refine aD.bd (h.pat _) (λa k ha=> ?_)
 | exact Lq h ht hn _
 | refine aD.bd (Lq h ht hn _) (λa k ha=> ?_)
 | refine aD.ite ?_ ?_)
theorem yQ (h:fU n p)(ht:∀k,rg (tk L k).n/\gi (tk L k).s)(hn:n<=200000):∀l k m,ak aB.ok m l->m+(n+1)<=300000->aD (mn L p l k) (ak aB.ok 300000):=by
 intro l k m hl hm;unfold mn
 repeat' (first
 | exact aD.fail
 | exact aD.yes (ak.mono (ak.nil (m:=0)) (by omega))
 | exact aD.yes (ak.mono (ak.one (ht _).2) (by omega))
 | exact aD.yes (ak.mono (by assumption) (by omega))
 | exact aD.yes (by first | exact ak.nil (m:=0) | assumption | exact ak.three (by assumption) (by assumption) (by assumption) | exact ak.two (by assumption) (by assumption) | exact ak.one (by assumption))
 | exact aD.yes (ak.mono (by first | exact ak.nil (m:=0) | assumption | exact ak.three (by assumption) (by assumption) (by assumption) | exact ak.two (by assumption) (by assumption) | exact ak.one (by assumption)) (by omega))
 | exact h.pat _
 | refine aD.bd (h.pat _) (λa k ha=> ?_)
 | exact h.iP _ _ _ (by first | exact ak.nil (m:=0) | exact ak.snoc (by assumption) (by first | assumption | exact(ht _).2) | exact ak.one (by first | assumption | exact(ht _).2)) (by omega)
 | refine aD.bd (h.iP _ _ _ (by first | exact ak.nil (m:=0) | exact ak.snoc (by assumption) (by first | assumption | exact(ht _).2) | exact ak.one (by first | assumption | exact(ht _).2)) (by omega)) (λa k ha=> ?_)
 | refine aD.ite ?_ ?_)
theorem Lr (h:fU n p)(ht:∀k,rg (tk L k).n/\gi (tk L k).s)(hn:n<=200000):∀k,aD (dB L p k) aB.ok:=by
 intro k;unfold dB
 repeat' (first
 | exact aD.fail
 | exact aD.yes (by assumption)
 | exact aD.yes (j3 (by first | exact gX | exact(ht _).1 | exact fh _) (by decide) (ak.one (j3 gX cH (ak.two (by assumption) (by assumption)) (by omega))) (by omega))
 | exact aD.yes (j3 (by first | exact gX | exact(ht _).1 | exact fh _) (by first | exact cH | exact(ht _).2 | assumption | (show _<_;decide)) (by first | exact ak.nil (m:=0) | assumption | exact ak.three (by assumption) (by assumption) (by assumption) | exact ak.two (by assumption) (by assumption) | exact ak.one (by assumption)) (by omega))
 | refine aD.aQ (λk=> ?_)
 | refine aD.bY (λj k=> ?_)
 | exact h.pat _
 | refine aD.bd (h.pat _) (λa k ha=> ?_)
 | exact yQ h ht hn _ _ _ (by first | exact ak.nil (m:=0) | exact ak.snoc (by assumption) (by first | assumption | exact(ht _).2) | exact ak.one (by first | assumption | exact(ht _).2)) (by omega)
 | refine aD.bd (yQ h ht hn _ _ _ (by first | exact ak.nil (m:=0) | exact ak.snoc (by assumption) (by first | assumption | exact(ht _).2) | exact ak.one (by first | assumption | exact(ht _).2)) (by omega)) (λa k ha=> ?_)
 | refine aD.ite ?_ ?_)
theorem yR (h:fU n p)(ht:∀k,rg (tk L k).n/\gi (tk L k).s)(hn:n<=200000):∀l k m,ak aO.ok m l->m+(n+1)<=300000->aD (mo L p l k) (ak aO.ok 300000):=by
 intro l k m hl hm;unfold mo
 repeat' (first
 | exact aD.fail
 | exact aD.yes (ak.mono (ak.nil (m:=0)) (by omega))
 | exact aD.yes (ak.mono (ak.one (ht _).2) (by omega))
 | exact aD.yes (ak.mono (by assumption) (by omega))
 | exact aD.yes (by first | exact ak.nil (m:=0) | assumption | exact ak.three (by assumption) (by assumption) (by assumption) | exact ak.two (by assumption) (by assumption) | exact ak.one (by assumption))
 | exact aD.yes (ak.mono (by first | exact ak.nil (m:=0) | assumption | exact ak.three (by assumption) (by assumption) (by assumption) | exact ak.two (by assumption) (by assumption) | exact ak.one (by assumption)) (by omega))
 | exact h.ff _ _ _ (by first | exact ak.nil (m:=0) | exact ak.snoc (by assumption) (by first | assumption | exact(ht _).2) | exact ak.one (by first | assumption | exact(ht _).2)) (by omega)
 | refine aD.bd (h.ff _ _ _ (by first | exact ak.nil (m:=0) | exact ak.snoc (by assumption) (by first | assumption | exact(ht _).2) | exact ak.one (by first | assumption | exact(ht _).2)) (by omega)) (λa k ha=> ?_)
 | exact h.post _
 | refine aD.bd (h.post _) (λa k ha=> ?_)
 | refine aD.ite ?_ ?_)
theorem FE (h:fU n p)(ht:∀k,rg (tk L k).n/\gi (tk L k).s)(hn:n<=200000):∀k,aD (kq L p k) aO.ok:=by
 intro k;unfold kq
 repeat' (first
 | exact aD.fail
 | exact aD.yes (by assumption)
 | exact aD.yes (mA (by first | exact cH | exact(ht _).2 | assumption | (show _<_;decide)) (by first | exact ak.nil (m:=0) | assumption | exact ak.three (by assumption) (by assumption) (by assumption) | exact ak.two (by assumption) (by assumption) | exact ak.one (by assumption)) (by omega))
 | exact h.post _
 | refine aD.bd (h.post _) (λa k ha=> ?_)
 | exact yR h ht hn _ _ _ (by first | exact ak.nil (m:=0) | exact ak.snoc (by assumption) (by first | assumption | exact(ht _).2) | exact ak.one (by first | assumption | exact(ht _).2)) (by omega)
 | refine aD.bd (yR h ht hn _ _ _ (by first | exact ak.nil (m:=0) | exact ak.snoc (by assumption) (by first | assumption | exact(ht _).2) | exact ak.one (by first | assumption | exact(ht _).2)) (by omega)) (λa k ha=> ?_)
 | refine aD.ite ?_ ?_)
theorem T9 (h:fU n p)(ht:∀k,rg (tk L k).n/\gi (tk L k).s)(hn:n<=200000):∀k,aD (lJ L p k) aO.ok:=by
 intro k;unfold lJ
 repeat' (first
 | exact aD.fail
 | exact aD.yes (by assumption)
 | exact aD.yes (mA (by first | exact cH | exact(ht _).2 | assumption | (show _<_;decide)) (by first | exact ak.nil (m:=0) | assumption | exact ak.three (by assumption) (by assumption) (by assumption) | exact ak.two (by assumption) (by assumption) | exact ak.one (by assumption)) (by omega))
 | exact h.gJ _
 | refine aD.bd (h.gJ _) (λa k ha=> ?_)
 | exact FE h ht hn _
 | refine aD.bd (FE h ht hn _) (λa k ha=> ?_)
 | refine aD.ite ?_ ?_)
theorem Cx (h:fU n p)(ht:∀k,rg (tk L k).n/\gi (tk L k).s)(hn:n<=200000):∀l k m,ak aO.ok m l->m+(n+1)<=300000->aD (oX L p l k) (ak aO.ok 300000):=by
 intro l k m hl hm;unfold oX
 repeat' (first
 | exact aD.fail
 | exact aD.yes (ak.mono (ak.nil (m:=0)) (by omega))
 | exact aD.yes (ak.mono (ak.one (ht _).2) (by omega))
 | exact aD.yes (ak.mono (by assumption) (by omega))
 | exact aD.yes (by first | exact ak.nil (m:=0) | assumption | exact ak.three (by assumption) (by assumption) (by assumption) | exact ak.two (by assumption) (by assumption) | exact ak.one (by assumption))
 | exact aD.yes (ak.mono (by first | exact ak.nil (m:=0) | assumption | exact ak.three (by assumption) (by assumption) (by assumption) | exact ak.two (by assumption) (by assumption) | exact ak.one (by assumption)) (by omega))
 | exact h.gJ _
 | refine aD.bd (h.gJ _) (λa k ha=> ?_)
 | exact h.rC _ _ _ (by first | exact ak.nil (m:=0) | exact ak.snoc (by assumption) (by first | assumption | exact(ht _).2) | exact ak.one (by first | assumption | exact(ht _).2)) (by omega)
 | refine aD.bd (h.rC _ _ _ (by first | exact ak.nil (m:=0) | exact ak.snoc (by assumption) (by first | assumption | exact(ht _).2) | exact ak.one (by first | assumption | exact(ht _).2)) (by omega)) (λa k ha=> ?_)
 | refine aD.ite ?_ ?_)
theorem FF (h:fU n p)(ht:∀k,rg (tk L k).n/\gi (tk L k).s)(hn:n<=200000):∀k,aD (jj L p k) aO.ok:=by
 intro k;unfold jj
 repeat' (first
 | exact aD.fail
 | exact aD.yes (by assumption)
 | exact aD.yes (mA (by first | exact cH | exact(ht _).2 | assumption | (show _<_;decide)) (by first | exact ak.nil (m:=0) | assumption | exact ak.three (by assumption) (by assumption) (by assumption) | exact ak.two (by assumption) (by assumption) | exact ak.one (by assumption)) (by omega))
 | refine aD.aQ (λk=> ?_)
 | exact h.gJ _
 | refine aD.bd (h.gJ _) (λa k ha=> ?_)
 | exact Cx h ht hn _ _ _ (by first | exact ak.nil (m:=0) | exact ak.snoc (by assumption) (by first | assumption | exact(ht _).2) | exact ak.one (by first | assumption | exact(ht _).2)) (by omega)
 | refine aD.bd (Cx h ht hn _ _ _ (by first | exact ak.nil (m:=0) | exact ak.snoc (by assumption) (by first | assumption | exact(ht _).2) | exact ak.one (by first | assumption | exact(ht _).2)) (by omega)) (λa k ha=> ?_)
 | refine aD.ite ?_ ?_)
theorem yS (h:fU n p)(ht:∀k,rg (tk L k).n/\gi (tk L k).s)(hn:n<=200000):∀a k,a.ok->aD (gK L p a k) aO.ok:=by
 intro a k ha;unfold gK
 repeat' (first
 | exact aD.fail
 | exact aD.yes (by assumption)
 | exact aD.yes (mA (by first | exact cH | exact(ht _).2 | assumption | (show _<_;decide)) (by first | exact ak.nil (m:=0) | assumption | exact ak.three (by assumption) (by assumption) (by assumption) | exact ak.two (by assumption) (by assumption) | exact ak.one (by assumption)) (by omega))
 | exact h.dZ _ _ (by first | assumption | exact mA (by first | exact cH | exact(ht _).2 | assumption | (show _<_;decide)) (by first | exact ak.nil (m:=0) | assumption | exact ak.three (by assumption) (by assumption) (by assumption) | exact ak.two (by assumption) (by assumption) | exact ak.one (by assumption)) (by omega) | exact fT gX (by first | exact cH | exact(ht _).2 | assumption | (show _<_;decide)) (by first | exact ak.nil (m:=0) | assumption | exact ak.three (by assumption) (by assumption) (by assumption) | exact ak.two (by assumption) (by assumption) | exact ak.one (by assumption)) (by omega) (ak.nil (m:=0)) (by omega) (ak.nil (m:=0)) (by omega))
 | refine aD.bd (h.dZ _ _ (by first | assumption | exact mA (by first | exact cH | exact(ht _).2 | assumption | (show _<_;decide)) (by first | exact ak.nil (m:=0) | assumption | exact ak.three (by assumption) (by assumption) (by assumption) | exact ak.two (by assumption) (by assumption) | exact ak.one (by assumption)) (by omega) | exact fT gX (by first | exact cH | exact(ht _).2 | assumption | (show _<_;decide)) (by first | exact ak.nil (m:=0) | assumption | exact ak.three (by assumption) (by assumption) (by assumption) | exact ak.two (by assumption) (by assumption) | exact ak.one (by assumption)) (by omega) (ak.nil (m:=0)) (by omega) (ak.nil (m:=0)) (by omega))) (λa k ha=> ?_)
 | refine aD.ite ?_ ?_)
theorem Oq (h:fU n p)(ht:∀k,rg (tk L k).n/\gi (tk L k).s)(hn:n<=200000):∀k,aD (jM L p k) aO.ok:=by
 intro k;unfold jM
 repeat' (first
 | exact aD.fail
 | exact aD.yes (by assumption)
 | exact aD.yes (mA (by first | exact cH | exact(ht _).2 | assumption | (show _<_;decide)) (by first | exact ak.nil (m:=0) | assumption | exact ak.three (by assumption) (by assumption) (by assumption) | exact ak.two (by assumption) (by assumption) | exact ak.one (by assumption)) (by omega))
 | exact FF h ht hn _
 | refine aD.bd (FF h ht hn _) (λa k ha=> ?_)
 | exact yS h ht hn _ _ (by assumption)
 | refine aD.bd (yS h ht hn _ _ (by assumption)) (λa k ha=> ?_)
 | refine aD.ite ?_ ?_)
theorem T_ (h:fU n p)(ht:∀k,rg (tk L k).n/\gi (tk L k).s)(hn:n<=200000):∀k,aD (qZ L p k) cS.ok:=by
 intro k;unfold qZ
 repeat' (first
 | exact aD.fail
 | exact aD.yes (Ll (by first | exact cH | exact(ht _).2 | assumption | (show _<_;decide)) (by first | exact ak.nil (m:=0) | assumption | exact ak.three (by assumption) (by assumption) (by assumption) | exact ak.two (by assumption) (by assumption) | exact ak.one (by assumption)) (by omega))
 | refine aD.bY (λj k=> ?_)
 | exact h.gJ _
 | refine aD.bd (h.gJ _) (λa k ha=> ?_)
 | refine aD.ite ?_ ?_)
theorem Cy (h:fU n p)(ht:∀k,rg (tk L k).n/\gi (tk L k).s)(hn:n<=200000):∀l k m,ak Fn.ok m l->m+(n+1)<=300000->aD (nU L p l k) (ak Fn.ok 300000):=by
 intro l k m hl hm;unfold nU
 repeat' (first
 | exact aD.fail
 | exact aD.yes (ak.mono (ak.nil (m:=0)) (by omega))
 | exact aD.yes (ak.mono (ak.one (ht _).2) (by omega))
 | exact aD.yes (ak.mono (by assumption) (by omega))
 | exact aD.yes (by first | exact ak.nil (m:=0) | assumption | exact ak.three (by assumption) (by assumption) (by assumption) | exact ak.two (by assumption) (by assumption) | exact ak.one (by assumption))
 | exact aD.yes (ak.mono (by first | exact ak.nil (m:=0) | assumption | exact ak.three (by assumption) (by assumption) (by assumption) | exact ak.two (by assumption) (by assumption) | exact ak.one (by assumption)) (by omega))
 | exact h.ji _ _ _ (by first | exact ak.nil (m:=0) | exact ak.snoc (by assumption) (by first | assumption | exact(ht _).2) | exact ak.one (by first | assumption | exact(ht _).2)) (by omega)
 | refine aD.bd (h.ji _ _ _ (by first | exact ak.nil (m:=0) | exact ak.snoc (by assumption) (by first | assumption | exact(ht _).2) | exact ak.one (by first | assumption | exact(ht _).2)) (by omega)) (λa k ha=> ?_)
 | exact h.fn _
 | refine aD.bd (h.fn _) (λa k ha=> ?_)
 | refine aD.ite ?_ ?_)
theorem Ot (h:fU n p)(ht:∀k,rg (tk L k).n/\gi (tk L k).s)(hn:n<=200000):∀k,aD (jN L p k) FC:=by
 intro k;unfold jN
 repeat' (first
 | exact aD.fail
 | exact aD.yes (λx e=>by first | (cases e;done) | (cases e;exact Ct (by first | assumption | exact Lm) (by first | assumption | exact QM) (by first | exact ak.nil (m:=0) | assumption | exact ak.three (by assumption) (by assumption) (by assumption) | exact ak.two (by assumption) (by assumption) | exact ak.one (by assumption)) (by omega) (by first | assumption | exact Ln) (by first | assumption | exact Lo)))
 | refine aD.aQ (λk=> ?_)
 | exact h.exp _
 | refine aD.bd (h.exp _) (λa k ha=> ?_)
 | exact h.pat _
 | refine aD.bd (h.pat _) (λa k ha=> ?_)
 | exact h.fn _
 | refine aD.bd (h.fn _) (λa k ha=> ?_)
 | exact Cy h ht hn _ _ _ (by first | exact ak.nil (m:=0) | exact ak.snoc (by assumption) (by first | assumption | exact(ht _).2) | exact ak.one (by first | assumption | exact(ht _).2)) (by omega)
 | refine aD.bd (Cy h ht hn _ _ _ (by first | exact ak.nil (m:=0) | exact ak.snoc (by assumption) (by first | assumption | exact(ht _).2) | exact ak.one (by first | assumption | exact(ht _).2)) (by omega)) (λa k ha=> ?_)
 | refine aD.ite ?_ ?_)
theorem Cz (h:fU n p)(ht:∀k,rg (tk L k).n/\gi (tk L k).s)(hn:n<=200000):∀l k m,ak aB.ok m l->m+(n+1)<=300000->aD (m5 L p l k) (ak aB.ok 300000):=by
 intro l k m hl hm;unfold m5
 repeat' (first
 | exact aD.fail
 | exact aD.yes (ak.mono (ak.nil (m:=0)) (by omega))
 | exact aD.yes (ak.mono (ak.one (ht _).2) (by omega))
 | exact aD.yes (ak.mono (by assumption) (by omega))
 | exact aD.yes (by first | exact ak.nil (m:=0) | assumption | exact ak.three (by assumption) (by assumption) (by assumption) | exact ak.two (by assumption) (by assumption) | exact ak.one (by assumption))
 | exact aD.yes (ak.mono (by first | exact ak.nil (m:=0) | assumption | exact ak.three (by assumption) (by assumption) (by assumption) | exact ak.two (by assumption) (by assumption) | exact ak.one (by assumption)) (by omega))
 | exact h.cm _
 | refine aD.bd (h.cm _) (λa k ha=> ?_)
 | exact h.tH _ _ _ (by first | exact ak.nil (m:=0) | exact ak.snoc (by assumption) (by first | assumption | exact(ht _).2) | exact ak.one (by first | assumption | exact(ht _).2)) (by omega)
 | refine aD.bd (h.tH _ _ _ (by first | exact ak.nil (m:=0) | exact ak.snoc (by assumption) (by first | assumption | exact(ht _).2) | exact ak.one (by first | assumption | exact(ht _).2)) (by omega)) (λa k ha=> ?_)
 | refine aD.ite ?_ ?_)
theorem Xf (h:fU n p)(ht:∀k,rg (tk L k).n/\gi (tk L k).s)(hn:n<=200000):∀k,aD (HA L p k) Fn.ok:=by
 intro k;unfold HA
 repeat' (first
 | exact aD.fail
 | exact aD.yes (Xc (by first | exact cH | exact(ht _).2 | assumption | (show _<_;decide)) (by first | exact ak.nil (m:=0) | assumption | exact ak.three (by assumption) (by assumption) (by assumption) | exact ak.two (by assumption) (by assumption) | exact ak.one (by assumption)) (by omega) (by assumption))
 | refine aD.aQ (λk=> ?_)
 | refine aD.bY (λj k=> ?_)
 | exact h.exp _
 | refine aD.bd (h.exp _) (λa k ha=> ?_)
 | exact h.cm _
 | refine aD.bd (h.cm _) (λa k ha=> ?_)
 | exact Cz h ht hn _ _ _ (by first | exact ak.nil (m:=0) | exact ak.snoc (by assumption) (by first | assumption | exact(ht _).2) | exact ak.one (by first | assumption | exact(ht _).2)) (by omega)
 | refine aD.bd (Cz h ht hn _ _ _ (by first | exact ak.nil (m:=0) | exact ak.snoc (by assumption) (by first | assumption | exact(ht _).2) | exact ak.one (by first | assumption | exact(ht _).2)) (by omega)) (λa k ha=> ?_)
 | refine aD.ite ?_ ?_)
theorem Ua (h:fU n p)(ht:∀k,rg (tk L k).n/\gi (tk L k).s)(hn:n<=200000):∀k,aD (kr L p k) FC:=by
 intro k;unfold kr
 repeat' (first
 | exact aD.fail
 | exact aD.yes (λx e=>by first | (cases e;done) | (cases e;exact Ct (by first | assumption | exact Lm) (by first | assumption | exact QM) (by first | exact ak.nil (m:=0) | assumption | exact ak.three (by assumption) (by assumption) (by assumption) | exact ak.two (by assumption) (by assumption) | exact ak.one (by assumption)) (by omega) (by first | assumption | exact Ln) (by first | assumption | exact Lo)))
 | exact h.iH _
 | refine aD.bd (h.iH _) (λa k ha=> ?_)
 | exact h.bind _
 | refine aD.bd (h.bind _) (λa k ha=> ?_)
 | exact h.data _
 | refine aD.bd (h.data _) (λa k ha=> ?_)
 | refine aD.ite ?_ ?_)
theorem CA (h:fU n p)(ht:∀k,rg (tk L k).n/\gi (tk L k).s)(hn:n<=200000):∀l k m,ak gi m l->m+(n+1)<=300000->aD (fi L p l k) (ak gi 300000):=by
 intro l k m hl hm;unfold fi
 repeat' (first
 | exact aD.fail
 | exact aD.yes (ak.mono (ak.nil (m:=0)) (by omega))
 | exact aD.yes (ak.mono (ak.one (ht _).2) (by omega))
 | exact aD.yes (ak.mono (by assumption) (by omega))
 | exact aD.yes (by first | exact ak.nil (m:=0) | assumption | exact ak.three (by assumption) (by assumption) (by assumption) | exact ak.two (by assumption) (by assumption) | exact ak.one (by assumption))
 | exact aD.yes (ak.mono (by first | exact ak.nil (m:=0) | assumption | exact ak.three (by assumption) (by assumption) (by assumption) | exact ak.two (by assumption) (by assumption) | exact ak.one (by assumption)) (by omega))
 | refine aD.bY (λj k=> ?_)
 | exact h.iq _ _ _ (by first | exact ak.nil (m:=0) | exact ak.snoc (by assumption) (by first | assumption | exact(ht _).2) | exact ak.one (by first | assumption | exact(ht _).2)) (by omega)
 | refine aD.bd (h.iq _ _ _ (by first | exact ak.nil (m:=0) | exact ak.snoc (by assumption) (by first | assumption | exact(ht _).2) | exact ak.one (by first | assumption | exact(ht _).2)) (by omega)) (λa k ha=> ?_)
 | refine aD.ite ?_ ?_)
theorem FG (h:fU n p)(ht:∀k,rg (tk L k).n/\gi (tk L k).s)(hn:n<=200000):∀k,aD (nu L p k) (ak gi 300000):=by
 intro k;unfold nu
 repeat' (first
 | exact aD.fail
 | exact aD.yes (ak.mono (ak.nil (m:=0)) (by omega))
 | exact aD.yes (ak.mono (ak.one (ht _).2) (by omega))
 | exact aD.yes (ak.mono (by assumption) (by omega))
 | exact aD.yes (by first | exact ak.nil (m:=0) | assumption | exact ak.three (by assumption) (by assumption) (by assumption) | exact ak.two (by assumption) (by assumption) | exact ak.one (by assumption))
 | exact aD.yes (ak.mono (by first | exact ak.nil (m:=0) | assumption | exact ak.three (by assumption) (by assumption) (by assumption) | exact ak.two (by assumption) (by assumption) | exact ak.one (by assumption)) (by omega))
 | refine aD.aQ (λk=> ?_)
 | refine aD.bY (λj k=> ?_)
 | exact CA h ht hn _ _ _ (by first | exact ak.nil (m:=0) | exact ak.snoc (by assumption) (by first | assumption | exact(ht _).2) | exact ak.one (by first | assumption | exact(ht _).2)) (by omega)
 | refine aD.bd (CA h ht hn _ _ _ (by first | exact ak.nil (m:=0) | exact ak.snoc (by assumption) (by first | assumption | exact(ht _).2) | exact ak.one (by first | assumption | exact(ht _).2)) (by omega)) (λa k ha=> ?_)
 | refine aD.ite ?_ ?_)
theorem yT (h:fU n p)(ht:∀k,rg (tk L k).n/\gi (tk L k).s)(hn:n<=200000):∀l k m,ak cS.ok m l->m+(n+1)<=300000->aD (ir L p l k) (ak cS.ok 300000):=by
 intro l k m hl hm;unfold ir
 repeat' (first
 | exact aD.fail
 | exact aD.yes (ak.mono (ak.nil (m:=0)) (by omega))
 | exact aD.yes (ak.mono (ak.one (ht _).2) (by omega))
 | exact aD.yes (ak.mono (by assumption) (by omega))
 | exact aD.yes (by first | exact ak.nil (m:=0) | assumption | exact ak.three (by assumption) (by assumption) (by assumption) | exact ak.two (by assumption) (by assumption) | exact ak.one (by assumption))
 | exact aD.yes (ak.mono (by first | exact ak.nil (m:=0) | assumption | exact ak.three (by assumption) (by assumption) (by assumption) | exact ak.two (by assumption) (by assumption) | exact ak.one (by assumption)) (by omega))
 | exact h.iH _
 | refine aD.bd (h.iH _) (λa k ha=> ?_)
 | exact h.iQ _ _ _ (by first | exact ak.nil (m:=0) | exact ak.snoc (by assumption) (by first | assumption | exact(ht _).2) | exact ak.one (by first | assumption | exact(ht _).2)) (by omega)
 | refine aD.bd (h.iQ _ _ _ (by first | exact ak.nil (m:=0) | exact ak.snoc (by assumption) (by first | assumption | exact(ht _).2) | exact ak.one (by first | assumption | exact(ht _).2)) (by omega)) (λa k ha=> ?_)
 | refine aD.ite ?_ ?_)
theorem Ou (h:fU n p)(ht:∀k,rg (tk L k).n/\gi (tk L k).s)(hn:n<=200000):∀k,aD (lF L p k) Data.ok:=by
 intro k;unfold lF
 repeat' (first
 | exact aD.fail
 | exact aD.yes (FA (by first | exact ak.nil (m:=0) | assumption | exact ak.three (by assumption) (by assumption) (by assumption) | exact ak.two (by assumption) (by assumption) | exact ak.one (by assumption)) (by omega) (by first | exact cH | exact(ht _).2 | assumption | (show _<_;decide)) (by first | exact ak.nil (m:=0) | assumption | exact ak.three (by assumption) (by assumption) (by assumption) | exact ak.two (by assumption) (by assumption) | exact ak.one (by assumption)) (by omega))
 | refine aD.aQ (λk=> ?_)
 | refine aD.bY (λj k=> ?_)
 | exact h.iH _
 | refine aD.bd (h.iH _) (λa k ha=> ?_)
 | exact FG h ht hn _
 | refine aD.bd (FG h ht hn _) (λa k ha=> ?_)
 | exact yT h ht hn _ _ _ (by first | exact ak.nil (m:=0) | exact ak.snoc (by assumption) (by first | assumption | exact(ht _).2) | exact ak.one (by first | assumption | exact(ht _).2)) (by omega)
 | refine aD.bd (yT h ht hn _ _ _ (by first | exact ak.nil (m:=0) | exact ak.snoc (by assumption) (by first | assumption | exact(ht _).2) | exact ak.one (by first | assumption | exact(ht _).2)) (by omega)) (λa k ha=> ?_)
 | refine aD.ite ?_ ?_)
theorem Ov (h:fU n p)(ht:∀k,rg (tk L k).n/\gi (tk L k).s)(hn:n<=200000):∀l k m,ak aG.ok m l->m+(n+1)<=300000->aD (jO L p l k) (ak aG.ok 300000):=by
 intro l k m hl hm;unfold jO;refine aD.ite (aD.yes (hl.mono (by omega))) (aD.bd (h.dec _) λd k hd=> ?_);cases d with
 | none=>exact aD.bd (h.exp _) λe k he=>h.cq _ _ _ (hl.snoc (Ct Lm he (ak.nil (m:=0)) (by omega) Ln Lo)) (by omega)
 | some d=>exact h.cq _ _ _ (hl.snoc (hd d rfl)) (by omega)
theorem Ub (ht:tS L):∀n,n<=200000->fU n (ps L n)
 | 0,_=>by constructor<;>intros<;>exact aD.none
 | n+1,hn=>by
   have h:=Ub ht n (by omega);have ht:=ht.tk;have hn:n<=200000:=by omega
   exact {
    exp:=T5 (L:=L) h ht hn
    j4:=T6 (L:=L) h ht hn
    bin:=T7 (L:=L) h ht hn
    jt:=Lp (L:=L) h ht hn
    un:=Xd (L:=L) h ht hn
    ju:=Cu (L:=L) h ht hn
    atom:=Oo (L:=L) h ht hn
    cU:=tT (L:=L) h ht hn
    lt:=Xe (L:=L) h ht hn
    iD:=Cv (L:=L) h ht hn
    pat:=T8 (L:=L) h ht hn
    cm:=Lr (L:=L) h ht hn
    iP:=yQ (L:=L) h ht hn
    gJ:=T9 (L:=L) h ht hn
    ff:=yR (L:=L) h ht hn
    post:=Oq (L:=L) h ht hn
    rC:=Cx (L:=L) h ht hn
    dZ:=yS (L:=L) h ht hn
    iH:=T_ (L:=L) h ht hn
    bind:=Ot (L:=L) h ht hn
    ji:=Cy (L:=L) h ht hn
    fn:=Xf (L:=L) h ht hn
    tH:=Cz (L:=L) h ht hn
    dec:=Ua (L:=L) h ht hn
    data:=Ou (L:=L) h ht hn
    iq:=CA (L:=L) h ht hn
    iQ:=yT (L:=L) h ht hn
    cq:=Ov (L:=L) h ht hn }
end
section
variable {nx0 nx nx' bp k:Nat}{H0 H H':T OB}{F A B G G':List Bx}{R:Go.Ev.Out->T OB->Nat->Prop}{b:Nat}{l:List Value}{e t:TypeId}{L:List Tok}
def G9:kn (List aG)->List aG×Int×Int
 | .bad a=>([],a,80)
 | .ok ds _=>if 100<jd ds 0 then([],0,81)else(ds,0,0)
def m8 (L:List Tok)(o:kn (List aG)):List aG×Int×Int:=if L.all aV=true then G9 o else([],0,110)
def DV (ds:List aG)(v:Value):Prop:=v=ca ds\/(ds=[]/\v=aw)
abbrev Ow (r:List aG×Int×Int):Go.Ev.Out->T OB->Nat->Prop:=λq _ _=>∃v,q= .ret (.tuple ⟨[v,i64 r.2.1,i64 r.2.2]⟩)/\DV r.1 v
theorem Ls {i:Nat}{t:Tok}(hg:L[i]? = some t)(hp:(L.take i).all aV=true)(ht:aV t=true):(L.take (i+1)).all aV=true:=by
 rw[List.take_add_one,hg,List.all_append,hp];simp[ht]
theorem FH {i:Nat}{t:Tok}(hg:L[i]? = some t)(ht:aV t=false):¬L.all aV=true:=λq=>by
 have:=List.all_eq_true.1 q t (List.mem_of_getElem? hg);rw[ht]at this;cases this
theorem YL {u:Value}:∃H',jz H nx e (some u)= .val (ptr nx) H' (nx+1)/\cA H' nx u.cells.toList e/\Ag nx H (nx+1) H'/\∀b l e,b<nx->cA H b l e->cA H' b l e:=by
 obtain⟨o,H',nx',hA,⟨h1,h2,h3,h4⟩,hr⟩:=Wq.box (P:=P) (pl:=pl) (X:=X0) (R:=λo H2 nx2=>o= .ret (ptr nx)/\nx2=nx+1/\cA H2 nx u.cells.toList e/\∀b l e,b<nx->cA H b l e->cA H2 b l e) (k:=λv H nx=> .ret ⟨.ret v,false,H,nx⟩) (u:=u) (e:=e) (Ag.refl nx H) λH' hb cc hA=>Wq.nN hA ⟨rfl,rfl,hb,cc⟩;cases he:jz H nx e (some u)with
 | val v H1 av=>
   rw[he]at hr;have hr:some (⟨.ret v,false,H1,av⟩:Rt)=some ⟨o,false,H',nx'⟩:=hr;cases hr;cases h1;subst h2;exact⟨_,rfl,h3,hA,h4⟩
 | _=>rw[he]at hr;cases hr
theorem Lt {x:fj}{v:Value}{k:Value->T OB->Nat->Q}(h:x= .val v H nx):aR x k=k v H nx:=by rw[h];rfl
def YM (x0:Value)(H:T OB)(nx:Nat):Q:=aR (cD P H nx 23) (λx1 H nx=>aR (cD P H nx 3) (λx2 H nx=>aR (cD P H nx 24) (λx3 H nx=>af (cv P #[35] 3 (some [x0])) (λx4=> .jump (Ad x0 x1 x2 x3 x0 x4 (.int .i64 0) H nx)) .bad)))
theorem YN (a0:Value)(H:T OB)(nx:Nat):aI P pl (.call 13 [a0] false none H nx)=fl P 35 a0 H nx YM:=Zk a0 H nx
theorem Xg (v:Value)(hv:aj v=true):a9 P 79 (some [(0,ku L)])=some (.agg ⟨[ku L,i64 0]⟩):=aX (z:=[aw,i64 0]) (by kernel_rfl) (by kernel_rfl)
theorem Zf (hL:L.length<=100000)(hT:tS L){n:Nat}(hn:n<=90000){o:kn (List aG)}(ho:(ps L n).cq [] 0=some o){x1 x2 x3:Nat}:∀(d i nx:Nat) (H:Go.Ev.T OB),i+d=L.length->(L.take i).all aV=true->Hp nx0 H0 [(x1,[aw],23),(x2,[i64 0],3),(x3,[i64 0],24)] H nx->
 aF P pl X0 (.jump (Ad (ku L) (ptr x1) (ptr x2) (ptr x3) (ku L) (i64 (L.length:Int)) (i64 ((i:Nat):Int)) H nx)) nx0 H0 (Ow (m8 L o))
 | d+1,i,nx,H,hd,hp,h=>by
   have hlt:i<L.length:=by omega
   have hg:L[i]? = some L[i]:=List.getElem?_eq_getElem hlt;have hx:(L.map Tok.v)[i]? = some L[i].v:=by simp[hg]
   refine Wq.jmp (PM ..) (λ_=>rfl) ?_;simp only[ab,aE hlt,IF hx];refine Hq.var dS eA rfl rfl rfl h λH1 av h1=> ?_;refine Hq.qK (JI L[i] (by have:=(hT _ (List.mem_of_getElem? hg)).2;have h9:L[i].s.length<_:=this;omega)) h1 λH2 nx2 h2=> ?_;cases ht:aV L[i]with
   | false=>
     simp only[ab,Bool.not_false];refine Hq.put [] h2 vb rfl rfl (by simp) rfl λH3 h3=> ?_;refine Hq.put [_] h3 mW rfl rfl (by simp) rfl λH4 h4=> ?_;refine Hq.put [_,_] h4 Et rfl rfl (by simp) rfl λH5 h5=> ?_;simp only[ab,ah (off:=0) (u:=aw) (h5.at_ 0 rfl) ma rfl,ah (off:=0) (u:=i64 0) (h5.at_ 1 rfl) oR rfl,ah (off:=0) (u:=i64 110) (h5.at_ 2 rfl) wH rfl];refine Wq.nN h5.ag ⟨aw,?_,?_⟩
     . unfold m8;rw[if_neg (FH hg ht)]
     . unfold m8;rw[if_neg (FH hg ht)];exact .inr ⟨rfl,rfl⟩
   | true=>
     simp only[ab,Bool.not_true,ao (i:=i) (by omega)];exact Zf hL hT hn ho d (i+1) nx2 H2 (by omega) (Ls hg hp ht) h2
 | 0,i,nx,H,hd,hp,h=>by
   have hall:L.all aV=true:=by rwa[List.take_of_length_le (by omega)]at hp
   have hout:m8 L o=G9 o:=by unfold m8;rw[if_pos hall]
   rw[hout];refine Wq.jmp (PM ..) (λ_=>rfl) ?_;have hge:i=L.length:=by omega
   subst hge;simp only[ab,aA,Xg (L:=L) aw rfl];obtain⟨H1,eb,hb,hA1,cc⟩:=YL (H:=H) (nx:=nx) (e:=79) (u:= .agg ⟨[ku L,i64 0]⟩);rw[Lt eb];have h2:Hp nx H (cQ nx L 0::[]) H1 (nx+1):=⟨h.yq.ag h.ag,hA1,by simp,λx hx=>by
    rw[List.mem_singleton]at hx;subst hx;exact⟨Nat.le_refl _,Nat.lt_succ_self _,hb⟩⟩
   refine Wq.iF rfl (aF.base h.ag (YK hL hn nx (nx+1) H H1 nx [] 0 o ho h2)) (λu H3 nx3 hA he=> ?_) (λu H3 nx3 hA he=> ?_)
   . have h4:=h.cc hA he.2.1 λb l e hb hi=>hi.ag he.2 hb;replace he:=he.1;cases o with
     | bad a=>cases he
     | ok ds k=>
       obtain⟨e1,h3⟩:=he;cases e1;have hok:=(Ub hT n (by omega)).cq [] 0 0 ak.nil (by omega) ds k ho;refine Hq.put [] h4 vb rfl rfl (by simp) rfl λH5 h5=> ?_;simp only[ab,ah (off:=0) (u:=ca ds) (h5.at_ 0 rfl) ma rfl];refine Hq.call (V0 ds (hok.dQ (by omega)) hok.2) h5 λH6 nx6 h6=> ?_;simp only[ab];refine Wq.ite (λhi=> ?_) (λhi=> ?_)
       . refine Hq.put [] h6 vb rfl rfl (by simp) rfl λH7 h7=> ?_;refine Hq.put [_] h7 mW rfl rfl (by simp) rfl λH8 h8=> ?_;refine Hq.put [_,_] h8 Et rfl rfl (by simp) rfl λH9 h9=> ?_;refine Fz ?_;refine aF.cast (q':=af (ai P H9 23 (some (ptr x1))) (λa=>af (ai P H9 3 (some (ptr x2))) (λb=>af (ai P H9 24 (some (ptr x3))) (λc=> .ret ⟨.ret (.tuple ⟨[a,b,c]⟩),false,H9,nx6⟩) .bad) .bad) .bad) (by kernel_rfl) ?_;simp only[ab,ah (off:=0) (u:=aw) (h9.at_ 0 rfl) ma rfl,ah (off:=0) (u:=i64 0) (h9.at_ 1 rfl) oR rfl,ah (off:=0) (u:=i64 81) (h9.at_ 2 rfl) wH rfl];have e9:G9 (.ok ds k)=([],0,81):=by
          show(if _ then _ else _)=_;rw[if_pos hi]
         rw[e9];exact Wq.nN h9.ag ⟨aw,rfl,.inr ⟨rfl,rfl⟩⟩
       . simp only[ab,ah (off:=0) (u:=ca ds) (h6.at_ 0 rfl) ma rfl];refine Hq.put [] h6 vb rfl rfl (by simp) rfl λH7 h7=> ?_;refine Hq.put [_] h7 mW rfl rfl (by simp) rfl λH8 h8=> ?_;refine Hq.put [_,_] h8 Et rfl rfl (by simp) rfl λH9 h9=> ?_;refine Fz ?_;refine aF.cast (q':=af (ai P H9 23 (some (ptr x1))) (λa=>af (ai P H9 3 (some (ptr x2))) (λb=>af (ai P H9 24 (some (ptr x3))) (λc=> .ret ⟨.ret (.tuple ⟨[a,b,c]⟩),false,H9,nx6⟩) .bad) .bad) .bad) (by kernel_rfl) ?_;simp only[ab,ah (off:=0) (u:=ca ds) (h9.at_ 0 rfl) ma rfl,ah (off:=0) (u:=i64 0) (h9.at_ 1 rfl) oR rfl,ah (off:=0) (u:=i64 0) (h9.at_ 2 rfl) wH rfl];have e9:G9 (.ok ds k)=(ds,0,0):=by
          show(if _ then _ else _)=_;rw[if_neg hi]
         rw[e9];exact Wq.nN h9.ag ⟨ca ds,rfl,.inl rfl⟩
   . have h4:=h.cc hA he.2.1 λb l e hb hi=>hi.ag he.2 hb;replace he:=he.1;cases o with
     | ok a k'=>cases he.1
     | bad a=>
       cases he;refine On h4 λH9 nx9 h9=> ?_;refine aF.cast (q':=af (ai P H9 23 (some (ptr x1))) (λa=>af (ai P H9 3 (some (ptr x2))) (λb=>af (ai P H9 24 (some (ptr x3))) (λc=> .ret ⟨.ret (.tuple ⟨[a,b,c]⟩),false,H9,nx9⟩) .bad) .bad) .bad) (by kernel_rfl) ?_;simp only[ab,ah (off:=0) (u:=aw) (h9.at_ 0 rfl) ma rfl,ah (off:=0) (u:=i64 a) (h9.at_ 1 rfl) oR rfl,ah (off:=0) (u:=i64 80) (h9.at_ 2 rfl) wH rfl];exact Wq.nN h9.ag ⟨aw,rfl,.inr ⟨rfl,rfl⟩⟩
theorem k15 (hT0:dY nx H)(hL:L.length<=100000)(hT:tS L){n:Nat}(hn:n<=90000){o:kn (List aG)}(ho:(ps L n).cq [] 0=some o):aF P pl X0 (YM (ku L) H nx) nx H (Ow (m8 L o)):=by
 unfold YM;refine Wq.alloc MP (Ag.refl nx H) λH1 hb cc hA=> ?_;have h0:Hp nx H [] H nx:=⟨hT0,Ag.refl nx H,by simp,λx hx=>by simp at hx⟩;have h1:Hp nx H [(nx,[aw],23)] H1 (nx+1):=h0.new hb cc hA;refine Hq.alloc Rw h1 λx2 H2 nx2 h2=> ?_;refine Hq.alloc MQ h2 λx3 H3 nx3 h3=> ?_;simp only[ab,List.length_map];exact Zf hL hT hn ho L.length 0 nx3 H3 (by omega) rfl (Hp.swap' h3)
end
section
variable {nx0:Nat}{H0:T OB}
def dv (c:UInt8):Nat:=c.toNat-48
def mB:Nat->List UInt8->Option Nat
 | n,[]=>some n
 | n,c::r=>if ck c=true/\n<=(4611686018427387903-dv c)/10 then mB (n*10+dv c) r else none
theorem kB {c:UInt8}:ck c=true↔48<=c.toNat/\c.toNat<=57:=by unfold ck;simp
theorem dvw {c:UInt8}(h:ck c=true):IntKind.u8.wrap ((c.toNat:Int)-48)=(dv c:Int):=by
 rw[kB]at h;rw[wrap_u8];unfold dv;omega
theorem QN {c:UInt8}(h:ck c=true):dv c<=9:=by
 rw[kB]at h;unfold dv;omega
def fC (c:UInt8):Int:=if ck c=true then(c.toNat:Int)-48 else if(decide (65<=c.toNat)&&decide (c.toNat<=70))=true then(c.toNat:Int)-55 else -1
theorem FI (c:UInt8): -1<=fC c/\fC c<16:=by
 unfold fC;split
 . rename_i h;rw[kB]at h;omega
 . split
   . rename_i h h2;simp only[Bool.and_eq_true,decide_eq_true_eq]at h2;omega
   . omega
def Lu:List UInt8->UInt8×Nat
 | y::z::_=>if 0<=fC y/\0<=fC z then(UInt8.ofNat (16*fC y+fC z).toNat,4)else(0,0)
 | _=>(0,0)
def nX:List UInt8->UInt8×Nat
 | []=>(0,0)
 | x::t=>if x.toNat=34 then(34,2)else if x.toNat=92 then(92,2)else if x.toNat=110 then(10,2)else if x.toNat=116 then(9,2)else if x.toNat=120 then Lu t else(0,0)
def gY:List UInt8->UInt8×Nat
 | []=>(0,0)
 | a::t=>if a.toNat<32\/126<a.toNat\/a.toNat=34 then(0,0)else if a.toNat=92 then nX t else(a,1)
theorem gr (x:UInt8)(t:List UInt8):nX (x::t)=if x.toNat=34 then(34,2)else if x.toNat=92 then(92,2)else if x.toNat=110 then(10,2)else if x.toNat=116 then(9,2)else if x.toNat=120 then Lu t else(0,0):=rfl
theorem mT (a:UInt8)(t:List UInt8):gY (a::t)=if a.toNat<32\/126<a.toNat\/a.toNat=34 then(0,0)else if a.toNat=92 then nX t else(a,1):=rfl
theorem FJ (s:List UInt8):(gY s).2<=s.length:=by
 cases s with
 | nil=>exact Nat.zero_le _
 | cons a t=>
   rw[mT]
   by_cases h1:a.toNat<32\/126<a.toNat\/a.toNat=34
   . rw[if_pos h1];exact Nat.zero_le _
   rw[if_neg h1]
   by_cases h2:a.toNat=92
   . rw[if_pos h2];cases t with
     | nil=>exact Nat.zero_le _
     | cons x t=>
       rw[gr];have h22:2<=(a::x::t).length:=by simp
       by_cases h3:x.toNat=34
       . rw[if_pos h3];exact h22
       rw[if_neg h3]
       by_cases h3:x.toNat=92
       . rw[if_pos h3];exact h22
       rw[if_neg h3]
       by_cases h3:x.toNat=110
       . rw[if_pos h3];exact h22
       rw[if_neg h3]
       by_cases h3:x.toNat=116
       . rw[if_pos h3];exact h22
       rw[if_neg h3]
       by_cases h3:x.toNat=120
       . rw[if_pos h3]
         match t with
         | []=>exact Nat.zero_le _
         | [_]=>exact Nat.zero_le _
         | y::z::r=>
           show(if 0<=fC y/\0<=fC z then _ else _:UInt8×Nat).2<=_
           by_cases h4:0<=fC y/\0<=fC z
           . rw[if_pos h4];show 4<=(a::x::y::z::r).length;simp
           . rw[if_neg h4];exact Nat.zero_le _
       . rw[if_neg h3];exact Nat.zero_le _
   . rw[if_neg h2];show 1<=(a::t).length;simp
end
end
end Go.Proofs.YthjhonhhbddhkaaDoor
namespace Go.Proofs.YthjhonhhbddhkaaDoor
open Go.Ev Go.RowKit Go.ChangeShapes Go.WideShapes Go.ChangeAt
noncomputable section
set_option maxRecDepth 100000
set_option linter.unusedVariables false
set_option linter.unusedSimpArgs false
set_option maxHeartbeats 8000000
section
variable {H:Type}{enc:TypeId×Value->H}{W:World}{sp:Nat->Bool}{held:Bool}
theorem c2:P.cellsOf 2=1:=by kernel_rfl
theorem c9:P.cellsOf 9=1:=by kernel_rfl
theorem vrs {φ:cK}(s:ByteArray):VR φ (au s.data.toList) (.string s):=by
 have es:au s.data.toList= .string s:=by cases s;rfl
 rw[es];exact .flat _ rfl
end
section
variable {W:World}
theorem CB {r:Option Rt}(h:isTrue r=true):∃H nx,r=some ⟨.ret (.bool true),false,H,nx⟩:=by
 unfold isTrue at h;split at h
 . exact⟨_,_,rfl⟩
 . cases h
theorem Lv (w:World):zW P w (λ_ _=>none):=λf args v h=>by cases h
theorem kC:P.globals.size=4:=by kernel_rfl
structure qQ (w:World):Prop where
 size:P.globals.size<=w.heap.size
 yq:∀x,x∈iM->x.1<P.globals.size/\∃c el fz,w.heap[x.1]? = some (.cells c el fz)/\x.2.length<=c.size/\∀(i:Nat) (v v':Value),x.2[i]? = some v->c[i]? = some v'->VR (jU w) v v'
theorem Ox {w w':World}(hb:Below w.heap.size w w'):(jU w).le (jU w'):=λk e h=>by
 obtain⟨h1,rfl⟩:=mh h;have:mg w' k=mg w k:=by
  unfold mg;rw[hb.block k h1]
 rw[yk (Nat.lt_of_lt_of_le h1 hb.size),this]
theorem qQ.below {w:World}(h:qQ W)(hb:Below W.heap.size W w):qQ w where
 size:=Nat.le_trans h.size hb.size
 yq:=λx hx=>by
  obtain⟨h0,c,el,fz,h1,h2,h3⟩:=h.yq x hx;exact⟨h0,c,el,fz,by rw[hb.block _ (Nat.lt_of_lt_of_le h0 h.size)];exact h1,h2,λi v v' a b=>(h3 i v v' a b).mono (Ox hb)⟩
theorem Xh {w:World}(ht:qQ w):HR P w (jU w) (hp (nn iM .leaf)) w:=by
 have inv:∀k ob,hp (nn iM .leaf) k=some ob->∃x∈iM,x.1=k/\ob= .ro x.2.length (e8 x.2 0 .leaf):=λk ob h=>by
  rcases tA iM .leaf k ob h with h | h
  . exact h
  . rw[lb]at h;cases h
 have hW:=Ya (P:=P) ht.size;exact {
  below:= .refl _ _
  qw:=λk ob h=>by
   obtain⟨x,hx,rfl,_⟩:=inv k ob h;rw[qJ];exact Nat.lt_of_lt_of_le (ht.yq x hx).1 ht.size
  pc:=hW.pc
  inj:=λk k' ob ob' e e' _ _ h _ hl=>by
   obtain⟨x,hx,rfl,rfl⟩:=inv k ob h;cases hl
  obj:=λk ob e h he=>by
   obtain⟨x,hx,rfl,rfl⟩:=inv k ob h;obtain⟨h0,c,el,fz,h1,h2,h3⟩:=ht.yq x hx;obtain⟨h4,rfl⟩:=mh he;refine .inl ⟨h4,c,el,fz,h1,h2,λi hi v hv=> ?_⟩;rw[dO,if_pos (by omega),Nat.sub_zero]at hv;have hlt:i<c.size:=by omega
   exact⟨c[i],Array.getElem?_eq_getElem hlt,h3 i v _ hv (Array.getElem?_eq_getElem hlt)⟩
  gl:=hW.gl
  ng:=hW.ng
  sq:=λk k' e e' c ob _ _ _ h hl=>by
   obtain⟨x,hx,rfl,rfl⟩:=inv k' ob h;cases hl }
theorem G_ {n:Nat}(hn:4<=n):dY n (nn iM .leaf):=by
 refine⟨hn,λx hx=> ?_⟩;have key:∀(l:List Value) (i:Nat),i<l.length->(e8 l 0 (.leaf:T Value)).get (Ev.bits i)=l[i]? := λl i hi=>by
  rw[dO,if_pos (by omega),Nat.sub_zero]
 have e:∀(b:Nat),(nn iM .leaf).get (Ev.bits b)=if b=3 then some (.ro (aC.map lvl).length (e8 (aC.map lvl) 0 .leaf))else if b=2 then some (.ro (cX.map au).length (e8 (cX.map au) 0 .leaf))else if b=1 then some (.ro (nq.map au).length (e8 (nq.map au) 0 .leaf))else if b=0 then some (.ro (bC.map au).length (e8 (bC.map au) 0 .leaf))else none:=λb=>by
  show(Ev.set (Ev.set (Ev.set (Ev.set (.leaf:T OB) (Ev.bits 0) _) (Ev.bits 1) _) (Ev.bits 2) _) (Ev.bits 3) _).get (Ev.bits b)=_;rw[Ev.get_at,Ev.get_at,Ev.get_at,Ev.get_at];have:(T.leaf:T OB).get (Ev.bits b)=none:=lb b;rw[this]
 simp only[iM,List.mem_cons,List.not_mem_nil,or_false]at hx;rcases hx with rfl | rfl | rfl | rfl
 . exact⟨_,by rw[e];rfl,key _⟩
 . exact⟨_,by rw[e];rfl,key _⟩
 . exact⟨_,by rw[e];rfl,key _⟩
 . exact⟨_,by rw[e];rfl,key _⟩
theorem Oy {w:World}{l:List (List UInt8)}{v':Value}(hl:l≠[])(h:VR (jU w) (lvl l) v'):∃k,k<w.heap.size/\∀(φ:cK) (j:Nat),φ[j]? = some (some ⟨k,0,0,mg w k⟩)->VR φ (lvl l) v':=by
 obtain⟨a0,r0,rfl⟩:∃a r,l=a::r:=by
  cases l with
  | nil=>exact absurd rfl hl
  | cons a r=>exact⟨a,r,rfl⟩
 have hl':(a0::r0).map au≠[]:=by simp
 have key:∀x,x=lvl (a0::r0)->VR (jU w) x v'->∃k,k<w.heap.size/\∀(φ:cK) (j:Nat),φ[j]? = some (some ⟨k,0,0,mg w k⟩)->VR φ (lvl (a0::r0)) v':=by
  intro x hx h;cases h with
  | flat v h=>subst hx;cases h
  | uh s=>injection hx with _ h1 _;injection h1 with h1;exact absurd h1.symm hl'
  | sn s a c=>injection hx with _ h1 _;injection h1 with h1;exact absurd h1.symm hl'
  | row h1 hf hs hn hc hx'=>
    injection hx with h2 h3 _
    injection h2 with h2
    injection h3 with h3
    subst h2 h3;obtain⟨hk,rfl⟩:=mh h1;refine⟨_,hk,λφ j hj=>VR.row (o:=_) hj hf hs hn hc λi j x v v' a b c=> ?_⟩;have h4:=hx' i j x v v' a b c;obtain⟨s,_,rfl⟩:=List.mem_map.1 (List.mem_of_getElem? a);have hfl:Ev.flat v=true:=by
     have:v∈[au s]:=List.mem_of_getElem? b;rw[List.mem_singleton.1 this];rfl
    rw[h4.al hfl];exact .flat _ hfl
  | ep h1 hf hn hx'=>
    injection hx with _ _ h3
    injection h3 with h3
    injection h3 with h3
    cases h3
  | _=>cases hx
 exact key _ rfl h
def uy (w:World)(f:Nat->Nat):cK:=(List.range 11).map λk=>if k<4 then some ⟨k,0,0,none⟩else some ⟨f k,0,0,mg w (f k)⟩
theorem qR (w:World)(f:Nat->Nat):(uy w f).length=11:=by simp[uy]
theorem tU {w:World}{f:Nat->Nat}{k:Nat}{e:iz}(h:(uy w f)[k]? = some (some e)):k<11/\((k<4/\e=⟨k,0,0,none⟩)\/(4<=k/\e=⟨f k,0,0,mg w (f k)⟩)):=by
 unfold uy at h;rw[List.getElem?_map]at h
 by_cases hk:k<11
 . rw[List.getElem?_range hk]at h;simp only[Option.map_some,Option.some.injEq]at h;refine⟨hk,?_⟩
   by_cases h4:k<4
   . rw[if_pos h4]at h;exact .inl ⟨h4,(Option.some.inj h).symm⟩
   . rw[if_neg h4]at h;exact .inr ⟨by omega,(Option.some.inj h).symm⟩
 . rw[List.getElem?_eq_none (by simp;omega)]at h;cases h
theorem Oz {w:World}{f:Nat->Nat}{k:Nat}(h:k<4):(uy w f)[k]? = some (some ⟨k,0,0,none⟩):=by
 unfold uy;rw[List.getElem?_map,List.getElem?_range (by omega)];simp[h]
theorem OA {w:World}{f:Nat->Nat}{k:Nat}(h:4<=k)(h':k<11):(uy w f)[k]? = some (some ⟨f k,0,0,mg w (f k)⟩):=by
 unfold uy;rw[List.getElem?_map,List.getElem?_range h'];simp only[Option.map_some];rw[if_neg (by omega)]
theorem Xi {w:World}{k:Nat}{c:Array Value}(h:mg w k=some c):∃el fz,w.heap[k]? = some (.cells c el fz):=by
 unfold mg at h;split at h
 . rename_i c' el fz hc;cases h;exact⟨el,fz,hc⟩
 . cases h
theorem YO {w:World}(ht:qQ w):∃f,HR P w (uy w f) (hp (nn iM .leaf)) w:=by
 obtain⟨_,c2,el2,fz2,hc2,hs2,hv2⟩:=ht.yq (3,aC.map lvl) (by simp[iM]);have hlen:(aC.map lvl).length=7:=rfl;have hex:∀i:Fin 7,∃k,k<w.heap.size/\∀(φ:cK) (j:Nat),φ[j]? = some (some ⟨k,0,0,mg w k⟩)->∀v v',(aC.map lvl)[i.val]? = some v->c2[i.val]? = some v'->VR φ v v':=by
  intro i;have hi:i.val<aC.length:=i.isLt;have h1:(aC.map lvl)[i.val]? = some (lvl aC[i.val]):=by rw[List.getElem?_map,List.getElem?_eq_getElem hi];rfl
  have hlt:i.val<c2.size:=by have:=i.isLt;simp only[hlen]at hs2;omega
  have h2:c2[i.val]? = some c2[i.val]:=Array.getElem?_eq_getElem hlt;have hne:aC[i.val]≠[]:=by
   have:∀x∈aC,x≠[]:=by decide
   exact this _ (List.getElem_mem _)
  obtain⟨k,hk,hφ⟩:=Oy hne (hv2 i.val _ _ h1 h2);refine⟨k,hk,λφ j hj v v' a b=> ?_⟩;rw[h1]at a;rw[h2]at b;cases a;cases b;exact hφ φ j hj
 obtain⟨A,hA⟩:=Classical.axiomOfChoice hex;refine⟨λk=>A ⟨(k-4)%7,Nat.mod_lt _ (by omega)⟩,?_⟩;have inv:∀k ob,hp (nn iM .leaf) k=some ob->∃x∈iM,x.1=k/\ob= .ro x.2.length (e8 x.2 0 .leaf):=λk ob h=>by
  rcases tA iM .leaf k ob h with h | h
  . exact h
  . rw[lb]at h;cases h
 have hg:=ht.size;rw[kC]at hg;have h4:∀x,x∈iM->x.1<4:=λx hx=>by have:=(ht.yq x hx).1;rw[kC]at this;exact this
 exact {
  below:= .refl _ _
  qw:=λk ob h=>by
   obtain⟨x,hx,rfl,_⟩:=inv k ob h;rw[qR];exact Nat.lt_trans (h4 x hx) (by omega)
  pc:=λk e h=>by
   obtain⟨h1,⟨h2,rfl⟩ | ⟨h2,rfl⟩⟩:=tU h
   . exact Nat.lt_of_lt_of_le h2 hg
   . exact(hA _).1
  inj:=λk k' ob ob' e e' _ _ h _ hl=>by
   obtain⟨x,hx,rfl,rfl⟩:=inv k ob h;cases hl
  obj:=λk ob e h he=>by
   obtain⟨x,hx,rfl,rfl⟩:=inv k ob h;obtain⟨h0,c,el,fz,h1,h2,h3⟩:=ht.yq x hx;obtain⟨_,⟨h5,rfl⟩ | ⟨h5,rfl⟩⟩:=tU he
   . refine .inl ⟨Nat.lt_of_lt_of_le h5 hg,c,el,fz,h1,h2,λi hi v hv=> ?_⟩;rw[dO,if_pos (by omega),Nat.sub_zero]at hv;have hlt:i<c.size:=by omega
     have hci:c[i]? = some c[i]:=Array.getElem?_eq_getElem hlt;refine⟨c[i],hci,?_⟩;have h6:=h3 i v _ hv hci;have flatK:∀l:List (List UInt8),x.2=l.map au->VR (uy w λk=>A ⟨(k-4)%7,Nat.mod_lt _ (by omega)⟩) v c[i]:=λl hl=>by
      have hfl:Ev.flat v=true:=by
       rw[hl]at hv;obtain⟨s,_,rfl⟩:=List.mem_map.1 (List.mem_of_getElem? hv);rfl
      rw[h6.al hfl];exact .flat _ hfl
     simp only[iM,List.mem_cons,List.not_mem_nil,or_false]at hx;rcases hx with rfl | rfl | rfl | rfl
     . exact flatK _ rfl
     . exact flatK _ rfl
     . exact flatK _ rfl
     . have hcc:c=c2:=by
        have:=h1.symm.trans hc2;injection this with this
        injection this
       subst hcc;have hi7:i<7:=hi;refine(hA ⟨i,hi7⟩).2 _ (4+i) ?_ v _ hv hci;rw[OA (by omega) (by omega)];have:(4+i-4)%7=i:=by omega
       simp only[this]
   . exact absurd (h4 x hx) (by omega)
  gl:=λk hk=>⟨_,Oz (by rw[kC]at hk;exact hk),rfl⟩
  ng:=λk e c h hf=>by
   obtain⟨_,⟨h5,rfl⟩ | ⟨h5,rfl⟩⟩:=tU h
   . cases hf
   . exact Xi hf
  sq:=λk k' e e' c ob _ _ _ h hl=>by
   obtain⟨x,hx,rfl,rfl⟩:=inv k' ob h;cases hl }
theorem YP (hT:qQ W):zW P W X0:=by
 intro f args v h;have hf:f=7/\args=[]/\v= .bool true:=by
  have h':(bif Nat.beq f 7 then(match args with | []=>some (Value.bool true) | _=>none)else none)=some v:=h;cases hb:Nat.beq f 7 with
  | true=>
    rw[hb]at h';cases args with
    | nil=>exact⟨Nat.eq_of_beq_eq_true hb,rfl,(Option.some.inj h').symm⟩
    | cons a l=>cases h'
  | false=>
    rw[hb]at h';cases h'
 obtain⟨rfl,rfl,rfl⟩:=hf;refine⟨λx hx=>(nomatch hx),rfl,λw hb=> ?_⟩;have hw:=hT.below hb;have hk:=G8;rw[EV]at hk;obtain⟨H',nx',hr⟩:=CB hk;obtain⟨f,hf⟩:=YO hw;refine(sU (pl:=Ze) (Lv w) hf (qR _ _) .nil rfl (X7 hr)).mono λe w' ⟨he,hb'⟩=>⟨he,hb'⟩
theorem AT {fuel:Nat}{cs:List Value}{l:List (List UInt8)}{p:List MemPlace}(h:DataW.trod (λ_=>()) P W 0 (λ_=>true) false fuel 46 cs=some (.slice (l.map λs=> .lit (.string s)) [],p)):∃v,cs=[v]/\VR (jU W) (lvl l) v:=by
 obtain⟨a,cap,rfl,hcap,hel⟩:=open_row Tryd.underlying46 c9 h;refine⟨_,rfl,?_⟩;rw[List.length_map]at hcap ⊢;refine SY (by simp) (λx hx=> ?_) (by omega) hcap (λi x hx=> ?_)
 . obtain⟨s,_,rfl⟩:=List.mem_map.1 hx;rfl
 . rw[List.getElem?_map]at hx;cases hs:l[i]? with
   | none=>rw[hs]at hx;cases hx
   | some s=>
     rw[hs]at hx;cases hx;obtain⟨v,n,q,h1,h2⟩:=hel i (.lit (.string s)) (by rw[List.getElem?_map,hs];rfl);obtain⟨z,hz,hq,_⟩:=DataW.trod_string Tryd.underlying9 h2;cases hz;have e:s=z.data.toList:=by
      have:=congrArg Prod.fst hq;simpa using this
     subst e;refine⟨[.string z],?_,?_⟩
     . unfold World.cells?;rw[if_pos (Nat.zero_le _)];have e0:(a.add (i*1)).add 0=a.add i:=by simp[Addr.add]
       simp only[List.range_succ,List.range_zero,List.nil_append,List.mapM_cons,List.mapM_nil,e0,h1];rfl
     . exact .cons (vrs z) .nil
abbrev Xj (l:List (List UInt8)):List ByteArray:=l.map λs=>⟨⟨s⟩⟩
theorem OC (l:List (List UInt8)):(Xj l).map Value.string=l.map au:=by rw[List.map_map];rfl
theorem yU {c:Array Value}{l:List (List UInt8)}(h:c.toList=(Xj l).map Value.string):(l.map au).length<=c.size/\∀(i:Nat) (v v':Value),(l.map au)[i]? = some v->c[i]? = some v'->VR (jU W) v v':=by
 rw[OC]at h;refine⟨by rw[<- h,Array.length_toList];exact Nat.le_refl _,λi v v' a b=> ?_⟩;have:c.toList[i]? = some v':=by rw[<- b];simp
 rw[h,a]at this;cases this;obtain⟨s,_,rfl⟩:=List.mem_map.1 (List.mem_of_getElem? a);exact .flat _ rfl
theorem Ha {rest:List (String×DataW Unit)}(h:laidMet P (("kindling/syntax.levels",Rows.laid_kindling_syntax_levels)::rest) W):∃c el fz,W.heap[3]? = some (.cells c el fz)/\(aC.map lvl).length<=c.size/\∀(i:Nat) (v v':Value),(aC.map lvl)[i]? = some v->c[i]? = some v'->VR (jU W) v v':=by
 obtain⟨ps,⟨g',t',cs,fuel,p,q,hg',ht',hvar,hd,_,_⟩,_⟩:=h;obtain rfl:g'=3:=(Option.some.inj ((show P.globalNamed "kindling/syntax.levels" = some 3 by kernel_rfl).symm.trans hg')).symm
 obtain rfl:t'=140:=(Option.some.inj ((show(P.globals[3]?).map (·.type)=some 140 by kernel_rfl).symm.trans ht')).symm;unfold World.var? at hvar;rw[show P.globalNamed "kindling/syntax.levels" = some 3 by kernel_rfl]at hvar
 simp only[Option.bind_some]at hvar;split at hvar
 . rename_i c el fz hb;cases hvar;obtain⟨xs,n,rfl,hx,hl,hlen,hf⟩:=DataW.trod_array Tryd.underlying140 hd;have hcs:P.cellsOf 140=7:=by kernel_rfl
   have hc49:P.cellsOf 46=1:=by kernel_rfl
   rw[hcs]at hl;rw[Array.length_toList]at hl;refine⟨_,_,_,hb,by show 7<=_;omega,λi v v' a b=> ?_⟩;have hi:i<7:=by
    have:=(List.getElem?_eq_some_iff.1 a).1;exact this
   have h1:=hf i hi;have hc49':Program.cellsOf Tryd.prog 46=1:=hc49;rw[hc49',Nat.mul_one,List.getElem?_eq_getElem (by omega)]at h1;have hxs:xs.map (·.1)=aC.map λl=>(DataW.slice (l.map λs=> .lit (.string s)) []:DataW Unit):=by
    have h2:Rows.laid_kindling_syntax_levels=DataW.agg (xs.map (·.1)):=congrArg Prod.fst hx;exact(DataW.agg.inj h2).symm
   obtain⟨l,hl1,hl2⟩:∃l,aC[i]? = some l/\v=lvl l:=by
    rw[List.getElem?_map]at a;cases hq:aC[i]? with
    | none=>rw[hq]at a;cases a
    | some l=>rw[hq]at a;cases a;exact⟨l,rfl,rfl⟩
   have h3:(xs[i]'(by omega)).1=DataW.slice (l.map λs=> .lit (.string s)) []:=by
    have h4:(xs.map (·.1))[i]? = some ((xs[i]'(by omega)).1):=by rw[List.getElem?_map,List.getElem?_eq_getElem (by omega)];rfl
    rw[hxs,List.getElem?_map,hl1]at h4;exact(Option.some.inj h4).symm
   have h5:(cs.toList.drop i).take 1=[v']:=by
    have h6:cs.toList[i]? = some v':=by rw[<- b];simp
    have h7:i<cs.toList.length:=(List.getElem?_eq_some_iff.1 h6).1;rw[List.drop_eq_getElem_cons h7];rw[List.getElem?_eq_getElem h7]at h6;rw[Option.some.inj h6];rfl
   rw[h5]at h1;have h8:DataW.trod (λ_=>()) P W 0 (λ_=>true) false n 46 [v']=some (.slice (l.map λs=> .lit (.string s)) [],(xs[i]'(by omega)).2):=by
    rw[<- h3];exact h1
   obtain⟨v2,e2,h9⟩:=AT h8;cases e2;rw[hl2];exact h9
 . cases hvar
theorem OD (hL:laidMet P [("kindling/lex.keys",Rows.laid_kindling_lex_keys),("kindling/lex.signs",Rows.laid_kindling_lex_signs),("kindling/syntax.levels",Rows.laid_kindling_syntax_levels),("kindling/syntax.words",Rows.laid_kindling_syntax_words)] W)(hsh:W.ShapedOpen P):qQ W:=by
 refine⟨Ev.B2 hsh (of_decide_eq_true (by kernel_rfl)),λx hx=> ?_⟩;rw[kC];simp only[iM,List.mem_cons,List.not_mem_nil,or_false]at hx;have hk:laidMet P (("kindling/lex.keys",Ev.mN (Xj nq))::[("kindling/lex.signs",Ev.mN (Xj bC)),("kindling/syntax.levels",Rows.laid_kindling_syntax_levels),("kindling/syntax.words",Ev.mN (Xj cX))]) W:=hL
 rcases hx with rfl | rfl | rfl | rfl
 . obtain⟨c,el,fz,h1,h2⟩:=Ev.mi (g:=0) (by kernel_rfl) (by kernel_rfl) Tryd.underlying103 Tryd.underlying9 (by kernel_rfl) (by kernel_rfl) hk.tail;exact⟨by show 0<4;omega,c,el,fz,h1,yU h2⟩
 . obtain⟨c,el,fz,h1,h2⟩:=Ev.mi (g:=1) (by kernel_rfl) (by kernel_rfl) Tryd.underlying122 Tryd.underlying9 (by kernel_rfl) (by kernel_rfl) hk;exact⟨by show 1<4;omega,c,el,fz,h1,yU h2⟩
 . obtain⟨c,el,fz,h1,h2⟩:=Ev.mi (g:=2) (by kernel_rfl) (by kernel_rfl) Tryd.underlying132 Tryd.underlying9 (by kernel_rfl) (by kernel_rfl) hk.tail.tail.tail;exact⟨by show 2<4;omega,c,el,fz,h1,yU h2⟩
 . obtain⟨c,el,fz,h1,h2⟩:=Ha hk.tail.tail;exact⟨by show 3<4;omega,c,el,fz,h1,h2⟩
theorem Uc (hT:qQ W){f:FuncId}{args args':List Value}(hp:PT f args (.bool true))(hv:LR (jU W) args args'):
 Calls P f args'.toArray W λe w'=>e= .returned (.bool true)/\Below W.heap.size W w':=by
 have hs:=hT.size;rw[kC]at hs;obtain⟨H',nx',_,h⟩:=hp (nn iM .leaf) W.heap.size (G_ hs);exact sU (YP hT) (Xh hT) (qJ W) hv rfl h
end
end
end Go.Proofs.YthjhonhhbddhkaaDoor
namespace Go.Proofs.YthjhonhhbddhkaaDoor
open Go.Ev Go.RowKit
noncomputable section
set_option maxRecDepth 100000
set_option linter.unusedVariables false
set_option linter.unusedSimpArgs false
set_option maxHeartbeats 8000000
section
variable {nx0 nx nx' bp k:Nat}{H0 H H':T OB}{L:List Tok}
theorem OE (l:List aG)(v:Value)(hv:DV l v)(hl:l.length<dQ)(hok:∀d,d∈l->d.ok):P0 11 [v,ca l] (.bool true):=by
 have h:=Ql l l hl hok (λd hd v hv q=>(E2.2 d (hok d hd)).1 q v hv) (λd hd f hf q=>(E2.2 d (hok d hd)).2 f hf q _ f.b.vv);have e:cP l l=true:=by simp[cP]
 rw[e]at h;rcases hv with rfl | ⟨rfl,rfl⟩
 . exact h
 . intro H nx;obtain⟨H1,av,h1,h2⟩:=h H nx;refine⟨H1,av,h1,?_⟩;rw[<- h2,p5,p5];have e1:aI P pl (.call 11 [aw,ca []] false none H nx)=aI P pl (.call 11 [ca [],ca []] false none H nx):=by
    rw[Vy,Vy,tF];rfl
   rw[e1];rfl
end
def qm:Nat->List UInt8->Option Nat
 | _,[]=>none
 | _,[_]=>none
 | d,c::e::r=>
   if c=40/\e=42 then(qm (d+1) r).map (· + 2)
   else if c=42/\e=41 then(if d<=1 then some 2 else(qm (d-1) r).map (· + 2))
   else(qm d (e::r)).map (· + 1)
def ws (c:UInt8):Bool:=c == 9||c == 10||c == 13||c == 32
theorem yV:∀(d:Nat) (l:List UInt8) (n:Nat),qm d l=some n->2<=n/\n<=l.length
 | _,[],n,h=>by simp[qm]at h
 | _,[_],n,h=>by simp[qm]at h
 | d,c::e::r,n,h=>by
   rw[qm]at h;split at h
   . obtain⟨m,hm,rfl⟩:=Option.map_eq_some_iff.1 h;have:=yV _ r m hm;simp;omega
   . split at h
     . split at h
       . simp at h;subst h;simp
       . obtain⟨m,hm,rfl⟩:=Option.map_eq_some_iff.1 h;have:=yV _ r m hm;simp;omega
     . obtain⟨m,hm,rfl⟩:=Option.map_eq_some_iff.1 h;have:=yV _ (e::r) m hm;simp at this ⊢;omega
def er:List UInt8->Nat×Bool
 | []=>(0,true)
 | [c]=>if ws c then(1,true)else(0,true)
 | c::e::r=>
   if ws c then((er (e::r)).1+1,(er (e::r)).2)
   else if c=40/\e=42 then
    match qm 1 r with
    | none=>(0,false)
    | some n=>((er (r.drop n)).1+(n+2),(er (r.drop n)).2)
   else(0,true)
termination_by l=>l.length
decreasing_by all_goals (simp;try omega)
theorem CC:∀(l:List UInt8),(er l).1<=l.length
 | []=>by simp[er]
 | [c]=>by rw[er];split<;>simp
 | c::e::r=>by
   rw[er];split
   . have:=CC (e::r);simp at this ⊢;omega
   . split
     . cases h:qm 1 r with
       | none=>simp
       | some n=>
         have h1:=yV 1 r n h;have h2:=CC (r.drop n);rw[List.length_drop]at h2;simp;omega
     . simp
termination_by l=>l.length
decreasing_by all_goals (simp;try omega)
theorem Lw {c:UInt8}{r:List UInt8}(h:ws c=true):er (c::r)=((er r).1+1,(er r).2):=by
 cases r with
 | nil=>simp[er,h]
 | cons e r=>rw[er,if_pos h]
theorem Ly (r:List UInt8):er (40::42::r)=match qm 1 r with
 | none=>(0,false)
 | some n=>((er (r.drop n)).1+(n+2),(er (r.drop n)).2):=by
 rw[er,if_neg (by decide),if_pos ⟨rfl,rfl⟩]
theorem AU {c:UInt8}{r:List UInt8}(h:¬ws c=true)(h2:¬(c=40/\r.head? = some 42)):er (c::r)=(0,true):=by
 cases r with
 | nil=>rw[er,if_neg h]
 | cons e r=>rw[er,if_neg h,if_neg (by simpa using h2)]
theorem Lz (d:Nat)(r:List UInt8):qm d (40::42::r)=(qm (d+1) r).map (· + 2):=by
 rw[qm,if_pos ⟨rfl,rfl⟩]
theorem Hb (d:Nat)(r:List UInt8):qm d (42::41::r)=if d<=1 then some 2 else(qm (d-1) r).map (· + 2):=by
 rw[qm,if_neg (by decide),if_pos ⟨rfl,rfl⟩]
theorem Hc {d:Nat}{c:UInt8}{r:List UInt8}(h:¬(c=40/\r.head? = some 42))(h2:¬(c=42/\r.head? = some 41)):qm d (c::r)=(qm d r).map (· + 1):=by
 cases r with
 | nil=>simp[qm]
 | cons e r=>rw[qm,if_neg (by simpa using h),if_neg (by simpa using h2)]
theorem FK {r:List UInt8}{e:UInt8}(h:r.head? = some e):∃t,r=e::t:=by
 cases r with
 | nil=>simp at h
 | cons x t=>simp at h;exact⟨t,by rw[h]⟩
section
variable {nx0:Nat}{H0:T OB}
theorem yW (c:UInt8):P0 77 [b8 c] (i64 (fC c)):=Pure.of rfl λH nx=>by
 rw[q77];refine Wq.call (EX c) (.refl _ _) λH1 av hA1=> ?_;have hc:=c.toNat_lt;unfold fC;simp only[ab];refine Wq.bK (λh=> ?_) (λh=> ?_)
 . rw[if_pos h];have hd:=kB.1 h;rw[show IntKind.u8.wrap ((c.toNat:Int)-48)=(c.toNat:Int)-48 from by rw[wrap_u8];omega];simp only[ab,Ke];rw[show IntKind.i64.wrap ((c.toNat:Int)-48)=(c.toNat:Int)-48 from bS (by omega)];exact Wq.ret hA1
 rw[if_neg (by rw[h];decide)];have L10:∀b,b=(decide (65<=c.toNat)&&decide (c.toNat<=70))->Wq P pl X0 (.jump (x_ (b8 c) b H1 av)) nx H (i64 (if(decide (65<=c.toNat)&&decide (c.toNat<=70))=true then(c.toNat:Int)-55 else -1)):=by
  intro b hb;refine Wq.jmp (SG ..) (λ_=>rfl) ?_;rw[<- hb];cases b with
  | true=>
    have h2:65<=c.toNat/\c.toNat<=70:=by simpa using hb.symm
    simp only[ab];rw[show IntKind.u8.wrap ((c.toNat:Int)-65)=(c.toNat:Int)-65 from by rw[wrap_u8];omega];simp only[ab,Ke];rw[show IntKind.i64.wrap ((c.toNat:Int)-65)=(c.toNat:Int)-65 from bS (by omega),show IntKind.i64.wrap ((c.toNat:Int)-65+10)=(c.toNat:Int)-55 from by rw[bS (by omega)];omega];exact Wq.ret hA1
  | false=>exact Wq.ret hA1
 refine Wq.ite (λh2=> ?_) (λh2=>L10 _ (by simp;omega));refine L10 _ ?_;rw[show decide (65<=c.toNat)=true from by simp;omega,Bool.true_and,decide_eq_decide];omega
abbrev LA (p:UInt8×Nat):Value:= .tuple ⟨[b8 p.1,i64 ((p.2-1:Nat):Int)]⟩
theorem Ud (s:List UInt8)(hl:s.length<dQ):P0 58 [au s] (LA (nX s)):=Pure.of rfl λH nx=>by
 rw[Z0];have hA:=Ag.refl nx H;have L28f:∀H1 av,Ag nx H av H1->nX s=(0,0)->Wq P pl X0 (.jump (tu (au s) false H1 av)) nx H (LA (nX s)):=by
  intro H1 av hA1 hb;refine Wq.jmp (Js ..) (λ_=>rfl) ?_;rw[hb];exact Wq.ret hA1
 cases s with
 | nil=>
   simp only[ab,aT _ bl,aY,List.length_nil];exact Wq.ret hA
 | cons x t=>
   have e0:decide (((x::t).length:Int)=0)=false:=by simp;omega
   have L14:∀b,(b=true↔(x.toNat=34\/x.toNat=92))->Wq P pl X0 (.jump (xF (au (x::t)) (b8 x) b H nx)) nx H (LA (nX (x::t))):=by
    intro b hb;refine Wq.jmp (Sk ..) (λ_=>rfl) ?_;cases b with
    | true=>
      simp only[ab,Yg];have:nX (x::t)=(x,2):=by
       rw[gr];rcases hb.1 rfl with h | h
       . rw[if_pos h,show x=34 from UInt8.toNat_inj.1 h]
       . rw[if_neg (by omega),if_pos h,show x=92 from UInt8.toNat_inj.1 h]
      rw[this];exact Wq.ret hA
    | false=>
      have hn:¬(x.toNat=34\/x.toNat=92):=λq=>by have:=hb.2 q;cases this
      simp only[ab];refine Wq.ite (λh=> ?_) (λh3=> ?_)
      . rw[show nX (x::t)=(10,2)from by rw[gr];rw[if_neg (by omega),if_neg (by omega),if_pos (by omega)]];exact Wq.ret hA
      refine Wq.ite (λh=> ?_) (λh4=> ?_)
      . rw[show nX (x::t)=(9,2)from by rw[gr];rw[if_neg (by omega),if_neg (by omega),if_neg (by omega),if_pos (by omega)]];exact Wq.ret hA
      have hE:nX (x::t)=if x.toNat=120 then Lu t else(0,0):=by rw[gr];rw[if_neg (by omega),if_neg (by omega),if_neg (by omega),if_neg (by omega)]
      refine Wq.ite (λh5=> ?_) (λh5=> ?_)
      . rw[if_pos (by omega)]at hE;simp only[ab,aT _ bl,aY];refine Wq.ite (λh6=> ?_) (λh6=>L28f _ _ hA (by
         rw[hE]
         match t with
         | []=>rfl
         | [_]=>rfl
         | y::z::r=>simp at h6;omega))
        obtain⟨y,z,r,rfl⟩:∃y z r,t=y::z::r:=by
         match t with
         | []=>exact absurd h6 (by simp)
         | [_]=>exact absurd h6 (by simp)
         | y::z::r=>exact⟨y,z,r,rfl⟩
        have hX:Lu (y::z::r)=if 0<=fC y/\0<=fC z then(UInt8.ofNat (16*fC y+fC z).toNat,4)else(0,0):=rfl;rw[hX]at hE;simp only[ab,Za,Zb];refine Wq.call (yW y) hA λH2 nx2 hA2=> ?_;simp only[ab];refine Wq.ite (λh7=> ?_) (λh7=>L28f _ _ hA2 (by rw[hE,if_neg (by omega)]));refine Wq.call (yW z) hA2 λH3 nx3 hA3=> ?_;simp only[ab]
        by_cases h8:0<=fC z
        . rw[decide_eq_true h8];refine Wq.jmp (Js ..) (λ_=>rfl) ?_;have a1:=FI y;have a2:=FI z;have e1:IntKind.i64.wrap (fC y*16)=fC y*16:=bS (by omega);have e3:IntKind.i64.wrap (fC y*16+fC z)=16*fC y+fC z:=by rw[bS (by omega)];omega
          simp only[ab,Za,Zb];refine Wq.call (yW y) hA3 λH4 nx4 hA4=> ?_;simp only[ab];refine Wq.call (yW z) hA4 λH5 nx5 hA5=> ?_;simp only[ab,e1,e3,To,bf];rw[hE,if_pos ⟨h7,h8⟩];have e4:IntKind.u8.wrap (16*fC y+fC z)=((UInt8.ofNat (16*fC y+fC z).toNat).toNat:Int):=by
           rw[wrap_u8,UInt8.toNat_ofNat'];omega
          rw[e4];exact Wq.ret hA5
        . rw[decide_eq_false h8];exact L28f _ _ hA3 (by rw[hE,if_neg (by omega)])
      . rw[hE,if_neg (by omega)];exact Wq.ret hA
   simp only[ab,aT _ bl,aY,e0,Yg];refine Wq.ite (λh=>L14 _ (by simp;omega)) (λh=> ?_);exact L14 _ (by simp;omega)
def Mk (n i:Nat)(r:List UInt8):Value:=match mB n (r.takeWhile ck)with
 | some m=> .tuple ⟨[i64 (m:Int),i64 ((i+(r.takeWhile ck).length:Nat):Int)]⟩
 | none=> .tuple ⟨[i64 0,i64 0]⟩
theorem LB (s:List UInt8)(hl:s.length<dQ):∀(r:List UInt8) (i n:Nat) (H:T OB) (nx:Nat),s.drop i=r->i<=s.length->n<=4611686018427387903->Ag nx0 H0 nx H->
 Wq P pl X0 (.jump (EA (au s) (i64 (n:Int)) (i64 (i:Int)) H nx)) nx0 H0 (Mk n i r):=by
 intro r
 induction r with
 | nil=>
   intro i n H nx hd hi h1 hA;have hil:=drop_nil hd hi;refine Wq.jmp (PZ ..) (λ_=>rfl) ?_;simp only[ab,aT _ bl,aY,hil,aA];exact Wq.ret hA
 | cons c r ih=>
   intro i n H nx hd hi h1 hA;obtain⟨hg,hlt,hd'⟩:=drop_cons hd;have hin:=bD (P:=P) bl hg .i64;refine Wq.jmp (PZ ..) (λ_=>rfl) ?_;simp only[ab,aT _ bl,aY,aE hlt,hin];refine Wq.call (EX c) hA λH1 av hA1=> ?_;cases hdg:ck c with
   | false=>
     have e:Mk n i (c::r)= .tuple ⟨[i64 (n:Int),i64 (i:Int)]⟩:=by
      unfold Mk;rw[List.takeWhile_cons,hdg];rfl
     rw[e];simp only[ab];exact Wq.ret hA1
   | true=>
     have h9:=QN hdg;have e2:IntKind.i64.wrap (dv c:Int)=(dv c:Int):=bS (by omega);have e4:IntKind.i64.wrap (4611686018427387903-(dv c:Int))=((4611686018427387903-dv c:Nat):Int):=by rw[bS (by omega)];omega
     have e5:IntKind.i64.wrap (((4611686018427387903-dv c:Nat):Int).tdiv 10)=(((4611686018427387903-dv c)/10:Nat):Int):=by
      rw[show((4611686018427387903-dv c:Nat):Int).tdiv 10=(((4611686018427387903-dv c)/10:Nat):Int)from rfl,bS (by omega)]
     simp only[ab,Tl,dvw hdg,e2,e4,Tp,e5];have hN:mB n ((c::r).takeWhile ck)=if ck c=true/\n<=(4611686018427387903-dv c)/10 then mB (n*10+dv c) (r.takeWhile ck)else none:=by
      rw[List.takeWhile_cons,hdg,if_pos rfl,mB,hdg]
     refine Wq.ite (λh=> ?_) (λh=> ?_)
     . have e:Mk n i (c::r)= .tuple ⟨[i64 0,i64 0]⟩:=by
        unfold Mk;rw[hN,if_neg (by omega)]
       rw[e];exact Wq.ret hA1
     . have e:Mk n i (c::r)=Mk (n*10+dv c) (i+1) r:=by
        unfold Mk;rw[hN,if_pos ⟨hdg,by omega⟩,List.takeWhile_cons,hdg];simp only[List.length_cons,if_true];rw[show i+((r.takeWhile ck).length+1)=i+1+(r.takeWhile ck).length by omega]
       rw[e];have e1:IntKind.i64.wrap ((n:Int)*10)=((n*10:Nat):Int):=by rw[bS (by omega)];omega
       have e3:IntKind.i64.wrap (((n*10:Nat):Int)+(dv c:Int))=((n*10+dv c:Nat):Int):=by rw[bS (by omega)];omega
       simp only[ab,ao (show i<9223372036854775807 by have:=cM hl;omega),e1,e3];exact ih (i+1) _ H1 av hd' (by omega) (by omega) hA1
theorem Ue (s:List UInt8)(hl:s.length<dQ):P0 37 [au s] (Mk 0 0 s):=Pure.of rfl λH nx=>by
 rw[ZG];exact LB s hl s 0 0 H nx rfl (Nat.zero_le _) (by omega) (.refl _ _)
def qt:Nat->List UInt8->Option (List UInt8×Nat)
 | 0,_=>none
 | _+1,[]=>none
 | f+1,c::r=>if c.toNat=34 then some ([],1)else if(gY (c::r)).2=0 then none else(qt f ((c::r).drop (gY (c::r)).2)).map λq=>((gY (c::r)).1::q.1,(gY (c::r)).2+q.2)
theorem o5 (f:Nat)(c:UInt8)(r:List UInt8):qt (f+1) (c::r)=if c.toNat=34 then some ([],1)else if(gY (c::r)).2=0 then none else(qt f ((c::r).drop (gY (c::r)).2)).map λq=>((gY (c::r)).1::q.1,(gY (c::r)).2+q.2):=rfl
def OF (acc:List UInt8)(i:Nat):Option (List UInt8×Nat)->Value
 | some q=> .tuple ⟨[au (acc++q.1),i64 ((i+q.2:Nat):Int)]⟩
 | none=> .tuple ⟨[au [],i64 0]⟩
theorem Uf (t:List UInt8):(nX t).2=0\/2<=(nX t).2:=by
 cases t with
 | nil=>exact .inl rfl
 | cons x t=>
   rw[gr]
   by_cases h3:x.toNat=34
   . rw[if_pos h3];exact .inr (Nat.le_refl _)
   rw[if_neg h3]
   by_cases h3:x.toNat=92
   . rw[if_pos h3];exact .inr (Nat.le_refl _)
   rw[if_neg h3]
   by_cases h3:x.toNat=110
   . rw[if_pos h3];exact .inr (Nat.le_refl _)
   rw[if_neg h3]
   by_cases h3:x.toNat=116
   . rw[if_pos h3];exact .inr (Nat.le_refl _)
   rw[if_neg h3]
   by_cases h3:x.toNat=120
   . rw[if_pos h3]
     match t with
     | []=>exact .inl rfl
     | [_]=>exact .inl rfl
     | y::z::r=>
       show(if 0<=fC y/\0<=fC z then _ else _:UInt8×Nat).2=0\/2<=(if 0<=fC y/\0<=fC z then _ else _:UInt8×Nat).2
       by_cases h4:0<=fC y/\0<=fC z
       . rw[if_pos h4];exact .inr (by show 2<=4;omega)
       . rw[if_neg h4];exact .inl rfl
   . rw[if_neg h3];exact .inl rfl
theorem OG (s:List UInt8)(hl:s.length<=1000000):∀(d i:Nat) (r:List UInt8) (sl:Value) (H:T OB) (nx:Nat),s.length-i<=d->1<=i->i<=s.length->r.length<=i->BS 5 nx0 H nx r sl->Ag nx0 H0 nx H->
 Wq P pl X0 (.jump (Ai (au s) sl (i64 (i:Int)) H nx)) nx0 H0 (OF r i (qt d (s.drop i))):=by
 intro d
 induction d with
 | zero=>
   intro i r sl H nx hd hi hi2 hr hB hA;have hil:i=s.length:=by omega
   refine Wq.jmp (Jn ..) (λ_=>rfl) ?_;simp only[ab,aT _ bl,aY,hil,aA];exact Wq.ret hA
 | succ d ih=>
   intro i r sl H nx hd hi hi2 hr hB hA;cases hdr:s.drop i with
   | nil=>
     have hil:=drop_nil hdr hi2;refine Wq.jmp (Jn ..) (λ_=>rfl) ?_;simp only[ab,aT _ bl,aY,hil,aA];exact Wq.ret hA
   | cons c t=>
     obtain⟨hg,hlt,hd'⟩:=drop_cons hdr;have hin:=bD (P:=P) bl hg .i64;have hc:=c.toNat_lt;refine Wq.jmp (Jn ..) (λ_=>rfl) ?_;simp only[ab,aT _ bl,aY,aE hlt,hin];rw[o5];refine Wq.ite (λh=> ?_) (λh34=> ?_)
     . rw[if_pos (by omega)];simp only[ab,vj eY vn bl Nb hB,ao (show i<9223372036854775807 by omega)];exact Wq.gF (by show _=Value.tuple _;rw[List.append_nil]) hA
     rw[if_neg (by omega)];have hS:gY (c::t)=if c.toNat<32\/126<c.toNat\/c.toNat=34 then(0,0)else if c.toNat=92 then nX t else(c,1):=rfl;refine Wq.ite (λh92=> ?_) (λh92=> ?_)
     . rw[if_neg (by omega),if_pos (by omega)]at hS;rw[hS];simp only[ab,ao (show i<9223372036854775807 by omega),lf (show i+1<=s.length by omega),hd'];have htl:t.length=s.length-(i+1):=by rw[<- hd',List.length_drop]
       refine Wq.jc (Ud t (by have hbig:dQ=1125899906842624:=rfl;omega)) hA λH1 av hA1 n1 k1=> ?_;have hn:=FJ (c::t);rw[hS,List.length_cons]at hn;have h2:=Uf t;generalize nX t=p at hn h2 ⊢;obtain⟨e,n⟩:=p;have x0:bk (some (LA (e,n))) 0=some (b8 e):=rfl;have x1:bk (some (LA (e,n))) 1=some (i64 ((n-1:Nat):Int)):=rfl;simp only at hn h2;simp only[ab,x0,x1];refine Wq.ite (λh=> ?_) (λh=> ?_)
       . rw[if_pos (by omega)];exact Wq.ret hA1
       rw[if_neg (by omega)];have hB':=BS.cc hB n1 k1;refine Wq.Ao (x:=[e]) eY iC jW hB' rfl rfl (V9 e) (λm hm=>ki (by simp at hm;omega)) hA1 λH2 sl2 nx2 hB2 hA2 _=> ?_;have ew:IntKind.i64.wrap ((i:Int)+((n-1:Nat):Int))=((i+(n-1):Nat):Int):=by rw[bS (by omega)];omega
       simp only[ab,ew];refine Wq.jmp (R6 ..) (λ_=>rfl) ?_;simp only[ab,ao (show i+(n-1)<9223372036854775807 by omega)];rw[show i+(n-1)+1=i+n by omega];have:=ih (i+n) (r++[e]) sl2 H2 nx2 (by omega) (by omega) (by omega) (by simp;omega) hB2 hA2;rw[<- List.drop_drop,hdr]at this;cases hq:qt d ((c::t).drop n)with
       | none=>rw[hq]at this;exact this
       | some q=>
         rw[hq]at this;have e2:OF (r++[e]) (i+n) (some q)=OF r i (some (e::q.1,n+q.2)):=by
          show Value.tuple _=Value.tuple _;rw[List.append_assoc,Nat.add_assoc];rfl
         rw[e2]at this;exact this
     have L34:∀b,(b=true↔(c.toNat<32\/126<c.toNat))->Wq P pl X0 (.jump (xu (au s) sl (i64 (i:Int)) (b8 c) b H nx)) nx0 H0 (OF r i (if(gY (c::t)).2=0 then none else(qt d ((c::t).drop (gY (c::t)).2)).map λq=>((gY (c::t)).1::q.1,(gY (c::t)).2+q.2))):=by
      intro b hb;refine Wq.jmp (R7 ..) (λ_=>rfl) ?_;cases b with
      | true=>
        have hS0:gY (c::t)=(0,0):=by
         have:=hb.1 rfl;rw[hS,if_pos (by omega)]
        rw[hS0,if_pos rfl];exact Wq.ret hA
      | false=>
        have hn:¬(c.toNat<32\/126<c.toNat):=λq=>by have:=hb.2 q;cases this
        have hS1:gY (c::t)=(c,1):=by rw[hS,if_neg (by omega),if_neg (by omega)]
        rw[hS1,if_neg (show ¬(c,1).2=0 from Nat.one_ne_zero)];simp only[ab];refine Wq.Ao (x:=[c]) eY iC jW hB rfl rfl (V9 c) (λm hm=>ki (by simp at hm;omega)) hA λH2 sl2 nx2 hB2 hA2 _=> ?_;simp only[ab,ao (show i<9223372036854775807 by omega)];have:=ih (i+1) (r++[c]) sl2 H2 nx2 (by omega) (by omega) (by omega) (by simp;omega) hB2 hA2;rw[hd']at this;rw[show(c::t).drop 1=t from rfl];cases hq:qt d t with
        | none=>rw[hq]at this;exact this
        | some q=>
          rw[hq]at this;have e2:OF (r++[c]) (i+1) (some q)=OF r i (some (c::q.1,1+q.2)):=by
           show Value.tuple _=Value.tuple _;rw[List.append_assoc,Nat.add_assoc];rfl
          rw[e2]at this;exact this
     refine Wq.ite (λh=>L34 _ (by simp;omega)) (λh=> ?_);exact L34 _ (by simp;omega)
theorem Ug (s:List UInt8)(h0:1<=s.length)(hl:s.length<=1000000):P0 38 [au s] (OF [] 1 (qt s.length (s.drop 1))):=Pure.of rfl λH nx=>by
 rw[ZH];exact OG s hl s.length 1 [] (.slice none 0 0) H nx (Nat.sub_le _ _) (by omega) h0 (by simp) (.nil _ _ _ _) (.refl _ _)
end
theorem QO:∀{f:Nat} {s:List UInt8} {q:List UInt8×Nat},qt f s=some q->1<=q.2/\q.2<=s.length:=by
 intro f
 induction f with
 | zero=>intro s q h;cases h
 | succ f ih=>
   intro s q h;cases s with
   | nil=>cases h
   | cons c r=>
     rw[o5]at h
     by_cases h1:c.toNat=34
     . rw[if_pos h1]at h;cases h;exact⟨Nat.le_refl _,by simp⟩
     rw[if_neg h1]at h
     by_cases h2:(gY (c::r)).2=0
     . rw[if_pos h2]at h;cases h
     rw[if_neg h2]at h;obtain⟨q1,hq,rfl⟩:=Option.map_eq_some_iff.1 h;have:=ih hq;have:=FJ (c::r);rw[List.length_drop]at*;show 1<=(gY (c::r)).2+q1.2/\(gY (c::r)).2+q1.2<=_;omega
theorem Uh:∀n:Nat,n<256->(cL (UInt8.ofNat n)||cW (UInt8.ofNat n))=true->ck (UInt8.ofNat n)=false/\(UInt8.ofNat n).toNat≠34/\(UInt8.ofNat n).toNat≠39:=by decide
theorem Ui {c:UInt8}(h:(cL c||cW c)=true):ck c=false/\c.toNat≠34/\c.toNat≠39:=by
 have:=Uh c.toNat c.toNat_lt;rw[UInt8.ofNat_toNat]at this;exact this h
def FL (x:UInt8):Bool:= !decide (x.toNat=39)&&kf x
theorem Xk:∀x∈bC,first x 39=false/\x≠[]:=by decide
def kD:List UInt8->Bool
 | []=>false
 | c::_=>cL c
def uz (c:UInt8)(u:List UInt8):Option (Tok×Nat):=
 if c.toNat=34 then(qt (u.length+1) u).map λq=>(⟨2,q.1,0,0⟩,1+q.2)
 else if(cL c||cW c)=true then some (⟨kh (c::u.takeWhile kf),c::u.takeWhile kf,0,0⟩,1+(u.takeWhile kf).length)
 else if c.toNat=39/\kD u=true then some (⟨5,(c::u).take (2+((u.drop 1).takeWhile FL).length),0,0⟩,2+((u.drop 1).takeWhile FL).length)
 else(bC.find? λs=>s.isPrefixOf (c::u)).map λs=>(⟨7,s,0,0⟩,s.length)
def CD (l:List UInt8):Option (Tok×Nat):=match mB 0 l with
 | some v=>some (⟨1,[],(v:Int),0⟩,l.length)
 | none=>none
def mC:List UInt8->Option (Tok×Nat)
 | []=>none
 | c::u=>if ck c=true then CD ((c::u).takeWhile ck)else uz c u
theorem fI (c:UInt8)(u:List UInt8):mC (c::u)=if ck c=true then CD ((c::u).takeWhile ck)else uz c u:=rfl
theorem yX {p:UInt8->Bool}:∀l:List UInt8,l.take (l.takeWhile p).length=l.takeWhile p
 | []=>rfl
 | a::l=>by
   rw[List.takeWhile_cons];cases p a with
   | true=>simp only[if_true,List.length_cons,List.take_succ_cons];rw[yX l]
   | false=>rfl
theorem FM {p:UInt8->Bool}(l:List UInt8):(l.takeWhile p).length<=l.length:=by
 have:=congrArg List.length (yX (p:=p) l);rw[List.length_take]at this;omega
section
variable {nx0 nx nx':Nat}{H0 H H':T OB}{F:List Bx}{b:Nat}{s:List UInt8}
abbrev y9 (b:Nat)(s:List UInt8)(i:Nat):Bx:=(b,[au s,i64 (i:Int)],68)
theorem gZ {i:Nat}(h:Hp nx0 H0 (y9 b s i::F) H nx):ai P H 3 (some (.pointer (some ⟨b,1,none⟩)))=some (i64 (i:Int)):=ah (h.at_ 0 rfl) oR rfl
theorem vE {i:Nat}(h:Hp nx0 H0 (y9 b s i::F) H nx):ai P H 9 (some (.pointer (some ⟨b,0,none⟩)))=some (au s):=ah (h.at_ 0 rfl) nm rfl
abbrev VE (u:Value)(G:List Bx)(nx0:Nat)(H0:T OB):Go.Ev.Out->T OB->Nat->Prop:=λo H nx=>o= .ret u/\Hp nx0 H0 G H nx
theorem OH (hl:s.length<dQ){i p:Nat}:∀(r:List UInt8) (j:Nat) (H:T OB) (nx:Nat),s.drop j=r->p<=j->j<=s.length->Hp nx0 H0 (y9 b s i::F) H nx->
 aF P pl X0 (.jump (EB (ptr b) (i64 (p:Int)) (i64 (j:Int)) H nx)) nx0 H0 (VE (au ((s.drop p).take (j-p+(r.takeWhile kf).length))) (y9 b s i::F) nx0 H0):=by
 intro r
 induction r with
 | nil=>
   intro j H nx hd hp hj h;have hil:=drop_nil hd hj;refine Wq.jmp (P1 ..) (λ_=>rfl) ?_;simp only[ab,vE h,aT _ bl,aY,show decide ((j:Int)<(s.length:Int))=false by simp;omega,dE bl hp hj];exact lM h
 | cons c r ih=>
   intro j H nx hd hp hj h;obtain⟨hg,hlt,hd'⟩:=drop_cons hd;have hin:=bD (P:=P) bl hg .i64;refine Wq.jmp (P1 ..) (λ_=>rfl) ?_;simp only[ab,vE h,aT _ bl,aY,aE hlt,hin];refine Hq.call (EY c) h λH1 av h1=> ?_;cases hw:kf c with
   | false=>
     simp only[ab,vE h1,dE bl hp hj];rw[List.takeWhile_cons,hw];exact lM h1
   | true=>
     simp only[ab,ao (show j<9223372036854775807 by have:=cM hl;omega)];rw[List.takeWhile_cons,hw,if_pos rfl,List.length_cons,show j-p+((r.takeWhile kf).length+1)=j+1-p+(r.takeWhile kf).length by omega];exact ih (j+1) H1 av hd' (by omega) (by omega) h1
theorem Uj (hl:s.length<dQ){i p:Nat}(hp:p<s.length)(h:Hp nx0 H0 (y9 b s i::F) H nx):
 aF P pl X0 (aI P pl (.call 41 [ptr b,i64 (p:Int)] false none H nx)) nx0 H0 (VE (au ((s.drop p).take (1+((s.drop (p+1)).takeWhile kf).length))) (y9 b s i::F) nx0 H0):=by
 rw[ZK];simp only[ab,ao (show p<9223372036854775807 by have:=cM hl;omega)];have:=OH (b:=b) (F:=F) (i:=i) hl (s.drop (p+1)) (p+1) H nx rfl (Nat.le_succ p) hp h;rwa[show p+1-p=1 by omega]at this
def iJ (s:List UInt8)(d fr i:Nat):Bool×Nat:=
 if d=0 then((er (s.drop i)).2,if(er (s.drop i)).2=true then i+(er (s.drop i)).1 else i+(er (s.drop i)).1)
 else match qm d (s.drop i)with
  | none=>(false,fr)
  | some n=>((er (s.drop (i+n))).2,i+n+(er (s.drop (i+n))).1)
theorem lq (s:List UInt8)(fr i:Nat):iJ s 0 fr i=((er (s.drop i)).2,i+(er (s.drop i)).1):=by
 unfold iJ;rw[if_pos rfl];split<;>rfl
theorem lr (s:List UInt8){d:Nat}(hd:d≠0)(fr i:Nat):iJ s d fr i=match qm d (s.drop i)with
 | none=>(false,fr)
 | some n=>((er (s.drop (i+n))).2,i+n+(er (s.drop (i+n))).1):=if_neg hd
theorem Hd {i d fr:Nat}{t:List UInt8}(h:s.drop i=40::42::t):iJ s d fr i=iJ s (d+1) (if d=0 then i else fr) (i+2):=by
 have h2:s.drop (i+2)=t:=by rw[<- List.drop_drop,h];rfl
 have hdrop:∀n,s.drop (i+2+n)=t.drop n:=λn=>by rw[<- List.drop_drop,h2]
 rw[lr s (Nat.succ_ne_zero d),h2]
 by_cases d0:d=0
 . subst d0;rw[lq,h,Ly,if_pos rfl];cases hc:qm 1 t with
   | none=>simp[hc]
   | some n=>
     simp only[Nat.zero_add,hc,hdrop];rw[show i+((er (t.drop n)).1+(n+2))=i+2+n+(er (t.drop n)).1 by omega]
 . rw[lr s d0,h,Lz,if_neg d0];cases hc:qm (d+1) t with
   | none=>simp
   | some n=>simp only[Option.map_some,show i+(n+2)=i+2+n by omega]
theorem CF {i d fr:Nat}{t:List UInt8}(h:s.drop i=42::41::t)(hd:0<d):iJ s d fr i=iJ s (d-1) fr (i+2):=by
 have h2:s.drop (i+2)=t:=by rw[<- List.drop_drop,h];rfl
 rw[lr s (by omega),h,Hb]
 by_cases d1:d=1
 . subst d1;rw[if_pos (by omega),lq]
 . rw[if_neg (by omega),lr s (by omega),h2];cases hc:qm (d-1) t with
   | none=>simp
   | some n=>simp only[Option.map_some,show i+(n+2)=i+2+n by omega]
theorem He {i d fr:Nat}{c:UInt8}{r:List UInt8}(h:s.drop i=c::r)(a:¬(c=40/\r.head? = some 42))(e:¬(0<d/\c=42/\r.head? = some 41))(w:0<d\/ws c=true):iJ s d fr i=iJ s d fr (i+1):=by
 have hr:s.drop (i+1)=r:=by rw[<- List.drop_drop,h];rfl
 by_cases d0:d=0
 . subst d0;rw[lq,lq,h,hr,Lw (w.resolve_left (by omega))];simp only;rw[show i+((er r).1+1)=i+1+(er r).1 by omega]
 . rw[lr s d0,lr s d0,h,hr,Hc a (λq=>e ⟨by omega,q⟩)];cases hc:qm d r with
   | none=>simp
   | some n=>simp only[Option.map_some,show i+(n+1)=i+1+n by omega]
theorem Hf {i fr:Nat}{c:UInt8}{r:List UInt8}(h:s.drop i=c::r)(a:¬(c=40/\r.head? = some 42))(w:¬ws c=true):iJ s 0 fr i=(true,i):=by
 rw[lq,h,AU w a];rfl
theorem LC {i d fr:Nat}(h:s.length<=i):iJ s d fr i=if d=0 then(true,i)else(false,fr):=by
 have hn:s.drop i=[]:=List.drop_eq_nil_of_le h
 by_cases d0:d=0
 . subst d0;rw[lq,hn,if_pos rfl];simp[er]
 . rw[lr s d0,hn,if_neg d0];simp[qm]
abbrev UK (b:Nat)(s:List UInt8)(F:List Bx)(nx0:Nat)(H0:T OB)(q:Bool×Nat):Go.Ev.Out->T OB->Nat->Prop:=VE (.bool q.1) (y9 b s q.2::F) nx0 H0
theorem LD (hl:s.length<dQ):∀(m i d fr:Nat) (H:T OB) (nx:Nat),s.length-i<=m->i<=s.length->d<=i->fr<=s.length->Hp nx0 H0 (y9 b s i::F) H nx->
 aF P pl X0 (.jump (vc (ptr b) (i64 (d:Int)) (i64 (fr:Int)) H nx)) nx0 H0 (UK b s F nx0 H0 (iJ s d fr i)):=by
 have hbig:dQ=1125899906842624:=rfl;intro m
 induction m with
 | zero=>
   intro i d fr H nx hm hi hd hfr h;have hil:i=s.length:=by omega
   refine Wq.jmp (PU ..) (λ_=>rfl) ?_;simp only[ab,gZ h,vE h,aT _ bl,aY,show decide ((i:Int)<(s.length:Int))=false by simp;omega];rw[LC (by omega)];refine Wq.ite (λh0=> ?_) (λh0=> ?_)
   . rw[if_neg (by omega)];refine Hq.put [] h mW rfl rfl (by simp) rfl λH2 h2=> ?_;refine Wq.jmp (I_ ..) (λ_=>rfl) ?_;simp only[ab,show decide ((d:Int)=0)=false by simp;omega];exact lM h2
   . rw[if_pos (by omega)];refine Wq.jmp (I_ ..) (λ_=>rfl) ?_;simp only[ab,show decide ((d:Int)=0)=true by simp;omega];exact lM h
 | succ m ih=>
   intro i d fr H nx hm hi hd hfr h
   by_cases hlt:i<s.length
   case neg=>exact ih i d fr H nx (by omega) hi hd hfr h
   obtain⟨c,r,hdr⟩:∃c r,s.drop i=c::r:=by
    cases hq:s.drop i with
    | nil=>have:=drop_nil hq hi;omega
    | cons c r=>exact⟨c,r,rfl⟩
   obtain⟨hg,_,hd'⟩:=drop_cons hdr;have hin:=bD (P:=P) bl hg .i64;have hrl:r.length=s.length-(i+1):=by rw[<- hd',List.length_drop]
   have hu:∀n:Nat,n<256->(decide ((c.toNat:Int)=(n:Int))=decide (c=UInt8.ofNat n)):=λn hn=>by
    rw[decide_eq_decide,<- UInt8.toNat_inj,UInt8.toNat_ofNat',Nat.mod_eq_of_lt hn];omega
   have L18:∀tw:List UInt8,(∀x y,tw=[x,y]↔c=x/\r.head? = some y)->aF P pl X0 (.jump (wX (ptr b) (i64 (d:Int)) (i64 (fr:Int)) (b8 c) (au tw) H nx)) nx0 H0 (UK b s F nx0 H0 (iJ s d fr i)):=by
    intro tw htw;refine Wq.jmp (RN ..) (λ_=>rfl) ?_;simp only[ab,dz];refine Wq.ite (λa=> ?_) (λa=> ?_)
    . have a:=(htw _ _).1 a;obtain⟨t,ht⟩:=FK a.2;rw[a.1,ht]at hdr;have hl2:i+2<=s.length:=by
       have:=congrArg List.length hdr;rw[List.length_drop]at this;simp at this;omega
      rw[Hd hdr];have L24:∀fr':Nat,fr'<=s.length->aF P pl X0 (.jump (wY (ptr b) (i64 (d:Int)) (i64 (fr':Int)) H nx)) nx0 H0 (UK b s F nx0 H0 (iJ s (d+1) fr' (i+2))):=by
       intro fr' hfr';refine Wq.jmp (RO ..) (λ_=>rfl) ?_;have e2:IntKind.i64.wrap ((i:Int)+2)=((i+2:Nat):Int):=by rw[bS (by omega)];omega
       simp only[ab,gZ h,e2,ao (show d<9223372036854775807 by omega)];refine Hq.put [] h mW rfl rfl (by simp) rfl λH2 h2=> ?_;exact ih (i+2) (d+1) fr' H2 nx (by omega) hl2 (by omega) hfr' h2
      refine Wq.ite (λd0=> ?_) (λd0=> ?_)
      . rw[if_pos (by omega)];simp only[ab,gZ h];exact L24 i hi
      . rw[if_neg (by omega)];exact L24 fr hfr
    have a:¬(c=40/\r.head? = some 42):=λq=>a ((htw _ _).2 q);have L30:∀x:Bool,x=decide (0<d/\c=42/\r.head? = some 41)->aF P pl X0 (.jump (wZ (ptr b) (i64 (d:Int)) (i64 (fr:Int)) (b8 c) x H nx)) nx0 H0 (UK b s F nx0 H0 (iJ s d fr i)):=by
     intro x hx;refine Wq.jmp (RQ ..) (λ_=>rfl) ?_;cases x with
     | true=>
       have e:=of_decide_eq_true hx.symm;obtain⟨t,ht⟩:=FK e.2.2;rw[e.2.1,ht]at hdr;have hl2:i+2<=s.length:=by
        have:=congrArg List.length hdr;rw[List.length_drop]at this;simp at this;omega
       rw[CF hdr e.1];have e1:IntKind.i64.wrap ((d:Int)-1)=((d-1:Nat):Int):=by rw[bS (by omega)];omega
       have e2:IntKind.i64.wrap ((i:Int)+2)=((i+2:Nat):Int):=by rw[bS (by omega)];omega
       simp only[ab,gZ h,e1,e2];refine Hq.put [] h mW rfl rfl (by simp) rfl λH2 h2=> ?_;exact ih (i+2) (d-1) fr H2 nx (by omega) hl2 (by omega) hfr h2
     | false=>
       have e:¬(0<d/\c=42/\r.head? = some 41):=of_decide_eq_false hx.symm;have L36:∀y:Bool,(y=true↔(0<d\/ws c=true))->aF P pl X0 (.jump (nQ (ptr b) (i64 (d:Int)) (i64 (fr:Int)) y H nx)) nx0 H0 (UK b s F nx0 H0 (iJ s d fr i)):=by
        intro y hy;refine Wq.jmp (RS ..) (λ_=>rfl) ?_;cases y with
        | true=>
          rw[He hdr a e (hy.1 rfl)];simp only[ab,gZ h,ao (show i<9223372036854775807 by omega)];refine Hq.put [] h mW rfl rfl (by simp) rfl λH2 h2=> ?_;exact ih (i+1) d fr H2 nx (by omega) hlt (by omega) hfr h2
        | false=>
          have w:¬(0<d\/ws c=true):=λq=>by have:=hy.2 q;cases this
          obtain rfl:d=0:=by omega
          rw[Hf hdr a (λq=>w (.inr q))];exact lM h
       simp only[ab];have hws:ws c=(decide (c=9)||(decide (c=10)||(decide (c=13)||decide (c=32)))):=by
        unfold ws;rw[Bool.or_assoc,Bool.or_assoc];rfl
       refine Wq.ite (λh0=>L36 _ (by simp;omega)) (λh0=> ?_);have hd0:¬ 0<d:=by omega
       have h9:decide ((c.toNat:Int)=9)=decide (c=9):=hu 9 (by decide);have h10:decide ((c.toNat:Int)=10)=decide (c=10):=hu 10 (by decide);have h13:decide ((c.toNat:Int)=13)=decide (c=13):=hu 13 (by decide);have h32:decide ((c.toNat:Int)=32)=decide (c=32):=hu 32 (by decide);rw[h9,h10,h13,h32];refine Wq.ite (λq=>L36 _ (by rw[hws,decide_eq_true q];simp)) (λq1=> ?_);refine Wq.ite (λq=>L36 _ (by rw[hws,decide_eq_true q];simp)) (λq2=> ?_);refine Wq.ite (λq=>L36 _ (by rw[hws,decide_eq_true q];simp)) (λq3=> ?_);exact L36 _ (by rw[hws,decide_eq_false q1,decide_eq_false q2,decide_eq_false q3];simp[hd0])
    refine Wq.ite (λd0=> ?_) (λd0=> ?_)
    . refine L30 _ ?_;rw[decide_eq_decide,htw];have:0<d:=by omega
      simp[this]
    . exact L30 _ (by rw[decide_eq_false (λq=>d0 (by have:=q.1;omega))])
   refine Wq.jmp (PU ..) (λ_=>rfl) ?_;simp only[ab,gZ h,vE h,aT _ bl,aY,aE hlt,hin,ao (show i<9223372036854775807 by omega)];have e2:IntKind.i64.wrap ((i:Int)+2)=((i+2:Nat):Int):=by rw[bS (by omega)];omega
   refine Wq.ite (λhl2=> ?_) (λhl2=> ?_)
   . have hl2:i+2<=s.length:=by omega
     simp only[ab,gZ h,vE h,e2,dE bl (show i<=i+2 by omega) hl2];rw[hdr,show i+2-i=2 by omega];refine L18 _ λx y=> ?_;cases r with
     | nil=>simp at hrl;omega
     | cons e t=>simp
   . refine L18 [] λx y=> ?_;cases r with
     | nil=>simp
     | cons e t=>simp at hrl;omega
theorem Xl (hl:s.length<dQ){i:Nat}(hi:i<=s.length)(h:Hp nx0 H0 (y9 b s i::F) H nx):
 aF P pl X0 (aI P pl (.call 22 [ptr b] false none H nx)) nx0 H0 (UK b s F nx0 H0 ((er (s.drop i)).2,i+(er (s.drop i)).1)):=by
 rw[Zs,<- lq s 0];exact LD hl s.length i 0 0 H nx (Nat.sub_le _ _) hi (Nat.zero_le _) (Nat.zero_le _) h
end
section
variable {nx0 nx nx':Nat}{H0 H H':T OB}{F:List Bx}{b:Nat}{s:List UInt8}
theorem OI (n:Int):a9 P 70 (some [(3,i64 n)])=some (.agg ⟨[i64 0,au [],i64 0,i64 n]⟩):=aX dS (by kernel_rfl)
theorem Xm {j:Nat}{x:List UInt8}(hx:bC[j]? = some x):cC P 103 (some (.agg ⟨bC.map au⟩)) (some (i64 (j:Int)))=some (au x):=by
 have hj:j<22:=(List.getElem?_eq_some_iff.1 hx).1;show iS (j:Int) (Mn P 103 (bC.map au)) none=_;rw[fm];unfold Mn;rw[show P.underlying 103=some (.array 22 9)from by kernel_rfl];simp only[show Nat.blt j 22=true from Nat.ble_eq_true_of_le hj,cond_true,nm,mX,Nat.mul_one,List.getElem?_map,hx,Option.map_some]
theorem aF.gj {p:Prop}[Decidable p]{R:Go.Ev.Out->T OB->Nat->Prop}{x y:Q}(h:¬p->aF P pl X0 x nx0 H0 R)(h':p->aF P pl X0 y nx0 H0 R):aF P pl X0 (Ev.bK (!decide p) x y) nx0 H0 R:=
 Wq.bK (λq=>h (by simpa using q)) (λq=>h' (by simpa using q))
def YQ (q:Option (Tok×Nat))(i:Nat)(t:Tok)(n:Nat):Prop:=match q with
 | some q=>t=⟨q.1.k,q.1.s,q.1.n,(i:Int)⟩/\n=q.2
 | none=>n=0
abbrev Uk (b:Nat)(s:List UInt8)(i:Nat)(F:List Bx)(nx0:Nat)(H0:T OB):Go.Ev.Out->T OB->Nat->Prop:=λo H nx=>∃(t:Tok) (n:Nat),o= .ret (.tuple ⟨[t.v,i64 (n:Int)]⟩)/\YQ (mC (s.drop i)) i t n/\Hp nx0 H0 (y9 b s i::F) H nx
theorem nv {i n b0 b1:Nat}{t:Tok}{l:List Value}(hl:l.length=4)(ht:YQ (mC (s.drop i)) i t n)(h:Hp nx0 H0 (y9 b s i::(b1,t.c,70)::(b0,l,70)::F) H nx):
 aF P pl X0 (af (ai P H 70 (some (ptr b1))) (λx0=>aR (cI P H nx 70 (some (ptr b0)) (some x0)) (λx1 H nx=>af (ai P H 70 (some (ptr b0))) (λx2=> .ret ⟨.ret (.tuple ⟨[x2,i64 (n:Int)]⟩),false,H,nx⟩) .bad)) .bad) nx0 H0 (Uk b s i F nx0 H0):=by
 simp only[ab,KB (h.at_ 1 rfl)];refine Hq.store [_,_] h eA (by rw[hl];decide) rfl rfl λH2 h2=> ?_;have e:jD l t.v.cells.toList 0=t.c:=by
  obtain⟨a0,a1,a2,a3,rfl⟩:∃a0 a1 a2 a3,l=[a0,a1,a2,a3]:=by
   match l with
   | [a0,a1,a2,a3]=>exact⟨a0,a1,a2,a3,rfl⟩
  rfl
 rw[e]at h2;simp only[ab,KB (h2.at_ 2 rfl)];exact Wq.nN h2.ag ⟨t,n,rfl,ht,h2.oU.oU⟩
theorem LF {l x:List UInt8}(h:x.length<=l.length):decide (l.take x.length=x)=x.isPrefixOf l:=by
 rw[Bool.eq_iff_iff,decide_eq_true_eq,List.isPrefixOf_iff_prefix,List.prefix_iff_eq_take];exact eq_comm
theorem OJ (hl:s.length<dQ){i b0 b1:Nat}{l0:List Value}(hi:i<=s.length)(hl0:l0.length=4)(hlex:mC (s.drop i)=(bC.find? λx=>x.isPrefixOf (s.drop i)).map λx=>(⟨7,x,0,0⟩,x.length)):
 ∀(l:List (List UInt8)) (j:Nat) (H:T OB) (nx:Nat),bC.drop j=l->j<=22->(bC.find? λx=>x.isPrefixOf (s.drop i))=l.find? (λx=>x.isPrefixOf (s.drop i))->
 Hp nx0 H0 (y9 b s i::(b1,[i64 0,au [],i64 0,i64 (i:Int)],70)::(b0,l0,70)::F) H nx->
 aF P pl X0 (.jump (w6 (ptr b) (ptr b0) (ptr b1) (i64 0) (.agg ⟨bC.map au⟩) (i64 (j:Int)) H nx)) nx0 H0 (Uk b s i F nx0 H0):=by
 have hbig:dQ=1125899906842624:=rfl;intro l
 induction l with
 | nil=>
   intro j H nx hd hj hf h;have hj2:j=22:=drop_nil hd hj;refine Wq.jmp (Jb ..) (λ_=>rfl) ?_;simp only[ab,show decide ((j:Int)<22)=false by simp;omega];exact nv (n:=0) (t:=⟨0,[],0,(i:Int)⟩) hl0 (by rw[hlex,hf];rfl) h
 | cons x l ih=>
   intro j H nx hd hj hf h;obtain⟨hg,hlt,hd'⟩:=drop_cons hd;have hlt:j<22:=hlt;have hxl:∀x∈bC,1<=x.length/\x.length<=2:=by decide
   have hx:=hxl x (List.mem_of_getElem? hg);have L18:∀y:Bool,y=x.isPrefixOf (s.drop i)->aF P pl X0 (.jump (w7 (ptr b) (ptr b0) (ptr b1) (i64 0) (au x) (.agg ⟨bC.map au⟩) (i64 (j:Int)) y H nx)) nx0 H0 (Uk b s i F nx0 H0):=by
    intro y hy;refine Wq.jmp (RV ..) (λ_=>rfl) ?_;rw[List.find?_cons,<- hy]at hf;cases y with
    | true=>
      simp only[ab,aT _ bl,aY];refine Hq.put [_] h mW rfl rfl (by simp) rfl λH2 h2=> ?_;refine Hq.put [_] h2 mX rfl rfl (by simp) rfl λH3 h3=> ?_;exact nv (t:=⟨7,x,0,(i:Int)⟩) hl0 (by rw[hlex,hf];exact⟨rfl,rfl⟩) h3
    | false=>
      simp only[ab,ao (show j<9223372036854775807 by omega)];exact ih (j+1) H nx hd' (by omega) hf h
   refine Wq.jmp (Jb ..) (λ_=>rfl) ?_;have e1:IntKind.i64.wrap ((s.length:Int)-(i:Int))=((s.length-i:Nat):Int):=by rw[bS (by omega)];omega
   simp only[ab,show decide ((j:Int)<22)=true by simp;omega,Xm hg,aT _ bl,aY,gZ h,vE h,e1];refine Wq.ite (λhle=> ?_) (λhle=> ?_)
   . have hle:i+x.length<=s.length:=by omega
     have e2:IntKind.i64.wrap ((i:Int)+(x.length:Int))=((i+x.length:Nat):Int):=by rw[bS (by omega)];omega
     simp only[ab,gZ h,vE h,aT _ bl,aY,e2,dE bl (Nat.le_add_right i x.length) hle,dz,Nat.add_sub_cancel_left];refine L18 _ ?_;exact LF (by rw[List.length_drop];omega)
   . refine L18 _ ?_;cases hq:x.isPrefixOf (s.drop i)with
     | false=>rfl
     | true=>
       have:=(List.isPrefixOf_iff_prefix.1 hq).length_le;rw[List.length_drop]at this;omega
theorem OK (hl:s.length<dQ){i b0 b1:Nat}{l0:List Value}{c d:UInt8}{w:List UInt8}(hdr:s.drop i=c::d::w)(hl0:l0.length=4)
 (hlex:mC (s.drop i)=some (⟨5,(c::d::w).take (2+(w.takeWhile FL).length),0,0⟩,2+(w.takeWhile FL).length)):
 ∀(r:List UInt8) (n:Nat) (H:T OB) (nx:Nat),s.drop (i+n)=r->2<=n->i+n<=s.length->n+(r.takeWhile FL).length=2+(w.takeWhile FL).length->
 Hp nx0 H0 (y9 b s i::(b1,[i64 0,au [],i64 0,i64 (i:Int)],70)::(b0,l0,70)::F) H nx->
 aF P pl X0 (.jump (w5 (ptr b) (ptr b0) (ptr b1) (i64 (n:Int)) H nx)) nx0 H0 (Uk b s i F nx0 H0):=by
 have hbig:dQ=1125899906842624:=rfl;intro r
 induction r with
 | nil=>
   intro n H nx hd hn hin he h;have hil:=drop_nil hd hin;have e2:IntKind.i64.wrap ((i:Int)+(n:Int))=((i+n:Nat):Int):=by rw[bS (by omega)];omega
   refine Wq.jmp (Ja ..) (λ_=>rfl) ?_;simp only[ab,gZ h,vE h,aT _ bl,aY,e2,show decide (((i+n:Nat):Int)<(s.length:Int))=false by simp;omega,dE bl (Nat.le_add_right i n) hin];refine Hq.put [_] h mW rfl rfl (by simp) rfl λH2 h2=> ?_;simp only[ab,gZ h2,vE h2,e2,dE bl (Nat.le_add_right i n) hin,bf];refine Hq.put [_] h2 mX rfl rfl (by simp) rfl λH3 h3=> ?_;refine nv (t:=⟨5,(s.drop i).take (i+n-i),0,(i:Int)⟩) hl0 ?_ h3;rw[hlex,hdr,Nat.add_sub_cancel_left];rw[List.takeWhile_nil,List.length_nil,Nat.add_zero]at he;rw[he];exact⟨rfl,rfl⟩
 | cons x r ih=>
   intro n H nx hd hn hin he h;obtain⟨hg,hlt,hd'⟩:=drop_cons hd;have hix:=bD (P:=P) bl hg .i64;have e2:IntKind.i64.wrap ((i:Int)+(n:Int))=((i+n:Nat):Int):=by rw[bS (by omega)];omega
   have stop:FL x=false->n=2+(w.takeWhile FL).length:=λq=>by
    rw[List.takeWhile_cons,q]at he;simpa using he
   refine Wq.jmp (Ja ..) (λ_=>rfl) ?_;simp only[ab,gZ h,vE h,aT _ bl,aY,e2,aE hlt,hix];have e39:decide ((x.toNat:Int)=39)=decide (x.toNat=39):=by rw[decide_eq_decide];omega
   rw[e39];refine _root_.Go.Proofs.YthjhonhhbddhkaaDoor.aF.gj (λh39=> ?_) (λh39=> ?_)
   . refine Hq.call (EY x) h λH1 av h1=> ?_;have hT:FL x=kf x:=by unfold FL;rw[decide_eq_false h39];rfl
     cases hw:kf x with
     | true=>
       simp only[ab,ao (show n<9223372036854775807 by omega)];refine ih (n+1) H1 av hd' (by omega) (by omega) ?_ h1;rw[List.takeWhile_cons,hT,hw]at he;simp only[if_true,List.length_cons]at he;omega
     | false=>
       have hn2:=stop (by rw[hT,hw]);simp only[ab,gZ h1,vE h1,e2,dE bl (Nat.le_add_right i n) hin];refine Hq.put [_] h1 mW rfl rfl (by simp) rfl λH2 h2=> ?_;simp only[ab,gZ h2,vE h2,e2,dE bl (Nat.le_add_right i n) hin,bf];refine Hq.put [_] h2 mX rfl rfl (by simp) rfl λH3 h3=> ?_;refine nv (t:=⟨5,(s.drop i).take (i+n-i),0,(i:Int)⟩) hl0 ?_ h3;rw[hlex,hdr,Nat.add_sub_cancel_left,hn2];exact⟨rfl,rfl⟩
   . have hn2:=stop (by unfold FL;rw[decide_eq_true h39];rfl);simp only[ab,gZ h,vE h,e2,dE bl (Nat.le_add_right i n) hin];refine Hq.put [_] h mW rfl rfl (by simp) rfl λH2 h2=> ?_;simp only[ab,gZ h2,vE h2,e2,dE bl (Nat.le_add_right i n) hin,bf];refine Hq.put [_] h2 mX rfl rfl (by simp) rfl λH3 h3=> ?_;refine nv (t:=⟨5,(s.drop i).take (i+n-i),0,(i:Int)⟩) hl0 ?_ h3;rw[hlex,hdr,Nat.add_sub_cancel_left,hn2];exact⟨rfl,rfl⟩
theorem Xn (hl:s.length<=1000000){i:Nat}(hi:i<s.length)(h:Hp nx0 H0 (y9 b s i::F) H nx):aF P pl X0 (aI P pl (.call 23 [ptr b] false none H nx)) nx0 H0 (Uk b s i F nx0 H0):=by
 have hbig:dQ=1125899906842624:=rfl;have hlb:s.length<dQ:=by omega
 obtain⟨c,u,hdr⟩:∃c u,s.drop i=c::u:=by
  cases hq:s.drop i with
  | nil=>have:=drop_nil hq (by omega);omega
  | cons c r=>exact⟨c,r,rfl⟩
 obtain⟨hg,_,hd'⟩:=drop_cons hdr;have hin:=bD (P:=P) bl hg .i64;have hul:u.length=s.length-(i+1):=by rw[<- hd',List.length_drop]
 have hP:=fI c u;rw[<- hdr]at hP;have hc:=c.toNat_lt;rw[Zt];refine Hq.alloc dS h λb0 H1 av h1=> ?_;simp only[ab,gZ h1,vE h1,hin,OI];refine Hq.alloc dS h1 λb1 H2 nx2 h2=> ?_;refine Hq.store [_] h2 eA (by simp) rfl rfl λH3 h3=> ?_;replace h3:Hp nx0 H0 (y9 b s i::(b1,[i64 0,au [],i64 0,i64 (i:Int)],70)::(b0,[i64 0,au [],i64 0,i64 0],70)::F) H3 nx2:=h3;refine Hq.call (EX c) h3 λH4 nx4 h4=> ?_;cases hdg:ck c with
 | true=>
   rw[if_pos hdg]at hP;simp only[ab];refine Hq.put [_] h4 mW rfl rfl (by simp) rfl λH5 h5=> ?_;simp only[ab,gZ h5,vE h5,lf (show i<=s.length by omega)];refine Hq.call (Ue (s.drop i) (by rw[List.length_drop];omega)) h5 λH6 nx6 h6=> ?_;unfold Mk;unfold CD at hP;rw[hdr]at hP ⊢;cases hN:mB 0 ((c::u).takeWhile ck)with
   | some v=>
     rw[hN]at hP;simp only[Nat.zero_add];refine Hq.put [_] h6 Rx rfl rfl (by simp) rfl λH7 h7=> ?_;refine Wq.jmp (w8 ..) (λ_=>rfl) ?_;exact nv (t:=⟨1,[],(v:Int),(i:Int)⟩) rfl (by rw[hdr,hP];exact⟨rfl,rfl⟩) h7
   | none=>
     rw[hN]at hP;simp only[ab];refine Hq.put [_] h6 Rx rfl rfl (by simp) rfl λH7 h7=> ?_;refine Wq.jmp (w8 ..) (λ_=>rfl) ?_;exact nv (n:=0) (t:=⟨1,[],0,(i:Int)⟩) rfl (by rw[hdr,hP];rfl) h7
 | false=>
   rw[if_neg (by rw[hdg];decide)]at hP;unfold uz at hP;simp only[ab];refine Wq.ite (λh34=> ?_) (λh34=> ?_)
   . rw[if_pos (by omega)]at hP;refine Hq.put [_] h4 mW rfl rfl (by simp) rfl λH5 h5=> ?_;simp only[ab,gZ h5,vE h5,lf (show i<=s.length by omega)];refine Hq.call (Ug (s.drop i) (by rw[List.length_drop];omega) (by rw[List.length_drop];omega)) h5 λH6 nx6 h6=> ?_;have e:qt (s.drop i).length ((s.drop i).drop 1)=qt (u.length+1) u:=by rw[hdr];rfl
     rw[e];cases hN:qt (u.length+1) u with
     | some v=>
       rw[hN]at hP;unfold OF;simp only[ab,List.nil_append];refine Hq.put [_] h6 mX rfl rfl (by simp) rfl λH7 h7=> ?_;refine Wq.jmp (w8 ..) (λ_=>rfl) ?_;exact nv (t:=⟨2,v.1,0,(i:Int)⟩) rfl (by rw[hP];exact⟨rfl,rfl⟩) h7
     | none=>
       rw[hN]at hP;unfold OF;simp only[ab];refine Hq.put [_] h6 mX rfl rfl (by simp) rfl λH7 h7=> ?_;refine Wq.jmp (w8 ..) (λ_=>rfl) ?_;exact nv (n:=0) (t:=⟨2,[],0,(i:Int)⟩) rfl (by rw[hP];rfl) h7
   rw[if_neg (by omega)]at hP;have L38:∀(x:Bool) H5 nx5,x=(cL c||cW c)->Hp nx0 H0 (y9 b s i::(b1,[i64 0,au [],i64 0,i64 (i:Int)],70)::(b0,[i64 0,au [],i64 0,i64 0],70)::F) H5 nx5->
    aF P pl X0 (.jump (w0 (ptr b) (ptr b0) (b8 c) (ptr b1) (i64 0) x H5 nx5)) nx0 H0 (Uk b s i F nx0 H0):=by
    intro x H5 nx5 hx h5;refine Wq.jmp (RT ..) (λ_=>rfl) ?_;rw[<- hx]at hP;cases x with
    | true=>
      rw[if_pos rfl]at hP;simp only[ab,gZ h5];have e:(s.drop i).take (1+((s.drop (i+1)).takeWhile kf).length)=c::u.takeWhile kf:=by
       rw[hdr,hd',Nat.add_comm,List.take_succ_cons,yX]
      have h102:=Uj hlb hi h5;rw[e]at h102;refine Sq.mq rfl h102 λH6 nx6 h6=> ?_;refine Hq.put [_] h6 mX rfl rfl (by simp) rfl λH7 h7=> ?_;simp only[ab,ah (off:=1) (u:=au (c::u.takeWhile kf)) (h7.at_ 1 rfl) nm rfl];refine Hq.qK (P8 c (u.takeWhile kf)) h7 λH8 nx8 h8=> ?_;refine Hq.put [_] h8 mW rfl rfl (by simp) rfl λH9 h9=> ?_;simp only[ab,ah (off:=1) (u:=au (c::u.takeWhile kf)) (h9.at_ 1 rfl) nm rfl,aT _ bl,aY];exact nv (t:=⟨kh (c::u.takeWhile kf),c::u.takeWhile kf,0,(i:Int)⟩) rfl (by rw[hP];exact⟨rfl,by rw[List.length_cons,Nat.add_comm]⟩) h9
    | false=>
      rw[if_neg (by decide)]at hP;have L46:∀(y:Bool) H5 nx5,(y=true↔(c.toNat=39/\kD u=true))->Hp nx0 H0 (y9 b s i::(b1,[i64 0,au [],i64 0,i64 (i:Int)],70)::(b0,[i64 0,au [],i64 0,i64 0],70)::F) H5 nx5->
       aF P pl X0 (.jump (th (ptr b) (ptr b0) (ptr b1) (i64 0) y H5 nx5)) nx0 H0 (Uk b s i F nx0 H0):=by
       intro y H5 nx5 hy h5;refine Wq.jmp (RU ..) (λ_=>rfl) ?_;cases y with
       | true=>
         have hc2:=hy.1 rfl;rw[if_pos hc2]at hP;obtain⟨d,w,rfl⟩:∃d w,u=d::w:=by
          cases u with
          | nil=>cases hc2.2
          | cons d w=>exact⟨d,w,rfl⟩
         simp only[List.length_cons]at hul;refine OK hlb hdr rfl hP (s.drop (i+2)) 2 H5 nx5 rfl (Nat.le_refl _) (by omega) ?_ h5;have:s.drop (i+2)=w:=by rw[<- List.drop_drop,hdr];rfl
         rw[this]
       | false=>
         rw[if_neg (λq=>by have:=hy.2 q;cases this)]at hP;simp only[ab];rw[tJ ((h5.yq.ag h5.ag).P7) MT Ry rfl];simp only[ab];rw[<- hdr]at hP;exact OJ hlb (by omega) rfl hP bC 0 H5 nx5 rfl (by omega) rfl h5
      simp only[ab];refine Wq.ite (λh39=> ?_) (λh39=>L46 _ _ _ (by simp;omega) h5);simp only[ab,gZ h5,vE h5,aT _ bl,aY,ao (show i<9223372036854775807 by omega)];refine Wq.ite (λhi2=> ?_) (λhi2=>L46 _ _ _ ?_ h5)
      . obtain⟨d,w,rfl⟩:∃d w,u=d::w:=by
         cases u with
         | nil=>simp at hul;omega
         | cons d w=>exact⟨d,w,rfl⟩
        have hg2:=(drop_cons hd').1;simp only[ab,gZ h5,vE h5,ao (show i<9223372036854775807 by omega),bD bl hg2];refine Hq.call (Aq d) h5 λH6 nx6 h6=> ?_;simp only[ab];refine L46 _ _ _ ?_ h6;show cL d=true↔_/\cL d=true;exact⟨λq=>⟨by omega,q⟩,λq=>q.2⟩
      . cases u with
        | nil=>simp[kD]
        | cons d w=>simp at hul;omega
   refine Hq.call (Aq c) h4 λH5 nx5 h5=> ?_;cases hlow:cL c with
   | true=>
     simp only[ab];exact L38 _ _ _ (by rw[hlow];rfl) h5
   | false=>
     simp only[ab];refine Hq.call (EW c) h5 λH6 nx6 h6=> ?_;simp only[ab];exact L38 _ _ _ (by rw[hlow];rfl) h6
end
section
variable {nx0 nx nx':Nat}{H0 H H':T OB}{F G:List Bx}{b:Nat}{s:List UInt8}
def gR (s:List UInt8):Nat->List Tok->Nat->List Tok×Nat×Int
 | 0,_,i=>([],i,70)
 | m+1,out,i=>if(er (s.drop i)).2=false then([],i+(er (s.drop i)).1,70)
   else if s.length<=i+(er (s.drop i)).1 then(out++[⟨0,[],0,(s.length:Int)⟩],0,0)
   else match mC (s.drop (i+(er (s.drop i)).1))with
    | none=>([],i+(er (s.drop i)).1,70)
    | some q=>if 1000<=out.length then([],i+(er (s.drop i)).1,3)
      else gR s m (out++[⟨q.1.k,q.1.s,q.1.n,((i+(er (s.drop i)).1:Nat):Int)⟩]) (i+(er (s.drop i)).1+q.2)
def scan (s:List UInt8):List Tok×Nat×Int:=if 4096<s.length then([],0,3)else gR s (s.length+1) [] 0
abbrev AV (q:List Tok×Nat×Int):Value:= .tuple ⟨[ku q.1,i64 (q.2.1:Int),i64 q.2.2]⟩
theorem o6 {r:List UInt8}{q:Tok×Nat}(h:mC r=some q):0<q.2/\q.2<=r.length:=by
 cases r with
 | nil=>cases h
 | cons c u=>
   rw[fI]at h
   by_cases hd:ck c=true
   . rw[if_pos hd]at h;have e:(c::u).takeWhile ck=c::u.takeWhile ck:=by rw[List.takeWhile_cons,hd];rfl
     rw[e]at h;unfold CD at h;have hle:=FM (p:=ck) u;cases hN:mB 0 (c::u.takeWhile ck)with
     | none=>rw[hN]at h;cases h
     | some v=>rw[hN]at h;cases h;simp;omega
   rw[if_neg hd]at h;unfold uz at h
   by_cases h34:c.toNat=34
   . rw[if_pos h34]at h;obtain⟨q1,hq,rfl⟩:=Option.map_eq_some_iff.1 h;have:=QO hq;simp;omega
   rw[if_neg h34]at h
   by_cases hl:(cL c||cW c)=true
   . rw[if_pos hl]at h;have hle:=FM (p:=kf) u;cases h;simp;omega
   rw[if_neg hl]at h
   by_cases h39:c.toNat=39/\kD u=true
   . rw[if_pos h39]at h;cases u with
     | nil=>cases h39.2
     | cons d w=>
       have hle:=FM (p:=FL) w;cases h;simp only[List.drop_succ_cons,List.drop_zero,List.length_cons];omega
   rw[if_neg h39]at h;obtain⟨x,hx,rfl⟩:=Option.map_eq_some_iff.1 h;have hp:=(List.isPrefixOf_iff_prefix.1 (by simpa using List.find?_some hx:x.isPrefixOf (c::u)=true)).length_le;have hm:=Xk _ (List.mem_of_find?_eq_some hx);refine⟨?_,hp⟩;cases x with
   | nil=>exact absurd rfl hm.2
   | cons a x=>simp
theorem Xo:ei P 4 70=[]:=by kernel_rfl
theorem OL (t:Tok):qX true 4 [t.v]:=λv hv=>by
 rw[List.mem_singleton]at hv;subst hv;exact⟨rfl,rfl,⟨_,rfl⟩⟩
theorem Hg {x:Bx}{out:List Tok}{sl:Value}{kt:Value->T OB->Nat->Q}{R:Go.Ev.Out->T OB->Nat->Prop}(hG:Gw true 4 70 (out.map Tok.v) sl G)(h:Hp nx0 H0 (x::(G++F)) H nx)(hk:∀H' nx',Hp nx0 H0 (x::F) H' nx'->aF P pl X0 (kt (ku out) H' nx') nx0 H0 R):aF P pl X0 (ch P 35 sl H nx kt) nx0 H0 R:=by
 have e:ch P 35 sl H nx kt=kQ P 100000 35 sl H nx kt:=by
  unfold ch;rcases hG.2 with⟨_,rfl,_⟩ | ⟨b,c,rfl,_⟩<;>rfl
 rw[e];exact(dA.gw (t:=35) (n:=0) kZ eA nO rfl Xo hG (km.id λv hv=>by
  obtain⟨t,_,rfl⟩:=List.mem_map.1 hv;exact iO.of fZ.nil) (λu hu=>by obtain⟨x,_,rfl⟩:=List.mem_map.1 hu;rfl) id) 100000 (by omega) nx0 nx H0 H x F kt R h hk
theorem mU (H:T OB)(nx:Nat)(k:Value->T OB->Nat->Q):ch P 35 aw H nx k=k (ku []) H nx:=by kernel_rfl
theorem OM (n:Int):a9 P 70 (some [(0,i64 0),(3,i64 n)])=some (Tok.v ⟨0,[],0,n⟩):=aX dS (by kernel_rfl)
theorem Hq.QP (A:List Bx){B:List Bx}{x:Bx}{c:Nat}{l:List Tok}{t:Tok}{sl:Value}{kt:Value->T OB->Nat->Q}{R:Go.Ev.Out->T OB->Nat->Prop}(hl:l.length<=1000000)(hG:Gw true 4 70 (l.map Tok.v) sl G)(h:Hp nx0 H0 (x::(c,t.c,70)::(A++(G++B))) H nx)
 (hk:∀sl' G' H' nx',Gw true 4 70 ((l++[t]).map Tok.v) sl' G'->Hp nx0 H0 (x::(A++(G'++B))) H' nx'->aF P pl X0 (kt sl' H' nx') nx0 H0 R):aF P pl X0 (aR (cO P H nx [35,35] (some [sl,.slice (some ⟨c,0,none⟩) 1 1])) kt) nx0 H0 R:=
 Hq.add A kZ eA (Kl (by rw[List.length_map];omega)) (by rw[List.length_map];omega) (OL t) hG h λsl' G' H' nx' hG' h'=>hk sl' G' H' nx' (by rw[List.map_append];exact hG') h'
theorem Gw.YR {l:List Tok}{sl:Value}(hG:Gw true 4 70 (l.map Tok.v) sl G):cv P #[35] 3 (some [sl])=some (i64 (l.length:Int)):=by
 rcases hG.2 with⟨h0,rfl,_⟩ | ⟨b,c,rfl,_⟩
 . rw[List.map_eq_nil_iff.1 h0];kernel_rfl
 . rw[List.length_map];exact fX (by kernel_rfl)
theorem YS (hl:s.length<=4096):∀(m i:Nat) (out:List Tok) (sl:Value) (G:List Bx) (H:T OB) (nx:Nat),s.length-i<m->i<=s.length->out.length<=1000->Gw true 4 70 (out.map Tok.v) sl G->Hp nx0 H0 (y9 b s i::([]++(G++[]))) H nx->
 Wq P pl X0 (.jump (wM (au s) (ptr b) sl H nx)) nx0 H0 (AV (gR s m out i)):=by
 have hbig:dQ=1125899906842624:=rfl;intro m
 induction m with
 | zero=>intro i out sl G H nx hm;omega
 | succ m ih=>
   intro i out sl G H nx hm hi ho hG h;refine Wq.jmp (RI ..) (λ_=>rfl) ?_;refine Sq.mq rfl (Xl (by omega) hi h) λH1 av h1=> ?_;have hle:=CC (s.drop i);rw[List.length_drop]at hle;unfold gR;generalize hp:er (s.drop i)=p at h1 hle ⊢;obtain⟨n,ok⟩:=p;simp only at h1 hle ⊢;cases ok with
   | false=>
     rw[if_pos rfl];simp only[ab,gZ h1];rw[mU];exact Wq.ret h1.ag
   | true=>
     rw[if_neg (by decide)];simp only[ab,gZ h1,aT _ bl,aY];refine Wq.ite (λhge=> ?_) (λhge=> ?_)
     . rw[if_pos (by omega)];simp only[ab,OM];refine Hq.row kZ eA dS rfl (Km _ _ _ _) h1 λc H2 nx2 h2=> ?_;refine Hq.QP [] (t:=⟨0,[],0,(s.length:Int)⟩) (by omega) hG h2 λsl' G' H3 nx3 hG' h3=> ?_;refine Hg hG' h3 λH4 nx4 h4=> ?_;exact Wq.ret h4.ag
     . have hlt:i+n<s.length:=by omega
       rw[if_neg (by omega)];refine Wq.iF rfl (Xn (by omega) hlt h1) (λv H2 nx2 hA2 hR=> ?_) (λv H2 nx2 hA2 hR=>by obtain⟨t,k,q,_⟩:=hR;cases q);obtain⟨t,k,q,hT,h2⟩:=hR;cases q;refine Hq.var (x:=t.v) dS eA rfl rfl rfl h2 λH3 nx3 h3=> ?_;unfold YQ at hT;cases hx:mC (s.drop (i+n))with
       | none=>
         rw[hx]at hT;subst hT;simp only[ab,gZ h3];rw[mU];exact Wq.ret h3.ag
       | some q=>
         rw[hx]at hT;obtain⟨rfl,rfl⟩:=hT;have hpos:=o6 hx;rw[List.length_drop]at hpos;simp only[ab,show decide ((q.2:Int)=0)=false by simp;omega,hG.YR];refine Wq.ite (λh1000=> ?_) (λh1000=> ?_)
         . rw[if_pos (by omega)];simp only[ab,gZ h3];rw[mU];exact Wq.ret h3.ag
         . rw[if_neg (by omega)];refine Hq.row kZ eA dS rfl (Km _ _ _ _) h3 λc H4 nx4 h4=> ?_;refine Hq.QP [] (t:=⟨q.1.k,q.1.s,q.1.n,((i+n:Nat):Int)⟩) (by omega) hG h4 λsl' G' H5 nx5 hG' h5=> ?_;have ew:IntKind.i64.wrap (((i+n:Nat):Int)+(q.2:Int))=((i+n+q.2:Nat):Int):=by rw[bS (by omega)];omega
           simp only[ab,gZ h5,ew];refine Hq.put [] h5 mW rfl rfl (by simp) rfl λH6 h6=> ?_;exact ih (i+n+q.2) _ sl' G' H6 nx5 (by omega) (by omega) (by rw[List.length_append,List.length_singleton];omega) hG' h6
theorem Xp (s:List UInt8)(hl:s.length<dQ):PT 12 [au s] (AV (scan s)):=PT.of rfl λH nx hT=>by
 rw[Zj];unfold scan;simp only[ab,aT _ bl,aY];refine Wq.ite (λh=> ?_) (λh=> ?_)
 . rw[if_pos (by omega),mU];exact Wq.ret (.refl _ _)
 . rw[if_neg (by omega)];have e:a9 P 68 (some [(0,au s)])=some (.agg ⟨[au s,i64 0]⟩):=aX (show bT P 68=some [au [],i64 0]by kernel_rfl) (by kernel_rfl);simp only[ab,e];refine Wq.box (.refl _ _) λH1 hb cc hA=> ?_;have h0:Hp nx H [] H nx:=⟨hT,Ag.refl nx H,by simp,λx hx=>by simp at hx⟩;exact YS (by omega) (s.length+1) 0 [] aw [] H1 (nx+1) (by omega) (Nat.zero_le _) (by simp) (Gw.nil _ _ _) (h0.new hb cc hA)
end
section
variable {nx0 nx nx':Nat}{H0 H H':T OB}{L:List Tok}{s:List UInt8}
theorem FN:∀{r:List UInt8} {n m:Nat},mB n r=some m->n<=4611686018427387903->m<=4611686018427387903
 | [],n,m,h,hn=>by cases h;exact hn
 | c::r,n,m,h,hn=>by
   rw[mB]at h;split at h
   . rename_i hc;have:=QN hc.1;exact FN h (by omega)
   . cases h
theorem LG:∀{f:Nat} {s:List UInt8} {q:List UInt8×Nat},qt f s=some q->q.1.length<=q.2:=by
 intro f
 induction f with
 | zero=>intro s q h;cases h
 | succ f ih=>
   intro s q h;cases s with
   | nil=>cases h
   | cons c r=>
     rw[o5]at h
     by_cases h1:c.toNat=34
     . rw[if_pos h1]at h;cases h;exact Nat.zero_le _
     rw[if_neg h1]at h
     by_cases h2:(gY (c::r)).2=0
     . rw[if_pos h2]at h;cases h
     rw[if_neg h2]at h;obtain⟨q1,hq,rfl⟩:=Option.map_eq_some_iff.1 h;have:=ih hq;show((gY (c::r)).1::q1.1).length<=(gY (c::r)).2+q1.2;rw[List.length_cons];omega
theorem ON {r:List UInt8}{q:Tok×Nat}(h:mC r=some q):rg q.1.n/\q.1.s.length<=r.length:=by
 cases r with
 | nil=>cases h
 | cons c u=>
   rw[fI]at h
   by_cases hd:ck c=true
   . rw[if_pos hd]at h;unfold CD at h;cases hN:mB 0 ((c::u).takeWhile ck)with
     | none=>rw[hN]at h;cases h
     | some v=>
       rw[hN]at h;cases h;have:=FN hN (by omega);exact⟨by show rg (v:Int);omega,Nat.zero_le _⟩
   rw[if_neg hd]at h;unfold uz at h
   by_cases h34:c.toNat=34
   . rw[if_pos h34]at h;obtain⟨q1,hq,rfl⟩:=Option.map_eq_some_iff.1 h;have:=QO hq;have:=LG hq;exact⟨by show rg 0;omega,by show q1.1.length<=_;simp;omega⟩
   rw[if_neg h34]at h
   by_cases hl:(cL c||cW c)=true
   . rw[if_pos hl]at h;have hle:=FM (p:=kf) u;cases h;exact⟨by show rg 0;omega,by simp;omega⟩
   rw[if_neg hl]at h
   by_cases h39:c.toNat=39/\kD u=true
   . rw[if_pos h39]at h;cases h;exact⟨by show rg 0;omega,by show(List.take _ _).length<=_;rw[List.length_take];omega⟩
   rw[if_neg h39]at h;obtain⟨x,hx,rfl⟩:=Option.map_eq_some_iff.1 h;have hp:=(List.isPrefixOf_iff_prefix.1 (by simpa using List.find?_some hx:x.isPrefixOf (c::u)=true)).length_le;exact⟨by show rg 0;omega,hp⟩
theorem LH (s:List UInt8):∀(m:Nat) (out:List Tok) (i:Nat),out.length<=1000->(∀t,t∈out->rg t.n/\t.s.length<=s.length)->(gR s m out i).1.length<=1001/\∀t,t∈(gR s m out i).1->rg t.n/\t.s.length<=s.length:=by
 have hnil:([]:List Tok).length<=1001/\∀t,t∈([]:List Tok)->rg t.n/\t.s.length<=s.length:=⟨by decide,λt h=>by simp at h⟩;intro m
 induction m with
 | zero=>intro out i _ _;exact hnil
 | succ m ih=>
   intro out i ho hT;unfold gR;split
   . exact hnil
   split
   . refine⟨by simp;omega,λt ht=> ?_⟩;rcases List.mem_append.1 ht with h | h
     . exact hT t h
     . rw[List.mem_singleton]at h;subst h;exact⟨by show rg 0;omega,Nat.zero_le _⟩
   split
   . exact hnil
   . rename_i q hq;split
     . exact hnil
     . rename_i h1000;refine ih _ _ (by rw[List.length_append,List.length_singleton];omega) λt ht=> ?_;rcases List.mem_append.1 ht with h | h
       . exact hT t h
       . rw[List.mem_singleton]at h;subst h;have:=ON hq;rw[List.length_drop]at this;exact⟨this.1,by have:=this.2;show q.1.s.length<=_;omega⟩
theorem yY (hl:s.length<dQ):(scan s).1.length<=1001/\tS (scan s).1/\∀t,t∈(scan s).1->t.s.length<=4096:=by
 unfold scan;split
 . exact⟨by decide,λt h=>(by simp at h),λt h=>(by simp at h)⟩
 . have:=LH s (s.length+1) [] 0 (by simp) (λt h=>by simp at h);exact⟨this.1,λt ht=>⟨(this.2 t ht).1,by have:=(this.2 t ht).2;show t.s.length<_;omega⟩,λt ht=>by have:=(this.2 t ht).2;omega⟩
theorem Xq (es:List Value)(H:T OB)(nx:Nat)(k:Value->T OB->Nat->Q):fl P 35 (aM 4 es) H nx k=k (aM 4 es) H nx:=by kernel_rfl
theorem OO (hT0:dY nx0 H0)(hL:L.length<=100000)(hT:tS L){n:Nat}(hn:n<=90000){o:kn (List aG)}(ho:(ps L n).cq [] 0=some o)(hA:Ag nx0 H0 nx H):aF P pl X0 (aI P pl (.call 13 [ku L] false none H nx)) nx0 H0 (Ow (m8 L o)):=by
 rw[YN,Xq];exact aF.mono (aF.base hA (k15 (hT0.ag hA) hL hT hn ho)) λq H2 nx2 hA2 h2=>h2.1
def parse (s:List UInt8)(o:kn (List aG)):List aG×Int×Int:=if(scan s).2.2=0 then m8 (scan s).1 o else([],((scan s).2.1:Int),(scan s).2.2)
theorem Ul (s:List UInt8):bk (some (AV (scan s))) 0=some (ku (scan s).1)/\bk (some (AV (scan s))) 1=some (i64 ((scan s).2.1:Int))/\bk (some (AV (scan s))) 2=some (i64 (scan s).2.2):=⟨rfl,rfl,rfl⟩
theorem QQ (hl:s.length<dQ){o:kn (List aG)}(ho:(ps (scan s).1 90000).cq [] 0=some o)(hT0:dY nx0 H0)(hA:Ag nx0 H0 nx H):aF P pl X0 (aI P pl (.call 6 [au s] false none H nx)) nx0 H0 (Ow (parse s o)):=by
 have hs:=yY hl;obtain⟨x0,x1,x2⟩:=Ul s;rw[q6];refine Wq.qK hT0 (Xp s hl) hA λH1 av hA1=> ?_;simp only[ab,x0,x1,x2];unfold parse;refine aF.gj (λh=> ?_) (λh=> ?_)
 . rw[if_neg h];exact Wq.nN hA1 ⟨aw,rfl,.inr ⟨rfl,rfl⟩⟩
 . rw[if_pos h];refine Wq.iF rfl (OO hT0 (by omega) hs.2.1 (Nat.le_refl _) ho hA1) (λu H2 nx2 hA2 hR=> ?_) (λu H2 nx2 hA2 hR=>by obtain⟨v,q,_⟩:=hR;cases q);obtain⟨v,q,hv⟩:=hR;cases q;generalize m8 (scan s).1 o=r at hv ⊢;obtain⟨ds,a,e⟩:=r;have y0:bk (some (Value.tuple ⟨[v,i64 a,i64 e]⟩)) 0=some v:=rfl;have y1:bk (some (Value.tuple ⟨[v,i64 a,i64 e]⟩)) 1=some (i64 a):=rfl;have y2:bk (some (Value.tuple ⟨[v,i64 a,i64 e]⟩)) 2=some (i64 e):=rfl;simp only[ab,y0,y1,y2];exact Wq.nN hA2 ⟨v,rfl,hv⟩
theorem LI (l:List aG)(v w:Value)(hv:DV l v)(hw:DV l w)(hl:l.length<dQ)(hok:∀d,d∈l->d.ok):P0 11 [v,w] (.bool true):=by
 have h:=OE l v hv hl hok;rcases hw with rfl | ⟨rfl,rfl⟩
 . exact h
 . intro H nx;obtain⟨H1,av,h1,h2⟩:=h H nx;refine⟨H1,av,h1,?_⟩;rw[<- h2,p5,p5];have e1:aI P pl (.call 11 [v,aw] false none H nx)=aI P pl (.call 11 [v,ca []] false none H nx):=by
    rw[Vy,Vy];rcases hv with rfl | ⟨_,rfl⟩
    . rw[tF,tF];rfl
    . rfl
   rw[e1];rfl
end
section
variable {nx0 nx nx':Nat}{H0 H H':T OB}{L M:List Tok}{s:List UInt8}
theorem Hh (s:List UInt8):∀(m:Nat) (out:List Tok) (i:Nat) (L:List Tok) (a:Nat),i<=s.length->out.Pairwise (λx y=>x.at_<y.at_)->(∀t,t∈out->0<=t.at_/\t.at_<(i:Int))->gR s m out i=(L,a,0)->
 ∃L0,L=L0++[⟨0,[],0,(s.length:Int)⟩]/\L0.Pairwise (λx y=>x.at_<y.at_)/\∀t,t∈L0->0<=t.at_/\t.at_<(s.length:Int):=by
 intro m
 induction m with
 | zero=>intro out i L a _ _ _ h;cases h
 | succ m ih=>
   intro out i L a hi hP hT h;unfold gR at h;split at h
   . cases h
   split at h
   . cases h;exact⟨out,rfl,hP,λt ht=>⟨(hT t ht).1,by have:=(hT t ht).2;omega⟩⟩
   rename_i h1 h2;split at h
   . cases h
   . rename_i q hq;split at h
     . cases h
     . have hp:=o6 hq;rw[List.length_drop]at hp;refine ih _ _ L a (by omega) ?_ (λt ht=> ?_) h
       . rw[List.pairwise_append];refine⟨hP,List.pairwise_singleton _ _,λx hx y hy=> ?_⟩;rw[List.mem_singleton]at hy;subst hy;have:=(hT x hx).2;show x.at_<((i+(er (s.drop i)).1:Nat):Int);omega
       . rcases List.mem_append.1 ht with h | h
         . exact⟨(hT t h).1,by have:=(hT t h).2;omega⟩
         . rw[List.mem_singleton]at h;subst h;exact⟨by show(0:Int)<=((i+(er (s.drop i)).1:Nat):Int);omega,by show((i+(er (s.drop i)).1:Nat):Int)<_;omega⟩
theorem LJ {a:Nat}(h:scan s=(L,a,0)):∃L0,L=L0++[⟨0,[],0,(s.length:Int)⟩]/\L0.Pairwise (λx y=>x.at_<y.at_)/\∀t,t∈L0->0<=t.at_/\t.at_<(s.length:Int):=by
 unfold scan at h;split at h
 . cases h
 . exact Hh s _ [] 0 L a (Nat.zero_le _) List.Pairwise.nil (λt ht=>by simp at ht) h
theorem QR {i:Nat}{t:Tok}(h:L[i]? = some t):tk L i=t:=by unfold tk;rw[h];rfl
end
section
variable {L:List Tok}{α β:Type}{k:Nat}{Q:β->Nat->Prop}{Q1:α->Nat->Prop}
def Rs {α:Type}(x:PR α)(Q:α->Nat->Prop):Prop:=∀a k',x=some (.ok a k')->Q a k'
theorem Rs.none:Rs (none:PR β) Q:=λa k h=>by cases h
theorem Rs.bd {x:PR α}{f:α->Nat->PR β}(h:Rs x Q1)(hf:∀a k1,Q1 a k1->Rs (f a k1) Q):Rs (bd x f) Q:=by
 cases x with
 | none=>exact Rs.none
 | some r=>
   cases r with
   | bad a=>exact λa k h=>by cases h
   | ok a k=>exact hf a k (h a k rfl)
theorem Rs.fail:Rs (jL L k:PR β) Q:=λa k h=>by cases h
theorem Rs.yes {a:β}(h:Q a k):Rs (yes a k) Q:=λa k h'=>by cases h';exact h
theorem Rs.mono {x:PR β}{Q':β->Nat->Prop}(h:Rs x Q)(hQ:∀a k,Q a k->Q' a k):Rs x Q':=λa k e=>hQ a k (h a k e)
theorem Rs.ite {c:Prop}[Decidable c]{x y:PR β}(h:c->Rs x Q)(h':¬c->Rs y Q):Rs (if c then x else y) Q:=by
 by_cases hc:c
 . rw[if_pos hc];exact h hc
 . rw[if_neg hc];exact h' hc
theorem Rs.aQ {w:List UInt8}{f:Nat->PR β}(hf:Rs (f (k+1)) Q):Rs (aQ L w k f) Q:=Rs.ite (λ_=>hf) (λ_=>Rs.fail)
theorem Rs.bY {c:Int}{f:Tok->Nat->PR β}(hf:(tk L k).k=c->Rs (f (tk L k) (k+1)) Q):Rs (bY L c k f) Q:=Rs.ite hf (λ_=>Rs.fail)
def Cw (L:List Tok):Nat->Nat
 | 0=>0
 | k+1=>Cw L k+7+(tk L k).s.length/8
theorem dn (L:List Tok)(k:Nat):Cw L (k+1)=Cw L k+7+(tk L k).s.length/8:=rfl
theorem nY (l:List aq)(b:aq):bO (l++[b])=bO l+b.z:=by
 induction l with
 | nil=>simp only[List.nil_append,bO];omega
 | cons a l ih=>rw[List.cons_append,bO,ih,bO];omega
theorem lu (l:List aB)(b:aB):bB (l++[b])=bB l+b.z:=by
 induction l with
 | nil=>simp only[List.nil_append,bB];omega
 | cons a l ih=>rw[List.cons_append,bB,ih,bB];omega
theorem vF (l:List aO)(b:aO):eF (l++[b])=eF l+b.z:=by
 induction l with
 | nil=>simp only[List.nil_append,eF];omega
 | cons a l ih=>rw[List.cons_append,eF,ih,eF];omega
theorem nZ (l:List aG)(b:aG):ek (l++[b])=ek l+b.z:=by
 induction l with
 | nil=>simp only[List.nil_append,ek];omega
 | cons a l ih=>rw[List.cons_append,ek,ih,ek];omega
theorem Hi (l:List Fn)(b:Fn):jf (l++[b])=jf l+b.z:=by
 induction l with
 | nil=>simp only[List.nil_append,jf];omega
 | cons a l ih=>rw[List.cons_append,jf,ih,jf];omega
theorem CG (l:List cS)(b:cS):fw (l++[b])=fw l+b.z:=by
 induction l with
 | nil=>simp only[List.nil_append,fw];omega
 | cons a l ih=>rw[List.cons_append,fw,ih,fw];omega
theorem tV (l:List (List UInt8))(b:List UInt8):dT (l++[b])=dT l+(1+b.length/8):=by
 induction l with
 | nil=>simp only[List.nil_append,dT];omega
 | cons a l ih=>rw[List.cons_append,dT,ih,dT];omega
def Al {α:Type}(r:α->Bool)(l:List α):Prop:=∀a,a∈l->r a=true
theorem Al.nil {r:α->Bool}:Al r []:=λa h=>nomatch h
theorem Al.snoc {r:α->Bool}{l:List α}{b:α}(h:Al r l)(hb:r b=true):Al r (l++[b]):=λa ha=>by
 rcases List.mem_append.1 ha with h' | h'
 . exact h a h'
 . rw[List.mem_singleton.1 h'];exact hb
theorem Al.one {r:α->Bool}{b:α}(hb:r b=true):Al r [b]:=λa ha=>by rw[List.mem_singleton.1 ha];exact hb
theorem Al.two {r:α->Bool}{a b:α}(ha:r a=true)(hb:r b=true):Al r [a,b]:=(Al.one ha).snoc hb
theorem Al.three {r:α->Bool}{a b c:α}(ha:r a=true)(hb:r b=true)(hc:r c=true):Al r [a,b,c]:=(Al.two ha hb).snoc hc
theorem Al.all {r:α->Bool}{l:List α}(h:Al r l):l.all r=true:=List.all_eq_true.2 h
theorem jq {k n:Int}{s:List UInt8}{l:List aq}{p:List aB}{d:List aG}(hl:Al bh l)(hb:kl (.mk k n s l p d)= .mk k n s l p d)(hp:Al bx p)(hd:Al eo d)(hh:fx k n s l.length p.length d=true):bh (.mk k n s l p d)=true:=by
 rw[yo];show(ba l&&(cP (kl (.mk k n s l p d)) (.mk k n s l p d)&&(bz p&&(de d&&fx k n s l.length p.length d))))=true;rw[jn,cJ,fB,hl.all,hp.all,hd.all,hh,hb];simp[cP]
theorem lH {k n:Int}{s:List UInt8}{l:List aB}(hl:Al bx l)(hh:kj k n s l=true):bx (.mk k n s l)=true:=by
 rw[h_];show(bz l&&kj k n s l)=true;rw[cJ,hl.all,hh];rfl
theorem Hj {k:Int}{s:List UInt8}{l:List aO}(hl:Al im l)(hh:Ay k s l.length=true):im (.mk k s l)=true:=by
 rw[yn];show(lE l&&Ay k s l.length)=true;rw[eV,hl.all,hh];rfl
variable (ht:∀k,aV (tk L k)=true)
include ht
theorem LK (h:(tk L k).k=1):0<=(tk L k).n/\(tk L k).n<=4611686018427387903:=by
 have:=ht k;unfold aV at this;rw[h,if_neg (by decide),if_pos rfl]at this;simp only[Bool.and_eq_true,decide_eq_true_eq]at this;exact this.2
theorem tW (h:(tk L k).k=3):aU 3 (tk L k).s=true:=by
 have:=ht k;unfold aV at this;rw[h,if_neg (by decide),if_neg (by decide),if_neg (by decide),if_neg (by decide),if_neg (by decide),if_pos (by decide),Bool.and_eq_true,Bool.and_eq_true]at this;rw[Kf,this.1,this.2.2];rfl
theorem AW (h:(tk L k).k=4):aU 4 (tk L k).s=true:=by
 have:=ht k;unfold aV at this;rw[h,if_neg (by decide),if_neg (by decide),if_neg (by decide),if_neg (by decide),if_neg (by decide),if_pos (by decide),Bool.and_eq_true,Bool.and_eq_true]at this;rw[Kg,this.1,this.2.2];rfl
theorem vG (h:(tk L k).k=5):aU 5 (tk L k).s=true:=by
 have:=ht k;unfold aV at this;rw[h,if_neg (by decide),if_neg (by decide),if_neg (by decide),if_neg (by decide),if_pos rfl,Bool.and_eq_true]at this;rw[Kh,this.1]
theorem Um (h:eZ L k=true):(decide ((tk L k).s=[114,101,102])||aU 3 (tk L k).s)=true:=by
 unfold eZ at h;rw[Bool.or_eq_true,decide_eq_true_eq]at h
 rcases h with h | h
 . rw[tW ht h,Bool.or_true]
 . unfold bP at h;rw[Bool.and_eq_true,decide_eq_true_eq]at h;rw[decide_eq_true h.2,Bool.true_or]
omit ht
theorem Xr {lv:Nat}(h:gV L lv k=true):il.contains (tk L k).s=true:=by
 unfold gV at h;rw[Bool.and_eq_true]at h;have e:il=aC.flatten:=by decide +kernel
 have h2:=h.2;cases hx:aC[lv]? with
 | none=>rw[hx]at h2;simp at h2
 | some x=>
   rw[hx]at h2;have h2:x.contains (tk L k).s=true:=h2;rw[e];simp only[List.contains_iff_mem]at h2 ⊢;exact List.mem_flatten.2 ⟨x,List.mem_of_getElem? hx,h2⟩
theorem YT (h:unOp L k=true):cX.contains (tk L k).s=true:=by
 unfold unOp at h;rw[Bool.and_eq_true]at h;exact h.2
theorem gS (k n:Int)(s:List UInt8)(l:List aq)(p:List aB)(d:List aG):(aq.mk k n s l p d).z=1+s.length/8+bO l+bB p+ek d:=aq.fY _
theorem kF (k n:Int)(s:List UInt8)(l:List aB):(aB.mk k n s l).z=1+s.length/8+bB l:=aB.fY _
theorem Hk (k:Int)(s:List UInt8)(l:List aO):(aO.mk k s l).z=1+s.length/8+eF l:=aO.fY _
theorem vH:bO []=0:=by rw[bO]
theorem mV:bB []=0:=by rw[bB]
theorem OP:eF []=0:=by rw[eF]
theorem yZ:ek []=0:=by rw[ek]
theorem y_ (a:aq)(l:List aq):bO (a::l)=a.z+bO l:=by rw[bO]
theorem UL (a:aB)(l:List aB):bB (a::l)=a.z+bB l:=by rw[bB]
theorem UM (a:aO)(l:List aO):eF (a::l)=a.z+eF l:=by rw[eF]
theorem AX (k:Int)(p:aB)(e:aq)(f:List Fn)(x:Data)(c:cS):(aG.mk k p e f x c).z=1+p.z+e.z+jf f+x.z+c.z:=aG.fY _
theorem z0:f_.z=1/\gk.z=1/\dF.z=0/\fO.z=1/\jf []=0:=⟨by rw[kF,mV];rfl,by rw[gS,vH,mV,yZ];rfl,by show dT []+0/8+fw []=0;rw[dT,fw],by show 1+0/8+eF []=1;rw[OP],by rw[jf]⟩
theorem lx:([]:List UInt8).length/8=0:=rfl
abbrev GE (L:List Tok)(k:Nat):aq->Nat->Prop:=λa k'=>bh a=true/\Cw L k+a.z+3<=Cw L k'
abbrev GP (L:List Tok)(k:Nat):aB->Nat->Prop:=λa k'=>bx a=true/\Cw L k+a.z+3<=Cw L k'
abbrev GY (L:List Tok)(k:Nat):aO->Nat->Prop:=λa k'=>im a=true/\Cw L k+a.z+3<=Cw L k'
abbrev GL {α:Type}(L:List Tok)(r:α->Bool)(z:List α->Nat)(l:List α)(k:Nat):List α->Nat->Prop:=λl' k'=>Al r l'/\l.length<=l'.length/\Cw L k+z l'<=Cw L k'+z l
def rB (d:aG):Bool:=eo d&&(decide (d.k=1)||decide (d.k=2))
abbrev GM (L:List Tok)(c:Int)(l:List aq)(q:List aB)(k:Nat):aq->Nat->Prop:=λr k'=>∃l' q',r= .mk c 0 [] l' q' []/\Al bh l'/\Al bx q'/\l'.length+q.length=q'.length+l.length/\q.length<q'.length/\Cw L k+bO l'+bB q'<=Cw L k'+bO l+bB q
abbrev GR (L:List Tok)(c:Int)(l:List aq)(k:Nat):aq->Nat->Prop:=λr k'=>∃l',r= .mk c 0 [] l' [] []/\Al bh l'/\l.length<=l'.length/\Cw L k+bO l'<=Cw L k'+bO l
abbrev GO (L:List Tok)(r:aG->Bool)(k:Nat):Option aG->Nat->Prop:=λo k'=>Cw L k<=Cw L k'/\∀d,o=some d->r d=true/\Cw L k+d.z<=Cw L k'
structure gn (L:List Tok)(p:PS):Prop where
 exp:∀k,Rs (p.exp k) (GE L k)
 j4:∀c l q k,Al bh l->Al bx q->Rs (p.j4 (.mk c 0 [] l q []) k) (GM L c l q k)
 bin:∀lv k,Rs (p.bin lv k) (GE L k)
 jt:∀lv a k,bh a=true->Rs (p.jt lv a k) (λr k'=>bh r=true/\Cw L k+r.z<=Cw L k'+a.z)
 un:∀k,Rs (p.un k) (GE L k)
 ju:∀a k,bh a=true->Rs (p.ju a k) (λr k'=>bh r=true/\Cw L k+r.z<=Cw L k'+a.z)
 atom:∀k,Rs (p.atom k) (GE L k)
 cU:∀w c l k,Al bh l->Rs (p.cU w (.mk c 0 [] l [] []) k) (GR L c l k)
 lt:∀k,Rs (p.lt k) (GE L k)
 iD:∀l k,Al rB l->Rs (p.iD l k) (GL L rB ek l k)
 pat:∀k,Rs (p.pat k) (GP L k)
 cm:∀k,Rs (p.cm k) (GP L k)
 iP:∀l k,Al bx l->Rs (p.iP l k) (GL L bx bB l k)
 gJ:∀k,Rs (p.gJ k) (GY L k)
 ff:∀l k,Al im l->Rs (p.ff l k) (GL L im eF l k)
 post:∀k,Rs (p.post k) (GY L k)
 rC:∀l k,Al im l->Rs (p.rC l k) (GL L im eF l k)
 dZ:∀a k,im a=true->Rs (p.dZ a k) (λr k'=>im r=true/\Cw L k+r.z<=Cw L k'+a.z)
 iH:∀k,Rs (p.iH k) (λc k'=>jg c=true/\Cw L k+c.z<=Cw L k')
 bind:∀k,Rs (p.bind k) (GO L rB k)
 ji:∀l k,Al E4 l->Rs (p.ji l k) (GL L E4 jf l k)
 fn:∀k,Rs (p.fn k) (λf k'=>E4 f=true/\Cw L k+f.z<=Cw L k')
 tH:∀l k,Al bx l->Rs (p.tH l k) (GL L bx bB l k)
 dec:∀k,Rs (p.dec k) (GO L eo k)
 data:∀k,Rs (p.data k) (λx k'=>iv x=true/\Cw L k+x.z<=Cw L k')
 iq:∀l k,Al (aU 5) l->Rs (p.iq l k) (GL L (aU 5) dT l k)
 iQ:∀l k,Al jg l->Rs (p.iQ l k) (GL L jg fw l k)
 cq:∀l k,Al eo l->Rs (p.cq l k) (GL L eo ek l k)
variable {p:PS}
theorem AY {r:α->Bool}{z:List α->Nat}{zz:α->Nat}(hz:∀l b,z (l++[b])=z l+zz b){w:List UInt8}{rd:Nat->PR α}{lp:List α->Nat->PR (List α)}(hrd:∀k,Rs (rd k) (λa k'=>r a=true/\Cw L k+zz a<=Cw L k'))(hlp:∀l k,Al r l->Rs (lp l k) (GL L r z l k))(l:List α)(k:Nat)(hl:Al r l):Rs (if bP L k w=true then Go.Proofs.YthjhonhhbddhkaaDoor.bd (rd (k+1)) λb k=>lp (l++[b]) k else Go.Proofs.YthjhonhhbddhkaaDoor.yes l k) (λl' k'=>GL L r z l k l' k'/\(bP L k w=true->l.length<l'.length/\Cw L k+z l'+7<=Cw L k'+z l)):=by
 refine Rs.ite (λhi=>Rs.bd (hrd _) λb k1 hb=>Rs.mono (hlp _ _ (hl.snoc hb.1)) λl' k' h=> ?_) (λhi=>Rs.yes ⟨⟨hl,Nat.le_refl _,Nat.le_refl _⟩,λq=>absurd q hi⟩);obtain⟨h1,h2,h3⟩:=h;have:=dn L k;rw[List.length_append,List.length_singleton]at h2;rw[hz]at h3;exact⟨⟨h1,by omega,by omega⟩,λ_=>⟨by omega,by omega⟩⟩
theorem GP.le {k1:Nat}{a:aB}{k':Nat}(h:GP L k1 a k'):bx a=true/\Cw L k1+a.z<=Cw L k':=⟨h.1,by have:=h.2;omega⟩
theorem GY.le {k1:Nat}{a:aO}{k':Nat}(h:GY L k1 a k'):im a=true/\Cw L k1+a.z<=Cw L k':=⟨h.1,by have:=h.2;omega⟩
theorem y6 (h:gn L p)(w:List UInt8)(c:Int)(l:List aq)(k:Nat)(hl:Al bh l):Rs (kp L p w (.mk c 0 [] l [] []) k) (λr k'=>GR L c l k r k'/\∀l',r= .mk c 0 [] l' [] []->bP L k w=true->l.length<l'.length):=by
 unfold kp;refine Rs.ite (λhi=>Rs.bd (h.exp _) λb k1 hb=>Rs.mono (h.cU w c (l++[b]) _ (hl.snoc hb.1)) λr k' hr=> ?_) (λhi=>Rs.yes ⟨⟨l,rfl,hl,Nat.le_refl _,Nat.le_refl _⟩,λl' e q=>absurd q hi⟩);obtain⟨l',rfl,h1,h2,h3⟩:=hr;have:=dn L k;have:=hb.2;rw[List.length_append,List.length_singleton]at h2;rw[nY]at h3;exact⟨⟨l',rfl,h1,by omega,by omega⟩,λl2 e _=>by injection e with _ _ _ e;subst e;omega⟩
theorem FO (h:gn L p)(l:List aB)(k:Nat)(hl:Al bx l):Rs (mn L p l k) (λl' k'=>GL L bx bB l k l' k'/\(bP L k [44]=true->l.length<l'.length/\Cw L k+bB l'+7<=Cw L k'+bB l)):=AY lu (λk=>Rs.mono (h.pat k) λa k' h=>GP.le h) h.iP l k hl
theorem FP (h:gn L p)(l:List aO)(k:Nat)(hl:Al im l):Rs (mo L p l k) (λl' k'=>GL L im eF l k l' k'/\(bP L k [42]=true->l.length<l'.length/\Cw L k+eF l'+7<=Cw L k'+eF l)):=AY vF (λk=>Rs.mono (h.post k) λa k' h=>GY.le h) h.ff l k hl
theorem LL (h:gn L p)(l:List aO)(k:Nat)(hl:Al im l):Rs (oX L p l k) (λl' k'=>GL L im eF l k l' k'/\(bP L k [44]=true->l.length<l'.length/\Cw L k+eF l'+7<=Cw L k'+eF l)):=AY vF (λk=>Rs.mono (h.gJ k) λa k' h=>GY.le h) h.rC l k hl
theorem LM (h:gn L p)(l:List Fn)(k:Nat)(hl:Al E4 l):Rs (nU L p l k) (λl' k'=>GL L E4 jf l k l' k'/\(bP L k [97,110,100]=true->l.length<l'.length/\Cw L k+jf l'+7<=Cw L k'+jf l)):=AY Hi h.fn h.ji l k hl
theorem FQ (h:gn L p)(l:List cS)(k:Nat)(hl:Al jg l):Rs (ir L p l k) (λl' k'=>GL L jg fw l k l' k'/\(bP L k [124]=true->l.length<l'.length/\Cw L k+fw l'+7<=Cw L k'+fw l)):=AY CG h.iH h.iQ l k hl
theorem LN (h:gn L p)(l:List aB)(k:Nat)(hl:Al bx l):Rs (m5 L p l k) (GL L bx bB l k):=by
 unfold m5;refine Rs.ite (λhi=>Rs.bd (h.cm _) λb k1 hb=>Rs.mono (h.tH _ _ (hl.snoc hb.1)) λl' k' hr=> ?_) (λhi=>Rs.yes ⟨hl,Nat.le_refl _,Nat.le_refl _⟩);obtain⟨h1,h2,h3⟩:=hr;have:=hb.2;rw[List.length_append,List.length_singleton]at h2;rw[lu]at h3;exact⟨h1,by omega,by omega⟩
theorem LO (h:gn L p)(l:List aG)(k:Nat)(hl:Al rB l):Rs (m4 L p l k) (GL L rB ek l k):=by
 unfold m4;have c0:=dn L k;refine Rs.ite (λhi=>Rs.yes ⟨hl,Nat.le_refl _,by omega⟩) (λhi=>Rs.bd (h.bind _) λo k1 ho=> ?_);cases o with
 | none=>exact Rs.fail
 | some d=>
   obtain⟨h1,h2⟩:=ho;obtain⟨g1,g2⟩:=h2 d rfl;refine Rs.mono (h.iD _ _ (hl.snoc g1)) λl' k' hr=> ?_;obtain⟨r1,r2,r3⟩:=hr;rw[List.length_append,List.length_singleton]at r2;rw[nZ]at r3;have:Cw L k1<=Cw L (skip L [59] k1):=by
    unfold skip;split
    . have:=dn L k1;omega
    . exact Nat.le_refl _
   exact⟨r1,by omega,by omega⟩
theorem Xs (h:gn L p)(c:Int)(l:List aq)(q:List aB)(k:Nat)(hl:Al bh l)(hq:Al bx q):Rs (qY L p (.mk c 0 [] l q []) k) (GM L c l q k):=by
 unfold qY;refine Rs.bd (h.pat _) λa k1 ha=>Rs.aQ (Rs.bd (h.exp _) λb k2 hb=> ?_);have c1:=dn L k1;have h1:=ha.2;have h2:=hb.2;refine Rs.ite (λhi=>Rs.mono (h.j4 c (l++[b]) (q++[a]) _ (hl.snoc hb.1) (hq.snoc ha.1)) λr k' hr=> ?_) (λhi=>Rs.yes ⟨l++[b],q++[a],rfl,hl.snoc hb.1,hq.snoc ha.1,by simp;omega,by simp,?_⟩)
 . obtain⟨l',q',rfl,r1,r2,r3,r4,r5⟩:=hr;have c2:=dn L k2;simp only[List.length_append,List.length_singleton]at r3 r4;rw[nY,lu]at r5;exact⟨l',q',rfl,r1,r2,by omega,by omega,by omega⟩
 . rw[nY,lu];omega
theorem GM.exp {c:Int}{l:List aq}{q:List aB}{k k0 k':Nat}{r:aq}(h:GM L c l q k r k')(hc:(c=7/\l.length=q.length)\/((c=9\/c=12)/\l.length=q.length+1))(hz:Cw L k0+bO l+bB q+4<=Cw L k):GE L k0 r k':=by
 obtain⟨l',q',rfl,h1,h2,h3,h4,h5⟩:=h;refine⟨jq h1 ?_ h2 Al.nil ?_,by rw[gS,yZ,lx];omega⟩
 . rcases hc with⟨rfl,_⟩ | ⟨rfl | rfl,_⟩<;>rfl
 . unfold fx;rcases hc with⟨rfl,_⟩ | ⟨rfl | rfl,_⟩<;>simp<;>omega
theorem Xt (h:gn L p)(k:Nat):Rs (jv L p k) (GE L k):=by
 unfold jv;have c0:=dn L k;refine Rs.ite (λ_=> ?_) (λ_=>Rs.ite (λ_=> ?_) (λ_=>Rs.ite (λ_=> ?_) (λ_=>Rs.ite (λ_=> ?_) (λ_=> ?_))))
 . refine Rs.bd (h.exp _) λa k1 ha=>Rs.aQ (Rs.bd (h.exp _) λb k2 hb=>Rs.aQ (Rs.bd (h.exp _) λc k3 hc=>Rs.yes ⟨jq (Al.three ha.1 hb.1 hc.1) rfl Al.nil Al.nil rfl,?_⟩));have:=ha.2;have:=hb.2;have:=hc.2;have c1:=dn L k1;have c2:=dn L k2;rw[gS,y_,y_,y_,vH,mV,yZ,lx];omega
 . refine Rs.bd (h.exp _) λa k1 ha=>Rs.aQ (Rs.mono (h.j4 9 [a] [] _ (Al.one ha.1) Al.nil) λr k' hr=>hr.exp (.inr ⟨.inl rfl,rfl⟩) ?_);have:=ha.2;have c1:=dn L k1;rw[y_,vH,mV];omega
 . refine Rs.mono (h.j4 7 [] [] _ Al.nil Al.nil) λr k' hr=>hr.exp (.inl ⟨rfl,rfl⟩) ?_;rw[vH,mV];omega
 . refine Rs.bd (h.exp _) λa k1 ha=>Rs.yes ⟨jq (Al.one ha.1) rfl Al.nil Al.nil rfl,?_⟩;have:=ha.2;rw[gS,y_,vH,mV,yZ,lx];omega
 . refine Rs.bd (h.bin 0 _) λa k1 ha=>Rs.ite (λ_=>Rs.mono (h.j4 12 [a] [] _ (Al.one ha.1) Al.nil) λr k' hr=>hr.exp (.inr ⟨.inr rfl,rfl⟩) ?_) (λ_=>Rs.yes ha);have:=ha.2;have c1:=dn L k1;rw[y_,vH,mV];omega
theorem QS {s:List UInt8}{a b:aq}(hs:il.contains s=true)(ha:bh a=true)(hb:bh b=true):bh (two s a b)=true:=jq (Al.two ha hb) rfl Al.nil Al.nil (by show(decide ((2:Nat)=2)&&il.contains s)=true;rw[hs];rfl)
theorem LP (h:gn L p)(lv:Nat)(a:aq)(k:Nat)(ha:bh a=true):Rs (mZ L p lv a k) (λr k'=>bh r=true/\Cw L k+r.z<=Cw L k'+a.z):=by
 unfold mZ;have c0:=dn L k;refine Rs.ite (λhi=>Rs.ite (λ_=> ?_) (λ_=> ?_)) (λ_=>Rs.yes ⟨ha,Nat.le_refl _⟩)
 . refine Rs.bd (h.bin _ _) λb k1 hb=>Rs.yes ⟨QS (Xr hi) ha hb.1,?_⟩;have:=hb.2;rw[gS,y_,y_,vH,mV,yZ];omega
 . refine Rs.bd (h.bin _ _) λb k1 hb=>Rs.mono (h.jt _ _ _ (QS (Xr hi) ha hb.1)) λr k' hr=>⟨hr.1,?_⟩;have:=hb.2;have:=hr.2;rw[gS,y_,y_,vH,mV,yZ]at this;omega
theorem Xu (h:gn L p)(lv k:Nat):Rs (lI L p lv k) (GE L k):=by
 unfold lI;refine Rs.ite (λ_=>h.un k) (λ_=>Rs.bd (h.bin _ _) λa k1 ha=>Rs.mono (LP h lv a k1 ha.1) λr k' hr=>⟨hr.1,?_⟩);have:=ha.2;have:=hr.2;omega
theorem QT (h:gn L p)(a:aq)(k:Nat)(ha:bh a=true):Rs (nT L p a k) (λr k'=>bh r=true/\Cw L k+r.z<=Cw L k'+a.z):=by
 unfold nT;refine Rs.ite (λ_=>Rs.bd (h.atom _) λb k1 hb=>Rs.mono (h.ju _ _ (jq (Al.two ha hb.1) rfl Al.nil Al.nil rfl)) λr k' hr=>⟨hr.1,?_⟩) (λ_=>Rs.yes ⟨ha,Nat.le_refl _⟩);have:=hb.2;have:=hr.2;rw[gS,y_,y_,vH,mV,yZ,lx]at this;omega
theorem YU (h:gn L p)(k:Nat):Rs (A3 L p k) (GE L k):=by
 unfold A3;have c0:=dn L k;refine Rs.ite (λhi=>Rs.bd (h.un _) λa k1 ha=>Rs.yes ⟨jq (Al.one ha.1) rfl Al.nil Al.nil (by show(decide ((1:Nat)=1)&&cX.contains (tk L k).s)=true;rw[YT hi];rfl),?_⟩) (λ_=>Rs.bd (h.atom _) λa k1 ha=>Rs.mono (QT h a k1 ha.1) λr k' hr=>⟨hr.1,?_⟩)
 . have:=ha.2;rw[gS,y_,vH,mV,yZ];omega
 . have:=ha.2;have:=hr.2;omega
include ht in
theorem Un (h:gn L p)(k:Nat):Rs (fK L p k) (GE L k):=by
 unfold fK;have c0:=dn L k;refine Rs.ite (λhk=>Rs.yes ⟨jq Al.nil rfl Al.nil Al.nil ?_,?_⟩) (λ_=> ?_)
 . have:=LK ht hk;show(decide (0<=(tk L k).n)&&decide ((tk L k).n<=4611686018427387903))=true;simp;omega
 . rw[gS,vH,mV,yZ,lx];omega
 refine Rs.ite (λhk=>Rs.yes ⟨jq Al.nil rfl Al.nil Al.nil rfl,?_⟩) (λ_=> ?_)
 . rw[gS,vH,mV,yZ];omega
 refine Rs.ite (λhk=>Rs.yes ⟨jq Al.nil rfl Al.nil Al.nil (tW ht hk),?_⟩) (λ_=> ?_)
 . rw[gS,vH,mV,yZ];omega
 refine Rs.ite (λhk=>Rs.yes ⟨jq Al.nil rfl Al.nil Al.nil (AW ht hk),?_⟩) (λ_=> ?_)
 . rw[gS,vH,mV,yZ];omega
 refine Rs.ite (λ_=>Rs.mono (h.lt _) λr k' hr=>⟨hr.1,?_⟩) (λ_=>Rs.aQ ?_)
 . have:=hr.2;omega
 refine Rs.ite (λ_=>Rs.yes ⟨jq Al.nil rfl Al.nil Al.nil rfl,?_⟩) (λ_=>Rs.bd (h.exp _) λa k1 ha=>Rs.ite (λhi=> ?_) (λ_=>Rs.ite (λhi=> ?_) (λ_=>Rs.aQ (Rs.yes ⟨ha.1,?_⟩))))
 . have c1:=dn L (k+1);rw[gS,vH,mV,yZ,lx];omega
 . refine Rs.bd (y6 h [44] 5 [a] k1 (Al.one ha.1)) λr k2 hr=>Rs.aQ (Rs.yes ?_);obtain⟨⟨l',rfl,r1,r2,r3⟩,r4⟩:=hr;have r4:=r4 l' rfl hi;have:=ha.2;have c2:=dn L k2;rw[y_,vH]at r3;refine⟨jq r1 rfl Al.nil Al.nil ?_,by rw[gS,mV,yZ,lx];omega⟩;show(!decide (l'.length=1))=true;rw[decide_eq_false (by simp at r4;omega)];rfl
 . refine Rs.bd (y6 h [59] 13 [a] k1 (Al.one ha.1)) λr k2 hr=>Rs.aQ (Rs.yes ?_);obtain⟨⟨l',rfl,r1,r2,r3⟩,r4⟩:=hr;have r4:=r4 l' rfl hi;have:=ha.2;have c2:=dn L k2;rw[y_,vH]at r3;refine⟨jq r1 rfl Al.nil Al.nil ?_,by rw[gS,mV,yZ,lx];omega⟩;show decide (1<l'.length)=true;rw[decide_eq_true (by simpa using r4)]
 . have:=ha.2;have c1:=dn L k1;omega
theorem QU {l:List aG}(h:Al rB l):Al eo l/\(l.all λd=>decide (d.k=1)||decide (d.k=2))=true:=by
 refine⟨λd hd=> ?_,List.all_eq_true.2 λd hd=> ?_⟩
 . have:=h d hd;unfold rB at this;rw[Bool.and_eq_true]at this;exact this.1
 . have:=h d hd;unfold rB at this;rw[Bool.and_eq_true]at this;exact this.2
theorem QV {ds:List aG}{a:aq}(hd:Al rB ds)(ha:bh a=true):bh (.mk 10 0 [] [a] [] ds)=true:=jq (Al.one ha) rfl Al.nil (QU hd).1 (by show((ds.all λd=>decide (d.k=1)||decide (d.k=2))&&decide ((1:Nat)=1))=true;rw[(QU hd).2];rfl)
theorem YV (h:gn L p)(k:Nat):Rs (Hy L p k) (GE L k):=by
 unfold Hy;refine Rs.bd (LO h [] k Al.nil) λds k1 hd=>Rs.bd (h.exp _) λa k2 ha=>Rs.ite (λhi=> ?_) (λ_=>Rs.aQ (Rs.yes ⟨QV hd.1 ha.1,?_⟩))
 . refine Rs.bd (y6 h [59] 13 [a] k2 (Al.one ha.1)) λr k3 hr=>Rs.aQ (Rs.yes ?_);obtain⟨⟨l',rfl,r1,r2,r3⟩,r4⟩:=hr;have r4:=r4 l' rfl hi;have:=ha.2;have c2:=dn L k3;have:=hd.2.2;rw[y_,vH]at r3;rw[yZ]at this;have hr:bh (.mk 13 0 [] l' [] [])=true:=by
    refine jq r1 rfl Al.nil Al.nil ?_;show decide (1<l'.length)=true;rw[decide_eq_true (by simpa using r4)]
   exact⟨QV hd.1 hr,by rw[gS,y_,vH,mV,lx,gS,mV,yZ,lx];omega⟩
 . have:=ha.2;have c2:=dn L k2;have:=hd.2.2;rw[yZ]at this;rw[gS,y_,vH,mV,lx];omega
end
section
variable {L:List Tok}{α β:Type}{k:Nat}{p:PS}
variable (ht:∀k,aV (tk L k)=true)
include ht in
theorem OQ (h:gn L p)(k:Nat):Rs (dB L p k) (GP L k):=by
 unfold dB;have c0:=dn L k;refine Rs.ite (λhk=>Rs.yes ⟨lH Al.nil ?_,?_⟩) (λ_=> ?_)
 . have:=LK ht hk;show((decide ((3:Int)=3)||decide ((tk L k).n=0))&&(decide (([]:List UInt8)=[])&&(decide (([]:List aB).length=0)&&(decide (-4611686018427387903<=(tk L k).n)&&decide ((tk L k).n<=4611686018427387903)))))=true;simp;omega
 . rw[kF,mV,lx];omega
 refine Rs.ite (λhk=>Rs.yes ⟨lH Al.nil rfl,?_⟩) (λ_=> ?_)
 . rw[kF,mV];omega
 refine Rs.ite (λhk=>Rs.yes ⟨lH Al.nil ?_,?_⟩) (λ_=> ?_)
 . show((decide ((2:Int)=3)||decide ((0:Int)=0))&&(aU 3 (tk L k).s&&decide (([]:List aB).length=0)))=true;rw[tW ht hk];rfl
 . rw[kF,mV];omega
 refine Rs.ite (λhk=>Rs.yes ⟨lH Al.nil ?_,?_⟩) (λ_=> ?_)
 . have hw:=AW ht hk;have hne:(tk L k).s≠[58,58]:=λq=>by rw[q]at hw;revert hw;decide +kernel
   show((decide ((6:Int)=3)||decide ((0:Int)=0))&&(if(tk L k).s=[58,58]then _ else aU 4 (tk L k).s&&decide (([]:List aB).length<=1)))=true;rw[if_neg hne,hw];rfl
 . rw[kF,mV];omega
 refine Rs.ite (λhk=>Rs.yes ⟨lH Al.nil rfl,?_⟩) (λ_=> ?_)
 . rw[kF,mV,lx];omega
 refine Rs.ite (λhk=>Rs.bY λhk1=>Rs.yes ⟨lH Al.nil ?_,?_⟩) (λ_=>Rs.aQ ?_)
 . have:=LK ht hk1;rw[show IntKind.i64.wrap (-(tk L (k+1)).n)= -(tk L (k+1)).n from bS (by omega)];show((decide ((3:Int)=3)||decide (-(tk L (k+1)).n=0))&&(decide (([]:List UInt8)=[])&&(decide (([]:List aB).length=0)&&(decide (-4611686018427387903 <= -(tk L (k+1)).n)&&decide (-(tk L (k+1)).n<=4611686018427387903)))))=true;simp;omega
 . have c1:=dn L (k+1);rw[kF,mV,lx];omega
 have c1:=dn L (k+1);refine Rs.ite (λhk=>Rs.yes ⟨lH Al.nil rfl,?_⟩) (λ_=>Rs.bd (h.pat _) λa k1 ha=>Rs.ite (λhi=> ?_) (λ_=>Rs.aQ (Rs.yes ⟨ha.1,?_⟩)))
 . rw[kF,mV,lx];omega
 . refine Rs.bd (FO h [a] k1 (Al.one ha.1)) λl k2 hl=>Rs.aQ (Rs.yes ?_);obtain⟨⟨r1,r2,r3⟩,r4⟩:=hl;have r4:=(r4 hi).1;have:=ha.2;have c2:=dn L k2;rw[UL,mV]at r3;refine⟨lH r1 ?_,by rw[kF,lx];omega⟩;show((decide ((5:Int)=3)||decide ((0:Int)=0))&&(decide (([]:List UInt8)=[]) && !decide (l.length=1)))=true;rw[decide_eq_false (show ¬l.length=1 by simp at r4;omega)];rfl
 . have:=ha.2;have c2:=dn L k1;omega
include ht in
theorem Uo (h:gn L p)(k:Nat):Rs (oV L p k) (GP L k):=by
 unfold oV;have c0:=dn L k;refine Rs.ite (λhk=> ?_) (λ_=>h.cm k);have hw:=AW ht hk;have hne:(tk L k).s≠[58,58]:=λq=>by rw[q]at hw;revert hw;decide +kernel
 have key:∀l:List aB,l.length<=1->kj 6 0 (tk L k).s l=true:=λl hl=>by
  show((decide ((6:Int)=3)||decide ((0:Int)=0))&&(if(tk L k).s=[58,58]then _ else aU 4 (tk L k).s&&decide (l.length<=1)))=true;rw[if_neg hne,hw,decide_eq_true hl];rfl
 refine Rs.ite (λ_=>Rs.bd (h.cm _) λb k1 hb=>Rs.yes ⟨lH (Al.one hb.1) (key _ (Nat.le_refl _)),?_⟩) (λ_=>Rs.yes ⟨lH Al.nil (key _ (Nat.zero_le _)),?_⟩)
 . have:=hb.2;rw[kF,UL,mV];omega
 . rw[kF,mV];omega
include ht in
theorem Xv (h:gn L p)(k:Nat):Rs (oW L p k) (GP L k):=by
 unfold oW;refine Rs.bd (Uo ht h k) λa k1 ha=>Rs.ite (λ_=>Rs.bd (h.pat _) λb k2 hb=>Rs.yes ⟨lH (Al.one (lH (Al.two ha.1 hb.1) rfl)) rfl,?_⟩) (λ_=>Rs.yes ha);have:=ha.2;have:=hb.2;have c1:=dn L k1;rw[kF,UL,mV,kF,UL,UL,mV,lx];show Cw L k+(1+0+(1+0+(a.z+(b.z+0))+0))+3<=_;omega
include ht in
theorem FT (h:gn L p)(a:aO)(k:Nat)(ha:im a=true):Rs (gK L p a k) (λr k'=>im r=true/\Cw L k+r.z<=Cw L k'+a.z):=by
 unfold gK;have c0:=dn L k;refine Rs.ite (λhi=>Rs.mono (h.dZ _ _ (Hj (Al.one ha) (Um ht hi))) λr k' hr=>⟨hr.1,?_⟩) (λ_=>Rs.yes ⟨ha,Nat.le_refl _⟩);have:=hr.2;rw[Hk,UM,OP]at this;omega
include ht in
theorem OR (h:gn L p)(k:Nat):Rs (jj L p k) (GY L k):=by
 unfold jj;have c0:=dn L k;refine Rs.ite (λhk=>Rs.yes ⟨Hj Al.nil ?_,?_⟩) (λ_=>Rs.ite (λhi=>Rs.yes ⟨Hj Al.nil (Um ht hi),?_⟩) (λ_=>Rs.aQ (Rs.bd (h.gJ _) λa k1 ha=>Rs.ite (λhi=> ?_) (λ_=>Rs.aQ (Rs.yes ⟨ha.1,?_⟩)))))
 . show(decide ((0:Nat)=0)&&aU 5 (tk L k).s)=true;rw[vG ht hk];rfl
 . rw[Hk,OP];omega
 . rw[Hk,OP];omega
 . refine Rs.bd (LL h [a] k1 (Al.one ha.1)) λl k2 hl=>Rs.aQ (Rs.ite (λhn=>Rs.yes ⟨Hj hl.1.1 (Um ht hn),?_⟩) (λ_=>Rs.fail));have:=ha.2;have r3:=hl.1.2.2;have c2:=dn L k2;have c3:=dn L (k2+1);rw[UM,OP]at r3;rw[Hk];omega
 . have:=ha.2;have c1:=dn L k1;omega
include ht in
theorem Up (h:gn L p)(k:Nat):Rs (jM L p k) (GY L k):=by
 unfold jM;refine Rs.bd (OR ht h k) λa k1 ha=>Rs.mono (FT ht h a k1 ha.1) λr k' hr=>⟨hr.1,?_⟩;have:=ha.2;have:=hr.2;omega
theorem Xw (h:gn L p)(k:Nat):Rs (lJ L p k) (GY L k):=by
 unfold lJ;have hp:Rs (kq L p k) (GY L k):=by
  unfold kq;refine Rs.bd (h.post _) λa k1 ha=>Rs.ite (λhi=> ?_) (λ_=>Rs.yes ha);refine Rs.bd (FP h [a] k1 (Al.one ha.1)) λl k2 hl=>Rs.yes ?_;obtain⟨⟨r1,r2,r3⟩,r4⟩:=hl;obtain⟨r4,r5⟩:=r4 hi;have:=ha.2;rw[UM,OP]at r3 r5;refine⟨Hj r1 ?_,?_⟩
  . show(decide (2<=l.length)&&decide (([]:List UInt8)=[]))=true;rw[decide_eq_true (show 2<=l.length by simp at r4;omega)];rfl
  . rw[Hk,lx];omega
 refine Rs.bd hp λa k1 ha=>Rs.ite (λ_=>Rs.bd (h.gJ _) λb k2 hb=>Rs.yes ⟨Hj (Al.two ha.1 hb.1) rfl,?_⟩) (λ_=>Rs.yes ha);have:=ha.2;have:=hb.2;have c1:=dn L k1;rw[Hk,UM,UM,OP,lx];omega
include ht in
theorem Xx (h:gn L p)(k:Nat):Rs (qZ L p k) (λc k'=>jg c=true/\Cw L k+c.z<=Cw L k'):=by
 unfold qZ;have c0:=dn L k;refine Rs.bY λhk=>Rs.ite (λ_=>Rs.bd (h.gJ _) λa k1 ha=>Rs.yes ⟨?_,?_⟩) (λ_=>Rs.yes ⟨?_,?_⟩)
 . show(aU 4 (tk L k).s&&(decide ((1:Nat)<=1)&&lE [a]))=true;rw[AW ht hk,eV,(Al.one ha.1).all];rfl
 . have:=ha.2;have c1:=dn L (k+1);show Cw L k+(1+(tk L k).s.length/8+eF [a])<=_;rw[UM,OP];omega
 . show(aU 4 (tk L k).s&&(decide ((0:Nat)<=1)&&lE []))=true;rw[AW ht hk,eV];rfl
 . show Cw L k+(1+(tk L k).s.length/8+eF [])<=_;rw[OP];omega
include ht in
theorem YW (h:gn L p)(k:Nat):Rs (HA L p k) (λf k'=>E4 f=true/\Cw L k+f.z<=Cw L k'):=by
 unfold HA;have c0:=dn L k;refine Rs.bY λhk=>Rs.bd (h.cm _) λq k1 hq=>Rs.bd (LN h [q] k1 (Al.one hq.1)) λl k2 hl=>Rs.aQ (Rs.bd (h.exp _) λe k3 he=>Rs.yes ?_);obtain⟨r1,r2,r3⟩:=hl;have:=hq.2;have:=he.2;have c2:=dn L k2;rw[UL,mV]at r3;refine⟨?_,?_⟩
 . rw[tG];show(aU 3 (tk L k).s&&(decide (0<l.length)&&(bz l&&bh e)))=true;rw[tW ht hk,decide_eq_true (show 0<l.length by simp at r2;omega),cJ,r1.all,he.1];rfl
 . rw[Fn.fY];show Cw L k+(1+(tk L k).s.length/8+e.z+bB l)<=_;omega
theorem Uq (h:gn L p)(k:Nat):Rs (jN L p k) (GO L rB k):=by
 unfold jN;have c0:=dn L k;obtain⟨z1,z2,z3,z4,z5⟩:=z0;refine Rs.ite (λ_=> ?_) (λ_=>Rs.ite (λ_=> ?_) (λ_=>Rs.yes ⟨Nat.le_refl _,λd q=>by cases q⟩))
 . refine Rs.bd (h.pat _) λa k1 ha=>Rs.aQ (Rs.bd (h.exp _) λe k2 he=>Rs.yes ?_);have:=ha.2;have:=he.2;have c1:=dn L k1;have hz:(aG.mk 1 a e [] dF fO).z=1+a.z+e.z+0+0+1:=by rw[AX,z3,z4,z5]
   refine⟨by omega,λd q=> ?_⟩;cases q;refine⟨?_,by rw[hz];omega⟩;have hr:eo (.mk 1 a e [] dF fO)=true:=by
    rw[iN];show(cP (dL (.mk 1 a e [] dF fO)) (.mk 1 a e [] dF fO)&&(bx a&&bh e))=true;rw[show dL (.mk 1 a e [] dF fO)= .mk 1 a e [] dF fO from rfl,gG,ha.1,he.1];rfl
   unfold rB;rw[hr];rfl
 . refine Rs.bd (h.fn _) λf k1 hf=>Rs.bd (LM h [f] k1 (Al.one hf.1)) λl k2 hl=>Rs.yes ?_;obtain⟨⟨r1,r2,r3⟩,_⟩:=hl;have:=hf.2;have e1:jf [f]=f.z:=by simp only[jf];omega
   rw[e1]at r3;have hz:(aG.mk 2 f_ gk l dF fO).z=1+1+1+jf l+0+1:=by rw[AX,z1,z2,z3,z4]
   refine⟨by omega,λd q=> ?_⟩;cases q;refine⟨?_,by rw[hz];omega⟩;have hr:eo (.mk 2 f_ gk l dF fO)=true:=by
    rw[iN];show(qM l&&(decide (0<l.length)&&cP (dL (.mk 2 f_ gk l dF fO)) (.mk 2 f_ gk l dF fO)))=true;rw[show dL (.mk 2 f_ gk l dF fO)= .mk 2 f_ gk l dF fO from rfl,gG,mR,r1.all,decide_eq_true (show 0<l.length by simp at r2;omega)];rfl
   unfold rB;rw[hr];rfl
include ht in
theorem Ur (h:gn L p)(k:Nat):Rs (lF L p k) (λx k'=>iv x=true/\Cw L k+x.z<=Cw L k'):=by
 unfold lF;have c0:=dn L k;have hv:Rs (nu L p k) (λl k'=>Al (aU 5) l/\Cw L k+dT l<=Cw L k'):=by
  unfold nu;refine Rs.ite (λhk=>Rs.yes ⟨Al.one (vG ht hk),?_⟩) (λ_=>Rs.ite (λ_=>Rs.bY λhk=> ?_) (λ_=>Rs.yes ⟨Al.nil,?_⟩))
  . simp only[dT];omega
  . have hr:Rs (fi L p [(tk L (k+1)).s] (k+1+1)) (GL L (aU 5) dT [(tk L (k+1)).s] (k+1+1)):=by
     unfold fi;have c2:=dn L (k+1+1);have c3:=dn L (k+1+1+1);refine Rs.ite (λ_=>Rs.bY λhk2=>Rs.mono (h.iq _ _ (Al.two (vG ht hk) (vG ht hk2))) λl k' hl=> ?_) (λ_=>Rs.yes ⟨Al.one (vG ht hk),Nat.le_refl _,Nat.le_refl _⟩);obtain⟨r1,r2,r3⟩:=hl;have e1:dT ([(tk L (k+1)).s]++[(tk L (k+1+1+1)).s])=dT [(tk L (k+1)).s]+(1+(tk L (k+1+1+1)).s.length/8):=tV _ _;have r3:Cw L (k+1+1+1+1)+dT l<=Cw L k'+dT ([(tk L (k+1)).s]++[(tk L (k+1+1+1)).s]):=r3;rw[e1]at r3;exact⟨r1,Nat.le_trans (Nat.le_succ _) r2,by omega⟩
    refine Rs.bd hr λl k2 hl=>Rs.aQ (Rs.yes ⟨hl.1,?_⟩);have c1:=dn L (k+1);have c2:=dn L k2;have r3:=hl.2.2;have e1:dT [(tk L (k+1)).s]=1+(tk L (k+1)).s.length/8:=by simp only[dT];omega
    rw[e1]at r3;omega
  . simp only[dT];omega
 refine Rs.bd hv λvs k1 hvs=>Rs.bY λhk=>Rs.aQ (Rs.bd (h.iH _) λc k2 hc=>Rs.bd (FQ h [c] k2 (Al.one hc.1)) λl k3 hl=>Rs.yes ?_);obtain⟨⟨r1,r2,r3⟩,_⟩:=hl;have:=hvs.2;have:=hc.2;have c1:=dn L k1;have c2:=dn L (k1+1);have e1:fw [c]=c.z:=by simp only[fw];omega
 rw[e1]at r3;refine⟨?_,?_⟩
 . show(jY vs&&(jX l&&(aU 3 (tk L k1).s&&decide (0<l.length))))=true;rw[lj,lk,hvs.1.all,r1.all,tW ht hk,decide_eq_true (show 0<l.length by simp at r2;omega)];rfl
 . show Cw L k+(dT vs+(tk L k1).s.length/8+fw l)<=_;omega
theorem Xy (h:gn L p)(k:Nat):Rs (kr L p k) (GO L eo k):=by
 unfold kr;have c0:=dn L k;obtain⟨z1,z2,z3,z4,z5⟩:=z0;refine Rs.ite (λ_=> ?_) (λ_=>Rs.ite (λ_=> ?_) (λ_=>Rs.mono (h.bind k) λo k' ho=>⟨ho.1,λd q=> ?_⟩))
 . refine Rs.bd (h.data _) λx k1 hx=>Rs.yes ?_;have:=hx.2;have hz:(aG.mk 3 f_ gk [] x fO).z=1+1+1+0+x.z+1:=by rw[AX,z1,z2,z4,z5]
   refine⟨by omega,λd q=> ?_⟩;cases q;refine⟨?_,by rw[hz];omega⟩;have hd:=hx.1;unfold iv at hd;rw[Bool.and_eq_true,Bool.and_eq_true,Bool.and_eq_true]at hd;rw[iN];show(jY x.vars&&(jX x.cons&&(aU 3 x.s&&(decide (0<x.cons.length)&&cP (dL (.mk 3 f_ gk [] x fO)) (.mk 3 f_ gk [] x fO)))))=true;rw[show dL (.mk 3 f_ gk [] x fO)= .mk 3 f_ gk [] x fO from rfl,gG,hd.1,hd.2.1,hd.2.2.1,hd.2.2.2];rfl
 . refine Rs.bd (h.iH _) λc k1 hc=>Rs.yes ?_;have:=hc.2;have hz:(aG.mk 4 f_ gk [] dF c).z=1+1+1+0+0+c.z:=by rw[AX,z1,z2,z3,z5]
   refine⟨by omega,λd q=> ?_⟩;cases q;refine⟨?_,by rw[hz];omega⟩;rw[iN];show(jg c&&cP (dL (.mk 4 f_ gk [] dF c)) (.mk 4 f_ gk [] dF c))=true;rw[show dL (.mk 4 f_ gk [] dF c)= .mk 4 f_ gk [] dF c from rfl,gG,hc.1];rfl
 . obtain⟨g1,g2⟩:=ho.2 d q;unfold rB at g1;rw[Bool.and_eq_true]at g1;exact⟨g1.1,g2⟩
theorem LQ (k:Nat):Cw L k<=Cw L (skip L [59] k):=by
 unfold skip;split
 . have:=dn L k;omega
 . exact Nat.le_refl _
theorem Us (h:gn L p)(l:List aG)(k:Nat)(hl:Al eo l):Rs (jO L p l k) (GL L eo ek l k):=by
 unfold jO;obtain⟨z1,z2,z3,z4,z5⟩:=z0;refine Rs.ite (λ_=>Rs.yes ⟨hl,Nat.le_refl _,Nat.le_refl _⟩) (λ_=>Rs.bd (h.dec _) λo k1 ho=> ?_);cases o with
 | some d=>
   obtain⟨g1,g2⟩:=ho.2 d rfl;refine Rs.mono (h.cq _ _ (hl.snoc g1)) λl' k' hr=> ?_;obtain⟨r1,r2,r3⟩:=hr;have hs:=LQ (L:=L) k1;rw[List.length_append,List.length_singleton]at r2;rw[nZ]at r3;exact⟨r1,by omega,by omega⟩
 | none=>
   refine Rs.bd (h.exp _) λe k2 he=> ?_;have hr:eo (q7 e)=true:=by
    rw[iN];show(cP (dL (q7 e)) (q7 e)&&bh e)=true;rw[show dL (q7 e)=q7 e from rfl,gG,he.1];rfl
   have hz:(q7 e).z=1+1+e.z+0+0+1:=by rw[AX,z1,z3,z4,z5]
   refine Rs.mono (h.cq _ _ (hl.snoc hr)) λl' k' hr=> ?_;obtain⟨r1,r2,r3⟩:=hr;have hs:=LQ (L:=L) k2;have h1:=ho.1;have h2:=he.2;rw[List.length_append,List.length_singleton]at r2;rw[nZ,hz]at r3;exact⟨r1,by omega,by omega⟩
include ht in
theorem Ut (h:gn L p)(l:List (List UInt8))(k:Nat)(hl:Al (aU 5) l):Rs (fi L p l k) (GL L (aU 5) dT l k):=by
 unfold fi;have c0:=dn L k;have c1:=dn L (k+1);refine Rs.ite (λ_=>Rs.bY λhk2=>Rs.mono (h.iq _ _ (hl.snoc (vG ht hk2))) λl' k' hr=> ?_) (λ_=>Rs.yes ⟨hl,Nat.le_refl _,Nat.le_refl _⟩);obtain⟨r1,r2,r3⟩:=hr;rw[List.length_append,List.length_singleton]at r2;rw[tV]at r3;exact⟨r1,by omega,by omega⟩
include ht in
theorem Xz:∀n,gn L (ps L n)
 | 0=>by constructor<;>intros<;>exact Rs.none
 | n+1=>by
   have h:=Xz n;exact {
    exp:=Xt h
    j4:=λc l q k hl hq=>Xs h c l q k hl hq
    bin:=Xu h
    jt:=LP h
    un:=YU h
    ju:=QT h
    atom:=Un ht h
    cU:=λw c l k hl=>Rs.mono (y6 h w c l k hl) λr k' hr=>hr.1
    lt:=YV h
    iD:=LO h
    pat:=Xv ht h
    cm:=OQ ht h
    iP:=λl k hl=>Rs.mono (FO h l k hl) λr k' hr=>hr.1
    gJ:=Xw h
    ff:=λl k hl=>Rs.mono (FP h l k hl) λr k' hr=>hr.1
    post:=Up ht h
    rC:=λl k hl=>Rs.mono (LL h l k hl) λr k' hr=>hr.1
    dZ:=FT ht h
    iH:=Xx ht h
    bind:=Uq h
    ji:=λl k hl=>Rs.mono (LM h l k hl) λr k' hr=>hr.1
    fn:=YW ht h
    tH:=LN h
    dec:=Xy h
    data:=Ur ht h
    iq:=Ut ht h
    iQ:=λl k hl=>Rs.mono (FQ h l k hl) λr k' hr=>hr.1
    cq:=Us h }
end
section
variable {L:List Tok}{k k' m n:Nat}{s w:List UInt8}{t:Tok}
def ia (a b:Tok):Prop:=a.k=b.k/\a.s=b.s/\a.n=b.n
def Sg (L:List Tok):Nat->List Tok->Nat->Prop
 | k,[],k'=>k=k'
 | k,t::ts,k'=>ia (tk L k) t/\Sg L (k+1) ts k'
theorem Sg.cons {ts:List Tok}:Sg L k (t::ts) k'↔ia (tk L k) t/\Sg L (k+1) ts k':=Iff.rfl
theorem Sg.app {a b:List Tok}:∀{k:Nat},Sg L k (a++b) k'↔∃m,Sg L k a m/\Sg L m b k':=by
 induction a with
 | nil=>intro k;exact⟨λh=>⟨k,rfl,h⟩,λ⟨m,h1,h2⟩=>by cases h1;exact h2⟩
 | cons t a ih=>
   intro k;rw[List.cons_append,Sg.cons,ih];exact⟨λ⟨h,m,h1,h2⟩=>⟨m,⟨h,h1⟩,h2⟩,λ⟨m,⟨h,h1⟩,h2⟩=>⟨h,m,h1,h2⟩⟩
theorem fD (h:ia (tk L k) (cN s)):bP L k s=true:=by
 unfold bP ko;rw[h.1,h.2.1];simp
theorem iK (h:ia (tk L k) (eg s)):bP L k s=true:=by
 unfold bP ko;rw[h.1,h.2.1];simp
theorem cw (h:ia (tk L k) (cN s))(hs:s≠w):bP L k w=false:=by
 unfold bP;rw[h.2.1,decide_eq_false hs,Bool.and_false]
theorem fE (h:ia (tk L k) (eg s))(hs:s≠w):bP L k w=false:=by
 unfold bP;rw[h.2.1,decide_eq_false hs,Bool.and_false]
theorem fF (h:ia (tk L k) t)(h7:t.k≠7)(h6:t.k≠6):ko L k=false:=by
 unfold ko;rw[h.1,decide_eq_false h7,decide_eq_false h6];rfl
theorem XA {c x y:Int}(h:ia (tk L k) ⟨c,s,x,y⟩)(h7:c≠7)(h6:c≠6):ko L k=false:=fF h h7 h6
theorem dK {c x y d:Int}(h:ia (tk L k) ⟨c,s,x,y⟩)(hc:c≠d):¬(tk L k).k=d:=λq=>hc (h.1.symm.trans q)
theorem o7 (h:ko L k=false):bP L k w=false:=by unfold bP;rw[h];rfl
theorem bV {α:Sort _}{b:Bool}{x y:α}(h:b=false):(if b=true then x else y)=y:=if_neg (by rw[h];decide)
theorem dC {α:Type}{f:Nat->PR α}(h:ia (tk L k) (cN s)):aQ L s k f=f (k+1):=if_pos (fD h)
theorem o8 {α:Type}{f:Nat->PR α}(h:ia (tk L k) (eg s)):aQ L s k f=f (k+1):=if_pos (iK h)
theorem bW {α β:Type}{a:α}{f:α->Nat->PR β}:bd (yes a k) f=f a k:=rfl
theorem n5 {α:Type}{c:Int}{f:Tok->Nat->PR α}(h:(tk L k).k=c):bY L c k f=f (tk L k) (k+1):=if_pos h
theorem foldl_add {α:Type}(l:List α):∀acc:List α,l.foldl (λa b=>a++[b]) acc=acc++l:=by
 induction l with
 | nil=>intro acc;simp
 | cons a l ih=>intro acc;rw[List.foldl_cons,ih];simp
theorem mD {α β:Type}(f:α->List Tok)(rd:Nat->Nat->PR α)(lp:Nat->β->Nat->PR β)(ad:β->α->β)(s:List UInt8)(St:Nat->Prop)(c:Nat)(hc:1<=c)(hlp:∀n acc k,lp (n+1) acc k=if bP L k s=true then bd (rd n (k+1)) λb k=>lp n (ad acc b) k else yes acc k)(hst:∀k,ia (tk L k) (cN s)->St k):
 ∀(l:List α),(∀a,a∈l->∀n k k',12*(f a).length+c<=n->Sg L k (f a) k'->St k'->rd n k=yes a k')->∀acc n k k',12*(bj (bN s f) false l).length+c<=n->Sg L k (bj (bN s f) false l) k'->St k'->bP L k' s=false->lp n acc k=yes (l.foldl ad acc) k':=by
 intro l
 induction l with
 | nil=>
   intro _ acc n k k' hn hS _ hN;obtain⟨m,rfl⟩:∃m,n=m+1:=⟨n-1,by omega⟩;cases hS;rw[hlp,bV hN];rfl
 | cons a l ih=>
   intro hl acc n k k' hn hS hK hN;have e:bj (bN s f) false (a::l)=cN s::(f a++bj (bN s f) false l):=rfl;rw[e]at hn hS;rw[Sg.cons,Sg.app]at hS;obtain⟨h1,j,h2,h3⟩:=hS;rw[List.length_cons,List.length_append]at hn;obtain⟨m,rfl⟩:∃m,n=m+1:=⟨n-1,by omega⟩;have hj:St j:=by
    cases l with
    | nil=>cases h3;exact hK
    | cons b l=>exact hst j h3.1
   rw[hlp,if_pos (fD h1),hl a (by simp) m (k+1) j (by omega) h2 hj,bW];exact ih (λb hb=>hl b (by simp[hb])) (ad acc a) m j k' (by omega) h3 hK hN
def TE (L:List Tok)(k:Nat):Prop:=eZ L k=false/\bP L k [42]=false/\bP L k [45,62]=false
theorem TE.sg (h:ia (tk L k) (cN s))(h1:s≠[114,101,102])(h2:s≠[42])(h3:s≠[45,62]):TE L k:=by
 refine⟨?_,cw h h2,cw h h3⟩;unfold eZ;rw[h.1,cw h h1];rfl
theorem AZ (h:ia (tk L k) (cN s))(h1:s≠[114,101,102]):eZ L k=false:=by
 unfold eZ;rw[h.1,cw h h1];rfl
theorem o9 (h:Sg L k (my s) k'):eZ L k=true/\(tk L k).s=s/\k'=k+1/\(tk L k).k≠5:=by
 unfold my at h;split at h
 . rename_i hs;obtain⟨h1,h2⟩:=h;refine⟨?_,h1.2.1,h2.symm,by rw[h1.1];show(6:Int)≠5;decide⟩;unfold eZ;subst hs;rw[iK h1,Bool.or_true]
 . obtain⟨h1,h2⟩:=h;refine⟨?_,h1.2.1,h2.symm,by rw[h1.1];show(3:Int)≠5;decide⟩;unfold eZ;rw[h1.1];rfl
theorem vI:(my s).length=1:=by unfold my;split<;>rfl
def LS (L:List Tok)(t:aO):Prop:=∀n k k',12*(e6 t).length<=n+1->Sg L k (e6 t) k'->jj L (ps L n) k=yes t k'
def XS (L:List Tok)(t:aO):Prop:=∀n k k',12*(qi t).length+6<=n->Sg L k (qi t) k'->TE L k'->(ps L n).gJ k=yes t k'
theorem LS.post {t:aO}(h:LS L t)(hn:12*(e6 t).length<=n)(hp:1<=n)(hS:Sg L k (e6 t) k')(hN:eZ L k'=false):(ps L n).post k=yes t k':=by
 obtain⟨m,rfl⟩:∃m,n=m+1:=⟨n-1,by omega⟩;show jM L (ps L m) k=_;unfold jM;rw[h m k k' hn hS,bW];unfold gK;rw[bV hN]
theorem LS.gJ {t:aO}(h:LS L t)(hn:12*(e6 t).length+2<=n)(hS:Sg L k (e6 t) k')(hK:TE L k'):(ps L n).gJ k=yes t k':=by
 obtain⟨m,rfl⟩:∃m,n=m+1:=⟨n-1,by omega⟩;show lJ L (ps L m) k=_;unfold lJ kq;rw[h.post (by omega) (by omega) hS hK.1,bW,bV hK.2.1,bW,bV hK.2.2]
theorem CH {s:List UInt8}(l:List aO):∀b,bj (bN s tN) b (l.map WW)=bj (bN s e6) b l:=λb=>fA _ _ _ b
theorem LU (l:List aO)(hl:∀a,a∈l->LS L a)(acc:List aO)(hn:12*(bj (bN [44] e6) false l).length+2<=n)(hS:Sg L k (bj (bN [44] e6) false l) k')(hK:TE L k')(hN:bP L k' [44]=false):(ps L n).rC acc k=yes (acc++l) k':=by
 rw[<- foldl_add];exact mD e6 (λn=>(ps L n).gJ) (λn=>(ps L n).rC) _ [44] (TE L) 2 (by decide) (λn acc k=>rfl) (λk h=>TE.sg h (by decide) (by decide) (by decide)) l (λa ha n k k' h1 h2 h3=>(hl a ha).gJ h1 h2 h3) acc n k k' hn hS hK hN
theorem CI (l:List aO)(hl:∀a,a∈l->LS L a)(acc:List aO)(hn:12*(bj (bN [42] e6) false l).length+2<=n)(hS:Sg L k (bj (bN [42] e6) false l) k')(hK:eZ L k'=false)(hN:bP L k' [42]=false):(ps L n).ff acc k=yes (acc++l) k':=by
 rw[<- foldl_add];exact mD e6 (λn=>(ps L n).post) (λn=>(ps L n).ff) _ [42] (λk=>eZ L k=false) 2 (by decide) (λn acc k=>rfl) (λk h=>AZ h (by decide)) l (λa ha n k k' h1 h2 h3=>(hl a ha).post (by omega) (by omega) h2 h3) acc n k k' hn hS hK hN
theorem OS (t:aO):im t=true->LS L t/\XS L t:=aO.ind (p:=λt=>im t=true->LS L t/\XS L t) (λt ih hr=>by
 have e0:=yn t;rw[hr]at e0;have e1:=e0.symm;rw[Bool.and_eq_true,eV]at e1;obtain⟨hrl,hd⟩:=e1;have hE:∀a,a∈t.l->LS L a:=λa ha=>(ih a ha (bG hrl ha)).1;have hT:=Cm t;have hV:t.k=1->LS L t/\XS L t:=λh1=>by
  unfold Ay at hd;rw[if_pos h1,Bool.and_eq_true,decide_eq_true_eq]at hd;unfold GQ at hT;rw[if_pos h1]at hT;have eP:e6 t=qi t:=by rw[rE,if_pos (.inl h1)]
  have hA:LS L t:=λn k k' hn hS=>by
   rw[eP,hT]at hS;obtain⟨h2,h3⟩:=hS;cases h3;unfold jj;rw[if_pos h2.1,h2.2.1];obtain⟨a,b,c⟩:=t;cases h1;cases List.eq_nil_of_length_eq_zero hd.1;rfl
  exact⟨hA,λn k k' hn hS hK=>hA.gJ (by rw[eP];omega) (by rw[eP];exact hS) hK⟩
 by_cases h1:t.k=1
 . exact hV h1
 have hB:XS L t:=λn k k' hn hS hK=>by
  rw[hT]at hn hS;unfold GQ at hn hS;unfold Ay at hd;rw[if_neg h1]at hn hS hd
  by_cases h3:t.k=3
  . rw[if_neg (by omega),if_pos h3,Bool.and_eq_true,decide_eq_true_eq,decide_eq_true_eq]at hd;rw[if_pos h3,CH]at hn hS;obtain⟨c,s,l⟩:=t
    match l,hd.1 with
    | [a,b],_=>
      have eq:bj (bN [45,62] e6) true (aO.mk c s [a,b]).l=e6 a++cN [45,62]::(e6 b++[]):=rfl;rw[eq,List.append_nil]at hn hS;rw[Sg.app]at hS;obtain⟨j,hs1,hs2,hs3⟩:=hS;rw[List.length_append,List.length_cons]at hn;obtain⟨m,rfl⟩:∃m,n=m+1:=⟨n-1,by omega⟩;show lJ L (ps L m) k=_;unfold lJ kq;rw[(hE a (List.mem_cons_self ..)).post (by omega) (by omega) hs1 (AZ hs2 (by decide)),bW,bV (cw hs2 (by decide)),bW,if_pos (fD hs2),(hE b (by show b∈[a,b];simp)).gJ (by omega) hs3 hK,bW];cases h3;cases hd.2;rfl
  rw[if_neg h3]at hn hS hd
  by_cases h4:t.k=4
  . rw[if_neg (by omega),if_pos h4,Bool.and_eq_true,decide_eq_true_eq,decide_eq_true_eq]at hd;rw[if_pos h4,CH]at hn hS;obtain⟨c,s,l⟩:=t
    match l,hd.1 with
    | a::b::r,_=>
      have eq:bj (bN [42] e6) true (aO.mk c s (a::b::r)).l=e6 a++bj (bN [42] e6) false (b::r):=rfl;rw[eq]at hn hS;rw[Sg.app]at hS;obtain⟨j,hs1,hs2⟩:=hS;have hs3:ia (tk L j) (cN [42]):=hs2.1;rw[List.length_append]at hn;obtain⟨m,rfl⟩:∃m,n=m+1:=⟨n-1,by omega⟩;show lJ L (ps L m) k=_;unfold lJ kq;have hp:mo L (ps L m) [a] j=yes ([a]++(b::r)) k':=CI (n:=m+1) (b::r) (λx hx=>hE x (by show x∈a::b::r;simp at hx ⊢;exact .inr hx)) [a] (by omega) hs2 hK.1 hK.2.1;rw[(hE a (List.mem_cons_self ..)).post (by omega) (by omega) hs1 (AZ hs3 (by decide)),bW,if_pos (fD hs3),hp,bW,bW,bV hK.2.2];cases h4;cases hd.2;rfl
  rw[if_neg h4]at hn hS hd
  by_cases h2:t.k=2
  . rw[if_pos h2]at hn hS;obtain⟨c,s,l⟩:=t;obtain rfl:c=2:=h2;rw[CH]at hn hS;obtain⟨m,rfl⟩:∃m,n=m+2:=⟨n-2,by omega⟩;show lJ L (ps L (m+1)) k=_;unfold lJ kq;have key:(ps L (m+1)).post k=yes (.mk 2 s l) k':=by
     show jM L (ps L m) k=_;unfold jM
     match l with
     | []=>
       rw[if_neg (by simp[aO.l])]at hS;obtain⟨n1,n2,n3,n4⟩:=o9 hS;unfold jj;rw[if_neg n4,if_pos n1,bW,n2,<- n3];unfold gK;rw[bV hK.1];rfl
     | [a]=>
       rw[if_neg (by simp[aO.l])]at hS hn;have eq:bj (bN [44] e6) true (aO.mk 2 s [a]).l=e6 a++[]:=rfl;rw[eq,List.append_nil]at hn hS;rw[List.length_append,vI]at hn;rw[Sg.app]at hS;obtain⟨j,hs1,hs2⟩:=hS;obtain⟨n1,n2,n3,n4⟩:=o9 hs2;rw[hE a (List.mem_cons_self ..) m k j (by omega) hs1,bW];unfold gK;rw[if_pos n1,n2];obtain⟨m',rfl⟩:∃m',m=m'+1:=⟨m-1,by omega⟩;show gK L (ps L m') _ _=_;unfold gK;rw[<- n3,bV hK.1];rfl
     | a::b::r=>
       rw[if_pos (by simp[aO.l])]at hS hn;have eq:bj (bN [44] e6) true (aO.mk 2 s (a::b::r)).l=e6 a++bj (bN [44] e6) false (b::r):=rfl;rw[eq]at hn hS;rw[List.length_cons,List.length_append,List.length_append,List.length_cons,vI]at hn;rw[Sg.cons,Sg.app]at hS;obtain⟨hs1,j2,hS,hs4,hs5⟩:=hS;rw[Sg.app]at hS;obtain⟨j1,hs2,hs3⟩:=hS;have hs6:ia (tk L j1) (cN [44]):=hs3.1;obtain⟨n1,n2,n3,n4⟩:=o9 hs5;unfold jj;rw[if_neg (dK hs1 (by decide)),bV (AZ hs1 (by decide)),dC hs1,(hE a (List.mem_cons_self ..)).gJ (by omega) hs2 (TE.sg hs6 (by decide) (by decide) (by decide)),bW,if_pos (fD hs6)];have hp:oX L (ps L m) [a] j1=yes ([a]++(b::r)) j2:=LU (n:=m+1) (b::r) (λx hx=>hE x (by show x∈a::b::r;simp at hx ⊢;exact .inr hx)) [a] (by omega) hs3 (TE.sg hs4 (by decide) (by decide) (by decide)) (cw hs4 (by decide));rw[hp,bW,dC hs4,if_pos n1,bW,n2,<- n3];unfold gK;rw[bV hK.1];rfl
    rw[key,bW,bV hK.2.1,bW,bV hK.2.2]
  . rw[if_neg h2]at hd;cases hd
 refine⟨λn k k' hn hS=> ?_,hB⟩;rw[rE]at hn hS
 by_cases h2:t.k=2/\t.l.length=0
 . rw[if_pos (.inr h2),hT]at hS;obtain⟨c,s,l⟩:=t;obtain⟨q1,q2⟩:=h2;obtain rfl:c=2:=q1;cases List.eq_nil_of_length_eq_zero q2;obtain⟨n1,n2,n3,n4⟩:=o9 (s:=s) (show Sg L k (my s) k' from hS);unfold jj;rw[if_neg n4,if_pos n1,n2,<- n3]
 . rw[if_neg (by rintro(h | h);exact h1 h;exact h2 h)]at hn hS;rw[Sg.cons,Sg.app]at hS;obtain⟨hs1,j,hs2,hs3,hs4⟩:=hS;cases hs4;rw[List.length_cons,List.length_append]at hn;unfold jj;rw[if_neg (dK hs1 (by decide)),bV (AZ hs1 (by decide)),dC hs1,hB n (k+1) j (by simp at hn;omega) hs2 (TE.sg hs3 (by decide) (by decide) (by decide)),bW,bV (cw hs3 (by decide)),dC hs3]) t
theorem tX (c:cS)(hr:jg c=true)(hn:12*(gM c).length+2<=n)(hS:Sg L k (gM c) k')(hK:TE L k')(hO:bP L k' [111,102]=false):(ps L n).iH k=yes c k':=by
 obtain⟨m,rfl⟩:∃m,n=m+1:=⟨n-1,by omega⟩;show qZ L (ps L m) k=_;unfold qZ;unfold jg at hr;rw[Bool.and_eq_true,Bool.and_eq_true,decide_eq_true_eq,eV]at hr;obtain⟨_,hl,hR⟩:=hr;obtain⟨s,l⟩:=c
 match l,hl with
 | [],_=>
   obtain⟨h1,h2⟩:=(show Sg L k [⟨4,s,0,0⟩] k' from hS);cases h2;rw[n5 h1.1,bV hO,h1.2.1]
 | [a],_=>
   have eq:gM ⟨s,[a]⟩=⟨4,s,0,0⟩::eg [111,102]::(qi a++[]):=rfl;rw[eq,List.append_nil]at hS hn;obtain⟨h1,h2,h3⟩:=hS;rw[List.length_cons,List.length_cons]at hn;rw[n5 h1.1,if_pos (iK h2),(OS a (bG hR (by simp))).2 m _ _ (by omega) h3 hK,bW,h1.2.1]
theorem OT (c:cS):1<=(gM c).length:=by unfold gM;simp
def CE (L:List Tok)(k:Nat):Prop:=TE L k/\bP L k [111,102]=false
theorem Hl (l:List cS)(hl:l.all jg=true)(acc:List cS)(hn:12*(bj (bN [124] gM) false l).length+2<=n)(hS:Sg L k (bj (bN [124] gM) false l) k')(hK:CE L k')(hN:bP L k' [124]=false):(ps L n).iQ acc k=yes (acc++l) k':=by
 rw[<- foldl_add];exact mD gM (λn=>(ps L n).iH) (λn=>(ps L n).iQ) _ [124] (CE L) 2 (by decide) (λn acc k=>rfl) (λk h=>⟨TE.sg h (by decide) (by decide) (by decide),cw h (by decide)⟩) l (λa ha n k k' h1 h2 h3=>tX a (bG hl ha) h1 h2 h3.1 h3.2) acc n k k' hn hS hK hN
theorem OU (l:List cS):bj (λb c=>cN (if b=true then[61]else[124])::gM c) false l=bj (bN [124] gM) false l:=by
 induction l with
 | nil=>rfl
 | cons a l ih=>rw[bj,bj,ih];rfl
theorem Hm (l:List (List UInt8)):∀(acc:List (List UInt8)) (n k:Nat),12*(bj (bN [44] λs=>[(⟨5,s,0,0⟩:Tok)]) false l).length+1<=n->Sg L k (bj (bN [44] λs=>[(⟨5,s,0,0⟩:Tok)]) false l) k'->bP L k' [44]=false->(ps L n).iq acc k=yes (acc++l) k':=by
 induction l with
 | nil=>
   intro acc n k hn hS hN;obtain⟨m,rfl⟩:∃m,n=m+1:=⟨n-1,by omega⟩;cases hS;show fi L (ps L m) acc _=_;unfold fi;rw[bV hN,List.append_nil]
 | cons a l ih=>
   intro acc n k hn hS hN;obtain⟨m,rfl⟩:∃m,n=m+1:=⟨n-1,by omega⟩;have eq:bj (bN [44] λs=>[(⟨5,s,0,0⟩:Tok)]) false (a::l)=cN [44]::⟨5,a,0,0⟩::bj (bN [44] λs=>[(⟨5,s,0,0⟩:Tok)]) false l:=rfl;rw[eq]at hn hS;obtain⟨h1,h2,h3⟩:=hS;rw[List.length_cons,List.length_cons]at hn;show fi L (ps L m) acc k=_;unfold fi;rw[if_pos (fD h1),n5 h2.1,h2.2.1,ih (acc++[a]) m _ (by omega) h3 hN];simp
theorem Hn (x:Data)(hr:iv x=true)(hn:12*(kA x).length<=n+12)(hS:Sg L (k+1) (kA x).tail k')(hK:CE L k')(hN:bP L k' [124]=false):(ps L n).data (k+1)=yes x k':=by
 unfold iv at hr;rw[Bool.and_eq_true,Bool.and_eq_true,Bool.and_eq_true,decide_eq_true_eq,lj,lk]at hr;obtain⟨_,hc,_,hc0⟩:=hr;obtain⟨vs,s,cs⟩:=x
 match cs,hc0 with
 | c::cs,_=>
 have eC:bj (λb c=>cN (if b=true then[61]else[124])::gM c) true (c::cs)=cN [61]::(gM c++bj (bN [124] gM) false cs):=by
  rw[<- OU];rfl
 have hcp:=OT c;have rest:∀(m j:Nat) (vs:List (List UInt8)),12*(gM c++bj (bN [124] gM) false cs).length+2<=m->Sg L j (⟨3,s,0,0⟩::cN [61]::(gM c++bj (bN [124] gM) false cs)) k'->(bY L 3 j λt k=>aQ L [61] k λk=>bd ((ps L m).iH k) λc k=>bd (ir L (ps L m) [c] k) λl k=>yes (⟨vs,t.s,l⟩:Data) k)=yes ⟨vs,s,c::cs⟩ k':=by
  intro m j vs hm hS;obtain⟨h1,h2,h3⟩:=hS;rw[Sg.app]at h3;obtain⟨j1,h3,h4⟩:=h3;rw[List.length_append]at hm;have hj:CE L j1:=by
   cases cs with
   | nil=>cases h4;exact hK
   | cons b l=>
     have h5:ia (tk L j1) (cN [124]):=h4.1;exact⟨TE.sg h5 (by decide) (by decide) (by decide),cw h5 (by decide)⟩
  rw[List.all_cons,Bool.and_eq_true]at hc;have hp:ir L (ps L m) [c] j1=yes ([c]++cs) k':=Hl (n:=m+1) cs hc.2 [c] (by omega) h4 hK hN;rw[n5 h1.1,dC h2,tX c hc.1 (by omega) h3 hj.1 hj.2,bW,hp,bW,h1.2.1];rfl
 unfold kA at hn hS;rw[List.tail_cons]at hS;rw[List.length_cons]at hn;rw[eC]at hn hS;obtain⟨m,rfl⟩:∃m,n=m+1:=⟨n-1,by
  simp only[List.length_append,List.length_cons]at hn;omega⟩
 show lF L (ps L m) (k+1)=_;unfold lF nu
 match vs with
 | []=>
   obtain⟨h1,hS'⟩:=(show Sg L (k+1) (⟨3,s,0,0⟩::cN [61]::(gM c++bj (bN [124] gM) false cs)) k' from hS);rw[if_neg (dK h1 (by decide)),bV (o7 (XA h1 (by decide) (by decide))),bW];exact rest m _ [] (by simp only[List.length_append,List.length_cons]at hn ⊢;omega) hS
 | [v]=>
   obtain⟨h1,hS'⟩:=(show Sg L (k+1) (⟨5,v,0,0⟩::⟨3,s,0,0⟩::cN [61]::(gM c++bj (bN [124] gM) false cs)) k' from hS);rw[if_pos h1.1,bW,h1.2.1];exact rest m _ [v] (by simp only[List.length_append,List.length_cons]at hn ⊢;omega) hS'
 | v::v2::vs=>
   have eq:bj (bN [44] λs=>[(⟨5,s,0,0⟩:Tok)]) true (v::v2::vs)=⟨5,v,0,0⟩::bj (bN [44] λs=>[(⟨5,s,0,0⟩:Tok)]) false (v2::vs):=rfl;rw[if_pos (by simp),if_pos (by simp),eq]at hn hS;simp only[List.cons_append,List.nil_append]at hn hS;obtain⟨h1,h2,hS⟩:=hS;rw[Sg.app]at hS;obtain⟨j,h3,h4,h5⟩:=hS;simp only[List.length_append,List.length_cons]at hn;have hp:fi L (ps L m) [v] (k+1+1+1)=yes ([v]++(v2::vs)) j:=Hm (n:=m+1) (v2::vs) [v] _ (by omega) h3 (cw h4 (by decide));rw[if_neg (dK h1 (by decide)),if_pos (fD h1),n5 h2.1,h2.2.1,hp,bW,dC h4,bW];exact rest m _ _ (by simp only[List.length_append];omega) h5
end
end
end Go.Proofs.YthjhonhhbddhkaaDoor
