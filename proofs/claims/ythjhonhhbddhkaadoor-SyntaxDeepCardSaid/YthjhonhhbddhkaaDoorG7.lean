/- Texts of this claim, side by side. -/
import Derived.Test.YthjhonhhbddhkaaDoorG5
import Derived.Test.YthjhonhhbddhkaaDoorG6
import Derived.Test.YthjhonhhbddhkaaDoorProg
import Derived.WalkKit
import Derived.ProofKit
import Derived.OpenShut
import Derived.ShutString
import Derived.ChangeOld
import Derived.ChangeSame
import Derived.Deep.Slices
import Derived.DataElems
import Derived.Below
import Derived.SizedLaws
import Derived.Test.YthjhonhhbddhkaaDoorRows
import Derived.LaidMore
import Derived.Stop.LaidErr
import Derived.Lib.AppendIntMem
namespace Go.Proofs.YthjhonhhbddhkaaDoor
open Go.Ev Go.RowKit
noncomputable section
set_option maxRecDepth 100000
set_option linter.unusedVariables false
set_option linter.unusedSimpArgs false
set_option maxHeartbeats 8000000
section
variable {L:List Tok}{α β:Type}{Q:β->Prop}{Q1:α->Prop}{k m:Nat}
def av {α:Type}(x:PR α)(Q:α->Prop):Prop:=∀a k,x=some (.ok a k)->Q a
theorem av.none:av (none:PR β) Q:=λa k h=>by cases h
theorem av.bd {x:PR α}{f:α->Nat->PR β}(h:av x Q1)(hf:∀a k,Q1 a->av (f a k) Q):av (bd x f) Q:=by
 cases x with
 | none=>exact av.none
 | some r=>
   cases r with
   | bad a=>exact λa k h=>by cases h
   | ok a k=>exact hf a k (h a k rfl)
theorem av.fail:av (ld L k:PR β) Q:=λa k h=>by cases h
theorem av.yes {a:β}(h:Q a):av (yes a k) Q:=λa k h'=>by cases h';exact h
theorem av.ite {c:Prop}[Decidable c]{x y:PR β}(h:av x Q)(h':av y Q):av (if c then x else y) Q:=by
 by_cases hc:c
 . rw[if_pos hc];exact h
 . rw[if_neg hc];exact h'
theorem av.ba {w:List UInt8}{f:Nat->PR β}(hf:∀k,av (f k) Q):av (ba L w k f) Q:=av.ite (hf _) av.fail
theorem av.c_ {c:Int}{f:Tok->Nat->PR β}(hf:∀j k,av (f (tk L j) k) Q):av (c_ L c k f) Q:=av.ite (hf _ _) av.fail
def ai (Q:β->Prop)(m:Nat)(l:List β):Prop:=l.length<=m/\∀c,c∈l->Q c
theorem ai.nil:ai Q m []:=⟨Nat.zero_le _,λc h=>nomatch h⟩
theorem ai.snoc {l:List β}{a:β}(h:ai Q m l)(ha:Q a):ai Q (m+1) (l++[a]):=⟨by rw[List.length_append];exact Nat.add_le_add_right h.1 1,λc hc=>(List.mem_append.1 hc).elim (h.2 c) λq=>by rw[List.mem_singleton.1 q];exact ha⟩
theorem ai.one {a:β}(ha:Q a):ai Q 1 [a]:=⟨Nat.le_refl _,λc hc=>by rw[List.mem_singleton.1 hc];exact ha⟩
theorem ai.two {a b:β}(ha:Q a)(hb:Q b):ai Q 2 [a,b]:=(ai.one ha).snoc hb
theorem ai.three {a b c:β}(ha:Q a)(hb:Q b)(hc:Q c):ai Q 3 [a,b,c]:=(ai.two ha hb).snoc hc
theorem ai.mono {n:Nat}{l:List β}(h:ai Q m l)(hm:m<=n):ai Q n l:=⟨Nat.le_trans h.1 hm,h.2⟩
theorem ai.ee {l:List β}(h:ai Q m l)(hm:m<=300000):l.length<ee:=Nat.lt_of_le_of_lt (Nat.le_trans h.1 hm) (by decide)
theorem dW {k n:Int}{s:List UInt8}{l:List au}{p:List aD}{d:List aJ}{m1 m2 m3:Nat}(h1:rg n)(h2:eQ s)(h3:ai au.ok m1 l)(g3:m1<=300000)(h4:ai aD.ok m2 p)(g4:m2<=300000)(h5:ai aJ.ok m3 d)(g5:m3<=300000):(au.mk k n s l p d).ok:=(au.dK _).2 ⟨h1,h2,⟨h3.ee g3,h3.2⟩,⟨h4.ee g4,h4.2⟩,h5.ee g5,h5.2⟩
theorem gE {k n:Int}{s:List UInt8}{l:List aD}{m1:Nat}(h1:rg n)(h2:eQ s)(h3:ai aD.ok m1 l)(g3:m1<=300000):(aD.mk k n s l).ok:=(aD.dK _).2 ⟨h1,h2,h3.ee g3,h3.2⟩
theorem ju {k:Int}{s:List UInt8}{l:List aY}{m1:Nat}(h2:eQ s)(h3:ai aY.ok m1 l)(g3:m1<=300000):(aY.mk k s l).ok:=(aY.dK _).2 ⟨h2,h3.ee g3,h3.2⟩
theorem Ej {s:List UInt8}{l:List aY}{m1:Nat}(h2:eQ s)(h3:ai aY.ok m1 l)(g3:m1<=300000):(dk.mk s l).ok:=⟨h2,h3.ee g3,h3.2⟩
theorem Ak {v:List (List UInt8)}{s:List UInt8}{l:List dk}{m0 m1:Nat}(h0:ai eQ m0 v)(g0:m0<=300000)(h2:eQ s)(h3:ai dk.ok m1 l)(g3:m1<=300000):(Data.mk v s l).ok:=⟨⟨h0.ee g0,h0.2⟩,h2,h3.ee g3,h3.2⟩
theorem Ni {s:List UInt8}{q:List aD}{b:au}{m1:Nat}(h2:eQ s)(h3:ai aD.ok m1 q)(g3:m1<=300000)(h4:b.ok):(Fn.mk s q b).ok:=(Fn.dK _).2 ⟨h2,⟨h3.ee g3,h3.2⟩,h4⟩
theorem w6 {k:Int}{p:aD}{e:au}{f:List Fn}{x:Data}{c:dk}{m1:Nat}(h1:p.ok)(h2:e.ok)(h3:ai Fn.ok m1 f)(g3:m1<=300000)(h4:x.ok)(h5:c.ok):(aJ.mk k p e f x c).ok:=(aJ.dK _).2 ⟨h1,h2,⟨h3.ee g3,h3.2⟩,h4,h5⟩
theorem e_:rg 0:=by unfold rg;omega
theorem bI:eQ []:=by show(0:Nat)<_;omega
theorem Ek:l6.ok:=gE e_ bI (ai.nil (m:=0)) (by decide)
theorem IE:mK.ok:=dW e_ bI (ai.nil (m:=0)) (by decide) (ai.nil (m:=0)) (by decide) (ai.nil (m:=0)) (by decide)
theorem El:gS.ok:=Ak (ai.nil (m:=0)) (by decide) bI (ai.nil (m:=0)) (by decide)
theorem Em:lg.ok:=Ej bI (ai.nil (m:=0)) (by decide)
def eG (m:Nat)(e:au):Prop:=∃k l p,e= .mk k 0 [] l p []/\ai au.ok m l/\ai aD.ok m p
theorem eG.ok {e:au}(h:eG m e)(hm:m<=300000):e.ok:=by
 obtain⟨k,l,p,rfl,h1,h2⟩:=h;exact dW e_ bI h1 hm h2 hm (ai.nil (m:=0)) (by decide)
theorem eG.add {e b:au}(h:eG m e)(hb:b.ok):eG (m+1) (e.add b):=by
 obtain⟨k,l,p,rfl,h1,h2⟩:=h;exact⟨k,l++[b],p,rfl,h1.snoc hb,h2.mono (Nat.le_succ m)⟩
theorem eG.jo {e b:au}{q:aD}(h:eG m e)(hq:q.ok)(hb:b.ok):eG (m+1) (e.jo q b):=by
 obtain⟨k,l,p,rfl,h1,h2⟩:=h;exact⟨k,l++[b],p++[q],rfl,h1.snoc hb,h2.snoc hq⟩
theorem eG.one {k:Int}{b:au}(hb:b.ok):eG 1 (.mk k 0 [] [b] [] []):=⟨k,[b],[],rfl,ai.one hb,ai.nil⟩
theorem eG.zero {k:Int}:eG 0 (.mk k 0 [] [] [] []):=⟨k,[],[],rfl,ai.nil,ai.nil⟩
theorem dC (n:Int):rg (IntKind.i64.wrap n):=by
 unfold rg IntKind.wrap;have:IntKind.i64.bits=64:=rfl;have:IntKind.i64.signed=true:=rfl;simp only[*,Bool.true_and];split
 . rename_i h';simp only[decide_eq_true_eq]at h';omega
 . rename_i h';simp only[decide_eq_true_eq]at h';omega
def Al (d:Option aJ):Prop:=∀x,d=some x->x.ok
def oZ (L:List Tok):Prop:=∀t,t∈L->rg t.n/\eQ t.s
theorem oZ.tk (h:oZ L)(k:Nat):rg (tk L k).n/\eQ (tk L k).s:=by
 unfold Go.Proofs.YthjhonhhbddhkaaDoor.tk;cases hk:L[k]? with
 | none=>exact⟨e_,bI⟩
 | some t=>exact h t (List.mem_of_getElem? hk)
structure dX (n:Nat)(p:PS):Prop where
 exp:∀k,av (p.exp k) au.ok
 oO:∀e k m,eG m e->m+n<=300000->av (p.oO e k) au.ok
 bin:∀lv k,av (p.bin lv k) au.ok
 u2:∀lv a k,a.ok->av (p.u2 lv a k) au.ok
 un:∀k,av (p.un k) au.ok
 u3:∀a k,a.ok->av (p.u3 a k) au.ok
 atom:∀k,av (p.atom k) au.ok
 dO:∀s e k m,eG m e->m+n<=300000->av (p.dO s e k) au.ok
 lt:∀k,av (p.lt k) au.ok
 sU:∀l k m,ai aJ.ok m l->m+n<=300000->av (p.sU l k) (ai aJ.ok 300000)
 pat:∀k,av (p.pat k) aD.ok
 dA:∀k,av (p.dA k) aD.ok
 pQ:∀l k m,ai aD.ok m l->m+n<=300000->av (p.pQ l k) (ai aD.ok 300000)
 lB:∀k,av (p.lB k) aY.ok
 mB:∀l k m,ai aY.ok m l->m+n<=300000->av (p.mB l k) (ai aY.ok 300000)
 post:∀k,av (p.post k) aY.ok
 Ig:∀l k m,ai aY.ok m l->m+n<=300000->av (p.Ig l k) (ai aY.ok 300000)
 gT:∀a k,a.ok->av (p.gT a k) aY.ok
 lC:∀k,av (p.lC k) dk.ok
 bind:∀k,av (p.bind k) Al
 sV:∀l k m,ai Fn.ok m l->m+n<=300000->av (p.sV l k) (ai Fn.ok 300000)
 fn:∀k,av (p.fn k) Fn.ok
 FK:∀l k m,ai aD.ok m l->m+n<=300000->av (p.FK l k) (ai aD.ok 300000)
 dec:∀k,av (p.dec k) Al
 data:∀k,av (p.data k) Data.ok
 sW:∀l k m,ai eQ m l->m+n<=300000->av (p.sW l k) (ai eQ 300000)
 u4:∀l k m,ai dk.ok m l->m+n<=300000->av (p.u4 l k) (ai dk.ok 300000)
 er:∀l k m,ai aJ.ok m l->m+n<=300000->av (p.er l k) (ai aJ.ok 300000)
variable {n:Nat}{p:PS}
theorem KG (h:dX n p)(ht:∀k,rg (tk L k).n/\eQ (tk L k).s)(hn:n<=200000):∀k,av (gC L p k) au.ok:=by
 intro k;unfold gC
 repeat' (first
 | exact av.fail
 | exact av.yes (by assumption)
 | exact av.yes (dW (by first | exact e_ | exact(ht _).1 | exact dC _) (by first | exact bI | exact(ht _).2 | assumption | (show _<_;decide)) (by first | exact ai.nil (m:=0) | assumption | exact ai.three (by assumption) (by assumption) (by assumption) | exact ai.two (by assumption) (by assumption) | exact ai.one (by assumption)) (by omega) (by first | exact ai.nil (m:=0) | assumption | exact ai.three (by assumption) (by assumption) (by assumption) | exact ai.two (by assumption) (by assumption) | exact ai.one (by assumption)) (by omega) (by first | exact ai.nil (m:=0) | assumption | exact ai.three (by assumption) (by assumption) (by assumption) | exact ai.two (by assumption) (by assumption) | exact ai.one (by assumption)) (by omega))
 | refine av.ba (λk=> ?_)
 | exact h.exp _
 | refine av.bd (h.exp _) (λa k ha=> ?_)
 | exact h.oO _ _ _ (by first | exact eG.jo (by assumption) (by assumption) (by assumption) | exact eG.add (by assumption) (by assumption) | exact eG.one (by assumption) | exact eG.zero) (by omega)
 | refine av.bd (h.oO _ _ _ (by first | exact eG.jo (by assumption) (by assumption) (by assumption) | exact eG.add (by assumption) (by assumption) | exact eG.one (by assumption) | exact eG.zero) (by omega)) (λa k ha=> ?_)
 | exact h.bin _ _
 | refine av.bd (h.bin _ _) (λa k ha=> ?_)
 | refine av.ite ?_ ?_)
theorem KH (h:dX n p)(ht:∀k,rg (tk L k).n/\eQ (tk L k).s)(hn:n<=200000):∀e k m,eG m e->m+(n+1)<=300000->av (sX L p e k) au.ok:=by
 intro e k m he hm;unfold sX
 repeat' (first
 | exact av.yes (eG.ok (by first | assumption | exact eG.jo (by assumption) (by assumption) (by assumption)) (by omega))
 | exact av.fail
 | exact av.yes (by assumption)
 | exact av.yes (dW (by first | exact e_ | exact(ht _).1 | exact dC _) (by first | exact bI | exact(ht _).2 | assumption | (show _<_;decide)) (by first | exact ai.nil (m:=0) | assumption | exact ai.three (by assumption) (by assumption) (by assumption) | exact ai.two (by assumption) (by assumption) | exact ai.one (by assumption)) (by omega) (by first | exact ai.nil (m:=0) | assumption | exact ai.three (by assumption) (by assumption) (by assumption) | exact ai.two (by assumption) (by assumption) | exact ai.one (by assumption)) (by omega) (by first | exact ai.nil (m:=0) | assumption | exact ai.three (by assumption) (by assumption) (by assumption) | exact ai.two (by assumption) (by assumption) | exact ai.one (by assumption)) (by omega))
 | refine av.ba (λk=> ?_)
 | exact h.exp _
 | refine av.bd (h.exp _) (λa k ha=> ?_)
 | exact h.oO _ _ _ (by first | exact eG.jo (by assumption) (by assumption) (by assumption) | exact eG.add (by assumption) (by assumption) | exact eG.one (by assumption) | exact eG.zero) (by omega)
 | refine av.bd (h.oO _ _ _ (by first | exact eG.jo (by assumption) (by assumption) (by assumption) | exact eG.add (by assumption) (by assumption) | exact eG.one (by assumption) | exact eG.zero) (by omega)) (λa k ha=> ?_)
 | exact h.pat _
 | refine av.bd (h.pat _) (λa k ha=> ?_)
 | refine av.ite ?_ ?_)
theorem En (h:dX n p)(ht:∀k,rg (tk L k).n/\eQ (tk L k).s)(hn:n<=200000):∀lv a k,a.ok->av (lh L p lv a k) au.ok:=by
 intro lv a k ha;unfold lh
 repeat' (first
 | exact av.fail
 | exact av.yes (by assumption)
 | exact av.yes (dW (by first | exact e_ | exact(ht _).1 | exact dC _) (by first | exact bI | exact(ht _).2 | assumption | (show _<_;decide)) (by first | exact ai.nil (m:=0) | assumption | exact ai.three (by assumption) (by assumption) (by assumption) | exact ai.two (by assumption) (by assumption) | exact ai.one (by assumption)) (by omega) (by first | exact ai.nil (m:=0) | assumption | exact ai.three (by assumption) (by assumption) (by assumption) | exact ai.two (by assumption) (by assumption) | exact ai.one (by assumption)) (by omega) (by first | exact ai.nil (m:=0) | assumption | exact ai.three (by assumption) (by assumption) (by assumption) | exact ai.two (by assumption) (by assumption) | exact ai.one (by assumption)) (by omega))
 | exact h.bin _ _
 | refine av.bd (h.bin _ _) (λa k ha=> ?_)
 | exact h.u2 _ _ _ (by first | assumption | exact ju (by first | exact bI | exact(ht _).2 | assumption | (show _<_;decide)) (by first | exact ai.nil (m:=0) | assumption | exact ai.three (by assumption) (by assumption) (by assumption) | exact ai.two (by assumption) (by assumption) | exact ai.one (by assumption)) (by omega) | exact dW e_ (by first | exact bI | exact(ht _).2 | assumption | (show _<_;decide)) (by first | exact ai.nil (m:=0) | assumption | exact ai.three (by assumption) (by assumption) (by assumption) | exact ai.two (by assumption) (by assumption) | exact ai.one (by assumption)) (by omega) (ai.nil (m:=0)) (by omega) (ai.nil (m:=0)) (by omega))
 | refine av.bd (h.u2 _ _ _ (by first | assumption | exact ju (by first | exact bI | exact(ht _).2 | assumption | (show _<_;decide)) (by first | exact ai.nil (m:=0) | assumption | exact ai.three (by assumption) (by assumption) (by assumption) | exact ai.two (by assumption) (by assumption) | exact ai.one (by assumption)) (by omega) | exact dW e_ (by first | exact bI | exact(ht _).2 | assumption | (show _<_;decide)) (by first | exact ai.nil (m:=0) | assumption | exact ai.three (by assumption) (by assumption) (by assumption) | exact ai.two (by assumption) (by assumption) | exact ai.one (by assumption)) (by omega) (ai.nil (m:=0)) (by omega) (ai.nil (m:=0)) (by omega))) (λa k ha=> ?_)
 | refine av.ite ?_ ?_)
theorem KI (h:dX n p)(ht:∀k,rg (tk L k).n/\eQ (tk L k).s)(hn:n<=200000):∀lv k,av (iC L p lv k) au.ok:=by
 intro lv k;unfold iC;exact av.ite (h.un _) (av.bd (h.bin _ _) λa k ha=>En h ht hn _ _ _ ha)
theorem w7 (h:dX n p)(ht:∀k,rg (tk L k).n/\eQ (tk L k).s)(hn:n<=200000):∀a k,a.ok->av (oP L p a k) au.ok:=by
 intro a k ha;unfold oP
 repeat' (first
 | exact av.fail
 | exact av.yes (by assumption)
 | exact av.yes (dW (by first | exact e_ | exact(ht _).1 | exact dC _) (by first | exact bI | exact(ht _).2 | assumption | (show _<_;decide)) (by first | exact ai.nil (m:=0) | assumption | exact ai.three (by assumption) (by assumption) (by assumption) | exact ai.two (by assumption) (by assumption) | exact ai.one (by assumption)) (by omega) (by first | exact ai.nil (m:=0) | assumption | exact ai.three (by assumption) (by assumption) (by assumption) | exact ai.two (by assumption) (by assumption) | exact ai.one (by assumption)) (by omega) (by first | exact ai.nil (m:=0) | assumption | exact ai.three (by assumption) (by assumption) (by assumption) | exact ai.two (by assumption) (by assumption) | exact ai.one (by assumption)) (by omega))
 | exact h.u3 _ _ (by first | assumption | exact ju (by first | exact bI | exact(ht _).2 | assumption | (show _<_;decide)) (by first | exact ai.nil (m:=0) | assumption | exact ai.three (by assumption) (by assumption) (by assumption) | exact ai.two (by assumption) (by assumption) | exact ai.one (by assumption)) (by omega) | exact dW e_ (by first | exact bI | exact(ht _).2 | assumption | (show _<_;decide)) (by first | exact ai.nil (m:=0) | assumption | exact ai.three (by assumption) (by assumption) (by assumption) | exact ai.two (by assumption) (by assumption) | exact ai.one (by assumption)) (by omega) (ai.nil (m:=0)) (by omega) (ai.nil (m:=0)) (by omega))
 | refine av.bd (h.u3 _ _ (by first | assumption | exact ju (by first | exact bI | exact(ht _).2 | assumption | (show _<_;decide)) (by first | exact ai.nil (m:=0) | assumption | exact ai.three (by assumption) (by assumption) (by assumption) | exact ai.two (by assumption) (by assumption) | exact ai.one (by assumption)) (by omega) | exact dW e_ (by first | exact bI | exact(ht _).2 | assumption | (show _<_;decide)) (by first | exact ai.nil (m:=0) | assumption | exact ai.three (by assumption) (by assumption) (by assumption) | exact ai.two (by assumption) (by assumption) | exact ai.one (by assumption)) (by omega) (ai.nil (m:=0)) (by omega) (ai.nil (m:=0)) (by omega))) (λa k ha=> ?_)
 | exact h.atom _
 | refine av.bd (h.atom _) (λa k ha=> ?_)
 | refine av.ite ?_ ?_)
theorem Nj (h:dX n p)(ht:∀k,rg (tk L k).n/\eQ (tk L k).s)(hn:n<=200000):∀k,av (wN L p k) au.ok:=by
 intro k;unfold wN
 repeat' (first
 | exact av.fail
 | exact av.yes (by assumption)
 | exact av.yes (dW (by first | exact e_ | exact(ht _).1 | exact dC _) (by first | exact bI | exact(ht _).2 | assumption | (show _<_;decide)) (by first | exact ai.nil (m:=0) | assumption | exact ai.three (by assumption) (by assumption) (by assumption) | exact ai.two (by assumption) (by assumption) | exact ai.one (by assumption)) (by omega) (by first | exact ai.nil (m:=0) | assumption | exact ai.three (by assumption) (by assumption) (by assumption) | exact ai.two (by assumption) (by assumption) | exact ai.one (by assumption)) (by omega) (by first | exact ai.nil (m:=0) | assumption | exact ai.three (by assumption) (by assumption) (by assumption) | exact ai.two (by assumption) (by assumption) | exact ai.one (by assumption)) (by omega))
 | exact h.un _
 | refine av.bd (h.un _) (λa k ha=> ?_)
 | exact h.atom _
 | refine av.bd (h.atom _) (λa k ha=> ?_)
 | exact w7 h ht hn _ _ (by assumption)
 | refine av.bd (w7 h ht hn _ _ (by assumption)) (λa k ha=> ?_)
 | refine av.ite ?_ ?_)
theorem o0 (h:dX n p)(ht:∀k,rg (tk L k).n/\eQ (tk L k).s)(hn:n<=200000):∀s e k m,eG m e->m+(n+1)<=300000->av (kq L p s e k) au.ok:=by
 intro s e k m he hm;unfold kq
 repeat' (first
 | exact av.yes (eG.ok (by first | assumption | exact eG.jo (by assumption) (by assumption) (by assumption)) (by omega))
 | exact av.fail
 | exact av.yes (by assumption)
 | exact av.yes (dW (by first | exact e_ | exact(ht _).1 | exact dC _) (by first | exact bI | exact(ht _).2 | assumption | (show _<_;decide)) (by first | exact ai.nil (m:=0) | assumption | exact ai.three (by assumption) (by assumption) (by assumption) | exact ai.two (by assumption) (by assumption) | exact ai.one (by assumption)) (by omega) (by first | exact ai.nil (m:=0) | assumption | exact ai.three (by assumption) (by assumption) (by assumption) | exact ai.two (by assumption) (by assumption) | exact ai.one (by assumption)) (by omega) (by first | exact ai.nil (m:=0) | assumption | exact ai.three (by assumption) (by assumption) (by assumption) | exact ai.two (by assumption) (by assumption) | exact ai.one (by assumption)) (by omega))
 | exact h.exp _
 | refine av.bd (h.exp _) (λa k ha=> ?_)
 | exact h.dO _ _ _ _ (by first | exact eG.jo (by assumption) (by assumption) (by assumption) | exact eG.add (by assumption) (by assumption) | exact eG.one (by assumption) | exact eG.zero) (by omega)
 | refine av.bd (h.dO _ _ _ _ (by first | exact eG.jo (by assumption) (by assumption) (by assumption) | exact eG.add (by assumption) (by assumption) | exact eG.one (by assumption) | exact eG.zero) (by omega)) (λa k ha=> ?_)
 | refine av.ite ?_ ?_)
theorem Gy (h:dX n p)(ht:∀k,rg (tk L k).n/\eQ (tk L k).s)(hn:n<=200000):∀k,av (eU L p k) au.ok:=by
 intro k;unfold eU
 repeat' (first
 | exact av.fail
 | exact av.yes (by assumption)
 | exact av.yes (dW (by first | exact e_ | exact(ht _).1 | exact dC _) (by first | exact bI | exact(ht _).2 | assumption | (show _<_;decide)) (by first | exact ai.nil (m:=0) | assumption | exact ai.three (by assumption) (by assumption) (by assumption) | exact ai.two (by assumption) (by assumption) | exact ai.one (by assumption)) (by omega) (by first | exact ai.nil (m:=0) | assumption | exact ai.three (by assumption) (by assumption) (by assumption) | exact ai.two (by assumption) (by assumption) | exact ai.one (by assumption)) (by omega) (by first | exact ai.nil (m:=0) | assumption | exact ai.three (by assumption) (by assumption) (by assumption) | exact ai.two (by assumption) (by assumption) | exact ai.one (by assumption)) (by omega))
 | refine av.ba (λk=> ?_)
 | exact h.exp _
 | refine av.bd (h.exp _) (λa k ha=> ?_)
 | exact h.lt _
 | refine av.bd (h.lt _) (λa k ha=> ?_)
 | exact o0 h ht hn _ _ _ _ (by first | exact eG.jo (by assumption) (by assumption) (by assumption) | exact eG.add (by assumption) (by assumption) | exact eG.one (by assumption) | exact eG.zero) (by omega)
 | refine av.bd (o0 h ht hn _ _ _ _ (by first | exact eG.jo (by assumption) (by assumption) (by assumption) | exact eG.add (by assumption) (by assumption) | exact eG.one (by assumption) | exact eG.zero) (by omega)) (λa k ha=> ?_)
 | refine av.ite ?_ ?_)
theorem w8 (h:dX n p)(ht:∀k,rg (tk L k).n/\eQ (tk L k).s)(hn:n<=200000):∀l k m,ai aJ.ok m l->m+(n+1)<=300000->av (oQ L p l k) (ai aJ.ok 300000):=by
 intro l k m hl hm;unfold oQ;refine av.ite (av.yes (hl.mono (by omega))) (av.bd (h.bind _) λd k hd=> ?_);cases d with
 | none=>exact av.fail
 | some d=>exact h.sU _ _ _ (hl.snoc (hd d rfl)) (by omega)
theorem Nk (h:dX n p)(ht:∀k,rg (tk L k).n/\eQ (tk L k).s)(hn:n<=200000):∀k,av (Kh L p k) au.ok:=by
 intro k;unfold Kh
 repeat' (first
 | exact av.fail
 | exact av.yes (by assumption)
 | exact av.yes (dW (by first | exact e_ | exact(ht _).1 | exact dC _) (by first | exact bI | exact(ht _).2 | assumption | (show _<_;decide)) (by first | exact ai.nil (m:=0) | assumption | exact ai.three (by assumption) (by assumption) (by assumption) | exact ai.two (by assumption) (by assumption) | exact ai.one (by assumption)) (by omega) (by first | exact ai.nil (m:=0) | assumption | exact ai.three (by assumption) (by assumption) (by assumption) | exact ai.two (by assumption) (by assumption) | exact ai.one (by assumption)) (by omega) (by first | exact ai.nil (m:=0) | assumption | exact ai.three (by assumption) (by assumption) (by assumption) | exact ai.two (by assumption) (by assumption) | exact ai.one (by assumption)) (by omega))
 | refine av.ba (λk=> ?_)
 | exact h.exp _
 | refine av.bd (h.exp _) (λa k ha=> ?_)
 | exact w8 h ht hn _ _ _ (by first | exact ai.nil (m:=0) | exact ai.snoc (by assumption) (by first | assumption | exact(ht _).2) | exact ai.one (by first | assumption | exact(ht _).2)) (by omega)
 | refine av.bd (w8 h ht hn _ _ _ (by first | exact ai.nil (m:=0) | exact ai.snoc (by assumption) (by first | assumption | exact(ht _).2) | exact ai.one (by first | assumption | exact(ht _).2)) (by omega)) (λa k ha=> ?_)
 | exact o0 h ht hn _ _ _ _ (by first | exact eG.jo (by assumption) (by assumption) (by assumption) | exact eG.add (by assumption) (by assumption) | exact eG.one (by assumption) | exact eG.zero) (by omega)
 | refine av.bd (o0 h ht hn _ _ _ _ (by first | exact eG.jo (by assumption) (by assumption) (by assumption) | exact eG.add (by assumption) (by assumption) | exact eG.one (by assumption) | exact eG.zero) (by omega)) (λa k ha=> ?_)
 | refine av.ite ?_ ?_)
theorem Eo (h:dX n p)(ht:∀k,rg (tk L k).n/\eQ (tk L k).s)(hn:n<=200000):∀k,av (sY L p k) aD.ok:=by
 intro k;unfold sY
 repeat' (first
 | exact av.fail
 | exact av.yes (by assumption)
 | exact av.yes (gE (by first | exact e_ | exact(ht _).1 | exact dC _) (by decide) (ai.one (gE e_ bI (ai.two (by assumption) (by assumption)) (by omega))) (by omega))
 | exact av.yes (gE (by first | exact e_ | exact(ht _).1 | exact dC _) (by first | exact bI | exact(ht _).2 | assumption | (show _<_;decide)) (by first | exact ai.nil (m:=0) | assumption | exact ai.three (by assumption) (by assumption) (by assumption) | exact ai.two (by assumption) (by assumption) | exact ai.one (by assumption)) (by omega))
 | exact h.dA _
 | refine av.bd (h.dA _) (λa k ha=> ?_)
 | refine av.ite ?_ ?_)
theorem KJ (h:dX n p)(ht:∀k,rg (tk L k).n/\eQ (tk L k).s)(hn:n<=200000):∀k,av (sZ L p k) aD.ok:=by
 intro k;unfold sZ
 repeat' (first
 | exact av.fail
 | exact av.yes (by assumption)
 | exact av.yes (gE (by first | exact e_ | exact(ht _).1 | exact dC _) (by decide) (ai.one (gE e_ bI (ai.two (by assumption) (by assumption)) (by omega))) (by omega))
 | exact av.yes (gE (by first | exact e_ | exact(ht _).1 | exact dC _) (by first | exact bI | exact(ht _).2 | assumption | (show _<_;decide)) (by first | exact ai.nil (m:=0) | assumption | exact ai.three (by assumption) (by assumption) (by assumption) | exact ai.two (by assumption) (by assumption) | exact ai.one (by assumption)) (by omega))
 | exact h.pat _
 | refine av.bd (h.pat _) (λa k ha=> ?_)
 | exact Eo h ht hn _
 | refine av.bd (Eo h ht hn _) (λa k ha=> ?_)
 | refine av.ite ?_ ?_)
theorem tn (h:dX n p)(ht:∀k,rg (tk L k).n/\eQ (tk L k).s)(hn:n<=200000):∀l k m,ai aD.ok m l->m+(n+1)<=300000->av (oR L p l k) (ai aD.ok 300000):=by
 intro l k m hl hm;unfold oR
 repeat' (first
 | exact av.fail
 | exact av.yes (ai.mono (ai.nil (m:=0)) (by omega))
 | exact av.yes (ai.mono (ai.one (ht _).2) (by omega))
 | exact av.yes (ai.mono (by assumption) (by omega))
 | exact av.yes (by first | exact ai.nil (m:=0) | assumption | exact ai.three (by assumption) (by assumption) (by assumption) | exact ai.two (by assumption) (by assumption) | exact ai.one (by assumption))
 | exact av.yes (ai.mono (by first | exact ai.nil (m:=0) | assumption | exact ai.three (by assumption) (by assumption) (by assumption) | exact ai.two (by assumption) (by assumption) | exact ai.one (by assumption)) (by omega))
 | exact h.pat _
 | refine av.bd (h.pat _) (λa k ha=> ?_)
 | exact h.pQ _ _ _ (by first | exact ai.nil (m:=0) | exact ai.snoc (by assumption) (by first | assumption | exact(ht _).2) | exact ai.one (by first | assumption | exact(ht _).2)) (by omega)
 | refine av.bd (h.pQ _ _ _ (by first | exact ai.nil (m:=0) | exact ai.snoc (by assumption) (by first | assumption | exact(ht _).2) | exact ai.one (by first | assumption | exact(ht _).2)) (by omega)) (λa k ha=> ?_)
 | refine av.ite ?_ ?_)
theorem Ep (h:dX n p)(ht:∀k,rg (tk L k).n/\eQ (tk L k).s)(hn:n<=200000):∀k,av (dh L p k) aD.ok:=by
 intro k;unfold dh
 repeat' (first
 | exact av.fail
 | exact av.yes (by assumption)
 | exact av.yes (gE (by first | exact e_ | exact(ht _).1 | exact dC _) (by decide) (ai.one (gE e_ bI (ai.two (by assumption) (by assumption)) (by omega))) (by omega))
 | exact av.yes (gE (by first | exact e_ | exact(ht _).1 | exact dC _) (by first | exact bI | exact(ht _).2 | assumption | (show _<_;decide)) (by first | exact ai.nil (m:=0) | assumption | exact ai.three (by assumption) (by assumption) (by assumption) | exact ai.two (by assumption) (by assumption) | exact ai.one (by assumption)) (by omega))
 | refine av.ba (λk=> ?_)
 | refine av.c_ (λj k=> ?_)
 | exact h.pat _
 | refine av.bd (h.pat _) (λa k ha=> ?_)
 | exact tn h ht hn _ _ _ (by first | exact ai.nil (m:=0) | exact ai.snoc (by assumption) (by first | assumption | exact(ht _).2) | exact ai.one (by first | assumption | exact(ht _).2)) (by omega)
 | refine av.bd (tn h ht hn _ _ _ (by first | exact ai.nil (m:=0) | exact ai.snoc (by assumption) (by first | assumption | exact(ht _).2) | exact ai.one (by first | assumption | exact(ht _).2)) (by omega)) (λa k ha=> ?_)
 | refine av.ite ?_ ?_)
theorem tp (h:dX n p)(ht:∀k,rg (tk L k).n/\eQ (tk L k).s)(hn:n<=200000):∀l k m,ai aY.ok m l->m+(n+1)<=300000->av (qY L p l k) (ai aY.ok 300000):=by
 intro l k m hl hm;unfold qY
 repeat' (first
 | exact av.fail
 | exact av.yes (ai.mono (ai.nil (m:=0)) (by omega))
 | exact av.yes (ai.mono (ai.one (ht _).2) (by omega))
 | exact av.yes (ai.mono (by assumption) (by omega))
 | exact av.yes (by first | exact ai.nil (m:=0) | assumption | exact ai.three (by assumption) (by assumption) (by assumption) | exact ai.two (by assumption) (by assumption) | exact ai.one (by assumption))
 | exact av.yes (ai.mono (by first | exact ai.nil (m:=0) | assumption | exact ai.three (by assumption) (by assumption) (by assumption) | exact ai.two (by assumption) (by assumption) | exact ai.one (by assumption)) (by omega))
 | exact h.mB _ _ _ (by first | exact ai.nil (m:=0) | exact ai.snoc (by assumption) (by first | assumption | exact(ht _).2) | exact ai.one (by first | assumption | exact(ht _).2)) (by omega)
 | refine av.bd (h.mB _ _ _ (by first | exact ai.nil (m:=0) | exact ai.snoc (by assumption) (by first | assumption | exact(ht _).2) | exact ai.one (by first | assumption | exact(ht _).2)) (by omega)) (λa k ha=> ?_)
 | exact h.post _
 | refine av.bd (h.post _) (λa k ha=> ?_)
 | refine av.ite ?_ ?_)
theorem Am (h:dX n p)(ht:∀k,rg (tk L k).n/\eQ (tk L k).s)(hn:n<=200000):∀k,av (z4 L p k) aY.ok:=by
 intro k;unfold z4
 repeat' (first
 | exact av.fail
 | exact av.yes (by assumption)
 | exact av.yes (ju (by first | exact bI | exact(ht _).2 | assumption | (show _<_;decide)) (by first | exact ai.nil (m:=0) | assumption | exact ai.three (by assumption) (by assumption) (by assumption) | exact ai.two (by assumption) (by assumption) | exact ai.one (by assumption)) (by omega))
 | exact h.post _
 | refine av.bd (h.post _) (λa k ha=> ?_)
 | exact tp h ht hn _ _ _ (by first | exact ai.nil (m:=0) | exact ai.snoc (by assumption) (by first | assumption | exact(ht _).2) | exact ai.one (by first | assumption | exact(ht _).2)) (by omega)
 | refine av.bd (tp h ht hn _ _ _ (by first | exact ai.nil (m:=0) | exact ai.snoc (by assumption) (by first | assumption | exact(ht _).2) | exact ai.one (by first | assumption | exact(ht _).2)) (by omega)) (λa k ha=> ?_)
 | refine av.ite ?_ ?_)
theorem KK (h:dX n p)(ht:∀k,rg (tk L k).n/\eQ (tk L k).s)(hn:n<=200000):∀k,av (DL L p k) aY.ok:=by
 intro k;unfold DL
 repeat' (first
 | exact av.fail
 | exact av.yes (by assumption)
 | exact av.yes (ju (by first | exact bI | exact(ht _).2 | assumption | (show _<_;decide)) (by first | exact ai.nil (m:=0) | assumption | exact ai.three (by assumption) (by assumption) (by assumption) | exact ai.two (by assumption) (by assumption) | exact ai.one (by assumption)) (by omega))
 | exact h.lB _
 | refine av.bd (h.lB _) (λa k ha=> ?_)
 | exact Am h ht hn _
 | refine av.bd (Am h ht hn _) (λa k ha=> ?_)
 | refine av.ite ?_ ?_)
theorem w9 (h:dX n p)(ht:∀k,rg (tk L k).n/\eQ (tk L k).s)(hn:n<=200000):∀l k m,ai aY.ok m l->m+(n+1)<=300000->av (s9 L p l k) (ai aY.ok 300000):=by
 intro l k m hl hm;unfold s9
 repeat' (first
 | exact av.fail
 | exact av.yes (ai.mono (ai.nil (m:=0)) (by omega))
 | exact av.yes (ai.mono (ai.one (ht _).2) (by omega))
 | exact av.yes (ai.mono (by assumption) (by omega))
 | exact av.yes (by first | exact ai.nil (m:=0) | assumption | exact ai.three (by assumption) (by assumption) (by assumption) | exact ai.two (by assumption) (by assumption) | exact ai.one (by assumption))
 | exact av.yes (ai.mono (by first | exact ai.nil (m:=0) | assumption | exact ai.three (by assumption) (by assumption) (by assumption) | exact ai.two (by assumption) (by assumption) | exact ai.one (by assumption)) (by omega))
 | exact h.lB _
 | refine av.bd (h.lB _) (λa k ha=> ?_)
 | exact h.Ig _ _ _ (by first | exact ai.nil (m:=0) | exact ai.snoc (by assumption) (by first | assumption | exact(ht _).2) | exact ai.one (by first | assumption | exact(ht _).2)) (by omega)
 | refine av.bd (h.Ig _ _ _ (by first | exact ai.nil (m:=0) | exact ai.snoc (by assumption) (by first | assumption | exact(ht _).2) | exact ai.one (by first | assumption | exact(ht _).2)) (by omega)) (λa k ha=> ?_)
 | refine av.ite ?_ ?_)
theorem An (h:dX n p)(ht:∀k,rg (tk L k).n/\eQ (tk L k).s)(hn:n<=200000):∀k,av (z5 L p k) aY.ok:=by
 intro k;unfold z5
 repeat' (first
 | exact av.fail
 | exact av.yes (by assumption)
 | exact av.yes (ju (by first | exact bI | exact(ht _).2 | assumption | (show _<_;decide)) (by first | exact ai.nil (m:=0) | assumption | exact ai.three (by assumption) (by assumption) (by assumption) | exact ai.two (by assumption) (by assumption) | exact ai.one (by assumption)) (by omega))
 | refine av.ba (λk=> ?_)
 | exact h.lB _
 | refine av.bd (h.lB _) (λa k ha=> ?_)
 | exact w9 h ht hn _ _ _ (by first | exact ai.nil (m:=0) | exact ai.snoc (by assumption) (by first | assumption | exact(ht _).2) | exact ai.one (by first | assumption | exact(ht _).2)) (by omega)
 | refine av.bd (w9 h ht hn _ _ _ (by first | exact ai.nil (m:=0) | exact ai.snoc (by assumption) (by first | assumption | exact(ht _).2) | exact ai.one (by first | assumption | exact(ht _).2)) (by omega)) (λa k ha=> ?_)
 | refine av.ite ?_ ?_)
theorem tq (h:dX n p)(ht:∀k,rg (tk L k).n/\eQ (tk L k).s)(hn:n<=200000):∀a k,a.ok->av (mC L p a k) aY.ok:=by
 intro a k ha;unfold mC
 repeat' (first
 | exact av.fail
 | exact av.yes (by assumption)
 | exact av.yes (ju (by first | exact bI | exact(ht _).2 | assumption | (show _<_;decide)) (by first | exact ai.nil (m:=0) | assumption | exact ai.three (by assumption) (by assumption) (by assumption) | exact ai.two (by assumption) (by assumption) | exact ai.one (by assumption)) (by omega))
 | exact h.gT _ _ (by first | assumption | exact ju (by first | exact bI | exact(ht _).2 | assumption | (show _<_;decide)) (by first | exact ai.nil (m:=0) | assumption | exact ai.three (by assumption) (by assumption) (by assumption) | exact ai.two (by assumption) (by assumption) | exact ai.one (by assumption)) (by omega) | exact dW e_ (by first | exact bI | exact(ht _).2 | assumption | (show _<_;decide)) (by first | exact ai.nil (m:=0) | assumption | exact ai.three (by assumption) (by assumption) (by assumption) | exact ai.two (by assumption) (by assumption) | exact ai.one (by assumption)) (by omega) (ai.nil (m:=0)) (by omega) (ai.nil (m:=0)) (by omega))
 | refine av.bd (h.gT _ _ (by first | assumption | exact ju (by first | exact bI | exact(ht _).2 | assumption | (show _<_;decide)) (by first | exact ai.nil (m:=0) | assumption | exact ai.three (by assumption) (by assumption) (by assumption) | exact ai.two (by assumption) (by assumption) | exact ai.one (by assumption)) (by omega) | exact dW e_ (by first | exact bI | exact(ht _).2 | assumption | (show _<_;decide)) (by first | exact ai.nil (m:=0) | assumption | exact ai.three (by assumption) (by assumption) (by assumption) | exact ai.two (by assumption) (by assumption) | exact ai.one (by assumption)) (by omega) (ai.nil (m:=0)) (by omega) (ai.nil (m:=0)) (by omega))) (λa k ha=> ?_)
 | refine av.ite ?_ ?_)
theorem Gz (h:dX n p)(ht:∀k,rg (tk L k).n/\eQ (tk L k).s)(hn:n<=200000):∀k,av (u5 L p k) aY.ok:=by
 intro k;unfold u5
 repeat' (first
 | exact av.fail
 | exact av.yes (by assumption)
 | exact av.yes (ju (by first | exact bI | exact(ht _).2 | assumption | (show _<_;decide)) (by first | exact ai.nil (m:=0) | assumption | exact ai.three (by assumption) (by assumption) (by assumption) | exact ai.two (by assumption) (by assumption) | exact ai.one (by assumption)) (by omega))
 | exact An h ht hn _
 | refine av.bd (An h ht hn _) (λa k ha=> ?_)
 | exact tq h ht hn _ _ (by assumption)
 | refine av.bd (tq h ht hn _ _ (by assumption)) (λa k ha=> ?_)
 | refine av.ite ?_ ?_)
theorem KL (h:dX n p)(ht:∀k,rg (tk L k).n/\eQ (tk L k).s)(hn:n<=200000):∀k,av (DM L p k) dk.ok:=by
 intro k;unfold DM
 repeat' (first
 | exact av.fail
 | exact av.yes (Ej (by first | exact bI | exact(ht _).2 | assumption | (show _<_;decide)) (by first | exact ai.nil (m:=0) | assumption | exact ai.three (by assumption) (by assumption) (by assumption) | exact ai.two (by assumption) (by assumption) | exact ai.one (by assumption)) (by omega))
 | refine av.c_ (λj k=> ?_)
 | exact h.lB _
 | refine av.bd (h.lB _) (λa k ha=> ?_)
 | refine av.ite ?_ ?_)
theorem w_ (h:dX n p)(ht:∀k,rg (tk L k).n/\eQ (tk L k).s)(hn:n<=200000):∀l k m,ai Fn.ok m l->m+(n+1)<=300000->av (oS L p l k) (ai Fn.ok 300000):=by
 intro l k m hl hm;unfold oS
 repeat' (first
 | exact av.fail
 | exact av.yes (ai.mono (ai.nil (m:=0)) (by omega))
 | exact av.yes (ai.mono (ai.one (ht _).2) (by omega))
 | exact av.yes (ai.mono (by assumption) (by omega))
 | exact av.yes (by first | exact ai.nil (m:=0) | assumption | exact ai.three (by assumption) (by assumption) (by assumption) | exact ai.two (by assumption) (by assumption) | exact ai.one (by assumption))
 | exact av.yes (ai.mono (by first | exact ai.nil (m:=0) | assumption | exact ai.three (by assumption) (by assumption) (by assumption) | exact ai.two (by assumption) (by assumption) | exact ai.one (by assumption)) (by omega))
 | exact h.sV _ _ _ (by first | exact ai.nil (m:=0) | exact ai.snoc (by assumption) (by first | assumption | exact(ht _).2) | exact ai.one (by first | assumption | exact(ht _).2)) (by omega)
 | refine av.bd (h.sV _ _ _ (by first | exact ai.nil (m:=0) | exact ai.snoc (by assumption) (by first | assumption | exact(ht _).2) | exact ai.one (by first | assumption | exact(ht _).2)) (by omega)) (λa k ha=> ?_)
 | exact h.fn _
 | refine av.bd (h.fn _) (λa k ha=> ?_)
 | refine av.ite ?_ ?_)
theorem GA (h:dX n p)(ht:∀k,rg (tk L k).n/\eQ (tk L k).s)(hn:n<=200000):∀k,av (lj L p k) Al:=by
 intro k;unfold lj
 repeat' (first
 | exact av.fail
 | exact av.yes (λx e=>by first | (cases e;done) | (cases e;exact w6 (by first | assumption | exact Ek) (by first | assumption | exact IE) (by first | exact ai.nil (m:=0) | assumption | exact ai.three (by assumption) (by assumption) (by assumption) | exact ai.two (by assumption) (by assumption) | exact ai.one (by assumption)) (by omega) (by first | assumption | exact El) (by first | assumption | exact Em)))
 | refine av.ba (λk=> ?_)
 | exact h.exp _
 | refine av.bd (h.exp _) (λa k ha=> ?_)
 | exact h.pat _
 | refine av.bd (h.pat _) (λa k ha=> ?_)
 | exact h.fn _
 | refine av.bd (h.fn _) (λa k ha=> ?_)
 | exact w_ h ht hn _ _ _ (by first | exact ai.nil (m:=0) | exact ai.snoc (by assumption) (by first | assumption | exact(ht _).2) | exact ai.one (by first | assumption | exact(ht _).2)) (by omega)
 | refine av.bd (w_ h ht hn _ _ _ (by first | exact ai.nil (m:=0) | exact ai.snoc (by assumption) (by first | assumption | exact(ht _).2) | exact ai.one (by first | assumption | exact(ht _).2)) (by omega)) (λa k ha=> ?_)
 | refine av.ite ?_ ?_)
theorem xe (h:dX n p)(ht:∀k,rg (tk L k).n/\eQ (tk L k).s)(hn:n<=200000):∀l k m,ai aD.ok m l->m+(n+1)<=300000->av (oT L p l k) (ai aD.ok 300000):=by
 intro l k m hl hm;unfold oT
 repeat' (first
 | exact av.fail
 | exact av.yes (ai.mono (ai.nil (m:=0)) (by omega))
 | exact av.yes (ai.mono (ai.one (ht _).2) (by omega))
 | exact av.yes (ai.mono (by assumption) (by omega))
 | exact av.yes (by first | exact ai.nil (m:=0) | assumption | exact ai.three (by assumption) (by assumption) (by assumption) | exact ai.two (by assumption) (by assumption) | exact ai.one (by assumption))
 | exact av.yes (ai.mono (by first | exact ai.nil (m:=0) | assumption | exact ai.three (by assumption) (by assumption) (by assumption) | exact ai.two (by assumption) (by assumption) | exact ai.one (by assumption)) (by omega))
 | exact h.dA _
 | refine av.bd (h.dA _) (λa k ha=> ?_)
 | exact h.FK _ _ _ (by first | exact ai.nil (m:=0) | exact ai.snoc (by assumption) (by first | assumption | exact(ht _).2) | exact ai.one (by first | assumption | exact(ht _).2)) (by omega)
 | refine av.bd (h.FK _ _ _ (by first | exact ai.nil (m:=0) | exact ai.snoc (by assumption) (by first | assumption | exact(ht _).2) | exact ai.one (by first | assumption | exact(ht _).2)) (by omega)) (λa k ha=> ?_)
 | refine av.ite ?_ ?_)
theorem Nl (h:dX n p)(ht:∀k,rg (tk L k).n/\eQ (tk L k).s)(hn:n<=200000):∀k,av (Ki L p k) Fn.ok:=by
 intro k;unfold Ki
 repeat' (first
 | exact av.fail
 | exact av.yes (Ni (by first | exact bI | exact(ht _).2 | assumption | (show _<_;decide)) (by first | exact ai.nil (m:=0) | assumption | exact ai.three (by assumption) (by assumption) (by assumption) | exact ai.two (by assumption) (by assumption) | exact ai.one (by assumption)) (by omega) (by assumption))
 | refine av.ba (λk=> ?_)
 | refine av.c_ (λj k=> ?_)
 | exact h.exp _
 | refine av.bd (h.exp _) (λa k ha=> ?_)
 | exact h.dA _
 | refine av.bd (h.dA _) (λa k ha=> ?_)
 | exact xe h ht hn _ _ _ (by first | exact ai.nil (m:=0) | exact ai.snoc (by assumption) (by first | assumption | exact(ht _).2) | exact ai.one (by first | assumption | exact(ht _).2)) (by omega)
 | refine av.bd (xe h ht hn _ _ _ (by first | exact ai.nil (m:=0) | exact ai.snoc (by assumption) (by first | assumption | exact(ht _).2) | exact ai.one (by first | assumption | exact(ht _).2)) (by omega)) (λa k ha=> ?_)
 | refine av.ite ?_ ?_)
theorem KM (h:dX n p)(ht:∀k,rg (tk L k).n/\eQ (tk L k).s)(hn:n<=200000):∀k,av (wO L p k) Al:=by
 intro k;unfold wO
 repeat' (first
 | exact av.fail
 | exact av.yes (λx e=>by first | (cases e;done) | (cases e;exact w6 (by first | assumption | exact Ek) (by first | assumption | exact IE) (by first | exact ai.nil (m:=0) | assumption | exact ai.three (by assumption) (by assumption) (by assumption) | exact ai.two (by assumption) (by assumption) | exact ai.one (by assumption)) (by omega) (by first | assumption | exact El) (by first | assumption | exact Em)))
 | exact h.lC _
 | refine av.bd (h.lC _) (λa k ha=> ?_)
 | exact h.bind _
 | refine av.bd (h.bind _) (λa k ha=> ?_)
 | exact h.data _
 | refine av.bd (h.data _) (λa k ha=> ?_)
 | refine av.ite ?_ ?_)
theorem xf (h:dX n p)(ht:∀k,rg (tk L k).n/\eQ (tk L k).s)(hn:n<=200000):∀l k m,ai eQ m l->m+(n+1)<=300000->av (pU L p l k) (ai eQ 300000):=by
 intro l k m hl hm;unfold pU
 repeat' (first
 | exact av.fail
 | exact av.yes (ai.mono (ai.nil (m:=0)) (by omega))
 | exact av.yes (ai.mono (ai.one (ht _).2) (by omega))
 | exact av.yes (ai.mono (by assumption) (by omega))
 | exact av.yes (by first | exact ai.nil (m:=0) | assumption | exact ai.three (by assumption) (by assumption) (by assumption) | exact ai.two (by assumption) (by assumption) | exact ai.one (by assumption))
 | exact av.yes (ai.mono (by first | exact ai.nil (m:=0) | assumption | exact ai.three (by assumption) (by assumption) (by assumption) | exact ai.two (by assumption) (by assumption) | exact ai.one (by assumption)) (by omega))
 | refine av.c_ (λj k=> ?_)
 | exact h.sW _ _ _ (by first | exact ai.nil (m:=0) | exact ai.snoc (by assumption) (by first | assumption | exact(ht _).2) | exact ai.one (by first | assumption | exact(ht _).2)) (by omega)
 | refine av.bd (h.sW _ _ _ (by first | exact ai.nil (m:=0) | exact ai.snoc (by assumption) (by first | assumption | exact(ht _).2) | exact ai.one (by first | assumption | exact(ht _).2)) (by omega)) (λa k ha=> ?_)
 | refine av.ite ?_ ?_)
theorem Ao (h:dX n p)(ht:∀k,rg (tk L k).n/\eQ (tk L k).s)(hn:n<=200000):∀k,av (z6 L p k) (ai eQ 300000):=by
 intro k;unfold z6
 repeat' (first
 | exact av.fail
 | exact av.yes (ai.mono (ai.nil (m:=0)) (by omega))
 | exact av.yes (ai.mono (ai.one (ht _).2) (by omega))
 | exact av.yes (ai.mono (by assumption) (by omega))
 | exact av.yes (by first | exact ai.nil (m:=0) | assumption | exact ai.three (by assumption) (by assumption) (by assumption) | exact ai.two (by assumption) (by assumption) | exact ai.one (by assumption))
 | exact av.yes (ai.mono (by first | exact ai.nil (m:=0) | assumption | exact ai.three (by assumption) (by assumption) (by assumption) | exact ai.two (by assumption) (by assumption) | exact ai.one (by assumption)) (by omega))
 | refine av.ba (λk=> ?_)
 | refine av.c_ (λj k=> ?_)
 | exact xf h ht hn _ _ _ (by first | exact ai.nil (m:=0) | exact ai.snoc (by assumption) (by first | assumption | exact(ht _).2) | exact ai.one (by first | assumption | exact(ht _).2)) (by omega)
 | refine av.bd (xf h ht hn _ _ _ (by first | exact ai.nil (m:=0) | exact ai.snoc (by assumption) (by first | assumption | exact(ht _).2) | exact ai.one (by first | assumption | exact(ht _).2)) (by omega)) (λa k ha=> ?_)
 | refine av.ite ?_ ?_)
theorem tt (h:dX n p)(ht:∀k,rg (tk L k).n/\eQ (tk L k).s)(hn:n<=200000):∀l k m,ai dk.ok m l->m+(n+1)<=300000->av (jq L p l k) (ai dk.ok 300000):=by
 intro l k m hl hm;unfold jq
 repeat' (first
 | exact av.fail
 | exact av.yes (ai.mono (ai.nil (m:=0)) (by omega))
 | exact av.yes (ai.mono (ai.one (ht _).2) (by omega))
 | exact av.yes (ai.mono (by assumption) (by omega))
 | exact av.yes (by first | exact ai.nil (m:=0) | assumption | exact ai.three (by assumption) (by assumption) (by assumption) | exact ai.two (by assumption) (by assumption) | exact ai.one (by assumption))
 | exact av.yes (ai.mono (by first | exact ai.nil (m:=0) | assumption | exact ai.three (by assumption) (by assumption) (by assumption) | exact ai.two (by assumption) (by assumption) | exact ai.one (by assumption)) (by omega))
 | exact h.lC _
 | refine av.bd (h.lC _) (λa k ha=> ?_)
 | exact h.u4 _ _ _ (by first | exact ai.nil (m:=0) | exact ai.snoc (by assumption) (by first | assumption | exact(ht _).2) | exact ai.one (by first | assumption | exact(ht _).2)) (by omega)
 | refine av.bd (h.u4 _ _ _ (by first | exact ai.nil (m:=0) | exact ai.snoc (by assumption) (by first | assumption | exact(ht _).2) | exact ai.one (by first | assumption | exact(ht _).2)) (by omega)) (λa k ha=> ?_)
 | refine av.ite ?_ ?_)
theorem GB (h:dX n p)(ht:∀k,rg (tk L k).n/\eQ (tk L k).s)(hn:n<=200000):∀k,av (u6 L p k) Data.ok:=by
 intro k;unfold u6
 repeat' (first
 | exact av.fail
 | exact av.yes (Ak (by first | exact ai.nil (m:=0) | assumption | exact ai.three (by assumption) (by assumption) (by assumption) | exact ai.two (by assumption) (by assumption) | exact ai.one (by assumption)) (by omega) (by first | exact bI | exact(ht _).2 | assumption | (show _<_;decide)) (by first | exact ai.nil (m:=0) | assumption | exact ai.three (by assumption) (by assumption) (by assumption) | exact ai.two (by assumption) (by assumption) | exact ai.one (by assumption)) (by omega))
 | refine av.ba (λk=> ?_)
 | refine av.c_ (λj k=> ?_)
 | exact h.lC _
 | refine av.bd (h.lC _) (λa k ha=> ?_)
 | exact Ao h ht hn _
 | refine av.bd (Ao h ht hn _) (λa k ha=> ?_)
 | exact tt h ht hn _ _ _ (by first | exact ai.nil (m:=0) | exact ai.snoc (by assumption) (by first | assumption | exact(ht _).2) | exact ai.one (by first | assumption | exact(ht _).2)) (by omega)
 | refine av.bd (tt h ht hn _ _ _ (by first | exact ai.nil (m:=0) | exact ai.snoc (by assumption) (by first | assumption | exact(ht _).2) | exact ai.one (by first | assumption | exact(ht _).2)) (by omega)) (λa k ha=> ?_)
 | refine av.ite ?_ ?_)
theorem GC (h:dX n p)(ht:∀k,rg (tk L k).n/\eQ (tk L k).s)(hn:n<=200000):∀l k m,ai aJ.ok m l->m+(n+1)<=300000->av (lk L p l k) (ai aJ.ok 300000):=by
 intro l k m hl hm;unfold lk;refine av.ite (av.yes (hl.mono (by omega))) (av.bd (h.dec _) λd k hd=> ?_);cases d with
 | none=>exact av.bd (h.exp _) λe k he=>h.er _ _ _ (hl.snoc (w6 Ek he (ai.nil (m:=0)) (by omega) El Em)) (by omega)
 | some d=>exact h.er _ _ _ (hl.snoc (hd d rfl)) (by omega)
theorem KN (ht:oZ L):∀n,n<=200000->dX n (ps L n)
 | 0,_=>by constructor<;>intros<;>exact av.none
 | n+1,hn=>by
   have h:=KN ht n (by omega);have ht:=ht.tk;have hn:n<=200000:=by omega
   exact {
    exp:=KG (L:=L) h ht hn
    oO:=KH (L:=L) h ht hn
    bin:=KI (L:=L) h ht hn
    u2:=En (L:=L) h ht hn
    un:=Nj (L:=L) h ht hn
    u3:=w7 (L:=L) h ht hn
    atom:=Gy (L:=L) h ht hn
    dO:=o0 (L:=L) h ht hn
    lt:=Nk (L:=L) h ht hn
    sU:=w8 (L:=L) h ht hn
    pat:=KJ (L:=L) h ht hn
    dA:=Ep (L:=L) h ht hn
    pQ:=tn (L:=L) h ht hn
    lB:=KK (L:=L) h ht hn
    mB:=tp (L:=L) h ht hn
    post:=Gz (L:=L) h ht hn
    Ig:=w9 (L:=L) h ht hn
    gT:=tq (L:=L) h ht hn
    lC:=KL (L:=L) h ht hn
    bind:=GA (L:=L) h ht hn
    sV:=w_ (L:=L) h ht hn
    fn:=Nl (L:=L) h ht hn
    FK:=xe (L:=L) h ht hn
    dec:=KM (L:=L) h ht hn
    data:=GB (L:=L) h ht hn
    sW:=xf (L:=L) h ht hn
    u4:=tt (L:=L) h ht hn
    er:=GC (L:=L) h ht hn }
end
section
variable {nx0 nx nx' bp k:Nat}{H0 H H':T OB}{F A B G G':List Bx}{R:Go.Ev.Out->T OB->Nat->Prop}{b:Nat}{l:List Value}{e t:TypeId}{L:List Tok}
def Bl:iB (List aJ)->List aJ×Int×Int
 | .bad a=>([],a,80)
 | .ok ds _=>if 100<iN ds 0 then([],0,81)else(ds,0,0)
def mP (L:List Tok)(o:iB (List aJ)):List aJ×Int×Int:=if L.all eO=true then Bl o else([],0,110)
def DV (ds:List aJ)(v:Value):Prop:=v=cU ds\/(ds=[]/\v=aq)
abbrev GD (r:List aJ×Int×Int):Go.Ev.Out->T OB->Nat->Prop:=λq _ _=>∃v,q= .ret (.tuple ⟨[v,i64 r.2.1,i64 r.2.2]⟩)/\DV r.1 v
theorem Er {i:Nat}{t:Tok}(hg:L[i]? = some t)(hp:(L.take i).all eO=true)(ht:eO t=true):(L.take (i+1)).all eO=true:=by
 rw[List.take_add_one,hg,List.all_append,hp];simp[ht]
theorem Ap {i:Nat}{t:Tok}(hg:L[i]? = some t)(ht:eO t=false):¬L.all eO=true:=λq=>by
 have:=List.all_eq_true.1 q t (List.mem_of_getElem? hg);rw[ht]at this;cases this
theorem OL {u:Value}:∃H',iV H nx e (some u)= .val (ptr nx) H' (nx+1)/\cK H' nx u.cells.toList e/\Ag nx H (nx+1) H'/\∀b l e,b<nx->cK H b l e->cK H' b l e:=by
 obtain⟨o,H',nx',hA,⟨h1,h2,h3,h4⟩,hr⟩:=Wq.box (P:=P) (pl:=pl) (X:=X0) (R:=λo H2 nx2=>o= .ret (ptr nx)/\nx2=nx+1/\cK H2 nx u.cells.toList e/\∀b l e,b<nx->cK H b l e->cK H2 b l e) (k:=λv H nx=> .ret ⟨.ret v,false,H,nx⟩) (u:=u) (e:=e) (Ag.refl nx H) λH' hb cX hA=>Wq.kj hA ⟨rfl,rfl,hb,cX⟩;cases he:iV H nx e (some u)with
 | val v H1 aI=>
   rw[he]at hr;have hr:some (⟨.ret v,false,H1,aI⟩:Rt)=some ⟨o,false,H',nx'⟩:=hr;cases hr;cases h1;subst h2;exact⟨_,rfl,h3,hA,h4⟩
 | _=>rw[he]at hr;cases hr
theorem Es {x:dG}{v:Value}{k:Value->T OB->Nat->Q}(h:x= .val v H nx):bf x k=k v H nx:=by rw[h];rfl
def OM (x0:Value)(H:T OB)(nx:Nat):Q:=bf (bL P H nx 23) (λx1 H nx=>bf (bL P H nx 3) (λx2 H nx=>bf (bL P H nx 24) (λx3 H nx=>af (bJ P #[35] 3 (some [x0])) (λx4=> .jump (uL x0 x1 x2 x3 x0 x4 (.int .i64 0) H nx)) .bad)))
theorem ON (a0:Value)(H:T OB)(nx:Nat):aV P pl (.call 13 [a0] false none H nx)=j6 P 35 a0 H nx OM:=Pe a0 H nx
theorem Nm (v:Value)(hv:ah v=true):aO P 79 (some [(0,gU L)])=some (.agg ⟨[gU L,i64 0]⟩):=aL (z:=[aq,i64 0]) (by kernel_rfl) (by kernel_rfl)
theorem Pa (hL:L.length<=100000)(hT:oZ L){n:Nat}(hn:n<=90000){o:iB (List aJ)}(ho:(ps L n).er [] 0=some o){x1 x2 x3:Nat}:∀(d i nx:Nat) (H:Go.Ev.T OB),i+d=L.length->(L.take i).all eO=true->Hp nx0 H0 [(x1,[aq],23),(x2,[i64 0],3),(x3,[i64 0],24)] H nx->
 ay P pl X0 (.jump (uL (gU L) (ptr x1) (ptr x2) (ptr x3) (gU L) (i64 (L.length:Int)) (i64 ((i:Nat):Int)) H nx)) nx0 H0 (GD (mP L o))
 | d+1,i,nx,H,hd,hp,h=>by
   have hlt:i<L.length:=by omega
   have hg:L[i]? = some L[i]:=List.getElem?_eq_getElem hlt;have hx:(L.map Tok.v)[i]? = some L[i].v:=by simp[hg]
   refine Wq.jmp (HJ ..) (λ_=>rfl) ?_;simp only[ab,bh hlt,HD hx];refine Hq.var dR fN rfl rfl rfl h λH1 aI h1=> ?_;refine Hq.qT (Mk L[i] (by have:=(hT _ (List.mem_of_getElem? hg)).2;have h9:L[i].s.length<_:=this;omega)) h1 λH2 nx2 h2=> ?_;cases ht:eO L[i]with
   | false=>
     simp only[ab,Bool.not_false];refine Hq.put [] h2 qM rfl rfl (by simp) rfl λH3 h3=> ?_;refine Hq.put [_] h3 jJ rfl rfl (by simp) rfl λH4 h4=> ?_;refine Hq.put [_,_] h4 zB rfl rfl (by simp) rfl λH5 h5=> ?_;simp only[ab,ak (off:=0) (u:=aq) (h5.at_ 0 rfl) kl rfl,ak (off:=0) (u:=i64 0) (h5.at_ 1 rfl) qL rfl,ak (off:=0) (u:=i64 110) (h5.at_ 2 rfl) rW rfl];refine Wq.kj h5.ag ⟨aq,?_,?_⟩
     . unfold mP;rw[if_neg (Ap hg ht)]
     . unfold mP;rw[if_neg (Ap hg ht)];exact .inr ⟨rfl,rfl⟩
   | true=>
     simp only[ab,Bool.not_true,aB (i:=i) (by omega)];exact Pa hL hT hn ho d (i+1) nx2 H2 (by omega) (Er hg hp ht) h2
 | 0,i,nx,H,hd,hp,h=>by
   have hall:L.all eO=true:=by rwa[List.take_of_length_le (by omega)]at hp
   have hout:mP L o=Bl o:=by unfold mP;rw[if_pos hall]
   rw[hout];refine Wq.jmp (HJ ..) (λ_=>rfl) ?_;have hge:i=L.length:=by omega
   subst hge;simp only[ab,bc,Nm (L:=L) aq rfl];obtain⟨H1,eb,hb,hA1,cX⟩:=OL (H:=H) (nx:=nx) (e:=79) (u:= .agg ⟨[gU L,i64 0]⟩);rw[Es eb];have h2:Hp nx H (bP nx L 0::[]) H1 (nx+1):=⟨h.sQ.ag h.ag,hA1,by simp,λx hx=>by
    rw[List.mem_singleton]at hx;subst hx;exact⟨Nat.le_refl _,Nat.lt_succ_self _,hb⟩⟩
   refine Wq.fM rfl (ay.base h.ag (OK hL hn nx (nx+1) H H1 nx [] 0 o ho h2)) (λu H3 nx3 hA he=> ?_) (λu H3 nx3 hA he=> ?_)
   . have h4:=h.cX hA he.2.1 λb l e hb hi=>hi.ag he.2 hb;replace he:=he.1;cases o with
     | bad a=>cases he
     | ok ds k=>
       obtain⟨e1,h3⟩:=he;cases e1;have hok:=(KN hT n (by omega)).er [] 0 0 ai.nil (by omega) ds k ho;refine Hq.put [] h4 qM rfl rfl (by simp) rfl λH5 h5=> ?_;simp only[ab,ak (off:=0) (u:=cU ds) (h5.at_ 0 rfl) kl rfl];refine Hq.call (H_ ds (hok.ee (by omega)) hok.2) h5 λH6 nx6 h6=> ?_;simp only[ab];refine Wq.ite (λhi=> ?_) (λhi=> ?_)
       . refine Hq.put [] h6 qM rfl rfl (by simp) rfl λH7 h7=> ?_;refine Hq.put [_] h7 jJ rfl rfl (by simp) rfl λH8 h8=> ?_;refine Hq.put [_,_] h8 zB rfl rfl (by simp) rfl λH9 h9=> ?_;refine Aj ?_;refine ay.cast (q':=af (aj P H9 23 (some (ptr x1))) (λa=>af (aj P H9 3 (some (ptr x2))) (λb=>af (aj P H9 24 (some (ptr x3))) (λc=> .ret ⟨.ret (.tuple ⟨[a,b,c]⟩),false,H9,nx6⟩) .bad) .bad) .bad) (by kernel_rfl) ?_;simp only[ab,ak (off:=0) (u:=aq) (h9.at_ 0 rfl) kl rfl,ak (off:=0) (u:=i64 0) (h9.at_ 1 rfl) qL rfl,ak (off:=0) (u:=i64 81) (h9.at_ 2 rfl) rW rfl];have e9:Bl (.ok ds k)=([],0,81):=by
          show(if _ then _ else _)=_;rw[if_pos hi]
         rw[e9];exact Wq.kj h9.ag ⟨aq,rfl,.inr ⟨rfl,rfl⟩⟩
       . simp only[ab,ak (off:=0) (u:=cU ds) (h6.at_ 0 rfl) kl rfl];refine Hq.put [] h6 qM rfl rfl (by simp) rfl λH7 h7=> ?_;refine Hq.put [_] h7 jJ rfl rfl (by simp) rfl λH8 h8=> ?_;refine Hq.put [_,_] h8 zB rfl rfl (by simp) rfl λH9 h9=> ?_;refine Aj ?_;refine ay.cast (q':=af (aj P H9 23 (some (ptr x1))) (λa=>af (aj P H9 3 (some (ptr x2))) (λb=>af (aj P H9 24 (some (ptr x3))) (λc=> .ret ⟨.ret (.tuple ⟨[a,b,c]⟩),false,H9,nx6⟩) .bad) .bad) .bad) (by kernel_rfl) ?_;simp only[ab,ak (off:=0) (u:=cU ds) (h9.at_ 0 rfl) kl rfl,ak (off:=0) (u:=i64 0) (h9.at_ 1 rfl) qL rfl,ak (off:=0) (u:=i64 0) (h9.at_ 2 rfl) rW rfl];have e9:Bl (.ok ds k)=(ds,0,0):=by
          show(if _ then _ else _)=_;rw[if_neg hi]
         rw[e9];exact Wq.kj h9.ag ⟨cU ds,rfl,.inl rfl⟩
   . have h4:=h.cX hA he.2.1 λb l e hb hi=>hi.ag he.2 hb;replace he:=he.1;cases o with
     | ok a k'=>cases he.1
     | bad a=>
       cases he;refine Gx h4 λH9 nx9 h9=> ?_;refine ay.cast (q':=af (aj P H9 23 (some (ptr x1))) (λa=>af (aj P H9 3 (some (ptr x2))) (λb=>af (aj P H9 24 (some (ptr x3))) (λc=> .ret ⟨.ret (.tuple ⟨[a,b,c]⟩),false,H9,nx9⟩) .bad) .bad) .bad) (by kernel_rfl) ?_;simp only[ab,ak (off:=0) (u:=aq) (h9.at_ 0 rfl) kl rfl,ak (off:=0) (u:=i64 a) (h9.at_ 1 rfl) qL rfl,ak (off:=0) (u:=i64 80) (h9.at_ 2 rfl) rW rfl];exact Wq.kj h9.ag ⟨aq,rfl,.inr ⟨rfl,rfl⟩⟩
theorem Qf (hT0:dS nx H)(hL:L.length<=100000)(hT:oZ L){n:Nat}(hn:n<=90000){o:iB (List aJ)}(ho:(ps L n).er [] 0=some o):ay P pl X0 (OM (gU L) H nx) nx H (GD (mP L o)):=by
 unfold OM;refine Wq.alloc Fo (Ag.refl nx H) λH1 hb cX hA=> ?_;have h0:Hp nx H [] H nx:=⟨hT0,Ag.refl nx H,by simp,λx hx=>by simp at hx⟩;have h1:Hp nx H [(nx,[aq],23)] H1 (nx+1):=h0.new hb cX hA;refine Hq.alloc Je h1 λx2 H2 nx2 h2=> ?_;refine Hq.alloc Fp h2 λx3 H3 nx3 h3=> ?_;simp only[ab,List.length_map];exact Pa hL hT hn ho L.length 0 nx3 H3 (by omega) rfl (Hp.swap' h3)
end
section
variable {nx0:Nat}{H0:T OB}
def dv (c:UInt8):Nat:=c.toNat-48
def jQ:Nat->List UInt8->Option Nat
 | n,[]=>some n
 | n,c::r=>if bA c=true/\n<=(4611686018427387903-dv c)/10 then jQ (n*10+dv c) r else none
theorem gY {c:UInt8}:bA c=true↔48<=c.toNat/\c.toNat<=57:=by unfold bA;simp
theorem Qg {c:UInt8}(h:bA c=true):IntKind.u8.wrap ((c.toNat:Int)-48)=(dv c:Int):=by
 rw[gY]at h;rw[wrap_u8];unfold dv;omega
theorem IF {c:UInt8}(h:bA c=true):dv c<=9:=by
 rw[gY]at h;unfold dv;omega
def dN (c:UInt8):Int:=if bA c=true then(c.toNat:Int)-48 else if(decide (65<=c.toNat)&&decide (c.toNat<=70))=true then(c.toNat:Int)-55 else -1
theorem Aq (c:UInt8): -1<=dN c/\dN c<16:=by
 unfold dN;split
 . rename_i h;rw[gY]at h;omega
 . split
   . rename_i h h2;simp only[Bool.and_eq_true,decide_eq_true_eq]at h2;omega
   . omega
def Et:List UInt8->UInt8×Nat
 | y::z::_=>if 0<=dN y/\0<=dN z then(UInt8.ofNat (16*dN y+dN z).toNat,4)else(0,0)
 | _=>(0,0)
def kB:List UInt8->UInt8×Nat
 | []=>(0,0)
 | x::t=>if x.toNat=34 then(34,2)else if x.toNat=92 then(92,2)else if x.toNat=110 then(10,2)else if x.toNat=116 then(9,2)else if x.toNat=120 then Et t else(0,0)
def fc:List UInt8->UInt8×Nat
 | []=>(0,0)
 | a::t=>if a.toNat<32\/126<a.toNat\/a.toNat=34 then(0,0)else if a.toNat=92 then kB t else(a,1)
theorem eA (x:UInt8)(t:List UInt8):kB (x::t)=if x.toNat=34 then(34,2)else if x.toNat=92 then(92,2)else if x.toNat=110 then(10,2)else if x.toNat=116 then(9,2)else if x.toNat=120 then Et t else(0,0):=rfl
theorem jH (a:UInt8)(t:List UInt8):fc (a::t)=if a.toNat<32\/126<a.toNat\/a.toNat=34 then(0,0)else if a.toNat=92 then kB t else(a,1):=rfl
theorem Ar (s:List UInt8):(fc s).2<=s.length:=by
 cases s with
 | nil=>exact Nat.zero_le _
 | cons a t=>
   rw[jH]
   by_cases h1:a.toNat<32\/126<a.toNat\/a.toNat=34
   . rw[if_pos h1];exact Nat.zero_le _
   rw[if_neg h1]
   by_cases h2:a.toNat=92
   . rw[if_pos h2];cases t with
     | nil=>exact Nat.zero_le _
     | cons x t=>
       rw[eA];have h22:2<=(a::x::t).length:=by simp
       by_cases h3:x.toNat=34
       . rw[if_pos h3];exact h22
       rw[if_neg h3]
       by_cases h3:x.toNat=92
       . rw[if_pos h3];exact h22
       rw[if_neg h3]
       by_cases h3:x.toNat=110
       . rw[if_pos h3];exact h22
       rw[if_neg h3]
       by_cases h3:x.toNat=116
       . rw[if_pos h3];exact h22
       rw[if_neg h3]
       by_cases h3:x.toNat=120
       . rw[if_pos h3]
         match t with
         | []=>exact Nat.zero_le _
         | [_]=>exact Nat.zero_le _
         | y::z::r=>
           show(if 0<=dN y/\0<=dN z then _ else _:UInt8×Nat).2<=_
           by_cases h4:0<=dN y/\0<=dN z
           . rw[if_pos h4];show 4<=(a::x::y::z::r).length;simp
           . rw[if_neg h4];exact Nat.zero_le _
       . rw[if_neg h3];exact Nat.zero_le _
   . rw[if_neg h2];show 1<=(a::t).length;simp
end
end
end Go.Proofs.YthjhonhhbddhkaaDoor
namespace Go.Proofs.YthjhonhhbddhkaaDoor
open Go.Ev Go.RowKit Go.ChangeShapes Go.WideShapes Go.ChangeAt
noncomputable section
set_option maxRecDepth 100000
set_option linter.unusedVariables false
set_option linter.unusedSimpArgs false
set_option maxHeartbeats 8000000
section
variable {H:Type}{enc:TypeId×Value->H}{W:World}{sp:Nat->Bool}{held:Bool}
theorem c2:P.cellsOf 2=1:=by kernel_rfl
theorem c9:P.cellsOf 9=1:=by kernel_rfl
theorem IG {n:Int}(h:(Lit.int .i64 n).wf=true):rg n:=by
 have:IntKind.i64.min= -9223372036854775808:=by decide
 have:IntKind.i64.max=9223372036854775807:=by decide
 simp only[Lit.wf,Bool.and_eq_true,decide_eq_true_eq]at h;unfold rg;omega
theorem Qh {φ:bO}(s:ByteArray):VR φ (ar s.data.toList) (.string s):=by
 have es:ar s.data.toList= .string s:=by cases s;rfl
 rw[es];exact .flat _ rfl
end
section
variable {W:World}
theorem xg {r:Option Rt}(h:isTrue r=true):∃H nx,r=some ⟨.ret (.bool true),false,H,nx⟩:=by
 unfold isTrue at h;split at h
 . exact⟨_,_,rfl⟩
 . cases h
theorem Eu (w:World):uz P w (λ_ _=>none):=λf args v h=>by cases h
theorem gZ:P.globals.size=4:=by kernel_rfl
structure mD (w:World):Prop where
 size:P.globals.size<=w.heap.size
 sQ:∀x,x∈fD->x.1<P.globals.size/\∃c el fz,w.heap[x.1]? = some (.cells c el fz)/\x.2.length<=c.size/\∀(i:Nat) (v v':Value),x.2[i]? = some v->c[i]? = some v'->VR (gu w) v v'
theorem GF {w w':World}(hb:Below w.heap.size w w'):(gu w).le (gu w'):=λk e h=>by
 obtain⟨h1,rfl⟩:=jj h;have:ji w' k=ji w k:=by
  unfold ji;rw[hb.block k h1]
 rw[sP (Nat.lt_of_lt_of_le h1 hb.size),this]
theorem mD.below {w:World}(h:mD W)(hb:Below W.heap.size W w):mD w where
 size:=Nat.le_trans h.size hb.size
 sQ:=λx hx=>by
  obtain⟨h0,c,el,fz,h1,h2,h3⟩:=h.sQ x hx;exact⟨h0,c,el,fz,by rw[hb.block _ (Nat.lt_of_lt_of_le h0 h.size)];exact h1,h2,λi v v' a b=>(h3 i v v' a b).mono (GF hb)⟩
theorem Nn {w:World}(ht:mD w):HR P w (gu w) (hp (j0 fD .leaf)) w:=by
 have inv:∀k ob,hp (j0 fD .leaf) k=some ob->∃x∈fD,x.1=k/\ob= .ro x.2.length (dw x.2 0 .leaf):=λk ob h=>by
  rcases oI fD .leaf k ob h with h | h
  . exact h
  . rw[iy]at h;cases h
 have hW:=N9 (P:=P) ht.size;exact {
  below:= .refl _ _
  mg:=λk ob h=>by
   obtain⟨x,hx,rfl,_⟩:=inv k ob h;rw[my];exact Nat.lt_of_lt_of_le (ht.sQ x hx).1 ht.size
  lz:=hW.lz
  inj:=λk k' ob ob' e e' _ _ h _ hl=>by
   obtain⟨x,hx,rfl,rfl⟩:=inv k ob h;cases hl
  obj:=λk ob e h he=>by
   obtain⟨x,hx,rfl,rfl⟩:=inv k ob h;obtain⟨h0,c,el,fz,h1,h2,h3⟩:=ht.sQ x hx;obtain⟨h4,rfl⟩:=jj he;refine .inl ⟨h4,c,el,fz,h1,h2,λi hi v hv=> ?_⟩;rw[cB,if_pos (by omega),Nat.sub_zero]at hv;have hlt:i<c.size:=by omega
   exact⟨c[i],Array.getElem?_eq_getElem hlt,h3 i v _ hv (Array.getElem?_eq_getElem hlt)⟩
  gl:=hW.gl
  jV:=hW.jV
  nK:=λk k' e e' c ob _ _ _ h hl=>by
   obtain⟨x,hx,rfl,rfl⟩:=inv k' ob h;cases hl }
theorem Bm {n:Nat}(hn:4<=n):dS n (j0 fD .leaf):=by
 refine⟨hn,λx hx=> ?_⟩;have key:∀(l:List Value) (i:Nat),i<l.length->(dw l 0 (.leaf:T Value)).get (Ev.bits i)=l[i]? := λl i hi=>by
  rw[cB,if_pos (by omega),Nat.sub_zero]
 have e:∀(b:Nat),(j0 fD .leaf).get (Ev.bits b)=if b=3 then some (.ro (aC.map lvl).length (dw (aC.map lvl) 0 .leaf))else if b=2 then some (.ro (dt.map ar).length (dw (dt.map ar) 0 .leaf))else if b=1 then some (.ro (j3.map ar).length (dw (j3.map ar) 0 .leaf))else if b=0 then some (.ro (bB.map ar).length (dw (bB.map ar) 0 .leaf))else none:=λb=>by
  show(Ev.set (Ev.set (Ev.set (Ev.set (.leaf:T OB) (Ev.bits 0) _) (Ev.bits 1) _) (Ev.bits 2) _) (Ev.bits 3) _).get (Ev.bits b)=_;rw[Ev.get_at,Ev.get_at,Ev.get_at,Ev.get_at];have:(T.leaf:T OB).get (Ev.bits b)=none:=iy b;rw[this]
 simp only[fD,List.mem_cons,List.not_mem_nil,or_false]at hx;rcases hx with rfl | rfl | rfl | rfl
 . exact⟨_,by rw[e];rfl,key _⟩
 . exact⟨_,by rw[e];rfl,key _⟩
 . exact⟨_,by rw[e];rfl,key _⟩
 . exact⟨_,by rw[e];rfl,key _⟩
theorem GG {w:World}{l:List (List UInt8)}{v':Value}(hl:l≠[])(h:VR (gu w) (lvl l) v'):∃k,k<w.heap.size/\∀(φ:bO) (j:Nat),φ[j]? = some (some ⟨k,0,0,ji w k⟩)->VR φ (lvl l) v':=by
 obtain⟨a0,r0,rfl⟩:∃a r,l=a::r:=by
  cases l with
  | nil=>exact absurd rfl hl
  | cons a r=>exact⟨a,r,rfl⟩
 have hl':(a0::r0).map ar≠[]:=by simp
 have key:∀x,x=lvl (a0::r0)->VR (gu w) x v'->∃k,k<w.heap.size/\∀(φ:bO) (j:Nat),φ[j]? = some (some ⟨k,0,0,ji w k⟩)->VR φ (lvl (a0::r0)) v':=by
  intro x hx h;cases h with
  | flat v h=>subst hx;cases h
  | pf s=>injection hx with _ h1 _;injection h1 with h1;exact absurd h1.symm hl'
  | nI s a c=>injection hx with _ h1 _;injection h1 with h1;exact absurd h1.symm hl'
  | row h1 hf hs hn hc hx'=>
    injection hx with h2 h3 _
    injection h2 with h2
    injection h3 with h3
    subst h2 h3;obtain⟨hk,rfl⟩:=jj h1;refine⟨_,hk,λφ j hj=>VR.row (o:=_) hj hf hs hn hc λi j x v v' a b c=> ?_⟩;have h4:=hx' i j x v v' a b c;obtain⟨s,_,rfl⟩:=List.mem_map.1 (List.mem_of_getElem? a);have hfl:Ev.flat v=true:=by
     have:v∈[ar s]:=List.mem_of_getElem? b;rw[List.mem_singleton.1 this];rfl
    rw[h4.al hfl];exact .flat _ hfl
  | ep h1 hf hn hx'=>
    injection hx with _ _ h3
    injection h3 with h3
    injection h3 with h3
    cases h3
  | _=>cases hx
 exact key _ rfl h
def p5 (w:World)(f:Nat->Nat):bO:=(List.range 11).map λk=>if k<4 then some ⟨k,0,0,none⟩else some ⟨f k,0,0,ji w (f k)⟩
theorem mE (w:World)(f:Nat->Nat):(p5 w f).length=11:=by simp[p5]
theorem o4 {w:World}{f:Nat->Nat}{k:Nat}{e:ft}(h:(p5 w f)[k]? = some (some e)):k<11/\((k<4/\e=⟨k,0,0,none⟩)\/(4<=k/\e=⟨f k,0,0,ji w (f k)⟩)):=by
 unfold p5 at h;rw[List.getElem?_map]at h
 by_cases hk:k<11
 . rw[List.getElem?_range hk]at h;simp only[Option.map_some,Option.some.injEq]at h;refine⟨hk,?_⟩
   by_cases h4:k<4
   . rw[if_pos h4]at h;exact .inl ⟨h4,(Option.some.inj h).symm⟩
   . rw[if_neg h4]at h;exact .inr ⟨by omega,(Option.some.inj h).symm⟩
 . rw[List.getElem?_eq_none (by simp;omega)]at h;cases h
theorem GH {w:World}{f:Nat->Nat}{k:Nat}(h:k<4):(p5 w f)[k]? = some (some ⟨k,0,0,none⟩):=by
 unfold p5;rw[List.getElem?_map,List.getElem?_range (by omega)];simp[h]
theorem GI {w:World}{f:Nat->Nat}{k:Nat}(h:4<=k)(h':k<11):(p5 w f)[k]? = some (some ⟨f k,0,0,ji w (f k)⟩):=by
 unfold p5;rw[List.getElem?_map,List.getElem?_range h'];simp only[Option.map_some];rw[if_neg (by omega)]
theorem No {w:World}{k:Nat}{c:Array Value}(h:ji w k=some c):∃el fz,w.heap[k]? = some (.cells c el fz):=by
 unfold ji at h;split at h
 . rename_i c' el fz hc;cases h;exact⟨el,fz,hc⟩
 . cases h
theorem OO {w:World}(ht:mD w):∃f,HR P w (p5 w f) (hp (j0 fD .leaf)) w:=by
 obtain⟨_,c2,el2,fz2,hc2,hs2,hv2⟩:=ht.sQ (3,aC.map lvl) (by simp[fD]);have hlen:(aC.map lvl).length=7:=rfl;have hex:∀i:Fin 7,∃k,k<w.heap.size/\∀(φ:bO) (j:Nat),φ[j]? = some (some ⟨k,0,0,ji w k⟩)->∀v v',(aC.map lvl)[i.val]? = some v->c2[i.val]? = some v'->VR φ v v':=by
  intro i;have hi:i.val<aC.length:=i.isLt;have h1:(aC.map lvl)[i.val]? = some (lvl aC[i.val]):=by rw[List.getElem?_map,List.getElem?_eq_getElem hi];rfl
  have hlt:i.val<c2.size:=by have:=i.isLt;simp only[hlen]at hs2;omega
  have h2:c2[i.val]? = some c2[i.val]:=Array.getElem?_eq_getElem hlt;have hne:aC[i.val]≠[]:=by
   have:∀x∈aC,x≠[]:=by decide
   exact this _ (List.getElem_mem _)
  obtain⟨k,hk,hφ⟩:=GG hne (hv2 i.val _ _ h1 h2);refine⟨k,hk,λφ j hj v v' a b=> ?_⟩;rw[h1]at a;rw[h2]at b;cases a;cases b;exact hφ φ j hj
 obtain⟨A,hA⟩:=Classical.axiomOfChoice hex;refine⟨λk=>A ⟨(k-4)%7,Nat.mod_lt _ (by omega)⟩,?_⟩;have inv:∀k ob,hp (j0 fD .leaf) k=some ob->∃x∈fD,x.1=k/\ob= .ro x.2.length (dw x.2 0 .leaf):=λk ob h=>by
  rcases oI fD .leaf k ob h with h | h
  . exact h
  . rw[iy]at h;cases h
 have hg:=ht.size;rw[gZ]at hg;have h4:∀x,x∈fD->x.1<4:=λx hx=>by have:=(ht.sQ x hx).1;rw[gZ]at this;exact this
 exact {
  below:= .refl _ _
  mg:=λk ob h=>by
   obtain⟨x,hx,rfl,_⟩:=inv k ob h;rw[mE];exact Nat.lt_trans (h4 x hx) (by omega)
  lz:=λk e h=>by
   obtain⟨h1,⟨h2,rfl⟩ | ⟨h2,rfl⟩⟩:=o4 h
   . exact Nat.lt_of_lt_of_le h2 hg
   . exact(hA _).1
  inj:=λk k' ob ob' e e' _ _ h _ hl=>by
   obtain⟨x,hx,rfl,rfl⟩:=inv k ob h;cases hl
  obj:=λk ob e h he=>by
   obtain⟨x,hx,rfl,rfl⟩:=inv k ob h;obtain⟨h0,c,el,fz,h1,h2,h3⟩:=ht.sQ x hx;obtain⟨_,⟨h5,rfl⟩ | ⟨h5,rfl⟩⟩:=o4 he
   . refine .inl ⟨Nat.lt_of_lt_of_le h5 hg,c,el,fz,h1,h2,λi hi v hv=> ?_⟩;rw[cB,if_pos (by omega),Nat.sub_zero]at hv;have hlt:i<c.size:=by omega
     have hci:c[i]? = some c[i]:=Array.getElem?_eq_getElem hlt;refine⟨c[i],hci,?_⟩;have h6:=h3 i v _ hv hci;have flatK:∀l:List (List UInt8),x.2=l.map ar->VR (p5 w λk=>A ⟨(k-4)%7,Nat.mod_lt _ (by omega)⟩) v c[i]:=λl hl=>by
      have hfl:Ev.flat v=true:=by
       rw[hl]at hv;obtain⟨s,_,rfl⟩:=List.mem_map.1 (List.mem_of_getElem? hv);rfl
      rw[h6.al hfl];exact .flat _ hfl
     simp only[fD,List.mem_cons,List.not_mem_nil,or_false]at hx;rcases hx with rfl | rfl | rfl | rfl
     . exact flatK _ rfl
     . exact flatK _ rfl
     . exact flatK _ rfl
     . have hcc:c=c2:=by
        have:=h1.symm.trans hc2;injection this with this
        injection this
       subst hcc;have hi7:i<7:=hi;refine(hA ⟨i,hi7⟩).2 _ (4+i) ?_ v _ hv hci;rw[GI (by omega) (by omega)];have:(4+i-4)%7=i:=by omega
       simp only[this]
   . exact absurd (h4 x hx) (by omega)
  gl:=λk hk=>⟨_,GH (by rw[gZ]at hk;exact hk),rfl⟩
  jV:=λk e c h hf=>by
   obtain⟨_,⟨h5,rfl⟩ | ⟨h5,rfl⟩⟩:=o4 h
   . cases hf
   . exact No hf
  nK:=λk k' e e' c ob _ _ _ h hl=>by
   obtain⟨x,hx,rfl,rfl⟩:=inv k' ob h;cases hl }
theorem OP (hT:mD W):uz P W X0:=by
 intro f args v h;have hf:f=7/\args=[]/\v= .bool true:=by
  have h':(bif Nat.beq f 7 then(match args with | []=>some (Value.bool true) | _=>none)else none)=some v:=h;cases hb:Nat.beq f 7 with
  | true=>
    rw[hb]at h';cases args with
    | nil=>exact⟨Nat.eq_of_beq_eq_true hb,rfl,(Option.some.inj h').symm⟩
    | cons a l=>cases h'
  | false=>
    rw[hb]at h';cases h'
 obtain⟨rfl,rfl,rfl⟩:=hf;refine⟨λx hx=>(nomatch hx),rfl,λw hb=> ?_⟩;have hw:=hT.below hb;have hk:=Bk;rw[zR]at hk;obtain⟨H',nx',hr⟩:=xg hk;obtain⟨f,hf⟩:=OO hw;refine(oe (pl:=O_) (Eu w) hf (mE _ _) .nil rfl (N4 hr)).mono λe w' ⟨he,hb'⟩=>⟨he,hb'⟩
theorem vn {fuel:Nat}{cs:List Value}{l:List (List UInt8)}{p:List MemPlace}(h:DataW.trod (λ_=>()) P W 0 (λ_=>true) false fuel 46 cs=some (.slice (l.map λs=> .lit (.string s)) [],p)):∃v,cs=[v]/\VR (gu W) (lvl l) v:=by
 obtain⟨a,cap,rfl,hcap,hel⟩:=open_row Tryd.underlying46 c9 h;refine⟨_,rfl,?_⟩;rw[List.length_map]at hcap ⊢;refine J0 (by simp) (λx hx=> ?_) (by omega) hcap (λi x hx=> ?_)
 . obtain⟨s,_,rfl⟩:=List.mem_map.1 hx;rfl
 . rw[List.getElem?_map]at hx;cases hs:l[i]? with
   | none=>rw[hs]at hx;cases hx
   | some s=>
     rw[hs]at hx;cases hx;obtain⟨v,n,q,h1,h2⟩:=hel i (.lit (.string s)) (by rw[List.getElem?_map,hs];rfl);obtain⟨z,hz,hq,_⟩:=DataW.trod_string Tryd.underlying9 h2;cases hz;have e:s=z.data.toList:=by
      have:=congrArg Prod.fst hq;simpa using this
     subst e;refine⟨[.string z],?_,?_⟩
     . unfold World.cells?;rw[if_pos (Nat.zero_le _)];have e0:(a.add (i*1)).add 0=a.add i:=by simp[Addr.add]
       simp only[List.range_succ,List.range_zero,List.nil_append,List.mapM_cons,List.mapM_nil,e0,h1];rfl
     . exact .cons (Qh z) .nil
abbrev Np (l:List (List UInt8)):List ByteArray:=l.map λs=>⟨⟨s⟩⟩
theorem GJ (l:List (List UInt8)):(Np l).map Value.string=l.map ar:=by rw[List.map_map];rfl
theorem tu {c:Array Value}{l:List (List UInt8)}(h:c.toList=(Np l).map Value.string):(l.map ar).length<=c.size/\∀(i:Nat) (v v':Value),(l.map ar)[i]? = some v->c[i]? = some v'->VR (gu W) v v':=by
 rw[GJ]at h;refine⟨by rw[<- h,Array.length_toList];exact Nat.le_refl _,λi v v' a b=> ?_⟩;have:c.toList[i]? = some v':=by rw[<- b];simp
 rw[h,a]at this;cases this;obtain⟨s,_,rfl⟩:=List.mem_map.1 (List.mem_of_getElem? a);exact .flat _ rfl
theorem Bn {rest:List (String×DataW Unit)}(h:laidMet P (("kindling/syntax.levels",Rows.laid_kindling_syntax_levels)::rest) W):∃c el fz,W.heap[3]? = some (.cells c el fz)/\(aC.map lvl).length<=c.size/\∀(i:Nat) (v v':Value),(aC.map lvl)[i]? = some v->c[i]? = some v'->VR (gu W) v v':=by
 obtain⟨ps,⟨g',t',cs,fuel,p,q,hg',ht',hvar,hd,_,_⟩,_⟩:=h;obtain rfl:g'=3:=(Option.some.inj ((show P.globalNamed "kindling/syntax.levels" = some 3 by kernel_rfl).symm.trans hg')).symm
 obtain rfl:t'=140:=(Option.some.inj ((show(P.globals[3]?).map (·.type)=some 140 by kernel_rfl).symm.trans ht')).symm;unfold World.var? at hvar;rw[show P.globalNamed "kindling/syntax.levels" = some 3 by kernel_rfl]at hvar
 simp only[Option.bind_some]at hvar;split at hvar
 . rename_i c el fz hb;cases hvar;obtain⟨xs,n,rfl,hx,hl,hlen,hf⟩:=DataW.trod_array Tryd.underlying140 hd;have hcs:P.cellsOf 140=7:=by kernel_rfl
   have hc49:P.cellsOf 46=1:=by kernel_rfl
   rw[hcs]at hl;rw[Array.length_toList]at hl;refine⟨_,_,_,hb,by show 7<=_;omega,λi v v' a b=> ?_⟩;have hi:i<7:=by
    have:=(List.getElem?_eq_some_iff.1 a).1;exact this
   have h1:=hf i hi;have hc49':Program.cellsOf Tryd.prog 46=1:=hc49;rw[hc49',Nat.mul_one,List.getElem?_eq_getElem (by omega)]at h1;have hxs:xs.map (·.1)=aC.map λl=>(DataW.slice (l.map λs=> .lit (.string s)) []:DataW Unit):=by
    have h2:Rows.laid_kindling_syntax_levels=DataW.agg (xs.map (·.1)):=congrArg Prod.fst hx;exact(DataW.agg.inj h2).symm
   obtain⟨l,hl1,hl2⟩:∃l,aC[i]? = some l/\v=lvl l:=by
    rw[List.getElem?_map]at a;cases hq:aC[i]? with
    | none=>rw[hq]at a;cases a
    | some l=>rw[hq]at a;cases a;exact⟨l,rfl,rfl⟩
   have h3:(xs[i]'(by omega)).1=DataW.slice (l.map λs=> .lit (.string s)) []:=by
    have h4:(xs.map (·.1))[i]? = some ((xs[i]'(by omega)).1):=by rw[List.getElem?_map,List.getElem?_eq_getElem (by omega)];rfl
    rw[hxs,List.getElem?_map,hl1]at h4;exact(Option.some.inj h4).symm
   have h5:(cs.toList.drop i).take 1=[v']:=by
    have h6:cs.toList[i]? = some v':=by rw[<- b];simp
    have h7:i<cs.toList.length:=(List.getElem?_eq_some_iff.1 h6).1;rw[List.drop_eq_getElem_cons h7];rw[List.getElem?_eq_getElem h7]at h6;rw[Option.some.inj h6];rfl
   rw[h5]at h1;have h8:DataW.trod (λ_=>()) P W 0 (λ_=>true) false n 46 [v']=some (.slice (l.map λs=> .lit (.string s)) [],(xs[i]'(by omega)).2):=by
    rw[<- h3];exact h1
   obtain⟨v2,e2,h9⟩:=vn h8;cases e2;rw[hl2];exact h9
 . cases hvar
theorem GK (hL:laidMet P [("kindling/lex.keys",Rows.laid_kindling_lex_keys),("kindling/lex.signs",Rows.laid_kindling_lex_signs),("kindling/syntax.levels",Rows.laid_kindling_syntax_levels),("kindling/syntax.words",Rows.laid_kindling_syntax_words)] W)(hsh:W.ShapedOpen P):mD W:=by
 refine⟨Ev.wE hsh (of_decide_eq_true (by kernel_rfl)),λx hx=> ?_⟩;rw[gZ];simp only[fD,List.mem_cons,List.not_mem_nil,or_false]at hx;have hk:laidMet P (("kindling/lex.keys",Ev.jE (Np j3))::[("kindling/lex.signs",Ev.jE (Np bB)),("kindling/syntax.levels",Rows.laid_kindling_syntax_levels),("kindling/syntax.words",Ev.jE (Np dt))]) W:=hL
 rcases hx with rfl | rfl | rfl | rfl
 . obtain⟨c,el,fz,h1,h2⟩:=Ev.jk (g:=0) (by kernel_rfl) (by kernel_rfl) Tryd.underlying103 Tryd.underlying9 (by kernel_rfl) (by kernel_rfl) hk.tail;exact⟨by show 0<4;omega,c,el,fz,h1,tu h2⟩
 . obtain⟨c,el,fz,h1,h2⟩:=Ev.jk (g:=1) (by kernel_rfl) (by kernel_rfl) Tryd.underlying122 Tryd.underlying9 (by kernel_rfl) (by kernel_rfl) hk;exact⟨by show 1<4;omega,c,el,fz,h1,tu h2⟩
 . obtain⟨c,el,fz,h1,h2⟩:=Ev.jk (g:=2) (by kernel_rfl) (by kernel_rfl) Tryd.underlying132 Tryd.underlying9 (by kernel_rfl) (by kernel_rfl) hk.tail.tail.tail;exact⟨by show 2<4;omega,c,el,fz,h1,tu h2⟩
 . obtain⟨c,el,fz,h1,h2⟩:=Bn hk.tail.tail;exact⟨by show 3<4;omega,c,el,fz,h1,h2⟩
theorem KO (hT:mD W){f:FuncId}{args args':List Value}(hp:PT f args (.bool true))(hv:LR (gu W) args args'):
 Calls P f args'.toArray W λe w'=>e= .returned (.bool true)/\Below W.heap.size W w':=by
 have hs:=hT.size;rw[gZ]at hs;obtain⟨H',nx',_,h⟩:=hp (j0 fD .leaf) W.heap.size (Bm hs);exact oe (OP hT) (Nn hT) (my W) hv rfl h
end
end
end Go.Proofs.YthjhonhhbddhkaaDoor
namespace Go.Proofs.YthjhonhhbddhkaaDoor
open Go.Ev Go.RowKit
noncomputable section
set_option maxRecDepth 100000
set_option linter.unusedVariables false
set_option linter.unusedSimpArgs false
set_option maxHeartbeats 8000000
def l_:Nat->List UInt8->Option Nat
 | _,[]=>none
 | _,[_]=>none
 | d,c::e::r=>
   if c=40/\e=42 then(l_ (d+1) r).map (· + 2)
   else if c=42/\e=41 then(if d<=1 then some 2 else(l_ (d-1) r).map (· + 2))
   else(l_ d (e::r)).map (· + 1)
def ws (c:UInt8):Bool:=c == 9||c == 10||c == 13||c == 32
theorem tv:∀(d:Nat) (l:List UInt8) (n:Nat),l_ d l=some n->2<=n/\n<=l.length
 | _,[],n,h=>by simp[l_]at h
 | _,[_],n,h=>by simp[l_]at h
 | d,c::e::r,n,h=>by
   rw[l_]at h;split at h
   . obtain⟨m,hm,rfl⟩:=Option.map_eq_some_iff.1 h;have:=tv _ r m hm;simp;omega
   . split at h
     . split at h
       . simp at h;subst h;simp
       . obtain⟨m,hm,rfl⟩:=Option.map_eq_some_iff.1 h;have:=tv _ r m hm;simp;omega
     . obtain⟨m,hm,rfl⟩:=Option.map_eq_some_iff.1 h;have:=tv _ (e::r) m hm;simp at this ⊢;omega
def di:List UInt8->Nat×Bool
 | []=>(0,true)
 | [c]=>if ws c then(1,true)else(0,true)
 | c::e::r=>
   if ws c then((di (e::r)).1+1,(di (e::r)).2)
   else if c=40/\e=42 then
    match l_ 1 r with
    | none=>(0,false)
    | some n=>((di (r.drop n)).1+(n+2),(di (r.drop n)).2)
   else(0,true)
termination_by l=>l.length
decreasing_by all_goals (simp;try omega)
theorem xh:∀(l:List UInt8),(di l).1<=l.length
 | []=>by simp[di]
 | [c]=>by rw[di];split<;>simp
 | c::e::r=>by
   rw[di];split
   . have:=xh (e::r);simp at this ⊢;omega
   . split
     . cases h:l_ 1 r with
       | none=>simp
       | some n=>
         have h1:=tv 1 r n h;have h2:=xh (r.drop n);rw[List.length_drop]at h2;simp;omega
     . simp
termination_by l=>l.length
decreasing_by all_goals (simp;try omega)
theorem Ew {c:UInt8}{r:List UInt8}(h:ws c=true):di (c::r)=((di r).1+1,(di r).2):=by
 cases r with
 | nil=>simp[di,h]
 | cons e r=>rw[di,if_pos h]
theorem Ex (r:List UInt8):di (40::42::r)=match l_ 1 r with
 | none=>(0,false)
 | some n=>((di (r.drop n)).1+(n+2),(di (r.drop n)).2):=by
 rw[di,if_neg (by decide),if_pos ⟨rfl,rfl⟩]
theorem vo {c:UInt8}{r:List UInt8}(h:¬ws c=true)(h2:¬(c=40/\r.head? = some 42)):di (c::r)=(0,true):=by
 cases r with
 | nil=>rw[di,if_neg h]
 | cons e r=>rw[di,if_neg h,if_neg (by simpa using h2)]
theorem Ey (d:Nat)(r:List UInt8):l_ d (40::42::r)=(l_ (d+1) r).map (· + 2):=by
 rw[l_,if_pos ⟨rfl,rfl⟩]
theorem Bo (d:Nat)(r:List UInt8):l_ d (42::41::r)=if d<=1 then some 2 else(l_ (d-1) r).map (· + 2):=by
 rw[l_,if_neg (by decide),if_pos ⟨rfl,rfl⟩]
theorem Bp {d:Nat}{c:UInt8}{r:List UInt8}(h:¬(c=40/\r.head? = some 42))(h2:¬(c=42/\r.head? = some 41)):l_ d (c::r)=(l_ d r).map (· + 1):=by
 cases r with
 | nil=>simp[l_]
 | cons e r=>rw[l_,if_neg (by simpa using h),if_neg (by simpa using h2)]
theorem As {r:List UInt8}{e:UInt8}(h:r.head? = some e):∃t,r=e::t:=by
 cases r with
 | nil=>simp at h
 | cons x t=>simp at h;exact⟨t,by rw[h]⟩
section
variable {nx0:Nat}{H0:T OB}
theorem tx (c:UInt8):P0 77 [b8 c] (i64 (dN c)):=Pure.of rfl λH nx=>by
 rw[PO];refine Wq.call (zT c) (.refl _ _) λH1 aI hA1=> ?_;have hc:=c.toNat_lt;unfold dN;simp only[ab];refine Wq.bK (λh=> ?_) (λh=> ?_)
 . rw[if_pos h];have hd:=gY.1 h;rw[show IntKind.u8.wrap ((c.toNat:Int)-48)=(c.toNat:Int)-48 from by rw[wrap_u8];omega];simp only[ab,DG];rw[show IntKind.i64.wrap ((c.toNat:Int)-48)=(c.toNat:Int)-48 from bm (by omega)];exact Wq.ret hA1
 rw[if_neg (by rw[h];decide)];have L10:∀b,b=(decide (65<=c.toNat)&&decide (c.toNat<=70))->Wq P pl X0 (.jump (sG (b8 c) b H1 aI)) nx H (i64 (if(decide (65<=c.toNat)&&decide (c.toNat<=70))=true then(c.toNat:Int)-55 else -1)):=by
  intro b hb;refine Wq.jmp (JM ..) (λ_=>rfl) ?_;rw[<- hb];cases b with
  | true=>
    have h2:65<=c.toNat/\c.toNat<=70:=by simpa using hb.symm
    simp only[ab];rw[show IntKind.u8.wrap ((c.toNat:Int)-65)=(c.toNat:Int)-65 from by rw[wrap_u8];omega];simp only[ab,DG];rw[show IntKind.i64.wrap ((c.toNat:Int)-65)=(c.toNat:Int)-65 from bm (by omega),show IntKind.i64.wrap ((c.toNat:Int)-65+10)=(c.toNat:Int)-55 from by rw[bm (by omega)];omega];exact Wq.ret hA1
  | false=>exact Wq.ret hA1
 refine Wq.ite (λh2=> ?_) (λh2=>L10 _ (by simp;omega));refine L10 _ ?_;rw[show decide (65<=c.toNat)=true from by simp;omega,Bool.true_and,decide_eq_decide];omega
abbrev Ez (p:UInt8×Nat):Value:= .tuple ⟨[b8 p.1,i64 ((p.2-1:Nat):Int)]⟩
theorem KP (s:List UInt8)(hl:s.length<ee):P0 58 [ar s] (Ez (kB s)):=Pure.of rfl λH nx=>by
 rw[PF];have hA:=Ag.refl nx H;have L28f:∀H1 aI,Ag nx H aI H1->kB s=(0,0)->Wq P pl X0 (.jump (oD (ar s) false H1 aI)) nx H (Ez (kB s)):=by
  intro H1 aI hA1 hb;refine Wq.jmp (CZ ..) (λ_=>rfl) ?_;rw[hb];exact Wq.ret hA1
 cases s with
 | nil=>
   simp only[ab,aN _ a7,aQ,List.length_nil];exact Wq.ret hA
 | cons x t=>
   have e0:decide (((x::t).length:Int)=0)=false:=by simp;omega
   have L14:∀b,(b=true↔(x.toNat=34\/x.toNat=92))->Wq P pl X0 (.jump (sA (ar (x::t)) (b8 x) b H nx)) nx H (Ez (kB (x::t))):=by
    intro b hb;refine Wq.jmp (JG ..) (λ_=>rfl) ?_;cases b with
    | true=>
      simp only[ab,O6];have:kB (x::t)=(x,2):=by
       rw[eA];rcases hb.1 rfl with h | h
       . rw[if_pos h,show x=34 from UInt8.toNat_inj.1 h]
       . rw[if_neg (by omega),if_pos h,show x=92 from UInt8.toNat_inj.1 h]
      rw[this];exact Wq.ret hA
    | false=>
      have hn:¬(x.toNat=34\/x.toNat=92):=λq=>by have:=hb.2 q;cases this
      simp only[ab];refine Wq.ite (λh=> ?_) (λh3=> ?_)
      . rw[show kB (x::t)=(10,2)from by rw[eA];rw[if_neg (by omega),if_neg (by omega),if_pos (by omega)]];exact Wq.ret hA
      refine Wq.ite (λh=> ?_) (λh4=> ?_)
      . rw[show kB (x::t)=(9,2)from by rw[eA];rw[if_neg (by omega),if_neg (by omega),if_neg (by omega),if_pos (by omega)]];exact Wq.ret hA
      have hE:kB (x::t)=if x.toNat=120 then Et t else(0,0):=by rw[eA];rw[if_neg (by omega),if_neg (by omega),if_neg (by omega),if_neg (by omega)]
      refine Wq.ite (λh5=> ?_) (λh5=> ?_)
      . rw[if_pos (by omega)]at hE;simp only[ab,aN _ a7,aQ];refine Wq.ite (λh6=> ?_) (λh6=>L28f _ _ hA (by
         rw[hE]
         match t with
         | []=>rfl
         | [_]=>rfl
         | y::z::r=>simp at h6;omega))
        obtain⟨y,z,r,rfl⟩:∃y z r,t=y::z::r:=by
         match t with
         | []=>exact absurd h6 (by simp)
         | [_]=>exact absurd h6 (by simp)
         | y::z::r=>exact⟨y,z,r,rfl⟩
        have hX:Et (y::z::r)=if 0<=dN y/\0<=dN z then(UInt8.ofNat (16*dN y+dN z).toNat,4)else(0,0):=rfl;rw[hX]at hE;simp only[ab,O7,O8];refine Wq.call (tx y) hA λH2 nx2 hA2=> ?_;simp only[ab];refine Wq.ite (λh7=> ?_) (λh7=>L28f _ _ hA2 (by rw[hE,if_neg (by omega)]));refine Wq.call (tx z) hA2 λH3 nx3 hA3=> ?_;simp only[ab]
        by_cases h8:0<=dN z
        . rw[decide_eq_true h8];refine Wq.jmp (CZ ..) (λ_=>rfl) ?_;have a1:=Aq y;have a2:=Aq z;have e1:IntKind.i64.wrap (dN y*16)=dN y*16:=bm (by omega);have e3:IntKind.i64.wrap (dN y*16+dN z)=16*dN y+dN z:=by rw[bm (by omega)];omega
          simp only[ab,O7,O8];refine Wq.call (tx y) hA3 λH4 nx4 hA4=> ?_;simp only[ab];refine Wq.call (tx z) hA4 λH5 nx5 hA5=> ?_;simp only[ab,e1,e3,Kd,aM];rw[hE,if_pos ⟨h7,h8⟩];have e4:IntKind.u8.wrap (16*dN y+dN z)=((UInt8.ofNat (16*dN y+dN z).toNat).toNat:Int):=by
           rw[wrap_u8,UInt8.toNat_ofNat'];omega
          rw[e4];exact Wq.ret hA5
        . rw[decide_eq_false h8];exact L28f _ _ hA3 (by rw[hE,if_neg (by omega)])
      . rw[hE,if_neg (by omega)];exact Wq.ret hA
   simp only[ab,aN _ a7,aQ,e0,O6];refine Wq.ite (λh=>L14 _ (by simp;omega)) (λh=> ?_);exact L14 _ (by simp;omega)
def EU (n i:Nat)(r:List UInt8):Value:=match jQ n (r.takeWhile bA)with
 | some m=> .tuple ⟨[i64 (m:Int),i64 ((i+(r.takeWhile bA).length:Nat):Int)]⟩
 | none=> .tuple ⟨[i64 0,i64 0]⟩
theorem EA (s:List UInt8)(hl:s.length<ee):∀(r:List UInt8) (i n:Nat) (H:T OB) (nx:Nat),s.drop i=r->i<=s.length->n<=4611686018427387903->Ag nx0 H0 nx H->
 Wq P pl X0 (.jump (zG (ar s) (i64 (n:Int)) (i64 (i:Int)) H nx)) nx0 H0 (EU n i r):=by
 intro r
 induction r with
 | nil=>
   intro i n H nx hd hi h1 hA;have hil:=drop_nil hd hi;refine Wq.jmp (HO ..) (λ_=>rfl) ?_;simp only[ab,aN _ a7,aQ,hil,bc];exact Wq.ret hA
 | cons c r ih=>
   intro i n H nx hd hi h1 hA;obtain⟨hg,hlt,hd'⟩:=drop_cons hd;have hin:=bj (P:=P) a7 hg .i64;refine Wq.jmp (HO ..) (λ_=>rfl) ?_;simp only[ab,aN _ a7,aQ,bh hlt,hin];refine Wq.call (zT c) hA λH1 aI hA1=> ?_;cases hdg:bA c with
   | false=>
     have e:EU n i (c::r)= .tuple ⟨[i64 (n:Int),i64 (i:Int)]⟩:=by
      unfold EU;rw[List.takeWhile_cons,hdg];rfl
     rw[e];simp only[ab];exact Wq.ret hA1
   | true=>
     have h9:=IF hdg;have e2:IntKind.i64.wrap (dv c:Int)=(dv c:Int):=bm (by omega);have e4:IntKind.i64.wrap (4611686018427387903-(dv c:Int))=((4611686018427387903-dv c:Nat):Int):=by rw[bm (by omega)];omega
     have e5:IntKind.i64.wrap (((4611686018427387903-dv c:Nat):Int).tdiv 10)=(((4611686018427387903-dv c)/10:Nat):Int):=by
      rw[show((4611686018427387903-dv c:Nat):Int).tdiv 10=(((4611686018427387903-dv c)/10:Nat):Int)from rfl,bm (by omega)]
     simp only[ab,Kc,Qg hdg,e2,e4,Ke,e5];have hN:jQ n ((c::r).takeWhile bA)=if bA c=true/\n<=(4611686018427387903-dv c)/10 then jQ (n*10+dv c) (r.takeWhile bA)else none:=by
      rw[List.takeWhile_cons,hdg,if_pos rfl,jQ,hdg]
     refine Wq.ite (λh=> ?_) (λh=> ?_)
     . have e:EU n i (c::r)= .tuple ⟨[i64 0,i64 0]⟩:=by
        unfold EU;rw[hN,if_neg (by omega)]
       rw[e];exact Wq.ret hA1
     . have e:EU n i (c::r)=EU (n*10+dv c) (i+1) r:=by
        unfold EU;rw[hN,if_pos ⟨hdg,by omega⟩,List.takeWhile_cons,hdg];simp only[List.length_cons,if_true];rw[show i+((r.takeWhile bA).length+1)=i+1+(r.takeWhile bA).length by omega]
       rw[e];have e1:IntKind.i64.wrap ((n:Int)*10)=((n*10:Nat):Int):=by rw[bm (by omega)];omega
       have e3:IntKind.i64.wrap (((n*10:Nat):Int)+(dv c:Int))=((n*10+dv c:Nat):Int):=by rw[bm (by omega)];omega
       simp only[ab,aB (show i<9223372036854775807 by have:=gi hl;omega),e1,e3];exact ih (i+1) _ H1 aI hd' (by omega) (by omega) hA1
theorem KQ (s:List UInt8)(hl:s.length<ee):P0 37 [ar s] (EU 0 0 s):=Pure.of rfl λH nx=>by
 rw[Pt];exact EA s hl s 0 0 H nx rfl (Nat.zero_le _) (by omega) (.refl _ _)
def qt:Nat->List UInt8->Option (List UInt8×Nat)
 | 0,_=>none
 | _+1,[]=>none
 | f+1,c::r=>if c.toNat=34 then some ([],1)else if(fc (c::r)).2=0 then none else(qt f ((c::r).drop (fc (c::r)).2)).map λq=>((fc (c::r)).1::q.1,(fc (c::r)).2+q.2)
theorem ly (f:Nat)(c:UInt8)(r:List UInt8):qt (f+1) (c::r)=if c.toNat=34 then some ([],1)else if(fc (c::r)).2=0 then none else(qt f ((c::r).drop (fc (c::r)).2)).map λq=>((fc (c::r)).1::q.1,(fc (c::r)).2+q.2):=rfl
def GL (acc:List UInt8)(i:Nat):Option (List UInt8×Nat)->Value
 | some q=> .tuple ⟨[ar (acc++q.1),i64 ((i+q.2:Nat):Int)]⟩
 | none=> .tuple ⟨[ar [],i64 0]⟩
theorem KR (t:List UInt8):(kB t).2=0\/2<=(kB t).2:=by
 cases t with
 | nil=>exact .inl rfl
 | cons x t=>
   rw[eA]
   by_cases h3:x.toNat=34
   . rw[if_pos h3];exact .inr (Nat.le_refl _)
   rw[if_neg h3]
   by_cases h3:x.toNat=92
   . rw[if_pos h3];exact .inr (Nat.le_refl _)
   rw[if_neg h3]
   by_cases h3:x.toNat=110
   . rw[if_pos h3];exact .inr (Nat.le_refl _)
   rw[if_neg h3]
   by_cases h3:x.toNat=116
   . rw[if_pos h3];exact .inr (Nat.le_refl _)
   rw[if_neg h3]
   by_cases h3:x.toNat=120
   . rw[if_pos h3]
     match t with
     | []=>exact .inl rfl
     | [_]=>exact .inl rfl
     | y::z::r=>
       show(if 0<=dN y/\0<=dN z then _ else _:UInt8×Nat).2=0\/2<=(if 0<=dN y/\0<=dN z then _ else _:UInt8×Nat).2
       by_cases h4:0<=dN y/\0<=dN z
       . rw[if_pos h4];exact .inr (by show 2<=4;omega)
       . rw[if_neg h4];exact .inl rfl
   . rw[if_neg h3];exact .inl rfl
theorem GM (s:List UInt8)(hl:s.length<=1000000):∀(d i:Nat) (r:List UInt8) (sl:Value) (H:T OB) (nx:Nat),s.length-i<=d->1<=i->i<=s.length->r.length<=i->BS 5 nx0 H nx r sl->Ag nx0 H0 nx H->
 Wq P pl X0 (.jump (uO (ar s) sl (i64 (i:Int)) H nx)) nx0 H0 (GL r i (qt d (s.drop i))):=by
 intro d
 induction d with
 | zero=>
   intro i r sl H nx hd hi hi2 hr hB hA;have hil:i=s.length:=by omega
   refine Wq.jmp (CY ..) (λ_=>rfl) ?_;simp only[ab,aN _ a7,aQ,hil,bc];exact Wq.ret hA
 | succ d ih=>
   intro i r sl H nx hd hi hi2 hr hB hA;cases hdr:s.drop i with
   | nil=>
     have hil:=drop_nil hdr hi2;refine Wq.jmp (CY ..) (λ_=>rfl) ?_;simp only[ab,aN _ a7,aQ,hil,bc];exact Wq.ret hA
   | cons c t=>
     obtain⟨hg,hlt,hd'⟩:=drop_cons hdr;have hin:=bj (P:=P) a7 hg .i64;have hc:=c.toNat_lt;refine Wq.jmp (CY ..) (λ_=>rfl) ?_;simp only[ab,aN _ a7,aQ,bh hlt,hin];rw[ly];refine Wq.ite (λh=> ?_) (λh34=> ?_)
     . rw[if_pos (by omega)];simp only[ab,A9 wg z1 a7 FG hB,aB (show i<9223372036854775807 by omega)];exact Wq.jL (by show _=Value.tuple _;rw[List.append_nil]) hA
     rw[if_neg (by omega)];have hS:fc (c::t)=if c.toNat<32\/126<c.toNat\/c.toNat=34 then(0,0)else if c.toNat=92 then kB t else(c,1):=rfl;refine Wq.ite (λh92=> ?_) (λh92=> ?_)
     . rw[if_neg (by omega),if_pos (by omega)]at hS;rw[hS];simp only[ab,aB (show i<9223372036854775807 by omega),iA (show i+1<=s.length by omega),hd'];have htl:t.length=s.length-(i+1):=by rw[<- hd',List.length_drop]
       refine Wq.qR (KP t (by have hbig:ee=1125899906842624:=rfl;omega)) hA λH1 aI hA1 n1 k1=> ?_;have hn:=Ar (c::t);rw[hS,List.length_cons]at hn;have h2:=KR t;generalize kB t=p at hn h2 ⊢;obtain⟨e,n⟩:=p;have x0:bo (some (Ez (e,n))) 0=some (b8 e):=rfl;have x1:bo (some (Ez (e,n))) 1=some (i64 ((n-1:Nat):Int)):=rfl;simp only at hn h2;simp only[ab,x0,x1];refine Wq.ite (λh=> ?_) (λh=> ?_)
       . rw[if_pos (by omega)];exact Wq.ret hA1
       rw[if_neg (by omega)];have hB':=BS.cX hB n1 k1;refine Wq.Mi (x:=[e]) wg LP DF hB' rfl rfl (Mt e) (λm hm=>Ib (by simp at hm;omega)) hA1 λH2 sl2 nx2 hB2 hA2 _=> ?_;have ew:IntKind.i64.wrap ((i:Int)+((n-1:Nat):Int))=((i+(n-1):Nat):Int):=by rw[bm (by omega)];omega
       simp only[ab,ew];refine Wq.jmp (JE ..) (λ_=>rfl) ?_;simp only[ab,aB (show i+(n-1)<9223372036854775807 by omega)];rw[show i+(n-1)+1=i+n by omega];have:=ih (i+n) (r++[e]) sl2 H2 nx2 (by omega) (by omega) (by omega) (by simp;omega) hB2 hA2;rw[<- List.drop_drop,hdr]at this;cases hq:qt d ((c::t).drop n)with
       | none=>rw[hq]at this;exact this
       | some q=>
         rw[hq]at this;have e2:GL (r++[e]) (i+n) (some q)=GL r i (some (e::q.1,n+q.2)):=by
          show Value.tuple _=Value.tuple _;rw[List.append_assoc,Nat.add_assoc];rfl
         rw[e2]at this;exact this
     have L34:∀b,(b=true↔(c.toNat<32\/126<c.toNat))->Wq P pl X0 (.jump (sy (ar s) sl (i64 (i:Int)) (b8 c) b H nx)) nx0 H0 (GL r i (if(fc (c::t)).2=0 then none else(qt d ((c::t).drop (fc (c::t)).2)).map λq=>((fc (c::t)).1::q.1,(fc (c::t)).2+q.2))):=by
      intro b hb;refine Wq.jmp (JF ..) (λ_=>rfl) ?_;cases b with
      | true=>
        have hS0:fc (c::t)=(0,0):=by
         have:=hb.1 rfl;rw[hS,if_pos (by omega)]
        rw[hS0,if_pos rfl];exact Wq.ret hA
      | false=>
        have hn:¬(c.toNat<32\/126<c.toNat):=λq=>by have:=hb.2 q;cases this
        have hS1:fc (c::t)=(c,1):=by rw[hS,if_neg (by omega),if_neg (by omega)]
        rw[hS1,if_neg (show ¬(c,1).2=0 from Nat.one_ne_zero)];simp only[ab];refine Wq.Mi (x:=[c]) wg LP DF hB rfl rfl (Mt c) (λm hm=>Ib (by simp at hm;omega)) hA λH2 sl2 nx2 hB2 hA2 _=> ?_;simp only[ab,aB (show i<9223372036854775807 by omega)];have:=ih (i+1) (r++[c]) sl2 H2 nx2 (by omega) (by omega) (by omega) (by simp;omega) hB2 hA2;rw[hd']at this;rw[show(c::t).drop 1=t from rfl];cases hq:qt d t with
        | none=>rw[hq]at this;exact this
        | some q=>
          rw[hq]at this;have e2:GL (r++[c]) (i+1) (some q)=GL r i (some (c::q.1,1+q.2)):=by
           show Value.tuple _=Value.tuple _;rw[List.append_assoc,Nat.add_assoc];rfl
          rw[e2]at this;exact this
     refine Wq.ite (λh=>L34 _ (by simp;omega)) (λh=> ?_);exact L34 _ (by simp;omega)
theorem KS (s:List UInt8)(h0:1<=s.length)(hl:s.length<=1000000):P0 38 [ar s] (GL [] 1 (qt s.length (s.drop 1))):=Pure.of rfl λH nx=>by
 rw[Pu];exact GM s hl s.length 1 [] (.slice none 0 0) H nx (Nat.sub_le _ _) (by omega) h0 (by simp) (.nil _ _ _ _) (.refl _ _)
end
theorem IH:∀{f:Nat} {s:List UInt8} {q:List UInt8×Nat},qt f s=some q->1<=q.2/\q.2<=s.length:=by
 intro f
 induction f with
 | zero=>intro s q h;cases h
 | succ f ih=>
   intro s q h;cases s with
   | nil=>cases h
   | cons c r=>
     rw[ly]at h
     by_cases h1:c.toNat=34
     . rw[if_pos h1]at h;cases h;exact⟨Nat.le_refl _,by simp⟩
     rw[if_neg h1]at h
     by_cases h2:(fc (c::r)).2=0
     . rw[if_pos h2]at h;cases h
     rw[if_neg h2]at h;obtain⟨q1,hq,rfl⟩:=Option.map_eq_some_iff.1 h;have:=ih hq;have:=Ar (c::r);rw[List.length_drop]at*;show 1<=(fc (c::r)).2+q1.2/\(fc (c::r)).2+q1.2<=_;omega
theorem KT:∀n:Nat,n<256->(ck (UInt8.ofNat n)||bW (UInt8.ofNat n))=true->bA (UInt8.ofNat n)=false/\(UInt8.ofNat n).toNat≠34/\(UInt8.ofNat n).toNat≠39:=by decide
theorem KU {c:UInt8}(h:(ck c||bW c)=true):bA c=false/\c.toNat≠34/\c.toNat≠39:=by
 have:=KT c.toNat c.toNat_lt;rw[UInt8.ofNat_toNat]at this;exact this h
def At (x:UInt8):Bool:= !decide (x.toNat=39)&&iz x
theorem Nq:∀x∈bB,first x 39=false/\x≠[]:=by decide
def jv:List UInt8->Bool
 | []=>false
 | c::_=>ck c
def tz (c:UInt8)(u:List UInt8):Option (Tok×Nat):=
 if c.toNat=34 then(qt (u.length+1) u).map λq=>(⟨2,q.1,0,0⟩,1+q.2)
 else if(ck c||bW c)=true then some (⟨jm (c::u.takeWhile iz),c::u.takeWhile iz,0,0⟩,1+(u.takeWhile iz).length)
 else if c.toNat=39/\jv u=true then some (⟨5,(c::u).take (2+((u.drop 1).takeWhile At).length),0,0⟩,2+((u.drop 1).takeWhile At).length)
 else(bB.find? λs=>s.isPrefixOf (c::u)).map λs=>(⟨7,s,0,0⟩,s.length)
def Bq (l:List UInt8):Option (Tok×Nat):=match jQ 0 l with
 | some v=>some (⟨1,[],(v:Int),0⟩,l.length)
 | none=>none
def jR:List UInt8->Option (Tok×Nat)
 | []=>none
 | c::u=>if bA c=true then Bq ((c::u).takeWhile bA)else tz c u
theorem eB (c:UInt8)(u:List UInt8):jR (c::u)=if bA c=true then Bq ((c::u).takeWhile bA)else tz c u:=rfl
theorem tA {p:UInt8->Bool}:∀l:List UInt8,l.take (l.takeWhile p).length=l.takeWhile p
 | []=>rfl
 | a::l=>by
   rw[List.takeWhile_cons];cases p a with
   | true=>simp only[if_true,List.length_cons,List.take_succ_cons];rw[tA l]
   | false=>rfl
theorem Au {p:UInt8->Bool}(l:List UInt8):(l.takeWhile p).length<=l.length:=by
 have:=congrArg List.length (tA (p:=p) l);rw[List.length_take]at this;omega
section
variable {nx0 nx nx':Nat}{H0 H H':T OB}{F:List Bx}{b:Nat}{s:List UInt8}
abbrev tB (b:Nat)(s:List UInt8)(i:Nat):Bx:=(b,[ar s,i64 (i:Int)],68)
theorem fe {i:Nat}(h:Hp nx0 H0 (tB b s i::F) H nx):aj P H 3 (some (.pointer (some ⟨b,1,none⟩)))=some (i64 (i:Int)):=ak (h.at_ 0 rfl) qL rfl
theorem rl {i:Nat}(h:Hp nx0 H0 (tB b s i::F) H nx):aj P H 9 (some (.pointer (some ⟨b,0,none⟩)))=some (ar s):=ak (h.at_ 0 rfl) ox rfl
abbrev VE (u:Value)(G:List Bx)(nx0:Nat)(H0:T OB):Go.Ev.Out->T OB->Nat->Prop:=λo H nx=>o= .ret u/\Hp nx0 H0 G H nx
theorem GN (hl:s.length<ee){i p:Nat}:∀(r:List UInt8) (j:Nat) (H:T OB) (nx:Nat),s.drop j=r->p<=j->j<=s.length->Hp nx0 H0 (tB b s i::F) H nx->
 ay P pl X0 (.jump (zH (ptr b) (i64 (p:Int)) (i64 (j:Int)) H nx)) nx0 H0 (VE (ar ((s.drop p).take (j-p+(r.takeWhile iz).length))) (tB b s i::F) nx0 H0):=by
 intro r
 induction r with
 | nil=>
   intro j H nx hd hp hj h;have hil:=drop_nil hd hj;refine Wq.jmp (HP ..) (λ_=>rfl) ?_;simp only[ab,rl h,aN _ a7,aQ,show decide ((j:Int)<(s.length:Int))=false by simp;omega,cj a7 hp hj];exact iO h
 | cons c r ih=>
   intro j H nx hd hp hj h;obtain⟨hg,hlt,hd'⟩:=drop_cons hd;have hin:=bj (P:=P) a7 hg .i64;refine Wq.jmp (HP ..) (λ_=>rfl) ?_;simp only[ab,rl h,aN _ a7,aQ,bh hlt,hin];refine Hq.call (zU c) h λH1 aI h1=> ?_;cases hw:iz c with
   | false=>
     simp only[ab,rl h1,cj a7 hp hj];rw[List.takeWhile_cons,hw];exact iO h1
   | true=>
     simp only[ab,aB (show j<9223372036854775807 by have:=gi hl;omega)];rw[List.takeWhile_cons,hw,if_pos rfl,List.length_cons,show j-p+((r.takeWhile iz).length+1)=j+1-p+(r.takeWhile iz).length by omega];exact ih (j+1) H1 aI hd' (by omega) (by omega) h1
theorem KV (hl:s.length<ee){i p:Nat}(hp:p<s.length)(h:Hp nx0 H0 (tB b s i::F) H nx):
 ay P pl X0 (aV P pl (.call 41 [ptr b,i64 (p:Int)] false none H nx)) nx0 H0 (VE (ar ((s.drop p).take (1+((s.drop (p+1)).takeWhile iz).length))) (tB b s i::F) nx0 H0):=by
 rw[Px];simp only[ab,aB (show p<9223372036854775807 by have:=gi hl;omega)];have:=GN (b:=b) (F:=F) (i:=i) hl (s.drop (p+1)) (p+1) H nx rfl (Nat.le_succ p) hp h;rwa[show p+1-p=1 by omega]at this
def fB (s:List UInt8)(d fr i:Nat):Bool×Nat:=
 if d=0 then((di (s.drop i)).2,if(di (s.drop i)).2=true then i+(di (s.drop i)).1 else i+(di (s.drop i)).1)
 else match l_ d (s.drop i)with
  | none=>(false,fr)
  | some n=>((di (s.drop (i+n))).2,i+n+(di (s.drop (i+n))).1)
theorem iG (s:List UInt8)(fr i:Nat):fB s 0 fr i=((di (s.drop i)).2,i+(di (s.drop i)).1):=by
 unfold fB;rw[if_pos rfl];split<;>rfl
theorem iH (s:List UInt8){d:Nat}(hd:d≠0)(fr i:Nat):fB s d fr i=match l_ d (s.drop i)with
 | none=>(false,fr)
 | some n=>((di (s.drop (i+n))).2,i+n+(di (s.drop (i+n))).1):=if_neg hd
theorem Br {i d fr:Nat}{t:List UInt8}(h:s.drop i=40::42::t):fB s d fr i=fB s (d+1) (if d=0 then i else fr) (i+2):=by
 have h2:s.drop (i+2)=t:=by rw[<- List.drop_drop,h];rfl
 have hdrop:∀n,s.drop (i+2+n)=t.drop n:=λn=>by rw[<- List.drop_drop,h2]
 rw[iH s (Nat.succ_ne_zero d),h2]
 by_cases d0:d=0
 . subst d0;rw[iG,h,Ex,if_pos rfl];cases hc:l_ 1 t with
   | none=>simp[hc]
   | some n=>
     simp only[Nat.zero_add,hc,hdrop];rw[show i+((di (t.drop n)).1+(n+2))=i+2+n+(di (t.drop n)).1 by omega]
 . rw[iH s d0,h,Ey,if_neg d0];cases hc:l_ (d+1) t with
   | none=>simp
   | some n=>simp only[Option.map_some,show i+(n+2)=i+2+n by omega]
theorem xi {i d fr:Nat}{t:List UInt8}(h:s.drop i=42::41::t)(hd:0<d):fB s d fr i=fB s (d-1) fr (i+2):=by
 have h2:s.drop (i+2)=t:=by rw[<- List.drop_drop,h];rfl
 rw[iH s (by omega),h,Bo]
 by_cases d1:d=1
 . subst d1;rw[if_pos (by omega),iG]
 . rw[if_neg (by omega),iH s (by omega),h2];cases hc:l_ (d-1) t with
   | none=>simp
   | some n=>simp only[Option.map_some,show i+(n+2)=i+2+n by omega]
theorem Bs {i d fr:Nat}{c:UInt8}{r:List UInt8}(h:s.drop i=c::r)(a:¬(c=40/\r.head? = some 42))(e:¬(0<d/\c=42/\r.head? = some 41))(w:0<d\/ws c=true):fB s d fr i=fB s d fr (i+1):=by
 have hr:s.drop (i+1)=r:=by rw[<- List.drop_drop,h];rfl
 by_cases d0:d=0
 . subst d0;rw[iG,iG,h,hr,Ew (w.resolve_left (by omega))];simp only;rw[show i+((di r).1+1)=i+1+(di r).1 by omega]
 . rw[iH s d0,iH s d0,h,hr,Bp a (λq=>e ⟨by omega,q⟩)];cases hc:l_ d r with
   | none=>simp
   | some n=>simp only[Option.map_some,show i+(n+1)=i+1+n by omega]
theorem Bt {i fr:Nat}{c:UInt8}{r:List UInt8}(h:s.drop i=c::r)(a:¬(c=40/\r.head? = some 42))(w:¬ws c=true):fB s 0 fr i=(true,i):=by
 rw[iG,h,vo w a];rfl
theorem EB {i d fr:Nat}(h:s.length<=i):fB s d fr i=if d=0 then(true,i)else(false,fr):=by
 have hn:s.drop i=[]:=List.drop_eq_nil_of_le h
 by_cases d0:d=0
 . subst d0;rw[iG,hn,if_pos rfl];simp[di]
 . rw[iH s d0,hn,if_neg d0];simp[l_]
abbrev Le (b:Nat)(s:List UInt8)(F:List Bx)(nx0:Nat)(H0:T OB)(q:Bool×Nat):Go.Ev.Out->T OB->Nat->Prop:=VE (.bool q.1) (tB b s q.2::F) nx0 H0
theorem EC (hl:s.length<ee):∀(m i d fr:Nat) (H:T OB) (nx:Nat),s.length-i<=m->i<=s.length->d<=i->fr<=s.length->Hp nx0 H0 (tB b s i::F) H nx->
 ay P pl X0 (.jump (qO (ptr b) (i64 (d:Int)) (i64 (fr:Int)) H nx)) nx0 H0 (Le b s F nx0 H0 (fB s d fr i)):=by
 have hbig:ee=1125899906842624:=rfl;intro m
 induction m with
 | zero=>
   intro i d fr H nx hm hi hd hfr h;have hil:i=s.length:=by omega
   refine Wq.jmp (HK ..) (λ_=>rfl) ?_;simp only[ab,fe h,rl h,aN _ a7,aQ,show decide ((i:Int)<(s.length:Int))=false by simp;omega];rw[EB (by omega)];refine Wq.ite (λh0=> ?_) (λh0=> ?_)
   . rw[if_neg (by omega)];refine Hq.put [] h jJ rfl rfl (by simp) rfl λH2 h2=> ?_;refine Wq.jmp (CP ..) (λ_=>rfl) ?_;simp only[ab,show decide ((d:Int)=0)=false by simp;omega];exact iO h2
   . rw[if_pos (by omega)];refine Wq.jmp (CP ..) (λ_=>rfl) ?_;simp only[ab,show decide ((d:Int)=0)=true by simp;omega];exact iO h
 | succ m ih=>
   intro i d fr H nx hm hi hd hfr h
   by_cases hlt:i<s.length
   case neg=>exact ih i d fr H nx (by omega) hi hd hfr h
   obtain⟨c,r,hdr⟩:∃c r,s.drop i=c::r:=by
    cases hq:s.drop i with
    | nil=>have:=drop_nil hq hi;omega
    | cons c r=>exact⟨c,r,rfl⟩
   obtain⟨hg,_,hd'⟩:=drop_cons hdr;have hin:=bj (P:=P) a7 hg .i64;have hrl:r.length=s.length-(i+1):=by rw[<- hd',List.length_drop]
   have hu:∀n:Nat,n<256->(decide ((c.toNat:Int)=(n:Int))=decide (c=UInt8.ofNat n)):=λn hn=>by
    rw[decide_eq_decide,<- UInt8.toNat_inj,UInt8.toNat_ofNat',Nat.mod_eq_of_lt hn];omega
   have L18:∀tw:List UInt8,(∀x y,tw=[x,y]↔c=x/\r.head? = some y)->ay P pl X0 (.jump (sf (ptr b) (i64 (d:Int)) (i64 (fr:Int)) (b8 c) (ar tw) H nx)) nx0 H0 (Le b s F nx0 H0 (fB s d fr i)):=by
    intro tw htw;refine Wq.jmp (Ju ..) (λ_=>rfl) ?_;simp only[ab,m5];refine Wq.ite (λa=> ?_) (λa=> ?_)
    . have a:=(htw _ _).1 a;obtain⟨t,ht⟩:=As a.2;rw[a.1,ht]at hdr;have hl2:i+2<=s.length:=by
       have:=congrArg List.length hdr;rw[List.length_drop]at this;simp at this;omega
      rw[Br hdr];have L24:∀fr':Nat,fr'<=s.length->ay P pl X0 (.jump (sh (ptr b) (i64 (d:Int)) (i64 (fr':Int)) H nx)) nx0 H0 (Le b s F nx0 H0 (fB s (d+1) fr' (i+2))):=by
       intro fr' hfr';refine Wq.jmp (Jv ..) (λ_=>rfl) ?_;have e2:IntKind.i64.wrap ((i:Int)+2)=((i+2:Nat):Int):=by rw[bm (by omega)];omega
       simp only[ab,fe h,e2,aB (show d<9223372036854775807 by omega)];refine Hq.put [] h jJ rfl rfl (by simp) rfl λH2 h2=> ?_;exact ih (i+2) (d+1) fr' H2 nx (by omega) hl2 (by omega) hfr' h2
      refine Wq.ite (λd0=> ?_) (λd0=> ?_)
      . rw[if_pos (by omega)];simp only[ab,fe h];exact L24 i hi
      . rw[if_neg (by omega)];exact L24 fr hfr
    have a:¬(c=40/\r.head? = some 42):=λq=>a ((htw _ _).2 q);have L30:∀x:Bool,x=decide (0<d/\c=42/\r.head? = some 41)->ay P pl X0 (.jump (si (ptr b) (i64 (d:Int)) (i64 (fr:Int)) (b8 c) x H nx)) nx0 H0 (Le b s F nx0 H0 (fB s d fr i)):=by
     intro x hx;refine Wq.jmp (Jw ..) (λ_=>rfl) ?_;cases x with
     | true=>
       have e:=of_decide_eq_true hx.symm;obtain⟨t,ht⟩:=As e.2.2;rw[e.2.1,ht]at hdr;have hl2:i+2<=s.length:=by
        have:=congrArg List.length hdr;rw[List.length_drop]at this;simp at this;omega
       rw[xi hdr e.1];have e1:IntKind.i64.wrap ((d:Int)-1)=((d-1:Nat):Int):=by rw[bm (by omega)];omega
       have e2:IntKind.i64.wrap ((i:Int)+2)=((i+2:Nat):Int):=by rw[bm (by omega)];omega
       simp only[ab,fe h,e1,e2];refine Hq.put [] h jJ rfl rfl (by simp) rfl λH2 h2=> ?_;exact ih (i+2) (d-1) fr H2 nx (by omega) hl2 (by omega) hfr h2
     | false=>
       have e:¬(0<d/\c=42/\r.head? = some 41):=of_decide_eq_false hx.symm;have L36:∀y:Bool,(y=true↔(0<d\/ws c=true))->ay P pl X0 (.jump (kn (ptr b) (i64 (d:Int)) (i64 (fr:Int)) y H nx)) nx0 H0 (Le b s F nx0 H0 (fB s d fr i)):=by
        intro y hy;refine Wq.jmp (Jx ..) (λ_=>rfl) ?_;cases y with
        | true=>
          rw[Bs hdr a e (hy.1 rfl)];simp only[ab,fe h,aB (show i<9223372036854775807 by omega)];refine Hq.put [] h jJ rfl rfl (by simp) rfl λH2 h2=> ?_;exact ih (i+1) d fr H2 nx (by omega) hlt (by omega) hfr h2
        | false=>
          have w:¬(0<d\/ws c=true):=λq=>by have:=hy.2 q;cases this
          obtain rfl:d=0:=by omega
          rw[Bt hdr a (λq=>w (.inr q))];exact iO h
       simp only[ab];have hws:ws c=(decide (c=9)||(decide (c=10)||(decide (c=13)||decide (c=32)))):=by
        unfold ws;rw[Bool.or_assoc,Bool.or_assoc];rfl
       refine Wq.ite (λh0=>L36 _ (by simp;omega)) (λh0=> ?_);have hd0:¬ 0<d:=by omega
       have h9:decide ((c.toNat:Int)=9)=decide (c=9):=hu 9 (by decide);have h10:decide ((c.toNat:Int)=10)=decide (c=10):=hu 10 (by decide);have h13:decide ((c.toNat:Int)=13)=decide (c=13):=hu 13 (by decide);have h32:decide ((c.toNat:Int)=32)=decide (c=32):=hu 32 (by decide);rw[h9,h10,h13,h32];refine Wq.ite (λq=>L36 _ (by rw[hws,decide_eq_true q];simp)) (λq1=> ?_);refine Wq.ite (λq=>L36 _ (by rw[hws,decide_eq_true q];simp)) (λq2=> ?_);refine Wq.ite (λq=>L36 _ (by rw[hws,decide_eq_true q];simp)) (λq3=> ?_);exact L36 _ (by rw[hws,decide_eq_false q1,decide_eq_false q2,decide_eq_false q3];simp[hd0])
    refine Wq.ite (λd0=> ?_) (λd0=> ?_)
    . refine L30 _ ?_;rw[decide_eq_decide,htw];have:0<d:=by omega
      simp[this]
    . exact L30 _ (by rw[decide_eq_false (λq=>d0 (by have:=q.1;omega))])
   refine Wq.jmp (HK ..) (λ_=>rfl) ?_;simp only[ab,fe h,rl h,aN _ a7,aQ,bh hlt,hin,aB (show i<9223372036854775807 by omega)];have e2:IntKind.i64.wrap ((i:Int)+2)=((i+2:Nat):Int):=by rw[bm (by omega)];omega
   refine Wq.ite (λhl2=> ?_) (λhl2=> ?_)
   . have hl2:i+2<=s.length:=by omega
     simp only[ab,fe h,rl h,e2,cj a7 (show i<=i+2 by omega) hl2];rw[hdr,show i+2-i=2 by omega];refine L18 _ λx y=> ?_;cases r with
     | nil=>simp at hrl;omega
     | cons e t=>simp
   . refine L18 [] λx y=> ?_;cases r with
     | nil=>simp
     | cons e t=>simp at hrl;omega
theorem Nr (hl:s.length<ee){i:Nat}(hi:i<=s.length)(h:Hp nx0 H0 (tB b s i::F) H nx):
 ay P pl X0 (aV P pl (.call 22 [ptr b] false none H nx)) nx0 H0 (Le b s F nx0 H0 ((di (s.drop i)).2,i+(di (s.drop i)).1)):=by
 rw[Pg,<- iG s 0];exact EC hl s.length i 0 0 H nx (Nat.sub_le _ _) hi (Nat.zero_le _) (Nat.zero_le _) h
end
section
variable {nx0 nx nx':Nat}{H0 H H':T OB}{F:List Bx}{b:Nat}{s:List UInt8}
theorem GO (n:Int):aO P 70 (some [(3,i64 n)])=some (.agg ⟨[i64 0,ar [],i64 0,i64 n]⟩):=aL dR (by kernel_rfl)
theorem Ns {j:Nat}{x:List UInt8}(hx:bB[j]? = some x):da P 103 (some (.agg ⟨bB.map ar⟩)) (some (i64 (j:Int)))=some (ar x):=by
 have hj:j<22:=(List.getElem?_eq_some_iff.1 hx).1;show fY (j:Int) (EX P 103 (bB.map ar)) none=_;rw[ej];unfold EX;rw[show P.underlying 103=some (.array 22 9)from by kernel_rfl];simp only[show Nat.blt j 22=true from Nat.ble_eq_true_of_le hj,cond_true,ox,jK,Nat.mul_one,List.getElem?_map,hx,Option.map_some]
theorem ay.Nt {p:Prop}[Decidable p]{R:Go.Ev.Out->T OB->Nat->Prop}{x y:Q}(h:¬p->ay P pl X0 x nx0 H0 R)(h':p->ay P pl X0 y nx0 H0 R):ay P pl X0 (Ev.bK (!decide p) x y) nx0 H0 R:=
 Wq.bK (λq=>h (by simpa using q)) (λq=>h' (by simpa using q))
def OQ (q:Option (Tok×Nat))(i:Nat)(t:Tok)(n:Nat):Prop:=match q with
 | some q=>t=⟨q.1.k,q.1.s,q.1.n,(i:Int)⟩/\n=q.2
 | none=>n=0
abbrev KW (b:Nat)(s:List UInt8)(i:Nat)(F:List Bx)(nx0:Nat)(H0:T OB):Go.Ev.Out->T OB->Nat->Prop:=λo H nx=>∃(t:Tok) (n:Nat),o= .ret (.tuple ⟨[t.v,i64 (n:Int)]⟩)/\OQ (jR (s.drop i)) i t n/\Hp nx0 H0 (tB b s i::F) H nx
theorem j4 {i n b0 b1:Nat}{t:Tok}{l:List Value}(hl:l.length=4)(ht:OQ (jR (s.drop i)) i t n)(h:Hp nx0 H0 (tB b s i::(b1,t.c,70)::(b0,l,70)::F) H nx):
 ay P pl X0 (af (aj P H 70 (some (ptr b1))) (λx0=>bf (bY P H nx 70 (some (ptr b0)) (some x0)) (λx1 H nx=>af (aj P H 70 (some (ptr b0))) (λx2=> .ret ⟨.ret (.tuple ⟨[x2,i64 (n:Int)]⟩),false,H,nx⟩) .bad)) .bad) nx0 H0 (KW b s i F nx0 H0):=by
 simp only[ab,DP (h.at_ 1 rfl)];refine Hq.store [_,_] h fN (by rw[hl];decide) rfl rfl λH2 h2=> ?_;have e:gg l t.v.cells.toList 0=t.c:=by
  obtain⟨a0,a1,a2,a3,rfl⟩:∃a0 a1 a2 a3,l=[a0,a1,a2,a3]:=by
   match l with
   | [a0,a1,a2,a3]=>exact⟨a0,a1,a2,a3,rfl⟩
  rfl
 rw[e]at h2;simp only[ab,DP (h2.at_ 2 rfl)];exact Wq.kj h2.ag ⟨t,n,rfl,ht,h2.lb.lb⟩
theorem ED {l x:List UInt8}(h:x.length<=l.length):decide (l.take x.length=x)=x.isPrefixOf l:=by
 rw[Bool.eq_iff_iff,decide_eq_true_eq,List.isPrefixOf_iff_prefix,List.prefix_iff_eq_take];exact eq_comm
theorem GP (hl:s.length<ee){i b0 b1:Nat}{l0:List Value}(hi:i<=s.length)(hl0:l0.length=4)(hlex:jR (s.drop i)=(bB.find? λx=>x.isPrefixOf (s.drop i)).map λx=>(⟨7,x,0,0⟩,x.length)):
 ∀(l:List (List UInt8)) (j:Nat) (H:T OB) (nx:Nat),bB.drop j=l->j<=22->(bB.find? λx=>x.isPrefixOf (s.drop i))=l.find? (λx=>x.isPrefixOf (s.drop i))->
 Hp nx0 H0 (tB b s i::(b1,[i64 0,ar [],i64 0,i64 (i:Int)],70)::(b0,l0,70)::F) H nx->
 ay P pl X0 (.jump (sn (ptr b) (ptr b0) (ptr b1) (i64 0) (.agg ⟨bB.map ar⟩) (i64 (j:Int)) H nx)) nx0 H0 (KW b s i F nx0 H0):=by
 have hbig:ee=1125899906842624:=rfl;intro l
 induction l with
 | nil=>
   intro j H nx hd hj hf h;have hj2:j=22:=drop_nil hd hj;refine Wq.jmp (CR ..) (λ_=>rfl) ?_;simp only[ab,show decide ((j:Int)<22)=false by simp;omega];exact j4 (n:=0) (t:=⟨0,[],0,(i:Int)⟩) hl0 (by rw[hlex,hf];rfl) h
 | cons x l ih=>
   intro j H nx hd hj hf h;obtain⟨hg,hlt,hd'⟩:=drop_cons hd;have hlt:j<22:=hlt;have hxl:∀x∈bB,1<=x.length/\x.length<=2:=by decide
   have hx:=hxl x (List.mem_of_getElem? hg);have L18:∀y:Bool,y=x.isPrefixOf (s.drop i)->ay P pl X0 (.jump (so (ptr b) (ptr b0) (ptr b1) (i64 0) (ar x) (.agg ⟨bB.map ar⟩) (i64 (j:Int)) y H nx)) nx0 H0 (KW b s i F nx0 H0):=by
    intro y hy;refine Wq.jmp (JA ..) (λ_=>rfl) ?_;rw[List.find?_cons,<- hy]at hf;cases y with
    | true=>
      simp only[ab,aN _ a7,aQ];refine Hq.put [_] h jJ rfl rfl (by simp) rfl λH2 h2=> ?_;refine Hq.put [_] h2 jK rfl rfl (by simp) rfl λH3 h3=> ?_;exact j4 (t:=⟨7,x,0,(i:Int)⟩) hl0 (by rw[hlex,hf];exact⟨rfl,rfl⟩) h3
    | false=>
      simp only[ab,aB (show j<9223372036854775807 by omega)];exact ih (j+1) H nx hd' (by omega) hf h
   refine Wq.jmp (CR ..) (λ_=>rfl) ?_;have e1:IntKind.i64.wrap ((s.length:Int)-(i:Int))=((s.length-i:Nat):Int):=by rw[bm (by omega)];omega
   simp only[ab,show decide ((j:Int)<22)=true by simp;omega,Ns hg,aN _ a7,aQ,fe h,rl h,e1];refine Wq.ite (λhle=> ?_) (λhle=> ?_)
   . have hle:i+x.length<=s.length:=by omega
     have e2:IntKind.i64.wrap ((i:Int)+(x.length:Int))=((i+x.length:Nat):Int):=by rw[bm (by omega)];omega
     simp only[ab,fe h,rl h,aN _ a7,aQ,e2,cj a7 (Nat.le_add_right i x.length) hle,m5,Nat.add_sub_cancel_left];refine L18 _ ?_;exact ED (by rw[List.length_drop];omega)
   . refine L18 _ ?_;cases hq:x.isPrefixOf (s.drop i)with
     | false=>rfl
     | true=>
       have:=(List.isPrefixOf_iff_prefix.1 hq).length_le;rw[List.length_drop]at this;omega
theorem GQ (hl:s.length<ee){i b0 b1:Nat}{l0:List Value}{c d:UInt8}{w:List UInt8}(hdr:s.drop i=c::d::w)(hl0:l0.length=4)
 (hlex:jR (s.drop i)=some (⟨5,(c::d::w).take (2+(w.takeWhile At).length),0,0⟩,2+(w.takeWhile At).length)):
 ∀(r:List UInt8) (n:Nat) (H:T OB) (nx:Nat),s.drop (i+n)=r->2<=n->i+n<=s.length->n+(r.takeWhile At).length=2+(w.takeWhile At).length->
 Hp nx0 H0 (tB b s i::(b1,[i64 0,ar [],i64 0,i64 (i:Int)],70)::(b0,l0,70)::F) H nx->
 ay P pl X0 (.jump (sk (ptr b) (ptr b0) (ptr b1) (i64 (n:Int)) H nx)) nx0 H0 (KW b s i F nx0 H0):=by
 have hbig:ee=1125899906842624:=rfl;intro r
 induction r with
 | nil=>
   intro n H nx hd hn hin he h;have hil:=drop_nil hd hin;have e2:IntKind.i64.wrap ((i:Int)+(n:Int))=((i+n:Nat):Int):=by rw[bm (by omega)];omega
   refine Wq.jmp (CQ ..) (λ_=>rfl) ?_;simp only[ab,fe h,rl h,aN _ a7,aQ,e2,show decide (((i+n:Nat):Int)<(s.length:Int))=false by simp;omega,cj a7 (Nat.le_add_right i n) hin];refine Hq.put [_] h jJ rfl rfl (by simp) rfl λH2 h2=> ?_;simp only[ab,fe h2,rl h2,e2,cj a7 (Nat.le_add_right i n) hin,aM];refine Hq.put [_] h2 jK rfl rfl (by simp) rfl λH3 h3=> ?_;refine j4 (t:=⟨5,(s.drop i).take (i+n-i),0,(i:Int)⟩) hl0 ?_ h3;rw[hlex,hdr,Nat.add_sub_cancel_left];rw[List.takeWhile_nil,List.length_nil,Nat.add_zero]at he;rw[he];exact⟨rfl,rfl⟩
 | cons x r ih=>
   intro n H nx hd hn hin he h;obtain⟨hg,hlt,hd'⟩:=drop_cons hd;have hix:=bj (P:=P) a7 hg .i64;have e2:IntKind.i64.wrap ((i:Int)+(n:Int))=((i+n:Nat):Int):=by rw[bm (by omega)];omega
   have stop:At x=false->n=2+(w.takeWhile At).length:=λq=>by
    rw[List.takeWhile_cons,q]at he;simpa using he
   refine Wq.jmp (CQ ..) (λ_=>rfl) ?_;simp only[ab,fe h,rl h,aN _ a7,aQ,e2,bh hlt,hix];have e39:decide ((x.toNat:Int)=39)=decide (x.toNat=39):=by rw[decide_eq_decide];omega
   rw[e39];refine _root_.Go.Proofs.YthjhonhhbddhkaaDoor.ay.Nt (λh39=> ?_) (λh39=> ?_)
   . refine Hq.call (zU x) h λH1 aI h1=> ?_;have hT:At x=iz x:=by unfold At;rw[decide_eq_false h39];rfl
     cases hw:iz x with
     | true=>
       simp only[ab,aB (show n<9223372036854775807 by omega)];refine ih (n+1) H1 aI hd' (by omega) (by omega) ?_ h1;rw[List.takeWhile_cons,hT,hw]at he;simp only[if_true,List.length_cons]at he;omega
     | false=>
       have hn2:=stop (by rw[hT,hw]);simp only[ab,fe h1,rl h1,e2,cj a7 (Nat.le_add_right i n) hin];refine Hq.put [_] h1 jJ rfl rfl (by simp) rfl λH2 h2=> ?_;simp only[ab,fe h2,rl h2,e2,cj a7 (Nat.le_add_right i n) hin,aM];refine Hq.put [_] h2 jK rfl rfl (by simp) rfl λH3 h3=> ?_;refine j4 (t:=⟨5,(s.drop i).take (i+n-i),0,(i:Int)⟩) hl0 ?_ h3;rw[hlex,hdr,Nat.add_sub_cancel_left,hn2];exact⟨rfl,rfl⟩
   . have hn2:=stop (by unfold At;rw[decide_eq_true h39];rfl);simp only[ab,fe h,rl h,e2,cj a7 (Nat.le_add_right i n) hin];refine Hq.put [_] h jJ rfl rfl (by simp) rfl λH2 h2=> ?_;simp only[ab,fe h2,rl h2,e2,cj a7 (Nat.le_add_right i n) hin,aM];refine Hq.put [_] h2 jK rfl rfl (by simp) rfl λH3 h3=> ?_;refine j4 (t:=⟨5,(s.drop i).take (i+n-i),0,(i:Int)⟩) hl0 ?_ h3;rw[hlex,hdr,Nat.add_sub_cancel_left,hn2];exact⟨rfl,rfl⟩
theorem Nu (hl:s.length<=1000000){i:Nat}(hi:i<s.length)(h:Hp nx0 H0 (tB b s i::F) H nx):ay P pl X0 (aV P pl (.call 23 [ptr b] false none H nx)) nx0 H0 (KW b s i F nx0 H0):=by
 have hbig:ee=1125899906842624:=rfl;have hlb:s.length<ee:=by omega
 obtain⟨c,u,hdr⟩:∃c u,s.drop i=c::u:=by
  cases hq:s.drop i with
  | nil=>have:=drop_nil hq (by omega);omega
  | cons c r=>exact⟨c,r,rfl⟩
 obtain⟨hg,_,hd'⟩:=drop_cons hdr;have hin:=bj (P:=P) a7 hg .i64;have hul:u.length=s.length-(i+1):=by rw[<- hd',List.length_drop]
 have hP:=eB c u;rw[<- hdr]at hP;have hc:=c.toNat_lt;rw[Ph];refine Hq.alloc dR h λb0 H1 aI h1=> ?_;simp only[ab,fe h1,rl h1,hin,GO];refine Hq.alloc dR h1 λb1 H2 nx2 h2=> ?_;refine Hq.store [_] h2 fN (by simp) rfl rfl λH3 h3=> ?_;replace h3:Hp nx0 H0 (tB b s i::(b1,[i64 0,ar [],i64 0,i64 (i:Int)],70)::(b0,[i64 0,ar [],i64 0,i64 0],70)::F) H3 nx2:=h3;refine Hq.call (zT c) h3 λH4 nx4 h4=> ?_;cases hdg:bA c with
 | true=>
   rw[if_pos hdg]at hP;simp only[ab];refine Hq.put [_] h4 jJ rfl rfl (by simp) rfl λH5 h5=> ?_;simp only[ab,fe h5,rl h5,iA (show i<=s.length by omega)];refine Hq.call (KQ (s.drop i) (by rw[List.length_drop];omega)) h5 λH6 nx6 h6=> ?_;unfold EU;unfold Bq at hP;rw[hdr]at hP ⊢;cases hN:jQ 0 ((c::u).takeWhile bA)with
   | some v=>
     rw[hN]at hP;simp only[Nat.zero_add];refine Hq.put [_] h6 LO rfl rfl (by simp) rfl λH7 h7=> ?_;refine Wq.jmp (sq ..) (λ_=>rfl) ?_;exact j4 (t:=⟨1,[],(v:Int),(i:Int)⟩) rfl (by rw[hdr,hP];exact⟨rfl,rfl⟩) h7
   | none=>
     rw[hN]at hP;simp only[ab];refine Hq.put [_] h6 LO rfl rfl (by simp) rfl λH7 h7=> ?_;refine Wq.jmp (sq ..) (λ_=>rfl) ?_;exact j4 (n:=0) (t:=⟨1,[],0,(i:Int)⟩) rfl (by rw[hdr,hP];rfl) h7
 | false=>
   rw[if_neg (by rw[hdg];decide)]at hP;unfold tz at hP;simp only[ab];refine Wq.ite (λh34=> ?_) (λh34=> ?_)
   . rw[if_pos (by omega)]at hP;refine Hq.put [_] h4 jJ rfl rfl (by simp) rfl λH5 h5=> ?_;simp only[ab,fe h5,rl h5,iA (show i<=s.length by omega)];refine Hq.call (KS (s.drop i) (by rw[List.length_drop];omega) (by rw[List.length_drop];omega)) h5 λH6 nx6 h6=> ?_;have e:qt (s.drop i).length ((s.drop i).drop 1)=qt (u.length+1) u:=by rw[hdr];rfl
     rw[e];cases hN:qt (u.length+1) u with
     | some v=>
       rw[hN]at hP;unfold GL;simp only[ab,List.nil_append];refine Hq.put [_] h6 jK rfl rfl (by simp) rfl λH7 h7=> ?_;refine Wq.jmp (sq ..) (λ_=>rfl) ?_;exact j4 (t:=⟨2,v.1,0,(i:Int)⟩) rfl (by rw[hP];exact⟨rfl,rfl⟩) h7
     | none=>
       rw[hN]at hP;unfold GL;simp only[ab];refine Hq.put [_] h6 jK rfl rfl (by simp) rfl λH7 h7=> ?_;refine Wq.jmp (sq ..) (λ_=>rfl) ?_;exact j4 (n:=0) (t:=⟨2,[],0,(i:Int)⟩) rfl (by rw[hP];rfl) h7
   rw[if_neg (by omega)]at hP;have L38:∀(x:Bool) H5 nx5,x=(ck c||bW c)->Hp nx0 H0 (tB b s i::(b1,[i64 0,ar [],i64 0,i64 (i:Int)],70)::(b0,[i64 0,ar [],i64 0,i64 0],70)::F) H5 nx5->
    ay P pl X0 (.jump (sj (ptr b) (ptr b0) (b8 c) (ptr b1) (i64 0) x H5 nx5)) nx0 H0 (KW b s i F nx0 H0):=by
    intro x H5 nx5 hx h5;refine Wq.jmp (Jy ..) (λ_=>rfl) ?_;rw[<- hx]at hP;cases x with
    | true=>
      rw[if_pos rfl]at hP;simp only[ab,fe h5];have e:(s.drop i).take (1+((s.drop (i+1)).takeWhile iz).length)=c::u.takeWhile iz:=by
       rw[hdr,hd',Nat.add_comm,List.take_succ_cons,tA]
      have h102:=KV hlb hi h5;rw[e]at h102;refine Sq.jr rfl h102 λH6 nx6 h6=> ?_;refine Hq.put [_] h6 jK rfl rfl (by simp) rfl λH7 h7=> ?_;simp only[ab,ak (off:=1) (u:=ar (c::u.takeWhile iz)) (h7.at_ 1 rfl) ox rfl];refine Hq.qT (HT c (u.takeWhile iz)) h7 λH8 nx8 h8=> ?_;refine Hq.put [_] h8 jJ rfl rfl (by simp) rfl λH9 h9=> ?_;simp only[ab,ak (off:=1) (u:=ar (c::u.takeWhile iz)) (h9.at_ 1 rfl) ox rfl,aN _ a7,aQ];exact j4 (t:=⟨jm (c::u.takeWhile iz),c::u.takeWhile iz,0,(i:Int)⟩) rfl (by rw[hP];exact⟨rfl,by rw[List.length_cons,Nat.add_comm]⟩) h9
    | false=>
      rw[if_neg (by decide)]at hP;have L46:∀(y:Bool) H5 nx5,(y=true↔(c.toNat=39/\jv u=true))->Hp nx0 H0 (tB b s i::(b1,[i64 0,ar [],i64 0,i64 (i:Int)],70)::(b0,[i64 0,ar [],i64 0,i64 0],70)::F) H5 nx5->
       ay P pl X0 (.jump (oz (ptr b) (ptr b0) (ptr b1) (i64 0) y H5 nx5)) nx0 H0 (KW b s i F nx0 H0):=by
       intro y H5 nx5 hy h5;refine Wq.jmp (Jz ..) (λ_=>rfl) ?_;cases y with
       | true=>
         have hc2:=hy.1 rfl;rw[if_pos hc2]at hP;obtain⟨d,w,rfl⟩:∃d w,u=d::w:=by
          cases u with
          | nil=>cases hc2.2
          | cons d w=>exact⟨d,w,rfl⟩
         simp only[List.length_cons]at hul;refine GQ hlb hdr rfl hP (s.drop (i+2)) 2 H5 nx5 rfl (Nat.le_refl _) (by omega) ?_ h5;have:s.drop (i+2)=w:=by rw[<- List.drop_drop,hdr];rfl
         rw[this]
       | false=>
         rw[if_neg (λq=>by have:=hy.2 q;cases this)]at hP;simp only[ab];rw[wP ((h5.sQ.ag h5.ag).HS) Ft Jh rfl];simp only[ab];rw[<- hdr]at hP;exact GP hlb (by omega) rfl hP bB 0 H5 nx5 rfl (by omega) rfl h5
      simp only[ab];refine Wq.ite (λh39=> ?_) (λh39=>L46 _ _ _ (by simp;omega) h5);simp only[ab,fe h5,rl h5,aN _ a7,aQ,aB (show i<9223372036854775807 by omega)];refine Wq.ite (λhi2=> ?_) (λhi2=>L46 _ _ _ ?_ h5)
      . obtain⟨d,w,rfl⟩:∃d w,u=d::w:=by
         cases u with
         | nil=>simp at hul;omega
         | cons d w=>exact⟨d,w,rfl⟩
        have hg2:=(drop_cons hd').1;simp only[ab,fe h5,rl h5,aB (show i<9223372036854775807 by omega),bj a7 hg2];refine Hq.call (uQ d) h5 λH6 nx6 h6=> ?_;simp only[ab];refine L46 _ _ _ ?_ h6;show ck d=true↔_/\ck d=true;exact⟨λq=>⟨by omega,q⟩,λq=>q.2⟩
      . cases u with
        | nil=>simp[jv]
        | cons d w=>simp at hul;omega
   refine Hq.call (uQ c) h4 λH5 nx5 h5=> ?_;cases hlow:ck c with
   | true=>
     simp only[ab];exact L38 _ _ _ (by rw[hlow];rfl) h5
   | false=>
     simp only[ab];refine Hq.call (zS c) h5 λH6 nx6 h6=> ?_;simp only[ab];exact L38 _ _ _ (by rw[hlow];rfl) h6
end
section
variable {nx0 nx nx':Nat}{H0 H H':T OB}{F G:List Bx}{b:Nat}{s:List UInt8}
def gp (s:List UInt8):Nat->List Tok->Nat->List Tok×Nat×Int
 | 0,_,i=>([],i,70)
 | m+1,out,i=>if(di (s.drop i)).2=false then([],i+(di (s.drop i)).1,70)
   else if s.length<=i+(di (s.drop i)).1 then(out++[⟨0,[],0,(s.length:Int)⟩],0,0)
   else match jR (s.drop (i+(di (s.drop i)).1))with
    | none=>([],i+(di (s.drop i)).1,70)
    | some q=>if 1000<=out.length then([],i+(di (s.drop i)).1,3)
      else gp s m (out++[⟨q.1.k,q.1.s,q.1.n,((i+(di (s.drop i)).1:Nat):Int)⟩]) (i+(di (s.drop i)).1+q.2)
def scan (s:List UInt8):List Tok×Nat×Int:=if 4096<s.length then([],0,3)else gp s (s.length+1) [] 0
abbrev vp (q:List Tok×Nat×Int):Value:= .tuple ⟨[gU q.1,i64 (q.2.1:Int),i64 q.2.2]⟩
theorem vq {r:List UInt8}{q:Tok×Nat}(h:jR r=some q):0<q.2/\q.2<=r.length:=by
 cases r with
 | nil=>cases h
 | cons c u=>
   rw[eB]at h
   by_cases hd:bA c=true
   . rw[if_pos hd]at h;have e:(c::u).takeWhile bA=c::u.takeWhile bA:=by rw[List.takeWhile_cons,hd];rfl
     rw[e]at h;unfold Bq at h;have hle:=Au (p:=bA) u;cases hN:jQ 0 (c::u.takeWhile bA)with
     | none=>rw[hN]at h;cases h
     | some v=>rw[hN]at h;cases h;simp;omega
   rw[if_neg hd]at h;unfold tz at h
   by_cases h34:c.toNat=34
   . rw[if_pos h34]at h;obtain⟨q1,hq,rfl⟩:=Option.map_eq_some_iff.1 h;have:=IH hq;simp;omega
   rw[if_neg h34]at h
   by_cases hl:(ck c||bW c)=true
   . rw[if_pos hl]at h;have hle:=Au (p:=iz) u;cases h;simp;omega
   rw[if_neg hl]at h
   by_cases h39:c.toNat=39/\jv u=true
   . rw[if_pos h39]at h;cases u with
     | nil=>cases h39.2
     | cons d w=>
       have hle:=Au (p:=At) w;cases h;simp only[List.drop_succ_cons,List.drop_zero,List.length_cons];omega
   rw[if_neg h39]at h;obtain⟨x,hx,rfl⟩:=Option.map_eq_some_iff.1 h;have hp:=(List.isPrefixOf_iff_prefix.1 (by simpa using List.find?_some hx:x.isPrefixOf (c::u)=true)).length_le;have hm:=Nq _ (List.mem_of_find?_eq_some hx);refine⟨?_,hp⟩;cases x with
   | nil=>exact absurd rfl hm.2
   | cons a x=>simp
theorem Nv:cQ P 4 70=[]:=by kernel_rfl
theorem GR (t:Tok):mJ true 4 [t.v]:=λv hv=>by
 rw[List.mem_singleton]at hv;subst hv;exact⟨rfl,rfl,⟨_,rfl⟩⟩
theorem Bu {x:Bx}{out:List Tok}{sl:Value}{kt:Value->T OB->Nat->Q}{R:Go.Ev.Out->T OB->Nat->Prop}(hG:Gw true 4 70 (out.map Tok.v) sl G)(h:Hp nx0 H0 (x::(G++F)) H nx)(hk:∀H' nx',Hp nx0 H0 (x::F) H' nx'->ay P pl X0 (kt (gU out) H' nx') nx0 H0 R):ay P pl X0 (bw P 35 sl H nx kt) nx0 H0 R:=by
 have e:bw P 35 sl H nx kt=hZ P 100000 35 sl H nx kt:=by
  unfold bw;rcases hG.2 with⟨_,rfl,_⟩ | ⟨b,c,rfl,_⟩<;>rfl
 rw[e];exact(cg.gw (t:=35) (n:=0) rV fN wm rfl Nv hG (gQ.id λv hv=>by
  obtain⟨t,_,rfl⟩:=List.mem_map.1 hv;exact fE.of ec.nil) (λu hu=>by obtain⟨x,_,rfl⟩:=List.mem_map.1 hu;rfl) id) 100000 (by omega) nx0 nx H0 H x F kt R h hk
theorem jI (H:T OB)(nx:Nat)(k:Value->T OB->Nat->Q):bw P 35 aq H nx k=k (gU []) H nx:=by kernel_rfl
theorem GS (n:Int):aO P 70 (some [(0,i64 0),(3,i64 n)])=some (Tok.v ⟨0,[],0,n⟩):=aL dR (by kernel_rfl)
theorem Hq.II (A:List Bx){B:List Bx}{x:Bx}{c:Nat}{l:List Tok}{t:Tok}{sl:Value}{kt:Value->T OB->Nat->Q}{R:Go.Ev.Out->T OB->Nat->Prop}(hl:l.length<=1000000)(hG:Gw true 4 70 (l.map Tok.v) sl G)(h:Hp nx0 H0 (x::(c,t.c,70)::(A++(G++B))) H nx)
 (hk:∀sl' G' H' nx',Gw true 4 70 ((l++[t]).map Tok.v) sl' G'->Hp nx0 H0 (x::(A++(G'++B))) H' nx'->ay P pl X0 (kt sl' H' nx') nx0 H0 R):ay P pl X0 (bf (cw P H nx [35,35] (some [sl,.slice (some ⟨c,0,none⟩) 1 1])) kt) nx0 H0 R:=
 Hq.add A rV fN (Mv (by rw[List.length_map];omega)) (by rw[List.length_map];omega) (GR t) hG h λsl' G' H' nx' hG' h'=>hk sl' G' H' nx' (by rw[List.map_append];exact hG') h'
theorem Gw.OR {l:List Tok}{sl:Value}(hG:Gw true 4 70 (l.map Tok.v) sl G):bJ P #[35] 3 (some [sl])=some (i64 (l.length:Int)):=by
 rcases hG.2 with⟨h0,rfl,_⟩ | ⟨b,c,rfl,_⟩
 . rw[List.map_eq_nil_iff.1 h0];kernel_rfl
 . rw[List.length_map];exact d_ (by kernel_rfl)
theorem OS (hl:s.length<=4096):∀(m i:Nat) (out:List Tok) (sl:Value) (G:List Bx) (H:T OB) (nx:Nat),s.length-i<m->i<=s.length->out.length<=1000->Gw true 4 70 (out.map Tok.v) sl G->Hp nx0 H0 (tB b s i::([]++(G++[]))) H nx->
 Wq P pl X0 (.jump (rZ (ar s) (ptr b) sl H nx)) nx0 H0 (vp (gp s m out i)):=by
 have hbig:ee=1125899906842624:=rfl;intro m
 induction m with
 | zero=>intro i out sl G H nx hm;omega
 | succ m ih=>
   intro i out sl G H nx hm hi ho hG h;refine Wq.jmp (Jr ..) (λ_=>rfl) ?_;refine Sq.jr rfl (Nr (by omega) hi h) λH1 aI h1=> ?_;have hle:=xh (s.drop i);rw[List.length_drop]at hle;unfold gp;generalize hp:di (s.drop i)=p at h1 hle ⊢;obtain⟨n,ok⟩:=p;simp only at h1 hle ⊢;cases ok with
   | false=>
     rw[if_pos rfl];simp only[ab,fe h1];rw[jI];exact Wq.ret h1.ag
   | true=>
     rw[if_neg (by decide)];simp only[ab,fe h1,aN _ a7,aQ];refine Wq.ite (λhge=> ?_) (λhge=> ?_)
     . rw[if_pos (by omega)];simp only[ab,GS];refine Hq.row rV fN dR rfl (Ic _ _ _ _) h1 λc H2 nx2 h2=> ?_;refine Hq.II [] (t:=⟨0,[],0,(s.length:Int)⟩) (by omega) hG h2 λsl' G' H3 nx3 hG' h3=> ?_;refine Bu hG' h3 λH4 nx4 h4=> ?_;exact Wq.ret h4.ag
     . have hlt:i+n<s.length:=by omega
       rw[if_neg (by omega)];refine Wq.fM rfl (Nu (by omega) hlt h1) (λv H2 nx2 hA2 hR=> ?_) (λv H2 nx2 hA2 hR=>by obtain⟨t,k,q,_⟩:=hR;cases q);obtain⟨t,k,q,hT,h2⟩:=hR;cases q;refine Hq.var (x:=t.v) dR fN rfl rfl rfl h2 λH3 nx3 h3=> ?_;unfold OQ at hT;cases hx:jR (s.drop (i+n))with
       | none=>
         rw[hx]at hT;subst hT;simp only[ab,fe h3];rw[jI];exact Wq.ret h3.ag
       | some q=>
         rw[hx]at hT;obtain⟨rfl,rfl⟩:=hT;have hpos:=vq hx;rw[List.length_drop]at hpos;simp only[ab,show decide ((q.2:Int)=0)=false by simp;omega,hG.OR];refine Wq.ite (λh1000=> ?_) (λh1000=> ?_)
         . rw[if_pos (by omega)];simp only[ab,fe h3];rw[jI];exact Wq.ret h3.ag
         . rw[if_neg (by omega)];refine Hq.row rV fN dR rfl (Ic _ _ _ _) h3 λc H4 nx4 h4=> ?_;refine Hq.II [] (t:=⟨q.1.k,q.1.s,q.1.n,((i+n:Nat):Int)⟩) (by omega) hG h4 λsl' G' H5 nx5 hG' h5=> ?_;have ew:IntKind.i64.wrap (((i+n:Nat):Int)+(q.2:Int))=((i+n+q.2:Nat):Int):=by rw[bm (by omega)];omega
           simp only[ab,fe h5,ew];refine Hq.put [] h5 jJ rfl rfl (by simp) rfl λH6 h6=> ?_;exact ih (i+n+q.2) _ sl' G' H6 nx5 (by omega) (by omega) (by rw[List.length_append,List.length_singleton];omega) hG' h6
theorem Nw (s:List UInt8)(hl:s.length<ee):PT 12 [ar s] (vp (scan s)):=PT.of rfl λH nx hT=>by
 rw[Pd];unfold scan;simp only[ab,aN _ a7,aQ];refine Wq.ite (λh=> ?_) (λh=> ?_)
 . rw[if_pos (by omega),jI];exact Wq.ret (.refl _ _)
 . rw[if_neg (by omega)];have e:aO P 68 (some [(0,ar s)])=some (.agg ⟨[ar s,i64 0]⟩):=aL (show bn P 68=some [ar [],i64 0]by kernel_rfl) (by kernel_rfl);simp only[ab,e];refine Wq.box (.refl _ _) λH1 hb cX hA=> ?_;have h0:Hp nx H [] H nx:=⟨hT,Ag.refl nx H,by simp,λx hx=>by simp at hx⟩;exact OS (by omega) (s.length+1) 0 [] aq [] H1 (nx+1) (by omega) (Nat.zero_le _) (by simp) (Gw.nil _ _ _) (h0.new hb cX hA)
end
section
variable {t:Tok}{ts rs:List Tok}{r s x:List UInt8}
def sp (r:List UInt8):Prop:=∀c u,r=c::u->c=32\/c=41
theorem xj {p:UInt8->Bool}{l r:List UInt8}(h:l.all p=true)(hr:∀c u,r=c::u->p c=false):(l++r).takeWhile p=l:=by
 rw[List.takeWhile_append_of_pos (List.all_eq_true.1 h)];cases r with
 | nil=>simp
 | cons c u=>rw[List.takeWhile_cons,hr c u rfl];simp
theorem EE (p:UInt8->Bool)(h1:p 32=false)(h2:p 41=false)(h:sp r):∀c u,r=c::u->p c=false:=λc u e=>by
 rcases h c u e with q | q
 . rw[q];exact h1
 . rw[q];exact h2
theorem rm:∀n:Nat,n<10->bA ((48+n).toUInt8)=true/\dv ((48+n).toUInt8)=n:=by decide
theorem GU (u:Nat):∀s,u<=4611686018427387903->jQ 0 (DT u s)=jQ u s:=by
 induction u using Nat.strongRecOn with
 | _ u ih=>
   intro s hu;rw[DT]
   by_cases h:u<10
   . rw[if_pos h,jQ,(rm u h).1,(rm u h).2,if_pos ⟨rfl,Nat.zero_le _⟩,Nat.zero_mul,Nat.zero_add]
   . rw[if_neg h,ih (u/10) (by omega) _ (by omega),jQ,(rm (u%10) (Nat.mod_lt _ (by omega))).1,(rm (u%10) (Nat.mod_lt _ (by omega))).2,if_pos ⟨rfl,by omega⟩];congr 1;omega
theorem GV (u:Nat):∀s,s.all bA=true->(DT u s).all bA=true:=by
 induction u using Nat.strongRecOn with
 | _ u ih=>
   intro s hs;rw[DT]
   by_cases h:u<10
   . rw[if_pos h,List.all_cons,(rm u h).1,hs];rfl
   . rw[if_neg h];exact ih (u/10) (by omega) _ (by rw[List.all_cons,(rm (u%10) (Nat.mod_lt _ (by omega))).1,hs];rfl)
theorem IJ:∀n:Nat,n<16->dN (hx n)=n:=by decide +kernel
theorem Nx (c:UInt8):UInt8.ofNat (16*((c.toNat/16:Nat):Int)+((c.toNat%16:Nat):Int)).toNat=c:=by
 have h:(16*((c.toNat/16:Nat):Int)+((c.toNat%16:Nat):Int)).toNat=c.toNat:=by omega
 rw[h];exact UInt8.ofNat_toNat
theorem Av (c:UInt8)(r:List UInt8):fc (qc c++r)=(c,(qc c).length)/\0<(qc c).length/\∃a u,qc c=a::u/\a.toNat≠34:=by
 have hc:=c.toNat_lt;unfold qc
 by_cases h1:c.toNat=34\/c.toNat=92
 . rw[if_pos h1];refine⟨?_,Nat.succ_pos _,_,_,rfl,by decide⟩;show fc (92::c::r)=_;rw[jH,if_neg (by decide),if_pos (by decide),eA];rcases h1 with h | h
   . rw[if_pos h];have:c=34:=UInt8.toNat_inj.1 h;subst this;rfl
   . rw[if_neg (by omega),if_pos h];have:c=92:=UInt8.toNat_inj.1 h;subst this;rfl
 rw[if_neg h1]
 by_cases h2:c.toNat=10
 . rw[if_pos h2];have:c=10:=UInt8.toNat_inj.1 h2;subst this;exact⟨rfl,by decide,_,_,rfl,by decide⟩
 rw[if_neg h2]
 by_cases h3:c.toNat=9
 . rw[if_pos h3];have:c=9:=UInt8.toNat_inj.1 h3;subst this;exact⟨rfl,by decide,_,_,rfl,by decide⟩
 rw[if_neg h3]
 by_cases h4:c.toNat<32\/126<c.toNat
 . rw[if_pos h4];refine⟨?_,Nat.succ_pos _,_,_,rfl,by decide⟩;show fc (92::120::hx (c.toNat/16)::hx (c.toNat%16)::r)=_;rw[jH,if_neg (by decide),if_pos (by decide),eA,if_neg (by decide),if_neg (by decide),if_neg (by decide),if_neg (by decide),if_pos (by decide)];unfold Et;simp only;rw[IJ _ (by omega),IJ _ (by omega),if_pos ⟨by omega,by omega⟩,Nx];rfl
 . rw[if_neg h4];refine⟨?_,Nat.succ_pos _,_,_,rfl,by omega⟩;show fc (c::r)=_;rw[jH,if_neg (by omega),if_neg (by omega)];rfl
theorem Ny (s:List UInt8):∀(f:Nat),s.length<f->qt f (qs s++34::r)=some (s,(qs s).length+1):=by
 induction s with
 | nil=>
   intro f hf;obtain⟨g,rfl⟩:∃g,f=g+1:=⟨f-1,by simp at hf;omega⟩;show qt (g+1) (34::r)=_;rw[ly,if_pos (by decide)];rfl
 | cons c s ih=>
   intro f hf;obtain⟨g,rfl⟩:∃g,f=g+1:=⟨f-1,by simp at hf;omega⟩;have e:qs (c::s)++34::r=qc c++(qs s++34::r):=by simp[qs]
   obtain⟨h1,h2,a,u,h3,h4⟩:=Av c (qs s++34::r);rw[e];have e2:qc c++(qs s++34::r)=a::(u++(qs s++34::r)):=by rw[h3];rfl
   rw[e2,ly,if_neg h4,<- e2,h1,if_neg (by show ¬(qc c).length=0;omega)];simp only;rw[List.drop_left,ih g (by simp at hf;omega)];simp[qs,List.length_append];omega
theorem EF:∀s∈bB,(∀r,bB.find? (λx=>x.isPrefixOf (s++32::r))=some s)/\(∀r,bB.find? (λx=>x.isPrefixOf (s++41::r))=some s)/\bB.find? (λx=>x.isPrefixOf (s++[]))=some s:=by
 intro s hs;simp only[bB,List.mem_cons,List.not_mem_nil,or_false]at hs;rcases hs with rfl | rfl | rfl | rfl | rfl | rfl | rfl | rfl | rfl | rfl | rfl | rfl | rfl | rfl | rfl | rfl | rfl | rfl | rfl | rfl | rfl | rfl
 all_goals exact⟨λr=>rfl,λr=>rfl,rfl⟩
theorem Aw:∀s∈bB,∃c u,s=c::u/\bA c=false/\c.toNat≠34/\(ck c||bW c)=false/\c.toNat≠39/\ws c=false/\(c=40->u=[])/\(c=42->s=[42]):=by
 intro s hs;simp only[bB,List.mem_cons,List.not_mem_nil,or_false]at hs;rcases hs with rfl | rfl | rfl | rfl | rfl | rfl | rfl | rfl | rfl | rfl | rfl | rfl | rfl | rfl | rfl | rfl | rfl | rfl | rfl | rfl | rfl | rfl
 all_goals exact⟨_,_,rfl,by decide,by decide,by decide,by decide,by decide,by decide,by decide⟩
theorem Bv {s:List UInt8}(hs:s∈bB)(hr:sp r):bB.find? (λx=>x.isPrefixOf (s++r))=some s:=by
 obtain⟨h1,h2,h3⟩:=EF s hs;cases r with
 | nil=>exact h3
 | cons c u=>
   rcases hr c u rfl with rfl | rfl
   . exact h1 u
   . exact h2 u
theorem EG (n:Int)(h0:0<=n):∃c u,BB n=c::u/\bA c=true/\u.all bA=true:=by
 have h1:(BB n).all bA=true:=by unfold BB;rw[if_neg (by omega)];exact GV _ [] rfl
 cases h:BB n with
 | nil=>exact absurd h (Kz n)
 | cons c u=>
   rw[h,List.all_cons,Bool.and_eq_true]at h1;exact⟨c,u,rfl,h1.1,h1.2⟩
theorem KX (h:p4 t):∃c u,fF t=c::u/\ws c=false/\(c=40->u=[])/\(c=42->t.k=7/\t.s=[42]):=by
 obtain⟨h1,h2,h3,h4⟩:=h;have dgw:∀c:UInt8,bA c=true->ws c=false/\c≠40/\c≠42:=by
  intro c hc;rw[gY]at hc;refine⟨?_,λe=>by subst e;simp at hc,λe=>by subst e;simp at hc⟩;unfold ws;simp only[Bool.or_eq_false_iff,beq_eq_false_iff_ne];refine⟨⟨⟨λe=> ?_,λe=> ?_⟩,λe=> ?_⟩,λe=> ?_⟩ <;> · subst e;simp at hc
 have ltw:∀c:UInt8,(ck c||bW c)=true->ws c=false/\c≠40/\c≠42:=by
  intro c hc;unfold ck bW at hc;simp only[Bool.or_eq_true,Bool.and_eq_true,decide_eq_true_eq]at hc;refine⟨?_,λe=>by subst e;simp at hc,λe=>by subst e;simp at hc⟩;unfold ws;simp only[Bool.or_eq_false_iff,beq_eq_false_iff_ne];refine⟨⟨⟨λe=> ?_,λe=> ?_⟩,λe=> ?_⟩,λe=> ?_⟩ <;> · subst e;simp at hc
 unfold fF;unfold eO at h1;rw[if_neg h2]at h1
 by_cases k1:t.k=1
 . rw[if_pos k1]at h1 ⊢;simp only[Bool.and_eq_true,decide_eq_true_eq]at h1;obtain⟨c,u,e,hc,_⟩:=EG t.n h1.2.1;obtain⟨w1,w2,w3⟩:=dgw c hc;exact⟨c,u,e,w1,λq=>absurd q w2,λq=>absurd q w3⟩
 rw[if_neg k1]at h1 ⊢
 by_cases k2:t.k=2
 . rw[if_pos k2];exact⟨34,_,rfl,by decide,λq=>absurd q (by decide),λq=>absurd q (by decide)⟩
 rw[if_neg k2]at h1 ⊢
 by_cases k7:t.k=7
 . rw[if_pos k7,Bool.and_eq_true]at h1;obtain⟨c,u,e,_,_,_,_,w,w1,w2⟩:=Aw t.s (by simpa using h1.2);exact⟨c,u,e,w,w1,λq=>⟨k7,w2 q⟩⟩
 rw[if_neg k7]at h1
 by_cases k5:t.k=5
 . rw[if_pos k5,Bool.and_eq_true]at h1
   match t.s,h1.1 with
   | [],h=>cases h
   | [_],h=>cases h
   | a::b::u,h=>
     have h':(decide (a.toNat=39)&&(ck b&&u.all λc=> !decide (c.toNat=39)&&iz c))=true:=h;rw[Bool.and_eq_true,decide_eq_true_eq]at h';have:a=39:=UInt8.toNat_inj.1 h'.1;subst this;exact⟨39,_,rfl,by decide,λq=>absurd q (by decide),λq=>absurd q (by decide)⟩
 rw[if_neg k5]at h1;split at h1
 . rw[Bool.and_eq_true]at h1
   match t.s,h1.1 with
   | [],h=>cases h
   | c::u,h=>
     have h':((ck c||bW c)&&u.all iz)=true:=h;rw[Bool.and_eq_true]at h';obtain⟨w1,w2,w3⟩:=ltw c h'.1;exact⟨c,u,rfl,w1,λq=>absurd q w2,λq=>absurd q w3⟩
 . cases h1
theorem GW (h:p4 t)(hr:sp r):∃q,jR (fF t++r)=some (q,(fF t).length)/\fg q t:=by
 obtain⟨h1,h2,h3,h4⟩:=h;unfold fF;unfold eO at h1;rw[if_neg h2]at h1
 by_cases k1:t.k=1
 . rw[if_pos k1]at h1 ⊢;simp only[Bool.and_eq_true,decide_eq_true_eq]at h1;obtain⟨c,u,e,hc,hu⟩:=EG t.n h1.2.1;have hd:(BB t.n).all bA=true:=by rw[e,List.all_cons,hc,hu];rfl
   have hw:(BB t.n++r).takeWhile bA=BB t.n:=xj hd (EE _ (by decide) (by decide) hr);have hnum:jQ 0 (BB t.n)=some t.n.natAbs:=by
    unfold BB;rw[if_neg (by omega),GU _ _ (by omega)];rfl
   rw[e]at hw ⊢;show ∃q,jR (c::(u++r))=_/\_;rw[eB,if_pos hc];rw[show c::(u++r)=c::u++r from rfl,hw];unfold Bq;rw[<- e,hnum];exact⟨_,rfl,k1.symm,h1.1.symm,by show((t.n.natAbs:Nat):Int)=t.n;omega⟩
 rw[if_neg k1]at h1 ⊢
 by_cases k2:t.k=2
 . rw[if_pos k2]at h1 ⊢;rw[decide_eq_true_eq]at h1;have e:quote t.s++r=34::(qs t.s++34::r):=by simp[quote]
   rw[e,eB,if_neg (by decide)];unfold tz;rw[if_pos (by decide),Ny t.s _ (by
    have:t.s.length<=(qs t.s).length:=by
     have:∀l:List UInt8,l.length<=(qs l).length:=λl=>by
      induction l with
      | nil=>simp
      | cons a l ih=>
        have:=(Av a []).2.1;simp only[qs,List.flatMap_cons,List.length_append,List.length_cons]at ih ⊢;omega
     exact this _
    rw[List.length_append,List.length_cons];omega)]
   exact⟨⟨2,t.s,0,0⟩,by rw[Option.map_some];congr 2;simp[quote];omega,k2.symm,rfl,h1.symm⟩
 rw[if_neg k2]at h1 ⊢
 by_cases k7:t.k=7
 . rw[if_pos k7,Bool.and_eq_true,decide_eq_true_eq]at h1;have hs:t.s∈bB:=by simpa using h1.2
   obtain⟨c,u,e,w1,w2,w3,w4,_,_,_⟩:=Aw t.s hs;have hf:=Bv hs hr;have e':=e;generalize t.s=s at e hf ⊢;subst e;show ∃q,jR (c::(u++r))=_/\_;rw[eB,if_neg (by rw[w1];decide)];unfold tz;rw[if_neg w2,if_neg (by rw[w3];decide),if_neg (λq=>w4 q.1),show c::(u++r)=c::u++r from rfl,hf,Option.map_some];exact⟨⟨7,c::u,0,0⟩,rfl,k7.symm,e'.symm,h1.1.symm⟩
 rw[if_neg k7]at h1
 by_cases k5:t.k=5
 . rw[if_pos k5,Bool.and_eq_true,decide_eq_true_eq]at h1
   match hts:t.s,h1.1 with
   | [],h=>cases h
   | [_],h=>cases h
   | a::b::u,h=>
     have h':(decide (a.toNat=39)&&(ck b&&u.all λc=> !decide (c.toNat=39)&&iz c))=true:=h;rw[Bool.and_eq_true,decide_eq_true_eq,Bool.and_eq_true]at h';have e:a=39:=UInt8.toNat_inj.1 h'.1;subst e;show ∃q,jR (39::(b::u++r))=_/\_;rw[eB,if_neg (by decide)];unfold tz;have hw:(List.drop 1 (b::u++r)).takeWhile At=u:=xj (p:=At) h'.2.2 (EE _ (by decide) (by decide) hr);rw[if_neg (by decide),if_neg (by decide),if_pos ⟨by decide,h'.2.1⟩,hw];refine⟨⟨5,List.take (2+u.length) (39::(b::u++r)),0,0⟩,?_,k5.symm,?_,h1.2.symm⟩
     rotate_left
     . show List.take (2+u.length) (39::(b::u++r))=t.s;rw[hts,show 39::(b::u++r)=(39::b::u)++r from rfl,show 2+u.length=(39::b::u:List UInt8).length by simp;omega,List.take_left]
     . congr 2;simp;omega
 rw[if_neg k5]at h1
 by_cases kw:t.k=3\/t.k=4\/t.k=6
 . rw[if_pos kw,Bool.and_eq_true,Bool.and_eq_true,decide_eq_true_eq,decide_eq_true_eq]at h1
   match hts:t.s,h1.1 with
   | [],h=>cases h
   | c::u,h=>
     have h':((ck c||bW c)&&u.all iz)=true:=h;rw[Bool.and_eq_true]at h';obtain⟨g1,g2,g3⟩:=KU h'.1;have hw:(u++r).takeWhile iz=u:=xj h'.2 (EE _ (by decide) (by decide) hr);show ∃q,jR (c::(u++r))=_/\_;rw[eB,if_neg (by rw[g1];decide)];unfold tz;rw[if_neg g2,if_pos h'.1,hw];refine⟨⟨jm (c::u),c::u,0,0⟩,?_,?_,hts.symm,h1.2.1.symm⟩
     rotate_left
     . show jm (c::u)=t.k;rw[<- hts];exact h1.2.2
     . congr 2;simp;omega
 . rw[if_neg kw]at h1;cases h1
def Lx:List UInt8->List Tok->Prop
 | r,[]=>(di r).2=true/\r.length<=(di r).1
 | r,t::ts=>(di r).2=true/\¬r.length<=(di r).1/\∃q n,jR (r.drop (di r).1)=some (q,n)/\fg q t/\Lx (r.drop ((di r).1+n)) ts
theorem Lx.nil:Lx [] []:=by
 show(di []).2=true/\_;rw[di];exact⟨rfl,Nat.le_refl _⟩
theorem Lx.sp (h:Lx r ts):Lx (32::r) ts:=by
 have e:di (32::r)=((di r).1+1,(di r).2):=Ew (by decide);cases ts with
 | nil=>
   show(di (32::r)).2=true/\(32::r).length<=(di (32::r)).1;rw[e,List.length_cons];exact⟨h.1,by have:=h.2;simp only;omega⟩
 | cons t ts=>
   obtain⟨h1,h2,q,n,h3,h4,h5⟩:=h;refine⟨by rw[e];exact h1,by rw[e,List.length_cons];simp only;omega,q,n,?_,h4,?_⟩
   . rw[e];exact h3
   . rw[e];show Lx ((32::r).drop ((di r).1+1+n)) ts;rw[show(di r).1+1+n=(di r).1+n+1 by omega,List.drop_succ_cons];exact h5
theorem Lx.tok {c:UInt8}{u:List UInt8}{q:Tok}(hx:x=c::u)(hw:ws c=false)(h40:¬(c=40/\(u++r).head? = some 42))(hl:jR (x++r)=some (q,x.length))(he:fg q t)(h:Lx r ts):Lx (x++r) (t::ts):=by
 have e:di (x++r)=(0,true):=by
  rw[hx];exact vo (by rw[hw];decide) h40
 refine⟨by rw[e],by rw[e,hx];simp,q,x.length,by rw[e];exact hl,he,?_⟩;rw[e];show Lx ((x++r).drop (0+x.length)) ts;rw[Nat.zero_add,List.drop_left];exact h
theorem Lx.p4 (hg:p4 t)(hr:Go.Proofs.YthjhonhhbddhkaaDoor.sp r)(h:Lx r ts):Lx (fF t++r) (t::ts):=by
 obtain⟨q,h1,h2⟩:=GW hg hr;obtain⟨c,u,e,hw,h40,_⟩:=KX hg;refine Lx.tok e hw ?_ h1 h2 h;rintro⟨rfl,q2⟩;rw[h40 rfl]at q2;cases r with
 | nil=>cases q2
 | cons d v=>
   have:d=42:=by simpa using q2
   subst this;rcases hr 42 v rfl with h | h<;>cases h
theorem KY:sp []:=λc u e=>by cases e
theorem Nz:sp (32::r):=λc u e=>by cases e;exact .inl rfl
theorem Lx.vc (ts:List Tok)(hg:∀t,t∈ts->Go.Proofs.YthjhonhhbddhkaaDoor.p4 t)(hr:Go.Proofs.YthjhonhhbddhkaaDoor.sp r)(h:Lx r rs):Lx (vc ts++r) (ts++rs):=by
 induction ts with
 | nil=>exact h
 | cons t ts ih=>
   cases ts with
   | nil=>exact Lx.p4 (hg t (by simp)) hr h
   | cons u ts=>
     rw[lu (by simp),List.append_assoc,List.cons_append];exact Lx.p4 (hg t (by simp)) Nz (Lx.sp (ih λx hx=>hg x (by simp[hx])))
def IK:List Tok->List Tok->Prop
 | [],[]=>True
 | a::l,b::m=>fg a b/\IK l m
 | _,_=>False
theorem IK.sg {a b:List Tok}:∀{out rest:List Tok},IK a b->Sg (out++a++rest) out.length b (out.length+a.length):=by
 induction a generalizing b with
 | nil=>
   intro out rest h;cases b with
   | nil=>show out.length=_;simp
   | cons x b=>cases h
 | cons x a ih=>
   intro out rest h;cases b with
   | nil=>cases h
   | cons y b=>
     obtain⟨h1,h2⟩:=h;refine⟨?_,?_⟩
     . unfold tk;simp only[List.append_assoc,List.cons_append];rw[List.getElem?_append_right (Nat.le_refl _),Nat.sub_self];exact h1
     . have:=ih (out:=out++[x]) (rest:=rest) h2;simp only[List.length_append,List.length_cons,List.length_nil,List.append_assoc,List.cons_append,List.nil_append]at this ⊢;rw[show out.length+(a.length+1)=out.length+(0+1)+a.length by omega];exact this
theorem GX (s:List UInt8):∀(ts:List Tok) (m:Nat) (out:List Tok) (i:Nat),i<=s.length->s.length-i<m->Lx (s.drop i) ts->
 (1000<out.length+ts.length/\1000<out.length+1+ts.length/\(out.length<=1000->∃j,gp s m out i=([],j,3)))\/(out.length+ts.length<=1000/\∃tl,IK tl ts/\gp s m out i=(out++tl++[⟨0,[],0,(s.length:Int)⟩],0,0)):=by
 intro ts
 induction ts with
 | nil=>
   intro m out i hi hm hL;obtain⟨h1,h2⟩:=hL;rw[List.length_drop]at h2;obtain⟨m,rfl⟩:∃m',m=m'+1:=⟨m-1,by omega⟩;have e:gp s (m+1) out i=(out++[⟨0,[],0,(s.length:Int)⟩],0,0):=by
    unfold gp;rw[if_neg (by rw[h1];decide),if_pos (by omega)]
   by_cases ho:out.length<=1000
   . exact .inr ⟨by simpa using ho,[],trivial,by rw[e,List.append_nil]⟩
   . exact .inl ⟨by simp;omega,by simp;omega,λq=>absurd q ho⟩
 | cons t ts ih=>
   intro m out i hi hm hL;obtain⟨h1,h2,q,n,h3,h4,h5⟩:=hL;rw[List.length_drop]at h2;rw[List.drop_drop]at h3 h5;obtain⟨m,rfl⟩:∃m',m=m'+1:=⟨m-1,by omega⟩;have hp:=vq h3;rw[List.length_drop]at hp;have e:gp s (m+1) out i=if 1000<=out.length then([],i+(di (s.drop i)).1,3)
    else gp s m (out++[⟨q.k,q.s,q.n,((i+(di (s.drop i)).1:Nat):Int)⟩]) (i+(di (s.drop i)).1+n):=by
    conv=>lhs;unfold gp
    rw[if_neg (by rw[h1];decide),if_neg (by omega),h3]
   rw[List.length_cons]
   by_cases ho:1000<=out.length
   . rw[e,if_pos ho];exact .inl ⟨by omega,by omega,λ_=>⟨_,rfl⟩⟩
   . rw[e,if_neg ho];have:=ih m (out++[⟨q.k,q.s,q.n,((i+(di (s.drop i)).1:Nat):Int)⟩]) (i+(di (s.drop i)).1+n) (by omega) (by simp only at hp;omega) (by rw[<- Nat.add_assoc]at h5;exact h5);rw[List.length_append,List.length_singleton]at this;rcases this with⟨g1,g2,g3⟩ | ⟨g1,tl,g2,g3⟩
     . exact .inl ⟨by omega,by omega,λ_=>g3 (by omega)⟩
     . refine .inr ⟨by omega,⟨q.k,q.s,q.n,((i+(di (s.drop i)).1:Nat):Int)⟩::tl,⟨h4,g2⟩,?_⟩;rw[g3];simp
theorem GY {s:List UInt8}(h:Lx s ts):((4096<s.length\/1000<ts.length)/\∃j,scan s=([],j,3))\/(s.length<=4096/\ts.length<=1000/\∃tl,IK tl ts/\scan s=(tl++[⟨0,[],0,(s.length:Int)⟩],0,0)):=by
 unfold scan
 by_cases hs:4096<s.length
 . rw[if_pos hs];exact .inl ⟨.inl hs,0,rfl⟩
 . rw[if_neg hs];rcases GX s ts (s.length+1) [] 0 (Nat.zero_le _) (by omega) (by simpa using h)with⟨g1,_,g3⟩ | ⟨g1,tl,g2,g3⟩
   . exact .inl ⟨.inr (by simpa using g1),g3 (by simp)⟩
   . exact .inr ⟨by omega,by simpa using g1,tl,g2,by simpa using g3⟩
end
section
variable {nx0 nx nx':Nat}{H0 H H':T OB}{L:List Tok}{s:List UInt8}
theorem Ax:∀{r:List UInt8} {n m:Nat},jQ n r=some m->n<=4611686018427387903->m<=4611686018427387903
 | [],n,m,h,hn=>by cases h;exact hn
 | c::r,n,m,h,hn=>by
   rw[jQ]at h;split at h
   . rename_i hc;have:=IF hc.1;exact Ax h (by omega)
   . cases h
theorem KZ:∀{f:Nat} {s:List UInt8} {q:List UInt8×Nat},qt f s=some q->q.1.length<=q.2:=by
 intro f
 induction f with
 | zero=>intro s q h;cases h
 | succ f ih=>
   intro s q h;cases s with
   | nil=>cases h
   | cons c r=>
     rw[ly]at h
     by_cases h1:c.toNat=34
     . rw[if_pos h1]at h;cases h;exact Nat.zero_le _
     rw[if_neg h1]at h
     by_cases h2:(fc (c::r)).2=0
     . rw[if_pos h2]at h;cases h
     rw[if_neg h2]at h;obtain⟨q1,hq,rfl⟩:=Option.map_eq_some_iff.1 h;have:=ih hq;show((fc (c::r)).1::q1.1).length<=(fc (c::r)).2+q1.2;rw[List.length_cons];omega
theorem GZ {r:List UInt8}{q:Tok×Nat}(h:jR r=some q):rg q.1.n/\q.1.s.length<=r.length:=by
 cases r with
 | nil=>cases h
 | cons c u=>
   rw[eB]at h
   by_cases hd:bA c=true
   . rw[if_pos hd]at h;unfold Bq at h;cases hN:jQ 0 ((c::u).takeWhile bA)with
     | none=>rw[hN]at h;cases h
     | some v=>
       rw[hN]at h;cases h;have:=Ax hN (by omega);exact⟨by show rg (v:Int);omega,Nat.zero_le _⟩
   rw[if_neg hd]at h;unfold tz at h
   by_cases h34:c.toNat=34
   . rw[if_pos h34]at h;obtain⟨q1,hq,rfl⟩:=Option.map_eq_some_iff.1 h;have:=IH hq;have:=KZ hq;exact⟨by show rg 0;omega,by show q1.1.length<=_;simp;omega⟩
   rw[if_neg h34]at h
   by_cases hl:(ck c||bW c)=true
   . rw[if_pos hl]at h;have hle:=Au (p:=iz) u;cases h;exact⟨by show rg 0;omega,by simp;omega⟩
   rw[if_neg hl]at h
   by_cases h39:c.toNat=39/\jv u=true
   . rw[if_pos h39]at h;cases h;exact⟨by show rg 0;omega,by show(List.take _ _).length<=_;rw[List.length_take];omega⟩
   rw[if_neg h39]at h;obtain⟨x,hx,rfl⟩:=Option.map_eq_some_iff.1 h;have hp:=(List.isPrefixOf_iff_prefix.1 (by simpa using List.find?_some hx:x.isPrefixOf (c::u)=true)).length_le;exact⟨by show rg 0;omega,hp⟩
theorem EH (s:List UInt8):∀(m:Nat) (out:List Tok) (i:Nat),out.length<=1000->(∀t,t∈out->rg t.n/\t.s.length<=s.length)->(gp s m out i).1.length<=1001/\∀t,t∈(gp s m out i).1->rg t.n/\t.s.length<=s.length:=by
 have hnil:([]:List Tok).length<=1001/\∀t,t∈([]:List Tok)->rg t.n/\t.s.length<=s.length:=⟨by decide,λt h=>by simp at h⟩;intro m
 induction m with
 | zero=>intro out i _ _;exact hnil
 | succ m ih=>
   intro out i ho hT;unfold gp;split
   . exact hnil
   split
   . refine⟨by simp;omega,λt ht=> ?_⟩;rcases List.mem_append.1 ht with h | h
     . exact hT t h
     . rw[List.mem_singleton]at h;subst h;exact⟨by show rg 0;omega,Nat.zero_le _⟩
   split
   . exact hnil
   . rename_i q hq;split
     . exact hnil
     . rename_i h1000;refine ih _ _ (by rw[List.length_append,List.length_singleton];omega) λt ht=> ?_;rcases List.mem_append.1 ht with h | h
       . exact hT t h
       . rw[List.mem_singleton]at h;subst h;have:=GZ hq;rw[List.length_drop]at this;exact⟨this.1,by have:=this.2;show q.1.s.length<=_;omega⟩
theorem Ay (hl:s.length<ee):(scan s).1.length<=1001/\oZ (scan s).1/\∀t,t∈(scan s).1->t.s.length<=4096:=by
 unfold scan;split
 . exact⟨by decide,λt h=>(by simp at h),λt h=>(by simp at h)⟩
 . have:=EH s (s.length+1) [] 0 (by simp) (λt h=>by simp at h);exact⟨this.1,λt ht=>⟨(this.2 t ht).1,by have:=(this.2 t ht).2;show t.s.length<_;omega⟩,λt ht=>by have:=(this.2 t ht).2;omega⟩
theorem NA (es:List Value)(H:T OB)(nx:Nat)(k:Value->T OB->Nat->Q):j6 P 35 (aP 4 es) H nx k=k (aP 4 es) H nx:=by kernel_rfl
theorem G0 (hT0:dS nx0 H0)(hL:L.length<=100000)(hT:oZ L){n:Nat}(hn:n<=90000){o:iB (List aJ)}(ho:(ps L n).er [] 0=some o)(hA:Ag nx0 H0 nx H):ay P pl X0 (aV P pl (.call 13 [gU L] false none H nx)) nx0 H0 (GD (mP L o)):=by
 rw[ON,NA];exact ay.mono (ay.base hA (Qf (hT0.ag hA) hL hT hn ho)) λq H2 nx2 hA2 h2=>h2.1
def parse (s:List UInt8)(o:iB (List aJ)):List aJ×Int×Int:=if(scan s).2.2=0 then mP (scan s).1 o else([],((scan s).2.1:Int),(scan s).2.2)
theorem K0 (s:List UInt8):bo (some (vp (scan s))) 0=some (gU (scan s).1)/\bo (some (vp (scan s))) 1=some (i64 ((scan s).2.1:Int))/\bo (some (vp (scan s))) 2=some (i64 (scan s).2.2):=⟨rfl,rfl,rfl⟩
theorem NB (hl:s.length<ee){o:iB (List aJ)}(ho:(ps (scan s).1 90000).er [] 0=some o)(hT0:dS nx0 H0)(hA:Ag nx0 H0 nx H):ay P pl X0 (aV P pl (.call 6 [ar s] false none H nx)) nx0 H0 (GD (parse s o)):=by
 have hs:=Ay hl;obtain⟨x0,x1,x2⟩:=K0 s;rw[q6];refine Wq.qT hT0 (Nw s hl) hA λH1 aI hA1=> ?_;simp only[ab,x0,x1,x2];unfold parse;refine ay.Nt (λh=> ?_) (λh=> ?_)
 . rw[if_neg h];exact Wq.kj hA1 ⟨aq,rfl,.inr ⟨rfl,rfl⟩⟩
 . rw[if_pos h];refine Wq.fM rfl (G0 hT0 (by omega) hs.2.1 (Nat.le_refl _) ho hA1) (λu H2 nx2 hA2 hR=> ?_) (λu H2 nx2 hA2 hR=>by obtain⟨v,q,_⟩:=hR;cases q);obtain⟨v,q,hv⟩:=hR;cases q;generalize mP (scan s).1 o=r at hv ⊢;obtain⟨ds,a,e⟩:=r;have y0:bo (some (Value.tuple ⟨[v,i64 a,i64 e]⟩)) 0=some v:=rfl;have y1:bo (some (Value.tuple ⟨[v,i64 a,i64 e]⟩)) 1=some (i64 a):=rfl;have y2:bo (some (Value.tuple ⟨[v,i64 a,i64 e]⟩)) 2=some (i64 e):=rfl;simp only[ab,y0,y1,y2];exact Wq.kj hA2 ⟨v,rfl,hv⟩
end
section
variable {nx0 nx nx':Nat}{H0 H H':T OB}{L:List Tok}{s:List UInt8}{ts:List Tok}
theorem IK.ok {a b:List Tok}(h:IK a b)(hb:∀t,t∈b->eO t=true):a.all eO=true:=by
 induction a generalizing b with
 | nil=>rfl
 | cons x a ih=>
   cases b with
   | nil=>cases h
   | cons y b=>
     obtain⟨h1,h2⟩:=h;rw[List.all_cons,ih h2 λt ht=>hb t (by simp[ht]),Bool.and_true];have:=hb y (by simp);unfold eO at this ⊢;rw[h1.1,h1.2.1,h1.2.2];exact this
end
section
variable {nx0 nx nx':Nat}{H0 H H':T OB}{L:List Tok}{k m j:Nat}
theorem vr (a:Int)(n:Nat)(hn:0<n/\n<1000)(ha: -9223372036854775808<=a/\a<9223372036854775808):∃r:Nat,r<n/\P0 5 [i64 a,i64 (n:Int)] (i64 (r:Int)):=by
 have h1:(n:Int)≠0:=by omega
 have h2:=Int.tmod_lt_of_pos a (show(0:Int)<n by omega);have h3: -(n:Int)<a.tmod n:=by
  have:=Int.lt_tmod_of_pos a (show(0:Int)<n by omega);omega
 refine⟨if a.tmod n<0 then(a.tmod n+n).toNat else(a.tmod n).toNat,by split<;>omega,Pure.of rfl λH nx=> ?_⟩;rw[q5];simp only[ab,A5 _ _ _ _ _ h1];refine Wq.ite (λh=>by omega) (λ_=> ?_);refine Wq.ite (λh=> ?_) (λh=> ?_)
 . rw[if_pos h,show IntKind.i64.wrap (a.tmod n+n)=a.tmod n+n from bm (by omega)];refine Wq.jmp (HI ..) (λ_=>rfl) ?_;exact Wq.jL (by congr 1;omega) (.refl _ _)
 . rw[if_neg h];refine Wq.jmp (HI ..) (λ_=>rfl) ?_;exact Wq.jL (by congr 1;omega) (.refl _ _)
abbrev Az:Tok:=⟨3,[120],0,0⟩
abbrev Bw:List UInt8:=[110,111,116]
def uT:Nat->List Tok
 | 0=>[eY Bw]
 | 1=>[eY [105,102],Az,eY [116,104,101,110],Az,eY [101,108,115,101]]
 | 2=>[eY [102,110],Az,dY [61,62]]
 | _=>[Az,dY [58,61]]
def cM (h:Nat):Nat->List Tok
 | 0=>[Az]
 | n+1=>uT h++cM h n
def uS (h:Nat):List UInt8:=vc (uT h)++[32]
def eZ (h:Nat):Nat->List UInt8
 | 0=>[]
 | n+1=>uS h++eZ h n
theorem By (h n:Nat):eZ h n++uS h=eZ h (n+1):=by
 induction n with
 | zero=>simp[eZ]
 | succ n ih=>
   rw[eZ,List.append_assoc,ih];rfl
theorem EJ (h n:Nat):cM h n≠[]:=by
 cases n with
 | zero=>simp[cM]
 | succ n=>rw[cM];unfold uT;split<;>simp
theorem NC (h:Nat):uT h≠[]:=by unfold uT;split<;>simp
theorem AA (h n:Nat):eZ h n++[120]=vc (cM h n):=by
 induction n with
 | zero=>rfl
 | succ n ih=>
   rw[eZ,cM,wY (NC h) (EJ h n),<- ih,uS];simp
theorem G5 (h:Nat):∀t,t∈uT h->p4 t:=by
 have key:∀t,t∈uT 0++(uT 1++(uT 2++uT 3))->p4 t:=by
  intro t ht;have:∀t∈uT 0++(uT 1++(uT 2++uT 3)),eO t=true/\t.k≠0/\(-9223372036854775808<=t.n/\t.n<9223372036854775808)/\t.s.length<140737488355328:=by decide +kernel
  exact this t ht
 intro t ht
 match h,ht with
 | 0,ht=>exact key t (by simp only[List.mem_append];exact .inl ht)
 | 1,ht=>exact key t (by simp only[List.mem_append];exact .inr (.inl ht))
 | 2,ht=>exact key t (by simp only[List.mem_append];exact .inr (.inr (.inl ht)))
 | n+3,ht=>exact key t (by simp only[List.mem_append];exact .inr (.inr (.inr ht)))
theorem xk (h n:Nat):∀t,t∈cM h n->p4 t:=by
 induction n with
 | zero=>
   intro t ht;rw[cM,List.mem_singleton]at ht;subst ht;exact⟨by decide +kernel,by decide,by decide,by decide⟩
 | succ n ih=>
   intro t ht;rcases List.mem_append.1 ht with h | h
   . exact G5 _ t h
   . exact ih t h
theorem K1 (h:Nat):(uS h).length<=17:=by
 have key:(uS 0).length<=17/\(uS 1).length<=17/\(uS 2).length<=17/\(uS 3).length<=17:=by decide +kernel
 match h with
 | 0=>exact key.1
 | 1=>exact key.2.1
 | 2=>exact key.2.2.1
 | n+3=>exact key.2.2.2
theorem o5 (h n:Nat):(eZ h n).length<=17*n:=by
 induction n with
 | zero=>exact Nat.le_refl _
 | succ n ih=>have:=K1 h;rw[eZ,List.length_append];omega
theorem Bz (h n:Nat):(cM h n).length<=5*n+1:=by
 have key:(uT h).length<=5:=by unfold uT;split<;>decide
 induction n with
 | zero=>exact Nat.le_refl _
 | succ n ih=>rw[cM,List.length_append];omega
abbrev eX:au:= .mk 3 0 [120] [] [] []
def eD (h:Nat):Nat->au
 | 0=>eX
 | n+1=>match h with
   | 0=> .mk 15 0 Bw [eD 0 n] [] []
   | 1=> .mk 8 0 [] [eX,eX,eD 1 n] [] []
   | 2=> .mk 7 0 [] [eD 2 n] [.mk 2 0 [120] []] []
   | h+3=>two [58,61] eX (eD (h+3) n)
theorem BA:m9 L eX:=by
 have hr:gB eX=true:=by
  rw[z2];have:uY (jn eX) eX=true:=by simp[uY];rfl
  rw[this];decide +kernel
 exact⟨(Qc L eX hr).1.1,hr⟩
theorem p6:aH eX=[Az]:=by rw[js,m8];rfl
theorem EK (h:fg (tk L k) Az):Sg L k (aH eX) (k+1):=by rw[p6];exact⟨h,rfl⟩
theorem ND:wU L (.mk 2 0 [120] [])/\gz (.mk 2 0 [120] [])=true:=by
 have hr:gz (.mk 2 0 [120] [])=true:=by decide +kernel
 exact⟨(lr _ hr).1.1,hr⟩
theorem o6 (e:au)(d:Int)(h:gP e.p (qV e.l (iN e.d 0))=d)(hd:0<=d/\d<100000):eF e=d+1:=by
 rw[zZ,h];exact bm (by omega)
theorem mF {a b:Int}(h:a<=b):mx a b=b:=by unfold mx;split<;>omega
theorem NF {a b:Int}(h:b<=a):mx a b=a:=by unfold mx;rw[if_neg (by omega)]
theorem K2:eF eX=1:=o6 eX 0 rfl (by omega)
theorem OT (h n:Nat)(hn:n<=1000):eF (eD h n)=(n:Int)+1:=by
 induction n with
 | zero=>rw[eD,K2];rfl
 | succ n ih=>
   have ih:=ih (by omega)
   match h,ih with
   | 0,ih=>rw[eD];refine o6 _ _ ?_ (by omega);show mx 0 (eF (eD 0 n))=_;rw[ih,mF (by omega)];omega
   | 1,ih=>rw[eD];refine o6 _ _ ?_ (by omega);show mx (mx (mx 0 (eF eX)) (eF eX)) (eF (eD 1 n))=_;rw[ih,K2,mF (a:=0) (b:=1) (by omega),mF (a:=1) (b:=1) (by omega),mF (by omega)];omega
   | 2,ih=>
     rw[eD];refine o6 _ _ ?_ (by omega);show mx (mx 0 (eF (eD 2 n))) (pJ (.mk 2 0 [120] []))=_;have:pJ (.mk 2 0 [120] [])=1:=by rw[zY];exact bm (by show -9223372036854775808<=(0:Int)+1/\(0:Int)+1<9223372036854775808;omega)
     rw[ih,this,mF (a:=0) (b:=(n:Int)+1) (by omega),NF (by omega)];omega
   | h+3,ih=>rw[eD];refine o6 _ _ ?_ (by omega);show mx (mx 0 (eF eX)) (eF (eD (h+3) n))=_;rw[ih,K2,mF (a:=0) (b:=1) (by omega),mF (by omega)];omega
theorem AB (h n:Nat)(hn:n<=1000):iN [mL (eD h n)] 0=(n:Int)+2:=by
 show mx 0 (w (EP (mL (eD h n))+1))=_;rw[DB];show mx 0 (w (eF (eD h n)+1))=_;rw[OT h n hn,show w ((n:Int)+1+1)=(n:Int)+1+1 from bm (by omega),mF (by omega)];omega
theorem WS.fin (h:(tk L k).k=0)(hs:(tk L k).s=[]):WS L k:=WS.of (t:=⟨0,[],(tk L k).n,0⟩) ⟨h,hs,rfl⟩ (.inr (.inr rfl)) (show oV []=true by decide +kernel)
theorem EL (h:(tk L k).k=0)(w:List UInt8):bC L k w=false:=by unfold bC iQ;rw[h];rfl
theorem OU {kE:Nat}(hE:WS L kE):∀n k m,n+3<=m->Sg L k (cM 0 n) kE->(ps L m).un k=yes (eD 0 n) kE:=by
 intro n
 induction n with
 | zero=>
   intro k m hm hS;obtain⟨h1,h2⟩:=hS;cases h2;obtain⟨m,rfl⟩:∃m',m=m'+2:=⟨m-2,by omega⟩;show wN L (ps L (m+1)) k=_;unfold wN;have hu:unOp L k=false:=by unfold unOp;rw[mM h1 (by decide) (by decide)];rfl
   have ha:(ps L (m+1)).atom k=yes eX (k+1):=by
    show eU L (ps L m) k=_;unfold eU;rw[if_neg (cG h1 (by decide)),if_neg (cG h1 (by decide)),if_pos h1.1,h1.2.1]
   rw[bF hu,ha,bN];unfold oP;rw[bF hE.bg];rfl
 | succ n ih=>
   intro k m hm hS;obtain⟨h1,h2⟩:=(show Sg L k (eY Bw::cM 0 n) kE from hS);obtain⟨m,rfl⟩:∃m',m=m'+1:=⟨m-1,by omega⟩;show wN L (ps L m) k=_;unfold wN;have hu:unOp L k=true:=by unfold unOp iQ;rw[h1.1,h1.2.1];decide +kernel
   rw[if_pos hu,ih (k+1) m (by omega) h2,bN,h1.2.1];rfl
theorem NG {kE h:Nat}(hE:WS L kE):∀n k m,10*n+40<=m->Sg L k (cM (h+3) n) kE->(ps L m).bin 2 k=yes (eD (h+3) n) kE:=by
 intro n
 induction n with
 | zero=>
   intro k m hm hS;exact gD (N:=30) (λm hm=>BA.un (by rw[p6];show 12*1+1<=m;omega) (by rw[p6];exact hS) hE.bg) 5 2 rfl (λj _=>hE.op j) m (by omega)
 | succ n ih=>
   intro k m hm hS;obtain⟨h1,h2,h3⟩:=(show Sg L k (Az::dY [58,61]::cM (h+3) n) kE from hS);obtain⟨m,rfl⟩:∃m',m=m'+1:=⟨m-1,by omega⟩;show iC L (ps L m) 2 k=_;unfold iC;have hop:∀i,jN L i (k+1)=((aC[i]?).getD []).contains [58,61]:=λi=>by
    unfold jN iQ;rw[h2.1,h2.2.1];rfl
   have hno:∀i,3<=i->jN L i (k+1)=false:=λi hi=>by
    rw[hop]
    by_cases h7:i<7
    . have:∀i,i<7->3<=i->((aC[i]?).getD []).contains ([58,61]:List UInt8)=false:=by decide +kernel
      exact this i h7 hi
    . rw[List.getElem?_eq_none (by simpa[aC]using h7)];rfl
   have hbg:jO L (k+1)=false:=tc h2 (.inl rfl) (by decide) (by decide);rw[if_neg (by decide),gD (N:=20) (λm hm=>BA.un (by rw[p6];show 12*1+1<=m;omega) (EK h1) hbg) 4 3 rfl (λj hj=>hno j hj) m (by omega),bN];unfold lh;rw[if_pos (by rw[hop];decide +kernel),if_pos (.inl rfl),ih (k+1+1) m (by omega) h3,bN,h2.2.1];rfl
theorem NH {kE:Nat}(hE:WS L kE)(hb:bC L kE [124]=false)(h:Nat):∀n k m,10*n+60<=m->Sg L k (cM h n) kE->(ps L m).exp k=yes (eD h n) kE:=by
 match h with
 | 0=>
   intro n k m hm hS;obtain⟨m,rfl⟩:∃m',m=m'+1:=⟨m-1,by omega⟩;have hno:bC L k [105,102]=false/\bC L k [99,97,115,101]=false/\bC L k [102,110]=false/\bC L k [114,97,105,115,101]=false:=by
    cases n with
    | zero=>exact⟨fS (mM hS.1 (by decide) (by decide)),fS (mM hS.1 (by decide) (by decide)),fS (mM hS.1 (by decide) (by decide)),fS (mM hS.1 (by decide) (by decide))⟩
    | succ n=>
      have h1:fg (tk L k) (eY Bw):=hS.1;exact⟨cV h1 (by decide),cV h1 (by decide),cV h1 (by decide),cV h1 (by decide)⟩
   exact jF hno.1 hno.2.1 hno.2.2.1 hno.2.2.2 (gD (N:=n+3) (λm hm=>OU hE n k m hm hS) 7 0 rfl (λj _=>hE.op j) m (by omega)) hE.hn
 | 1=>
   intro n
   induction n with
   | zero=>intro k m hm hS;exact BA.exp (by rw[p6];show 12*1+10<=m;omega) (by rw[p6];exact hS) hE
   | succ n ih=>
     intro k m hm hS;obtain⟨h1,h2,h3,h4,h5,h6⟩:=(show Sg L k (eY [105,102]::Az::eY [116,104,101,110]::Az::eY [101,108,115,101]::cM 1 n) kE from hS);obtain⟨m,rfl⟩:∃m',m=m'+1:=⟨m-1,by omega⟩;show gC L (ps L m) k=_;unfold gC;rw[if_pos (gm h1),BA.exp (by rw[p6];show 12*1+10<=m;omega) (EK h2) (WS.ky h3 (by decide +kernel)),bN,iE h3,BA.exp (by rw[p6];show 12*1+10<=m;omega) (EK h4) (WS.ky h5 (by decide +kernel)),bN,iE h5,ih _ m (by omega) h6,bN];rfl
 | 2=>
   intro n
   induction n with
   | zero=>intro k m hm hS;exact BA.exp (by rw[p6];show 12*1+10<=m;omega) (by rw[p6];exact hS) hE
   | succ n ih=>
     intro k m hm hS;obtain⟨h1,h2,h3,h4⟩:=(show Sg L k (eY [102,110]::Az::dY [61,62]::cM 2 n) kE from hS);obtain⟨m,rfl⟩:∃m',m=m'+2:=⟨m-2,by omega⟩;show gC L (ps L (m+1)) k=_;unfold gC;rw[bF (cV h1 (by decide)),bF (cV h1 (by decide)),if_pos (gm h1)];show sX L (ps L m) _ (k+1)=_;unfold sX;have hp:Sg L (k+1) (bH (.mk 2 0 [120] [])) (k+1+1):=by
      rw[gV,m7];exact⟨h2,rfl⟩
     have hl:(bH (.mk 2 0 [120] [])).length=1:=by rw[gV,m7];rfl
     rw[(ND (L:=L)).1.pat (ND (L:=L)).2 (by rw[hl];omega) hp (PE.sg h3 (by decide) (by decide) (by decide) (by decide)),bN,dB h3,ih _ m (by omega) h4,bN,bF hb];rfl
 | h+3=>
   intro n k m hm hS;obtain⟨m,rfl⟩:∃m',m=m'+3:=⟨m-3,by omega⟩;have h1:fg (tk L k) Az:=by
    cases n with
    | zero=>exact hS.1
    | succ n=>exact hS.1
   have hb2:=NG hE (h:=h) n k m (by omega) hS;have hb1:(ps L (m+1)).bin 1 k=yes (eD (h+3) n) kE:=by
    show iC L (ps L m) 1 k=_;unfold iC;rw[if_neg (by decide),hb2,bN];unfold lh;rw[bF (hE.op 1)]
   have hb0:(ps L (m+2)).bin 0 k=yes (eD (h+3) n) kE:=by
    show iC L (ps L (m+1)) 0 k=_;unfold iC;rw[if_neg (by decide),hb1,bN];unfold lh;rw[bF (hE.op 0)]
   exact jF (fS (mM h1 (by decide) (by decide))) (fS (mM h1 (by decide) (by decide))) (fS (mM h1 (by decide) (by decide))) (fS (mM h1 (by decide) (by decide))) hb0 hE.hn
theorem G6 (h n:Nat){kE:Nat}(hS:Sg L k (cM h n) kE):(tk L k).k≠0/\∀w,w∈vb->bC L k w=false:=by
 have key:∀w∈vb,Bw≠w/\[105,102]≠w/\[102,110]≠w:=by decide +kernel
 cases n with
 | zero=>
   have h1:fg (tk L k) Az:=hS.1;exact⟨by rw[h1.1];decide,λw hw=>fS (mM h1 (by decide) (by decide))⟩
 | succ n=>
   match h,hS with
   | 0,hS=>
     have h1:fg (tk L k) (eY Bw):=hS.1;exact⟨by rw[h1.1];decide,λw hw=>cV h1 (key w hw).1⟩
   | 1,hS=>
     have h1:fg (tk L k) (eY [105,102]):=hS.1;exact⟨by rw[h1.1];decide,λw hw=>cV h1 (key w hw).2.1⟩
   | 2,hS=>
     have h1:fg (tk L k) (eY [102,110]):=hS.1;exact⟨by rw[h1.1];decide,λw hw=>cV h1 (key w hw).2.2⟩
   | h+3,hS=>
     have h1:fg (tk L k) Az:=hS.1;exact⟨by rw[h1.1];decide,λw hw=>fS (mM h1 (by decide) (by decide))⟩
theorem G7 (h n:Nat){kE:Nat}(hn:n<=1000)(hS:Sg L 0 (cM h n) kE)(hz:(tk L kE).k=0)(hs:(tk L kE).s=[]):(ps L 90000).er [] 0=yes [mL (eD h n)] kE:=by
 obtain⟨h0,hw⟩:=G6 h n hS;show lk L (ps L 89999) [] 0=_;unfold lk;have hd:(ps L 89999).dec 0=yes none 0:=by
  show wO L (ps L 89998) 0=_;unfold wO;rw[bF (hw _ (by simp[vb])),bF (hw _ (by simp[vb]))];show lj L (ps L 89997) 0=_;unfold lj;rw[bF (hw _ (by simp[vb])),bF (hw _ (by simp[vb]))]
 rw[if_neg h0,hd,bN];show(bd ((ps L 89999).exp 0) λe k=>(ps L 89999).er ([]++[mL e]) (skip L [59] k))=_;rw[NH (WS.fin hz hs) (EL hz _) h n 0 89999 (by omega) hS,bN];unfold skip;rw[bF (EL hz _)];show lk L (ps L 89998) _ kE=_;unfold lk;rw[if_pos hz];rfl
theorem G8 (h n:Nat)(hn:n<120):∃o,(ps (scan (eZ h n++[120])).1 90000).er [] 0=some o/\parse (eZ h n++[120]) o=if 100<(n:Int)+2 then([],0,81)else([mL (eD h n)],0,0):=by
 have hg:=xk h n;have hL:Lx (vc (cM h n)) (cM h n):=by
  have:=Lx.vc (rs:=[]) (r:=[]) (cM h n) hg KY Lx.nil;rwa[List.append_nil,List.append_nil]at this
 have hl1:=o5 h n;have hl2:=Bz h n;have hlen:(vc (cM h n)).length<=17*n+1:=by rw[<- AA,List.length_append];exact Nat.succ_le_succ hl1
 rw[AA];rcases GY hL with⟨h1,_⟩ | ⟨h1,h2,tl,h3,h4⟩
 . omega
 . have hS:Sg (tl++[⟨0,[],0,((vc (cM h n)).length:Int)⟩]) 0 (cM h n) tl.length:=by
    have:=IK.sg (out:=[]) (rest:=[⟨0,[],0,((vc (cM h n)).length:Int)⟩]) h3;simpa using this
   have ht:tk (tl++[⟨0,[],0,((vc (cM h n)).length:Int)⟩]) tl.length=⟨0,[],0,((vc (cM h n)).length:Int)⟩:=by
    unfold tk;rw[List.getElem?_append_right (Nat.le_refl _),Nat.sub_self];rfl
   rw[h4];refine⟨_,G7 h n (by omega) hS (by rw[ht]) (by rw[ht]),?_⟩;unfold parse;rw[h4];show(if(0:Int)=0 then mP _ (.ok [mL (eD h n)] tl.length)else _)=_;rw[if_pos rfl];unfold mP Bl;rw[if_pos (by rw[List.all_append,h3.ok λt ht=>(hg t ht).1];rfl)];show(if 100<iN [mL (eD h n)] 0 then([],0,81)else([mL (eD h n)],0,0):List aJ×Int×Int)=_;rw[AB h n (by omega)]
theorem G9 (a b:Int)(ha: -9223372036854775808<=a/\a<9223372036854775808)(hb: -9223372036854775808<=b/\b<9223372036854775808):PT 3 [i64 a,i64 b] (.bool true):=PT.of rfl λH nx hT=>by
 have hk:P0 7 [] (.bool true):=Pure.ext rfl;have hbig:ee=1125899906842624:=rfl;obtain⟨n,hn,pn⟩:=vr a 120 (by omega) ha;obtain⟨h,hh,ph⟩:=vr b 4 (by omega) hb;obtain⟨o,ho,hp⟩:=G8 h n hn;have hrl:=o5 h n;rw[q3];refine Wq.call pn (.refl _ _) λH1 aI hA1=> ?_;have fin:∀H2 nx2,Ag nx H nx2 H2->Wq P pl X0 (.jump (uK (i64 (n:Int)) (i64 b) (ar (eZ h n)) (i64 (n:Int)) H2 nx2)) nx H (.bool true):=by
  intro H2 nx2 hA2;refine Wq.jmp (HH ..) (λ_=>rfl) ?_;have hsl:(eZ h n++[120]).length<ee:=by rw[List.length_append];show(eZ h n).length+1<ee;omega
  simp only[ab,D2 _ (eZ h n) [120] (by show(eZ h n).length+1<=_;omega),show IntKind.i64.wrap ((n:Int)+2)=(n:Int)+2 from bm (by omega)];rw[decide_eq_false (Int.lt_irrefl _)];simp only[ab];refine Wq.fM rfl (NB hsl ho hT hA2) (λu H3 nx3 hA3 hR=> ?_) (λu H3 nx3 hA3 hR=>by obtain⟨v,q,_⟩:=hR;cases q);obtain⟨v,q,hv⟩:=hR;cases q;have hs:=Ay hsl;have hok:=λds k (e:o= .ok ds k)=>(KN hs.2.1 90000 (by omega)).er [] 0 0 ai.nil (by omega) ds k (by rw[ho,e]);have hok2:(parse (eZ h n++[120]) o).1.length<ee/\∀d,d∈(parse (eZ h n++[120]) o).1->d.ok:=by
   have hnil:([]:List aJ).length<ee/\∀d,d∈([]:List aJ)->d.ok:=⟨by decide,λd h=>by simp at h⟩;unfold parse mP Bl;split
   . split
     . split
       . exact hnil
       . split
         . exact hnil
         . have h1:=hok _ _ rfl;exact⟨h1.ee (by omega),h1.2⟩
     . exact hnil
   . exact hnil
  rw[hp]at hv hok2 ⊢;have x0:∀a e:Int,bo (some (Value.tuple ⟨[v,i64 a,i64 e]⟩)) 0=some v:=λ_ _=>rfl;have x1:∀a e:Int,bo (some (Value.tuple ⟨[v,i64 a,i64 e]⟩)) 1=some (i64 a):=λ_ _=>rfl;have x2:∀a e:Int,bo (some (Value.tuple ⟨[v,i64 a,i64 e]⟩)) 2=some (i64 e):=λ_ _=>rfl;simp only[ab,x0,x1,x2];refine Wq.ite (λh1=> ?_) (λh1=> ?_)
  . rw[if_pos h1]at hv ⊢;have hlen:bJ P #[23] 3 (some [v])=some (i64 0):=by
     rcases hv with rfl | ⟨_,rfl⟩
     . rw[dn 17 _ (by kernel_rfl)];rfl
     . kernel_rfl
    simp only[ab,hlen];refine Wq.call hk hA3 λH4 nx4 hA4=> ?_;simp only[ab];exact Wq.ret hA4
  . rw[if_neg h1]at hv hok2 ⊢;have hv:v=cU [mL (eD h n)]:=by
     rcases hv with h | ⟨q,_⟩
     . exact h
     . cases q
    subst hv;simp only[ab];refine Wq.call (H_ _ hok2.1 hok2.2) hA3 λH4 nx4 hA4=> ?_;rw[AB h n (by omega)];simp only[ab,show IntKind.i64.wrap ((n:Int)+2)=(n:Int)+2 from bm (by omega)];refine Wq.call hk hA4 λH5 nx5 hA5=> ?_;simp only[ab];exact Wq.ret hA5
 have loop:∀d i H2 nx2,i+d=n->Ag nx H nx2 H2->Wq P pl X0 (.jump (uK (i64 (n:Int)) (i64 b) (ar (eZ h i)) (i64 (i:Int)) H2 nx2)) nx H (.bool true):=by
  intro d
  induction d with
  | zero=>intro i H2 nx2 hi hA2;obtain rfl:i=n:=by omega
          exact fin H2 nx2 hA2
  | succ d ih=>
    intro i H2 nx2 hi hA2;refine Wq.jmp (HH ..) (λ_=>rfl) ?_;simp only[ab];rw[decide_eq_true (show(i:Int)<(n:Int)by omega)];simp only[ab];refine Wq.call ph hA2 λH3 nx3 hA3=> ?_;have nxt:∀s,s=eZ h i++uS h->Wq P pl X0 (.jump (qN (i64 (n:Int)) (i64 b) (ar s) (i64 (i:Int)) H3 nx3)) nx H (.bool true):=by
     intro s hs;rw[hs,By];refine Wq.jmp (L9 ..) (λ_=>rfl) ?_;simp only[ab,show IntKind.i64.wrap ((i:Int)+1)=((i+1:Nat):Int)from by rw[bm (by omega)];omega];exact ih (i+1) H3 nx3 (by omega) hA3
    have hri:=o5 h i
    match h,hh,nxt,hri with
    | 0,_,nxt,hri=>
      simp only[ab,D2 _ (eZ 0 i) [110,111,116,32] (by show(eZ 0 i).length+4<=_;omega)];exact nxt _ rfl
    | 1,_,nxt,hri=>
      simp only[ab,D2 _ (eZ 1 i) [105,102,32,120,32,116,104,101,110,32,120,32,101,108,115,101,32] (by show(eZ 1 i).length+17<=_;omega)];exact nxt _ rfl
    | 2,_,nxt,hri=>
      simp only[ab,D2 _ (eZ 2 i) [102,110,32,120,32,61,62,32] (by show(eZ 2 i).length+8<=_;omega)];exact nxt _ rfl
    | 3,_,nxt,hri=>
      simp only[ab,D2 _ (eZ 3 i) [120,32,58,61,32] (by show(eZ 3 i).length+5<=_;omega)];exact nxt _ rfl
    | h+4,hh,_,_=>omega
 exact loop n 0 H1 aI (by omega) hA1
end
end
end Go.Proofs.YthjhonhhbddhkaaDoor
