/- Texts of this claim, side by side. -/
import Derived.Test.YthjhonhhbddhkaaGreatDoorG6
namespace Go.Proofs.YthjhonhhbddhkaaGreatDoor
open Go.Ev Go.RowKit
noncomputable section
set_option maxRecDepth 100000
set_option linter.unusedVariables false
set_option linter.unusedSimpArgs false
set_option maxHeartbeats 4000000
set_option maxHeartbeats 8000000
section
variable {L L':List Tok}{E K k k0 k1:Nat}{α β:Type}
def Lk (L:List Tok)(E K k:Nat)(x x':PR α):Prop:=k<=E->match x with
 | none=>True
 | some (.ok a k')=>k<=k'/\k'<=E/\(k'<=K->x'=x)
 | some (.bad a)=>∃j,k<=j/\j<=E/\a=(tk L j).at_/\(j<=K->x'=x)
def Ga (L L':List Tok)(E K:Nat):Prop:=(tk L E).k=0/\∀i,i<=K->tk L' i=tk L i
theorem Lk.mono {x x':PR α}(h:Lk L E K k x x')(hk:k0<=k)(hE:k<=E):Lk L E K k0 x x':=λ_=>by
 have h:=h hE;cases x with
 | none=>trivial
 | some r=>
   cases r with
   | ok a k'=>exact⟨by have:=h.1;omega,h.2⟩
   | bad a=>obtain⟨j,h1,h2⟩:=h;exact⟨j,by omega,h2⟩
theorem Lk.step {x x':PR α}(g:Ga L L' E K)(hk:(tk L k).k≠0)(h:Lk L E K (k+1) x x'):Lk L E K k x x':=λhE=>by
 have:k≠E:=λq=>hk (by rw[q];exact g.1);exact h.mono (Nat.le_succ k) (by omega) hE
theorem Lk.yes {a a':α}(h:k<=K->a'=a):Lk L E K k (yes a k) (yes a' k):=λhE=>⟨Nat.le_refl _,hE,λq=>by rw[h q]⟩
theorem Lk.fail (g:Ga L L' E K):Lk L E K k (gY L k:PR α) (gY L' k):=λhE=>⟨k,Nat.le_refl _,hE,rfl,λq=>by unfold gY;rw[g.2 k q]⟩
theorem Lk.bd {x x':PR α}{f f':α->Nat->PR β}(h:Lk L E K k x x')(hf:∀a k1,k<=k1->Lk L E K k1 (f a k1) (f' a k1)):Lk L E K k (bd x f) (bd x' f'):=λhE=>by
 have h:=h hE;cases x with
 | none=>exact trivial
 | some r=>
   cases r with
   | bad a=>
     obtain⟨j,h1,h2,h3,h4⟩:=h;exact⟨j,h1,h2,h3,λq=>by rw[h4 q];rfl⟩
   | ok a k'=>
     obtain⟨h1,h2,h3⟩:=h;have h5:=hf a k' h1 h2;show match f a k' with | none=>True | some (.ok a k2)=>_ | some (.bad a)=>_
     cases hx:f a k' with
     | none=>trivial
     | some r=>
       rw[hx]at h5;cases r with
       | ok b k2=>exact⟨by have:=h5.1;omega,h5.2.1,λq=>by rw[h3 (by have:=h5.1;omega)];show f' a k'=f a k';rw[hx];exact h5.2.2 q⟩
       | bad b=>
         obtain⟨j,g1,g2,g3,g4⟩:=h5;exact⟨j,by omega,g2,g3,λq=>by rw[h3 (by omega)];show f' a k'=f a k';rw[hx];exact g4 q⟩
theorem Lk.arg {x x' x'':PR α}(h:k<=K->x'=x'')(hx:Lk L E K k x x''):Lk L E K k x x':=λhE=>by
 have hx:=hx hE;cases x with
 | none=>trivial
 | some r=>
   cases r with
   | ok a k'=>exact⟨hx.1,hx.2.1,λq=>by rw[h (by have:=hx.1;omega)];exact hx.2.2 q⟩
   | bad a=>obtain⟨j,h1,h2,h3,h4⟩:=hx;exact⟨j,h1,h2,h3,λq=>by rw[h (by omega)];exact h4 q⟩
theorem Lk.ite {b b':Bool}{X Y X' Y':PR α}(g:Ga L L' E K)(hb:k<=K->b'=b)(hn:b=true->(tk L k).k≠0)(hX:Lk L E K (k+1) X X')(hY:Lk L E K k Y Y'):Lk L E K k (if b=true then X else Y) (if b'=true then X' else Y'):=by
 cases hbb:b with
 | true=>
   rw[if_pos rfl];refine Lk.step g (hn hbb) (Lk.arg (x'':=X') (λq=> ?_) hX);rw[hb (by omega),hbb,if_pos rfl]
 | false=>
   rw[if_neg (by decide)];refine Lk.arg (x'':=Y') (λq=> ?_) hY;rw[hb q,hbb,if_neg (by decide)]
theorem Lk.GM {b b':Bool}{X Y X' Y':PR α}(hb:k<=K->b'=b)(hX:Lk L E K k X X')(hY:Lk L E K k Y Y'):Lk L E K k (if b=true then X else Y) (if b'=true then X' else Y'):=by
 cases hbb:b with
 | true=>
   rw[if_pos rfl];exact Lk.arg (x'':=X') (λq=>by rw[hb (by omega),hbb,if_pos rfl]) hX
 | false=>
   rw[if_neg (by decide)];exact Lk.arg (x'':=Y') (λq=>by rw[hb q,hbb,if_neg (by decide)]) hY
theorem Lk.PX {p:Prop}[Decidable p]{X Y X' Y':PR α}(hX:Lk L E K k X X')(hY:Lk L E K k Y Y'):Lk L E K k (if p then X else Y) (if p then X' else Y'):=by
 by_cases h:p
 . rw[if_pos h,if_pos h];exact hX
 . rw[if_neg h,if_neg h];exact hY
theorem xi (h:j_ L k=true):(tk L k).k≠0:=λq=>by unfold j_ at h;rw[q]at h;simp at h
theorem Eg {w:List UInt8}(h:cO L k w=true):(tk L k).k≠0:=by
 unfold cO at h;rw[Bool.and_eq_true]at h;exact xi h.1
theorem xj (h:tk L' k=tk L k):j_ L' k=j_ L k:=by unfold j_;rw[h]
theorem gJ (w:List UInt8)(h:tk L' k=tk L k):cO L' k w=cO L k w:=by unfold cO;rw[xj h,h]
theorem GN (lv:Nat)(h:tk L' k=tk L k):iG L' lv k=iG L lv k:=by unfold iG;rw[xj h,h]
theorem GO (h:tk L' k=tk L k):unOp L' k=unOp L k:=by unfold unOp;rw[xj h,h]
theorem AI (h:tk L' k=tk L k):pB L' k=pB L k:=by unfold pB;rw[h]
theorem GP (h:tk L' k=tk L k):ly L' k=ly L k:=by unfold ly;rw[AI h,gJ _ h,gJ _ h]
theorem GQ (h:tk L' k=tk L k):jX L' k=jX L k:=by unfold jX;rw[AI h,gJ _ h,gJ _ h,gJ _ h]
theorem GR (h:tk L' k=tk L k):fk L' k=fk L k:=by unfold fk;rw[gJ _ h,h]
theorem GS {lv:Nat}(h:iG L lv k=true):(tk L k).k≠0:=by
 unfold iG at h;rw[Bool.and_eq_true]at h;exact xi h.1
theorem GU (h:unOp L k=true):(tk L k).k≠0:=by
 unfold unOp at h;rw[Bool.and_eq_true]at h;exact xi h.1
theorem GV (h:fk L k=true):(tk L k).k≠0:=λq=>by
 unfold fk cO j_ at h;rw[q]at h;simp at h
theorem Lk.T {w:List UInt8}{X Y X' Y':PR α}(g:Ga L L' E K)(hX:Lk L E K (k+1) X X')(hY:Lk L E K k Y Y'):Lk L E K k (if cO L k w=true then X else Y) (if cO L' k w=true then X' else Y'):=Lk.ite g (λq=>gJ w (g.2 k q)) Eg hX hY
theorem Lk.O {lv:Nat}{X Y X' Y':PR α}(g:Ga L L' E K)(hX:Lk L E K (k+1) X X')(hY:Lk L E K k Y Y'):Lk L E K k (if iG L lv k=true then X else Y) (if iG L' lv k=true then X' else Y'):=Lk.ite g (λq=>GN lv (g.2 k q)) GS hX hY
theorem Lk.U {X Y X' Y':PR α}(g:Ga L L' E K)(hX:Lk L E K (k+1) X X')(hY:Lk L E K k Y Y'):Lk L E K k (if unOp L k=true then X else Y) (if unOp L' k=true then X' else Y'):=Lk.ite g (λq=>GO (g.2 k q)) GU hX hY
theorem Lk.N {X Y X' Y':PR α}(g:Ga L L' E K)(hX:Lk L E K (k+1) X X')(hY:Lk L E K k Y Y'):Lk L E K k (if fk L k=true then X else Y) (if fk L' k=true then X' else Y'):=Lk.ite g (λq=>GR (g.2 k q)) GV hX hY
theorem Lk.BE {X Y X' Y':PR α}(g:Ga L L' E K)(hX:Lk L E K k X X')(hY:Lk L E K k Y Y'):Lk L E K k (if ly L k=true then X else Y) (if ly L' k=true then X' else Y'):=Lk.GM (λq=>GP (g.2 k q)) hX hY
theorem Lk.BP {X Y X' Y':PR α}(g:Ga L L' E K)(hX:Lk L E K k X X')(hY:Lk L E K k Y Y'):Lk L E K k (if jX L k=true then X else Y) (if jX L' k=true then X' else Y'):=Lk.GM (λq=>GQ (g.2 k q)) hX hY
theorem Lk.Tn {w:List UInt8}{X Y X' Y':PR α}(g:Ga L L' E K)(hX:Lk L E K k X X')(hY:Lk L E K k Y Y'):Lk L E K k (if cO L k w=true then X else Y) (if cO L' k w=true then X' else Y'):=Lk.GM (λq=>gJ w (g.2 k q)) hX hY
theorem Lk.Tb {w w2:List UInt8}{A B A' B':PR β}{f f':β->Nat->PR α}{Y Y':PR α}(g:Ga L L' E K)(hX:Lk L E K k (Go.Proofs.YthjhonhhbddhkaaGreatDoor.bd (if cO L k w2=true then A else B) f) (Go.Proofs.YthjhonhhbddhkaaGreatDoor.bd (if cO L' k w2=true then A' else B') f'))(hY:Lk L E K k Y Y'):Lk L E K k (if cO L k w=true then Go.Proofs.YthjhonhhbddhkaaGreatDoor.bd (if cO L k w2=true then A else B) f else Y) (if cO L' k w=true then Go.Proofs.YthjhonhhbddhkaaGreatDoor.bd (if cO L' k w2=true then A' else B') f' else Y'):=Lk.Tn g hX hY
theorem Lk.C {c:Int}{X Y X' Y':PR α}(g:Ga L L' E K)(hc:c≠0)(hX:Lk L E K (k+1) X X')(hY:Lk L E K k Y Y'):Lk L E K k (if(tk L k).k=c then X else Y) (if(tk L' k).k=c then X' else Y'):=by
 have:=Lk.ite (b:=decide ((tk L k).k=c)) (b':=decide ((tk L' k).k=c)) g (λq=>by rw[g.2 k q]) (λq=>by rw[of_decide_eq_true q];exact hc) hX hY;simpa using this
theorem Lk.Z {X Y X' Y':PR α}(g:Ga L L' E K)(hX:Lk L E K k X X')(hY:Lk L E K k Y Y'):Lk L E K k (if(tk L k).k=0 then X else Y) (if(tk L' k).k=0 then X' else Y'):=by
 have:=Lk.GM (b:=decide ((tk L k).k=0)) (b':=decide ((tk L' k).k=0)) (λq=>by rw[g.2 k q]) hX hY;simpa using this
theorem Lk.bl {w:List UInt8}{f f':Nat->PR α}(g:Ga L L' E K)(h:Lk L E K (k+1) (f (k+1)) (f' (k+1))):Lk L E K k (bl L w k f) (bl L' w k f'):=Lk.T g h (Lk.fail g)
theorem Lk.b_ {c:Int}{f f':Tok->Nat->PR α}(g:Ga L L' E K)(hc:c≠0)(h:∀t,Lk L E K (k+1) (f t (k+1)) (f' t (k+1))):Lk L E K k (b_ L c k f) (b_ L' c k f'):=
 Lk.C g hc (Lk.arg (x'':=f' (tk L k) (k+1)) (λq=>by rw[g.2 k (by omega)]) (h (tk L k))) (Lk.fail g)
theorem Lk.skip {w:List UInt8}{f f':Nat->PR α}(g:Ga L L' E K)(h:∀k1,Lk L E K k1 (f k1) (f' k1)):Lk L E K k (f (skip L w k)) (f' (skip L' w k)):=by
 unfold Go.Proofs.YthjhonhhbddhkaaGreatDoor.skip
 by_cases hi:cO L k w=true
 . rw[if_pos hi];refine Lk.step g (Eg hi) (Lk.arg (x'':=f' (k+1)) (λq=> ?_) (h (k+1)));rw[gJ w (g.2 k (by omega)),if_pos hi]
 . rw[if_neg hi];refine Lk.arg (x'':=f' k) (λq=> ?_) (h k);rw[gJ w (g.2 k q),if_neg hi]
structure Lm (L:List Tok)(E K:Nat)(p p':PS):Prop where
 exp:∀k,Lk L E K k (p.exp k) (p'.exp k)
 g_:∀e k,Lk L E K k (p.g_ e k) (p'.g_ e k)
 bin:∀lv k,Lk L E K k (p.bin lv k) (p'.bin lv k)
 gE:∀lv e k,Lk L E K k (p.gE lv e k) (p'.gE lv e k)
 un:∀k,Lk L E K k (p.un k) (p'.un k)
 gF:∀e k,Lk L E K k (p.gF e k) (p'.gF e k)
 atom:∀k,Lk L E K k (p.atom k) (p'.atom k)
 dQ:∀w e k,Lk L E K k (p.dQ w e k) (p'.dQ w e k)
 lt:∀k,Lk L E K k (p.lt k) (p'.lt k)
 f_:∀e k,Lk L E K k (p.f_ e k) (p'.f_ e k)
 pat:∀k,Lk L E K k (p.pat k) (p'.pat k)
 bQ:∀k,Lk L E K k (p.bQ k) (p'.bQ k)
 gG:∀e k,Lk L E K k (p.gG e k) (p'.gG e k)
 fu:∀k,Lk L E K k (p.fu k) (p'.fu k)
 ee:∀e k,Lk L E K k (p.ee e k) (p'.ee e k)
 post:∀k,Lk L E K k (p.post k) (p'.post k)
 p7:∀e k,Lk L E K k (p.p7 e k) (p'.p7 e k)
 dm:∀e k,Lk L E K k (p.dm e k) (p'.dm e k)
 fY:∀k,Lk L E K k (p.fY k) (p'.fY k)
 bind:∀k,Lk L E K k (p.bind k) (p'.bind k)
 gH:∀e k,Lk L E K k (p.gH e k) (p'.gH e k)
 fn:∀k,Lk L E K k (p.fn k) (p'.fn k)
 p8:∀e k,Lk L E K k (p.p8 e k) (p'.p8 e k)
 dec:∀k,Lk L E K k (p.dec k) (p'.dec k)
 data:∀k,Lk L E K k (p.data k) (p'.data k)
 fP:∀e k,Lk L E K k (p.fP e k) (p'.fP e k)
 gI:∀e k,Lk L E K k (p.gI e k) (p'.gI e k)
 bX:∀e k,Lk L E K k (p.bX e k) (p'.bX e k)
theorem Nf {p p':PS}(g:Ga L L' E K)(h:Lm L E K p p'):Lm L E K (th L p) (th L' p'):=by
 constructor
 all_goals intros
 all_goals dsimp only[th]
 all_goals try unfold vu
 all_goals try unfold vt
 all_goals try unfold vw
 all_goals try unfold tb
 all_goals try unfold Jc
 all_goals try unfold tc
 all_goals try unfold mP
 all_goals try unfold Jd
 all_goals try unfold jy
 all_goals try unfold td
 all_goals try unfold vx
 all_goals try unfold w8
 all_goals try unfold jz
 all_goals try unfold lA
 all_goals try unfold vy
 all_goals try unfold pC
 all_goals try unfold lB
 all_goals try unfold mQ
 all_goals try unfold pD
 all_goals try unfold m6
 all_goals try unfold jA
 all_goals try unfold vz
 all_goals try unfold mR
 all_goals try unfold te
 all_goals try unfold Je
 all_goals try unfold tg
 all_goals try unfold vA
 all_goals try unfold mS
 all_goals try unfold pE
 all_goals try unfold mi
 all_goals try unfold gu
 all_goals try unfold mT
 all_goals repeat' (first
  | exact Lk.yes λ_=>rfl
  | exact Lk.yes λhk=>by simp(disch:=omega) only[g.2]
  | exact Lk.fail g
  | with_reducible refine Lk.Tb g ?_ ?_
  | with_reducible refine Lk.T g ?_ ?_
  | with_reducible refine Lk.bl g ?_
  | with_reducible refine Lk.b_ g (by decide) λt=> ?_
  | with_reducible refine Lk.Z g ?_ ?_
  | with_reducible refine Lk.C g (by decide) ?_ ?_
  | (refine Lk.arg (λhk=> ?_) (h.fP _ _);simp(disch:=omega) only[g.2];done)
  | with_reducible refine Lk.PX ?_ ?_
  | with_reducible refine Lk.O g ?_ ?_
  | with_reducible refine Lk.U g ?_ ?_
  | with_reducible refine Lk.N g ?_ ?_
  | with_reducible refine Lk.BE g ?_ ?_
  | with_reducible refine Lk.BP g ?_ ?_
  | exact Lk.skip g (f:=p.f_ _) (f':=p'.f_ _) λk1=>h.f_ _ _
  | exact Lk.skip g (f:=p.bX _) (f':=p'.bX _) λk1=>h.bX _ _
  | (refine Lk.arg (λhk=> ?_) (h.gE _ _ _);simp(disch:=omega) only[g.2];done)
  | (refine Lk.arg (λhk=> ?_) (h.dm _ _);simp(disch:=omega) only[g.2];done)
  | (obtain _ | d:=a)
  | refine Lk.bd (h.exp _) λa k1 hk1=> ?_
  | with_reducible exact h.exp _
  | refine Lk.bd (h.g_ _ _) λa k1 hk1=> ?_
  | with_reducible exact h.g_ _ _
  | refine Lk.bd (h.bin _ _) λa k1 hk1=> ?_
  | with_reducible exact h.bin _ _
  | refine Lk.bd (h.gE _ _ _) λa k1 hk1=> ?_
  | with_reducible exact h.gE _ _ _
  | refine Lk.bd (h.un _) λa k1 hk1=> ?_
  | with_reducible exact h.un _
  | refine Lk.bd (h.gF _ _) λa k1 hk1=> ?_
  | with_reducible exact h.gF _ _
  | refine Lk.bd (h.atom _) λa k1 hk1=> ?_
  | with_reducible exact h.atom _
  | refine Lk.bd (h.dQ _ _ _) λa k1 hk1=> ?_
  | with_reducible exact h.dQ _ _ _
  | refine Lk.bd (h.lt _) λa k1 hk1=> ?_
  | with_reducible exact h.lt _
  | refine Lk.bd (h.f_ _ _) λa k1 hk1=> ?_
  | with_reducible exact h.f_ _ _
  | refine Lk.bd (h.pat _) λa k1 hk1=> ?_
  | with_reducible exact h.pat _
  | refine Lk.bd (h.bQ _) λa k1 hk1=> ?_
  | with_reducible exact h.bQ _
  | refine Lk.bd (h.gG _ _) λa k1 hk1=> ?_
  | with_reducible exact h.gG _ _
  | refine Lk.bd (h.fu _) λa k1 hk1=> ?_
  | with_reducible exact h.fu _
  | refine Lk.bd (h.ee _ _) λa k1 hk1=> ?_
  | with_reducible exact h.ee _ _
  | refine Lk.bd (h.post _) λa k1 hk1=> ?_
  | with_reducible exact h.post _
  | refine Lk.bd (h.p7 _ _) λa k1 hk1=> ?_
  | with_reducible exact h.p7 _ _
  | refine Lk.bd (h.dm _ _) λa k1 hk1=> ?_
  | with_reducible exact h.dm _ _
  | refine Lk.bd (h.fY _) λa k1 hk1=> ?_
  | with_reducible exact h.fY _
  | refine Lk.bd (h.bind _) λa k1 hk1=> ?_
  | with_reducible exact h.bind _
  | refine Lk.bd (h.gH _ _) λa k1 hk1=> ?_
  | with_reducible exact h.gH _ _
  | refine Lk.bd (h.fn _) λa k1 hk1=> ?_
  | with_reducible exact h.fn _
  | refine Lk.bd (h.p8 _ _) λa k1 hk1=> ?_
  | with_reducible exact h.p8 _ _
  | refine Lk.bd (h.dec _) λa k1 hk1=> ?_
  | with_reducible exact h.dec _
  | refine Lk.bd (h.data _) λa k1 hk1=> ?_
  | with_reducible exact h.data _
  | refine Lk.bd (h.fP _ _) λa k1 hk1=> ?_
  | with_reducible exact h.fP _ _
  | refine Lk.bd (h.gI _ _) λa k1 hk1=> ?_
  | with_reducible exact h.gI _ _
  | refine Lk.bd (h.bX _ _) λa k1 hk1=> ?_
  | with_reducible exact h.bX _ _
  | refine Lk.bd (Lk.bd (?_) λa k1 hk1=> ?_) λa k1 hk1=> ?_
  | refine Lk.bd (?_) λa k1 hk1=> ?_)
theorem Ng (g:Ga L L' E K):∀n,Lm L E K (ps L n) (ps L' n)
 | 0=>by constructor<;>(intros;exact λ_=>trivial)
 | n+1=>Nf g (Ng g n)
end
end
end Go.Proofs.YthjhonhhbddhkaaGreatDoor
namespace Go.Proofs.YthjhonhhbddhkaaGreatDoor
open Go.Ev Go.RowKit
noncomputable section
set_option maxRecDepth 100000
set_option linter.unusedVariables false
set_option linter.unusedSimpArgs false
set_option maxHeartbeats 8000000
section
abbrev dn:=Nat×Option Int
abbrev RR (α:Type):=Option (α×dn)
def rb {α β:Type}(x:RR α)(f:α->dn->RR β):RR β:=match x with
 | none=>none
 | some (a,s)=>f a s
abbrev ry {α:Type}(a:α)(s:dn):RR α:=some (a,s)
section
variable (L:List Tok)
def jD (w:List UInt8)(s:dn):Bool:=s.2.isNone&&cO L s.1 w
def aJ (s:dn):dn:=(s.1+1,s.2)
def AJ (s:dn):dn:=if s.2.isNone=true then(s.1,some (tk L s.1).at_)else s
def Eh (w:List UInt8)(s:dn):dn:=if jD L w s=true then aJ s else s
def Nh (w:List UInt8)(s:dn):dn:=if jD L w s=true then aJ s else AJ L s
def fR (c:Int)(s:dn):Bool:=s.2.isNone&&decide ((tk L s.1).k=c)
def rn {α:Type}(w:List UInt8)(s:dn)(f:dn->RR α):RR α:=f (Nh L w s)
def rk {α:Type}(c:Int)(s:dn)(f:List UInt8->dn->RR α):RR α:=f (if fR L c s=true then(tk L s.1).s else[]) (if fR L c s=true then aJ s else AJ L s)
abbrev PY:bj:= .mk 0 [] []
structure RP where
 exp:dn->RR aQ
 g_:aQ->dn->RR aQ
 bin:Nat->dn->RR aQ
 gE:Nat->aQ->dn->RR aQ
 un:dn->RR aQ
 gF:aQ->dn->RR aQ
 atom:dn->RR aQ
 dQ:List UInt8->aQ->dn->RR aQ
 lt:dn->RR aQ
 f_:List ba->dn->RR (List ba)
 pat:dn->RR bg
 bQ:dn->RR bg
 gG:List bg->dn->RR (List bg)
 fu:dn->RR bj
 ee:List bj->dn->RR (List bj)
 post:dn->RR bj
 p7:List bj->dn->RR (List bj)
 dm:bj->dn->RR bj
 fY:dn->RR dp
 bind:dn->RR (Option ba)
 gH:List Fn->dn->RR (List Fn)
 fn:dn->RR Fn
 p8:List bg->dn->RR (List bg)
 dec:dn->RR (Option ba)
 data:dn->RR Data
 fP:List (List UInt8)->dn->RR (List (List UInt8))
 gI:List dp->dn->RR (List dp)
 bX:List ba->dn->RR (List ba)
def RP.none:RP:=⟨λ_=> .none,λ_ _=> .none,λ_ _=> .none,λ_ _ _=> .none,λ_=> .none,λ_ _=> .none,λ_=> .none,λ_ _ _=> .none,λ_=> .none,λ_ _=> .none,λ_=> .none,λ_=> .none,λ_ _=> .none,λ_=> .none,λ_ _=> .none,λ_=> .none,λ_ _=> .none,λ_ _=> .none,
 λ_=> .none,λ_=> .none,λ_ _=> .none,λ_=> .none,λ_ _=> .none,λ_=> .none,λ_=> .none,λ_ _=> .none,λ_ _=> .none,λ_ _=> .none⟩
variable (p:RP)
def PZ (e:aQ)(s:dn):RR aQ:=if s.2.isSome=true then ry e s else rb (p.pat s) λq s=>rn L [61,62] s λs=>rb (p.exp s) λx s=>if jD L [124] s=true then p.g_ (e.iR q x) (aJ s)else ry (e.iR q x) s
def P1 (s:dn):RR aQ:=
 if jD L [105,102] s=true then rb (p.exp (aJ s)) λa s=>rn L [116,104,101,110] s λs=>rb (p.exp s) λb s=>rn L [101,108,115,101] s λs=>rb (p.exp s) λc s=>ry (.mk 8 0 [] [a,b,c] [] []) s
 else if jD L [99,97,115,101] s=true then rb (p.exp (aJ s)) λa s=>rn L [111,102] s λs=>p.g_ (.mk 9 0 [] [a] [] []) s
 else if jD L [102,110] s=true then p.g_ (.mk 7 0 [] [] [] []) (aJ s)
 else if jD L [114,97,105,115,101] s=true then rb (p.exp (aJ s)) λa s=>ry (.mk 11 0 [] [a] [] []) s
 else rb (p.bin 0 s) λa s=>if jD L [104,97,110,100,108,101] s=true then p.g_ (.mk 12 0 [] [a] [] []) (aJ s)else ry a s
def Rk (lvl:Nat)(s:dn):Bool:=s.2.isNone&&iG L lvl s.1
def Jg (lvl:Nat)(a:aQ)(s:dn):RR aQ:=
 if Rk L lvl s=true then(if lvl=2\/lvl=4 then rb (p.bin lvl (aJ s)) λb s'=>ry (two (tk L s.1).s a b) s' else rb (p.bin (lvl+1) (aJ s)) λb s'=>p.gE lvl (two (tk L s.1).s a b) s')else ry a s
def P2 (lvl:Nat)(s:dn):RR aQ:=if lvl=7 then p.un s else rb (p.bin (lvl+1) s) λa s=>Jg L p lvl a s
def Ni (s:dn):Bool:=s.2.isNone&&ly L s.1
def Nj (a:aQ)(s:dn):RR aQ:=if Ni L s=true then rb (p.atom s) λb s=>p.gF (.mk 6 0 [] [a,b] [] []) s else ry a s
def Rm (s:dn):Bool:=s.2.isNone&&unOp L s.1
def Rn (s:dn):RR aQ:=if Rm L s=true then rb (p.un (aJ s)) λa s'=>ry (.mk 15 0 (tk L s.1).s [a] [] []) s' else rb (p.atom s) λa s=>Nj L p a s
def GW (w:List UInt8)(e:aQ)(s:dn):RR aQ:=if jD L w s=true then rb (p.exp (aJ s)) λb s=>p.dQ w (e.add b) s else ry e s
def Nk (s:dn):RR aQ:=
 if fR L 1 s=true then ry (.mk 1 (tk L s.1).n [] [] [] []) (aJ s)
 else if fR L 2 s=true then ry (.mk 2 0 (tk L s.1).s [] [] []) (aJ s)
 else if fR L 3 s=true then ry (.mk 3 0 (tk L s.1).s [] [] []) (aJ s)
 else if fR L 4 s=true then ry (.mk 4 0 (tk L s.1).s [] [] []) (aJ s)
 else if jD L [108,101,116] s=true then p.lt (aJ s)
 else rn L [40] s λs=>if s.2.isSome=true then ry (.mk 5 0 [] [] [] []) s else if jD L [41] s=true then ry (.mk 5 0 [] [] [] []) (aJ s)else rb (p.exp s) λa s=>
  if jD L [44] s=true then rb (GW L p [44] (.mk 5 0 [] [a] [] []) s) λe s=>rn L [41] s λs=>ry e s
  else if jD L [59] s=true then rb (GW L p [59] (.mk 13 0 [] [a] [] []) s) λe s=>rn L [41] s λs=>ry e s
  else rn L [41] s λs=>ry a s
def Nl (ds:List ba)(s:dn):RR (List ba):=if s.2.isSome=true then ry ds s else if jD L [105,110] s=true then ry ds (aJ s)else rb (p.bind s) λd s=>p.f_ (ds++[d.getD w7]) (Eh L [59] (if d.isSome=true then s else AJ L s))
def Ro (s:dn):RR aQ:=rb (Nl L p [] s) λds s=>rb (p.exp s) λa s=>
 if jD L [59] s=true then rb (GW L p [59] (.mk 13 0 [] [a] [] []) s) λa s=>rn L [101,110,100] s λs=>ry (.mk 10 0 [] [a] [] ds) s
 else rn L [101,110,100] s λs=>ry (.mk 10 0 [] [a] [] ds) s
def Jh (s:dn):Bool:=s.2.isNone&&jX L s.1
def Nm (s:dn):RR bg:=if fR L 4 s=true then(if Jh L (aJ s)=true then rb (p.bQ (aJ s)) λb s'=>ry (.mk 6 0 (tk L s.1).s [b]) s' else ry (.mk 6 0 (tk L s.1).s []) (aJ s))else p.bQ s
def P3 (s:dn):RR bg:=rb (Nm L p s) λa s=>if jD L [58,58] s=true then rb (p.pat (aJ s)) λb s=>ry (AA a b) s else ry a s
def Ji (l:List bg)(s:dn):RR (List bg):=if jD L [44] s=true then rb (p.pat (aJ s)) λb s=>p.gG (l++[b]) s else ry l s
def Ln (s:dn):RR bg:=
 if fR L 1 s=true then ry (.mk 3 (tk L s.1).n [] []) (aJ s)
 else if fR L 2 s=true then ry (.mk 4 0 (tk L s.1).s []) (aJ s)
 else if fR L 3 s=true then ry (.mk 2 0 (tk L s.1).s []) (aJ s)
 else if fR L 4 s=true then ry (.mk 6 0 (tk L s.1).s []) (aJ s)
 else if jD L [95] s=true then ry (.mk 1 0 [] []) (aJ s)
 else if jD L [126] s=true then rk L 1 (aJ s) λ_ s'=>ry (.mk 3 (IntKind.i64.wrap (-(tk L (s.1+1)).n)) [] []) s'
 else rn L [40] s λs=>if s.2.isSome=true then ry (.mk 5 0 [] []) s else if jD L [41] s=true then ry (.mk 5 0 [] []) (aJ s)else rb (p.pat s) λa s=>
  if jD L [44] s=true then rb (Ji L p [a] s) λl s=>rn L [41] s λs=>ry (.mk 5 0 [] l) s else rn L [41] s λs=>ry a s
def Ei (l:List bj)(s:dn):RR (List bj):=if jD L [42] s=true then rb (p.post (aJ s)) λb s=>p.ee (l++[b]) s else ry l s
def Lo (s:dn):RR bj:=rb (p.post s) λa s=>if jD L [42] s=true then rb (Ei L p [a] s) λl s=>ry (.mk 4 [] l) s else ry a s
def P4 (s:dn):RR bj:=rb (Lo L p s) λa s=>if jD L [45,62] s=true then rb (p.fu (aJ s)) λb s=>ry (.mk 3 [] [a,b]) s else ry a s
def Nn (l:List bj)(s:dn):RR (List bj):=if jD L [44] s=true then rb (p.fu (aJ s)) λb s=>p.p7 (l++[b]) s else ry l s
def GX (s:dn):Bool:=s.2.isNone&&fk L s.1
def Jj (a:bj)(s:dn):RR bj:=if GX L s=true then p.dm (.mk 2 (tk L s.1).s [a]) (aJ s)else ry a s
def Lp (s:dn):RR bj:=
 if(tk L s.1).k=5 then rk L 5 s λt s=>ry (.mk 1 t []) s
 else if GX L s=true then ry (.mk 2 (tk L s.1).s []) (aJ s)
 else rn L [40] s λs=>if s.2.isSome=true then ry PY s else rb (p.fu s) λa s=>
  if jD L [44] s=true then rb (Nn L p [a] s) λl s=>rn L [41] s λs=>ry (.mk 2 (if GX L s=true then(tk L s.1).s else[]) l) (if GX L s=true then aJ s else AJ L s)
  else rn L [41] s λs=>ry a s
def No (s:dn):RR bj:=rb (Lp L p s) λa s=>Jj L p a s
def P5 (s:dn):RR dp:=rk L 4 s λt s=>if jD L [111,102] s=true then rb (p.fu (aJ s)) λa s=>ry ⟨t,[a]⟩ s else ry ⟨t,[]⟩ s
def Np (l:List Fn)(s:dn):RR (List Fn):=if jD L [97,110,100] s=true then rb (p.fn (aJ s)) λf s=>p.gH (l++[f]) s else ry l s
def Nq (s:dn):RR (Option ba):=
 if jD L [118,97,108] s=true then rb (p.pat (aJ s)) λa s=>rn L [61] s λs=>rb (p.exp s) λe s=>ry (some (.mk 1 a e [] gr kD)) s
 else if jD L [102,117,110] s=true then rb (p.fn (aJ s)) λf s=>rb (Np L p [f] s) λl s=>ry (some (.mk 2 kC lz l gr kD)) s
 else ry none s
def Nr (l:List bg)(s:dn):RR (List bg):=if Jh L s=true then rb (p.bQ s) λq s=>p.p8 (l++[q]) s else ry l s
def Rp (s:dn):RR Fn:=rk L 3 s λt s=>rb (p.bQ s) λq s=>rb (Nr L p [q] s) λl s=>rn L [61] s λs=>rb (p.exp s) λe s=>ry (.mk t l e) s
def Jl (l:List (List UInt8))(s:dn):RR (List (List UInt8)):=if jD L [44] s=true then rk L 5 (aJ s) λt s=>p.fP (l++[t]) s else ry l s
def Jm (l:List dp)(s:dn):RR (List dp):=if jD L [124] s=true then rb (p.fY (aJ s)) λc s=>p.gI (l++[c]) s else ry l s
def Ns (s:dn):RR (List (List UInt8)):=
 if(tk L s.1).k=5 then rk L 5 s λt s=>ry [t] s
 else if jD L [40] s=true then rk L 5 (aJ s) λt s=>rb (Jl L p [t] s) λl s=>rn L [41] s λs=>ry l s
 else ry [] s
def Nt (s:dn):RR Data:=rb (Ns L p s) λvs s=>rk L 3 s λt s=>rn L [61] s λs=>rb (p.fY s) λc s=>rb (Jm L p [c] s) λl s=>ry ⟨vs,t,l⟩ s
def P6 (s:dn):RR (Option ba):=
 if jD L [100,97,116,97,116,121,112,101] s=true then rb (p.data (aJ s)) λx s=>ry (some (.mk 3 kC lz [] x kD)) s
 else if jD L [101,120,99,101,112,116,105,111,110] s=true then rb (p.fY (aJ s)) λc s=>ry (some (.mk 4 kC lz [] gr c)) s
 else p.bind s
def Nu (ds:List ba)(s:dn):RR (List ba):=
 if s.2.isSome=true then ry ds s else if(tk L s.1).k=0 then ry ds s else rb (p.dec s) λd s=>match d with
  | some d=>p.bX (ds++[d]) (Eh L [59] s)
  | none=>rb (p.exp s) λe s=>p.bX (ds++[Gy e]) (Eh L [59] s)
def Lq:RP where
 exp:=P1 L p
 g_:=PZ L p
 bin:=P2 L p
 gE:=Jg L p
 un:=Rn L p
 gF:=Nj L p
 atom:=Nk L p
 dQ:=GW L p
 lt:=Ro L p
 f_:=Nl L p
 pat:=P3 L p
 bQ:=Ln L p
 gG:=Ji L p
 fu:=P4 L p
 ee:=Ei L p
 post:=No L p
 p7:=Nn L p
 dm:=Jj L p
 fY:=P5 L p
 bind:=Nq L p
 gH:=Np L p
 fn:=Rp L p
 p8:=Nr L p
 dec:=P6 L p
 data:=Nt L p
 fP:=Jl L p
 gI:=Jm L p
 bX:=Nu L p
def rp:Nat->RP
 | 0=>RP.none
 | n+1=>Lq L (rp n)
end
variable {L:List Tok}{α β:Type}{t:Int}
variable {n:Nat}{p:RP}
variable {q:PS}
end
section
variable {nx0 nx nx' bp k:Nat}{H0 H H':T OB}{F A B G G':List Bx}{s:Bx}{R:Go.Ev.Out->T OB->Nat->Prop}{b:Nat}{l:List Value}{e t:TypeId}{L:List Tok}
abbrev aG:Value:= .slice none 0 0
abbrev gM (b n c:Nat):Value:= .slice (some ⟨b,0,none⟩) n c
theorem GY (c0 c1 c2 c3 c4 c5:Value)(z:List Value)(hz:bE P 44=some z):Instr.fill (λi=>some (i*6,6)) (bz z (1*6)) [(0,.agg ⟨[c0,c1,c2,c3,c4,c5]⟩)]=some ⟨[c0,c1,c2,c3,c4,c5]⟩:=by
 rw[bJ]at hz;cases hz;kernel_rfl
theorem Hq.eO (cs:List Value)(hc:cs.length=6){kt:Value->T OB->Nat->Q}(h:Hp nx0 H0 (s::F) H nx)(hk:∀b H' nx',Hp nx0 H0 (s::(b,cs,44)::F) H' nx'->aT P pl X0 (kt (gM b 1 1) H' nx') nx0 H0 R):aT P pl X0 (ao (aq P H nx 41 1 (some [(0,.agg ⟨cs⟩)])) kt) nx0 H0 R:=
 match cs,hc with
 | [c0,c1,c2,c3,c4,c5],_=>Hq.row eh bW bJ rfl (GY _ _ _ _ _ _ _ bJ) h hk
theorem GZ (c0 c1 c2 c3 c4 c5 d0 d1 d2 d3 d4 d5:Value)(z:List Value)(hz:bE P 44=some z):Instr.fill (λi=>some (i*6,6)) (bz z (2*6)) [(0,.agg ⟨[c0,c1,c2,c3,c4,c5]⟩),(1,.agg ⟨[d0,d1,d2,d3,d4,d5]⟩)]=some ⟨[c0,c1,c2,c3,c4,c5,d0,d1,d2,d3,d4,d5]⟩:=by
 rw[bJ]at hz;cases hz;kernel_rfl
theorem Hq.tt (cs ds:List Value)(hc:cs.length=6)(hd:ds.length=6){kt:Value->T OB->Nat->Q}(h:Hp nx0 H0 (s::F) H nx)(hk:∀b H' nx',Hp nx0 H0 (s::(b,cs++ds,44)::F) H' nx'->aT P pl X0 (kt (gM b 2 2) H' nx') nx0 H0 R):aT P pl X0 (ao (aq P H nx 41 2 (some [(0,.agg ⟨cs⟩),(1,.agg ⟨ds⟩)])) kt) nx0 H0 R:=
 match cs,hc,ds,hd with
 | [c0,c1,c2,c3,c4,c5],_,[d0,d1,d2,d3,d4,d5],_=>Hq.row eh bW bJ rfl (GZ _ _ _ _ _ _ _ _ _ _ _ _ _ bJ) h hk
theorem G0 (c0 c1 c2 c3 c4 c5 d0 d1 d2 d3 d4 d5 f0 f1 f2 f3 f4 f5:Value)(z:List Value)(hz:bE P 44=some z):Instr.fill (λi=>some (i*6,6)) (bz z (3*6)) [(0,.agg ⟨[c0,c1,c2,c3,c4,c5]⟩),(1,.agg ⟨[d0,d1,d2,d3,d4,d5]⟩),(2,.agg ⟨[f0,f1,f2,f3,f4,f5]⟩)]=some ⟨[c0,c1,c2,c3,c4,c5,d0,d1,d2,d3,d4,d5,f0,f1,f2,f3,f4,f5]⟩:=by
 rw[bJ]at hz;cases hz;kernel_rfl
theorem Hq.G5 (cs ds fs:List Value)(hc:cs.length=6)(hd:ds.length=6)(hf:fs.length=6){kt:Value->T OB->Nat->Q}(h:Hp nx0 H0 (s::F) H nx)(hk:∀b H' nx',Hp nx0 H0 (s::(b,cs++ds++fs,44)::F) H' nx'->aT P pl X0 (kt (gM b 3 3) H' nx') nx0 H0 R):aT P pl X0 (ao (aq P H nx 41 3 (some [(0,.agg ⟨cs⟩),(1,.agg ⟨ds⟩),(2,.agg ⟨fs⟩)])) kt) nx0 H0 R:=
 match cs,hc,ds,hd,fs,hf with
 | [c0,c1,c2,c3,c4,c5],_,[d0,d1,d2,d3,d4,d5],_,[f0,f1,f2,f3,f4,f5],_=>Hq.row eh bW bJ rfl (G0 _ _ _ _ _ _ _ _ _ _ _ _ _ _ _ _ _ _ _ bJ) h hk
theorem Nv {n:Nat}(h:n<=1048576):bB P 44 6 n=true:=by
 have:bB P 44 6 n=(Nat.ble n 1048576&&true):=by kernel_rfl
 rw[this,Nat.ble_eq_true_of_le h];rfl
theorem aQ.fw (x:aQ):mg true 6 [x.v]:=λv hv=>by
 rw[List.mem_singleton]at hv;subst hv;rw[aQ.bw];exact⟨rfl,rfl,⟨_,rfl⟩⟩
theorem aQ.P7 (l:List aQ):mg true 6 (l.map aQ.v):=λv hv=>by
 obtain⟨x,_,rfl⟩:=List.mem_map.1 hv;exact x.fw x.v (by simp)
theorem aQ.len (x:aQ):x.v.cells.toList.length=6:=(x.fw x.v (by simp)).1
theorem Hq.Ej (A:List Bx){l:List aQ}{x:aQ}{sl:Value}{kt:Value->T OB->Nat->Q}(hl:l.length<=1000000)(hG:Gw true 6 44 (l.map aQ.v) sl G)(h:Hp nx0 H0 (s::(b,x.v.cells.toList,44)::(A++(G++B))) H nx)
 (hk:∀sl' G' H' nx',Gw true 6 44 ((l++[x]).map aQ.v) sl' G'->Hp nx0 H0 (s::(A++(G'++B))) H' nx'->aT P pl X0 (kt sl' H' nx') nx0 H0 R):aT P pl X0 (ao (bt P H nx [41,41] (some [sl,gM b 1 1])) kt) nx0 H0 R:=
 Hq.add A eh bW (Nv (by rw[List.length_map];omega)) (by rw[List.length_map];omega) x.fw hG h λsl' G' H' nx' hG' h'=>hk sl' G' H' nx' (by rw[List.map_append];exact hG') h'
theorem G6 (c0 c1 c2 c3:Value)(z:List Value)(hz:bE P 47=some z):Instr.fill (λi=>some (i*4,4)) (bz z (1*4)) [(0,.agg ⟨[c0,c1,c2,c3]⟩)]=some ⟨[c0,c1,c2,c3]⟩:=by
 rw[cN]at hz;cases hz;kernel_rfl
theorem Hq.iI (cs:List Value)(hc:cs.length=4){kt:Value->T OB->Nat->Q}(h:Hp nx0 H0 (s::F) H nx)(hk:∀b H' nx',Hp nx0 H0 (s::(b,cs,47)::F) H' nx'->aT P pl X0 (kt (gM b 1 1) H' nx') nx0 H0 R):aT P pl X0 (ao (aq P H nx 42 1 (some [(0,.agg ⟨cs⟩)])) kt) nx0 H0 R:=
 match cs,hc with
 | [c0,c1,c2,c3],_=>Hq.row dz da cN rfl (G6 _ _ _ _ _ cN) h hk
theorem G7 (c0 c1 c2 c3 d0 d1 d2 d3:Value)(z:List Value)(hz:bE P 47=some z):Instr.fill (λi=>some (i*4,4)) (bz z (2*4)) [(0,.agg ⟨[c0,c1,c2,c3]⟩),(1,.agg ⟨[d0,d1,d2,d3]⟩)]=some ⟨[c0,c1,c2,c3,d0,d1,d2,d3]⟩:=by
 rw[cN]at hz;cases hz;kernel_rfl
theorem Hq.G8 (cs ds:List Value)(hc:cs.length=4)(hd:ds.length=4){kt:Value->T OB->Nat->Q}(h:Hp nx0 H0 (s::F) H nx)(hk:∀b H' nx',Hp nx0 H0 (s::(b,cs++ds,47)::F) H' nx'->aT P pl X0 (kt (gM b 2 2) H' nx') nx0 H0 R):aT P pl X0 (ao (aq P H nx 42 2 (some [(0,.agg ⟨cs⟩),(1,.agg ⟨ds⟩)])) kt) nx0 H0 R:=
 match cs,hc,ds,hd with
 | [c0,c1,c2,c3],_,[d0,d1,d2,d3],_=>Hq.row dz da cN rfl (G7 _ _ _ _ _ _ _ _ _ cN) h hk
theorem Nw {n:Nat}(h:n<=1048576):bB P 47 4 n=true:=by
 have:bB P 47 4 n=(Nat.ble n 1048576&&true):=by kernel_rfl
 rw[this,Nat.ble_eq_true_of_le h];rfl
theorem bg.fw (x:bg):mg true 4 [x.v]:=λv hv=>by
 rw[List.mem_singleton]at hv;subst hv;rw[bg.bw];exact⟨rfl,rfl,⟨_,rfl⟩⟩
theorem bg.len (x:bg):x.v.cells.toList.length=4:=(x.fw x.v (by simp)).1
theorem Hq.Ek (A:List Bx){l:List bg}{x:bg}{sl:Value}{kt:Value->T OB->Nat->Q}(hl:l.length<=1000000)(hG:Gw true 4 47 (l.map bg.v) sl G)(h:Hp nx0 H0 (s::(b,x.v.cells.toList,47)::(A++(G++B))) H nx)
 (hk:∀sl' G' H' nx',Gw true 4 47 ((l++[x]).map bg.v) sl' G'->Hp nx0 H0 (s::(A++(G'++B))) H' nx'->aT P pl X0 (kt sl' H' nx') nx0 H0 R):aT P pl X0 (ao (bt P H nx [42,42] (some [sl,gM b 1 1])) kt) nx0 H0 R:=
 Hq.add A dz da (Nw (by rw[List.length_map];omega)) (by rw[List.length_map];omega) x.fw hG h λsl' G' H' nx' hG' h'=>hk sl' G' H' nx' (by rw[List.map_append];exact hG') h'
theorem G9 (c0 c1 c2:Value)(z:List Value)(hz:bE P 138=some z):Instr.fill (λi=>some (i*3,3)) (bz z (1*3)) [(0,.agg ⟨[c0,c1,c2]⟩)]=some ⟨[c0,c1,c2]⟩:=by
 rw[cw]at hz;cases hz;kernel_rfl
theorem Hq.jU (cs:List Value)(hc:cs.length=3){kt:Value->T OB->Nat->Q}(h:Hp nx0 H0 (s::F) H nx)(hk:∀b H' nx',Hp nx0 H0 (s::(b,cs,138)::F) H' nx'->aT P pl X0 (kt (gM b 1 1) H' nx') nx0 H0 R):aT P pl X0 (ao (aq P H nx 53 1 (some [(0,.agg ⟨cs⟩)])) kt) nx0 H0 R:=
 match cs,hc with
 | [c0,c1,c2],_=>Hq.row eI cE cw rfl (G9 _ _ _ _ cw) h hk
theorem G_ (c0 c1 c2 d0 d1 d2:Value)(z:List Value)(hz:bE P 138=some z):Instr.fill (λi=>some (i*3,3)) (bz z (2*3)) [(0,.agg ⟨[c0,c1,c2]⟩),(1,.agg ⟨[d0,d1,d2]⟩)]=some ⟨[c0,c1,c2,d0,d1,d2]⟩:=by
 rw[cw]at hz;cases hz;kernel_rfl
theorem Hq.Ha (cs ds:List Value)(hc:cs.length=3)(hd:ds.length=3){kt:Value->T OB->Nat->Q}(h:Hp nx0 H0 (s::F) H nx)(hk:∀b H' nx',Hp nx0 H0 (s::(b,cs++ds,138)::F) H' nx'->aT P pl X0 (kt (gM b 2 2) H' nx') nx0 H0 R):aT P pl X0 (ao (aq P H nx 53 2 (some [(0,.agg ⟨cs⟩),(1,.agg ⟨ds⟩)])) kt) nx0 H0 R:=
 match cs,hc,ds,hd with
 | [c0,c1,c2],_,[d0,d1,d2],_=>Hq.row eI cE cw rfl (G_ _ _ _ _ _ _ _ cw) h hk
theorem Lr {n:Nat}(h:n<=1048576):bB P 138 3 n=true:=by
 have:bB P 138 3 n=(Nat.ble n 1048576&&true):=by kernel_rfl
 rw[this,Nat.ble_eq_true_of_le h];rfl
theorem bj.fw (x:bj):mg true 3 [x.v]:=λv hv=>by
 rw[List.mem_singleton]at hv;subst hv;rw[bj.bw];exact⟨rfl,rfl,⟨_,rfl⟩⟩
theorem bj.len (x:bj):x.v.cells.toList.length=3:=(x.fw x.v (by simp)).1
theorem Hq.Jn (A:List Bx){l:List bj}{x:bj}{sl:Value}{kt:Value->T OB->Nat->Q}(hl:l.length<=1000000)(hG:Gw true 3 138 (l.map bj.v) sl G)(h:Hp nx0 H0 (s::(b,x.v.cells.toList,138)::(A++(G++B))) H nx)
 (hk:∀sl' G' H' nx',Gw true 3 138 ((l++[x]).map bj.v) sl' G'->Hp nx0 H0 (s::(A++(G'++B))) H' nx'->aT P pl X0 (kt sl' H' nx') nx0 H0 R):aT P pl X0 (ao (bt P H nx [53,53] (some [sl,gM b 1 1])) kt) nx0 H0 R:=
 Hq.add A eI cE (Lr (by rw[List.length_map];omega)) (by rw[List.length_map];omega) x.fw hG h λsl' G' H' nx' hG' h'=>hk sl' G' H' nx' (by rw[List.map_append];exact hG') h'
theorem Hb (c0 c1:Value)(z:List Value)(hz:bE P 55=some z):Instr.fill (λi=>some (i*2,2)) (bz z (1*2)) [(0,.agg ⟨[c0,c1]⟩)]=some ⟨[c0,c1]⟩:=by
 rw[gm]at hz;cases hz;kernel_rfl
theorem Hq.AK (cs:List Value)(hc:cs.length=2){kt:Value->T OB->Nat->Q}(h:Hp nx0 H0 (s::F) H nx)(hk:∀b H' nx',Hp nx0 H0 (s::(b,cs,55)::F) H' nx'->aT P pl X0 (kt (gM b 1 1) H' nx') nx0 H0 R):aT P pl X0 (ao (aq P H nx 50 1 (some [(0,.agg ⟨cs⟩)])) kt) nx0 H0 R:=
 match cs,hc with
 | [c0,c1],_=>Hq.row l6 j7 gm rfl (Hb _ _ _ gm) h hk
theorem Nx {n:Nat}(h:n<=1048576):bB P 55 2 n=true:=by
 have:bB P 55 2 n=(Nat.ble n 1048576&&true):=by kernel_rfl
 rw[this,Nat.ble_eq_true_of_le h];rfl
theorem dp.fw (x:dp):mg true 2 [x.v]:=λv hv=>by
 rw[List.mem_singleton]at hv;subst hv;rw[dp.bw];exact⟨rfl,rfl,⟨_,rfl⟩⟩
theorem dp.len (x:dp):x.v.cells.toList.length=2:=(x.fw x.v (by simp)).1
theorem Hq.Ny (A:List Bx){l:List dp}{x:dp}{sl:Value}{kt:Value->T OB->Nat->Q}(hl:l.length<=1000000)(hG:Gw true 2 55 (l.map dp.v) sl G)(h:Hp nx0 H0 (s::(b,x.v.cells.toList,55)::(A++(G++B))) H nx)
 (hk:∀sl' G' H' nx',Gw true 2 55 ((l++[x]).map dp.v) sl' G'->Hp nx0 H0 (s::(A++(G'++B))) H' nx'->aT P pl X0 (kt sl' H' nx') nx0 H0 R):aT P pl X0 (ao (bt P H nx [50,50] (some [sl,gM b 1 1])) kt) nx0 H0 R:=
 Hq.add A l6 j7 (Nx (by rw[List.length_map];omega)) (by rw[List.length_map];omega) x.fw hG h λsl' G' H' nx' hG' h'=>hk sl' G' H' nx' (by rw[List.map_append];exact hG') h'
theorem Hc (c0 c1 c2 c3 c4 c5 c6 c7:Value)(z:List Value)(hz:bE P 65=some z):Instr.fill (λi=>some (i*8,8)) (bz z (1*8)) [(0,.agg ⟨[c0,c1,c2,c3,c4,c5,c6,c7]⟩)]=some ⟨[c0,c1,c2,c3,c4,c5,c6,c7]⟩:=by
 rw[iw]at hz;cases hz;kernel_rfl
theorem Hq.AL (cs:List Value)(hc:cs.length=8){kt:Value->T OB->Nat->Q}(h:Hp nx0 H0 (s::F) H nx)(hk:∀b H' nx',Hp nx0 H0 (s::(b,cs,65)::F) H' nx'->aT P pl X0 (kt (gM b 1 1) H' nx') nx0 H0 R):aT P pl X0 (ao (aq P H nx 48 1 (some [(0,.agg ⟨cs⟩)])) kt) nx0 H0 R:=
 match cs,hc with
 | [c0,c1,c2,c3,c4,c5,c6,c7],_=>Hq.row o6 mL iw rfl (Hc _ _ _ _ _ _ _ _ _ iw) h hk
theorem Nz {n:Nat}(h:n<=1048576):bB P 65 8 n=true:=by
 have:bB P 65 8 n=(Nat.ble n 1048576&&true):=by kernel_rfl
 rw[this,Nat.ble_eq_true_of_le h];rfl
theorem Fn.fw (x:Fn):mg true 8 [x.v]:=λv hv=>by
 rw[List.mem_singleton]at hv;subst hv;rw[Fn.bw];exact⟨rfl,rfl,⟨_,rfl⟩⟩
theorem Fn.len (x:Fn):x.v.cells.toList.length=8:=(x.fw x.v (by simp)).1
theorem Hq.NA (A:List Bx){l:List Fn}{x:Fn}{sl:Value}{kt:Value->T OB->Nat->Q}(hl:l.length<=1000000)(hG:Gw true 8 65 (l.map Fn.v) sl G)(h:Hp nx0 H0 (s::(b,x.v.cells.toList,65)::(A++(G++B))) H nx)
 (hk:∀sl' G' H' nx',Gw true 8 65 ((l++[x]).map Fn.v) sl' G'->Hp nx0 H0 (s::(A++(G'++B))) H' nx'->aT P pl X0 (kt sl' H' nx') nx0 H0 R):aT P pl X0 (ao (bt P H nx [48,48] (some [sl,gM b 1 1])) kt) nx0 H0 R:=
 Hq.add A o6 mL (Nz (by rw[List.length_map];omega)) (by rw[List.length_map];omega) x.fw hG h λsl' G' H' nx' hG' h'=>hk sl' G' H' nx' (by rw[List.map_append];exact hG') h'
theorem Hd (c0 c1 c2 c3 c4 c5 c6 c7 c8 c9 c10 c11 c12 c13 c14 c15 c16:Value)(z:List Value)(hz:bE P 57=some z):Instr.fill (λi=>some (i*17,17)) (bz z (1*17)) [(0,.agg ⟨[c0,c1,c2,c3,c4,c5,c6,c7,c8,c9,c10,c11,c12,c13,c14,c15,c16]⟩)]=some ⟨[c0,c1,c2,c3,c4,c5,c6,c7,c8,c9,c10,c11,c12,c13,c14,c15,c16]⟩:=by
 rw[dt]at hz;cases hz;kernel_rfl
theorem Hq.AM (cs:List Value)(hc:cs.length=17){kt:Value->T OB->Nat->Q}(h:Hp nx0 H0 (s::F) H nx)(hk:∀b H' nx',Hp nx0 H0 (s::(b,cs,57)::F) H' nx'->aT P pl X0 (kt (gM b 1 1) H' nx') nx0 H0 R):aT P pl X0 (ao (aq P H nx 24 1 (some [(0,.agg ⟨cs⟩)])) kt) nx0 H0 R:=
 match cs,hc with
 | [c0,c1,c2,c3,c4,c5,c6,c7,c8,c9,c10,c11,c12,c13,c14,c15,c16],_=>Hq.row fq eT dt rfl (Hd _ _ _ _ _ _ _ _ _ _ _ _ _ _ _ _ _ _ dt) h hk
theorem Jo {n:Nat}(h:n<=1048576):bB P 57 17 n=true:=by
 have:bB P 57 17 n=(Nat.ble n 1048576&&true):=by kernel_rfl
 rw[this,Nat.ble_eq_true_of_le h];rfl
theorem ba.fw (x:ba):mg true 17 [x.v]:=λv hv=>by
 rw[List.mem_singleton]at hv;subst hv;rw[ba.bw];exact⟨rfl,rfl,⟨_,rfl⟩⟩
theorem ba.len (x:ba):x.v.cells.toList.length=17:=(x.fw x.v (by simp)).1
theorem Hq.NB (A:List Bx){l:List ba}{x:ba}{sl:Value}{kt:Value->T OB->Nat->Q}(hl:l.length<=1000000)(hG:Gw true 17 57 (l.map ba.v) sl G)(h:Hp nx0 H0 (s::(b,x.v.cells.toList,57)::(A++(G++B))) H nx)
 (hk:∀sl' G' H' nx',Gw true 17 57 ((l++[x]).map ba.v) sl' G'->Hp nx0 H0 (s::(A++(G'++B))) H' nx'->aT P pl X0 (kt sl' H' nx') nx0 H0 R):aT P pl X0 (ao (bt P H nx [24,24] (some [sl,gM b 1 1])) kt) nx0 H0 R:=
 Hq.add A fq eT (Jo (by rw[List.length_map];omega)) (by rw[List.length_map];omega) x.fw hG h λsl' G' H' nx' hG' h'=>hk sl' G' H' nx' (by rw[List.map_append];exact hG') h'
theorem aQ.fz (x:aQ):fC 0 [(3,41),(4,42),(5,24)] x.v x.v []:=by
 rw[aQ.bw];exact fC.of (ed.cons rfl (cG.row eh) (ed.cons rfl (cG.row dz) (ed.cons rfl (cG.row fq) (ed.nil))))
theorem bg.fz (x:bg):fC 0 [(3,42)] x.v x.v []:=by
 rw[bg.bw];exact fC.of (ed.cons rfl (cG.row dz) (ed.nil))
theorem bj.fz (x:bj):fC 0 [(2,53)] x.v x.v []:=by
 rw[bj.bw];exact fC.of (ed.cons rfl (cG.row eI) (ed.nil))
theorem dp.fz (x:dp):fC 0 [(1,53)] x.v x.v []:=by
 rw[dp.bw];exact fC.of (ed.cons rfl (cG.row eI) (ed.nil))
theorem Fn.fz (x:Fn):fC 0 [(1,42),(5,41),(6,42),(7,24)] x.v x.v []:=by
 rw[Fn.bw];exact fC.of (ed.cons rfl (cG.row dz) (ed.cons rfl (cG.row eh) (ed.cons rfl (cG.row dz) (ed.cons rfl (cG.row fq) (ed.nil)))))
theorem ba.fz (x:ba):fC 0 [(4,42),(8,41),(9,42),(10,24),(11,48),(12,49),(14,50),(16,53)] x.v x.v []:=by
 rw[ba.bw];exact fC.of (ed.cons rfl (cG.row dz) (ed.cons rfl (cG.row eh) (ed.cons rfl (cG.row dz) (ed.cons rfl (cG.row fq) (ed.cons rfl (cG.row o6) (ed.cons rfl (cG.row jr) (ed.cons rfl (cG.row l6) (ed.cons rfl (cG.row eI) (ed.nil)))))))))
theorem Gw.NC {l:List aQ}{sl:Value}(hG:Gw true 6 44 (l.map aQ.v) sl G):cG 1 41 sl (bc 6 (l.map aQ.v)) G:=
 cG.gw eh bW dj rfl eN hG (gX.id λv hv=>by obtain⟨x,_,rfl⟩:=List.mem_map.1 hv;exact x.fz) (λu hu=>by obtain⟨x,_,rfl⟩:=List.mem_map.1 hu;exact x.len) id
theorem Gw.Ls {l:List bg}{sl:Value}(hG:Gw true 4 47 (l.map bg.v) sl G):cG 1 42 sl (bc 4 (l.map bg.v)) G:=
 cG.gw dz da ei rfl gq hG (gX.id λv hv=>by obtain⟨x,_,rfl⟩:=List.mem_map.1 hv;exact x.fz) (λu hu=>by obtain⟨x,_,rfl⟩:=List.mem_map.1 hu;exact x.len) id
theorem Gw.ND {l:List bj}{sl:Value}(hG:Gw true 3 138 (l.map bj.v) sl G):cG 1 53 sl (bc 3 (l.map bj.v)) G:=
 cG.gw eI cE iB rfl mh hG (gX.id λv hv=>by obtain⟨x,_,rfl⟩:=List.mem_map.1 hv;exact x.fz) (λu hu=>by obtain⟨x,_,rfl⟩:=List.mem_map.1 hu;exact x.len) id
theorem Gw.P8 {l:List dp}{sl:Value}(hG:Gw true 2 55 (l.map dp.v) sl G):cG 1 50 sl (bc 2 (l.map dp.v)) G:=
 cG.gw l6 j7 rP rfl Eb hG (gX.id λv hv=>by obtain⟨x,_,rfl⟩:=List.mem_map.1 hv;exact x.fz) (λu hu=>by obtain⟨x,_,rfl⟩:=List.mem_map.1 hu;exact x.len) id
theorem Gw.P9 {l:List Fn}{sl:Value}(hG:Gw true 8 65 (l.map Fn.v) sl G):cG 1 48 sl (bc 8 (l.map Fn.v)) G:=
 cG.gw o6 mL wL rfl Jb hG (gX.id λv hv=>by obtain⟨x,_,rfl⟩:=List.mem_map.1 hv;exact x.fz) (λu hu=>by obtain⟨x,_,rfl⟩:=List.mem_map.1 hu;exact x.len) id
theorem Gw.P_ {l:List ba}{sl:Value}(hG:Gw true 17 57 (l.map ba.v) sl G):cG 1 24 sl (bc 17 (l.map ba.v)) G:=
 cG.gw fq eT iA rfl mO hG (gX.id λv hv=>by obtain⟨x,_,rfl⟩:=List.mem_map.1 hv;exact x.fz) (λu hu=>by obtain⟨x,_,rfl⟩:=List.mem_map.1 hu;exact x.len) id
theorem fl {cs:List Value}(h:cm H b cs 44)(hc:cs.length=6):ae P H 44 (some (ptr b))=some (.agg ⟨cs⟩):=by
 rw[cq h dj bW (by omega),List.drop_zero,<- hc,List.take_length]
theorem qU {cs:List Value}(h:cm H b cs 47)(hc:cs.length=4):ae P H 47 (some (ptr b))=some (.agg ⟨cs⟩):=by
 rw[cq h ei da (by omega),List.drop_zero,<- hc,List.take_length]
theorem kE {cs:List Value}(h:cm H b cs 138)(hc:cs.length=3):ae P H 138 (some (ptr b))=some (.agg ⟨cs⟩):=by
 rw[cq h iB cE (by omega),List.drop_zero,<- hc,List.take_length]
theorem Jp {cs:List Value}(h:cm H b cs 55)(hc:cs.length=2):ae P H 55 (some (ptr b))=some (.agg ⟨cs⟩):=by
 rw[cq h rP j7 (by omega),List.drop_zero,<- hc,List.take_length]
theorem NF {cs:List Value}(h:cm H b cs 52)(hc:cs.length=3):ae P H 52 (some (ptr b))=some (.agg ⟨cs⟩):=by
 rw[cq h Kd ME (by omega),List.drop_zero,<- hc,List.take_length]
theorem NG {cs:List Value}(h:cm H b cs 65)(hc:cs.length=8):ae P H 65 (some (ptr b))=some (.agg ⟨cs⟩):=by
 rw[cq h wL mL (by omega),List.drop_zero,<- hc,List.take_length]
theorem Jq {cs:List Value}(h:cm H b cs 57)(hc:cs.length=17):ae P H 57 (some (ptr b))=some (.agg ⟨cs⟩):=by
 rw[cq h iA eT (by omega),List.drop_zero,<- hc,List.take_length]
theorem gv (k:Int)(a:Option Addr)(n c:Nat):aC P 44 (some [(0,i64 k),(3,.slice a n c)])=some (.agg ⟨[i64 k,i64 0,aE [],.slice a n c,aG,aG]⟩):=a_ bJ (by kernel_rfl)
theorem tu (k:Int)(w:List UInt8)(a:Option Addr)(n c:Nat):aC P 44 (some [(0,i64 k),(2,aE w),(3,.slice a n c)])=some (.agg ⟨[i64 k,i64 0,aE w,.slice a n c,aG,aG]⟩):=a_ bJ (by kernel_rfl)
theorem He (k n:Int):aC P 44 (some [(0,i64 k),(1,i64 n)])=some (.agg ⟨[i64 k,i64 n,aE [],aG,aG,aG]⟩):=a_ bJ (by kernel_rfl)
theorem tv (k:Int)(w:List UInt8):aC P 44 (some [(0,i64 k),(2,aE w)])=some (.agg ⟨[i64 k,i64 0,aE w,aG,aG,aG]⟩):=a_ bJ (by kernel_rfl)
theorem AN (k:Int)(a:Option Addr)(n c:Nat):aC P 47 (some [(0,i64 k),(3,.slice a n c)])=some (.agg ⟨[i64 k,i64 0,aE [],.slice a n c]⟩):=a_ cN (by kernel_rfl)
theorem Hf (k:Int)(w:List UInt8)(a:Option Addr)(n c:Nat):aC P 47 (some [(0,i64 k),(2,aE w),(3,.slice a n c)])=some (.agg ⟨[i64 k,i64 0,aE w,.slice a n c]⟩):=a_ cN (by kernel_rfl)
theorem AO (k n:Int):aC P 47 (some [(0,i64 k),(1,i64 n)])=some (.agg ⟨[i64 k,i64 n,aE [],aG]⟩):=a_ cN (by kernel_rfl)
theorem nK (k:Int)(w:List UInt8):aC P 47 (some [(0,i64 k),(2,aE w)])=some (.agg ⟨[i64 k,i64 0,aE w,aG]⟩):=a_ cN (by kernel_rfl)
theorem vB (k:Int)(w:List UInt8):aC P 138 (some [(0,i64 k),(1,aE w)])=some (.agg ⟨[i64 k,aE w,aG]⟩):=a_ cw (by kernel_rfl)
theorem vC (k:Int)(a:Option Addr)(n c:Nat):aC P 138 (some [(0,i64 k),(2,.slice a n c)])=some (.agg ⟨[i64 k,aE [],.slice a n c]⟩):=a_ cw (by kernel_rfl)
theorem vD (k:Int)(w:List UInt8)(a:Option Addr)(n c:Nat):aC P 138 (some [(0,i64 k),(1,aE w),(2,.slice a n c)])=some (.agg ⟨[i64 k,aE w,.slice a n c]⟩):=a_ cw (by kernel_rfl)
theorem Hg (w:List UInt8):aC P 55 (some [(0,aE w)])=some (.agg ⟨[aE w,aG]⟩):=a_ gm (by kernel_rfl)
theorem Hh (w:List UInt8)(a:Option Addr)(n c:Nat):aC P 65 (some [(0,aE w),(1,.slice a n c)])=some (.agg ⟨[aE w,.slice a n c,i64 0,i64 0,aE [],aG,aG,aG]⟩):=a_ iw (by kernel_rfl)
theorem Hi (k:Int)(a:Option Addr)(n c:Nat):aC P 57 (some [(0,i64 k),(3,.slice a n c)])=some (.agg ⟨[i64 k,i64 0,i64 0,aE [],aG,i64 0,i64 0,aE [],aG,aG,aG,.slice a n c,aG,aE [],aG,aE [],aG]⟩):=a_ dt (by kernel_rfl)
theorem Hj (k:Int)(p0 p1 p2 p3 c0 c1 c2 c3 c4 c5:Value):aC P 57 (some [(0,i64 k),(1,.agg ⟨[p0,p1,p2,p3]⟩),(2,.agg ⟨[c0,c1,c2,c3,c4,c5]⟩)])=some (.agg ⟨[i64 k,p0,p1,p2,p3,c0,c1,c2,c3,c4,c5,aG,aG,aE [],aG,aE [],aG]⟩):=a_ dt (by kernel_rfl)
theorem Hk (k:Int)(c0 c1 c2 c3 c4 c5:Value):aC P 57 (some [(0,i64 k),(2,.agg ⟨[c0,c1,c2,c3,c4,c5]⟩)])=some (.agg ⟨[i64 k,i64 0,i64 0,aE [],aG,c0,c1,c2,c3,c4,c5,aG,aG,aE [],aG,aE [],aG]⟩):=a_ dt (by kernel_rfl)
theorem Hl (k:Int)(c0 c1 c2:Value):aC P 57 (some [(0,i64 k),(4,.agg ⟨[c0,c1,c2]⟩)])=some (.agg ⟨[i64 k,i64 0,i64 0,aE [],aG,i64 0,i64 0,aE [],aG,aG,aG,aG,c0,c1,c2,aE [],aG]⟩):=a_ dt (by kernel_rfl)
theorem Hm (k:Int)(c0 c1:Value):aC P 57 (some [(0,i64 k),(5,.agg ⟨[c0,c1]⟩)])=some (.agg ⟨[i64 k,i64 0,i64 0,aE [],aG,i64 0,i64 0,aE [],aG,aG,aG,aG,aG,aE [],aG,c0,c1]⟩):=a_ dt (by kernel_rfl)
end
section
variable {nx0 nx nx' bp k:Nat}{H0 H H':T OB}{F A B G G':List Bx}{s:Bx}{R:Go.Ev.Out->T OB->Nat->Prop}{b:Nat}{l:List Value}{e t:TypeId}{L:List Tok}
theorem ed.one {n:Nat}{p:Nat×TypeId}{cs:List Value}{v u:Value}(hc:cs[p.1]? = some v)(h1:cG n p.2 v u G):ed n [p] cs (cs.set p.1 u) G:=by
 have:=ed.cons hc h1 (ed.nil (n:=n));rwa[List.append_nil]at this
theorem gX.one {n:Nat}{offs:List (Nat×TypeId)}{v u:Value}(h1:fC n offs v u G):gX n offs [v] [u] G:=by
 have:=gX.cons h1 (gX.nil (n:=n) (offs:=offs));rwa[List.append_nil]at this
theorem gX.two {n:Nat}{offs:List (Nat×TypeId)}{v u w:Value}(h1:fC n offs v u G)(h2:fC 0 offs w w []):gX n offs [v,w] [u,w] G:=by
 have:=gX.cons h1 (gX.one (h2.mono (Nat.zero_le n)));rwa[List.append_nil]at this
theorem fS (cs:List Value):bL [.agg ⟨cs⟩]=cs:=List.append_nil cs
theorem kF (cs ds:List Value):bL [.agg ⟨cs⟩,.agg ⟨ds⟩]=cs++ds:=by show cs++(ds++[])=_;rw[List.append_nil]
theorem Gw.m7 {a:Bool}{sz:Nat}{cs:List Value}(h:mg a sz [.agg ⟨cs⟩]):Gw a sz e [.agg ⟨cs⟩] (gM b 1 1) [(b,cs,e)]:=by
 have:=Gw.one (b:=b) (e:=e) (n:=1) h rfl (by decide);rwa[fS]at this
structure lC (n:Nat)(cs:List Value)(a:bj)(G:List Bx):Prop where
 len:cs.length=3
 one:cs.all au=true
 fz:fC n [(2,53)] (.agg ⟨cs⟩) a.v G
theorem lC.of (a:bj):lC 0 a.cs a []:=⟨a.len,(a.fw a.v (by simp)).2.1,a.fz⟩
theorem lC.fw {n:Nat}{cs:List Value}{a:bj}(h:lC n cs a G):mg true 3 [.agg ⟨cs⟩]:=λv hv=>by
 rw[List.mem_singleton]at hv;subst hv;exact⟨h.len,h.one,⟨_,rfl⟩⟩
theorem lC.row {k:Int}{w:List UInt8}{sl:Value}{l:List bj}{n:Nat}(h:cG n 53 sl (jx l) G)(ho:au sl=true):lC n [i64 k,aE w,sl] (.mk k w l) G:=⟨rfl,by simp[ho],by
 rw[bj.bw];exact fC.of (ed.one (p:=(2,53)) (cs:=[i64 k,aE w,sl]) rfl h)⟩
theorem dV {a:Bool}{sz:Nat}{vs:List Value}{sl:Value}(h:Gw a sz e vs sl G):au sl=true:=by
 rcases h.2 with⟨_,rfl,_⟩ | ⟨b,c,rfl,_⟩<;>rfl
theorem lC.gw {k:Int}{w:List UInt8}{sl:Value}{l:List bj}(h:Gw true 3 138 (l.map bj.v) sl G):lC 1 [i64 k,aE w,sl] (.mk k w l) G:=lC.row h.ND (dV h)
theorem lC.b1 {k:Int}{w:List UInt8}{n:Nat}{cs:List Value}{a:bj}(h:lC n cs a G):lC (n+1) [i64 k,aE w,gM b 1 1] (.mk k w [a]) ((b,cs,138)::G):=by
 have:=cG.dF (t:=53) (b:=b) eI cE iB rfl mh h.fw (.inr rfl) (by simp) (gX.one h.fz) (λu hu=>by rw[List.mem_singleton]at hu;subst hu;exact a.len);rw[fS cs]at this;exact lC.row this rfl
theorem lC.b2 {k:Int}{w:List UInt8}{n:Nat}{cs:List Value}{a c:bj}(h:lC n cs a G):lC (n+1) [i64 k,aE w,gM b 2 2] (.mk k w [a,c]) ((b,cs++c.cs,138)::G):=by
 have:=cG.dF (t:=53) (b:=b) (vs:=[.agg ⟨cs⟩,c.v]) eI cE iB rfl mh (λv hv=>by
  rcases List.mem_cons.1 hv with rfl | hv
  . exact h.fw _ (by simp)
  . exact c.fw v hv) (.inr rfl) (by simp) (gX.two h.fz c.fz) (λu hu=>by
  rcases List.mem_cons.1 hu with rfl | hu
  . exact a.len
  . rw[List.mem_singleton]at hu;subst hu;exact c.len)
 rw[show bL [Value.agg ⟨cs⟩,c.v]=cs++c.cs from kF cs c.cs]at this;exact lC.row this rfl
theorem fT {α β γ:Type}(x:PR α)(f:α->Nat->PR β)(g:β->Nat->PR γ):bd (bd x f) g=bd x λa k=>bd (f a k) g:=by
 cases x with
 | none=>rfl
 | some r=>cases r<;>rfl
theorem dO {α β:Type}(a:α)(k:Nat)(f:α->Nat->PR β):bd (yes a k) f=f a k:=rfl
def Hn (L:List Tok)(T:Nat->PR bj)(a:bj)(k:Nat):PR bj:=if cO L k [45,62]=true then bd (T (k+1)) λb k=>yes (.mk 3 [] [a,b]) k else yes a k
theorem Jr {T:Nat->PR bj}(hT:bo 147 L bj.v T)(hL:L.length<=100000){n:Nat}{cs z:List Value}{a:bj}{x0 x2:Nat}{o:gL bj}(hv:lC n cs a G)(hn:n<=99990)(hz:z.length=3)(ho:Hn L T a k=some o)
 (h:Hp nx0 H0 (ca bp L k::(x2,cs,138)::(x0,z,138)::(G++F)) H nx):aT P pl X0 (a4 P pl (sG (ptr bp) (ptr x0) (ptr x2) H nx)) nx0 H0 (End nx0 H0 bp L F bj.v o):=by
 rw[Af];unfold Hn at ho;refine Sq.take hL h (λhi H1 aJ h1=> ?_) (λhi H1 aJ h1=> ?_)
 . rw[if_pos hi]at ho;simp only[af,kE (h1.at_ 1 rfl) hv.len];refine Sq.call hT rfl h1 ho λc k' H2 nx2 _ ho2 h2=> ?_;simp only[af,kE (h2.at_ 1 rfl) hv.len,bf];refine Hq.Ha cs c.cs hv.len c.len h2 λx H3 nx3 h3=> ?_;simp only[af,vC];have h4:Hp nx0 H0 (ca bp L k'::(x0,z,138)::((x,cs++c.cs,138)::G++F)) H3 nx3:=(Hp.mv [_,_] h3).sub (by simp);exact Hq.fin h4 cE iB mh hz rfl rfl (lC.b2 hv).fz (by omega) λH5 nx5 h5=>End.ret ho2 rfl h5
 . rw[if_neg (by rw[hi];simp)]at ho;simp only[af,kE (h1.at_ 1 rfl) hv.len];have h4:Hp nx0 H0 (ca bp L k::(x0,z,138)::(G++F)) H1 aJ:=(Hp.mv [_] h1).sub (by simp);exact Hq.fin h4 cE iB mh hz hv.len hv.one hv.fz (by omega) λH5 nx5 h5=>End.ret ho rfl h5
theorem Js {TT:Nat->PR bj}(hT:bo 147 L bj.v TT)(hL:L.length<=100000):∀(m:Nat),(∀j,j<m->bo 175 L bj.v (ps L j).post)->∀(l:List bj) (k:Nat) (sl:Value) (G:List Bx) (o:gL bj) (z:List Value) (x0 x2 nx:Nat) (H:T OB),l.length+m<=90010->Gw true 3 138 (l.map bj.v) sl G->z.length=3->
 bd ((ps L m).ee l k) (λl k=>Hn L TT (.mk 4 [] l) k)=some o->Hp nx0 H0 (ca bp L k::(x2,[i64 4,aE [],sl],138)::(x0,z,138)::(G++F)) H nx->
 aT P pl X0 (.jump (nB (ptr bp) (ptr x0) (ptr x2) H nx)) nx0 H0 (End nx0 H0 bp L F bj.v o)
 | 0,_,l,k,sl,G,o,z,x0,x2,nx,H,hm,hG,hz,ho,h=>by cases ho
 | m+1,hp,l,k,sl,G,o,z,x0,x2,nx,H,hm,hG,hz,ho,h=>by
   have ho:bd (lB L (ps L m) l k) (λl k=>Hn L TT (.mk 4 [] l) k)=some o:=ho;unfold lB at ho;refine Wq.jmp (F6 ..) (λ_=>rfl) ?_;refine Sq.take hL h (λhi H1 aJ h1=> ?_) (λhi H1 aJ h1=> ?_)
   . rw[if_pos hi,fT]at ho;simp only[af,ax (off:=2) (u:=sl) (h1.at_ 1 rfl) rO rfl];refine Sq.call (hp m (Nat.lt_succ_self m)) rfl h1 ho λc k' H2 nx2 _ ho2 h2=> ?_;simp only[af,ax (off:=2) (u:=sl) (h2.at_ 1 rfl) rO rfl,bf];refine Hq.jU c.cs c.len h2 λx H3 nx3 h3=> ?_;simp only[af,ax (off:=2) (u:=sl) (h3.at_ 2 rfl) rO rfl,bf];refine Hq.Jn [_,_] (x:=c) (by omega) hG h3 λsl' G' H4 nx4 hG' h4=> ?_;refine Hq.put [_] h4 IJ (by rcases hG'.2 with⟨_,rfl,_⟩ | ⟨b,c,rfl,_⟩<;>rfl) (dV hG') (by simp) rfl λH5 h5=> ?_;exact Js hT hL m (λj hj=>hp j (by omega)) (l++[c]) k' sl' G' o z x0 x2 nx4 H5 (by rw[List.length_append];simp;omega) hG' hz ho2 h5
   . rw[if_neg (by rw[hi];simp)]at ho;have:=Jr hT hL (lC.gw (k:=4) (w:=[]) hG) (by omega) hz ho h1;rw[Af]at this;exact this
theorem Fc (a b:Value):ar (some (.tuple ⟨[a,b]⟩)) 0=some a:=rfl
theorem Fe (a b:Value):ar (some (.tuple ⟨[a,b]⟩)) 1=some b:=rfl
theorem Hq.set (A:List Bx){sz:Nat}{cs:List Value}{kt:Value->Go.Ev.T OB->Nat->Q}(h:Hp nx0 H0 (A++(b,l,e)::B) H nx)(hs:a6 P t=some sz)(hl:l.length=sz)(hc:cs.length=sz)(h1:cs.all au=true)
 (hk:∀H',Hp nx0 H0 (A++(b,cs,e)::B) H' nx->aT P pl X0 (kt undef H' nx) nx0 H0 R):aT P pl X0 (ao (aj P H nx t (some (ptr b)) (some (.agg ⟨cs⟩))) kt) nx0 H0 R:=
 Hq.store A h hs (by omega) hc h1 λH' h'=>hk H' (by
  rw[show gk l (Value.agg ⟨cs⟩).cells.toList 0=cs from qS (by show cs.length=_;omega)]at h';exact h')
theorem Hp.swap' {x y:Bx}(h:Hp nx0 H0 (s::x::y::F) H nx):Hp nx0 H0 (s::y::x::F) H nx:=h.perm (List.Perm.cons _ (List.Perm.swap _ _ _))
theorem Hp.tx {x y z:Bx}(h:Hp nx0 H0 (s::x::y::z::F) H nx):Hp nx0 H0 (s::y::z::x::F) H nx:=h.perm (List.Perm.cons _ ((List.Perm.swap _ _ _).trans (List.Perm.cons _ (List.Perm.swap _ _ _))))
theorem NH (hL:L.length<=100000){n:Nat}(hn:n<=90000)(hpost:∀j,j<=n->bo 175 L bj.v (ps L j).post)(htyp:bo 147 L bj.v (ps L n).fu):bo 147 L bj.v (ps L (n+1)).fu:=by
 intro nx0 nx H0 H bp F k o ho h;have ho:vy L (ps L n) k=some o:=ho;unfold vy pC at ho;rw[fT]at ho;rw[Pk];refine Hq.alloc cw h λx0 H1 aJ h1=> ?_;refine Sq.call (hpost n (Nat.le_refl n)) rfl h1 ho λa k' H2 nx2 _ ho h2=> ?_;have ha:=lC.of a;refine Hq.alloc cw h2 λx2 H3 nx3 h3=> ?_;refine Hq.set [_] h3 cE rfl ha.len ha.one λH4 h4=> ?_
 refine Sq.is h4 λH5 nx5 h5=> ?_;cases hi:cO L k' [42]with
 | true=>
   rw[hi,if_pos rfl,fT]at ho;simp only[af,kE (h5.at_ 1 rfl) a.len];refine Hq.jU a.cs a.len h5 λx H6 nx6 h6=> ?_;simp only[af,vC];refine Hq.set [_,_] h6 cE ha.len rfl rfl λH7 h7=> ?_
   exact Js htyp hL (n+1) (λj hj=>hpost j (by omega)) [a] k' (gM x 1 1) [(x,a.cs,138)] o _ x0 x2 nx6 H7 (show 1+(n+1)<=90010 by omega) (Gw.m7 a.fw) rfl ho (Hp.tx h7)
 | false=>
   rw[hi,if_neg (by simp),dO]at ho;simp only[af];exact Wq.jump (λ_=>rfl) (Jr htyp hL ha (by omega) rfl ho h5)
theorem El (hL:L.length<=100000):∀(m:Nat) (a:bj) (k n:Nat) (cs z:List Value) (G:List Bx) (o:gL bj) (x0 x1 nx:Nat) (H:Go.Ev.T OB),n+m<=90010->lC n cs a G->z.length=3->(ps L m).dm a k=some o->Hp nx0 H0 (ca bp L k::(x1,cs,138)::(x0,z,138)::(G++F)) H nx->
 aT P pl X0 (a4 P pl (jQ (ptr bp) (ptr x0) (ptr x1) H nx)) nx0 H0 (End nx0 H0 bp L F bj.v o)
 | 0,a,k,n,cs,z,G,o,x0,x1,nx,H,hm,hv,hz,ho,h=>by cases ho
 | m+1,a,k,n,cs,z,G,o,x0,x1,nx,H,hm,hv,hz,ho,h=>by
   have ho:jA L (ps L m) a k=some o:=ho;unfold jA at ho;rw[sM];refine Sq.PW hL h (λhi H1 aJ h1=> ?_) (λhi H1 aJ h1=> ?_)
   . rw[if_pos hi]at ho;simp only[af,Fc,Fe];refine Wq.jmp (Ai ..) (λ_=>rfl) ?_;simp only[af,kE (h1.at_ 1 rfl) hv.len];refine Hq.jU cs hv.len h1 λx H2 nx2 h2=> ?_;simp only[af,vD];refine Hq.set [_,_] h2 cE hv.len rfl rfl λH3 h3=> ?_
     have:=El hL m (.mk 2 (tk L k).s [a]) (k+1) (n+1) _ z ((x,cs,138)::G) o x0 x1 nx2 H3 (by omega) (lC.b1 (k:=2) (w:=(tk L k).s) hv) hz ho (Hp.tx h3);rw[sM]at this;exact this
   . rw[if_neg (by rw[hi];simp)]at ho;simp only[af,Fc,Fe];refine Wq.jmp (Ai ..) (λ_=>rfl) ?_;simp only[af,kE (h1.at_ 1 rfl) hv.len];have h4:Hp nx0 H0 (ca bp L k::(x0,z,138)::(G++F)) H1 aJ:=(Hp.mv [_] h1).sub (by simp);exact Hq.fin h4 cE iB mh hz hv.len hv.one hv.fz (by omega) λH5 nx5 h5=>End.ret ho rfl h5
theorem xk (hL:L.length<=100000){m:Nat}{a:bj}{k n:Nat}{cs z:List Value}{G:List Bx}{o:gL bj}{x0 x1 nx:Nat}{H:Go.Ev.T OB}(hm:n+m<=90010)(hv:lC n cs a G)(hz:z.length=3)(ho:(ps L m).dm a k=some o)(h:Hp nx0 H0 (ca bp L k::(x1,cs,138)::(x0,z,138)::(G++F)) H nx):
 aT P pl X0 (.jump (jQ (ptr bp) (ptr x0) (ptr x1) H nx)) nx0 H0 (End nx0 H0 bp L F bj.v o):=Wq.jump (λ_=>rfl) (El hL m a k n cs z G o x0 x1 nx H hm hv hz ho h)
theorem Jt (hL:L.length<=100000){M:Nat}(hM:M<=90005):∀(m:Nat),(∀j,j<m->bo 147 L bj.v (ps L j).fu)->∀(l:List bj) (k:Nat) (sl:Value) (G:List Bx) (o:gL bj) (y z:List Value) (x0 x1 nx:Nat) (H:Go.Ev.T OB),l.length+m<=90010->Gw true 3 138 (l.map bj.v) sl G->y.length=3->z.length=3->
 bd ((ps L m).p7 l k) (λl k=>bl L [41] k λk=>bd (if fk L k=true then yes (bj.mk 2 (tk L k).s l) (k+1)else gY L k) λa k=>(ps L M).dm a k)=some o->Hp nx0 H0 (ca bp L k::(x1,y,138)::(x0,z,138)::(G++F)) H nx->
 aT P pl X0 (.jump (nE (ptr bp) (ptr x0) (ptr x1) sl H nx)) nx0 H0 (End nx0 H0 bp L F bj.v o)
 | 0,_,l,k,sl,G,o,y,z,x0,x1,nx,H,hm,hG,hy,hz,ho,h=>by cases ho
 | m+1,hp,l,k,sl,G,o,y,z,x0,x1,nx,H,hm,hG,hy,hz,ho,h=>by
   have ho:bd (m6 L (ps L m) l k) (λl k=>bl L [41] k λk=>bd (if fk L k=true then yes (bj.mk 2 (tk L k).s l) (k+1)else gY L k) λa k=>(ps L M).dm a k)=some o:=ho;unfold m6 at ho;refine Wq.jmp (F_ ..) (λ_=>rfl) ?_;refine Sq.take hL h (λhi H1 aJ h1=> ?_) (λhi H1 aJ h1=> ?_)
   . rw[if_pos hi,fT]at ho;simp only[af];refine Sq.call (hp m (Nat.lt_succ_self m)) rfl h1 ho λc k' H2 nx2 _ ho2 h2=> ?_;refine Hq.jU c.cs c.len h2 λx H3 nx3 h3=> ?_;refine Hq.Jn [_,_] (x:=c) (by omega) hG h3 λsl' G' H4 nx4 hG' h4=> ?_;exact Jt hL hM m (λj hj=>hp j (by omega)) (l++[c]) k' sl' G' o y z x0 x1 nx4 H4 (by rw[List.length_append];simp;omega) hG' hy hz ho2 h4
   . rw[if_neg (by rw[hi];simp),dO]at ho;simp only[af];refine Sq.iT hL h1 ho λH2 nx2 _ ho h2=> ?_;refine Sq.PW hL h2 (λhi H3 nx3 h3=> ?_) (λhi H3 nx3 h3=> ?_)
     . rw[if_pos hi,dO]at ho;simp only[af,Fc,Fe];refine Wq.jmp (Gb ..) (λ_=>rfl) ?_;have hb:aC P 138 (some [(0,i64 2),(1,aE (tk L (k+1)).s),(2,sl)])=some (.agg ⟨[i64 2,aE (tk L (k+1)).s,sl]⟩):=by
        rcases hG.2 with⟨_,rfl,_⟩ | ⟨b,c,rfl,_⟩<;>exact vD ..
       simp only[af,hb];refine Hq.set [_] h3 cE hy rfl (by simp[dV hG]) λH4 h4=> ?_
       have:=El hL M _ _ 1 _ z G o x0 x1 nx3 H4 (by omega) (lC.gw (k:=2) (w:=(tk L (k+1)).s) hG) hz ho h4;rw[sM]at this;exact this
     . rw[if_neg (by rw[hi];simp)]at ho;simp only[af,Fc,Fe];exact Sq.fail (α:=bj) (β:=bj) (o:=o) (by cases ho;rfl) h3
theorem NI (hL:L.length<=100000){n:Nat}(hn:n<=90000)(htyp:∀j,j<=n->bo 147 L bj.v (ps L j).fu):bo 175 L bj.v (ps L (n+1)).post:=by
 intro nx0 nx H0 H bp F k o ho h;have ho:mQ L (ps L n) k=some o:=ho;unfold mQ pD at ho;have hnm:∀a k,jA L (ps L n) a k=(ps L (n+1)).dm a k:=λ_ _=>rfl;rw[Pv];refine Hq.alloc cw h λx0 H1 aJ h1=> ?_;refine Hq.alloc cw h1 λx1 H2 nx2 h2=> ?_;refine Sq.now h2 λH3 nx3 h3=> ?_;refine Sq.GB h3 λH4 nx4 h4=> ?_;simp only[af];refine Wq.ite (λhi=> ?_) (λhi=> ?_)
 . rw[if_pos hi,dO]at ho;simp only[af,pk h4,dX hL (eV (show(tk L k).k≠0 by omega))];refine de h4 λH5 h5=> ?_;simp only[af,vB];refine Hq.set [_] h5 cE rfl rfl rfl λH6 h6=> ?_
   exact xk hL (m:=n+1) (n:=0) (G:=[]) (by omega) (lC.row (k:=1) (w:=(tk L k).s) (l:=[]) (cG.nil eI cE) rfl) rfl ho h6
 . rw[if_neg hi]at ho;refine Sq.PW hL h4 (λht H5 nx5 h5=> ?_) (λht H5 nx5 h5=> ?_)
   . rw[if_pos ht,dO]at ho;simp only[af,Fc,Fe,vB];refine Hq.set [_] h5 cE rfl rfl rfl λH6 h6=> ?_
     exact xk hL (m:=n+1) (n:=0) (G:=[]) (by omega) (lC.row (k:=2) (w:=(tk L k).s) (l:=[]) (cG.nil eI cE) rfl) rfl ho h6
   . rw[if_neg (by rw[ht];simp)]at ho;simp only[af,Fc,Fe];have ho:bl L [40] k (λk=>bd (bd ((ps L n).fu k) λa k=>if cO L k [44]=true then bd (m6 L (ps L n) [a] k) λl k=>bl L [41] k λk=>if fk L k=true then yes (bj.mk 2 (tk L k).s l) (k+1)else gY L k else bl L [41] k λk=>yes a k) λa k=>jA L (ps L n) a k)=some o:=by
      rw[<- ho];unfold bl;split<;>rfl
     refine Sq.iT hL h5 ho λH6 nx6 _ ho h6=> ?_;rw[fT]at ho;refine Sq.call (htyp n (Nat.le_refl n)) rfl h6 ho λa k' H7 nx7 _ ho h7=> ?_;refine Hq.set [_] h7 cE rfl a.len (lC.of a).one λH8 h8=> ?_
     refine Sq.is h8 λH9 nx9 h9=> ?_;cases hc:cO L k' [44]with
     | true=>
       rw[hc,if_pos rfl,fT]at ho;simp only[af,kE (h9.at_ 1 rfl) a.len];refine Hq.jU a.cs a.len h9 λx H10 nx10 h10=> ?_;refine Jt hL (M:=n+1) (by omega) (n+1) (λj hj=>htyp j (by omega)) [a] k' (gM x 1 1) [(x,a.cs,138)] o _ _ x0 x1 nx10 H10 (show 1+(n+1)<=90010 by omega) (Gw.m7 a.fw) a.len rfl ?_ (Hp.tx h10);rw[<- ho];show bd (m6 L (ps L n) [a] k') _=bd (m6 L (ps L n) [a] k') _;congr 1;funext l k;unfold bl;split<;>rfl
     | false=>
       rw[hc,if_neg (by simp)]at ho;simp only[af];have ho:bl L [41] k' (λk=>(ps L (n+1)).dm a k)=some o:=by
        rw[<- ho];unfold bl;split<;>rfl
       refine Sq.iT hL h9 ho λH10 nx10 _ ho h10=> ?_;exact xk hL (m:=n+1) (n:=0) (G:=[]) (by omega) (lC.of a) rfl ho h10
theorem NJ (hL:L.length<=100000){p:PS}(htyp:bo 147 L bj.v p.fu):bo 104 L dp.v (vz L p):=by
 intro nx0 nx H0 H bp F k o ho h;unfold vz at ho;rw[O5];refine Hq.alloc gm h λx0 H1 aJ h1=> ?_;refine Sq.word (by decide) hL h1 ho λH2 nx2 _ ho h2=> ?_;simp only[af,Hg];refine Hq.alloc gm h2 λx1 H3 nx3 h3=> ?_;refine Hq.set [_] h3 j7 rfl rfl rfl λH4 h4=> ?_
 refine Sq.take hL h4 (λhi H5 nx5 h5=> ?_) (λhi H5 nx5 h5=> ?_)
 . rw[if_pos hi]at ho;simp only[af];refine Sq.call htyp rfl h5 ho λa k' H6 nx6 _ ho h6=> ?_;refine Hq.jU a.cs a.len h6 λx H7 nx7 h7=> ?_;refine Hq.put [_,_] h7 IJ rfl rfl (by simp) rfl λH8 h8=> ?_;refine Wq.jmp (z9 ..) (λ_=>rfl) ?_;simp only[af,Jp (h8.at_ 2 rfl) rfl];have h9:Hp nx0 H0 (ca bp L k'::(x0,[aE [],aG],55)::([(x,a.cs,138)]++F)) H8 nx7:=(Hp.mv [_,_] h8).sub (by simp);refine Hq.fin h9 j7 rP Eb rfl rfl rfl (fC.of (ed.one (p:=(1,53)) rfl (Gw.ND (l:=[a]) (Gw.m7 a.fw)))) (by omega) λH10 nx10 h10=>End.ret ho rfl h10
 . rw[if_neg (by rw[hi];simp)]at ho;simp only[af];refine Wq.jmp (z9 ..) (λ_=>rfl) ?_;simp only[af,Jp (h5.at_ 1 rfl) rfl];have h9:Hp nx0 H0 (ca bp L (k+1)::(x0,[aE [],aG],55)::([]++F)) H5 nx5:=(Hp.mv [_] h5).sub (by simp);refine Hq.fin h9 j7 rP Eb rfl rfl rfl (fC.of (ed.one (p:=(1,53)) rfl (cG.nil eI cE))) (by omega) λH10 nx10 h10=>End.ret ho rfl h10
end
section
variable {nx0 nx nx' bp k:Nat}{H0 H H':T OB}{F A B G G':List Bx}{s:Bx}{R:Go.Ev.Out->T OB->Nat->Prop}{b:Nat}{l:List Value}{e t:TypeId}{L:List Tok}
structure hI (n:Nat)(cs:List Value)(a:bg)(G:List Bx):Prop where
 len:cs.length=4
 one:cs.all au=true
 fz:fC n [(3,42)] (.agg ⟨cs⟩) a.v G
theorem hI.of (a:bg):hI 0 a.cs a []:=⟨a.len,(a.fw a.v (by simp)).2.1,a.fz⟩
theorem hI.fw {n:Nat}{cs:List Value}{a:bg}(h:hI n cs a G):mg true 4 [.agg ⟨cs⟩]:=λv hv=>by
 rw[List.mem_singleton]at hv;subst hv;exact⟨h.len,h.one,⟨_,rfl⟩⟩
theorem hI.row {k i:Int}{w:List UInt8}{sl:Value}{l:List bg}{n:Nat}(h:cG n 42 sl (cM l) G)(ho:au sl=true):hI n [i64 k,i64 i,aE w,sl] (.mk k i w l) G:=⟨rfl,by simp[ho],by
 rw[bg.bw];exact fC.of (ed.one (p:=(3,42)) (cs:=[i64 k,i64 i,aE w,sl]) rfl h)⟩
theorem hI.nil {k i:Int}{w:List UInt8}:hI 0 [i64 k,i64 i,aE w,aG] (.mk k i w []) []:=hI.row (l:=[]) (cG.nil dz da) rfl
theorem hI.gw {k i:Int}{w:List UInt8}{sl:Value}{l:List bg}(h:Gw true 4 47 (l.map bg.v) sl G):hI 1 [i64 k,i64 i,aE w,sl] (.mk k i w l) G:=hI.row h.Ls (dV h)
theorem hI.b1 {k i:Int}{w:List UInt8}{n:Nat}{cs:List Value}{a:bg}(h:hI n cs a G):hI (n+1) [i64 k,i64 i,aE w,gM b 1 1] (.mk k i w [a]) ((b,cs,47)::G):=by
 have:=cG.dF (t:=42) (b:=b) dz da ei rfl gq h.fw (.inr rfl) (by simp) (gX.one h.fz) (λu hu=>by rw[List.mem_singleton]at hu;subst hu;exact a.len);rw[fS cs]at this;exact hI.row this rfl
theorem hI.b2 {k i:Int}{w:List UInt8}{n:Nat}{cs:List Value}{a c:bg}(h:hI n cs a G):hI (n+1) [i64 k,i64 i,aE w,gM b 2 2] (.mk k i w [a,c]) ((b,cs++c.cs,47)::G):=by
 have:=cG.dF (t:=42) (b:=b) (vs:=[.agg ⟨cs⟩,c.v]) dz da ei rfl gq (λv hv=>by
  rcases List.mem_cons.1 hv with rfl | hv
  . exact h.fw _ (by simp)
  . exact c.fw v hv) (.inr rfl) (by simp) (gX.two h.fz c.fz) (λu hu=>by
  rcases List.mem_cons.1 hu with rfl | hu
  . exact a.len
  . rw[List.mem_singleton]at hu;subst hu;exact c.len)
 rw[show bL [Value.agg ⟨cs⟩,c.v]=cs++c.cs from kF cs c.cs]at this;exact hI.row this rfl
def Em (L:List Tok)(TT:Nat->PR bg)(a:bg)(k:Nat):PR bg:=if cO L k [58,58]=true then bd (TT (k+1)) λb k=>yes (AA a b) k else yes a k
theorem En {TT:Nat->PR bg}(hT:bo 148 L bg.v TT)(hL:L.length<=100000){n:Nat}{cs z:List Value}{a:bg}{x0 x1:Nat}{o:gL bg}(hv:hI n cs a G)(hn:n<=99990)(hz:z.length=4)(ho:Em L TT a k=some o)
 (h:Hp nx0 H0 (ca bp L k::(x1,cs,47)::(x0,z,47)::(G++F)) H nx):aT P pl X0 (.jump (lk (ptr bp) (ptr x0) (ptr x1) H nx)) nx0 H0 (End nx0 H0 bp L F bg.v o):=by
 refine Wq.jmp (F7 ..) (λ_=>rfl) ?_;unfold Em at ho;refine Sq.take hL h (λhi H1 aJ h1=> ?_) (λhi H1 aJ h1=> ?_)
 . rw[if_pos hi]at ho;simp only[af,qU (h1.at_ 1 rfl) hv.len];refine Sq.call hT rfl h1 ho λc k' H2 nx2 _ ho2 h2=> ?_;simp only[af,qU (h2.at_ 1 rfl) hv.len,bf];refine Hq.G8 cs c.cs hv.len c.len h2 λx H3 nx3 h3=> ?_;simp only[af,AN];refine Hq.iI [i64 5,i64 0,aE [],gM x 2 2] rfl h3 λy H4 nx4 h4=> ?_;simp only[af,Hf];have h5:Hp nx0 H0 (ca bp L k'::(x0,z,47)::((y,[i64 5,i64 0,aE [],gM x 2 2],47)::(x,cs++c.cs,47)::G++F)) H4 nx4:=(Hp.mv [_,_,_] h4).sub (by simp);exact Hq.fin h5 da ei gq hz rfl rfl (hI.b1 (hI.b2 hv)).fz (by omega) λH5 nx5 h5=>End.ret ho2 rfl h5
 . rw[if_neg (by rw[hi];simp)]at ho;simp only[af,qU (h1.at_ 1 rfl) hv.len];have h4:Hp nx0 H0 (ca bp L k::(x0,z,47)::(G++F)) H1 aJ:=(Hp.mv [_] h1).sub (by simp);exact Hq.fin h4 da ei gq hz hv.len hv.one hv.fz (by omega) λH5 nx5 h5=>End.ret ho rfl h5
theorem NK (hL:L.length<=100000){p:PS}(hpatom:bo 177 L bg.v p.bQ)(hpat:bo 148 L bg.v p.pat):bo 148 L bg.v (vx L p):=by
 intro nx0 nx H0 H bp F k o ho h;unfold vx w8 at ho;have hc:∀(a:bg) (k:Nat),(if cO L k [58,58]=true then bd (p.pat (k+1)) λb k=>yes (AA a b) k else yes a k)=Em L p.pat a k:=λ_ _=>rfl;simp only[hc]at ho;rw[Pl];refine Hq.alloc cN h λx0 H1 aJ h1=> ?_;refine Hq.alloc cN h1 λx1 H2 nx2 h2=> ?_;refine Sq.now h2 λH3 nx3 h3=> ?_;refine Sq.GB h3 λH4 nx4 h4=> ?_;simp only[af];refine Wq.ite (λhi=> ?_) (λhi=> ?_)
 . rw[if_pos hi]at ho;simp only[af,pk h4,dX hL (eV (show(tk L k).k≠0 by omega))];refine de h4 λH5 h5=> ?_;simp only[af,nK];refine Hq.set [_] h5 da rfl rfl rfl λH6 h6=> ?_
   refine Sq.M_ h6 λH7 nx7 h7=> ?_;cases hb:jX L (k+1)with
   | true=>
     rw[hb,if_pos rfl,fT]at ho;simp only[dO]at ho;simp only[af];refine Sq.call hpatom rfl h7 ho λa k' H8 nx8 _ ho h8=> ?_;refine Hq.iI a.cs a.len h8 λx H9 nx9 h9=> ?_;refine Hq.put [_,_] h9 zU rfl rfl (by simp) rfl λH10 h10=> ?_;exact En (n:=1) (G:=[(x,a.cs,47)]) hpat hL (hI.b1 (hI.of a)) (by omega) rfl ho (Hp.tx h10)
   | false=>
     rw[hb,if_neg (by simp),dO]at ho;simp only[af];exact En (n:=0) (G:=[]) hpat hL hI.nil (by omega) rfl ho h7
 . rw[if_neg hi]at ho;refine Sq.call hpatom rfl h4 ho λa k' H5 nx5 _ ho h5=> ?_;refine Hq.set [_] h5 da rfl a.len (hI.of a).one λH6 h6=> ?_
   exact En (n:=0) (G:=[]) hpat hL (hI.of a) (by omega) rfl ho h6
theorem NL (n:Int):jZ P .neg (some (i64 n))=some (i64 (IntKind.i64.wrap (-n))):=by rw[Gk,Int.zero_sub]
theorem Ju (hL:L.length<=100000):∀(m:Nat),(∀j,j<m->bo 148 L bg.v (ps L j).pat)->∀(l:List bg) (k:Nat) (sl:Value) (G:List Bx) (o:gL bg) (z:List Value) (x0 x1 nx:Nat) (H:Go.Ev.T OB),l.length+m<=90010->Gw true 4 47 (l.map bg.v) sl G->z.length=4->
 bd ((ps L m).gG l k) (λl k=>bl L [41] k λk=>yes (.mk 5 0 [] l) k)=some o->Hp nx0 H0 (ca bp L k::(x1,[i64 5,i64 0,aE [],sl],47)::(x0,z,47)::(G++F)) H nx->
 aT P pl X0 (.jump (nG (ptr bp) (ptr x0) (ptr x1) H nx)) nx0 H0 (End nx0 H0 bp L F bg.v o)
 | 0,_,l,k,sl,G,o,z,x0,x1,nx,H,hm,hG,hz,ho,h=>by cases ho
 | m+1,hp,l,k,sl,G,o,z,x0,x1,nx,H,hm,hG,hz,ho,h=>by
   have ho:bd (lA L (ps L m) l k) (λl k=>bl L [41] k λk=>yes (.mk 5 0 [] l) k)=some o:=ho;unfold lA at ho;refine Wq.jmp (Gd ..) (λ_=>rfl) ?_;refine Sq.take hL h (λhi H1 aJ h1=> ?_) (λhi H1 aJ h1=> ?_)
   . rw[if_pos hi,fT]at ho;simp only[af,ax (off:=3) (u:=sl) (h1.at_ 1 rfl) iz rfl];refine Sq.call (hp m (Nat.lt_succ_self m)) rfl h1 ho λc k' H2 nx2 _ ho2 h2=> ?_;simp only[af,ax (off:=3) (u:=sl) (h2.at_ 1 rfl) iz rfl,bf];refine Hq.iI c.cs c.len h2 λx H3 nx3 h3=> ?_;simp only[af,ax (off:=3) (u:=sl) (h3.at_ 2 rfl) iz rfl,bf];refine Hq.Ek [_,_] (x:=c) (by omega) hG h3 λsl' G' H4 nx4 hG' h4=> ?_;refine Hq.put [_] h4 zU (by rcases hG'.2 with⟨_,rfl,_⟩ | ⟨b,c,rfl,_⟩<;>rfl) (dV hG') (by simp) rfl λH5 h5=> ?_;exact Ju hL m (λj hj=>hp j (by omega)) (l++[c]) k' sl' G' o z x0 x1 nx4 H5 (by rw[List.length_append];simp;omega) hG' hz ho2 h5
   . rw[if_neg (by rw[hi];simp),dO]at ho;simp only[af];refine Sq.iT hL h1 ho λH2 nx2 _ ho h2=> ?_;have hv:hI 1 [i64 5,i64 0,aE [],sl] (.mk 5 0 [] l) G:=hI.gw hG;simp only[af,qU (h2.at_ 1 rfl) hv.len];have h4:Hp nx0 H0 (ca bp L (k+1)::(x0,z,47)::(G++F)) H2 nx2:=(Hp.mv [_] h2).sub (by simp);exact Hq.fin h4 da ei gq hz hv.len hv.one hv.fz (by omega) λH5 nx5 h5=>End.ret ho rfl h5
theorem NM (hL:L.length<=100000){n:Nat}(hn:n<=90000)(hpat:∀j,j<=n->bo 148 L bg.v (ps L j).pat):bo 177 L bg.v (ps L (n+1)).bQ:=by
 intro nx0 nx H0 H bp F k o ho h;have ho:jz L (ps L n) k=some o:=ho;unfold jz at ho;rw[Px];refine Hq.alloc cN h λx0 H1 aJ h1=> ?_;refine Sq.now h1 λH2 nx2 h2=> ?_;refine Sq.GB h2 λH3 nx3 h3=> ?_;simp only[af];refine Wq.ite (λhi=> ?_) (λhi=> ?_)
 . rw[if_pos hi]at ho;simp only[af,pk h3,dX hL (eV (show(tk L k).k≠0 by omega))];refine de h3 λH4 h4=> ?_;simp only[af,AO];exact Hq.fin (G:=[]) h4 da ei gq rfl rfl rfl hI.nil.fz (by omega) λH5 nx5 h5=>End.ret ho rfl h5
 rw[if_neg hi]at ho;refine Wq.ite (λhi=> ?_) (λhi=> ?_)
 . rw[if_pos hi]at ho;simp only[af,pk h3,dX hL (eV (show(tk L k).k≠0 by omega))];refine de h3 λH4 h4=> ?_;simp only[af,nK];exact Hq.fin (G:=[]) h4 da ei gq rfl rfl rfl hI.nil.fz (by omega) λH5 nx5 h5=>End.ret ho rfl h5
 rw[if_neg hi]at ho;refine Wq.ite (λhi=> ?_) (λhi=> ?_)
 . rw[if_pos hi]at ho;simp only[af,pk h3,dX hL (eV (show(tk L k).k≠0 by omega))];refine de h3 λH4 h4=> ?_;simp only[af,nK];exact Hq.fin (G:=[]) h4 da ei gq rfl rfl rfl hI.nil.fz (by omega) λH5 nx5 h5=>End.ret ho rfl h5
 rw[if_neg hi]at ho;refine Wq.ite (λhi=> ?_) (λhi=> ?_)
 . rw[if_pos hi]at ho;simp only[af,pk h3,dX hL (eV (show(tk L k).k≠0 by omega))];refine de h3 λH4 h4=> ?_;simp only[af,nK];exact Hq.fin (G:=[]) h4 da ei gq rfl rfl rfl hI.nil.fz (by omega) λH5 nx5 h5=>End.ret ho rfl h5
 rw[if_neg hi]at ho;refine Sq.take hL h3 (λhi H4 nx4 h4=> ?_) (λhi H4 nx4 h4=> ?_)
 . rw[if_pos hi]at ho;simp only[af];exact Hq.fin (G:=[]) h4 da ei gq rfl rfl rfl hI.nil.fz (by omega) λH5 nx5 h5=>End.ret ho rfl h5
 rw[if_neg (by rw[hi];simp)]at ho;simp only[af];refine Sq.take hL h4 (λhi H5 nx5 h5=> ?_) (λhi H5 nx5 h5=> ?_)
 . rw[if_pos hi]at ho;simp only[af];refine Sq.word (by decide) hL h5 ho λH6 nx6 _ ho h6=> ?_;simp only[af,NL,AO];exact Hq.fin (G:=[]) h6 da ei gq rfl rfl rfl hI.nil.fz (by omega) λH7 nx7 h7=>End.ret ho rfl h7
 rw[if_neg (by rw[hi];simp)]at ho;simp only[af];refine Sq.iT hL h5 ho λH6 nx6 _ ho h6=> ?_;refine Sq.take hL h6 (λhi H7 nx7 h7=> ?_) (λhi H7 nx7 h7=> ?_)
 . rw[if_pos hi]at ho;simp only[af];exact Hq.fin (G:=[]) h7 da ei gq rfl rfl rfl hI.nil.fz (by omega) λH8 nx8 h8=>End.ret ho rfl h8
 rw[if_neg (by rw[hi];simp)]at ho;simp only[af];refine Sq.call (hpat n (Nat.le_refl n)) rfl h7 ho λa k' H8 nx8 _ ho h8=> ?_;refine Hq.alloc cN h8 λx1 H9 nx9 h9=> ?_;refine Hq.set [_] h9 da rfl a.len (hI.of a).one λH10 h10=> ?_
 refine Sq.is h10 λH11 nx11 h11=> ?_;cases hc:cO L k' [44]with
 | true=>
   rw[hc,if_pos rfl]at ho;simp only[af,qU (h11.at_ 1 rfl) a.len];refine Hq.iI a.cs a.len h11 λx H12 nx12 h12=> ?_;simp only[af,AN];refine Hq.set [_,_] h12 da a.len rfl rfl λH13 h13=> ?_
   exact Ju hL (n+1) (λj hj=>hpat j (by omega)) [a] k' (gM x 1 1) [(x,a.cs,47)] o _ x0 x1 nx12 H13 (show 1+(n+1)<=90010 by omega) (Gw.m7 a.fw) rfl ho (Hp.tx h13)
 | false=>
   rw[hc,if_neg (by simp)]at ho;simp only[af];refine Wq.jmp (Ge ..) (λ_=>rfl) ?_;refine Sq.iT hL h11 ho λH12 nx12 _ ho h12=> ?_;simp only[af,qU (h12.at_ 1 rfl) a.len];have h4:Hp nx0 H0 (ca bp L (k'+1)::(x0,[i64 0,i64 0,aE [],aG],47)::([]++F)) H12 nx12:=(Hp.mv [_] h12).sub (by simp);exact Hq.fin h4 da ei gq rfl a.len (hI.of a).one a.fz (by omega) λH5 nx5 h5=>End.ret ho rfl h5
end
section
variable {nx0 nx nx' bp k:Nat}{H0 H H':T OB}{F A B G G':List Bx}{s:Bx}{R:Go.Ev.Out->T OB->Nat->Prop}{b:Nat}{l:List Value}{e t:TypeId}{L:List Tok}
structure ej (n:Nat)(cs:List Value)(a:aQ)(G:List Bx):Prop where
 len:cs.length=6
 one:cs.all au=true
 fz:fC n [(3,41),(4,42),(5,24)] (.agg ⟨cs⟩) a.v G
theorem ej.of (a:aQ):ej 0 a.cs a []:=⟨a.len,(a.fw a.v (by simp)).2.1,a.fz⟩
theorem ej.fw {n:Nat}{cs:List Value}{a:aQ}(h:ej n cs a G):mg true 6 [.agg ⟨cs⟩]:=λv hv=>by
 rw[List.mem_singleton]at hv;subst hv;exact⟨h.len,h.one,⟨_,rfl⟩⟩
theorem ej.row {k i:Int}{w:List UInt8}{sl sp sd:Value}{l:List aQ}{p:List bg}{d:List ba}{n:Nat}{G1 G2 G3:List Bx}(h1:cG n 41 sl (ft l) G1)(h2:cG n 42 sp (cM p) G2)(h3:cG n 24 sd (cX d) G3)(o1:au sl=true)(o2:au sp=true)(o3:au sd=true):
 ej n [i64 k,i64 i,aE w,sl,sp,sd] (.mk k i w l p d) (G1++(G2++G3)):=⟨rfl,by simp[o1,o2,o3],by
 rw[aQ.bw];exact fC.of (ed.cons (p:=(3,41)) (cs:=[i64 k,i64 i,aE w,sl,sp,sd]) rfl h1 (ed.cons (p:=(4,42)) rfl h2 (ed.one (p:=(5,24)) rfl h3)))⟩
theorem jE {n:Nat}:cG n 42 aG (cM []) []:=(cG.nil dz da).mono (Nat.zero_le n)
theorem qV {n:Nat}:cG n 24 aG (cX []) []:=(cG.nil fq eT).mono (Nat.zero_le n)
theorem vE {n:Nat}:cG n 41 aG (ft []) []:=(cG.nil eh bW).mono (Nat.zero_le n)
theorem ej.ll {k i:Int}{w:List UInt8}{sl:Value}{l:List aQ}{n:Nat}(h:cG n 41 sl (ft l) G)(ho:au sl=true):ej n [i64 k,i64 i,aE w,sl,aG,aG] (.mk k i w l [] []) G:=by
 have:=ej.row (k:=k) (i:=i) (w:=w) h (jE (n:=n)) (qV (n:=n)) ho rfl rfl;rwa[List.append_nil,List.append_nil]at this
theorem ej.nil {k i:Int}{w:List UInt8}:ej 0 [i64 k,i64 i,aE w,aG,aG,aG] (.mk k i w [] [] []) []:=ej.ll vE rfl
theorem ej.gw {k i:Int}{w:List UInt8}{sl:Value}{l:List aQ}(h:Gw true 6 44 (l.map aQ.v) sl G):ej 1 [i64 k,i64 i,aE w,sl,aG,aG] (.mk k i w l [] []) G:=ej.ll h.NC (dV h)
theorem ej.b1 {k i:Int}{w:List UInt8}{n:Nat}{cs:List Value}{a:aQ}(h:ej n cs a G):ej (n+1) [i64 k,i64 i,aE w,gM b 1 1,aG,aG] (.mk k i w [a] [] []) ((b,cs,44)::G):=by
 have:=cG.dF (t:=41) (b:=b) eh bW dj rfl eN h.fw (.inr rfl) (by simp) (gX.one h.fz) (λu hu=>by rw[List.mem_singleton]at hu;subst hu;exact a.len);rw[fS cs]at this;exact ej.ll this rfl
theorem ej.b2 {k i:Int}{w:List UInt8}{n:Nat}{cs:List Value}{a c:aQ}(h:ej n cs a G):ej (n+1) [i64 k,i64 i,aE w,gM b 2 2,aG,aG] (.mk k i w [a,c] [] []) ((b,cs++c.cs,44)::G):=by
 have:=cG.dF (t:=41) (b:=b) (vs:=[.agg ⟨cs⟩,c.v]) eh bW dj rfl eN (λv hv=>by
  rcases List.mem_cons.1 hv with rfl | hv
  . exact h.fw _ (by simp)
  . exact c.fw v hv) (.inr rfl) (by simp) (gX.two h.fz c.fz) (λu hu=>by
  rcases List.mem_cons.1 hu with rfl | hu
  . exact a.len
  . rw[List.mem_singleton]at hu;subst hu;exact c.len)
 rw[show bL [Value.agg ⟨cs⟩,c.v]=cs++c.cs from kF cs c.cs]at this;exact ej.ll this rfl
theorem ej.b3 {k i:Int}{w:List UInt8}{a c d:aQ}:ej 1 [i64 k,i64 i,aE w,gM b 3 3,aG,aG] (.mk k i w [a,c,d] [] []) [(b,a.cs++c.cs++d.cs,44)]:=by
 have hG:Gw true 6 44 ([a,c,d].map aQ.v) (gM b 3 3) [(b,bL ([a,c,d].map aQ.v),44)]:=Gw.one (aQ.P7 _) rfl (by decide);have e:bL ([a,c,d].map aQ.v)=a.cs++c.cs++d.cs:=by
  show a.cs++(c.cs++(d.cs++[]))=_;rw[List.append_nil,List.append_assoc]
 rw[e]at hG;exact ej.gw hG
theorem Jv (hL:L.length<=100000):∀(m:Nat),(∀j,j<m->bo 148 L bg.v (ps L j).pat)->(∀j,j<m->bo 61 L aQ.v (ps L j).exp)->∀(kk:Int) (l:List aQ) (q:List bg) (k:Nat) (sl sp:Value) (G G':List Bx) (o:gL aQ) (z:List Value) (x0 x1 nx:Nat) (H:Go.Ev.T OB),l.length+m<=90010->q.length+m<=90010->
 Gw true 6 44 (l.map aQ.v) sl G->Gw true 4 47 (q.map bg.v) sp G'->z.length=6->(ps L m).g_ (.mk kk 0 [] l q []) k=some o->Hp nx0 H0 (ca bp L k::(x1,[i64 kk,i64 0,aE [],sl,sp,aG],44)::(x0,z,44)::(G++(G'++F))) H nx->
 aT P pl X0 (.jump (sB (ptr bp) (ptr x1) (ptr x0) H nx)) nx0 H0 (End nx0 H0 bp L F aQ.v o)
 | 0,_,_,kk,l,q,k,sl,sp,G,G',o,z,x0,x1,nx,H,hm,hm',hG,hG',hz,ho,h=>by cases ho
 | m+1,hp,he,kk,l,q,k,sl,sp,G,G',o,z,x0,x1,nx,H,hm,hm',hG,hG',hz,ho,h=>by
   have ho:vt L (ps L m) (.mk kk 0 [] l q []) k=some o:=ho;unfold vt at ho;refine Wq.jmp (KB ..) (λ_=>rfl) ?_;simp only[af,ax (off:=4) (u:=sp) (h.at_ 1 rfl) iz rfl];refine Sq.call (hp m (Nat.lt_succ_self m)) rfl h ho λa k' H2 nx2 _ ho h2=> ?_;simp only[af,ax (off:=4) (u:=sp) (h2.at_ 1 rfl) iz rfl,bf];refine Hq.iI a.cs a.len h2 λx H3 nx3 h3=> ?_;simp only[af,ax (off:=4) (u:=sp) (h3.at_ 2 rfl) iz rfl,bf];refine Hq.Ek (_::_::G) (x:=a) (by omega) hG' h3 λsp' G2 H4 nx4 hG2 h4=> ?_;refine Hq.put [_] h4 zU (by rcases hG2.2 with⟨_,rfl,_⟩ | ⟨b,c,rfl,_⟩<;>rfl) (dV hG2) (by simp) rfl λH5 h5=> ?_;refine Sq.iT hL h5 ho λH6 nx6 _ ho h6=> ?_;simp only[af,ax (off:=3) (u:=sl) (h6.at_ 1 rfl) iy rfl];refine Sq.call (he m (Nat.lt_succ_self m)) rfl h6 ho λc k2 H7 nx7 _ ho h7=> ?_;simp only[af,ax (off:=3) (u:=sl) (h7.at_ 1 rfl) iy rfl,bf];refine Hq.eO c.cs c.len h7 λy H8 nx8 h8=> ?_;simp only[af,ax (off:=3) (u:=sl) (h8.at_ 2 rfl) iy rfl,bf];refine Hq.Ej [_,_] (x:=c) (by omega) hG h8 λsl' G1 H9 nx9 hG1 h9=> ?_;refine Hq.put [_] h9 zT (by rcases hG1.2 with⟨_,rfl,_⟩ | ⟨b,c,rfl,_⟩<;>rfl) (dV hG1) (by simp) rfl λH10 h10=> ?_;refine Sq.take hL h10 (λhi H11 nx11 h11=> ?_) (λhi H11 nx11 h11=> ?_)
   . rw[if_pos hi]at ho;simp only[af];exact Jv hL m (λj hj=>hp j (by omega)) (λj hj=>he j (by omega)) kk (l++[c]) (q++[a]) (k2+1) sl' sp' G1 G2 o z x0 x1 nx11 H11 (by rw[List.length_append];simp;omega) (by rw[List.length_append];simp;omega) hG1 hG2 hz ho h11
   . rw[if_neg (by rw[hi];simp)]at ho;have hv:ej 1 [i64 kk,i64 0,aE [],sl',sp',aG] (.mk kk 0 [] (l++[c]) (q++[a]) []) (G1++(G2++[])):=ej.row hG1.NC hG2.Ls qV (dV hG1) (dV hG2) rfl;simp only[af,fl (h11.at_ 1 rfl) hv.len];have h12:Hp nx0 H0 (ca bp L k2::(x0,z,44)::((G1++(G2++[]))++F)) H11 nx11:=by
      rw[List.append_nil,List.append_assoc];exact(Hp.mv [_] h11).sub (by simp)
     exact Hq.fin h12 bW dj eN hz hv.len hv.one hv.fz (by omega) λH5 nx5 h5=>End.ret ho rfl h5
def Ho (L:List Tok)(r:aQ->Nat->PR aQ):Prop:=∀(nx0 nx:Nat) (H0 H:Go.Ev.T OB) (bp:Nat) (F G:List Bx) (k:Nat) (o:gL aQ) (kk:Int) (l:List aQ) (sl:Value),l.length<=3->Gw true 6 44 (l.map aQ.v) sl G->r (.mk kk 0 [] l [] []) k=some o->Hp nx0 H0 (ca bp L k::(G++F)) H nx->
 aT P pl X0 (a4 P pl (.call 107 [ptr bp,.agg ⟨[i64 kk,i64 0,aE [],sl,aG,aG]⟩] false none H nx)) nx0 H0 (End nx0 H0 bp L F aQ.v o)
theorem NN (hL:L.length<=100000){n:Nat}(hn:n<=90000)(hp:∀j,j<=n->bo 148 L bg.v (ps L j).pat)(he:∀j,j<=n->bo 61 L aQ.v (ps L j).exp):Ho L (ps L (n+1)).g_:=by
 intro nx0 nx H0 H bp F G k o kk l sl hl hG ho h;rw[O7];refine Hq.box h λx1 H1 aJ h1=> ?_;refine Hq.alloc bJ h1 λx0 H2 nx2 h2=> ?_;exact Jv hL (n+1) (λj hj=>hp j (by omega)) (λj hj=>he j (by omega)) kk l [] k sl aG G [] o _ x0 x1 nx2 H2 (by omega) (by simp;omega) hG (Gw.nil _ _ _) rfl ho (Hp.swap' h2)
theorem mj {α:Type}(x:PR α):bd x yes=x:=by
 cases x with
 | none=>rfl
 | some r=>cases r<;>rfl
theorem Sq.Eo {β:Type}{F1:List Bx}{vg:β->Value}{r:aQ->Nat->PR aQ}{g:aQ->Nat->PR β}{o:gL β}{kk:Int}{l:List aQ}{sl:Value}{kt:Value->Go.Ev.T OB->Nat->Q}(hs:Ho L r)(hl:l.length<=3)(hG:Gw true 6 44 (l.map aQ.v) sl G)(h:Hp nx0 H0 (ca bp L k::(G++F1)) H nx)
 (ho:bd (r (.mk kk 0 [] l [] []) k) g=some o) (hk:∀a k' H' nx',g a k'=some o->Hp nx0 H0 (ca bp L k'::F1) H' nx'->aT P pl X0 (kt a.v H' nx') nx0 H0 (End nx0 H0 bp L F vg o)):
 aT P pl X0 (ak (.call 107 [ptr bp,.agg ⟨[i64 kk,i64 0,aE [],sl,aG,aG]⟩] false none H nx) kt Ev.av) nx0 H0 (End nx0 H0 bp L F vg o):=by
 cases hr:r (.mk kk 0 [] l [] []) k with
 | none=>rw[hr]at ho;cases ho
 | some q=>
   refine Wq.fi rfl (hs nx0 nx H0 H bp F1 G k q kk l sl hl hG hr h) (λu H' nx' _ he=> ?_) (λu H' nx' hA he=> ?_)
   . cases q with
     | bad a=>cases he
     | ok a k'=>
       rw[hr,Az]at ho;cases he.1;exact hk a k' H' nx' ho he.2
   . cases q with
     | ok a k'=>cases he.1
     | bad a=>
       rw[hr,ta]at ho;cases ho;cases he;exact Sq.av hA
theorem Hq.Hr {a:aQ}{kt:Go.Ev.T OB->Nat->Q}(h:Hp nx0 H0 F H nx)(hk:∀H' nx',Hp nx0 H0 F H' nx'->aT P pl X0 (kt H' nx') nx0 H0 R):aT P pl X0 (ao (aA P H nx 44) λp H nx=>dc P H nx 44 (some p) a.v kt) nx0 H0 R:=Hq.var bJ bW rfl a.len (ej.of a).one h hk
theorem OG (a:aQ):ae P H 44 (some (ai a.v))=some a.v:=by
 rw[aQ.bw];exact CO ..
theorem Hq.xm {z:List Value}{a:aQ}{x0:Nat}{kt:Value->Go.Ev.T OB->Nat->Q}(h:Hp nx0 H0 (s::(x0,z,44)::F) H nx)(hz:z.length=6)(hk:∀H' nx',Hp nx0 H0 (s::F) H' nx'->aT P pl X0 (kt a.v H' nx') nx0 H0 R):
 aT P pl X0 (ao (aj P H nx 44 (some (ptr x0)) (some a.v)) λ_ H nx=>aa (ae P H 44 (some (ptr x0))) (λx=>bG P 44 x H nx kt) .bad) nx0 H0 R:=
 Hq.fin (G:=[]) h bW dj eN hz a.len (ej.of a).one a.fz (by omega) hk
theorem Qa (hL:L.length<=100000){p:PS}(hexp:bo 61 L aQ.v p.exp)(hmat:Ho L p.g_)(hbin:∀nx0 nx H0 H bp F k o,p.bin 0 k=some o->Hp nx0 H0 (ca bp L k::F) H nx->aT P pl X0 (a4 P pl (.call 108 [ptr bp,i64 0] false none H nx)) nx0 H0 (End nx0 H0 bp L F aQ.v o)):bo 61 L aQ.v (vu L p):=by
 intro nx0 nx H0 H bp F k o ho h;unfold vu at ho;rw[Q5];refine Hq.alloc bJ h λx0 H1 aJ h1=> ?_;refine Sq.take hL h1 (λhi H2 nx2 h2=> ?_) (λhi H2 nx2 h2=> ?_)
 . rw[if_pos hi]at ho;simp only[af];refine Sq.call hexp rfl h2 ho λa k2 H3 nx3 _ ho h3=> ?_;refine Hq.Hr h3 λH4 nx4 h4=> ?_;refine Sq.iT hL h4 ho λH5 nx5 _ ho h5=> ?_;refine Sq.call hexp rfl h5 ho λb k3 H6 nx6 _ ho h6=> ?_;refine Hq.Hr h6 λH7 nx7 h7=> ?_;refine Sq.iT hL h7 ho λH8 nx8 _ ho h8=> ?_;simp only[af,OG];refine Sq.call hexp rfl h8 ho λc k4 H9 nx9 _ ho h9=> ?_;refine Hq.G5 a.cs b.cs c.cs a.len b.len c.len h9 λx H10 nx10 h10=> ?_;simp only[af,gv];have h11:Hp nx0 H0 (ca bp L k4::(x0,_,44)::([(x,a.cs++b.cs++c.cs,44)]++F)) H10 nx10:=Hp.swap' h10;exact Hq.fin h11 bW dj eN rfl rfl rfl ej.b3.fz (by omega) λH5 nx5 h5=>End.ret ho rfl h5
 rw[if_neg (by rw[hi];simp)]at ho;simp only[af];refine Sq.take hL h2 (λhi H3 nx3 h3=> ?_) (λhi H3 nx3 h3=> ?_)
 . rw[if_pos hi]at ho;simp only[af];refine Sq.call hexp rfl h3 ho λa k2 H4 nx4 _ ho h4=> ?_;refine Hq.Hr h4 λH5 nx5 h5=> ?_;refine Sq.iT hL h5 ho λH6 nx6 _ ho h6=> ?_;simp only[af,OG];refine Hq.eO a.cs a.len h6 λx H7 nx7 h7=> ?_;simp only[af,gv];rw[<- mj (p.g_ _ _)]at ho;refine Sq.Eo hmat (l:=[a]) (by simp) (Gw.m7 a.fw) h7 ho λc k3 H8 nx8 ho h8=> ?_;exact Hq.xm h8 rfl λH9 nx9 h9=>End.ret ho rfl h9
 rw[if_neg (by rw[hi];simp)]at ho;simp only[af];refine Sq.take hL h3 (λhi H4 nx4 h4=> ?_) (λhi H4 nx4 h4=> ?_)
 . rw[if_pos hi]at ho;simp only[af];rw[<- mj (p.g_ _ _)]at ho;refine Sq.Eo hmat (l:=[]) (G:=[]) (by simp) (Gw.nil _ _ _) h4 ho λc k3 H8 nx8 ho h8=> ?_;exact Hq.xm h8 rfl λH9 nx9 h9=>End.ret ho rfl h9
 rw[if_neg (by rw[hi];simp)]at ho;simp only[af];refine Sq.take hL h4 (λhi H5 nx5 h5=> ?_) (λhi H5 nx5 h5=> ?_)
 . rw[if_pos hi]at ho;simp only[af];refine Sq.call hexp rfl h5 ho λa k2 H6 nx6 _ ho h6=> ?_;refine Hq.eO a.cs a.len h6 λx H7 nx7 h7=> ?_;simp only[af,gv];have h11:Hp nx0 H0 (ca bp L k2::(x0,_,44)::([(x,a.cs,44)]++F)) H7 nx7:=Hp.swap' h7;exact Hq.fin h11 bW dj eN rfl rfl rfl (ej.b1 (ej.of a)).fz (by omega) λH5 nx5 h5=>End.ret ho rfl h5
 rw[if_neg (by rw[hi];simp)]at ho;simp only[af];cases hr:p.bin 0 k with
 | none=>rw[hr]at ho;cases ho
 | some q=>
   refine Wq.fi rfl (hbin nx0 nx5 H0 H5 bp _ k q hr h5) (λu H6 nx6 _ he=> ?_) (λu H6 nx6 hA he=> ?_)
   . cases q with
     | bad a=>cases he
     | ok a k2=>
       rw[hr,Az]at ho;obtain⟨he1,h6⟩:=he;cases he1;refine Hq.Hr h6 λH7 nx7 h7=> ?_;refine Sq.take hL h7 (λhi H8 nx8 h8=> ?_) (λhi H8 nx8 h8=> ?_)
       . rw[if_pos hi]at ho;simp only[af,OG];refine Hq.eO a.cs a.len h8 λx H9 nx9 h9=> ?_;simp only[af,gv];rw[<- mj (p.g_ _ _)]at ho;refine Sq.Eo hmat (l:=[a]) (by simp) (Gw.m7 a.fw) h9 ho λc k3 H10 nx10 ho h10=> ?_;exact Hq.xm h10 rfl λH9 nx9 h9=>End.ret ho rfl h9
       . rw[if_neg (by rw[hi];simp)]at ho;simp only[af,OG];exact Hq.xm h8 rfl λH9 nx9 h9=>End.ret ho rfl h9
   . cases q with
     | ok a k'=>cases he.1
     | bad a=>
       rw[hr,ta]at ho;cases ho;cases he;exact Sq.av hA
end
section
variable {nx0 nx nx' bp k:Nat}{H0 H H':T OB}{F A B G G':List Bx}{s:Bx}{R:Go.Ev.Out->T OB->Nat->Prop}{b:Nat}{l:List Value}{e t:TypeId}{L:List Tok}
theorem Hs:∀(i:Nat),i<7->ay P 182 (some (.pointer (some ⟨2,0,none⟩))) (some (i64 (i:Int)))=some (.pointer (some ⟨2,i,none⟩))
 | 0,_=>by kernel_rfl
 | 1,_=>by kernel_rfl
 | 2,_=>by kernel_rfl
 | 3,_=>by kernel_rfl
 | 4,_=>by kernel_rfl
 | 5,_=>by kernel_rfl
 | 6,_=>by kernel_rfl
 | i+7,h=>by omega
theorem AP {i:Nat}(h:i<7):bn[i]? = some ((bn[i]?).getD [])/\((bn[i]?).getD []).length<cY/\((bn[i]?).getD []).contains []=false/\∀w,((bn[i]?).getD []).contains w=true->(decide (w=[58,61])||decide (w=[58,58]))=decide (i=2\/i=4):=by
 have:∀i,i<7->bn[i]? = some ((bn[i]?).getD [])/\((bn[i]?).getD []).length<100/\((bn[i]?).getD []).contains []=false/\(((bn[i]?).getD []).all λw=>(decide (w=[58,61])||decide (w=[58,58])) == decide (i=2\/i=4))=true:=by decide +kernel
 obtain⟨h1,h2,h3,h4⟩:=this i h;refine⟨h1,Nat.lt_trans h2 (by decide),h3,λw hw=> ?_⟩;have hm:w∈(bn[i]?).getD []:=by simpa using hw
 have:=List.all_eq_true.1 h4 w hm;simpa using this
def Ep (L:List Tok)(r:Nat->Nat->PR aQ):Prop:=∀(lv nx0 nx:Nat) (H0 H:Go.Ev.T OB) (bp:Nat) (F:List Bx) (k:Nat) (o:gL aQ),lv<=7->r lv k=some o->Hp nx0 H0 (ca bp L k::F) H nx->aT P pl X0 (a4 P pl (.call 108 [ptr bp,i64 (lv:Int)] false none H nx)) nx0 H0 (End nx0 H0 bp L F aQ.v o)
theorem Sq.fj {β:Type}{F1:List Bx}{vg:β->Value}{lv:Nat}{r:Nat->Nat->PR aQ}{g:aQ->Nat->PR β}{o:gL β}{kt:Value->Go.Ev.T OB->Nat->Q}(hs:Ep L r)(hl:lv<=7)(h:Hp nx0 H0 (ca bp L k::F1) H nx)
 (ho:bd (r lv k) g=some o) (hk:∀a k' H' nx',g a k'=some o->Hp nx0 H0 (ca bp L k'::F1) H' nx'->aT P pl X0 (kt a.v H' nx') nx0 H0 (End nx0 H0 bp L F vg o)):
 aT P pl X0 (ak (.call 108 [ptr bp,i64 (lv:Int)] false none H nx) kt Ev.av) nx0 H0 (End nx0 H0 bp L F vg o):=by
 cases hr:r lv k with
 | none=>rw[hr]at ho;cases ho
 | some q=>
   refine Wq.fi rfl (hs lv nx0 nx H0 H bp F1 k q hl hr h) (λu H' nx' _ he=> ?_) (λu H' nx' hA he=> ?_)
   . cases q with
     | bad a=>cases he
     | ok a k'=>
       rw[hr,Az]at ho;cases he.1;exact hk a k' H' nx' ho he.2
   . cases q with
     | ok a k'=>cases he.1
     | bad a=>
       rw[hr,ta]at ho;cases ho;cases he;exact Sq.av hA
theorem Ht {lv k:Nat}(h:lv<7):iG L lv k=(!decide ((if j_ L k=true then(tk L k).s else[])=[])&&((bn[lv]?).getD []).contains (if j_ L k=true then(tk L k).s else[])):=by
 obtain⟨_,_,h3,_⟩:=AP h;unfold iG;cases j_ L k with
 | false=>simp
 | true=>
   rw[Bool.true_and,if_pos rfl]
   by_cases hs:(tk L k).s=[]
   . rw[hs,h3];simp
   . simp[hs]
theorem Er {L:List Tok}{k:Nat}(h:j_ L k=true):k<L.length:=eV λq=>by unfold j_ at h;rw[q]at h;simp at h
theorem Jw (hL:L.length<=100000){lv:Nat}(hlv:lv<7):∀(m:Nat),(∀j,j<m->Ep L (ps L j).bin)->∀(a:aQ) (k n:Nat) (cs z:List Value) (G:List Bx) (o:gL aQ) (x0 x1 nx:Nat) (H:Go.Ev.T OB),n+m<=90010->ej n cs a G->z.length=6->(ps L m).gE lv a k=some o->
 Hp nx0 H0 (ca bp L k::(x1,cs,44)::(x0,z,44)::(G++F)) H nx->aT P pl X0 (.jump (nq (ptr bp) (i64 (lv:Int)) (ptr x0) (ptr x1) H nx)) nx0 H0 (End nx0 H0 bp L F aQ.v o)
 | 0,_,a,k,n,cs,z,G,o,x0,x1,nx,H,hm,hv,hz,ho,h=>by cases ho
 | m+1,hb,a,k,n,cs,z,G,o,x0,x1,nx,H,hm,hv,hz,ho,h=>by
   have ho:tb L (ps L m) lv a k=some o:=ho;unfold tb at ho;obtain⟨hg1,hg2,hg3,hg4⟩:=AP hlv;refine Wq.jmp (FZ ..) (λ_=>rfl) ?_;refine Sq.op h λH1 aJ h1=> ?_;have fin:∀(w:Value) H2 nx2,iG L lv k=false->Hp nx0 H0 (ca bp L k::(x1,cs,44)::(x0,z,44)::(G++F)) H2 nx2->aT P pl X0 (.jump (nr (ptr bp) (i64 (lv:Int)) (ptr x0) (ptr x1) w true H2 nx2)) nx0 H0 (End nx0 H0 bp L F aQ.v o):=by
    intro w H2 nx2 hf h2;rw[if_neg (by rw[hf];simp)]at ho;refine Wq.jmp (Aa ..) (λ_=>rfl) ?_;simp only[af,fl (h2.at_ 1 rfl) hv.len];have h3:Hp nx0 H0 (ca bp L k::(x0,z,44)::(G++F)) H2 nx2:=(Hp.mv [_] h2).sub (by simp);exact Hq.fin h3 bW dj eN hz hv.len hv.one hv.fz (by omega) λH5 nx5 h5=>End.ret ho rfl h5
   have hop:=Ht (L:=L) (k:=k) hlv;simp only[af,OF];refine Wq.ite (λhw=> ?_) (λhw=> ?_)
   . exact fin _ H1 aJ (by rw[hop,hw];simp) h1
   . simp only[af,Hs lv hlv,mf (h1.sZ.ag h1.ag).levels rN (show(bn.map lvl)[lv]? = some (lvl ((bn[lv]?).getD []))by rw[List.getElem?_map,hg1];rfl)];refine Hq.call (K6 _ hg2 _) h1 λH2 nx2 h2=> ?_;simp only[af];cases hc:((bn[lv]?).getD []).contains (if j_ L k=true then(tk L k).s else[])with
     | false=>exact fin _ H2 nx2 (by rw[hop,hc,Bool.and_false]) h2
     | true=>
       have jg:iG L lv k=true:=by rw[hop,hc];simp[hw]
       have hW:j_ L k=true:=by
        unfold iG at jg;rw[Bool.and_eq_true]at jg;exact jg.1
       rw[if_pos jg]at ho;rw[if_pos hW]at hc ⊢;refine Wq.jmp (Aa ..) (λ_=>rfl) ?_;simp only[af,pk h2,dX hL (Er hW)];refine de h2 λH3 h3=> ?_;refine Hq.call (Ld _) h3 λH4 nx4 h4=> ?_;rw[hg4 _ hc];refine Wq.ite (λhr=> ?_) (λhr=> ?_)
       . rw[if_pos hr]at ho;simp only[af,fl (h4.at_ 1 rfl) hv.len];refine Sq.fj (hb m (Nat.lt_succ_self m)) (by omega) h4 ho λc k' H5 nx5 ho h5=> ?_;simp only[af,fl (h5.at_ 1 rfl) hv.len,bf];refine Hq.tt cs c.cs hv.len c.len h5 λx H6 nx6 h6=> ?_;simp only[af,tu];have h7:Hp nx0 H0 (ca bp L k'::(x0,z,44)::((x,cs++c.cs,44)::G++F)) H6 nx6:=(Hp.mv [_,_] h6).sub (by simp);exact Hq.fin h7 bW dj eN hz rfl rfl (ej.b2 hv).fz (by omega) λH5 nx5 h5=>End.ret ho rfl h5
       . rw[if_neg hr]at ho;simp only[af,fl (h4.at_ 1 rfl) hv.len,aL (show lv<9223372036854775807 by omega)];refine Sq.fj (lv:=lv+1) (hb m (Nat.lt_succ_self m)) (by omega) h4 ho λc k' H5 nx5 ho h5=> ?_;simp only[af,fl (h5.at_ 1 rfl) hv.len,bf];refine Hq.tt cs c.cs hv.len c.len h5 λx H6 nx6 h6=> ?_;simp only[af,tu];refine Hq.set [_,_] h6 bW hv.len rfl rfl λH7 h7=> ?_
         exact Jw hL hlv m (λj hj=>hb j (by omega)) _ k' (n+1) _ z ((x,cs++c.cs,44)::G) o x0 x1 nx6 H7 (by omega) (ej.b2 hv) hz ho (Hp.tx h7)
theorem NO (hL:L.length<=100000){n:Nat}(hn:n<=90000)(hb:∀j,j<=n->Ep L (ps L j).bin)(hu:bo 151 L aQ.v (ps L n).un):Ep L (ps L (n+1)).bin:=by
 intro lv nx0 nx H0 H bp F k o hlv ho h;have ho:vw L (ps L n) lv k=some o:=ho;unfold vw at ho;rw[O8];refine Hq.alloc bJ h λx0 H1 aJ h1=> ?_;simp only[af];refine Wq.ite (λhi=> ?_) (λhi=> ?_)
 . rw[if_pos (by omega),<- mj ((ps L n).un k)]at ho;refine Sq.call hu rfl h1 ho λa k' H2 nx2 _ ho h2=> ?_;exact Hq.xm h2 rfl λH9 nx9 h9=>End.ret ho rfl h9
 . rw[if_neg (by omega)]at ho;simp only[af,aL (show lv<9223372036854775807 by omega)];refine Sq.fj (lv:=lv+1) (hb n (Nat.le_refl n)) (by omega) h1 ho λa k' H2 nx2 ho h2=> ?_;refine Hq.alloc bJ h2 λx1 H3 nx3 h3=> ?_;refine Hq.set [_] h3 bW rfl a.len (ej.of a).one λH4 h4=> ?_
   exact Jw hL (by omega) (n+1) (λj hj=>hb j (by omega)) a k' 0 _ _ [] o x0 x1 nx3 H4 (by omega) (ej.of a) rfl ho h4
theorem Jx (hL:L.length<=100000):∀(m:Nat),(∀j,j<m->bo 178 L aQ.v (ps L j).atom)->∀(a:aQ) (k n:Nat) (cs z:List Value) (G:List Bx) (o:gL aQ) (x0 x1 nx:Nat) (H:Go.Ev.T OB),n+m<=90010->ej n cs a G->z.length=6->(ps L m).gF a k=some o->
 Hp nx0 H0 (ca bp L k::(x1,cs,44)::(x0,z,44)::(G++F)) H nx->aT P pl X0 (.jump (nC (ptr bp) (ptr x0) (ptr x1) H nx)) nx0 H0 (End nx0 H0 bp L F aQ.v o)
 | 0,_,a,k,n,cs,z,G,o,x0,x1,nx,H,hm,hv,hz,ho,h=>by cases ho
 | m+1,ha,a,k,n,cs,z,G,o,x0,x1,nx,H,hm,hv,hz,ho,h=>by
   have ho:tc L (ps L m) a k=some o:=ho;unfold tc at ho;refine Wq.jmp (F8 ..) (λ_=>rfl) ?_;refine Sq.Rj h λH1 aJ h1=> ?_;cases hb:ly L k with
   | true=>
     rw[if_pos hb]at ho;simp only[af,fl (h1.at_ 1 rfl) hv.len];refine Sq.call (ha m (Nat.lt_succ_self m)) rfl h1 ho λc k' H5 nx5 _ ho h5=> ?_;simp only[af,fl (h5.at_ 1 rfl) hv.len,bf];refine Hq.tt cs c.cs hv.len c.len h5 λx H6 nx6 h6=> ?_;simp only[af,gv];refine Hq.set [_,_] h6 bW hv.len rfl rfl λH7 h7=> ?_
     exact Jx hL m (λj hj=>ha j (by omega)) _ k' (n+1) _ z ((x,cs++c.cs,44)::G) o x0 x1 nx6 H7 (by omega) (ej.b2 hv) hz ho (Hp.tx h7)
   | false=>
     rw[if_neg (by rw[hb];simp)]at ho;simp only[af,fl (h1.at_ 1 rfl) hv.len];have h3:Hp nx0 H0 (ca bp L k::(x0,z,44)::(G++F)) H1 aJ:=(Hp.mv [_] h1).sub (by simp);exact Hq.fin h3 bW dj eN hz hv.len hv.one hv.fz (by omega) λH5 nx5 h5=>End.ret ho rfl h5
theorem NP (hL:L.length<=100000){n:Nat}(hn:n<=90000)(ha:∀j,j<=n->bo 178 L aQ.v (ps L j).atom)(hu:bo 151 L aQ.v (ps L n).un):bo 151 L aQ.v (ps L (n+1)).un:=by
 intro nx0 nx H0 H bp F k o ho h;have ho:Jc L (ps L n) k=some o:=ho;unfold Jc at ho;rw[Po];refine Hq.alloc bJ h λx0 H1 aJ h1=> ?_;refine Sq.op h1 λH2 nx2 h2=> ?_;have J:∀(bb:Bool) H3 nx3,unOp L k=bb->Hp nx0 H0 (ca bp L k::(x0,[i64 0,i64 0,aE [],aG,aG,aG],44)::F) H3 nx3->aT P pl X0 (.jump (sI (ptr bp) (ptr x0) (aE (if j_ L k=true then(tk L k).s else[])) bb H3 nx3)) nx0 H0 (End nx0 H0 bp L F aQ.v o):=by
  intro bb H3 nx3 hbb h3;refine Wq.jmp (KD ..) (λ_=>rfl) ?_;cases bb with
  | true=>
    rw[if_pos hbb]at ho;have hW:j_ L k=true:=by
     unfold unOp at hbb;rw[Bool.and_eq_true]at hbb;exact hbb.1
    rw[if_pos hW];simp only[af,pk h3,dX hL (Er hW)];refine de h3 λH4 h4=> ?_;refine Sq.call hu rfl h4 ho λa k' H5 nx5 _ ho h5=> ?_;refine Hq.eO a.cs a.len h5 λx H6 nx6 h6=> ?_;simp only[af,tu];have h7:Hp nx0 H0 (ca bp L k'::(x0,_,44)::([(x,a.cs,44)]++F)) H6 nx6:=Hp.swap' h6;exact Hq.fin h7 bW dj eN rfl rfl rfl (ej.b1 (ej.of a)).fz (by omega) λH5 nx5 h5=>End.ret ho rfl h5
  | false=>
    rw[if_neg (by rw[hbb];simp)]at ho;simp only[af];refine Sq.call (ha n (Nat.le_refl n)) rfl h3 ho λa k' H5 nx5 _ ho h5=> ?_;refine Hq.alloc bJ h5 λx1 H6 nx6 h6=> ?_;refine Hq.set [_] h6 bW rfl a.len (ej.of a).one λH7 h7=> ?_
    exact Jx hL (n+1) (λj hj=>ha j (by omega)) a k' 0 _ _ [] o x0 x1 nx6 H7 (by omega) (ej.of a) rfl ho h7
 have hop:unOp L k=(!decide ((if j_ L k=true then(tk L k).s else[])=[])&&fM.contains (if j_ L k=true then(tk L k).s else[])):=by
  unfold unOp;cases j_ L k with
  | false=>simp
  | true=>
    rw[Bool.true_and,if_pos rfl]
    by_cases hs:(tk L k).s=[]
    . rw[hs];decide +kernel
    . simp[hs]
 simp only[af,OF];refine Wq.bK (λhw=> ?_) (λhw=> ?_)
 . simp only[af,K7];refine Hq.po (GA _) h2 λH3 nx3 h3=> ?_;simp only[af];exact J _ H3 nx3 (by rw[hop,hw,Bool.true_and]) h3
 . exact J false H2 nx2 (by rw[hop,hw,Bool.false_and]) h2
end
section
variable {nx0 nx nx' bp k:Nat}{H0 H H':T OB}{F A B G G':List Bx}{s:Bx}{R:Go.Ev.Out->T OB->Nat->Prop}{b:Nat}{l:List Value}{e t:TypeId}{L:List Tok}
theorem Es (hL:L.length<=100000){sep:List UInt8}{kd:Int}:∀(m:Nat),(∀j,j<m->bo 61 L aQ.v (ps L j).exp)->∀(l:List aQ) (k:Nat) (sl:Value) (G:List Bx) (o:gL aQ) (y z:List Value) (x0 x1 x2 nx:Nat) (H:Go.Ev.T OB),l.length+m<=90010->Gw true 6 44 (l.map aQ.v) sl G->y.length=6->z.length=6->
 bd ((ps L m).dQ sep (.mk kd 0 [] l [] []) k) (λe k=>bl L [41] k λk=>yes e k)=some o->Hp nx0 H0 (ca bp L k::(x2,[i64 kd,i64 0,aE [],sl,aG,aG],44)::(x1,y,44)::(x0,z,44)::(G++F)) H nx->
 aT P pl X0 (.jump (nI (ptr bp) (ptr x0) (ptr x1) (ai (.agg ⟨[aE sep,i64 kd]⟩)) (ptr x2) H nx)) nx0 H0 (End nx0 H0 bp L F aQ.v o)
 | 0,_,l,k,sl,G,o,y,z,x0,x1,x2,nx,H,hm,hG,hy,hz,ho,h=>by cases ho
 | m+1,he,l,k,sl,G,o,y,z,x0,x1,x2,nx,H,hm,hG,hy,hz,ho,h=>by
   have ho:bd (jy L (ps L m) sep (.mk kd 0 [] l [] []) k) (λe k=>bl L [41] k λk=>yes e k)=some o:=ho;unfold jy at ho;refine Wq.jmp (Gf ..) (λ_=>rfl) ?_;simp only[af];refine Sq.take hL h (λhi H1 aJ h1=> ?_) (λhi H1 aJ h1=> ?_)
   . rw[if_pos hi,fT]at ho;simp only[af,ax (off:=3) (u:=sl) (h1.at_ 1 rfl) iy rfl];refine Sq.call (he m (Nat.lt_succ_self m)) rfl h1 ho λc k' H2 nx2 _ ho2 h2=> ?_;simp only[af,ax (off:=3) (u:=sl) (h2.at_ 1 rfl) iy rfl,bf];refine Hq.eO c.cs c.len h2 λx H3 nx3 h3=> ?_;simp only[af,ax (off:=3) (u:=sl) (h3.at_ 2 rfl) iy rfl,bf];refine Hq.Ej [_,_,_] (x:=c) (by omega) hG h3 λsl' G' H4 nx4 hG' h4=> ?_;refine Hq.put [_] h4 zT (by rcases hG'.2 with⟨_,rfl,_⟩ | ⟨b,c,rfl,_⟩<;>rfl) (dV hG') (by simp) rfl λH5 h5=> ?_;exact Es hL m (λj hj=>he j (by omega)) (l++[c]) k' sl' G' o y z x0 x1 x2 nx4 H5 (by rw[List.length_append];simp;omega) hG' hy hz ho2 h5
   . rw[if_neg (by rw[hi];simp),dO]at ho;have hv:ej 1 [i64 kd,i64 0,aE [],sl,aG,aG] (.mk kd 0 [] l [] []) G:=ej.gw hG;simp only[af,fl (h1.at_ 1 rfl) hv.len];refine Hq.set [_,_] h1 bW hy hv.len hv.one λH2 h2=> ?_
     refine Sq.iT hL h2 ho λH3 nx3 _ ho h3=> ?_;simp only[af,fl (h3.at_ 2 rfl) hv.len];have h4:Hp nx0 H0 (ca bp L (k+1)::(x0,z,44)::(G++F)) H3 nx3:=(Hp.mv [_,_] h3).sub (by simp);exact Hq.fin h4 bW dj eN hz hv.len hv.one hv.fz (by omega) λH5 nx5 h5=>End.ret ho rfl h5
theorem Et:aH P 195 (some (.agg ⟨[aE [44],i64 5,aE [59],i64 13]⟩)) (some (i64 0))=some (.agg ⟨[aE [44],i64 5]⟩):=by kernel_rfl
theorem Eu:aH P 195 (some (.agg ⟨[aE [44],i64 5,aE [59],i64 13]⟩)) (some (i64 1))=some (.agg ⟨[aE [59],i64 13]⟩):=by kernel_rfl
theorem Hq.Ew {w:List UInt8}{i:Int}{kt:Go.Ev.T OB->Nat->Q}(h:Hp nx0 H0 F H nx)(hk:∀H' nx',Hp nx0 H0 F H' nx'->aT P pl X0 (kt H' nx') nx0 H0 R):aT P pl X0 (ao (aA P H nx 194) λp H nx=>dc P H nx 194 (some p) (.agg ⟨[aE w,i64 i]⟩) kt) nx0 H0 R:=Hq.var C3 Kg rfl rfl rfl h hk
theorem NQ (hL:L.length<=100000){n:Nat}(hn:n<=90000)(he:∀j,j<=n->bo 61 L aQ.v (ps L j).exp){a:aQ}{z:List Value}{x0 x1:Nat}{o:gL aQ}(hz:z.length=6)
 (ho:(if cO L k [44]=true then bd (jy L (ps L n) [44] (.mk 5 0 [] [a] [] []) k) λe k=>bl L [41] k λk=>yes e k
 else if cO L k [59]=true then bd (jy L (ps L n) [59] (.mk 13 0 [] [a] [] []) k) λe k=>bl L [41] k λk=>yes e k
 else bl L [41] k λk=>yes a k)=some o) (h:Hp nx0 H0 (ca bp L k::(x1,a.cs,44)::(x0,z,44)::F) H nx):
 aT P pl X0 (.jump (nH (ptr bp) (ptr x0) (ptr x1) (.agg ⟨[aE [44],i64 5,aE [59],i64 13]⟩) (i64 0) H nx)) nx0 H0 (End nx0 H0 bp L F aQ.v o):=by
 refine Wq.jmp (sN ..) (λ_=>rfl) ?_;simp only[af,Et,Int.reduceLT];refine Hq.Ew h λH1 aJ h1=> ?_;refine Sq.is h1 λH2 nx2 h2=> ?_;cases hc:cO L k [44]with
 | true=>
   rw[if_pos hc]at ho;simp only[af,fl (h2.at_ 1 rfl) a.len];refine Hq.eO a.cs a.len h2 λx H3 nx3 h3=> ?_;simp only[af,gv];refine Hq.alloc bJ h3 λx2 H4 nx4 h4=> ?_;refine Hq.set [_] h4 bW rfl rfl rfl λH5 h5=> ?_
   have h6:Hp nx0 H0 (ca bp L k::(x2,_,44)::(x1,a.cs,44)::(x0,z,44)::([(x,a.cs,44)]++F)) H5 nx4:=h5.perm (List.Perm.cons _ (List.Perm.cons _ ((List.Perm.swap _ _ _).trans (List.Perm.cons _ (List.Perm.swap _ _ _)))));exact Es hL (n+1) (λj hj=>he j (by omega)) [a] k (gM x 1 1) [(x,a.cs,44)] o _ z x0 x1 x2 nx4 H5 (show 1+(n+1)<=90010 by omega) (Gw.m7 a.fw) a.len hz ho h6
 | false=>
   rw[if_neg (by rw[hc];simp)]at ho;simp only[af];refine Wq.jmp (Al ..) (λ_=>rfl) ?_;simp only[af,Int.reduceAdd,show IntKind.i64.wrap 1=1 from rfl];refine Wq.jmp (sN ..) (λ_=>rfl) ?_;simp only[af,Eu,Int.reduceLT];refine Hq.Ew h2 λH3 nx3 h3=> ?_;refine Sq.is h3 λH4 nx4 h4=> ?_;cases hc2:cO L k [59]with
   | true=>
     rw[if_pos hc2]at ho;simp only[af,fl (h4.at_ 1 rfl) a.len];refine Hq.eO a.cs a.len h4 λx H5 nx5 h5=> ?_;simp only[af,gv];refine Hq.alloc bJ h5 λx2 H6 nx6 h6=> ?_;refine Hq.set [_] h6 bW rfl rfl rfl λH7 h7=> ?_
     have h8:Hp nx0 H0 (ca bp L k::(x2,_,44)::(x1,a.cs,44)::(x0,z,44)::([(x,a.cs,44)]++F)) H7 nx6:=h7.perm (List.Perm.cons _ (List.Perm.cons _ ((List.Perm.swap _ _ _).trans (List.Perm.cons _ (List.Perm.swap _ _ _)))));exact Es hL (n+1) (λj hj=>he j (by omega)) [a] k (gM x 1 1) [(x,a.cs,44)] o _ z x0 x1 x2 nx6 H7 (show 1+(n+1)<=90010 by omega) (Gw.m7 a.fw) a.len hz ho h8
   | false=>
     rw[if_neg (by rw[hc2];simp)]at ho;simp only[af];refine Wq.jmp (Al ..) (λ_=>rfl) ?_;simp only[af,Int.reduceAdd,show IntKind.i64.wrap 2=2 from rfl];refine Wq.jmp (sN ..) (λ_=>rfl) ?_;simp only[af,Int.reduceLT];refine Sq.iT hL h4 ho λH5 nx5 _ ho h5=> ?_;simp only[af,fl (h5.at_ 1 rfl) a.len];exact Hq.xm (Hp.lx h5) hz λH9 nx9 h9=>End.ret ho rfl h9
theorem NR (hL:L.length<=100000){n:Nat}(hn:n<=90000)(he:∀j,j<=n->bo 61 L aQ.v (ps L j).exp)(hlt:bo 188 L aQ.v (ps L n).lt):bo 178 L aQ.v (ps L (n+1)).atom:=by
 intro nx0 nx H0 H bp F k o ho h;have ho:mP L (ps L n) k=some o:=ho;unfold mP at ho;rw[Py];refine Hq.alloc bJ h λx0 H1 aJ h1=> ?_;refine Sq.now h1 λH2 nx2 h2=> ?_;refine Sq.GB h2 λH3 nx3 h3=> ?_;simp only[af];refine Wq.ite (λhi=> ?_) (λhi=> ?_)
 . rw[if_pos hi]at ho;simp only[af,pk h3,dX hL (eV (show(tk L k).k≠0 by omega))];refine de h3 λH4 h4=> ?_;simp only[af,He];exact Hq.fin (G:=[]) h4 bW dj eN rfl rfl rfl ej.nil.fz (by omega) λH5 nx5 h5=>End.ret ho rfl h5
 rw[if_neg hi]at ho;refine Wq.ite (λhi=> ?_) (λhi=> ?_)
 . rw[if_pos hi]at ho;simp only[af,pk h3,dX hL (eV (show(tk L k).k≠0 by omega))];refine de h3 λH4 h4=> ?_;simp only[af,tv];exact Hq.fin (G:=[]) h4 bW dj eN rfl rfl rfl ej.nil.fz (by omega) λH5 nx5 h5=>End.ret ho rfl h5
 rw[if_neg hi]at ho;refine Wq.ite (λhi=> ?_) (λhi=> ?_)
 . rw[if_pos hi]at ho;simp only[af,pk h3,dX hL (eV (show(tk L k).k≠0 by omega))];refine de h3 λH4 h4=> ?_;simp only[af,tv];exact Hq.fin (G:=[]) h4 bW dj eN rfl rfl rfl ej.nil.fz (by omega) λH5 nx5 h5=>End.ret ho rfl h5
 rw[if_neg hi]at ho;refine Wq.ite (λhi=> ?_) (λhi=> ?_)
 . rw[if_pos hi]at ho;simp only[af,pk h3,dX hL (eV (show(tk L k).k≠0 by omega))];refine de h3 λH4 h4=> ?_;simp only[af,tv];exact Hq.fin (G:=[]) h4 bW dj eN rfl rfl rfl ej.nil.fz (by omega) λH5 nx5 h5=>End.ret ho rfl h5
 rw[if_neg hi]at ho;refine Sq.take hL h3 (λhi H4 nx4 h4=> ?_) (λhi H4 nx4 h4=> ?_)
 . rw[if_pos hi,<- mj ((ps L n).lt _)]at ho;simp only[af];refine Sq.call hlt rfl h4 ho λa k' H5 nx5 _ ho h5=> ?_;exact Hq.xm h5 rfl λH9 nx9 h9=>End.ret ho rfl h9
 rw[if_neg (by rw[hi];simp)]at ho;simp only[af];refine Sq.iT hL h4 ho λH6 nx6 _ ho h6=> ?_;refine Sq.take hL h6 (λhi H7 nx7 h7=> ?_) (λhi H7 nx7 h7=> ?_)
 . rw[if_pos hi]at ho;simp only[af];exact Hq.fin (G:=[]) h7 bW dj eN rfl rfl rfl ej.nil.fz (by omega) λH8 nx8 h8=>End.ret ho rfl h8
 rw[if_neg (by rw[hi];simp)]at ho;simp only[af];refine Sq.call (he n (Nat.le_refl n)) rfl h7 ho λa k' H8 nx8 _ ho h8=> ?_;refine Hq.alloc bJ h8 λx1 H9 nx9 h9=> ?_;refine Hq.set [_] h9 bW rfl a.len (ej.of a).one λH10 h10=> ?_
 exact NQ hL hn he rfl ho h10
end
section
variable {nx0 nx nx' bp k:Nat}{H0 H H':T OB}{F A B G G':List Bx}{s:Bx}{R:Go.Ev.Out->T OB->Nat->Prop}{b:Nat}{l:List Value}{e t:TypeId}{L:List Tok}
def m8 (d:Option ba):Value:= .tuple ⟨[(d.getD w7).v,.bool d.isSome]⟩
theorem ej.Qb {n:Nat}{cs:List Value}{a:aQ}{ds:List ba}{sd:Value}(h:ej n cs a G)(hd:Gw true 17 57 (ds.map ba.v) sd G'):ej (n+1) [i64 10,i64 0,aE [],gM b 1 1,aG,sd] (.mk 10 0 [] [a] [] ds) ((b,cs,44)::G++G'):=by
 have h1:=cG.dF (t:=41) (b:=b) eh bW dj rfl eN h.fw (.inr rfl) (by simp) (gX.one h.fz) (λu hu=>by rw[List.mem_singleton]at hu;subst hu;exact a.len);rw[fS cs]at h1;exact ej.row h1 jE (hd.P_.mono (by omega)) rfl rfl (dV hd)
theorem Jy (hL:L.length<=100000){n:Nat}{cs z:List Value}{a:aQ}{ds:List ba}{sd:Value}{x0 x1 x2:Nat}{o:gL aQ}(hv:ej n cs a G)(hn:n<=90010)(hd:Gw true 17 57 (ds.map ba.v) sd G')(hz:z.length=6)(ho:bl L [101,110,100] k (λk=>yes (.mk 10 0 [] [a] [] ds) k)=some o)
 (h:Hp nx0 H0 (ca bp L k::(x2,cs,44)::(x1,[i64 10,i64 0,aE [],aG,aG,sd],44)::(x0,z,44)::(G++(G'++F))) H nx):aT P pl X0 (a4 P pl (sR (ptr bp) (ptr x0) (ptr x1) (ptr x2) H nx)) nx0 H0 (End nx0 H0 bp L F aQ.v o):=by
 rw[Am];refine Sq.iT hL h ho λH1 aJ _ ho h1=> ?_;simp only[af,fl (h1.at_ 1 rfl) hv.len];refine Hq.eO cs hv.len h1 λx H2 nx2 h2=> ?_;refine Hq.put [_,_,_] h2 zT rfl rfl (by simp) rfl λH3 h3=> ?_;simp only[af,fl (h3.at_ 3 rfl) rfl];have hl:=ej.Qb (b:=x) hv hd;have h4:Hp nx0 H0 (ca bp L (k+1)::(x0,z,44)::(((x,cs,44)::G++G')++F)) H3 nx2:=by
  rw[List.cons_append,List.cons_append,List.append_assoc];exact(Hp.mv [_,_,_] h3).sub (by simp)
 exact Hq.fin h4 bW dj eN hz hl.len hl.one hl.fz (by omega) λH5 nx5 h5=>End.ret ho rfl h5
theorem Jz (hL:L.length<=100000){ds:List ba}{sd:Value}(hd:Gw true 17 57 (ds.map ba.v) sd G'):∀(m:Nat),(∀j,j<m->bo 61 L aQ.v (ps L j).exp)->∀(l:List aQ) (k:Nat) (sl:Value) (G:List Bx) (o:gL aQ) (z:List Value) (x0 x1 x2 nx:Nat) (H:Go.Ev.T OB),l.length+m<=90010->Gw true 6 44 (l.map aQ.v) sl G->z.length=6->
 bd ((ps L m).dQ [59] (.mk 13 0 [] l [] []) k) (λa k=>bl L [101,110,100] k λk=>yes (.mk 10 0 [] [a] [] ds) k)=some o->Hp nx0 H0 (ca bp L k::(x2,[i64 13,i64 0,aE [],sl,aG,aG],44)::(x1,[i64 10,i64 0,aE [],aG,aG,sd],44)::(x0,z,44)::(G++(G'++F))) H nx->
 aT P pl X0 (.jump (nJ (ptr bp) (ptr x0) (ptr x1) (ptr x2) H nx)) nx0 H0 (End nx0 H0 bp L F aQ.v o)
 | 0,_,l,k,sl,G,o,z,x0,x1,x2,nx,H,hm,hG,hz,ho,h=>by cases ho
 | m+1,he,l,k,sl,G,o,z,x0,x1,x2,nx,H,hm,hG,hz,ho,h=>by
   have ho:bd (jy L (ps L m) [59] (.mk 13 0 [] l [] []) k) (λa k=>bl L [101,110,100] k λk=>yes (.mk 10 0 [] [a] [] ds) k)=some o:=ho;unfold jy at ho;refine Wq.jmp (Gi ..) (λ_=>rfl) ?_;refine Sq.take hL h (λhi H1 aJ h1=> ?_) (λhi H1 aJ h1=> ?_)
   . rw[if_pos hi,fT]at ho;simp only[af,ax (off:=3) (u:=sl) (h1.at_ 1 rfl) iy rfl];refine Sq.call (he m (Nat.lt_succ_self m)) rfl h1 ho λc k' H2 nx2 _ ho2 h2=> ?_;simp only[af,ax (off:=3) (u:=sl) (h2.at_ 1 rfl) iy rfl,bf];refine Hq.eO c.cs c.len h2 λx H3 nx3 h3=> ?_;simp only[af,ax (off:=3) (u:=sl) (h3.at_ 2 rfl) iy rfl,bf];refine Hq.Ej [_,_,_] (x:=c) (by omega) hG h3 λsl' G1 H4 nx4 hG1 h4=> ?_;refine Hq.put [_] h4 zT (by rcases hG1.2 with⟨_,rfl,_⟩ | ⟨b,c,rfl,_⟩<;>rfl) (dV hG1) (by simp) rfl λH5 h5=> ?_;exact Jz hL hd m (λj hj=>he j (by omega)) (l++[c]) k' sl' G1 o z x0 x1 x2 nx4 H5 (by rw[List.length_append];simp;omega) hG1 hz ho2 h5
   . rw[if_neg (by rw[hi];simp),dO]at ho;simp only[af];have:=Jy hL (ej.gw (k:=13) (i:=0) (w:=[]) hG) (by omega) hd hz ho h1;rw[Am]at this;exact this
theorem Hq.Qc {a:ba}{kt:Go.Ev.T OB->Nat->Q}(h:Hp nx0 H0 F H nx)(hk:∀H' nx',Hp nx0 H0 F H' nx'->aT P pl X0 (kt H' nx') nx0 H0 R):aT P pl X0 (ao (aA P H nx 57) λp H nx=>dc P H nx 57 (some p) a.v kt) nx0 H0 R:=Hq.var dt eT rfl a.len (a.fw a.v (by simp)).2.1 h hk
theorem Rr (a:ba):ae P H 57 (some (ai a.v))=some a.v:=by
 rw[ba.bw];exact CQ ..
theorem JA (hL:L.length<=100000){n:Nat}(hn:n<=90000)(he:∀j,j<=n->bo 61 L aQ.v (ps L j).exp):∀(m:Nat),(∀j,j<m->bo 105 L m8 (ps L j).bind)->∀(ds:List ba) (k:Nat) (sd:Value) (G':List Bx) (o:gL aQ) (z:List Value) (x0 x1 nx:Nat) (H:Go.Ev.T OB),ds.length+m<=90010->Gw true 17 57 (ds.map ba.v) sd G'->z.length=6->
 bd ((ps L m).f_ ds k) (λds k=>bd ((ps L n).exp k) λa k=>
  if cO L k [59]=true then bd (jy L (ps L n) [59] (.mk 13 0 [] [a] [] []) k) λa k=>bl L [101,110,100] k λk=>yes (.mk 10 0 [] [a] [] ds) k
  else bl L [101,110,100] k λk=>yes (.mk 10 0 [] [a] [] ds) k)=some o->Hp nx0 H0 (ca bp L k::(x1,[i64 10,i64 0,aE [],aG,aG,sd],44)::(x0,z,44)::(G'++F)) H nx->
 aT P pl X0 (.jump (sP (ptr bp) (ptr x0) (ptr x1) H nx)) nx0 H0 (End nx0 H0 bp L F aQ.v o)
 | 0,_,ds,k,sd,G',o,z,x0,x1,nx,H,hm,hd,hz,ho,h=>by cases ho
 | m+1,hb,ds,k,sd,G',o,z,x0,x1,nx,H,hm,hd,hz,ho,h=>by
   have ho:bd (td L (ps L m) ds k) (λds k=>bd ((ps L n).exp k) λa k=>
    if cO L k [59]=true then bd (jy L (ps L n) [59] (.mk 13 0 [] [a] [] []) k) λa k=>bl L [101,110,100] k λk=>yes (.mk 10 0 [] [a] [] ds) k
    else bl L [101,110,100] k λk=>yes (.mk 10 0 [] [a] [] ds) k)=some o:=ho
   unfold td at ho;refine Wq.jmp (KH ..) (λ_=>rfl) ?_;refine Sq.take hL h (λhi H1 aJ h1=> ?_) (λhi H1 aJ h1=> ?_)
   . rw[if_pos hi,dO]at ho;simp only[af];refine Sq.call (he n (Nat.le_refl n)) rfl h1 ho λa k' H2 nx2 _ ho h2=> ?_;refine Hq.alloc bJ h2 λx2 H3 nx3 h3=> ?_;refine Hq.set [_] h3 bW rfl a.len (ej.of a).one λH4 h4=> ?_
     refine Sq.is h4 λH5 nx5 h5=> ?_;cases hc:cO L k' [59]with
     | true=>
       rw[if_pos hc]at ho;simp only[af,fl (h5.at_ 1 rfl) a.len];refine Hq.eO a.cs a.len h5 λx H6 nx6 h6=> ?_;simp only[af,gv];refine Hq.set [_,_] h6 bW a.len rfl rfl λH7 h7=> ?_
       have h8:Hp nx0 H0 (ca bp L k'::(x2,_,44)::(x1,_,44)::(x0,z,44)::([(x,a.cs,44)]++(G'++F))) H7 nx6:=h7.perm (List.Perm.cons _ ((List.Perm.swap _ _ _).trans (List.Perm.cons _ ((List.Perm.swap _ _ _).trans (List.Perm.cons _ (List.Perm.swap _ _ _))))));exact Jz hL hd (n+1) (λj hj=>he j (by omega)) [a] k' (gM x 1 1) [(x,a.cs,44)] o z x0 x1 x2 nx6 H7 (show 1+(n+1)<=90010 by omega) (Gw.m7 a.fw) hz ho h8
     | false=>
       rw[if_neg (by rw[hc];simp)]at ho;simp only[af];exact Wq.jump (λ_=>rfl) (Jy (n:=0) (G:=[]) hL (ej.of a) (by omega) hd hz ho h5)
   . rw[if_neg (by rw[hi];simp),fT]at ho;simp only[af];refine Sq.call (hb m (Nat.lt_succ_self m)) rfl h1 ho λd k' H2 nx2 _ ho h2=> ?_;unfold m8;simp only[af,Fc,Fe];refine Hq.Qc h2 λH3 nx3 h3=> ?_;cases d with
     | none=>
       simp only[af,Option.isSome_none,Bool.not_false];exact Sq.fail (α:=aQ) (β:=aQ) (o:=o) (by cases ho;rfl) h3
     | some d=>
       simp only[af,Option.isSome_some,Bool.not_true,Option.getD_some];refine Wq.jmp (Gh ..) (λ_=>rfl) ?_;simp only[af,ax (off:=5) (u:=sd) (h3.at_ 1 rfl) kx rfl,Rr];refine Hq.AM d.cs d.len h3 λx H4 nx4 h4=> ?_;refine Hq.NB [_,_] (x:=d) (by omega) hd h4 λsd' G2 H5 nx5 hd' h5=> ?_;refine Hq.put [_] h5 qN (by rcases hd'.2 with⟨_,rfl,_⟩ | ⟨b,c,rfl,_⟩<;>rfl) (dV hd') (by simp) rfl λH6 h6=> ?_;refine Sq.skip hL h6 λbb H7 nx7 h7=> ?_;simp only[af];exact JA hL hn he m (λj hj=>hb j (by omega)) (ds++[d]) _ sd' G2 o z x0 x1 nx7 H7 (by rw[List.length_append];simp;omega) hd' hz ho h7
theorem NS (hL:L.length<=100000){n:Nat}(hn:n<=90000)(he:∀j,j<=n->bo 61 L aQ.v (ps L j).exp)(hb:∀j,j<=n->bo 105 L m8 (ps L j).bind):bo 188 L aQ.v (ps L (n+1)).lt:=by
 intro nx0 nx H0 H bp F k o ho h;have ho:Jd L (ps L n) k=some o:=ho;unfold Jd at ho;rw[PC];refine Hq.alloc bJ h λx0 H1 aJ h1=> ?_;refine Hq.alloc bJ h1 λx1 H2 nx2 h2=> ?_;refine Hq.set [_] h2 bW rfl rfl rfl λH3 h3=> ?_
 exact JA hL hn he (n+1) (λj hj=>hb j (by omega)) [] k aG [] o _ x0 x1 nx2 H3 (by simp;omega) (Gw.nil _ _ _) rfl ho h3
end
section
variable {nx0 nx nx' bp k:Nat}{H0 H H':T OB}{F A B G G':List Bx}{s:Bx}{R:Go.Ev.Out->T OB->Nat->Prop}{b:Nat}{l:List Value}{e t:TypeId}{L:List Tok}
theorem Fn.j3 {w:List UInt8}{q:List bg}{e:aQ}{sp:Value}(hG:Gw true 4 47 (q.map bg.v) sp G):fC 1 [(1,42),(5,41),(6,42),(7,24)] (.agg ⟨aE w::sp::e.cs⟩) (Fn.v (.mk w q e)) G:=by
 rw[Fn.bw,aQ.gp];have h1:=hG.Ls;have:=ed.cons (p:=(1,42)) (cs:=[aE w,sp,i64 e.k,i64 e.n,aE e.s,ft e.l,cM e.p,cX e.d]) rfl h1 (ed.cons (p:=(5,41)) rfl ((cG.row eh).mono (Nat.zero_le 1)) (ed.cons (p:=(6,42)) rfl ((cG.row dz).mono (Nat.zero_le 1)) (ed.cons (p:=(7,24)) rfl ((cG.row fq).mono (Nat.zero_le 1)) ed.nil)));simp only[List.append_nil]at this;exact fC.of this
theorem JB (hL:L.length<=100000){E:Nat->PR aQ}(he:bo 61 L aQ.v E){w:List UInt8}:∀(m:Nat),(∀j,j<m->bo 177 L bg.v (ps L j).bQ)->∀(q:List bg) (k:Nat) (sp:Value) (G:List Bx) (o:gL Fn) (z:List Value) (x0 x1 nx:Nat) (H:Go.Ev.T OB),q.length+m<=90010->Gw true 4 47 (q.map bg.v) sp G->z.length=8->
 bd ((ps L m).p8 q k) (λl k=>bl L [61] k λk=>bd (E k) λe k=>yes (.mk w l e) k)=some o->Hp nx0 H0 (ca bp L k::(x1,[aE w,sp,i64 0,i64 0,aE [],aG,aG,aG],65)::(x0,z,65)::(G++F)) H nx->
 aT P pl X0 (.jump (sH (ptr bp) (ptr x0) (ptr x1) H nx)) nx0 H0 (End nx0 H0 bp L F Fn.v o)
 | 0,_,q,k,sp,G,o,z,x0,x1,nx,H,hm,hG,hz,ho,h=>by cases ho
 | m+1,hp,q,k,sp,G,o,z,x0,x1,nx,H,hm,hG,hz,ho,h=>by
   have ho:bd (tg L (ps L m) q k) (λl k=>bl L [61] k λk=>bd (E k) λe k=>yes (.mk w l e) k)=some o:=ho;unfold tg at ho;refine Wq.jmp (KC ..) (λ_=>rfl) ?_;refine Sq.M_ h λH1 aJ h1=> ?_;cases hb:jX L k with
   | true=>
     rw[if_pos hb,fT]at ho;simp only[af,ax (off:=1) (u:=sp) (h1.at_ 1 rfl) iz rfl];refine Sq.call (hp m (Nat.lt_succ_self m)) rfl h1 ho λc k' H2 nx2 _ ho2 h2=> ?_;simp only[af,ax (off:=1) (u:=sp) (h2.at_ 1 rfl) iz rfl,bf];refine Hq.iI c.cs c.len h2 λx H3 nx3 h3=> ?_;simp only[af,ax (off:=1) (u:=sp) (h3.at_ 2 rfl) iz rfl,bf];refine Hq.Ek [_,_] (x:=c) (by omega) hG h3 λsl' G1 H4 nx4 hG1 h4=> ?_;refine Hq.put [_] h4 zU (by rcases hG1.2 with⟨_,rfl,_⟩ | ⟨b,c,rfl,_⟩<;>rfl) (dV hG1) (by simp) rfl λH5 h5=> ?_;exact JB hL he m (λj hj=>hp j (by omega)) (q++[c]) k' sl' G1 o z x0 x1 nx4 H5 (by rw[List.length_append];simp;omega) hG1 hz ho2 h5
   | false=>
     rw[if_neg (by rw[hb];simp),dO]at ho;simp only[af];refine Sq.iT hL h1 ho λH2 nx2 _ ho h2=> ?_;refine Sq.call he rfl h2 ho λc k' H3 nx3 _ ho h3=> ?_;refine Hq.store [_] h3 bW (by simp) c.len (ej.of c).one λH4 h4=> ?_;have e1:gk [aE w,sp,i64 0,i64 0,aE [],aG,aG,aG] (aQ.v c).cells.toList 2=aE w::sp::c.cs:=by
      rw[aQ.bw,aQ.gp];rfl
     rw[e1]at h4;have hlen:(aE w::sp::c.cs).length=8:=by
      have:=c.len;simp only[List.length_cons];show c.cs.length+1+1=8;have h6:c.cs.length=6:=c.len;omega
     have hone:(aE w::sp::c.cs).all au=true:=by
      simp only[List.all_cons,jo,dV hG,Bool.true_and];exact(ej.of c).one
     simp only[af,NG (h4.at_ 1 rfl) hlen];have h5:Hp nx0 H0 (ca bp L k'::(x0,z,65)::(G++F)) H4 nx3:=(Hp.mv [_] h4).sub (by simp);exact Hq.fin h5 mL wL Jb hz hlen hone (Fn.j3 hG) (by omega) λH9 nx9 h9=>End.ret ho rfl h9
theorem NT (hL:L.length<=100000){n:Nat}(hn:n<=90000)(hp:∀j,j<=n->bo 177 L bg.v (ps L j).bQ)(he:bo 61 L aQ.v (ps L n).exp):bo 149 L Fn.v (ps L (n+1)).fn:=by
 intro nx0 nx H0 H bp F k o ho h;have ho:Je L (ps L n) k=some o:=ho;unfold Je at ho;rw[Pm];refine Hq.alloc iw h λx0 H1 aJ h1=> ?_;refine Sq.word (by decide) hL h1 ho λH2 nx2 _ ho h2=> ?_;simp only[af];refine Sq.call (hp n (Nat.le_refl n)) rfl h2 ho λa k' H3 nx3 _ ho h3=> ?_;refine Hq.iI a.cs a.len h3 λx H4 nx4 h4=> ?_;simp only[af,Hh];refine Hq.alloc iw h4 λx1 H5 nx5 h5=> ?_;refine Hq.set [_] h5 mL rfl rfl rfl λH6 h6=> ?_
 have h7:Hp nx0 H0 (ca bp L k'::(x1,_,65)::(x0,_,65)::([(x,a.cs,47)]++F)) H6 nx5:=h6.perm (List.Perm.cons _ (List.Perm.cons _ (List.Perm.swap _ _ _)));exact JB hL he (n+1) (λj hj=>hp j (by omega)) [a] k' (gM x 1 1) [(x,a.cs,47)] o _ x0 x1 nx5 H6 (show 1+(n+1)<=90010 by omega) (Gw.m7 a.fw) rfl ho h7
end
section
variable {nx0 nx nx' bp k:Nat}{H0 H H':T OB}{F A B G G':List Bx}{s:Bx}{R:Go.Ev.Out->T OB->Nat->Prop}{b:Nat}{l:List Value}{e t:TypeId}{L:List Tok}
theorem vF {n:Nat}:cG n 48 aG (BD []) []:=(cG.nil o6 mL).mono (Nat.zero_le n)
theorem vG {n:Nat}:cG n 49 aG (gn []) []:=(cG.nil jr iC).mono (Nat.zero_le n)
theorem vH {n:Nat}:cG n 50 aG (j9 []) []:=(cG.nil l6 j7).mono (Nat.zero_le n)
theorem vI {n:Nat}:cG n 53 aG (jx []) []:=(cG.nil eI cE).mono (Nat.zero_le n)
theorem ba.j3 {kk:Int}{p0 p1 p2 c0 c1 c2 w1 w2:Value}{s0 s1 s2 s3 s4 s5 s6 s7:Value}{d:ba}{r0 r1 r2 r3 r4 r5 r6 r7:Value}{n:Nat}{G4:List Bx}
 (h0:cG n 42 s0 r0 []) (h1:cG n 41 s1 r1 []) (h2:cG n 42 s2 r2 []) (h3:cG n 24 s3 r3 []) (h4:cG n 48 s4 r4 G4) (h5:cG n 49 s5 r5 []) (h6:cG n 50 s6 r6 []) (h7:cG n 53 s7 r7 [])
 (hd:d.v= .agg ⟨[i64 kk,p0,p1,p2,r0,c0,c1,c2,r1,r2,r3,r4,r5,w1,r6,w2,r7]⟩):fC n [(4,42),(8,41),(9,42),(10,24),(11,48),(12,49),(14,50),(16,53)] (.agg ⟨[i64 kk,p0,p1,p2,s0,c0,c1,c2,s1,s2,s3,s4,s5,w1,s6,w2,s7]⟩) d.v G4:=by
 rw[hd];have:=ed.cons (p:=(4,42)) (cs:=[i64 kk,p0,p1,p2,s0,c0,c1,c2,s1,s2,s3,s4,s5,w1,s6,w2,s7]) rfl h0 (ed.cons (p:=(8,41)) rfl h1 (ed.cons (p:=(9,42)) rfl h2 (ed.cons (p:=(10,24)) rfl h3 (ed.cons (p:=(11,48)) rfl h4 (ed.cons (p:=(12,49)) rfl h5 (ed.cons (p:=(14,50)) rfl h6 (ed.cons (p:=(16,53)) rfl h7 ed.nil)))))));simp only[List.append_nil,List.nil_append]at this;exact fC.of this
theorem Ex (k:Int)(a:bg)(c:aQ):aC P 57 (some [(0,i64 k),(1,a.v),(2,c.v)])=some (.agg ⟨[i64 k,i64 a.k,i64 a.n,aE a.s,cM a.l,i64 c.k,i64 c.n,aE c.s,ft c.l,cM c.p,cX c.d,aG,aG,aE [],aG,aE [],aG]⟩):=by
 rw[bg.bw,aQ.bw];exact Hj ..
theorem Rs (a:bg):ae P H 47 (some (ai a.v))=some a.v:=by
 rw[bg.bw];exact CP ..
theorem Hq.Qd {a:bg}{kt:Go.Ev.T OB->Nat->Q}(h:Hp nx0 H0 F H nx)(hk:∀H' nx',Hp nx0 H0 F H' nx'->aT P pl X0 (kt H' nx') nx0 H0 R):aT P pl X0 (ao (aA P H nx 47) λp H nx=>dc P H nx 47 (some p) a.v kt) nx0 H0 R:=Hq.var cN da rfl a.len (hI.of a).one h hk
theorem ba.NU {a:bg}{c:aQ}:fC 0 [(4,42),(8,41),(9,42),(10,24),(11,48),(12,49),(14,50),(16,53)] (.agg ⟨[i64 1,i64 a.k,i64 a.n,aE a.s,cM a.l,i64 c.k,i64 c.n,aE c.s,ft c.l,cM c.p,cX c.d,aG,aG,aE [],aG,aE [],aG]⟩) (ba.v (.mk 1 a c [] gr kD)) []:=
 ba.j3 (cG.row dz) (cG.row eh) (cG.row dz) (cG.row fq) vF vG vH vI (ba.bw _)
theorem ba.NV {l:List Fn}{sl:Value}(hG:Gw true 8 65 (l.map Fn.v) sl G):fC 1 [(4,42),(8,41),(9,42),(10,24),(11,48),(12,49),(14,50),(16,53)] (.agg ⟨[i64 2,i64 0,i64 0,aE [],aG,i64 0,i64 0,aE [],aG,aG,aG,sl,aG,aE [],aG,aE [],aG]⟩) (ba.v (.mk 2 kC lz l gr kD)) G:=
 ba.j3 jE vE jE qV hG.P9 vG vH vI (ba.bw _)
theorem ba.Lt:fC 0 [(4,42),(8,41),(9,42),(10,24),(11,48),(12,49),(14,50),(16,53)] (.agg ⟨[i64 0,i64 0,i64 0,aE [],aG,i64 0,i64 0,aE [],aG,aG,aG,aG,aG,aE [],aG,aE [],aG]⟩) w7.v []:=
 ba.j3 jE vE jE qV vF vG vH vI (ba.bw _)
theorem JC (hL:L.length<=100000):∀(m:Nat),(∀j,j<m->bo 149 L Fn.v (ps L j).fn)->∀(l:List Fn) (k:Nat) (sl:Value) (G:List Bx) (o:gL (Option ba)) (z:List Value) (x0 x1 nx:Nat) (H:Go.Ev.T OB),l.length+m<=90010->Gw true 8 65 (l.map Fn.v) sl G->z.length=17->
 bd ((ps L m).gH l k) (λl k=>yes (some (.mk 2 kC lz l gr kD)) k)=some o->Hp nx0 H0 (ca bp L k::(x1,[i64 2,i64 0,i64 0,aE [],aG,i64 0,i64 0,aE [],aG,aG,aG,sl,aG,aE [],aG,aE [],aG],57)::(x0,z,57)::(G++F)) H nx->
 aT P pl X0 (.jump (np (ptr bp) (ptr x0) (ptr x1) H nx)) nx0 H0 (End nx0 H0 bp L F m8 o)
 | 0,_,l,k,sl,G,o,z,x0,x1,nx,H,hm,hG,hz,ho,h=>by cases ho
 | m+1,hp,l,k,sl,G,o,z,x0,x1,nx,H,hm,hG,hz,ho,h=>by
   have ho:bd (te L (ps L m) l k) (λl k=>yes (some (.mk 2 kC lz l gr kD)) k)=some o:=ho;unfold te at ho;refine Wq.jmp (FX ..) (λ_=>rfl) ?_;refine Sq.take hL h (λhi H1 aJ h1=> ?_) (λhi H1 aJ h1=> ?_)
   . rw[if_pos hi,fT]at ho;simp only[af,ax (off:=11) (u:=sl) (h1.at_ 1 rfl) wJ rfl];refine Sq.call (hp m (Nat.lt_succ_self m)) rfl h1 ho λc k' H2 nx2 _ ho2 h2=> ?_;simp only[af,ax (off:=11) (u:=sl) (h2.at_ 1 rfl) wJ rfl,bf];refine Hq.AL c.cs c.len h2 λx H3 nx3 h3=> ?_;simp only[af,ax (off:=11) (u:=sl) (h3.at_ 2 rfl) wJ rfl,bf];refine Hq.NA [_,_] (x:=c) (by omega) hG h3 λsl' G1 H4 nx4 hG1 h4=> ?_;refine Hq.put [_] h4 MD (by rcases hG1.2 with⟨_,rfl,_⟩ | ⟨b,c,rfl,_⟩<;>rfl) (dV hG1) (by simp) rfl λH5 h5=> ?_;exact JC hL m (λj hj=>hp j (by omega)) (l++[c]) k' sl' G1 o z x0 x1 nx4 H5 (by rw[List.length_append];simp;omega) hG1 hz ho2 h5
   . rw[if_neg (by rw[hi];simp),dO]at ho;simp only[af,Jq (h1.at_ 1 rfl) rfl];have h5:Hp nx0 H0 (ca bp L k::(x0,z,57)::(G++F)) H1 aJ:=(Hp.mv [_] h1).sub (by simp);exact Hq.fin h5 eT iA mO hz rfl (by simp[dV hG]) (ba.NV hG) (by omega) λH9 nx9 h9=>End.ret ho rfl h9
theorem NW (hL:L.length<=100000){n:Nat}(hn:n<=90000)(hp:bo 148 L bg.v (ps L n).pat)(he:bo 61 L aQ.v (ps L n).exp)(hf:∀j,j<=n->bo 149 L Fn.v (ps L j).fn):bo 105 L m8 (ps L (n+1)).bind:=by
 intro nx0 nx H0 H bp F k o ho h;have ho:mR L (ps L n) k=some o:=ho;unfold mR at ho;rw[O6];refine Hq.alloc dt h λx0 H1 aJ h1=> ?_;refine Sq.take hL h1 (λhi H2 nx2 h2=> ?_) (λhi H2 nx2 h2=> ?_)
 . rw[if_pos hi]at ho;simp only[af];refine Sq.call hp rfl h2 ho λa k' H3 nx3 _ ho h3=> ?_;refine Hq.Qd h3 λH4 nx4 h4=> ?_;refine Sq.iT hL h4 ho λH5 nx5 _ ho h5=> ?_;simp only[af,Rs];refine Sq.call he rfl h5 ho λc k2 H6 nx6 _ ho h6=> ?_;simp only[af,Ex];exact Hq.fin (G:=[]) h6 eT iA mO rfl rfl rfl ba.NU (by omega) λH9 nx9 h9=>End.ret ho rfl h9
 rw[if_neg (by rw[hi];simp)]at ho;simp only[af];refine Sq.take hL h2 (λhi H3 nx3 h3=> ?_) (λhi H3 nx3 h3=> ?_)
 . rw[if_pos hi]at ho;simp only[af];refine Sq.call (hf n (Nat.le_refl n)) rfl h3 ho λa k' H4 nx4 _ ho h4=> ?_;refine Hq.AL a.cs a.len h4 λx H5 nx5 h5=> ?_;simp only[af,Hi];refine Hq.alloc dt h5 λx1 H6 nx6 h6=> ?_;refine Hq.set [_] h6 eT rfl rfl rfl λH7 h7=> ?_
   have h8:Hp nx0 H0 (ca bp L k'::(x1,_,57)::(x0,_,57)::([(x,a.cs,65)]++F)) H7 nx6:=h7.perm (List.Perm.cons _ (List.Perm.cons _ (List.Perm.swap _ _ _)));exact JC hL (n+1) (λj hj=>hf j (by omega)) [a] k' (gM x 1 1) [(x,a.cs,65)] o _ x0 x1 nx6 H7 (show 1+(n+1)<=90010 by omega) (Gw.m7 a.fw) rfl ho h8
 . rw[if_neg (by rw[hi];simp)]at ho;simp only[af];refine Wq.jmp (FY ..) (λ_=>rfl) ?_;exact Hq.fin (G:=[]) h3 eT iA mO rfl rfl rfl ba.Lt (by omega) λH9 nx9 h9=>End.ret ho rfl h9
end
section
variable {nx0 nx nx' bp k:Nat}{H0 H H':T OB}{F A B G G':List Bx}{s:Bx}{R:Go.Ev.Out->T OB->Nat->Prop}{b:Nat}{l:List Value}{e t:TypeId}{L:List Tok}
theorem Hq.NX {z:List Value}{a:ba}{x0:Nat}{kt:Value->Go.Ev.T OB->Nat->Q}(h:Hp nx0 H0 (s::(x0,z,57)::F) H nx)(hz:z.length=17)(hk:∀H' nx',Hp nx0 H0 (s::F) H' nx'->aT P pl X0 (kt a.v H' nx') nx0 H0 R):
 aT P pl X0 (ao (aj P H nx 57 (some (ptr x0)) (some a.v)) λ_ H nx=>aa (ae P H 57 (some (ptr x0))) (λx=>bG P 57 x H nx kt) .bad) nx0 H0 R:=
 Hq.fin (G:=[]) h eT iA mO hz a.len (a.fw a.v (by simp)).2.1 a.fz (by omega) hk
theorem ba.NY {c:dp}:fC 0 [(4,42),(8,41),(9,42),(10,24),(11,48),(12,49),(14,50),(16,53)] (.agg ⟨[i64 4,i64 0,i64 0,aE [],aG,i64 0,i64 0,aE [],aG,aG,aG,aG,aG,aE [],aG,aE c.s,jx c.arg]⟩) (ba.v (.mk 4 kC lz [] gr c)) []:=
 ba.j3 jE vE jE qV vF vG vH (cG.row eI) (ba.bw _)
theorem Ey (k:Int)(c:dp):aC P 57 (some [(0,i64 k),(5,c.v)])=some (.agg ⟨[i64 k,i64 0,i64 0,aE [],aG,i64 0,i64 0,aE [],aG,aG,aG,aG,aG,aE [],aG,aE c.s,jx c.arg]⟩):=by
 rw[dp.bw];exact Hm ..
abbrev xn (x:Data):Value:=ba.v (.mk 3 kC lz [] x kD)
theorem Qe (hL:L.length<=100000){p:PS}(hd:bo 103 L xn p.data)(hc:bo 104 L dp.v p.fY)(hb:bo 105 L m8 p.bind):bo 60 L m8 (vA L p):=by
 intro nx0 nx H0 H bp F k o ho h;unfold vA at ho;rw[Q4];refine Hq.alloc dt h λx0 H1 aJ h1=> ?_;refine Sq.take hL h1 (λhi H2 nx2 h2=> ?_) (λhi H2 nx2 h2=> ?_)
 . rw[if_pos hi]at ho;simp only[af];refine Sq.call hd rfl h2 ho λa k' H3 nx3 _ ho h3=> ?_;exact Hq.NX (a:= .mk 3 kC lz [] a kD) h3 rfl λH9 nx9 h9=>End.ret ho rfl h9
 rw[if_neg (by rw[hi];simp)]at ho;simp only[af];refine Sq.take hL h2 (λhi H3 nx3 h3=> ?_) (λhi H3 nx3 h3=> ?_)
 . rw[if_pos hi]at ho;simp only[af];refine Sq.call hc rfl h3 ho λa k' H4 nx4 _ ho h4=> ?_;simp only[af,Ey];exact Hq.fin (G:=[]) h4 eT iA mO rfl rfl rfl ba.NY (by omega) λH9 nx9 h9=>End.ret ho rfl h9
 . rw[if_neg (by rw[hi];simp),<- mj (p.bind k)]at ho;simp only[af];refine Sq.call hb rfl h3 ho λa k' H4 nx4 _ ho h4=> ?_;unfold m8;simp only[af,Fc,Fe];exact Hq.NX h4 rfl λH9 nx9 h9=>End.ret ho rfl h9
end
section
variable {nx0 nx nx' bp k:Nat}{H0 H H':T OB}{F A B G G':List Bx}{s:Bx}{R:Go.Ev.Out->T OB->Nat->Prop}{b:Nat}{l:List Value}{e t:TypeId}{L:List Tok}
theorem qW (f:Value->Go.Ev.T OB->Nat->(Value->Go.Ev.T OB->Nat->Q)->Q)(v:Value):∀(vs:List Value) (H:Go.Ev.T OB) (nx:Nat) (kt:List Value->Go.Ev.T OB->Nat->Q),je f (vs++[v]) H nx kt=je f vs H nx λus H nx=>f v H nx λu H nx=>kt (us++[u]) H nx
 | [],H,nx,kt=>rfl
 | w::vs,H,nx,kt=>by
   show(f w H nx λw H nx=>je f (vs++[v]) H nx λl H nx=>kt (w::l) H nx)=f w H nx λw H nx=>je f vs H nx λl H nx=>f v H nx λu H nx=>kt ((w::l)++[u]) H nx;congr 1;funext w H nx;exact qW f v vs H nx _
theorem gX.snoc {n:Nat}{offs:List (Nat×TypeId)}{vs us:List Value}{v u:Value}(h:gX n offs vs us [])(h1:fC n offs v u []):gX n offs (vs++[v]) (us++[u]) []:=λd hd nx0 nx H0 H s B k R hh hk=>by
 rw[qW];exact h d hd nx0 nx H0 H s B _ R hh λH' nx' h'=>h1 d hd nx0 nx' H0 H' s B _ R h' hk
theorem Ez (k:Int)(c:aQ):aC P 57 (some [(0,i64 k),(2,c.v)])=some (.agg ⟨[i64 k,i64 0,i64 0,aE [],aG,i64 c.k,i64 c.n,aE c.s,ft c.l,cM c.p,cX c.d,aG,aG,aE [],aG,aE [],aG]⟩):=by
 rw[aQ.bw];exact Hk ..
theorem ba.NZ {c:aQ}:fC 0 [(4,42),(8,41),(9,42),(10,24),(11,48),(12,49),(14,50),(16,53)] (.agg ⟨[i64 5,i64 0,i64 0,aE [],aG,i64 c.k,i64 c.n,aE c.s,ft c.l,cM c.p,cX c.d,aG,aG,aE [],aG,aE [],aG]⟩) (ba.v (Gy c)) []:=
 ba.j3 jE (cG.row eh) (cG.row dz) (cG.row fq) vF vG vH vI (ba.bw _)
abbrev pG:List (Nat×TypeId):=[(4,42),(8,41),(9,42),(10,24),(11,48),(12,49),(14,50),(16,53)]
theorem EA {vs:List Value}{ds:List ba}{sl:Value}{kt:Value->Go.Ev.T OB->Nat->Q}(hG:Gw true 17 57 vs sl G)(hL:gX 0 pG vs (ds.map ba.v) [])(hl:vs.length=ds.length)(h:Hp nx0 H0 (s::(G++F)) H nx)(hk:∀H' nx',Hp nx0 H0 (s::F) H' nx'->aT P pl X0 (kt (cX ds) H' nx') nx0 H0 R):aT P pl X0 (bG P 24 sl H nx kt) nx0 H0 R:=by
 have e:bG P 24 sl H nx kt=ij P 100000 24 sl H nx kt:=by
  unfold bG;rcases hG.2 with⟨_,rfl,_⟩ | ⟨b,c,rfl,_⟩<;>rfl
 rw[e];exact(cG.gw (t:=24) fq eT iA rfl mO hG hL (λu hu=>by obtain⟨x,_,rfl⟩:=List.mem_map.1 hu;exact x.len) (λq=>by rw[q]at hl;have:=List.length_eq_zero_iff.1 hl.symm;rw[this];rfl)) 100000 (by omega) nx0 nx H0 H s F kt R h hk
theorem N0 (hLL:L.length<=100000):∀(m:Nat),(∀j,j<m->bo 60 L m8 (ps L j).dec)->(∀j,j<m->bo 61 L aQ.v (ps L j).exp)->∀(ds:List ba) (vs:List Value) (k:Nat) (sl:Value) (G:List Bx) (o:gL (List ba)) (nx:Nat) (H:Go.Ev.T OB),ds.length+m<=90010->Gw true 17 57 vs sl G->gX 0 pG vs (ds.map ba.v) []->vs.length=ds.length->
 (ps L m).bX ds k=some o->Hp nx0 H0 (ca bp L k::(G++F)) H nx->aT P pl X0 (.jump (zZ (ptr bp) sl H nx)) nx0 H0 (End nx0 H0 bp L F cX o)
 | 0,_,_,ds,vs,k,sl,G,o,nx,H,hm,hG,hL,hl,ho,h=>by cases ho
 | m+1,hd,he,ds,vs,k,sl,G,o,nx,H,hm,hG,hL,hl,ho,h=>by
   have ho:mT L (ps L m) ds k=some o:=ho;unfold mT at ho;have J14:∀(cs:List Value) (d:ba) (k' x1 nx2:Nat) (H2:Go.Ev.T OB),cs.length=17->cs.all au=true->fC 0 pG (.agg ⟨cs⟩) d.v []->(ps L m).bX (ds++[d]) (skip L [59] k')=some o->Hp nx0 H0 (ca bp L k'::(x1,cs,57)::(G++F)) H2 nx2->aT P pl X0 (.jump (rV (ptr bp) sl (ptr x1) H2 nx2)) nx0 H0 (End nx0 H0 bp L F cX o):=by
    intro cs d k' x1 nx2 H2 hc h1 hz ho2 h2;refine Wq.jmp (Km ..) (λ_=>rfl) ?_;simp only[af,Jq (h2.at_ 1 rfl) hc];refine Hq.AM cs hc h2 λx H3 nx3 h3=> ?_;refine Hq.add [_] (v:= .agg ⟨cs⟩) fq eT (Jo (by omega)) (by omega) (λv hv=>by rw[List.mem_singleton]at hv;subst hv;exact⟨hc,h1,⟨_,rfl⟩⟩) hG h3 λsl' G' H4 nx4 hG' h4=> ?_;refine Sq.skip hLL (Hp.lx h4) λbb H5 nx5 h5=> ?_;simp only[af];exact N0 hLL m (λj hj=>hd j (by omega)) (λj hj=>he j (by omega)) (ds++[d]) (vs++[.agg ⟨cs⟩]) _ sl' G' o nx5 H5 (by rw[List.length_append];simp;omega) hG' (by rw[List.map_append];exact hL.snoc hz) (by simp[hl]) ho2 h5
   refine Wq.jmp (MK ..) (λ_=>rfl) ?_;refine Sq.now h λH1 aJ h1=> ?_;simp only[af];refine Wq.bK (λhi=> ?_) (λhi=> ?_)
   . have hne:¬(tk L k).k=0:=by simpa using hi
     rw[if_neg hne]at ho;refine Sq.call (hd m (Nat.lt_succ_self m)) rfl h1 ho λd k' H2 nx2 _ ho h2=> ?_;unfold m8;simp only[af,Fc,Fe];refine Hq.alloc dt h2 λx1 H3 nx3 h3=> ?_;refine Hq.set [_] h3 eT rfl (d.getD w7).len ((d.getD w7).fw (d.getD w7).v (by simp)).2.1 λH4 h4=> ?_
     cases d with
     | some d=>
       simp only[af,Option.isSome_some,Bool.not_true];exact J14 _ d k' x1 _ H4 d.len (d.fw d.v (by simp)).2.1 d.fz ho h4
     | none=>
       simp only[af,Option.isSome_none,Bool.not_false];refine Sq.call (he m (Nat.lt_succ_self m)) rfl h4 ho λc k2 H5 nx5 _ ho h5=> ?_;simp only[af,Ez];refine Hq.set [_] h5 eT (w7.len) rfl rfl λH6 h6=> ?_
       exact J14 _ (Gy c) k2 x1 _ H6 rfl rfl ba.NZ ho h6
   . have h0:(tk L k).k=0:=by simpa using hi
     rw[if_pos h0]at ho;exact EA hG hL hl h1 λH9 nx9 h9=>End.ret ho rfl h9
end
section
variable {nx0:Nat}{H0:T OB}
variable {fr:Nat->List Value->TypeId->Prop}{bp:Nat}{l0:List Tok}{b0:Bool}{ok:Bool}{ts:List Tok}{n nx:Nat}{H:T OB}{R:Value->T OB->Nat->Prop}
def N1 {α:Type}(tf:Bool->α->List Tok):Bool->List α->List Tok
 | _,[]=>[]
 | b,a::l=>tf b a++N1 tf false l
def Qf {α:Type}(s:List UInt8)(f:α->List Tok):Bool->α->List Tok:=λb a=>(if b=true then[]else[Rh s])++f a
end
section
variable {nx0:Nat}{H0:T OB}
variable {fr:Nat->List Value->TypeId->Prop}{bp:Nat}{l0:List Tok}{b0:Bool}{ok:Bool}{ts:List Tok}{n nx:Nat}{H:T OB}{R:Value->T OB->Nat->Prop}
def dQ (s:List UInt8)(q:List (List Tok)):List Tok:=N1 (Qf s id) true q
end
def Qg (u:Nat)(s:List UInt8):List UInt8:=if u<10 then(48+u).toUInt8::s else Qg (u/10) ((48+u%10).toUInt8::s)
termination_by u
decreasing_by omega
def Ru (n:Int):List UInt8:=if n<0 then 45::Qg n.natAbs []else Qg n.natAbs []
def IK (r:List UInt8):List Value:=List.replicate (20-r.length) (.int .u8 0)++pN r
def hex:List UInt8:=[48,49,50,51,52,53,54,55,56,57,65,66,67,68,69,70]
def hx (n:Nat):UInt8:=hex.getD n 0
def qc (c:UInt8):List UInt8:=if c.toNat=34\/c.toNat=92 then[92,c]else if c.toNat=10 then[92,110]else if c.toNat=9 then[92,116]else if c.toNat<32\/126<c.toNat then[92,120,hx (c.toNat/16),hx (c.toNat%16)]else[c]
def qs (l:List UInt8):List UInt8:=l.flatMap qc
def quote (l:List UInt8):List UInt8:=34::(qs l++[34])
section
variable {nx0 nx:Nat}{H0 H:T OB}{R:Go.Ev.Out->T OB->Nat->Prop}
def Hu (t:Tok):List UInt8:=if t.k=1 then Ru t.n else if t.k=2 then quote t.s else t.s
def tw:List Tok->Nat
 | []=>0
 | t::ts=>(Hu t).length+1+tw ts
end
section
variable {nx0 nx:Nat}{H0 H:T OB}{R:Go.Ev.Out->T OB->Nat->Prop}
theorem Qh {n:Nat}(h:n<=1048576):bB P 9 1 n=true:=by
 have:bB P 9 1 n=(Nat.ble n 1048576&&true):=by kernel_rfl
 rw[this,Nat.ble_eq_true_of_le h];rfl
theorem Qi (a:ByteArray):Instr.fill (λi=>some (i*1,1)) (bz [Value.string ⟨⟨[]⟩⟩] (1*1)) [(0,.string a)]=some ⟨[.string a]⟩:=by kernel_rfl
end
section
variable {nx0 nx nx' bp k:Nat}{H0 H H':T OB}{F A B G G':List Bx}{s:Bx}{R:Go.Ev.Out->T OB->Nat->Prop}{b:Nat}{l:List Value}{e t:TypeId}{L:List Tok}
theorem AQ (w:List UInt8):mg false 1 [aE w]:=λv hv=>by
 rw[List.mem_singleton]at hv;subst hv;exact⟨rfl,rfl,rfl,rfl⟩
theorem Hq.tz (w:List UInt8){kt:Value->Go.Ev.T OB->Nat->Q}(h:Hp nx0 H0 (s::F) H nx)(hk:∀b H' nx',Hp nx0 H0 (s::(b,[aE w],9)::F) H' nx'->aT P pl X0 (kt (gM b 1 1) H' nx') nx0 H0 R):aT P pl X0 (ao (aq P H nx 49 1 (some [(0,aE w)])) kt) nx0 H0 R:=
 Hq.row jr iC sX rfl (Qi _) h hk
theorem Hq.N2 (A:List Bx){l:List (List UInt8)}{w:List UInt8}{sl:Value}{kt:Value->Go.Ev.T OB->Nat->Q}(hl:l.length<=1000000)(hG:Gw false 1 9 (l.map aE) sl G)(h:Hp nx0 H0 (s::(b,[aE w],9)::(A++(G++B))) H nx)
 (hk:∀sl' G' H' nx',Gw false 1 9 ((l++[w]).map aE) sl' G'->Hp nx0 H0 (s::(A++(G'++B))) H' nx'->aT P pl X0 (kt sl' H' nx') nx0 H0 R):aT P pl X0 (ao (bt P H nx [49,49] (some [sl,gM b 1 1])) kt) nx0 H0 R:=
 Hq.add A (v:=aE w) jr iC (Qh (by rw[List.length_map];omega)) (by rw[List.length_map];omega) (AQ w) hG h λsl' G' H' nx' hG' h'=>hk sl' G' H' nx' (by rw[List.map_append];exact hG') h'
theorem Gw.Qj {l:List (List UInt8)}{sl:Value}(hG:Gw false 1 9 (l.map aE) sl G):cG 1 49 sl (gn l) G:=
 cG.gw jr iC mK rfl PU hG (gX.id λv hv=>by obtain⟨x,_,rfl⟩:=List.mem_map.1 hv;exact fC.aE _) (λu hu=>by obtain⟨x,_,rfl⟩:=List.mem_map.1 hu;rfl) id
theorem Gw.N3 (w:List UInt8):Gw false 1 9 ([w].map aE) (gM b 1 1) [(b,[aE w],9)]:=Gw.one (vs:=[aE w]) (AQ w) rfl (by decide)
theorem ba.Lu {vs:List (List UInt8)}{w:List UInt8}{cl:List dp}{sv sc:Value}(hv:Gw false 1 9 (vs.map aE) sv G)(hc:Gw true 2 55 (cl.map dp.v) sc G'):
 fC 1 pG (.agg ⟨[i64 3,i64 0,i64 0,aE [],aG,i64 0,i64 0,aE [],aG,aG,aG,aG,sv,aE w,sc,aE [],aG]⟩) (xn ⟨vs,w,cl⟩) (G++G'):=by
 show fC 1 pG _ (ba.v _) _;rw[ba.bw];have:=ed.cons (p:=(4,42)) (cs:=[i64 3,i64 0,i64 0,aE [],aG,i64 0,i64 0,aE [],aG,aG,aG,aG,sv,aE w,sc,aE [],aG]) rfl (jE (n:=1)) (ed.cons (p:=(8,41)) rfl vE (ed.cons (p:=(9,42)) rfl jE (ed.cons (p:=(10,24)) rfl qV (ed.cons (p:=(11,48)) rfl vF (ed.cons (p:=(12,49)) rfl hv.Qj (ed.cons (p:=(14,50)) rfl hc.P8 (ed.cons (p:=(16,53)) rfl vI ed.nil)))))));simp only[List.append_nil,List.nil_append]at this;exact fC.of this
theorem JD (hL:L.length<=100000){vs:List (List UInt8)}{w:List UInt8}{sv:Value}(hv:Gw false 1 9 (vs.map aE) sv G'):∀(m:Nat),(∀j,j<m->bo 104 L dp.v (ps L j).fY)->∀(l:List dp) (k:Nat) (sl:Value) (G:List Bx) (o:gL Data) (z:List Value) (x0 x1 nx:Nat) (H:Go.Ev.T OB),l.length+m<=90010->Gw true 2 55 (l.map dp.v) sl G->z.length=17->
 bd ((ps L m).gI l k) (λl k=>yes ⟨vs,w,l⟩ k)=some o->Hp nx0 H0 (ca bp L k::(x1,[sv,aE w,sl],52)::(x0,z,57)::(G'++(G++F))) H nx->
 aT P pl X0 (.jump (lh (ptr bp) (ptr x0) (ptr x1) H nx)) nx0 H0 (End nx0 H0 bp L F xn o)
 | 0,_,l,k,sl,G,o,z,x0,x1,nx,H,hm,hG,hz,ho,h=>by cases ho
 | m+1,hp,l,k,sl,G,o,z,x0,x1,nx,H,hm,hG,hz,ho,h=>by
   have ho:bd (gu L (ps L m) l k) (λl k=>yes ⟨vs,w,l⟩ k)=some o:=ho;unfold gu at ho;refine Wq.jmp (FW ..) (λ_=>rfl) ?_;refine Sq.take hL h (λhi H1 aJ h1=> ?_) (λhi H1 aJ h1=> ?_)
   . rw[if_pos hi,fT]at ho;simp only[af,ax (off:=2) (u:=sl) (h1.at_ 1 rfl) wK rfl];refine Sq.call (hp m (Nat.lt_succ_self m)) rfl h1 ho λc k' H2 nx2 _ ho2 h2=> ?_;simp only[af,ax (off:=2) (u:=sl) (h2.at_ 1 rfl) wK rfl,bf];refine Hq.AK c.cs c.len h2 λx H3 nx3 h3=> ?_;simp only[af,ax (off:=2) (u:=sl) (h3.at_ 2 rfl) wK rfl,bf];refine Hq.Ny (_::_::G') (x:=c) (by omega) hG h3 λsl' G1 H4 nx4 hG1 h4=> ?_;refine Hq.put [_] h4 II (by rcases hG1.2 with⟨_,rfl,_⟩ | ⟨b,c,rfl,_⟩<;>rfl) (dV hG1) (by simp) rfl λH5 h5=> ?_;exact JD hL hv m (λj hj=>hp j (by omega)) (l++[c]) k' sl' G1 o z x0 x1 nx4 H5 (by rw[List.length_append];simp;omega) hG1 hz ho2 h5
   . rw[if_neg (by rw[hi];simp),dO]at ho;have hb:aC P 57 (some [(0,i64 3),(4,.agg ⟨[sv,aE w,sl]⟩)])=some (.agg ⟨[i64 3,i64 0,i64 0,aE [],aG,i64 0,i64 0,aE [],aG,aG,aG,aG,sv,aE w,sl,aE [],aG]⟩):=Hl ..;simp only[af,NF (h1.at_ 1 rfl) rfl,hb];have h5:Hp nx0 H0 (ca bp L k::(x0,z,57)::((G'++G)++F)) H1 aJ:=by
      rw[List.append_assoc];exact(Hp.mv [_] h1).sub (by simp)
     exact Hq.fin h5 eT iA mO hz rfl (by simp[dV hG,dV hv]) (ba.Lu hv hG) (by omega) λH9 nx9 h9=>End.ret ho rfl h9
theorem EB (hL:L.length<=100000){n:Nat}(hn:n<=90000)(hp:∀j,j<=n->bo 104 L dp.v (ps L j).fY){vs:List (List UInt8)}{sv:Value}{z:List Value}{x0 x1:Nat}{o:gL Data}(hv:Gw false 1 9 (vs.map aE) sv G')(hz:z.length=17)
 (ho:b_ L 3 k (λt k=>bl L [61] k λk=>bd ((ps L n).fY k) λc k=>bd (gu L (ps L n) [c] k) λl k=>yes (Data.mk vs t.s l) k)=some o) (h:Hp nx0 H0 (ca bp L k::(x1,[sv,aE [],aG],52)::(x0,z,57)::(G'++F)) H nx):
 aT P pl X0 (a4 P pl (nm (ptr bp) (ptr x0) (ptr x1) H nx)) nx0 H0 (End nx0 H0 bp L F xn o):=by
 rw[z8];refine Sq.word (by decide) hL h ho λH1 aJ _ ho h1=> ?_;simp only[af];refine Hq.put [_] h1 iC rfl rfl (by simp) rfl λH2 h2=> ?_;refine Sq.iT hL h2 ho λH3 nx3 _ ho h3=> ?_;refine Sq.call (hp n (Nat.le_refl n)) rfl h3 ho λc k' H4 nx4 _ ho h4=> ?_;refine Hq.AK c.cs c.len h4 λx H5 nx5 h5=> ?_;refine Hq.put [_,_] h5 II rfl rfl (by simp) rfl λH6 h6=> ?_;have h7:Hp nx0 H0 (ca bp L k'::(x1,[sv,aE (tk L k).s,gM x 1 1],52)::(x0,z,57)::(G'++([(x,c.cs,55)]++F))) H6 nx5:=h6.perm (List.Perm.cons _ ((List.Perm.swap _ _ _).trans (List.Perm.cons _ ((List.Perm.swap _ _ _).trans (List.Perm.cons _ List.perm_middle.symm)))));exact JD hL hv (n+1) (λj hj=>hp j (by omega)) [c] k' (gM x 1 1) [(x,c.cs,55)] o z x0 x1 nx5 H6 (show 1+(n+1)<=90010 by omega) (Gw.m7 c.fw) hz ho h7
theorem JE (hL:L.length<=100000){n:Nat}(hn:n<=90000)(hp:∀j,j<=n->bo 104 L dp.v (ps L j).fY):∀(m:Nat) (l:List (List UInt8)) (k:Nat) (sl:Value) (G:List Bx) (o:gL Data) (z:List Value) (x0 x1 nx:Nat) (H:Go.Ev.T OB),l.length+m<=90010->Gw false 1 9 (l.map aE) sl G->z.length=17->
 bd ((ps L m).fP l k) (λl k=>bl L [41] k λk=>b_ L 3 k λt k=>bl L [61] k λk=>bd ((ps L n).fY k) λc k=>bd (gu L (ps L n) [c] k) λcl k=>yes (Data.mk l t.s cl) k)=some o->Hp nx0 H0 (ca bp L k::(x1,[sl,aE [],aG],52)::(x0,z,57)::(G++F)) H nx->
 aT P pl X0 (.jump (nn (ptr bp) (ptr x0) (ptr x1) H nx)) nx0 H0 (End nx0 H0 bp L F xn o)
 | 0,l,k,sl,G,o,z,x0,x1,nx,H,hm,hG,hz,ho,h=>by cases ho
 | m+1,l,k,sl,G,o,z,x0,x1,nx,H,hm,hG,hz,ho,h=>by
   have ho:bd (mi L (ps L m) l k) (λl k=>bl L [41] k λk=>b_ L 3 k λt k=>bl L [61] k λk=>bd ((ps L n).fY k) λc k=>bd (gu L (ps L n) [c] k) λcl k=>yes (Data.mk l t.s cl) k)=some o:=ho;unfold mi at ho;refine Wq.jmp (FV ..) (λ_=>rfl) ?_;refine Sq.take hL h (λhi H1 aJ h1=> ?_) (λhi H1 aJ h1=> ?_)
   . rw[if_pos hi]at ho;have ho:b_ L 5 (k+1) (λt k=>bd ((ps L m).fP (l++[t.s]) k) (λl k=>bl L [41] k λk=>b_ L 3 k λt k=>bl L [61] k λk=>bd ((ps L n).fY k) λc k=>bd (gu L (ps L n) [c] k) λcl k=>yes (Data.mk l t.s cl) k))=some o:=by
      rw[<- ho];unfold b_;split<;>rfl
     simp only[af,ax (off:=0) (u:=sl) (h1.at_ 1 rfl) rN rfl];refine Sq.word (by decide) hL h1 ho λH2 nx2 _ ho2 h2=> ?_;simp only[af,ax (off:=0) (u:=sl) (h2.at_ 1 rfl) rN rfl,bf];refine Hq.tz (tk L (k+1)).s h2 λx H3 nx3 h3=> ?_;simp only[af,ax (off:=0) (u:=sl) (h3.at_ 2 rfl) rN rfl,bf];refine Hq.N2 [_,_] (w:=(tk L (k+1)).s) (by omega) hG h3 λsl' G1 H4 nx4 hG1 h4=> ?_;refine Hq.put [_] h4 C4 (by rcases hG1.2 with⟨_,rfl,_⟩ | ⟨b,c,rfl,_⟩<;>rfl) (dV hG1) (by simp) rfl λH5 h5=> ?_;exact JE hL hn hp m (l++[(tk L (k+1)).s]) (k+1+1) sl' G1 o z x0 x1 nx4 H5 (by rw[List.length_append];simp;omega) hG1 hz ho2 h5
   . rw[if_neg (by rw[hi];simp),dO]at ho;simp only[af];refine Sq.iT hL h1 ho λH2 nx2 _ ho h2=> ?_;have:=EB hL hn hp hG hz ho h2;rw[z8]at this;exact this
theorem N4 (hL:L.length<=100000){n:Nat}(hn:n<=90000)(hp:∀j,j<=n->bo 104 L dp.v (ps L j).fY):bo 103 L xn (ps L (n+1)).data:=by
 intro nx0 nx H0 H bp F k o ho h;have ho:mS L (ps L n) k=some o:=ho;unfold mS pE at ho;rw[O4];refine Hq.alloc dt h λx0 H1 aJ h1=> ?_;refine Hq.alloc FO h1 λx1 H2 nx2 h2=> ?_;refine Sq.now h2 λH3 nx3 h3=> ?_;refine Sq.GB h3 λH4 nx4 h4=> ?_;simp only[af];refine Wq.ite (λhi=> ?_) (λhi=> ?_)
 . rw[if_pos hi,dO]at ho;simp only[af,pk h4,dX hL (eV (show(tk L k).k≠0 by omega))];refine de h4 λH5 h5=> ?_;refine Hq.tz (tk L k).s h5 λx H6 nx6 h6=> ?_;refine Hq.put [_,_] h6 C4 rfl rfl (by simp) rfl λH7 h7=> ?_;exact Wq.jump (λ_=>rfl) (EB hL hn hp (G':=[(x,[aE (tk L k).s],9)]) (Gw.N3 _) rfl ho (Hp.tx h7))
 rw[if_neg hi]at ho;refine Sq.take hL h4 (λhi H5 nx5 h5=> ?_) (λhi H5 nx5 h5=> ?_)
 . rw[if_pos hi]at ho;have ho:b_ L 5 (k+1) (λt k=>bd (mi L (ps L n) [t.s] k) λl k=>bl L [41] k λk=>b_ L 3 k λt k=>bl L [61] k λk=>bd ((ps L n).fY k) λc k=>bd (gu L (ps L n) [c] k) λcl k=>yes (Data.mk l t.s cl) k)=some o:=by
    rw[<- ho];unfold b_;split
    . rw[fT];show bd (mi L (ps L n) [(tk L (k+1)).s] (k+1+1)) _=bd (mi L (ps L n) [(tk L (k+1)).s] (k+1+1)) _;refine congrArg (bd (mi L (ps L n) [(tk L (k+1)).s] (k+1+1))) ?_;funext l k;unfold bl;split<;>rfl
    . rfl
   simp only[af];refine Sq.word (by decide) hL h5 ho λH6 nx6 _ ho h6=> ?_;simp only[af];refine Hq.tz (tk L (k+1)).s h6 λx H7 nx7 h7=> ?_;refine Hq.put [_,_] h7 C4 rfl rfl (by simp) rfl λH8 h8=> ?_;exact JE hL hn hp (n+1) [(tk L (k+1)).s] (k+1+1) (gM x 1 1) [(x,[aE (tk L (k+1)).s],9)] o _ x0 x1 nx7 H8 (show 1+(n+1)<=90010 by omega) (Gw.N3 _) rfl ho (Hp.tx h8)
 . rw[if_neg (by rw[hi];simp),dO]at ho;simp only[af];exact Wq.jump (λ_=>rfl) (EB hL hn hp (G':=[]) (Gw.nil _ _ _) rfl ho h5)
end
section
variable {L:List Tok}
structure Qk (L:List Tok)(p:PS):Prop where
 exp:bo 61 L aQ.v p.exp
 g_:Ho L p.g_
 bin:Ep L p.bin
 un:bo 151 L aQ.v p.un
 atom:bo 178 L aQ.v p.atom
 lt:bo 188 L aQ.v p.lt
 pat:bo 148 L bg.v p.pat
 bQ:bo 177 L bg.v p.bQ
 fu:bo 147 L bj.v p.fu
 post:bo 175 L bj.v p.post
 fY:bo 104 L dp.v p.fY
 bind:bo 105 L m8 p.bind
 fn:bo 149 L Fn.v p.fn
 dec:bo 60 L m8 p.dec
 data:bo 103 L xn p.data
theorem bo.none {α:Type}{f:FuncId}{vf:α->Value}:bo f L vf (λ_=> .none):=λnx0 nx H0 H bp F k o ho _=>by cases ho
theorem Lv (hL:L.length<=100000):∀n,n<=90001->∀j,j<=n->Qk L (ps L j)
 | 0,_,j,hj=>by
   have:j=0:=by omega
   subst this;exact⟨bo.none,λnx0 nx H0 H bp F G k o kk l sl hl hG ho h=>(by cases ho),λlv nx0 nx H0 H bp F k o hl ho h=>(by cases ho),bo.none,bo.none,bo.none,bo.none,bo.none,bo.none,bo.none,bo.none,bo.none,bo.none,bo.none,bo.none⟩
 | n+1,hn,j,hj=>by
   have ih:=Lv hL n (by omega)
   by_cases hjn:j<=n
   . exact ih j hjn
   . have:j=n+1:=by omega
     subst this;have i:=ih n (Nat.le_refl n);have hn':n<=90000:=by omega
     exact {
      exp:=Qa hL i.exp i.g_ λnx0 nx H0 H bp F k o=>i.bin 0 nx0 nx H0 H bp F k o (by omega)
      g_:=NN hL hn' (λj hj=>(ih j hj).pat) (λj hj=>(ih j hj).exp)
      bin:=NO hL hn' (λj hj=>(ih j hj).bin) i.un
      un:=NP hL hn' (λj hj=>(ih j hj).atom) i.un
      atom:=NR hL hn' (λj hj=>(ih j hj).exp) i.lt
      lt:=NS hL hn' (λj hj=>(ih j hj).exp) (λj hj=>(ih j hj).bind)
      pat:=NK hL i.bQ i.pat
      bQ:=NM hL hn' (λj hj=>(ih j hj).pat)
      fu:=NH hL hn' (λj hj=>(ih j hj).post) i.fu
      post:=NI hL hn' (λj hj=>(ih j hj).fu)
      fY:=NJ hL i.fu
      bind:=NW hL hn' i.pat i.exp (λj hj=>(ih j hj).fn)
      fn:=NT hL hn' (λj hj=>(ih j hj).bQ) i.exp
      dec:=Qe hL i.data i.fY i.bind
      data:=N4 hL hn' (λj hj=>(ih j hj).fY) }
theorem Ql (hL:L.length<=100000){n:Nat}(hn:n<=90000):bo 35 L cX ((ps L n).bX []):=by
 intro nx0 nx H0 H bp F k o ho h;rw[QQ];exact N0 hL n (λj hj=>(Lv hL n (by omega) j (by omega)).dec) (λj hj=>(Lv hL n (by omega) j (by omega)).exp) [] [] k aG [] o nx H (by simp;omega) (Gw.nil _ _ _) gX.nil rfl ho h
end
def isTrue (r:Option Rt):Bool:=match r with
 | some ⟨.ret (.bool true),false,_,_⟩=>true
 | _=>false
def QE:ig:=⟨[],[],[],[],false⟩
theorem BL:KL fB .leaf (λH=>isTrue (FD P QE (λ_ _=>none) 1000 (.call 11 [] false none H 11)))=true:=by kernel_rfl
section
variable {nx0 nx nx' bp k:Nat}{H0 H H':T OB}{F A B G G':List Bx}{R:Go.Ev.Out->T OB->Nat->Prop}{b:Nat}{l:List Value}{e t:TypeId}{L:List Tok}
theorem Hq.Lw (A:List Bx){off:Nat}{u:Value}{l':List Value}(h:Hp nx0 H0 (A++(b,l,e)::B) H nx)(hs:a6 P t=some 1)(hc:u.cells.toList=[u])(ho:au u=true)(hn:off<l.length)(hl:l.set off u=l'):
 ∃H',aj P H nx t (some (.pointer (some ⟨b,off,none⟩))) (some u)= .val undef H' nx/\Hp nx0 H0 (A++(b,l',e)::B) H' nx:=by
 obtain⟨o,H',nx',hA,⟨h1,h2,h3⟩,hr⟩:=Hq.put (R:=λo H2 nx2=>o= .ret undef/\nx2=nx/\Hp nx0 H0 (A++(b,l',e)::B) H2 nx) (k:=λv H nx=> .ret ⟨.ret v,false,H,nx⟩) A h hs hc ho hn hl λH' h'=>Wq.kr h'.ag ⟨rfl,rfl,h'⟩;cases he:aj P H nx t (some (.pointer (some ⟨b,off,none⟩))) (some u)with
 | val v H1 aJ=>
   rw[he]at hr;have hr:some (⟨.ret v,false,H1,aJ⟩:Rt)=some ⟨o,false,H',nx'⟩:=hr;cases hr;cases h1;cases h2;exact⟨_,rfl,h3⟩
 | _=>rw[he]at hr;cases hr
theorem Hv {sz:Nat}{x:Value}(hz:bE P e=some l)(hs:a6 P t=some sz)(hl:l.length=sz)(hx:x.cells.toList.length=sz)(hone:x.cells.toList.all au=true)(h:Hp nx0 H0 F H nx):
 ∃H',Hp nx0 H0 F H' (nx+1+1)/\∀k:Go.Ev.T OB->Nat->Q,(ao (aA P H nx e) λp H nx=>dc P H nx t (some p) x k)=k H' (nx+1+1):=by
 refine⟨Ev.set (Ev.set H (Ev.bits nx) (some (cu l e))) (Ev.bits nx) (some .dead),h.cA ((((h.ag.set h.ag.1 _).succ).set h.ag.1 _).succ) (by omega) λb l e hb hi=>(hi.other (by omega) _).other (by omega) _,λk=> ?_⟩;rw[iu hz];have hg:(Ev.set H (Ev.bits nx) (some (cu l e))).get (Ev.bits nx)=some (cu l e):=by rw[Ev.get_at,if_pos rfl]
 show ke ((Ev.set H (Ev.bits nx) (some (cu l e))).get (Ev.bits nx)) (λn _ _=>aa (a6 P t) (λs=>bif Nat.beq 0 0&&(Nat.beq n s&&(Nat.beq x.cells.toList.length s&&x.cells.toList.all au))then
  cJ (Ev.bits nx) (Ev.set H (Ev.bits nx) (some (cu l e))) (some .dead) λH=>Ev.bN (Nat.succ (nx+1)) λn=>k H n else .bad) .bad)=_
 rw[hg];show aa (a6 P t) (λs=>bif Nat.beq 0 0&&(Nat.beq l.length s&&(Nat.beq x.cells.toList.length s&&x.cells.toList.all au))then
  cJ (Ev.bits nx) (Ev.set H (Ev.bits nx) (some (cu l e))) (some .dead) λH=>Ev.bN (Nat.succ (nx+1)) λn=>k H n else .bad) .bad=_
 rw[hs,aN,hl,hx,hone,aY,a5];have e2:Nat.beq sz sz=true:=Nat.beq_refl sz;rw[e2];rfl
theorem aT.cast {q q':Q}(e:q=q')(h:aT P pl X0 q' nx0 H0 R):aT P pl X0 q nx0 H0 R:=e ▸ h
theorem aT.base {q:Q}{aJ:Nat}{H1:T OB}(hA:Ag nx0 H0 aJ H1)(h:aT P pl X0 q aJ H1 R):aT P pl X0 q nx0 H0 λo H nx=>R o H nx/\Ag aJ H1 nx H:=by
 obtain⟨o,H',nx',h1,h2,h3⟩:=h;exact⟨o,H',nx',hA.trans h1,⟨h2,h1⟩,h3⟩
theorem aT.mono {q:Q}{R':Go.Ev.Out->T OB->Nat->Prop}(h:aT P pl X0 q nx0 H0 R)(hR:∀o H nx,Ag nx0 H0 nx H->R o H nx->R' o H nx):aT P pl X0 q nx0 H0 R':=by
 obtain⟨o,H',nx',h1,h2,h3⟩:=h;exact⟨o,H',nx',h1,hR _ _ _ h1 h2,h3⟩
theorem AR {c:Cg}{tm:T Value}{a1 a2 a3:Value}(h:aT P pl X0 (v8 P pl c tm .ret H nx) nx0 H0 R):aT P pl X0 (kK P pl c tm [(34,[a1,a2,a3])] .ret H nx) nx0 H0 R:=by
 obtain⟨o,H',nx',h1,h2,h3⟩:=h;refine⟨o,H',nx',h1,h2,?_⟩;have e1:Go.Ev.F P pl X0 (.call 34 [a1,a2,a3] true none H nx)=some ⟨.ret (.tuple ⟨[]⟩),false,H,nx⟩:=by
  rw[p5,O0];rfl
 show aa (Go.Ev.F P pl X0 (.call 34 [a1,a2,a3] true none H nx)) (λr=>(Me .ret r (kK P pl c tm [])).run (Go.Ev.F P pl X0)) none=_;rw[e1];exact h3
theorem N5 (H:T OB)(a:Int):ah P H .neq 20 true (some (.iface 69 (.agg ⟨[i64 a]⟩))) (some .nilIface)=some (.bool true):=by kernel_rfl
theorem N6 (v:Value):fG P (some (.iface 69 v)) 69 true=some (.tuple ⟨[v,.bool true]⟩):=by kernel_rfl
theorem N7 (H:T OB)(a:Int):ae P H 3 (some (ai (i64 a)))=some (i64 a):=by kernel_rfl
theorem N8 (a:Int):ab P 69 (some (ai (.agg ⟨[i64 a]⟩))) 0=some (ai (i64 a)):=by kernel_rfl
theorem Hw {c:Cg}{tm:T Value}{x1 x2 x3:Nat}{v1 v2 v3:Value}{a:Int}(hh:Hp nx0 H0 ((x1,[v1],24)::(x2,[v2],3)::(x3,[v3],25)::F) H nx)
 (h:∀H' nx',Hp nx0 H0 ((x1,[aG],24)::(x2,[i64 a],3)::(x3,[i64 80],25)::F) H' nx'->aT P pl X0 (v8 P pl c tm .ret H' nx') nx0 H0 R):aT P pl X0 (kK P pl c tm [(34,[ptr x1,ptr x2,ptr x3])] (.eR (iH a)) H nx) nx0 H0 R:=by
 obtain⟨H1,h1,e1⟩:=Hv (x:= .agg ⟨[i64 a]⟩) FP MF rfl rfl rfl hh;obtain⟨H2,e2,h2⟩:=Hq.Lw (t:=24) (off:=0) (u:=aG) (l':=[aG]) [] h1 qN rfl rfl (by simp) rfl;obtain⟨H3,e3,h3⟩:=Hq.Lw (t:=3) (off:=0) (u:=i64 a) (l':=[i64 a]) [_] h2 js rfl rfl (by simp) rfl;obtain⟨H4,e4,h4⟩:=Hq.Lw (t:=25) (off:=0) (u:=i64 80) (l':=[i64 80]) [_,_] h3 zS rfl rfl (by simp) rfl;obtain⟨o,H',nx',g1,g2,g3⟩:=h H4 _ h4;refine⟨o,H',nx',g1,g2,?_⟩;have e12:Go.Ev.F P pl X0 (wM (ptr x1) (ptr x2) (ptr x3) (ai (.agg ⟨[i64 a]⟩)) H1 (nx+1+1))=some ⟨.ret (.tuple ⟨[]⟩),true,H4,nx+1+1⟩:=by
  rw[p5,Kh];show Q.run (Go.Ev.F P pl X0) _=_;simp only[N8,N7,aN,e2,e3,e4,ao,bf,Bool.and_true,na];rfl
 have e0:Go.Ev.F P pl X0 (.call 34 [ptr x1,ptr x2,ptr x3] true (some (iH a)) H nx)=some ⟨.ret (.tuple ⟨[]⟩),true,H4,nx+1+1⟩:=by
  rw[p5,OZ];show Q.run (Go.Ev.F P pl X0) _=_;simp only[N5,N6,aN,oY,na,Fc,Fe,e1,rL,Bool.not_true,oe];exact e12
 show aa (Go.Ev.F P pl X0 (.call 34 [ptr x1,ptr x2,ptr x3] true (some (iH a)) H nx)) (λr=>(Me (.eR (iH a)) r (kK P pl c tm [])).run (Go.Ev.F P pl X0)) none=_;rw[e0];exact g3
end
end
end Go.Proofs.YthjhonhhbddhkaaGreatDoor
