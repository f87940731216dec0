/- Texts of this claim, side by side. -/
import Derived.Test.YthjhonhhbddhkaaGreatDoorG8
import Derived.Test.YthjhonhhbddhkaaGreatDoorG7
namespace Go.Proofs.YthjhonhhbddhkaaGreatDoor
open Go.Ev Go.RowKit
noncomputable section
set_option maxRecDepth 100000
set_option linter.unusedVariables false
set_option linter.unusedSimpArgs false
set_option maxHeartbeats 8000000
section
variable {nx0 nx nx' bp k:Nat}{H0 H H':T OB}{F A B G G':List Bx}{s:Bx}{R:Go.Ev.Out->T OB->Nat->Prop}{b:Nat}{l:List Value}{e t:TypeId}{L:List Tok}
theorem uP {n:Nat}:db n 48 aC (w_ []) []:=(db.nil sh jl).mono (Nat.zero_le n)
theorem zV {n:Nat}:db n 49 aC (gk []) []:=(db.nil fY gT).mono (Nat.zero_le n)
theorem zW {n:Nat}:db n 50 aC (j_ []) []:=(db.nil mm il).mono (Nat.zero_le n)
theorem uQ {n:Nat}:db n 53 aC (fx []) []:=(db.nil ez bR).mono (Nat.zero_le n)
theorem a_.km {kk:Int}{p0 p1 p2 c0 c1 c2 w1 w2:Value}{s0 s1 s2 s3 s4 s5 s6 s7:Value}{d:a_}{r0 r1 r2 r3 r4 r5 r6 r7:Value}{n:Nat}{G4:List Bx}
 (h0:db n 42 s0 r0 []) (h1:db n 41 s1 r1 []) (h2:db n 42 s2 r2 []) (h3:db n 24 s3 r3 []) (h4:db n 48 s4 r4 G4) (h5:db n 49 s5 r5 []) (h6:db n 50 s6 r6 []) (h7:db n 53 s7 r7 [])
 (hd:d.v= .agg ⟨[i64 kk,p0,p1,p2,r0,c0,c1,c2,r1,r2,r3,r4,r5,w1,r6,w2,r7]⟩):gB n [(4,42),(8,41),(9,42),(10,24),(11,48),(12,49),(14,50),(16,53)] (.agg ⟨[i64 kk,p0,p1,p2,s0,c0,c1,c2,s1,s2,s3,s4,s5,w1,s6,w2,s7]⟩) d.v G4:=by
 rw[hd];have:=eW.cons (p:=(4,42)) (cs:=[i64 kk,p0,p1,p2,s0,c0,c1,c2,s1,s2,s3,s4,s5,w1,s6,w2,s7]) rfl h0 (eW.cons (p:=(8,41)) rfl h1 (eW.cons (p:=(9,42)) rfl h2 (eW.cons (p:=(10,24)) rfl h3 (eW.cons (p:=(11,48)) rfl h4 (eW.cons (p:=(12,49)) rfl h5 (eW.cons (p:=(14,50)) rfl h6 (eW.cons (p:=(16,53)) rfl h7 eW.nil)))))));simp only[List.append_nil,List.nil_append]at this;exact gB.of this
theorem zX (k:Int)(a:bh)(c:aH):az P 57 (some [(0,i64 k),(1,a.v),(2,c.v)])=some (.agg ⟨[i64 k,i64 a.k,i64 a.n,aD a.s,cD a.l,i64 c.k,i64 c.n,aD c.s,gm c.l,cD c.p,bQ c.d,aC,aC,aD [],aC,aD [],aC]⟩):=by
 rw[bh.br,aH.br];exact MA ..
theorem MH (a:bh):ae P H 47 (some (ak a.v))=some a.v:=by
 rw[bh.br];exact Hl ..
theorem Hq.xM {a:bh}{kt:Go.Ev.T OB->Nat->Q}(h:Hp nx0 H0 F H nx)(hk:∀H' nx',Hp nx0 H0 F H' nx'->aO P pl X0 (kt H' nx') nx0 H0 R):aO P pl X0 (ao (au P H nx 47) λp H nx=>bF P H nx 47 (some p) a.v kt) nx0 H0 R:=Hq.var cS cf rfl a.len (fE.of a).one h hk
theorem a_.O3 {a:bh}{c:aH}:gB 0 [(4,42),(8,41),(9,42),(10,24),(11,48),(12,49),(14,50),(16,53)] (.agg ⟨[i64 1,i64 a.k,i64 a.n,aD a.s,cD a.l,i64 c.k,i64 c.n,aD c.s,gm c.l,cD c.p,bQ c.d,aC,aC,aD [],aC,aD [],aC]⟩) (a_.v (.mk 1 a c [] gO jW)) []:=
 a_.km (db.row er) (db.row fu) (db.row er) (db.row gu) uP zV zW uQ (a_.br _)
theorem a_.O4 {l:List Fn}{sl:Value}(hG:Gw true 8 65 (l.map Fn.v) sl G):gB 1 [(4,42),(8,41),(9,42),(10,24),(11,48),(12,49),(14,50),(16,53)] (.agg ⟨[i64 2,i64 0,i64 0,aD [],aC,i64 0,i64 0,aD [],aC,aC,aC,sl,aC,aD [],aC,aD [],aC]⟩) (a_.v (.mk 2 jV ke l gO jW)) G:=
 a_.km jr uO jr nK hG.Xu zV zW uQ (a_.br _)
theorem a_.JN:gB 0 [(4,42),(8,41),(9,42),(10,24),(11,48),(12,49),(14,50),(16,53)] (.agg ⟨[i64 0,i64 0,i64 0,aD [],aC,i64 0,i64 0,aD [],aC,aC,aC,aC,aC,aD [],aC,aD [],aC]⟩) kU.v []:=
 a_.km jr uO jr nK uP zV zW uQ (a_.br _)
theorem O5 (hL:L.length<=100000):∀(m:Nat),(∀j,j<m->bL 149 L Fn.v (ps L j).fn)->∀(l:List Fn) (k:Nat) (sl:Value) (G:List Bx) (o:iZ (Option a_)) (z:List Value) (x0 x1 nx:Nat) (H:Go.Ev.T OB),l.length+m<=90010->Gw true 8 65 (l.map Fn.v) sl G->z.length=17->
 bd ((ps L m).fA l k) (λl k=>yes (some (.mk 2 jV ke l gO jW)) k)=some o->Hp nx0 H0 (cQ bp L k::(x1,[i64 2,i64 0,i64 0,aD [],aC,i64 0,i64 0,aD [],aC,aC,aC,sl,aC,aD [],aC,aD [],aC],57)::(x0,z,57)::(G++F)) H nx->
 aO P pl X0 (.jump (pR (ptr bp) (ptr x0) (ptr x1) H nx)) nx0 H0 (End nx0 H0 bp L F gZ o)
 | 0,_,l,k,sl,G,o,z,x0,x1,nx,H,hm,hG,hz,ho,h=>by cases ho
 | m+1,hp,l,k,sl,G,o,z,x0,x1,nx,H,hm,hG,hz,ho,h=>by
   have ho:bd (tM L (ps L m) l k) (λl k=>yes (some (.mk 2 jV ke l gO jW)) k)=some o:=ho;unfold tM at ho;refine Wq.jmp (Lb ..) (λ_=>rfl) ?_;refine Sq.take hL h (λhi H1 aE h1=> ?_) (λhi H1 aE h1=> ?_)
   . rw[if_pos hi,iy]at ho;simp only[af,aw (off:=11) (u:=sl) (h1.at_ 1 rfl) sj rfl];refine Sq.call (hp m (Nat.lt_succ_self m)) rfl h1 ho λc k' H2 nx2 _ ho2 h2=> ?_;simp only[af,aw (off:=11) (u:=sl) (h2.at_ 1 rfl) sj rfl,bj];refine Hq.xL c.cs c.len h2 λx H3 nx3 h3=> ?_;simp only[af,aw (off:=11) (u:=sl) (h3.at_ 2 rfl) sj rfl,bj];refine Hq.ON [_,_] (x:=c) (by omega) hG h3 λsl' G1 H4 nx4 hG1 h4=> ?_;refine Hq.put [_] h4 N6 (by rcases hG1.2 with⟨_,rfl,_⟩ | ⟨b,c,rfl,_⟩<;>rfl) (cE hG1) (by simp) rfl λH5 h5=> ?_;exact O5 hL m (λj hj=>hp j (by omega)) (l++[c]) k' sl' G1 o z x0 x1 nx4 H5 (by rw[List.length_append];simp;omega) hG1 hz ho2 h5
   . rw[if_neg (by rw[hi];simp),eU]at ho;simp only[af,EK (h1.at_ 1 rfl) rfl];have h5:Hp nx0 H0 (cQ bp L k::(x0,z,57)::(G++F)) H1 aE:=(Hp.mv [_] h1).sub (by simp);exact Hq.fin h5 dz fw jn hz rfl (by simp[cE hG]) (a_.O4 hG) (by omega) λH9 nx9 h9=>End.ret ho rfl h9
theorem UU (hL:L.length<=100000){n:Nat}(hn:n<=90000)(hp:bL 148 L bh.v (ps L n).pat)(he:bL 61 L aH.v (ps L n).exp)(hf:∀j,j<=n->bL 149 L Fn.v (ps L j).fn):bL 105 L gZ (ps L (n+1)).bind:=by
 intro nx0 nx H0 H bp F k o ho h;have ho:nq L (ps L n) k=some o:=ho;unfold nq at ho;rw[Wa];refine Hq.alloc cW h λx0 H1 aE h1=> ?_;refine Sq.take hL h1 (λhi H2 nx2 h2=> ?_) (λhi H2 nx2 h2=> ?_)
 . rw[if_pos hi]at ho;simp only[af];refine Sq.call hp rfl h2 ho λa k' H3 nx3 _ ho h3=> ?_;refine Hq.xM h3 λH4 nx4 h4=> ?_;refine Sq.kh hL h4 ho λH5 nx5 _ ho h5=> ?_;simp only[af,MH];refine Sq.call he rfl h5 ho λc k2 H6 nx6 _ ho h6=> ?_;simp only[af,zX];exact Hq.fin (G:=[]) h6 dz fw jn rfl rfl rfl a_.O3 (by omega) λH9 nx9 h9=>End.ret ho rfl h9
 rw[if_neg (by rw[hi];simp)]at ho;simp only[af];refine Sq.take hL h2 (λhi H3 nx3 h3=> ?_) (λhi H3 nx3 h3=> ?_)
 . rw[if_pos hi]at ho;simp only[af];refine Sq.call (hf n (Nat.le_refl n)) rfl h3 ho λa k' H4 nx4 _ ho h4=> ?_;refine Hq.xL a.cs a.len h4 λx H5 nx5 h5=> ?_;simp only[af,Mz];refine Hq.alloc cW h5 λx1 H6 nx6 h6=> ?_;refine Hq.set [_] h6 dz rfl rfl rfl λH7 h7=> ?_
   have h8:Hp nx0 H0 (cQ bp L k'::(x1,_,57)::(x0,_,57)::([(x,a.cs,65)]++F)) H7 nx6:=h7.perm (List.Perm.cons _ (List.Perm.cons _ (List.Perm.swap _ _ _)));exact O5 hL (n+1) (λj hj=>hf j (by omega)) [a] k' (gG x 1 1) [(x,a.cs,65)] o _ x0 x1 nx6 H7 (show 1+(n+1)<=90010 by omega) (Gw.j1 a.fR) rfl ho h8
 . rw[if_neg (by rw[hi];simp)]at ho;simp only[af];refine Wq.jmp (Lc ..) (λ_=>rfl) ?_;exact Hq.fin (G:=[]) h3 dz fw jn rfl rfl rfl a_.JN (by omega) λH9 nx9 h9=>End.ret ho rfl h9
end
section
variable {nx0 nx nx' bp k:Nat}{H0 H H':T OB}{F A B G G':List Bx}{s:Bx}{R:Go.Ev.Out->T OB->Nat->Prop}{b:Nat}{l:List Value}{e t:TypeId}{L:List Tok}
theorem Hq.R0 {z:List Value}{a:a_}{x0:Nat}{kt:Value->Go.Ev.T OB->Nat->Q}(h:Hp nx0 H0 (s::(x0,z,57)::F) H nx)(hz:z.length=17)(hk:∀H' nx',Hp nx0 H0 (s::F) H' nx'->aO P pl X0 (kt a.v H' nx') nx0 H0 R):
 aO P pl X0 (ao (ah P H nx 57 (some (ptr x0)) (some a.v)) λ_ H nx=>aa (ae P H 57 (some (ptr x0))) (λx=>aX P 57 x H nx kt) .bad) nx0 H0 R:=
 Hq.fin (G:=[]) h dz fw jn hz a.len (a.fR a.v (by simp)).2.1 a.fz (by omega) hk
theorem a_.O6 {c:da}:gB 0 [(4,42),(8,41),(9,42),(10,24),(11,48),(12,49),(14,50),(16,53)] (.agg ⟨[i64 4,i64 0,i64 0,aD [],aC,i64 0,i64 0,aD [],aC,aC,aC,aC,aC,aD [],aC,aD c.s,fx c.arg]⟩) (a_.v (.mk 4 jV ke [] gO c)) []:=
 a_.km jr uO jr nK uP zV zW (db.row ez) (a_.br _)
theorem zY (k:Int)(c:da):az P 57 (some [(0,i64 k),(5,c.v)])=some (.agg ⟨[i64 k,i64 0,i64 0,aD [],aC,i64 0,i64 0,aD [],aC,aC,aC,aC,aC,aD [],aC,aD c.s,fx c.arg]⟩):=by
 rw[da.br];exact MC ..
abbrev Bz (x:Data):Value:=a_.v (.mk 3 jV ke [] x jW)
theorem Xx (hL:L.length<=100000){p:PS}(hd:bL 103 L Bz p.data)(hc:bL 104 L da.v p.dY)(hb:bL 105 L gZ p.bind):bL 60 L gZ (xx L p):=by
 intro nx0 nx H0 H bp F k o ho h;unfold xx at ho;rw[YJ];refine Hq.alloc cW h λx0 H1 aE h1=> ?_;refine Sq.take hL h1 (λhi H2 nx2 h2=> ?_) (λhi H2 nx2 h2=> ?_)
 . rw[if_pos hi]at ho;simp only[af];refine Sq.call hd rfl h2 ho λa k' H3 nx3 _ ho h3=> ?_;exact Hq.R0 (a:= .mk 3 jV ke [] a jW) h3 rfl λH9 nx9 h9=>End.ret ho rfl h9
 rw[if_neg (by rw[hi];simp)]at ho;simp only[af];refine Sq.take hL h2 (λhi H3 nx3 h3=> ?_) (λhi H3 nx3 h3=> ?_)
 . rw[if_pos hi]at ho;simp only[af];refine Sq.call hc rfl h3 ho λa k' H4 nx4 _ ho h4=> ?_;simp only[af,zY];exact Hq.fin (G:=[]) h4 dz fw jn rfl rfl rfl a_.O6 (by omega) λH9 nx9 h9=>End.ret ho rfl h9
 . rw[if_neg (by rw[hi];simp),<- oI (p.bind k)]at ho;simp only[af];refine Sq.call hb rfl h3 ho λa k' H4 nx4 _ ho h4=> ?_;unfold gZ;simp only[af,F9,F_];exact Hq.R0 h4 rfl λH9 nx9 h9=>End.ret ho rfl h9
end
section
variable {nx0 nx nx' bp k:Nat}{H0 H H':T OB}{F A B G G':List Bx}{s:Bx}{R:Go.Ev.Out->T OB->Nat->Prop}{b:Nat}{l:List Value}{e t:TypeId}{L:List Tok}
theorem uR (f:Value->Go.Ev.T OB->Nat->(Value->Go.Ev.T OB->Nat->Q)->Q)(v:Value):∀(vs:List Value) (H:Go.Ev.T OB) (nx:Nat) (kt:List Value->Go.Ev.T OB->Nat->Q),kz f (vs++[v]) H nx kt=kz f vs H nx λus H nx=>f v H nx λu H nx=>kt (us++[u]) H nx
 | [],H,nx,kt=>rfl
 | w::vs,H,nx,kt=>by
   show(f w H nx λw H nx=>kz f (vs++[v]) H nx λl H nx=>kt (w::l) H nx)=f w H nx λw H nx=>kz f vs H nx λl H nx=>f v H nx λu H nx=>kt ((w::l)++[u]) H nx;congr 1;funext w H nx;exact uR f v vs H nx _
theorem iN.snoc {n:Nat}{offs:List (Nat×TypeId)}{vs us:List Value}{v u:Value}(h:iN n offs vs us [])(h1:gB n offs v u []):iN n offs (vs++[v]) (us++[u]) []:=λd hd nx0 nx H0 H s B k R hh hk=>by
 rw[uR];exact h d hd nx0 nx H0 H s B _ R hh λH' nx' h'=>h1 d hd nx0 nx' H0 H' s B _ R h' hk
theorem zZ (k:Int)(c:aH):az P 57 (some [(0,i64 k),(2,c.v)])=some (.agg ⟨[i64 k,i64 0,i64 0,aD [],aC,i64 c.k,i64 c.n,aD c.s,gm c.l,cD c.p,bQ c.d,aC,aC,aD [],aC,aD [],aC]⟩):=by
 rw[aH.br];exact MB ..
theorem a_.O7 {c:aH}:gB 0 [(4,42),(8,41),(9,42),(10,24),(11,48),(12,49),(14,50),(16,53)] (.agg ⟨[i64 5,i64 0,i64 0,aD [],aC,i64 c.k,i64 c.n,aD c.s,gm c.l,cD c.p,bQ c.d,aC,aC,aD [],aC,aD [],aC]⟩) (a_.v (zP c)) []:=
 a_.km jr (db.row fu) (db.row er) (db.row gu) uP zV zW uQ (a_.br _)
abbrev k0:List (Nat×TypeId):=[(4,42),(8,41),(9,42),(10,24),(11,48),(12,49),(14,50),(16,53)]
theorem z1 {vs:List Value}{ds:List a_}{sl:Value}{kt:Value->Go.Ev.T OB->Nat->Q}(hG:Gw true 17 57 vs sl G)(hL:iN 0 k0 vs (ds.map a_.v) [])(hl:vs.length=ds.length)(h:Hp nx0 H0 (s::(G++F)) H nx)(hk:∀H' nx',Hp nx0 H0 (s::F) H' nx'->aO P pl X0 (kt (bQ ds) H' nx') nx0 H0 R):aO P pl X0 (aX P 24 sl H nx kt) nx0 H0 R:=by
 have e:aX P 24 sl H nx kt=jG P 100000 24 sl H nx kt:=by
  unfold aX;rcases hG.2 with⟨_,rfl,_⟩ | ⟨b,c,rfl,_⟩<;>rfl
 rw[e];exact(db.gw (t:=24) gu dz fw rfl jn hG hL (λu hu=>by obtain⟨x,_,rfl⟩:=List.mem_map.1 hu;exact x.len) (λq=>by rw[q]at hl;have:=List.length_eq_zero_iff.1 hl.symm;rw[this];rfl)) 100000 (by omega) nx0 nx H0 H s F kt R h hk
theorem UW (hLL:L.length<=100000):∀(m:Nat),(∀j,j<m->bL 60 L gZ (ps L j).dec)->(∀j,j<m->bL 61 L aH.v (ps L j).exp)->∀(ds:List a_) (vs:List Value) (k:Nat) (sl:Value) (G:List Bx) (o:iZ (List a_)) (nx:Nat) (H:Go.Ev.T OB),ds.length+m<=90010->Gw true 17 57 vs sl G->iN 0 k0 vs (ds.map a_.v) []->vs.length=ds.length->
 (ps L m).bW ds k=some o->Hp nx0 H0 (cQ bp L k::(G++F)) H nx->aO P pl X0 (.jump (DO (ptr bp) sl H nx)) nx0 H0 (End nx0 H0 bp L F bQ o)
 | 0,_,_,ds,vs,k,sl,G,o,nx,H,hm,hG,hL,hl,ho,h=>by cases ho
 | m+1,hd,he,ds,vs,k,sl,G,o,nx,H,hm,hG,hL,hl,ho,h=>by
   have ho:nv L (ps L m) ds k=some o:=ho;unfold nv at ho;have J14:∀(cs:List Value) (d:a_) (k' x1 nx2:Nat) (H2:Go.Ev.T OB),cs.length=17->cs.all aA=true->gB 0 k0 (.agg ⟨cs⟩) d.v []->(ps L m).bW (ds++[d]) (skip L [59] k')=some o->Hp nx0 H0 (cQ bp L k'::(x1,cs,57)::(G++F)) H2 nx2->aO P pl X0 (.jump (vT (ptr bp) sl (ptr x1) H2 nx2)) nx0 H0 (End nx0 H0 bp L F bQ o):=by
    intro cs d k' x1 nx2 H2 hc h1 hz ho2 h2;refine Wq.jmp (P4 ..) (λ_=>rfl) ?_;simp only[af,EK (h2.at_ 1 rfl) hc];refine Hq.qy cs hc h2 λx H3 nx3 h3=> ?_;refine Hq.add [_] (v:= .agg ⟨cs⟩) gu dz (JC (by omega)) (by omega) (λv hv=>by rw[List.mem_singleton]at hv;subst hv;exact⟨hc,h1,⟨_,rfl⟩⟩) hG h3 λsl' G' H4 nx4 hG' h4=> ?_;refine Sq.skip hLL (Hp.jm h4) λbb H5 nx5 h5=> ?_;simp only[af];exact UW hLL m (λj hj=>hd j (by omega)) (λj hj=>he j (by omega)) (ds++[d]) (vs++[.agg ⟨cs⟩]) _ sl' G' o nx5 H5 (by rw[List.length_append];simp;omega) hG' (by rw[List.map_append];exact hL.snoc hz) (by simp[hl]) ho2 h5
   refine Wq.jmp (TN ..) (λ_=>rfl) ?_;refine Sq.now h λH1 aE h1=> ?_;simp only[af];refine Wq.bK (λhi=> ?_) (λhi=> ?_)
   . have hne:¬(tk L k).k=0:=by simpa using hi
     rw[if_neg hne]at ho;refine Sq.call (hd m (Nat.lt_succ_self m)) rfl h1 ho λd k' H2 nx2 _ ho h2=> ?_;unfold gZ;simp only[af,F9,F_];refine Hq.alloc cW h2 λx1 H3 nx3 h3=> ?_;refine Hq.set [_] h3 dz rfl (d.getD kU).len ((d.getD kU).fR (d.getD kU).v (by simp)).2.1 λH4 h4=> ?_
     cases d with
     | some d=>
       simp only[af,Option.isSome_some,Bool.not_true];exact J14 _ d k' x1 _ H4 d.len (d.fR d.v (by simp)).2.1 d.fz ho h4
     | none=>
       simp only[af,Option.isSome_none,Bool.not_false];refine Sq.call (he m (Nat.lt_succ_self m)) rfl h4 ho λc k2 H5 nx5 _ ho h5=> ?_;simp only[af,zZ];refine Hq.set [_] h5 dz (kU.len) rfl rfl λH6 h6=> ?_
       exact J14 _ (zP c) k2 x1 _ H6 rfl rfl a_.O7 ho h6
   . have h0:(tk L k).k=0:=by simpa using hi
     rw[if_pos h0]at ho;exact z1 hG hL hl h1 λH9 nx9 h9=>End.ret ho rfl h9
end
section
variable {nx0:Nat}{H0:T OB}
variable {fr:Nat->List Value->TypeId->Prop}{bp:Nat}{l0:List Tok}{b0:Bool}{ok:Bool}{ts:List Tok}{n nx:Nat}{H:T OB}{R:Value->T OB->Nat->Prop}
def UX {α:Type}(tf:Bool->α->List Tok):Bool->List α->List Tok
 | _,[]=>[]
 | b,a::l=>tf b a++UX tf false l
def Xy {α:Type}(s:List UInt8)(f:α->List Tok):Bool->α->List Tok:=λb a=>(if b=true then[]else[Y5 s])++f a
end
section
variable {nx0:Nat}{H0:T OB}
variable {fr:Nat->List Value->TypeId->Prop}{bp:Nat}{l0:List Tok}{b0:Bool}{ok:Bool}{ts:List Tok}{n nx:Nat}{H:T OB}{R:Value->T OB->Nat->Prop}
def dQ (s:List UInt8)(q:List (List Tok)):List Tok:=UX (Xy s id) true q
end
def ta (u:Nat)(s:List UInt8):List UInt8:=if u<10 then(48+u).toUInt8::s else ta (u/10) ((48+u%10).toUInt8::s)
termination_by u
decreasing_by omega
theorem BA (k:Nat):∀(u:Nat) (s:List UInt8),u<10^(k+1)->(ta u s).length<=s.length+k+1/\s.length<(ta u s).length:=by
 induction k with
 | zero=>
   intro u s h;rw[ta,if_pos (by simpa using h)];simp
 | succ k ih=>
   intro u s h;rw[ta];split
   . simp
   . have:=ih (u/10) ((48+u%10).toUInt8::s) (by rw[Nat.div_lt_iff_lt_mul (by omega)];rw[Nat.pow_succ]at h;omega);simp only[List.length_cons]at this ⊢;omega
def EP (n:Int):List UInt8:=if n<0 then 45::ta n.natAbs []else ta n.natAbs []
theorem BB (n:Int)(h: -9223372036854775808<=n/\n<9223372036854775808):(EP n).length<=20:=by
 have:=(BA 18 n.natAbs [] (by have:(10:Nat)^(18+1)=10000000000000000000:=by decide
                              omega)).1
 unfold EP;split<;>simp only[List.length_cons,List.length_nil]at this ⊢ <;> omega
theorem Y7:(10:Nat)^(18+1)=10000000000000000000:=by decide
theorem Xz:(10:Nat)^19=10000000000000000000:=by decide
theorem R2 (a0:Int):Instr.fill (λi=>some (i*1,1)) (bI [.int .u8 0] (1*1)) [(0,.int .u8 a0)]=some ⟨[.int .u8 a0]⟩:=by kernel_rfl
theorem Tb (a0 a1:Int):Instr.fill (λi=>some (i*1,1)) (bI [.int .u8 0] (2*1)) [(0,.int .u8 a0),(1,.int .u8 a1)]=some ⟨[.int .u8 a0,.int .u8 a1]⟩:=by kernel_rfl
theorem X4 (a0 a1 a2 a3:Int):Instr.fill (λi=>some (i*1,1)) (bI [.int .u8 0] (4*1)) [(0,.int .u8 a0),(1,.int .u8 a1),(2,.int .u8 a2),(3,.int .u8 a3)]=some ⟨[.int .u8 a0,.int .u8 a1,.int .u8 a2,.int .u8 a3]⟩:=by kernel_rfl
theorem ER:P.underlying 167=some (.int .u64):=by kernel_rfl
theorem ES:P.underlying 168=some (.array 20 5):=by kernel_rfl
theorem oJ:ee P 120 9=true:=by kernel_rfl
theorem JO (H:T OB)(n:Int):ck P H 2 167 (some (i64 n))=some (.int .u64 (IntKind.u64.wrap n)):=gA Jl ER
theorem z2 (H:T OB)(n:Int):ck P H 167 5 (some (.int .u64 n))=some (.int .u8 (IntKind.u8.wrap n)):=gA ER nj
theorem R3 (H:T OB)(n:Int):ck P H 2 5 (some (i64 n))=some (.int .u8 (IntKind.u8.wrap n)):=gA Jl nj
theorem wrap_u64 (n:Int):IntKind.u64.wrap n=n%18446744073709551616:=by
 unfold IntKind.wrap;simp[IntKind.bits,IntKind.signed]
theorem xN {b off i:Nat}(h:i<20)(k:IntKind):ay P 168 (some (.pointer (some ⟨b,off,none⟩))) (some (.int k (i:Int)))=some (.pointer (some ⟨b,off+i,none⟩)):=by
 have:=zC (P:=P) (b:=b) (off:=off) ES gS h k;rwa[Nat.mul_one]at this
theorem R4 {H:T OB}{b off i:Nat}(h:i<20)(k:IntKind):bA P H 168 (some (.pointer (some ⟨b,off,none⟩))) (some (some (.int k (i:Int)))) (some none) (some none)=some (.slice (some ⟨b,off+i,none⟩) (20-i) (20-i)):=by
 have:=zD (P:=P) (H:=H) (b:=b) (off:=off) ES gS h (by omega) k;rwa[Nat.mul_one]at this
def tp (r:List UInt8):List Value:=List.replicate (20-r.length) (.int .u8 0)++lD r
theorem qB (d:UInt8)(r:List UInt8)(h:r.length<20):(tp r).set (19-r.length) (.int .u8 d.toNat)=tp (d::r):=by
 unfold tp;rw[List.set_append_left _ _ (by simp;omega)];have e1:20-r.length=(19-r.length)+1:=by omega
 rw[e1,List.replicate_succ',List.set_append_right _ _ (by simp)];simp only[List.length_replicate,Nat.sub_self,List.set_cons_zero,List.length_cons];rw[show 20-(r.length+1)=19-r.length from by omega];simp[lD]
theorem iz (r:List UInt8)(h:r.length<=20):(tp r).length=20:=by simp[tp];omega
theorem qC {nx0:Nat}{H0:T OB}{nx b:Nat}{H:T OB}(r:List UInt8)(hr:0<r.length/\r.length<=20)(hA:Ag nx0 H0 nx H)(hb:cR H b (tp r) 168):
 Wq P pl X0 (.jump (wx (.pointer (some ⟨b,0,none⟩)) (i64 ((20-r.length:Nat):Int)) H nx)) nx0 H0 (aD r):=by
 refine Wq.jmp (Qk ..) (λ_=>rfl) ?_;rw[R4 (by omega),aT,oE oJ hb (by rw[iz r hr.2];omega) (r:=r),aT]
 . exact Wq.ret hA
 . unfold tp;rw[Nat.zero_add,List.drop_left' (by simp)];rw[List.take_of_length_le (by simp;omega)]
def Ga (n:Int):List UInt8:=if n<0 then[45]else[]
theorem JP (n:Int):EP n=Ga n++ta n.natAbs []:=by
 unfold EP Ga;split<;>rfl
theorem xO (d:Nat)(h:d<10):IntKind.u8.wrap (48+(d:Int))=(((48+d).toUInt8).toNat:Int):=by
 rw[wrap_u8];have:((48+d).toUInt8).toNat=48+d:=by simp;omega
 rw[this];omega
theorem MI {nx0:Nat}{H0:T OB}{b:Nat}(hbn:nx0<=b)(n:Int)(k:Nat):∀(u:Nat) (s:List UInt8) (H:T OB) (nx:Nat),u<10^(k+1)->s.length+k=18->Ag nx0 H0 nx H->cR H b (tp s) 168->
 Wq P pl X0 (.jump (wv (i64 n) (.int .u64 (u:Int)) (.pointer (some ⟨b,0,none⟩)) (i64 ((20-s.length:Nat):Int)) H nx)) nx0 H0 (aD (Ga n++ta u s)):=by
 induction k with
 | zero=>
   intro u s H nx hu hs hA hb;have hu:u<10:=by simpa using hu
   refine Wq.jmp (Ip ..) (λ_=>rfl) ?_;have e0:IntKind.i64.wrap (((20-s.length:Nat):Int)-1)=((19-s.length:Nat):Int):=by rw[bk (by omega)];omega
   have e1:(u:Int).tmod 10=((u%10:Nat):Int):=by rw[Int.tmod_eq_emod_of_nonneg (by omega)];omega
   have e2:IntKind.u64.wrap (48+((u%10:Nat):Int))=48+((u%10:Nat):Int):=by rw[wrap_u64];omega
   have e3:IntKind.u64.wrap ((u:Int).tdiv 10)=0:=by rw[Int.tdiv_eq_ediv_of_nonneg (by omega),wrap_u64];omega
   rw[ta,if_pos hu];simp only[af,e0,lp 167 true .u64 u 10 (by omega),jj 167 true .u64 u 10 (by omega),e1,e2,z2,xO _ (Nat.mod_lt u (by omega:0<10)),xN (show 19-s.length<20 by omega),e3,Nat.zero_add];refine Wq.put hb gS rfl rfl (by rw[iz s (by omega)];omega) (qB _ s (by omega)) hA hbn λH1 hb1 _ hA1=> ?_;rw[show u%10=u from Nat.mod_eq_of_lt hu]at hb1;refine Wq.ite (λhn=> ?_) (λhn=> ?_)
   . have e4:IntKind.i64.wrap (((19-s.length:Nat):Int)-1)=((18-s.length:Nat):Int):=by rw[bk (by omega)];omega
     simp only[af,e4,xN (show 18-s.length<20 by omega),Nat.zero_add];have:=qB 45 ((48+u).toUInt8::s) (by simp;omega);rw[List.length_cons,show 19-(s.length+1)=18-s.length from by omega]at this;refine Wq.put hb1 gS rfl rfl (by rw[iz _ (by simp;omega)];omega) this hA1 hbn λH2 hb2 _ hA2=> ?_;have:=qC _ (by simp;omega) hA2 hb2;simp only[List.length_cons,show 20-(s.length+1+1)=18-s.length from by omega]at this;unfold Ga;rw[if_pos hn];exact this
   . have:=qC _ (by simp;omega) hA1 hb1;simp only[List.length_cons,show 20-(s.length+1)=19-s.length from by omega]at this;unfold Ga;rw[if_neg hn];exact this
 | succ k ih=>
   intro u s H nx hu hs hA hb;refine Wq.jmp (Ip ..) (λ_=>rfl) ?_;have hpow:(10:Nat)^(k+1+1)<=10^19:=Nat.pow_le_pow_right (by omega) (by omega);have h19:(10:Nat)^19=10000000000000000000:=by decide
   have hdiv:u/10<10^(k+1):=by rw[Nat.div_lt_iff_lt_mul (by omega)];rw[Nat.pow_succ]at hu;omega
   have e0:IntKind.i64.wrap (((20-s.length:Nat):Int)-1)=((19-s.length:Nat):Int):=by rw[bk (by omega)];omega
   have e1:(u:Int).tmod 10=((u%10:Nat):Int):=by rw[Int.tmod_eq_emod_of_nonneg (by omega)];omega
   have e2:IntKind.u64.wrap (48+((u%10:Nat):Int))=48+((u%10:Nat):Int):=by rw[wrap_u64];omega
   have e3:IntKind.u64.wrap ((u:Int).tdiv 10)=((u/10:Nat):Int):=by rw[Int.tdiv_eq_ediv_of_nonneg (by omega),wrap_u64];omega
   simp only[af,e0,lp 167 true .u64 u 10 (by omega),jj 167 true .u64 u 10 (by omega),e1,e2,z2,xO _ (Nat.mod_lt u (by omega:0<10)),xN (show 19-s.length<20 by omega),e3,Nat.zero_add];refine Wq.put hb gS rfl rfl (by rw[iz s (by omega)];omega) (qB _ s (by omega)) hA hbn λH1 hb1 _ hA1=> ?_;refine Wq.ite (λh0=> ?_) (λh0=> ?_)
   . have hu10:u<10:=by omega
     rw[ta,if_pos hu10];rw[show u%10=u from Nat.mod_eq_of_lt hu10]at hb1;refine Wq.ite (λhn=> ?_) (λhn=> ?_)
     . have e4:IntKind.i64.wrap (((19-s.length:Nat):Int)-1)=((18-s.length:Nat):Int):=by rw[bk (by omega)];omega
       simp only[af,e4,xN (show 18-s.length<20 by omega),Nat.zero_add];have:=qB 45 ((48+u).toUInt8::s) (by simp;omega);rw[List.length_cons,show 19-(s.length+1)=18-s.length from by omega]at this;refine Wq.put hb1 gS rfl rfl (by rw[iz _ (by simp;omega)];omega) this hA1 hbn λH2 hb2 _ hA2=> ?_;have:=qC _ (by simp;omega) hA2 hb2;simp only[List.length_cons,show 20-(s.length+1+1)=18-s.length from by omega]at this;unfold Ga;rw[if_pos hn];exact this
     . have:=qC _ (by simp;omega) hA1 hb1;simp only[List.length_cons,show 20-(s.length+1)=19-s.length from by omega]at this;unfold Ga;rw[if_neg hn];exact this
   . have:=ih (u/10) ((48+u%10).toUInt8::s) H1 nx hdiv (by simp;omega) hA1 hb1;rw[ta,if_neg (by omega)];simp only[List.length_cons,show 20-(s.length+1)=19-s.length from by omega]at this;exact this
theorem X5 (n:Int)(h: -9223372036854775808<=n/\n<9223372036854775808):P0 78 [i64 n] (aD (EP n)):=Pure.of rfl λH nx=>by
 rw[YV];have L10:Wq P pl X0 (.jump (wu (i64 n) (.int .u64 ((n.natAbs:Nat):Int)) H nx)) nx H (aD (EP n)):=by
  refine Wq.jmp (Qj ..) (λ_=>rfl) ?_;refine Wq.alloc HC (.refl _ _) λH1 hb1 _ hA1=> ?_;rw[JP];exact MI (Nat.le_refl _) n 18 n.natAbs [] H1 _ (by rw[Y7];omega) rfl hA1 hb1
 simp only[af,JO,w9];refine Wq.ite (λhn=> ?_) (λhn=> ?_)
 . have e:IntKind.u64.wrap (0-IntKind.u64.wrap n)=((n.natAbs:Nat):Int):=by rw[wrap_u64,wrap_u64];omega
   rw[e];exact L10
 . have e:IntKind.u64.wrap n=((n.natAbs:Nat):Int):=by rw[wrap_u64];omega
   rw[e];exact L10
theorem JQ (left:Int)(h: -9223372036854775808<=left/\left<9223372036854775808):w (left.tdiv 10)=left.tdiv 10/\(left.tdiv 10).natAbs=left.natAbs/10/\(left.tmod 10).natAbs=left.natAbs%10:=by
 have h2:(left.tdiv 10).natAbs=left.natAbs/10:=by rw[Int.natAbs_tdiv];rfl
 refine⟨bk (by omega),h2,by rw[Int.natAbs_tmod];rfl⟩
theorem MJ {nx0:Nat}{H0:T OB}(n:Int)(k:Nat):∀(left:Int) (s:List UInt8) (H:T OB) (nx:Nat),left.natAbs<10^k->k<=19-> -9223372036854775808<=left->left<9223372036854775808->s.length+k<=120->(k=0->s≠[])->Ag nx0 H0 nx H->
 Wq P pl X0 (.jump (wJ (i64 n) (aD s) (i64 left) H nx)) nx0 H0 (aD (Ga n++(if left=0/\s≠[]then s else ta left.natAbs s))):=by
 induction k with
 | zero=>
   intro left s H nx hl hk19 h1 h2 hk hs hA
   have:left=0:=by have:(10:Nat)^0=1:=rfl
                   omega
   subst this;rw[if_pos ⟨rfl,hs rfl⟩];refine Wq.jmp (IA ..) (λ_=>rfl) ?_;simp only[af,decide_true,Bool.not_true,cond_false,show decide ((⟨⟨s⟩⟩:ByteArray)=⟨⟨[]⟩⟩)=false from by simp;exact hs rfl];refine Wq.ite (λhn=> ?_) (λhn=> ?_)
   . rw[oC 9 true [45] s (by simp;omega)];refine Wq.e7 ?_ hA;unfold Ga;rw[if_pos hn]
   . refine Wq.e7 ?_ hA;unfold Ga;rw[if_neg hn];rfl
 | succ k ih=>
   intro left s H nx hl hk19 h1 h2 hk hs hA;obtain⟨e1,e2,e3⟩:=JQ left ⟨h1,h2⟩;have L16:∀d:Nat,d=left.natAbs%10->(¬(left=0/\s≠[]))->Wq P pl X0 (.jump (lu (i64 n) (aD s) (i64 left) (i64 (d:Int)) H nx)) nx0 H0 (aD (Ga n++(if left=0/\s≠[]then s else ta left.natAbs s))):=by
    intro d hd hno;rw[if_neg hno];refine Wq.jmp (Lh ..) (λ_=>rfl) ?_;have hd10:d<10:=by rw[hd];exact Nat.mod_lt _ (by omega)
    have e5:IntKind.i64.wrap (48+(d:Int))=48+(d:Int):=bk (by omega);simp only[af,e5,R3,xO d hd10];refine Wq.row cN gS eB rfl (R2 _) hA λH1 hb1 _ hA1=> ?_;rw[oE oJ hb1 (r:=[(48+d).toUInt8]) (by simp) (by simp[lD]),aT,oC 9 false [(48+d).toUInt8] s (by simp;omega)];simp only[af,jj 2 true .i64 left 10 (by omega),e1];have:=ih (left.tdiv 10) ((48+d).toUInt8::s) H1 _ (by rw[e2,Nat.div_lt_iff_lt_mul (by omega)];rw[Nat.pow_succ]at hl;omega) (by omega) (by omega) (by omega) (by simp;omega) (λ_=>by simp) hA1;have e6:(if left.tdiv 10=0/\(48+d).toUInt8::s≠[]then(48+d).toUInt8::s else ta (left.tdiv 10).natAbs ((48+d).toUInt8::s))=ta left.natAbs s:=by
     rw[ta.eq_def left.natAbs s,e2,hd]
     by_cases hlt:left.natAbs<10
     . rw[if_pos ⟨by omega,by simp⟩,if_pos hlt,Nat.mod_eq_of_lt hlt]
     . rw[if_neg (λq=>by omega),if_neg hlt]
    rw[e6]at this;exact this
   have hm:∀(q:Int),q=left.tmod 10->¬q<0->q=((left.natAbs%10:Nat):Int):=λq hq h=>by rw[<- e3,<- hq];omega
   have hm2:∀(q:Int),q=left.tmod 10->q<0->IntKind.i64.wrap (0-q)=((left.natAbs%10:Nat):Int):=λq hq h=>by
    have:q.natAbs<10:=by rw[hq,e3];exact Nat.mod_lt _ (by omega)
    rw[bk (by omega),<- e3,<- hq];omega
   refine Wq.jmp (IA ..) (λ_=>rfl) ?_;simp only[af,lp 2 true .i64 left 10 (by omega),w9];refine Wq.bK (λh=> ?_) (λh=> ?_)
   . have hne:left≠0:=by simpa using h
     refine Wq.ite (λhn=> ?_) (λhn=> ?_)
     . rw[hm2 _ rfl hn];exact L16 _ rfl (λq=>hne q.1)
     . have:=L16 _ rfl (λq=>hne q.1);rw[<- hm _ rfl hn]at this;exact this
   . have h0:left=0:=by simpa using h
     refine Wq.ite (λhs0=> ?_) (λhs0=> ?_)
     . have hs1:s=[]:=by simpa using hs0
       refine Wq.ite (λhn=> ?_) (λhn=> ?_)
       . rw[hm2 _ rfl hn];exact L16 _ rfl (λq=>q.2 hs1)
       . have:=L16 _ rfl (λq=>q.2 hs1);rw[<- hm _ rfl hn]at this;exact this
     . have hs1:s≠[]:=by simpa using hs0
       rw[if_pos ⟨h0,hs1⟩];refine Wq.ite (λhn=> ?_) (λhn=> ?_)
       . rw[oC 9 true [45] s (by simp;omega)];refine Wq.e7 ?_ hA;unfold Ga;rw[if_pos hn]
       . refine Wq.e7 ?_ hA;unfold Ga;rw[if_neg hn];rfl
theorem R5 (n:Int)(h: -9223372036854775808<=n/\n<9223372036854775808):P0 117 [i64 n] (aD (EP n)):=Pure.of rfl λH nx=>by
 rw[Wl,JP];have:=MJ (H0:=H) (nx0:=nx) n 19 n [] H nx (by rw[Xz];omega) (by omega) h.1 h.2 (by simp) (by omega) (.refl _ _);simpa using this
def hex:List UInt8:=[48,49,50,51,52,53,54,55,56,57,65,66,67,68,69,70]
def hx (n:Nat):UInt8:=hex.getD n 0
def qc (c:UInt8):List UInt8:=if c.toNat=34\/c.toNat=92 then[92,c]else if c.toNat=10 then[92,110]else if c.toNat=9 then[92,116]else if c.toNat<32\/126<c.toNat then[92,120,hx (c.toNat/16),hx (c.toNat%16)]else[c]
def qs (l:List UInt8):List UInt8:=l.flatMap qc
theorem Gb (c:UInt8):(qc c).length<=4:=by unfold qc;split<;>(try split)<;>(try split)<;>(try split)<;>simp
theorem uS (l:List UInt8):(qs l).length<=4*l.length:=by
 induction l with
 | nil=>simp[qs]
 | cons a l ih=>have:=Gb a;simp only[qs,List.flatMap_cons,List.length_append,List.length_cons]at ih ⊢;omega
def quote (l:List UInt8):List UInt8:=34::(qs l++[34])
theorem MK {n:Nat}(h:n<16):hex[n]? = some (hx n):=by
 unfold hx;rw[List.getD_eq_getElem?_getD,List.getElem?_eq_getElem (by simpa[hex]using h)];rfl
theorem xP {n:Nat}(h:n<16)(k:IntKind):aL P 9 (some (.string ⟨⟨[48,49,50,51,52,53,54,55,56,57,65,66,67,68,69,70]⟩⟩)) (some (.int k (n:Int)))=some (.int .u8 ((hx n).toNat:Int)):=a9 aV (MK h) k
theorem R6 (H:T OB)(c:UInt8):ai P H .shr 5 true (some (.int .u8 (c.toNat:Int))) (some (.int .u64 4))=some (.int .u8 ((c.toNat/16:Nat):Int)):=by
 have:=F3 (P:=P) (H:=H) 5 true .u8 .u64 (c.toNat:Int) 4 (by decide);rw[show((4:Nat):Int)=4 from rfl]at this;rw[this];congr 2;rw[Int.fdiv_eq_ediv_of_nonneg _ (by omega)];rw[show(2:Int)^4=16 from by decide];omega
theorem u8_and (H:T OB)(c:UInt8):ai P H .and 5 true (some (.int .u8 (c.toNat:Int))) (some (.int .u8 15))=some (.int .u8 ((c.toNat%16:Nat):Int)):=by
 rw[F4];congr 2;have hc:c.toNat<256:=c.toNat_lt;have e1:(BitVec.ofInt IntKind.u8.bits (c.toNat:Int) &&& BitVec.ofInt IntKind.u8.bits 15).toNat=c.toNat%16:=by
  rw[BitVec.toNat_and,BitVec.toNat_ofInt,BitVec.toNat_ofInt];have hb:IntKind.u8.bits=8:=rfl;rw[hb];have h1:((c.toNat:Int) % ((2^8:Nat):Int)).toNat=c.toNat:=by
   rw[show(2:Nat)^8=256 from by decide];omega
  have h2:((15:Int) % ((2^8:Nat):Int)).toNat=15:=by decide
  rw[h1,h2];exact Nat.and_two_pow_sub_one_eq_mod c.toNat 4
 rw[e1,wrap_u8];omega
theorem u8_quo (H:T OB)(c:UInt8):ai P H .quo 5 true (some (.int .u8 (c.toNat:Int))) (some (.int .u8 16))=some (.int .u8 ((c.toNat/16:Nat):Int)):=by
 rw[jj _ _ _ _ _ (by omega)];congr 2;have hc:c.toNat<256:=c.toNat_lt;rw[Int.tdiv_eq_ediv_of_nonneg (by omega),wrap_u8];omega
theorem R7 (H:T OB)(c:UInt8):ai P H .rem 5 true (some (.int .u8 (c.toNat:Int))) (some (.int .u8 16))=some (.int .u8 ((c.toNat%16:Nat):Int)):=by
 rw[lp _ _ _ _ _ (by omega)];congr 2
theorem Wq.UY {nx0:Nat}{H0:T OB}{nx:Nat}{H:T OB}{R:Value->T OB->Nat->Prop}{r:List UInt8}{sl:Value}{k:Value->T OB->Nat->Q}(hB:BS 5 nx0 H nx r sl)(hr:r≠[])(hA:Ag nx0 H0 nx H)(hk:∀H',Ag nx0 H0 (nx+1) H'->vo P pl X0 (k (bn 1 (lD r)) H' (nx+1)) nx0 H0 R):vo P pl X0 (eg P 120 sl H nx k) nx0 H0 R:=by
 rcases hB with⟨rfl,_⟩ | ⟨b,c,hb0,hbx,hb,hc,rfl⟩
 . exact absurd rfl hr
 . have hch:chunk false 1 r.length (lD r)=some (lD r):=by
    have:=iK (lD r);simpa using this
   refine Wq.TB cN gS TH rfl hb (by simp) ?_ hch ?_ hA hb0 λH' _ hA'=>hk H' hA'
   . rcases hc with rfl | rfl
     . simp
     . rw[Nat.ble_eq_true_of_le (Nat.le_refl _),Bool.or_true]
   . simp[lD]
theorem R8 {nx0:Nat}{H0:T OB}(l:List UInt8)(hl:l.length<9223372036854775807):∀(t:List UInt8) (i:Nat) (r:List UInt8) (sl:Value) (H:T OB) (nx:Nat),l.drop i=t->i<=l.length->r.length+(qs t).length+1<=1048576->BS 5 nx0 H nx r sl->Ag nx0 H0 nx H->
 vo P pl X0 (.jump (na (aD l) sl (i64 (i:Int)) H nx)) nx0 H0 (λu H nx=>u=bn 1 (lD (r++(qs t++[34])))):=by
 intro t
 induction t with
 | nil=>
   intro i r sl H nx hd hi hlen hB hA;have hil:=drop_nil hd hi;refine Wq.jmp (Oe ..) (λ_=>rfl) ?_;simp only[af,aK _ aV,aP,hil,aR];refine Wq.mu cN gS eB hB (x:=[34]) rfl rfl (R2 34) (λm hm=>iq (by simp at hm;simp at hlen;omega)) hA λH1 sl1 aE hB1 hA1 _=> ?_;refine Wq.UY hB1 (by simp) hA1 λH2 hA2=> ?_;exact Wq.V1 hA2 (by simp[qs])
 | cons c t ih=>
   intro i r sl H nx hd hi hlen hB hA;obtain⟨hg,hlt,hd'⟩:=drop_cons hd;have hqs:qs (c::t)=qc c++qs t:=rfl;rw[hqs,List.length_append]at hlen;have fin:∀(x:List UInt8) (sl1:Value) H1 aE,Ag nx0 H0 aE H1->BS 5 nx0 H1 aE (r++x) sl1->qc c=x->vo P pl X0 (.jump (na (aD l) sl1 (i64 ((i+1:Nat):Int)) H1 aE)) nx0 H0 (λu H nx=>u=bn 1 (lD (r++(qs (c::t)++[34])))):=by
    intro x sl1 H1 aE hA1 hB1 hx;have:=ih (i+1) (r++x) sl1 H1 aE hd' (by omega) (by rw[List.length_append,<- hx];omega) hB1 hA1;rw[hqs,hx];simpa[List.append_assoc]using this
   have hc8:c.toNat<256:=c.toNat_lt;have L30:∀b:Bool,(b=true↔(c.toNat<32\/126<c.toNat))->¬(c.toNat=34\/c.toNat=92)->c.toNat≠10->c.toNat≠9->vo P pl X0 (.jump (wz (aD l) sl (i64 (i:Int)) (b8 c) b H nx)) nx0 H0 (λu H nx=>u=bn 1 (lD (r++(qs (c::t)++[34])))):=by
    intro b hb h1 h2 h3;refine Wq.jmp (Qm ..) (λ_=>rfl) ?_;refine Wq.bK (λh=> ?_) (λh=> ?_)
    . have hq:qc c=[92,120,hx (c.toNat/16),hx (c.toNat%16)]:=by unfold qc;rw[if_neg h1,if_neg h2,if_neg h3,if_pos (hb.1 h)]
      rw[hq]at hlen;simp only[af,R6,u8_and,xP (show c.toNat/16<16 by omega),xP (show c.toNat%16<16 by omega)];refine Wq.mu cN gS eB hB (x:=[92,120,hx (c.toNat/16),hx (c.toNat%16)]) rfl rfl (X4 92 120 _ _) (λm hm=>iq (by simp at hm;simp at hlen;omega)) hA λH1 sl1 aE hB1 hA1 _=> ?_;simp only[af,aG (show i<9223372036854775807 by omega)];exact fin _ _ _ _ hA1 hB1 hq
    . have hq:qc c=[c]:=by unfold qc;rw[if_neg h1,if_neg h2,if_neg h3,if_neg (λq=>by rw[hb.2 q]at h;cases h)]
      rw[hq]at hlen;refine Wq.mu cN gS eB hB (x:=[c]) rfl rfl (R2 _) (λm hm=>iq (by simp at hm;simp at hlen;omega)) hA λH1 sl1 aE hB1 hA1 _=> ?_;simp only[af,aG (show i<9223372036854775807 by omega)];exact fin _ _ _ _ hA1 hB1 hq
   have L18:∀b:Bool,(b=true↔(c.toNat=34\/c.toNat=92))->vo P pl X0 (.jump (wy (aD l) sl (i64 (i:Int)) (b8 c) b H nx)) nx0 H0 (λu H nx=>u=bn 1 (lD (r++(qs (c::t)++[34])))):=by
    intro b hb;refine Wq.jmp (Ql ..) (λ_=>rfl) ?_;refine Wq.bK (λh=> ?_) (λh=> ?_)
    . have hq:qc c=[92,c]:=by unfold qc;rw[if_pos (hb.1 h)]
      rw[hq]at hlen;refine Wq.mu cN gS eB hB (x:=[92,c]) rfl rfl (Tb 92 _) (λm hm=>iq (by simp at hm;simp at hlen;omega)) hA λH1 sl1 aE hB1 hA1 _=> ?_;simp only[af,aG (show i<9223372036854775807 by omega)];exact fin _ _ _ _ hA1 hB1 hq
    have h1:¬(c.toNat=34\/c.toNat=92):=λq=>by rw[hb.2 q]at h;cases h
    simp only[af];refine Wq.ite (λh2=> ?_) (λh2=> ?_)
    . have h2:c.toNat=10:=by omega
      have hq:qc c=[92,110]:=by unfold qc;rw[if_neg h1,if_pos h2]
      rw[hq]at hlen;refine Wq.mu cN gS eB hB (x:=[92,110]) rfl rfl (Tb 92 110) (λm hm=>iq (by simp at hm;simp at hlen;omega)) hA λH1 sl1 aE hB1 hA1 _=> ?_;simp only[af,aG (show i<9223372036854775807 by omega)];exact fin _ _ _ _ hA1 hB1 hq
    have h2:c.toNat≠10:=by omega
    refine Wq.ite (λh3=> ?_) (λh3=> ?_)
    . have h3:c.toNat=9:=by omega
      have hq:qc c=[92,116]:=by unfold qc;rw[if_neg h1,if_neg h2,if_pos h3]
      rw[hq]at hlen;refine Wq.mu cN gS eB hB (x:=[92,116]) rfl rfl (Tb 92 116) (λm hm=>iq (by simp at hm;simp at hlen;omega)) hA λH1 sl1 aE hB1 hA1 _=> ?_;simp only[af,aG (show i<9223372036854775807 by omega)];exact fin _ _ _ _ hA1 hB1 hq
    have h3:c.toNat≠9:=by omega
    refine Wq.ite (λh4=>L30 true (by simp;omega) h1 h2 h3) (λh4=>L30 _ (by rw[decide_eq_true_eq];omega) h1 h2 h3)
   refine Wq.jmp (Oe ..) (λ_=>rfl) ?_;simp only[af,aK _ aV,aP,aU hlt,a9 aV hg];refine Wq.ite (λh1=>L18 true (by simp;omega)) (λh1=>L18 _ (by rw[decide_eq_true_eq];omega))
theorem Y8 {nx0:Nat}{H0:T OB}{nx:Nat}{H:T OB}(l:List UInt8)(hl:(qs l).length<=1000000)(hl2:l.length<9223372036854775807)(hA:Ag nx0 H0 nx H):
 vo P pl X0 (aQ P pl (.call 79 [aD l] false none H nx)) nx0 H0 (λu H nx=>u=bn 1 (lD (quote l))):=by
 rw[YW];refine Wq.row cN gS eB rfl (R2 34) hA λH1 hb1 _ hA1=> ?_;exact R8 l hl2 l 0 [34] _ H1 _ rfl (Nat.zero_le _) (by simp;omega) (.inr ⟨nx,1,hA.1,by omega,hb1,.inr rfl,rfl⟩) hA1
theorem ML {nx0:Nat}{H0:T OB}(l:List UInt8)(hl:l.length<9223372036854775807):∀(t:List UInt8) (i:Nat) (r:List UInt8) (sl:Value) (H:T OB) (nx:Nat),l.drop i=t->i<=l.length->r.length+(qs t).length+1<=1048576->BS 5 nx0 H nx r sl->Ag nx0 H0 nx H->
 vo P pl X0 (.jump (jP (aD l) sl (i64 (i:Int)) H nx)) nx0 H0 (λu _ _=>u=aD (r++(qs t++[34]))):=by
 intro t
 induction t with
 | nil=>
   intro i r sl H nx hd hi hlen hB hA;have hil:=drop_nil hd hi;refine Wq.jmp (IB ..) (λ_=>rfl) ?_;simp only[af,aK _ aV,aP,hil,aR];refine Wq.mu cN gS eB hB (x:=[34]) rfl rfl (R2 34) (λm hm=>iq (by simp at hm;simp at hlen;omega)) hA λH1 sl1 aE hB1 hA1 _=> ?_;rw[lE cN nj aV oJ hB1,aT];exact Wq.ret hA1
 | cons c t ih=>
   intro i r sl H nx hd hi hlen hB hA;obtain⟨hg,hlt,hd'⟩:=drop_cons hd;have hqs:qs (c::t)=qc c++qs t:=rfl;rw[hqs,List.length_append]at hlen;have fin:∀(x:List UInt8) (sl1:Value) H1 aE,Ag nx0 H0 aE H1->BS 5 nx0 H1 aE (r++x) sl1->qc c=x->vo P pl X0 (.jump (jP (aD l) sl1 (i64 ((i+1:Nat):Int)) H1 aE)) nx0 H0 (λu _ _=>u=aD (r++(qs (c::t)++[34]))):=by
    intro x sl1 H1 aE hA1 hB1 hx;have:=ih (i+1) (r++x) sl1 H1 aE hd' (by omega) (by rw[List.length_append,<- hx];omega) hB1 hA1;rw[hqs,hx];simpa[List.append_assoc]using this
   have hc8:c.toNat<256:=c.toNat_lt;have L30:∀b:Bool,(b=true↔(c.toNat<32\/126<c.toNat))->¬(c.toNat=34\/c.toNat=92)->c.toNat≠10->c.toNat≠9->vo P pl X0 (.jump (p4 (aD l) sl (i64 (i:Int)) (b8 c) b H nx)) nx0 H0 (λu _ _=>u=aD (r++(qs (c::t)++[34]))):=by
    intro b hb h1 h2 h3;refine Wq.jmp (Lj ..) (λ_=>rfl) ?_;refine Wq.bK (λh=> ?_) (λh=> ?_)
    . have hq:qc c=[92,120,hx (c.toNat/16),hx (c.toNat%16)]:=by unfold qc;rw[if_neg h1,if_neg h2,if_neg h3,if_pos (hb.1 h)]
      rw[hq]at hlen;simp only[af,u8_quo,R7,xP (show c.toNat/16<16 by omega),xP (show c.toNat%16<16 by omega)];refine Wq.mu cN gS eB hB (x:=[92,120,hx (c.toNat/16),hx (c.toNat%16)]) rfl rfl (X4 92 120 _ _) (λm hm=>iq (by simp at hm;simp at hlen;omega)) hA λH1 sl1 aE hB1 hA1 _=> ?_;simp only[af,aG (show i<9223372036854775807 by omega)];exact fin _ _ _ _ hA1 hB1 hq
    . have hq:qc c=[c]:=by unfold qc;rw[if_neg h1,if_neg h2,if_neg h3,if_neg (λq=>by rw[hb.2 q]at h;cases h)]
      rw[hq]at hlen;refine Wq.mu cN gS eB hB (x:=[c]) rfl rfl (R2 _) (λm hm=>iq (by simp at hm;simp at hlen;omega)) hA λH1 sl1 aE hB1 hA1 _=> ?_;simp only[af,aG (show i<9223372036854775807 by omega)];exact fin _ _ _ _ hA1 hB1 hq
   have L18:∀b:Bool,(b=true↔(c.toNat=34\/c.toNat=92))->vo P pl X0 (.jump (pZ (aD l) sl (i64 (i:Int)) (b8 c) b H nx)) nx0 H0 (λu _ _=>u=aD (r++(qs (c::t)++[34]))):=by
    intro b hb;refine Wq.jmp (Li ..) (λ_=>rfl) ?_;refine Wq.bK (λh=> ?_) (λh=> ?_)
    . have hq:qc c=[92,c]:=by unfold qc;rw[if_pos (hb.1 h)]
      rw[hq]at hlen;refine Wq.mu cN gS eB hB (x:=[92,c]) rfl rfl (Tb 92 _) (λm hm=>iq (by simp at hm;simp at hlen;omega)) hA λH1 sl1 aE hB1 hA1 _=> ?_;simp only[af,aG (show i<9223372036854775807 by omega)];exact fin _ _ _ _ hA1 hB1 hq
    have h1:¬(c.toNat=34\/c.toNat=92):=λq=>by rw[hb.2 q]at h;cases h
    simp only[af];refine Wq.ite (λh2=> ?_) (λh2=> ?_)
    . have h2:c.toNat=10:=by omega
      have hq:qc c=[92,110]:=by unfold qc;rw[if_neg h1,if_pos h2]
      rw[hq]at hlen;refine Wq.mu cN gS eB hB (x:=[92,110]) rfl rfl (Tb 92 110) (λm hm=>iq (by simp at hm;simp at hlen;omega)) hA λH1 sl1 aE hB1 hA1 _=> ?_;simp only[af,aG (show i<9223372036854775807 by omega)];exact fin _ _ _ _ hA1 hB1 hq
    have h2:c.toNat≠10:=by omega
    refine Wq.ite (λh3=> ?_) (λh3=> ?_)
    . have h3:c.toNat=9:=by omega
      have hq:qc c=[92,116]:=by unfold qc;rw[if_neg h1,if_neg h2,if_pos h3]
      rw[hq]at hlen;refine Wq.mu cN gS eB hB (x:=[92,116]) rfl rfl (Tb 92 116) (λm hm=>iq (by simp at hm;simp at hlen;omega)) hA λH1 sl1 aE hB1 hA1 _=> ?_;simp only[af,aG (show i<9223372036854775807 by omega)];exact fin _ _ _ _ hA1 hB1 hq
    have h3:c.toNat≠9:=by omega
    refine Wq.ite (λh4=>L30 true (by simp;omega) h1 h2 h3) (λh4=>L30 _ (by rw[decide_eq_true_eq];omega) h1 h2 h3)
   refine Wq.jmp (IB ..) (λ_=>rfl) ?_;simp only[af,aK _ aV,aP,aU hlt,a9 aV hg];refine Wq.ite (λh1=>L18 true (by simp;omega)) (λh1=>L18 _ (by rw[decide_eq_true_eq];omega))
theorem R9 (l:List UInt8)(hl:(qs l).length<=1000000)(hl2:l.length<9223372036854775807):P0 118 [aD l] (aD (quote l)):=Pure.of rfl λH nx=>by
 rw[Wm];refine Wq.row cN gS eB rfl (R2 34) (.refl _ _) λH1 hb1 _ hA1=> ?_;exact ML l hl2 l 0 [34] _ H1 _ rfl (Nat.zero_le _) (by simp;omega) (.inr ⟨nx,1,Nat.le_refl _,by omega,hb1,.inr rfl,rfl⟩) hA1
section
variable {nx0 nx:Nat}{H0 H:T OB}{R:Go.Ev.Out->T OB->Nat->Prop}
def cY (t:Tok):List UInt8:=if t.k=1 then EP t.n else if t.k=2 then quote t.s else t.s
def tw:List Tok->Nat
 | []=>0
 | t::ts=>(cY t).length+1+tw ts
end
section
variable {nx0 nx:Nat}{H0 H:T OB}{R:Go.Ev.Out->T OB->Nat->Prop}
theorem XA {n:Nat}(h:n<=1048576):bV P 9 1 n=true:=by
 have:bV P 9 1 n=(Nat.ble n 1048576&&true):=by kernel_rfl
 rw[this,Nat.ble_eq_true_of_le h];rfl
theorem XB (a:ByteArray):Instr.fill (λi=>some (i*1,1)) (bI [Value.string ⟨⟨[]⟩⟩] (1*1)) [(0,.string a)]=some ⟨[.string a]⟩:=by kernel_rfl
end
section
variable {nx0 nx nx' bp k:Nat}{H0 H H':T OB}{F A B G G':List Bx}{s:Bx}{R:Go.Ev.Out->T OB->Nat->Prop}{b:Nat}{l:List Value}{e t:TypeId}{L:List Tok}
theorem ET (w:List UInt8):pa false 1 [aD w]:=λv hv=>by
 rw[List.mem_singleton]at hv;subst hv;exact⟨rfl,rfl,rfl,rfl⟩
theorem Hq.lJ (w:List UInt8){kt:Value->Go.Ev.T OB->Nat->Q}(h:Hp nx0 H0 (s::F) H nx)(hk:∀b H' nx',Hp nx0 H0 (s::(b,[aD w],9)::F) H' nx'->aO P pl X0 (kt (gG b 1 1) H' nx') nx0 H0 R):aO P pl X0 (ao (aq P H nx 49 1 (some [(0,aD w)])) kt) nx0 H0 R:=
 Hq.row fY gT iM rfl (XB _) h hk
theorem Hq.EU (A:List Bx){l:List (List UInt8)}{w:List UInt8}{sl:Value}{kt:Value->Go.Ev.T OB->Nat->Q}(hl:l.length<=1000000)(hG:Gw false 1 9 (l.map aD) sl G)(h:Hp nx0 H0 (s::(b,[aD w],9)::(A++(G++B))) H nx)
 (hk:∀sl' G' H' nx',Gw false 1 9 ((l++[w]).map aD) sl' G'->Hp nx0 H0 (s::(A++(G'++B))) H' nx'->aO P pl X0 (kt sl' H' nx') nx0 H0 R):aO P pl X0 (ao (ba P H nx [49,49] (some [sl,gG b 1 1])) kt) nx0 H0 R:=
 Hq.add A (v:=aD w) fY gT (XA (by rw[List.length_map];omega)) (by rw[List.length_map];omega) (ET w) hG h λsl' G' H' nx' hG' h'=>hk sl' G' H' nx' (by rw[List.map_append];exact hG') h'
theorem Gw.UZ {l:List (List UInt8)}{sl:Value}(hG:Gw false 1 9 (l.map aD) sl G):db 1 49 sl (gk l) G:=
 db.gw fY gT lX rfl Xo hG (iN.id λv hv=>by obtain⟨x,_,rfl⟩:=List.mem_map.1 hv;exact gB.aD _) (λu hu=>by obtain⟨x,_,rfl⟩:=List.mem_map.1 hu;rfl) id
theorem Gw.U0 (w:List UInt8):Gw false 1 9 ([w].map aD) (gG b 1 1) [(b,[aD w],9)]:=Gw.one (vs:=[aD w]) (ET w) rfl (by decide)
theorem a_.R_ {vs:List (List UInt8)}{w:List UInt8}{cl:List da}{sv sc:Value}(hv:Gw false 1 9 (vs.map aD) sv G)(hc:Gw true 2 55 (cl.map da.v) sc G'):
 gB 1 k0 (.agg ⟨[i64 3,i64 0,i64 0,aD [],aC,i64 0,i64 0,aD [],aC,aC,aC,aC,sv,aD w,sc,aD [],aC]⟩) (Bz ⟨vs,w,cl⟩) (G++G'):=by
 show gB 1 k0 _ (a_.v _) _;rw[a_.br];have:=eW.cons (p:=(4,42)) (cs:=[i64 3,i64 0,i64 0,aD [],aC,i64 0,i64 0,aD [],aC,aC,aC,aC,sv,aD w,sc,aD [],aC]) rfl (jr (n:=1)) (eW.cons (p:=(8,41)) rfl uO (eW.cons (p:=(9,42)) rfl jr (eW.cons (p:=(10,24)) rfl nK (eW.cons (p:=(11,48)) rfl uP (eW.cons (p:=(12,49)) rfl hv.UZ (eW.cons (p:=(14,50)) rfl hc.UF (eW.cons (p:=(16,53)) rfl uQ eW.nil)))))));simp only[List.append_nil,List.nil_append]at this;exact gB.of this
theorem O8 (hL:L.length<=100000){vs:List (List UInt8)}{w:List UInt8}{sv:Value}(hv:Gw false 1 9 (vs.map aD) sv G'):∀(m:Nat),(∀j,j<m->bL 104 L da.v (ps L j).dY)->∀(l:List da) (k:Nat) (sl:Value) (G:List Bx) (o:iZ Data) (z:List Value) (x0 x1 nx:Nat) (H:Go.Ev.T OB),l.length+m<=90010->Gw true 2 55 (l.map da.v) sl G->z.length=17->
 bd ((ps L m).fC l k) (λl k=>yes ⟨vs,w,l⟩ k)=some o->Hp nx0 H0 (cQ bp L k::(x1,[sv,aD w,sl],52)::(x0,z,57)::(G'++(G++F))) H nx->
 aO P pl X0 (.jump (nb (ptr bp) (ptr x0) (ptr x1) H nx)) nx0 H0 (End nx0 H0 bp L F Bz o)
 | 0,_,l,k,sl,G,o,z,x0,x1,nx,H,hm,hG,hz,ho,h=>by cases ho
 | m+1,hp,l,k,sl,G,o,z,x0,x1,nx,H,hm,hG,hz,ho,h=>by
   have ho:bd (iu L (ps L m) l k) (λl k=>yes ⟨vs,w,l⟩ k)=some o:=ho;unfold iu at ho;refine Wq.jmp (La ..) (λ_=>rfl) ?_;refine Sq.take hL h (λhi H1 aE h1=> ?_) (λhi H1 aE h1=> ?_)
   . rw[if_pos hi,iy]at ho;simp only[af,aw (off:=2) (u:=sl) (h1.at_ 1 rfl) vD rfl];refine Sq.call (hp m (Nat.lt_succ_self m)) rfl h1 ho λc k' H2 nx2 _ ho2 h2=> ?_;simp only[af,aw (off:=2) (u:=sl) (h2.at_ 1 rfl) vD rfl,bj];refine Hq.xK c.cs c.len h2 λx H3 nx3 h3=> ?_;simp only[af,aw (off:=2) (u:=sl) (h3.at_ 2 rfl) vD rfl,bj];refine Hq.OM (_::_::G') (x:=c) (by omega) hG h3 λsl' G1 H4 nx4 hG1 h4=> ?_;refine Hq.put [_] h4 HF (by rcases hG1.2 with⟨_,rfl,_⟩ | ⟨b,c,rfl,_⟩<;>rfl) (cE hG1) (by simp) rfl λH5 h5=> ?_;exact O8 hL hv m (λj hj=>hp j (by omega)) (l++[c]) k' sl' G1 o z x0 x1 nx4 H5 (by rw[List.length_append];simp;omega) hG1 hz ho2 h5
   . rw[if_neg (by rw[hi];simp),eU]at ho;have hb:az P 57 (some [(0,i64 3),(4,.agg ⟨[sv,aD w,sl]⟩)])=some (.agg ⟨[i64 3,i64 0,i64 0,aD [],aC,i64 0,i64 0,aD [],aC,aC,aC,aC,sv,aD w,sl,aD [],aC]⟩):=EN ..;simp only[af,OP (h1.at_ 1 rfl) rfl,hb];have h5:Hp nx0 H0 (cQ bp L k::(x0,z,57)::((G'++G)++F)) H1 aE:=by
      rw[List.append_assoc];exact(Hp.mv [_] h1).sub (by simp)
     exact Hq.fin h5 dz fw jn hz rfl (by simp[cE hG,cE hv]) (a_.R_ hv hG) (by omega) λH9 nx9 h9=>End.ret ho rfl h9
theorem JR (hL:L.length<=100000){n:Nat}(hn:n<=90000)(hp:∀j,j<=n->bL 104 L da.v (ps L j).dY){vs:List (List UInt8)}{sv:Value}{z:List Value}{x0 x1:Nat}{o:iZ Data}(hv:Gw false 1 9 (vs.map aD) sv G')(hz:z.length=17)
 (ho:bC L 3 k (λt k=>aZ L [61] k λk=>bd ((ps L n).dY k) λc k=>bd (iu L (ps L n) [c] k) λl k=>yes (Data.mk vs t.s l) k)=some o) (h:Hp nx0 H0 (cQ bp L k::(x1,[sv,aD [],aC],52)::(x0,z,57)::(G'++F)) H nx):
 aO P pl X0 (aQ P pl (pP (ptr bp) (ptr x0) (ptr x1) H nx)) nx0 H0 (End nx0 H0 bp L F Bz o):=by
 rw[DX];refine Sq.word (by decide) hL h ho λH1 aE _ ho h1=> ?_;simp only[af];refine Hq.put [_] h1 gT rfl rfl (by simp) rfl λH2 h2=> ?_;refine Sq.kh hL h2 ho λH3 nx3 _ ho h3=> ?_;refine Sq.call (hp n (Nat.le_refl n)) rfl h3 ho λc k' H4 nx4 _ ho h4=> ?_;refine Hq.xK c.cs c.len h4 λx H5 nx5 h5=> ?_;refine Hq.put [_,_] h5 HF rfl rfl (by simp) rfl λH6 h6=> ?_;have h7:Hp nx0 H0 (cQ bp L k'::(x1,[sv,aD (tk L k).s,gG x 1 1],52)::(x0,z,57)::(G'++([(x,c.cs,55)]++F))) H6 nx5:=h6.perm (List.Perm.cons _ ((List.Perm.swap _ _ _).trans (List.Perm.cons _ ((List.Perm.swap _ _ _).trans (List.Perm.cons _ List.perm_middle.symm)))));exact O8 hL hv (n+1) (λj hj=>hp j (by omega)) [c] k' (gG x 1 1) [(x,c.cs,55)] o z x0 x1 nx5 H6 (show 1+(n+1)<=90010 by omega) (Gw.j1 c.fR) hz ho h7
theorem O9 (hL:L.length<=100000){n:Nat}(hn:n<=90000)(hp:∀j,j<=n->bL 104 L da.v (ps L j).dY):∀(m:Nat) (l:List (List UInt8)) (k:Nat) (sl:Value) (G:List Bx) (o:iZ Data) (z:List Value) (x0 x1 nx:Nat) (H:Go.Ev.T OB),l.length+m<=90010->Gw false 1 9 (l.map aD) sl G->z.length=17->
 bd ((ps L m).fB l k) (λl k=>aZ L [41] k λk=>bC L 3 k λt k=>aZ L [61] k λk=>bd ((ps L n).dY k) λc k=>bd (iu L (ps L n) [c] k) λcl k=>yes (Data.mk l t.s cl) k)=some o->Hp nx0 H0 (cQ bp L k::(x1,[sl,aD [],aC],52)::(x0,z,57)::(G++F)) H nx->
 aO P pl X0 (.jump (pQ (ptr bp) (ptr x0) (ptr x1) H nx)) nx0 H0 (End nx0 H0 bp L F Bz o)
 | 0,l,k,sl,G,o,z,x0,x1,nx,H,hm,hG,hz,ho,h=>by cases ho
 | m+1,l,k,sl,G,o,z,x0,x1,nx,H,hm,hG,hz,ho,h=>by
   have ho:bd (nr L (ps L m) l k) (λl k=>aZ L [41] k λk=>bC L 3 k λt k=>aZ L [61] k λk=>bd ((ps L n).dY k) λc k=>bd (iu L (ps L n) [c] k) λcl k=>yes (Data.mk l t.s cl) k)=some o:=ho;unfold nr at ho;refine Wq.jmp (K_ ..) (λ_=>rfl) ?_;refine Sq.take hL h (λhi H1 aE h1=> ?_) (λhi H1 aE h1=> ?_)
   . rw[if_pos hi]at ho;have ho:bC L 5 (k+1) (λt k=>bd ((ps L m).fB (l++[t.s]) k) (λl k=>aZ L [41] k λk=>bC L 3 k λt k=>aZ L [61] k λk=>bd ((ps L n).dY k) λc k=>bd (iu L (ps L n) [c] k) λcl k=>yes (Data.mk l t.s cl) k))=some o:=by
      rw[<- ho];unfold bC;split<;>rfl
     simp only[af,aw (off:=0) (u:=sl) (h1.at_ 1 rfl) gz rfl];refine Sq.word (by decide) hL h1 ho λH2 nx2 _ ho2 h2=> ?_;simp only[af,aw (off:=0) (u:=sl) (h2.at_ 1 rfl) gz rfl,bj];refine Hq.lJ (tk L (k+1)).s h2 λx H3 nx3 h3=> ?_;simp only[af,aw (off:=0) (u:=sl) (h3.at_ 2 rfl) gz rfl,bj];refine Hq.EU [_,_] (w:=(tk L (k+1)).s) (by omega) hG h3 λsl' G1 H4 nx4 hG1 h4=> ?_;refine Hq.put [_] h4 uD (by rcases hG1.2 with⟨_,rfl,_⟩ | ⟨b,c,rfl,_⟩<;>rfl) (cE hG1) (by simp) rfl λH5 h5=> ?_;exact O9 hL hn hp m (l++[(tk L (k+1)).s]) (k+1+1) sl' G1 o z x0 x1 nx4 H5 (by rw[List.length_append];simp;omega) hG1 hz ho2 h5
   . rw[if_neg (by rw[hi];simp),eU]at ho;simp only[af];refine Sq.kh hL h1 ho λH2 nx2 _ ho h2=> ?_;have:=JR hL hn hp hG hz ho h2;rw[DX]at this;exact this
theorem U1 (hL:L.length<=100000){n:Nat}(hn:n<=90000)(hp:∀j,j<=n->bL 104 L da.v (ps L j).dY):bL 103 L Bz (ps L (n+1)).data:=by
 intro nx0 nx H0 H bp F k o ho h;have ho:nu L (ps L n) k=some o:=ho;unfold nu pe at ho;rw[V9];refine Hq.alloc cW h λx0 H1 aE h1=> ?_;refine Hq.alloc pN h1 λx1 H2 nx2 h2=> ?_;refine Sq.now h2 λH3 nx3 h3=> ?_;refine Sq.Ew h3 λH4 nx4 h4=> ?_;simp only[af];refine Wq.ite (λhi=> ?_) (λhi=> ?_)
 . rw[if_pos hi,eU]at ho;simp only[af,pk h4,dE hL (gb (show(tk L k).k≠0 by omega))];refine dU h4 λH5 h5=> ?_;refine Hq.lJ (tk L k).s h5 λx H6 nx6 h6=> ?_;refine Hq.put [_,_] h6 uD rfl rfl (by simp) rfl λH7 h7=> ?_;exact Wq.jump (λ_=>rfl) (JR hL hn hp (G':=[(x,[aD (tk L k).s],9)]) (Gw.U0 _) rfl ho (Hp.nJ h7))
 rw[if_neg hi]at ho;refine Sq.take hL h4 (λhi H5 nx5 h5=> ?_) (λhi H5 nx5 h5=> ?_)
 . rw[if_pos hi]at ho;have ho:bC L 5 (k+1) (λt k=>bd (nr L (ps L n) [t.s] k) λl k=>aZ L [41] k λk=>bC L 3 k λt k=>aZ L [61] k λk=>bd ((ps L n).dY k) λc k=>bd (iu L (ps L n) [c] k) λcl k=>yes (Data.mk l t.s cl) k)=some o:=by
    rw[<- ho];unfold bC;split
    . rw[iy];show bd (nr L (ps L n) [(tk L (k+1)).s] (k+1+1)) _=bd (nr L (ps L n) [(tk L (k+1)).s] (k+1+1)) _;refine congrArg (bd (nr L (ps L n) [(tk L (k+1)).s] (k+1+1))) ?_;funext l k;unfold aZ;split<;>rfl
    . rfl
   simp only[af];refine Sq.word (by decide) hL h5 ho λH6 nx6 _ ho h6=> ?_;simp only[af];refine Hq.lJ (tk L (k+1)).s h6 λx H7 nx7 h7=> ?_;refine Hq.put [_,_] h7 uD rfl rfl (by simp) rfl λH8 h8=> ?_;exact O9 hL hn hp (n+1) [(tk L (k+1)).s] (k+1+1) (gG x 1 1) [(x,[aD (tk L (k+1)).s],9)] o _ x0 x1 nx7 H8 (show 1+(n+1)<=90010 by omega) (Gw.U0 _) rfl ho (Hp.nJ h8)
 . rw[if_neg (by rw[hi];simp),eU]at ho;simp only[af];exact Wq.jump (λ_=>rfl) (JR hL hn hp (G':=[]) (Gw.nil _ _ _) rfl ho h5)
end
section
variable {L:List Tok}
structure XC (L:List Tok)(p:PS):Prop where
 exp:bL 61 L aH.v p.exp
 fO:ME L p.fO
 bin:JH L p.bin
 un:bL 151 L aH.v p.un
 atom:bL 178 L aH.v p.atom
 lt:bL 188 L aH.v p.lt
 pat:bL 148 L bh.v p.pat
 bw:bL 177 L bh.v p.bw
 dT:bL 147 L bo.v p.dT
 post:bL 175 L bo.v p.post
 dY:bL 104 L da.v p.dY
 bind:bL 105 L gZ p.bind
 fn:bL 149 L Fn.v p.fn
 dec:bL 60 L gZ p.dec
 data:bL 103 L Bz p.data
theorem bL.none {α:Type}{f:FuncId}{vf:α->Value}:bL f L vf (λ_=> .none):=λnx0 nx H0 H bp F k o ho _=>by cases ho
theorem Sa (hL:L.length<=100000):∀n,n<=90001->∀j,j<=n->XC L (ps L j)
 | 0,_,j,hj=>by
   have:j=0:=by omega
   subst this;exact⟨bL.none,λnx0 nx H0 H bp F G k o kk l sl hl hG ho h=>(by cases ho),λlv nx0 nx H0 H bp F k o hl ho h=>(by cases ho),bL.none,bL.none,bL.none,bL.none,bL.none,bL.none,bL.none,bL.none,bL.none,bL.none,bL.none,bL.none⟩
 | n+1,hn,j,hj=>by
   have ih:=Sa hL n (by omega)
   by_cases hjn:j<=n
   . exact ih j hjn
   . have:j=n+1:=by omega
     subst this;have i:=ih n (Nat.le_refl n);have hn':n<=90000:=by omega
     exact {
      exp:=Xw hL i.exp i.fO λnx0 nx H0 H bp F k o=>i.bin 0 nx0 nx H0 H bp F k o (by omega)
      fO:=UL hL hn' (λj hj=>(ih j hj).pat) (λj hj=>(ih j hj).exp)
      bin:=UM hL hn' (λj hj=>(ih j hj).bin) i.un
      un:=UN hL hn' (λj hj=>(ih j hj).atom) i.un
      atom:=UP hL hn' (λj hj=>(ih j hj).exp) i.lt
      lt:=US hL hn' (λj hj=>(ih j hj).exp) (λj hj=>(ih j hj).bind)
      pat:=UJ hL i.bw i.pat
      bw:=UK hL hn' (λj hj=>(ih j hj).pat)
      dT:=UG hL hn' (λj hj=>(ih j hj).post) i.dT
      post:=UH hL hn' (λj hj=>(ih j hj).dT)
      dY:=UI hL i.dT
      bind:=UU hL hn' i.pat i.exp (λj hj=>(ih j hj).fn)
      fn:=UT hL hn' (λj hj=>(ih j hj).bw) i.exp
      dec:=Xx hL i.data i.dY i.bind
      data:=U1 hL hn' (λj hj=>(ih j hj).dY) }
theorem XD (hL:L.length<=100000){n:Nat}(hn:n<=90000):bL 35 L bQ ((ps L n).bW []):=by
 intro nx0 nx H0 H bp F k o ho h;rw[Yr];exact UW hL n (λj hj=>(Sa hL n (by omega) j (by omega)).dec) (λj hj=>(Sa hL n (by omega) j (by omega)).exp) [] [] k aC [] o nx H (by simp;omega) (Gw.nil _ _ _) iN.nil rfl ho h
end
section
variable {nx0 nx nx' bp k:Nat}{H0 H H':T OB}{F A B G G':List Bx}{R:Go.Ev.Out->T OB->Nat->Prop}{b:Nat}{l:List Value}{e t:TypeId}{L:List Tok}{s s':bJ}{w:List UInt8}
abbrev cq (bp:Nat)(L:List Tok)(s:bJ):Bx:=(bp,[fK L,i64 (s.1:Int),.bool s.2.isSome,i64 (s.2.getD 0)],77)
theorem Sb (h:Hp nx0 H0 (cq bp L s::F) H nx):ae P H 3 (some (.pointer (some ⟨bp,1,none⟩)))=some (i64 (s.1:Int)):=aw (h.at_ 0 rfl) m_ rfl
theorem Y9 (h:Hp nx0 H0 (cq bp L s::F) H nx):ae P H 29 (some (.pointer (some ⟨bp,0,none⟩)))=some (fK L):=aw (h.at_ 0 rfl) HE rfl
theorem tb (h:Hp nx0 H0 (cq bp L s::F) H nx):ae P H 4 (some (.pointer (some ⟨bp,2,none⟩)))=some (.bool s.2.isSome):=aw (h.at_ 0 rfl) TG rfl
theorem X6 (h:Hp nx0 H0 (cq bp L s::F) H nx):ae P H 3 (some (.pointer (some ⟨bp,3,none⟩)))=some (i64 (s.2.getD 0)):=aw (h.at_ 0 rfl) m_ rfl
theorem js {kt:Value->T OB->Nat->Q}(h:Hp nx0 H0 (cq bp L s::F) H nx)(hk:∀H',Hp nx0 H0 (cq bp L (aE s)::F) H' nx->aO P pl X0 (kt undef H' nx) nx0 H0 R):aO P pl X0 (ao (ah P H nx 3 (some (.pointer (some ⟨bp,1,none⟩))) (some (i64 ((s.1:Int)+1)))) kt) nx0 H0 R:=
 Hq.put [] h jk rfl rfl (by simp) rfl λH' h'=>hk H' h'
theorem k_ (o:Option Int):(!o.isSome)=o.isNone:=by cases o<;>rfl
theorem Sc (h:Hp nx0 H0 (cq bp L s::F) H nx):aO P pl X0 (aQ P pl (.call 37 [ptr bp] false none H nx)) nx0 H0 (λo H nx=>o= .ret (tk L s.1).v/\Hp nx0 H0 (cq bp L s::F) H nx):=by
 rw[Yt];refine Hq.alloc cB h λx0 H1 aE h1=> ?_;simp only[af,Sb h1,Y9 h1,List.length_map];refine Wq.ite (λhlt=> ?_) (λhge=> ?_)
 . have hlt':s.1<L.length:=by omega
   have hg:L[s.1]? = some L[s.1]:=List.getElem?_eq_getElem hlt';have hx:(L.map Tok.v)[s.1]? = some L[s.1].v:=by simp[hg]
   simp only[af,Ds hx];refine Hq.store [cq bp L s] h1 dy (by simp) rfl rfl λH2 h2=> ?_;simp only[af,zQ (h2.at_ 1 rfl)];refine dB ?_ h2.jm;show _=(tk L s.1).v;unfold tk;rw[hg];rfl
 . refine Hq.store [cq bp L s] h1 dy (by simp) rfl rfl λH2 h2=> ?_;simp only[af,zQ (h2.at_ 1 rfl)];refine dB ?_ h2.jm;show _=(tk L s.1).v;unfold tk;rw[List.getElem?_eq_none (by omega)];rfl
theorem Rq.now {kt p:Value->T OB->Nat->Q}(h:Hp nx0 H0 (cq bp L s::F) H nx)(hk:∀H' nx',Hp nx0 H0 (cq bp L s::F) H' nx'->aO P pl X0 (kt (tk L s.1).v H' nx') nx0 H0 R):aO P pl X0 (aj (.call 37 [ptr bp] false none H nx) kt p) nx0 H0 R:=Sq.dO rfl (Sc h) hk
theorem MM (h:Hp nx0 H0 (cq bp L s::F) H nx):aO P pl X0 (aQ P pl (.call 123 [ptr bp] false none H nx)) nx0 H0 (λo H nx=>o= .ret (.tuple ⟨[]⟩)/\Hp nx0 H0 (cq bp L (nw L s)::F) H nx):=by
 obtain⟨k,o⟩:=s;rw[Ws];simp only[af,tb h];cases o with
 | some a=>
   simp only[af,Option.isSome_some,Bool.not_true];exact fD h
 | none=>
   simp only[af,Option.isSome_none,Bool.not_false];refine Hq.put [] h V2 rfl rfl (by simp) rfl λH1 h1=> ?_;have h1:Hp nx0 H0 ((bp,[fK L,i64 (k:Int),.bool true,i64 0],77)::F) H1 nx:=h1;have h2:Hp nx0 H0 (cq bp L (k,some 0)::F) H1 nx:=h1;refine Rq.now h2 λH3 nx3 h3=> ?_;simp only[af];refine Hq.put [] h3 jk rfl rfl (by simp) rfl λH4 h4=> ?_;exact fD h4
theorem Rq.fail {kt p:Value->T OB->Nat->Q}(h:Hp nx0 H0 (cq bp L s::F) H nx)(hk:∀H' nx',Hp nx0 H0 (cq bp L (nw L s)::F) H' nx'->aO P pl X0 (kt (.tuple ⟨[]⟩) H' nx') nx0 H0 R):aO P pl X0 (aj (.call 123 [ptr bp] false none H nx) kt p) nx0 H0 R:=Sq.dO rfl (MM h) hk
theorem Se (w:List UInt8)(h:Hp nx0 H0 (cq bp L s::F) H nx):aO P pl X0 (aQ P pl (.call 71 [ptr bp,aD w] false none H nx)) nx0 H0 (λo H nx=>o= .ret (.bool (cK L w s))/\Hp nx0 H0 (cq bp L s::F) H nx):=by
 rw[YU];refine Rq.now h λH1 aE h1=> ?_;refine Sq.Ew h1 λH2 nx2 h2=> ?_;simp only[af,tb h2,k_];unfold cK dN jT;cases hn:s.2.isNone with
 | false=>simp only[af];exact dB (by simp) h2
 | true=>
   simp only[af];refine Wq.ite (λhi=> ?_) (λhi=> ?_)
   . refine dB ?_ h2;rw[hi,Ex];rfl
   . refine Wq.ite (λhj=> ?_) (λhj=> ?_)
     . refine dB ?_ h2;rw[hj,Ex];rfl
     . refine dB ?_ h2;simp[hi,hj]
theorem Rq.is {kt p:Value->T OB->Nat->Q}(h:Hp nx0 H0 (cq bp L s::F) H nx)(hk:∀H' nx',Hp nx0 H0 (cq bp L s::F) H' nx'->aO P pl X0 (kt (.bool (cK L w s)) H' nx') nx0 H0 R):aO P pl X0 (aj (.call 71 [ptr bp,aD w] false none H nx) kt p) nx0 H0 R:=Sq.dO rfl (Se w h) hk
theorem Sf (h:cK L w s=true):s.1<L.length:=by
 unfold cK at h;rw[Bool.and_eq_true]at h;exact jY h.2
theorem Sg (h:cK L w s=true):s.2=none:=by
 unfold cK at h;rw[Bool.and_eq_true]at h;exact Option.isNone_iff_eq_none.1 h.1
theorem JS (w:List UInt8)(hL:L.length<=100000)(h:Hp nx0 H0 (cq bp L s::F) H nx):aO P pl X0 (aQ P pl (.call 40 [ptr bp,aD w] false none H nx)) nx0 H0 (λo H nx=>o= .ret (.bool (cK L w s))/\Hp nx0 H0 (cq bp L (jo L w s)::F) H nx):=by
 rw[Yw];refine Rq.is h λH1 aE h1=> ?_;unfold jo;cases hi:cK L w s with
 | false=>
   simp only[af];refine Wq.jmp (HV ..) (λ_=>rfl) ?_;exact fD (by simpa using h1)
 | true=>
   simp only[af,Sb h1,dE hL (Sf hi)];refine js h1 λH2 h2=> ?_;refine Wq.jmp (HV ..) (λ_=>rfl) ?_;exact fD (by simpa using h2)
theorem Rq.O_ {kt p:Value->T OB->Nat->Q}(hL:L.length<=100000)(h:Hp nx0 H0 (cq bp L s::F) H nx)(hk:∀b H' nx',Hp nx0 H0 (cq bp L (jo L w s)::F) H' nx'->aO P pl X0 (kt (.bool b) H' nx') nx0 H0 R):aO P pl X0 (aj (.call 40 [ptr bp,aD w] false none H nx) kt p) nx0 H0 R:=Sq.dO rfl (JS w hL h) λH' nx' h'=>hk _ H' nx' h'
theorem Rq.take {kt p:Value->T OB->Nat->Q}(hL:L.length<=100000)(h:Hp nx0 H0 (cq bp L s::F) H nx)(ht:cK L w s=true->∀H' nx',Hp nx0 H0 (cq bp L (aE s)::F) H' nx'->aO P pl X0 (kt (.bool true) H' nx') nx0 H0 R)
 (hf:¬cK L w s=true->∀H' nx',Hp nx0 H0 (cq bp L s::F) H' nx'->aO P pl X0 (kt (.bool false) H' nx') nx0 H0 R):aO P pl X0 (aj (.call 40 [ptr bp,aD w] false none H nx) kt p) nx0 H0 R:=
 Sq.dO rfl (JS w hL h) λH' nx' h'=>by
  unfold jo at h';cases hi:cK L w s with
  | true=>rw[hi,if_pos rfl]at h';exact ht hi H' nx' h'
  | false=>rw[hi,if_neg (by simp)]at h';exact hf (by rw[hi];simp) H' nx' h'
theorem Sh (w:List UInt8)(hL:L.length<=100000)(h:Hp nx0 H0 (cq bp L s::F) H nx):aO P pl X0 (aQ P pl (.call 68 [ptr bp,aD w] false none H nx)) nx0 H0 (λo H nx=>o= .ret (.tuple ⟨[]⟩)/\Hp nx0 H0 (cq bp L (dZ L w s)::F) H nx):=by
 rw[YR];unfold dZ;refine Rq.take hL h (λhi H1 aE h1=> ?_) (λhi H1 aE h1=> ?_)
 . simp only[af];rw[if_pos hi];exact fD h1
 . simp only[af];rw[if_neg hi];exact Rq.fail h1 λH2 nx2 h2=>fD h2
theorem Rq.aZ {kt p:Value->T OB->Nat->Q}(hL:L.length<=100000)(h:Hp nx0 H0 (cq bp L s::F) H nx)(hk:∀H' nx',Hp nx0 H0 (cq bp L (dZ L w s)::F) H' nx'->aO P pl X0 (kt (.tuple ⟨[]⟩) H' nx') nx0 H0 R):aO P pl X0 (aj (.call 68 [ptr bp,aD w] false none H nx) kt p) nx0 H0 R:=Sq.dO rfl (Sh w hL h) hk
theorem uT {c:Int}(hc:c≠0)(h:cw L c s=true):s.1<L.length:=by
 unfold cw at h;rw[Bool.and_eq_true,decide_eq_true_eq]at h;exact gb (by rw[h.2];exact hc)
abbrev Ac (L:List Tok)(c:Int)(s:bJ):List UInt8:=if cw L c s=true then(tk L s.1).s else[]
abbrev Gr (L:List Tok)(c:Int)(s:bJ):bJ:=if cw L c s=true then aE s else nw L s
theorem MN (c:Int)(hL:L.length<=100000)(hc:c≠0)(h:Hp nx0 H0 (cq bp L s::F) H nx):aO P pl X0 (aQ P pl (.call 119 [ptr bp,i64 c] false none H nx)) nx0 H0 (λo H nx=>o= .ret (aD (Ac L c s))/\Hp nx0 H0 (cq bp L (Gr L c s)::F) H nx):=by
 rw[Wn];refine Rq.now h λH1 aE h1=> ?_;refine Sq.Ew h1 λH2 nx2 h2=> ?_;simp only[af,tb h2];have J:∀b,cw L c s= !b->aO P pl X0 (.jump (wK (ptr bp) (ak (tk L s.1).v) b H2 nx2)) nx0 H0 (λo H nx=>o= .ret (aD (Ac L c s))/\Hp nx0 H0 (cq bp L (Gr L c s)::F) H nx):=by
  intro b hb;refine Wq.jmp (Qq ..) (λ_=>rfl) ?_;unfold Ac Gr;cases b with
  | true=>
    rw[hb,Bool.not_true,if_neg (by simp),if_neg (by simp)];simp only[af];exact Rq.fail h2 λH3 nx3 h3=>fD h3
  | false=>
    have hr:cw L c s=true:=hb;rw[if_pos hr,if_pos hr];simp only[af,Sb h2,dE hL (uT hc hr)];refine js h2 λH3 h3=> ?_;exact fD h3
 unfold cw at J;cases hs:s.2 with
 | some a=>
   rw[hs]at J;simp only[af,Option.isSome_some];exact J true (by simp)
 | none=>
   rw[hs]at J;simp only[af,Option.isSome_none];exact J _ (by simp)
theorem Rq.kind {c:Int}{kt p:Value->T OB->Nat->Q}(hc:c≠0)(hL:L.length<=100000)(h:Hp nx0 H0 (cq bp L s::F) H nx)(hk:∀H' nx',Hp nx0 H0 (cq bp L (Gr L c s)::F) H' nx'->aO P pl X0 (kt (aD (Ac L c s)) H' nx') nx0 H0 R):aO P pl X0 (aj (.call 119 [ptr bp,i64 c] false none H nx) kt p) nx0 H0 R:=Sq.dO rfl (MN c hL hc h) hk
theorem MO (h:Hp nx0 H0 (cq bp L s::F) H nx):aO P pl X0 (aQ P pl (.call 189 [ptr bp] false none H nx)) nx0 H0 (λo H nx=>o= .ret (.bool (kj L s))/\Hp nx0 H0 (cq bp L s::F) H nx):=by
 rw[W1];simp only[af,tb h,k_];unfold kj iU;cases hn:s.2.isNone with
 | false=>
   simp only[af];refine Rq.is h λH1 aE h1=> ?_;unfold cK;rw[hn];simp only[af];exact fD h1
 | true=>
   simp only[af];refine Rq.now h λH1 aE h1=> ?_;simp only[af];refine Wq.ite (λhi=> ?_) (λhi=> ?_)
   . exact dB (by simp[hi]) h1
   . refine Rq.is h1 λH2 nx2 h2=> ?_;unfold cK;rw[hn];simp only[af];exact dB (by simp[hi]) h2
theorem Rq.Rs {kt p:Value->T OB->Nat->Q}(h:Hp nx0 H0 (cq bp L s::F) H nx)(hk:∀H' nx',Hp nx0 H0 (cq bp L s::F) H' nx'->aO P pl X0 (kt (.bool (kj L s)) H' nx') nx0 H0 R):aO P pl X0 (aj (.call 189 [ptr bp] false none H nx) kt p) nx0 H0 R:=Sq.dO rfl (MO h) hk
theorem MP (h:kj L s=true):s.1<L.length:=by
 unfold kj at h;rw[Bool.and_eq_true]at h;exact qq h.2
abbrev MQ (L:List Tok)(s:bJ):List UInt8:=if kj L s=true then(tk L s.1).s else[]
abbrev MR (L:List Tok)(s:bJ):bJ:=if kj L s=true then aE s else nw L s
theorem MS (hL:L.length<=100000)(h:Hp nx0 H0 (cq bp L s::F) H nx):aO P pl X0 (aQ P pl (.call 190 [ptr bp] false none H nx)) nx0 H0 (λo H nx=>o= .ret (aD (MQ L s))/\Hp nx0 H0 (cq bp L (MR L s)::F) H nx):=by
 rw[W2];refine Rq.now h λH1 aE h1=> ?_;simp only[af];refine Rq.Rs h1 λH2 nx2 h2=> ?_;unfold MQ MR;cases hi:kj L s with
 | false=>
   simp only[af];exact Rq.fail h2 λH3 nx3 h3=>fD h3
 | true=>
   simp only[af,Sb h2,dE hL (MP hi)];refine js h2 λH3 h3=> ?_;exact fD h3
theorem Rq.name {kt p:Value->T OB->Nat->Q}(hL:L.length<=100000)(h:Hp nx0 H0 (cq bp L s::F) H nx)(hk:∀H' nx',Hp nx0 H0 (cq bp L (MR L s)::F) H' nx'->aO P pl X0 (kt (aD (MQ L s)) H' nx') nx0 H0 R):aO P pl X0 (aj (.call 190 [ptr bp] false none H nx) kt p) nx0 H0 R:=Sq.dO rfl (MS hL h) hk
theorem Rq.U2 {kt p:Value->T OB->Nat->Q}(w:List UInt8)(h:Hp nx0 H0 (cq bp L s::F) H nx)(hs:s.2.isNone=true)(hk:∀H' nx',Hp nx0 H0 (cq bp L s::F) H' nx'->aO P pl X0 (kt (.bool (dN L s.1 w)) H' nx') nx0 H0 R):aO P pl X0 (aj (.call 71 [ptr bp,aD w] false none H nx) kt p) nx0 H0 R:=
 Rq.is h λH' nx' h'=>by unfold cK;rw[hs,Bool.true_and];exact hk H' nx' h'
theorem MT (hs:s.2.isNone=true)(h:Hp nx0 H0 (cq bp L s::F) H nx):aO P pl X0 (aQ P pl (.call 197 [ptr bp] false none H nx)) nx0 H0 (λo H nx=>o= .ret (.bool (lP L s.1))/\Hp nx0 H0 (cq bp L s::F) H nx):=by
 rw[W8];refine Rq.now h λH1 aE h1=> ?_;simp only[af];unfold lP jU;refine Wq.ite (λhi=>dB (by simp[hi]) h1) (λhi=> ?_);refine Wq.ite (λhj=>dB (by simp[hj]) h1) (λhj=> ?_);refine Wq.ite (λhk=>dB (by simp[hk]) h1) (λhk=> ?_);refine Wq.ite (λhl=>dB (by simp[hl]) h1) (λhl=> ?_);refine Rq.U2 [40] h1 hs λH2 nx2 h2=> ?_;cases hm:dN L s.1 [40]with
 | true=>simp only[af];exact dB (by simp) h2
 | false=>
   simp only[af];refine Rq.U2 [108,101,116] h2 hs λH3 nx3 h3=> ?_;simp only[af];exact dB (by simp[hi,hj,hk,hl]) h3
theorem Rq.Xq {kt p:Value->T OB->Nat->Q}(hs:s.2.isNone=true)(h:Hp nx0 H0 (cq bp L s::F) H nx)(hk:∀H' nx',Hp nx0 H0 (cq bp L s::F) H' nx'->aO P pl X0 (kt (.bool (lP L s.1)) H' nx') nx0 H0 R):aO P pl X0 (aj (.call 197 [ptr bp] false none H nx) kt p) nx0 H0 R:=Sq.dO rfl (MT hs h) hk
theorem MU (h:Hp nx0 H0 (cq bp L s::F) H nx):aO P pl X0 (aQ P pl (.call 159 [ptr bp] false none H nx)) nx0 H0 (λo H nx=>o= .ret (.bool (pf L s))/\Hp nx0 H0 (cq bp L s::F) H nx):=by
 rw[WM];refine Rq.now h λH1 aE h1=> ?_;simp only[af,tb h1,k_];unfold pf kT jU;cases hs:s.2.isNone with
 | false=>simp only[af];exact dB (by simp) h1
 | true=>
   simp only[af];refine Wq.ite (λhi=>dB (by simp[hi]) h1) (λhi=> ?_);refine Wq.ite (λhj=>dB (by simp[hj]) h1) (λhj=> ?_);refine Wq.ite (λhk=>dB (by simp[hk]) h1) (λhk=> ?_);refine Wq.ite (λhl=>dB (by simp[hl]) h1) (λhl=> ?_);refine Rq.U2 [40] h1 hs λH2 nx2 h2=> ?_;cases hm:dN L s.1 [40]with
   | true=>simp only[af];exact dB (by simp) h2
   | false=>
     simp only[af];refine Rq.U2 [95] h2 hs λH3 nx3 h3=> ?_;cases hn:dN L s.1 [95]with
     | true=>simp only[af];exact dB (by simp) h3
     | false=>
       simp only[af];refine Rq.U2 [126] h3 hs λH4 nx4 h4=> ?_;simp only[af];exact dB (by simp[hi,hj,hk,hl]) h4
theorem Rq.Jq {kt p:Value->T OB->Nat->Q}(h:Hp nx0 H0 (cq bp L s::F) H nx)(hk:∀H' nx',Hp nx0 H0 (cq bp L s::F) H' nx'->aO P pl X0 (kt (.bool (pf L s)) H' nx') nx0 H0 R):aO P pl X0 (aj (.call 159 [ptr bp] false none H nx) kt p) nx0 H0 R:=Sq.dO rfl (MU h) hk
def oK (L:List Tok)(l:List (List UInt8))(s:bJ):List UInt8:=if(s.2.isNone&&(jT L s.1&&l.contains (tk L s.1).s))=true then(tk L s.1).s else[]
theorem qD {l:List (List UInt8)}:oK L l s=((l.find? λw=>cK L w s).getD []):=by
 unfold oK
 by_cases hs:s.2.isNone=true
 . by_cases hw:jT L s.1=true
   . have e:∀w,cK L w s=decide ((tk L s.1).s=w):=λw=>by unfold cK dN;rw[hs,hw];simp
     induction l with
     | nil=>simp
     | cons w l ih=>
       rw[List.find?_cons,e w]
       by_cases hq:(tk L s.1).s=w
       . rw[decide_eq_true hq];simp[hs,hw,hq]
       . rw[decide_eq_false hq];show _=(List.find? (λw=>cK L w s) l).getD [];rw[<- ih];simp only[hs,hw,Bool.true_and,List.contains_cons];have:((tk L s.1).s == w)=false:=by simpa using hq
         rw[this,Bool.false_or]
   . have e:l.find? (λw=>cK L w s)=none:=List.find?_eq_none.2 λw _=>by unfold cK dN;simp[hw]
     rw[e];simp[hw]
 . have e:l.find? (λw=>cK L w s)=none:=List.find?_eq_none.2 λw _=>by unfold cK;simp[hs]
   rw[e];simp[hs]
theorem Pa:eK P (some 49)=true:=by kernel_rfl
theorem xQ {ws:List (List UInt8)}{n:Nat}{sv:Value}(hn:ws.length=n)(hw:n<100000)(hln:aN P #[49] 3 (some [sv])=some (i64 (n:Int)))
 (hx:∀i w,ws[i]? = some w->∃p,ay P 49 (some sv) (some (i64 ((i:Nat):Int)))=some p/\∀H nx,Hp nx0 H0 (cq bp L s::F) H nx->ae P H 9 (some p)=some (aD w)):∀(d i:Nat) (nx:Nat) (H:Go.Ev.T OB),i+d=n->(∀j,j<i->∀w,ws[j]? = some w->cK L w s=false)->Hp nx0 H0 (cq bp L s::F) H nx->
 aO P pl X0 (.jump (w4 (ptr bp) sv (i64 ((i:Nat):Int)) H nx)) nx0 H0 (λo H nx=>o= .ret (aD (oK L ws s))/\Hp nx0 H0 (cq bp L s::F) H nx)
 | 0,i,nx,H,hd,hf,h=>by
   refine Wq.jmp (IC ..) (λ_=>rfl) ?_;simp only[af,hln];rw[decide_eq_false (by omega)];simp only[af];refine dB ?_ h;have:ws.find? (λw=>cK L w s)=none:=by
    rw[List.find?_eq_none];intro w hw';obtain⟨j,hj,e⟩:=List.getElem_of_mem hw';rw[hf j (by omega) w (by rw[List.getElem?_eq_getElem hj,e])];simp
   rw[qD,this];rfl
 | d+1,i,nx,H,hd,hf,h=>by
   have hi:i<ws.length:=by omega
   have hg:ws[i]? = some ws[i]:=List.getElem?_eq_getElem hi;obtain⟨p,hp,hl⟩:=hx i ws[i] hg;refine Wq.jmp (IC ..) (λ_=>rfl) ?_;simp only[af,hln];rw[decide_eq_true (by omega)];simp only[af,hp,hl _ _ h];refine Rq.is h λH1 aE h1=> ?_;cases hr:cK L ws[i] s with
   | true=>
     simp only[af,hp,hl _ _ h1];refine dB ?_ h1;have hs:s.2.isNone=true:=by have:=Sg hr;rw[this];rfl
     have hwd:jT L s.1=true/\(tk L s.1).s=ws[i]:=by
      unfold cK dN at hr;rw[hs,Bool.true_and,Bool.and_eq_true,decide_eq_true_eq]at hr;exact hr
     unfold oK;have hc:ws.contains (tk L s.1).s=true:=by rw[hwd.2];simp
     rw[hs,hwd.1,hc,hwd.2];rfl
   | false=>
     simp only[af,aG (i:=i) (by omega)];exact xQ hn hw hln hx d (i+1) aE H1 (by omega) (λj hj w hw=>by
      rcases Nat.lt_succ_iff_lt_or_eq.1 hj with q | rfl
      . exact hf j q w hw
      . rw[hg]at hw;cases hw;exact hr) h1
theorem Rq.EV {ws:List (List UInt8)}{n:Nat}{kt p:Value->T OB->Nat->Q}(hn:ws.length=n)(hw:n<100000)(h:Hp nx0 H0 (cq bp L s::(b,ws.map aD,9)::F) H nx)(hk:∀H' nx',Hp nx0 H0 (cq bp L s::F) H' nx'->aO P pl X0 (kt (aD (oK L ws s)) H' nx') nx0 H0 R):aO P pl X0 (aj (.call 192 [ptr bp,.slice (some ⟨b,0,none⟩) n n] false none H nx) kt p) nx0 H0 R:=
 Sq.dO rfl (F':=cq bp L s::(b,ws.map aD,9)::F) (by
  rw[TV];exact xQ hn hw (dW Pa) (λi w hg=>⟨_,jO (s:=1) (by kernel_rfl) (by have:=(List.getElem?_eq_some_iff.1 hg).1;omega) .i64,λH nx h=>aw (h.at_ 1 rfl) lX (by simp[hg])⟩) n 0 nx H (by omega) (λj hj=>by omega) h) λH' nx' h'=>hk H' nx' h'.jm
theorem Rq.XE {ws:List (List UInt8)}{kt p:Value->T OB->Nat->Q}(hw:ws.length<100000)(h:Hp nx0 H0 (cq bp L s::F) H nx)(hk:∀H' nx',Hp nx0 H0 (cq bp L s::F) H' nx'->aO P pl X0 (kt (aD (oK L ws s)) H' nx') nx0 H0 R):aO P pl X0 (aj (.call 192 [ptr bp,gk ws] false none H nx) kt p) nx0 H0 R:=
 Sq.dO rfl (F':=cq bp L s::F) (by
  rw[TV];exact xQ rfl hw (by rw[ek 1 _ Pa,List.length_map]) (λi w hg=>⟨_,zn (u:=aD w) (by simp[hg]) .i64,λH nx h=>by rw[PN];rfl⟩) ws.length 0 nx H (by omega) (λj hj=>by omega) h) λH' nx' h'=>hk H' nx' h'
end
section
variable {nx0 nx nx' bp k:Nat}{H0 H H':T OB}{F A B G G':List Bx}{R:Go.Ev.Out->T OB->Nat->Prop}{b:Nat}{l:List Value}{e t:TypeId}{L:List Tok}{s s':bJ}{w:List UInt8}{x:Bx}
abbrev bD {α:Type}(nx0:Nat)(H0:T OB)(bp:Nat)(L:List Tok)(F:List Bx)(vf:α->Value)(o:α×bJ):Go.Ev.Out->T OB->Nat->Prop:=λq H nx=>q= .ret (vf o.1)/\Hp nx0 H0 (cq bp L o.2::F) H nx
def bf {α:Type}(f:FuncId)(L:List Tok)(vf:α->Value)(r:bJ->RR α):Prop:=∀nx0 nx H0 H bp F s o,r s=some o->Hp nx0 H0 (cq bp L s::F) H nx->aO P pl X0 (aQ P pl (.call f [ptr bp] false none H nx)) nx0 H0 (bD nx0 H0 bp L F vf o)
theorem bD.ret {α:Type}{vf:α->Value}{a:α}{u:Value}{o:α×bJ}(ho:ry a s=some o)(e:u=vf a)(h:Hp nx0 H0 (cq bp L s::F) H nx):aO P pl X0 (.ret ⟨.ret u,false,H,nx⟩) nx0 H0 (bD nx0 H0 bp L F vf o):=by
 cases ho;exact Wq.ic h.ag ⟨by rw[e],h⟩
theorem Rq.call {α β:Type}{f:FuncId}{vf:α->Value}{r:bJ->RR α}{g:α->bJ->RR β}{o:β×bJ}{kt p:Value->T OB->Nat->Q}(hs:bf f L vf r)(hx:X0 f [ptr bp]=none)(h:Hp nx0 H0 (cq bp L s::G) H nx)(ho:rb (r s) g=some o)
 (hk:∀a s' H' nx',r s=some (a,s')->g a s'=some o->Hp nx0 H0 (cq bp L s'::G) H' nx'->aO P pl X0 (kt (vf a) H' nx') nx0 H0 R):aO P pl X0 (aj (.call f [ptr bp] false none H nx) kt p) nx0 H0 R:=by
 cases hr:r s with
 | none=>rw[hr]at ho;cases ho
 | some q=>
   obtain⟨a,s'⟩:=q;rw[hr]at ho;exact Sq.dO hx (hs nx0 nx H0 H bp G s (a,s') hr h) λH' nx' h'=>hk a s' H' nx' hr ho h'
theorem Pb {α:Type}(x:RR α):rb x ry=x:=by
 cases x with
 | none=>rfl
 | some r=>rfl
theorem kb {α β γ:Type}(x:RR α)(f:α->bJ->RR β)(g:β->bJ->RR γ):rb (rb x f) g=rb x λa k=>rb (f a k) g:=by
 cases x with
 | none=>rfl
 | some r=>rfl
theorem iP {α β:Type}(a:α)(s:bJ)(f:α->bJ->RR β):rb (ry a s) f=f a s:=rfl
theorem bf.none {α:Type}{f:FuncId}{vf:α->Value}:bf f L vf (λ_=> .none):=λnx0 nx H0 H bp F s o ho _=>by cases ho
theorem MV (op:List UInt8)(a c:aH)(h:Hp nx0 H0 (x::F) H nx):aO P pl X0 (aQ P pl (.call 125 [aD op,a.v,c.v] false none H nx)) nx0 H0 (λo H nx=>o= .ret (two op a c).v/\Hp nx0 H0 (x::F) H nx):=by
 rw[Wv];refine Wq.bO (Wq.bO ?_);refine Hq.alloc bc h.succ.succ λx0 H1 aE h1=> ?_;simp only[af,pj];refine Hq.nE a.cs c.cs a.len c.len h1 λx1 H2 nx2 h2=> ?_;simp only[af,nF];have h3:Hp nx0 H0 (x::(x0,_,44)::([(x1,a.cs++c.cs,44)]++F)) H2 nx2:=Hp.swap' h2;exact Hq.fin h3 bG bZ de rfl rfl rfl (dP.b2 (dP.of a)).fz (by omega) λH5 nx5 h5=>fD h5
theorem Rq.two {op:List UInt8}{a c:aH}{kt p:Value->T OB->Nat->Q}(h:Hp nx0 H0 (x::F) H nx)(hk:∀H' nx',Hp nx0 H0 (x::F) H' nx'->aO P pl X0 (kt (two op a c).v H' nx') nx0 H0 R):aO P pl X0 (aj (.call 125 [aD op,a.v,c.v] false none H nx) kt p) nx0 H0 R:=Sq.dO rfl (MV op a c h) hk
theorem BC {b:Nat}{a:aH}(h:cR H b a.cs 44):ae P H 44 (some (ptr b))=some a.v:=d_ h a.len
theorem Hq.kl (A:List Bx){a:aH}{z:List Value}{kt:Value->Go.Ev.T OB->Nat->Q}(h:Hp nx0 H0 (A++(b,z,44)::B) H nx)(hz:z.length=6)(hk:∀H',Hp nx0 H0 (A++(b,a.cs,44)::B) H' nx->aO P pl X0 (kt undef H' nx) nx0 H0 R):aO P pl X0 (ao (ah P H nx 44 (some (ptr b)) (some a.v)) kt) nx0 H0 R:=
 Hq.set A h bG hz a.len (dP.of a).one hk
theorem Tc {z z':List Value}{a:aH}{x0 x1:Nat}{kt:Value->Go.Ev.T OB->Nat->Q}(h:Hp nx0 H0 (x::(x1,z',44)::(x0,z,44)::F) H nx)(hz:z.length=6)(hk:∀H' nx',Hp nx0 H0 (x::F) H' nx'->aO P pl X0 (kt a.v H' nx') nx0 H0 R):
 aO P pl X0 (ao (ah P H nx 44 (some (ptr x0)) (some a.v)) λ_ H nx=>aa (ae P H 44 (some (ptr x0))) (λx=>aX P 44 x H nx kt) .bad) nx0 H0 R:=
 Hq.kZ (F:=F) (h.sub (by simp)) hz hk
theorem qE {l:List (List UInt8)}{s:bJ}(hl:l.contains []=false):decide (oK L l s=[])= !(s.2.isNone&&(jT L s.1&&l.contains (tk L s.1).s)):=by
 unfold oK;cases hq:(s.2.isNone&&(jT L s.1&&l.contains (tk L s.1).s))with
 | false=>simp
 | true=>
   rw[if_pos rfl];simp only[Bool.and_eq_true]at hq;have:(tk L s.1).s≠[]:=λq=>by rw[q,hl]at hq;simp at hq
   simp[this]
theorem qF {l:List (List UInt8)}(h:(s.2.isNone&&(jT L s.1&&l.contains (tk L s.1).s))=true):oK L l s=(tk L s.1).s/\cK L (tk L s.1).s s=true:=by
 unfold oK;rw[if_pos h];simp only[Bool.and_eq_true]at h;refine⟨rfl,?_⟩;unfold cK dN;simp[h.1,h.2.1]
abbrev EW (lv:Nat):List (List UInt8):=(bE[lv]?).getD []
theorem xR {lv:Nat}:OL L lv s=(s.2.isNone&&(jT L s.1&&(EW lv).contains (tk L s.1).s)):=rfl
theorem qG {lv:Nat}{w:List UInt8}(h:EW lv=[w]):OL L lv s=cK L w s:=by
 rw[xR,h];unfold cK dN;congr 2;rw[Bool.eq_iff_iff];simp
theorem EX (h:cK L w s=true):(tk L s.1).s=w:=by
 unfold cK dN at h;rw[Bool.and_eq_true,Bool.and_eq_true,decide_eq_true_eq]at h;exact h.2.2
theorem qH (h:cK L w s=true):dZ L w s=aE s:=by unfold dZ;rw[if_pos h]
theorem JT (hL:L.length<=100000):∀(m:Nat),(∀j,j<m->bf 124 L aH.v ((rp L j).bin 1))->∀(a:aH) (s:bJ) (o:aH×bJ) (z:List Value) (x0 x2 nx:Nat) (H:Go.Ev.T OB),z.length=6->(rp L m).fy 0 a s=some o->Hp nx0 H0 (cq bp L s::(x2,a.cs,44)::(x0,z,44)::F) H nx->
 aO P pl X0 (.jump (DR (ptr bp) (ptr x0) (ptr x2) H nx)) nx0 H0 (bD nx0 H0 bp L F aH.v o)
 | 0,_,a,s,o,z,x0,x2,nx,H,hz,ho,h=>by cases ho
 | m+1,hp,a,s,o,z,x0,x2,nx,H,hz,ho,h=>by
   have ho:gp L (rp L m) 0 a s=some o:=ho;unfold gp at ho;refine Wq.jmp (TQ ..) (λ_=>rfl) ?_;have e:OL L 0 s=cK L [111,114,101,108,115,101] s:=qG rfl;rw[e]at ho;refine Rq.take hL h (λhi H1 aE h1=> ?_) (λhi H1 aE h1=> ?_)
   . rw[if_pos hi,if_neg (by decide),EX hi]at ho;simp only[af];refine Rq.call (hp m (Nat.lt_succ_self m)) rfl h1 ho λc s' H2 nx2 _ ho h2=> ?_;refine Hq.gV h2 λH3 nx3 h3=> ?_;simp only[af,BC (h3.at_ 1 rfl),pj];refine Rq.two h3 λH4 nx4 h4=> ?_;refine Hq.kl [_] h4 a.len λH5 h5=> ?_;exact JT hL m (λj hj=>hp j (by omega)) _ s' o z x0 x2 nx4 H5 hz ho h5
   . rw[if_neg hi]at ho;simp only[af,BC (h1.at_ 1 rfl)];exact Tc h1 hz λH9 nx9 h9=>bD.ret ho rfl h9
theorem Si (hL:L.length<=100000){n:Nat}(hp:∀j,j<=n->bf 124 L aH.v ((rp L j).bin 1)):bf 70 L aH.v ((rp L (n+1)).bin 0):=by
 intro nx0 nx H0 H bp F s o ho h;have ho:iV L (rp L n) 0 s=some o:=ho;unfold iV at ho;rw[if_neg (by decide)]at ho;rw[YT];refine Hq.alloc bc h λx0 H1 aE h1=> ?_;refine Rq.call (hp n (Nat.le_refl n)) rfl h1 ho λa s' H2 nx2 _ ho h2=> ?_;refine Hq.alloc bc h2 λx2 H3 nx3 h3=> ?_;refine Hq.kl [_] h3 rfl λH4 h4=> ?_;exact JT hL (n+1) (λj hj=>hp j (by omega)) a s' o _ x0 x2 nx3 H4 rfl ho h4
theorem EY (hL:L.length<=100000):∀(m:Nat),(∀j,j<m->bf 161 L aH.v ((rp L j).bin 2))->∀(a:aH) (s:bJ) (o:aH×bJ) (z:List Value) (x0 x2 nx:Nat) (H:Go.Ev.T OB),z.length=6->(rp L m).fy 1 a s=some o->Hp nx0 H0 (cq bp L s::(x2,a.cs,44)::(x0,z,44)::F) H nx->
 aO P pl X0 (.jump (wM (ptr bp) (ptr x0) (ptr x2) H nx)) nx0 H0 (bD nx0 H0 bp L F aH.v o)
 | 0,_,a,s,o,z,x0,x2,nx,H,hz,ho,h=>by cases ho
 | m+1,hp,a,s,o,z,x0,x2,nx,H,hz,ho,h=>by
   have ho:gp L (rp L m) 1 a s=some o:=ho;unfold gp at ho;refine Wq.jmp (Qs ..) (λ_=>rfl) ?_;have e:OL L 1 s=cK L [97,110,100,97,108,115,111] s:=qG rfl;rw[e]at ho;refine Rq.take hL h (λhi H1 aE h1=> ?_) (λhi H1 aE h1=> ?_)
   . rw[if_pos hi,if_neg (by decide),EX hi]at ho;simp only[af];refine Rq.call (hp m (Nat.lt_succ_self m)) rfl h1 ho λc s' H2 nx2 _ ho h2=> ?_;refine Hq.gV h2 λH3 nx3 h3=> ?_;simp only[af,BC (h3.at_ 1 rfl),pj];refine Rq.two h3 λH4 nx4 h4=> ?_;refine Hq.kl [_] h4 a.len λH5 h5=> ?_;exact EY hL m (λj hj=>hp j (by omega)) _ s' o z x0 x2 nx4 H5 hz ho h5
   . rw[if_neg hi]at ho;simp only[af,BC (h1.at_ 1 rfl)];exact Tc h1 hz λH9 nx9 h9=>bD.ret ho rfl h9
theorem MW (hL:L.length<=100000){n:Nat}(hp:∀j,j<=n->bf 161 L aH.v ((rp L j).bin 2)):bf 124 L aH.v ((rp L (n+1)).bin 1):=by
 intro nx0 nx H0 H bp F s o ho h;have ho:iV L (rp L n) 1 s=some o:=ho;unfold iV at ho;rw[if_neg (by decide)]at ho;rw[Wu];refine Hq.alloc bc h λx0 H1 aE h1=> ?_;refine Rq.call (hp n (Nat.le_refl n)) rfl h1 ho λa s' H2 nx2 _ ho h2=> ?_;refine Hq.alloc bc h2 λx2 H3 nx3 h3=> ?_;refine Hq.kl [_] h3 rfl λH4 h4=> ?_;exact EY hL (n+1) (λj hj=>hp j (by omega)) a s' o _ x0 x2 nx3 H4 rfl ho h4
theorem EZ (hL:L.length<=100000):∀(m:Nat),(∀j,j<m->bf 191 L aH.v ((rp L j).bin 4))->∀(a:aH) (s:bJ) (o:aH×bJ) (z:List Value) (x0 x2 nx:Nat) (H:Go.Ev.T OB),z.length=6->(rp L m).fy 3 a s=some o->Hp nx0 H0 (cq bp L s::(x2,a.cs,44)::(x0,z,44)::F) H nx->
 aO P pl X0 (.jump (wX (ptr bp) (ptr x0) (ptr x2) H nx)) nx0 H0 (bD nx0 H0 bp L F aH.v o)
 | 0,_,a,s,o,z,x0,x2,nx,H,hz,ho,h=>by cases ho
 | m+1,hp,a,s,o,z,x0,x2,nx,H,hz,ho,h=>by
   have ho:gp L (rp L m) 3 a s=some o:=ho;unfold gp at ho;refine Wq.jmp (Qy ..) (λ_=>rfl) ?_;rw[xR]at ho;refine Hq.row (l:=((EW 3).map aD)) fY gT iM rfl (by kernel_rfl) h λy H1 aE h1=> ?_;refine Rq.EV (ws:=EW 3) (n:=6) rfl (by decide) h1 λH2 nx2 h2=> ?_;simp only[af,Ex,qE (show(EW 3).contains []=false from rfl)];cases hi:(s.2.isNone&&(jT L s.1&&(EW 3).contains (tk L s.1).s))with
   | false=>
     rw[if_neg (by rw[hi];simp)]at ho;simp only[af,BC (h2.at_ 1 rfl)];exact Tc h2 hz λH9 nx9 h9=>bD.ret ho rfl h9
   | true=>
     rw[if_pos hi,if_neg (by decide)]at ho;obtain⟨ea,ei⟩:=qF hi;simp only[af,ea];refine Rq.aZ hL h2 λH3 nx3 h3=> ?_;rw[qH ei]at h3;refine Rq.call (hp m (Nat.lt_succ_self m)) rfl h3 ho λc s' H4 nx4 _ ho h4=> ?_;refine Hq.gV h4 λH5 nx5 h5=> ?_;simp only[af,BC (h5.at_ 1 rfl),pj];refine Rq.two h5 λH6 nx6 h6=> ?_;refine Hq.kl [_] h6 a.len λH7 h7=> ?_;exact EZ hL m (λj hj=>hp j (by omega)) _ s' o z x0 x2 nx6 H7 hz ho h7
theorem MX (hL:L.length<=100000){n:Nat}(hp:∀j,j<=n->bf 191 L aH.v ((rp L j).bin 4)):bf 182 L aH.v ((rp L (n+1)).bin 3):=by
 intro nx0 nx H0 H bp F s o ho h;have ho:iV L (rp L n) 3 s=some o:=ho;unfold iV at ho;rw[if_neg (by decide)]at ho;rw[WY];refine Hq.alloc bc h λx0 H1 aE h1=> ?_;refine Rq.call (hp n (Nat.le_refl n)) rfl h1 ho λa s' H2 nx2 _ ho h2=> ?_;refine Hq.alloc bc h2 λx2 H3 nx3 h3=> ?_;refine Hq.kl [_] h3 rfl λH4 h4=> ?_;exact EZ hL (n+1) (λj hj=>hp j (by omega)) a s' o _ x0 x2 nx3 H4 rfl ho h4
theorem E0 (hL:L.length<=100000):∀(m:Nat),(∀j,j<m->bf 194 L aH.v ((rp L j).bin 6))->∀(a:aH) (s:bJ) (o:aH×bJ) (z:List Value) (x0 x2 nx:Nat) (H:Go.Ev.T OB),z.length=6->(rp L m).fy 5 a s=some o->Hp nx0 H0 (cq bp L s::(x2,a.cs,44)::(x0,z,44)::F) H nx->
 aO P pl X0 (.jump (w5 (ptr bp) (ptr x0) (ptr x2) H nx)) nx0 H0 (bD nx0 H0 bp L F aH.v o)
 | 0,_,a,s,o,z,x0,x2,nx,H,hz,ho,h=>by cases ho
 | m+1,hp,a,s,o,z,x0,x2,nx,H,hz,ho,h=>by
   have ho:gp L (rp L m) 5 a s=some o:=ho;unfold gp at ho;refine Wq.jmp (QB ..) (λ_=>rfl) ?_;rw[xR]at ho;refine Hq.row (l:=((EW 5).map aD)) fY gT iM rfl (by kernel_rfl) h λy H1 aE h1=> ?_;refine Rq.EV (ws:=EW 5) (n:=3) rfl (by decide) h1 λH2 nx2 h2=> ?_;simp only[af,Ex,qE (show(EW 5).contains []=false from rfl)];cases hi:(s.2.isNone&&(jT L s.1&&(EW 5).contains (tk L s.1).s))with
   | false=>
     rw[if_neg (by rw[hi];simp)]at ho;simp only[af,BC (h2.at_ 1 rfl)];exact Tc h2 hz λH9 nx9 h9=>bD.ret ho rfl h9
   | true=>
     rw[if_pos hi,if_neg (by decide)]at ho;obtain⟨ea,ei⟩:=qF hi;simp only[af,ea];refine Rq.aZ hL h2 λH3 nx3 h3=> ?_;rw[qH ei]at h3;refine Rq.call (hp m (Nat.lt_succ_self m)) rfl h3 ho λc s' H4 nx4 _ ho h4=> ?_;refine Hq.gV h4 λH5 nx5 h5=> ?_;simp only[af,BC (h5.at_ 1 rfl),pj];refine Rq.two h5 λH6 nx6 h6=> ?_;refine Hq.kl [_] h6 a.len λH7 h7=> ?_;exact E0 hL m (λj hj=>hp j (by omega)) _ s' o z x0 x2 nx6 H7 hz ho h7
theorem MY (hL:L.length<=100000){n:Nat}(hp:∀j,j<=n->bf 194 L aH.v ((rp L j).bin 6)):bf 193 L aH.v ((rp L (n+1)).bin 5):=by
 intro nx0 nx H0 H bp F s o ho h;have ho:iV L (rp L n) 5 s=some o:=ho;unfold iV at ho;rw[if_neg (by decide)]at ho;rw[W4];refine Hq.alloc bc h λx0 H1 aE h1=> ?_;refine Rq.call (hp n (Nat.le_refl n)) rfl h1 ho λa s' H2 nx2 _ ho h2=> ?_;refine Hq.alloc bc h2 λx2 H3 nx3 h3=> ?_;refine Hq.kl [_] h3 rfl λH4 h4=> ?_;exact E0 hL (n+1) (λj hj=>hp j (by omega)) a s' o _ x0 x2 nx3 H4 rfl ho h4
theorem E1 (hL:L.length<=100000):∀(m:Nat),(∀j,j<m->bf 195 L aH.v ((rp L j).bin 7))->∀(a:aH) (s:bJ) (o:aH×bJ) (z:List Value) (x0 x2 nx:Nat) (H:Go.Ev.T OB),z.length=6->(rp L m).fy 6 a s=some o->Hp nx0 H0 (cq bp L s::(x2,a.cs,44)::(x0,z,44)::F) H nx->
 aO P pl X0 (.jump (w6 (ptr bp) (ptr x0) (ptr x2) H nx)) nx0 H0 (bD nx0 H0 bp L F aH.v o)
 | 0,_,a,s,o,z,x0,x2,nx,H,hz,ho,h=>by cases ho
 | m+1,hp,a,s,o,z,x0,x2,nx,H,hz,ho,h=>by
   have ho:gp L (rp L m) 6 a s=some o:=ho;unfold gp at ho;refine Wq.jmp (QC ..) (λ_=>rfl) ?_;rw[xR]at ho;refine Hq.row (l:=((EW 6).map aD)) fY gT iM rfl (by kernel_rfl) h λy H1 aE h1=> ?_;refine Rq.EV (ws:=EW 6) (n:=3) rfl (by decide) h1 λH2 nx2 h2=> ?_;simp only[af,Ex,qE (show(EW 6).contains []=false from rfl)];cases hi:(s.2.isNone&&(jT L s.1&&(EW 6).contains (tk L s.1).s))with
   | false=>
     rw[if_neg (by rw[hi];simp)]at ho;simp only[af,BC (h2.at_ 1 rfl)];exact Tc h2 hz λH9 nx9 h9=>bD.ret ho rfl h9
   | true=>
     rw[if_pos hi,if_neg (by decide)]at ho;obtain⟨ea,ei⟩:=qF hi;simp only[af,ea];refine Rq.aZ hL h2 λH3 nx3 h3=> ?_;rw[qH ei]at h3;refine Rq.call (hp m (Nat.lt_succ_self m)) rfl h3 ho λc s' H4 nx4 _ ho h4=> ?_;refine Hq.gV h4 λH5 nx5 h5=> ?_;simp only[af,BC (h5.at_ 1 rfl),pj];refine Rq.two h5 λH6 nx6 h6=> ?_;refine Hq.kl [_] h6 a.len λH7 h7=> ?_;exact E1 hL m (λj hj=>hp j (by omega)) _ s' o z x0 x2 nx6 H7 hz ho h7
theorem MZ (hL:L.length<=100000){n:Nat}(hp:∀j,j<=n->bf 195 L aH.v ((rp L j).bin 7)):bf 194 L aH.v ((rp L (n+1)).bin 6):=by
 intro nx0 nx H0 H bp F s o ho h;have ho:iV L (rp L n) 6 s=some o:=ho;unfold iV at ho;rw[if_neg (by decide)]at ho;rw[W5];refine Hq.alloc bc h λx0 H1 aE h1=> ?_;refine Rq.call (hp n (Nat.le_refl n)) rfl h1 ho λa s' H2 nx2 _ ho h2=> ?_;refine Hq.alloc bc h2 λx2 H3 nx3 h3=> ?_;refine Hq.kl [_] h3 rfl λH4 h4=> ?_;exact E1 hL (n+1) (λj hj=>hp j (by omega)) a s' o _ x0 x2 nx3 H4 rfl ho h4
theorem M0 (hL:L.length<=100000){n:Nat}(hp:bf 182 L aH.v ((rp L n).bin 3))(hs:bf 161 L aH.v ((rp L n).bin 2)):bf 161 L aH.v ((rp L (n+1)).bin 2):=by
 intro nx0 nx H0 H bp F s o ho h;have ho:iV L (rp L n) 2 s=some o:=ho;unfold iV gp at ho;rw[if_neg (by decide)]at ho;rw[WO];refine Hq.alloc bc h λx0 H1 aE h1=> ?_;refine Rq.call hp rfl h1 ho λa s' H2 nx2 _ ho h2=> ?_;have e:OL L 2 s'=cK L [58,61] s':=qG rfl;rw[e]at ho;refine Hq.gV h2 λH3 nx3 h3=> ?_;refine Rq.take hL h3 (λhi H4 nx4 h4=> ?_) (λhi H4 nx4 h4=> ?_)
 . rw[if_pos hi,if_pos (by decide),EX hi]at ho;simp only[af];refine Rq.call hs rfl h4 ho λc s2 H5 nx5 _ ho h5=> ?_;refine Hq.gV h5 λH6 nx6 h6=> ?_;simp only[af,pj];refine Rq.two h6 λH7 nx7 h7=> ?_;exact Hq.kZ h7 rfl λH9 nx9 h9=>bD.ret ho rfl h9
 . rw[if_neg hi]at ho;simp only[af,pj];exact Hq.kZ h4 rfl λH9 nx9 h9=>bD.ret ho rfl h9
theorem M1 (hL:L.length<=100000){n:Nat}(hp:bf 193 L aH.v ((rp L n).bin 5))(hs:bf 191 L aH.v ((rp L n).bin 4)):bf 191 L aH.v ((rp L (n+1)).bin 4):=by
 intro nx0 nx H0 H bp F s o ho h;have ho:iV L (rp L n) 4 s=some o:=ho;unfold iV gp at ho;rw[if_neg (by decide)]at ho;rw[W3];refine Hq.alloc bc h λx0 H1 aE h1=> ?_;refine Rq.call hp rfl h1 ho λa s' H2 nx2 _ ho h2=> ?_;have e:OL L 4 s'=cK L [58,58] s':=qG rfl;rw[e]at ho;refine Hq.gV h2 λH3 nx3 h3=> ?_;refine Rq.take hL h3 (λhi H4 nx4 h4=> ?_) (λhi H4 nx4 h4=> ?_)
 . rw[if_pos hi,if_pos (by decide),EX hi]at ho;simp only[af];refine Rq.call hs rfl h4 ho λc s2 H5 nx5 _ ho h5=> ?_;refine Hq.gV h5 λH6 nx6 h6=> ?_;simp only[af,pj];refine Rq.two h6 λH7 nx7 h7=> ?_;exact Hq.kZ h7 rfl λH9 nx9 h9=>bD.ret ho rfl h9
 . rw[if_neg hi]at ho;simp only[af,pj];exact Hq.kZ h4 rfl λH9 nx9 h9=>bD.ret ho rfl h9
end
section
variable {nx0 nx nx' bp k:Nat}{H0 H H':T OB}{F A B G G':List Bx}{R:Go.Ev.Out->T OB->Nat->Prop}{b:Nat}{l:List Value}{e t:TypeId}{L:List Tok}{s s':bJ}{w:List UInt8}{x:Bx}
theorem JU (hL:L.length<=100000):∀(m:Nat),(∀j,j<m->bf 121 L bh.v (rp L j).pat)->(∀j,j<m->bf 39 L aH.v (rp L j).exp)->∀(kk:Int) (l:List aH) (q:List bh) (s:bJ) (sl sp:Value) (G G':List Bx) (o:aH×bJ) (z:List Value) (x0 x1 nx:Nat) (H:Go.Ev.T OB),l.length+m<=95000->q.length+m<=95000->
 Gw true 6 44 (l.map aH.v) sl G->Gw true 4 47 (q.map bh.v) sp G'->z.length=6->(rp L m).fO (.mk kk 0 [] l q []) s=some o->Hp nx0 H0 (cq bp L s::(x1,[i64 kk,i64 0,aD [],sl,sp,aC],44)::(x0,z,44)::(G++(G'++F))) H nx->
 aO P pl X0 (.jump (DQ (ptr bp) (ptr x1) (ptr x0) H nx)) nx0 H0 (bD nx0 H0 bp L F aH.v o)
 | 0,_,_,kk,l,q,s,sl,sp,G,G',o,z,x0,x1,nx,H,hm,hm',hG,hG',hz,ho,h=>by cases ho
 | m+1,hp,he,kk,l,q,s,sl,sp,G,G',o,z,x0,x1,nx,H,hm,hm',hG,hG',hz,ho,h=>by
   have ho:Bl L (rp L m) (.mk kk 0 [] l q []) s=some o:=ho;unfold Bl at ho;refine Wq.jmp (TP ..) (λ_=>rfl) ?_;cases hs:s.2 with
   | some t=>
     rw[if_pos (by rw[hs];rfl)]at ho;have hv:dP 1 [i64 kk,i64 0,aD [],sl,sp,aC] (.mk kk 0 [] l q []) (G++(G'++[])):=dP.row hG.Mx hG'.JD nK (cE hG) (cE hG') rfl;simp only[af,tb h,hs,Option.isSome_some,Bool.not_true,d_ (h.at_ 1 rfl) hv.len];have h12:Hp nx0 H0 (cq bp L s::(x0,z,44)::((G++(G'++[]))++F)) H nx:=by
      rw[List.append_nil,List.append_assoc];exact(Hp.mv [_] h).sub (by simp)
     exact Hq.fin h12 bG bZ de hz hv.len hv.one hv.fz (by omega) λH5 nx5 h5=>bD.ret ho rfl h5
   | none=>
     rw[if_neg (by rw[hs];simp)]at ho;simp only[af,tb h,hs,Option.isSome_none,Bool.not_false];refine Rq.call (hp m (Nat.lt_succ_self m)) rfl h ho λa s1 H2 nx2 _ ho h2=> ?_;refine Hq.xM h2 λH3 nx3 h3=> ?_;refine Rq.aZ hL h3 λH4 nx4 h4=> ?_;refine Rq.call (he m (Nat.lt_succ_self m)) rfl h4 ho λc s2 H5 nx5 _ ho h5=> ?_;refine Hq.gV h5 λH6 nx6 h6=> ?_;simp only[af,aw (off:=4) (u:=sp) (h6.at_ 1 rfl) gv rfl,MH];refine Hq.ed a.cs a.len h6 λx H7 nx7 h7=> ?_;refine Hq.uN (_::_::G) (x:=a) (by omega) hG' h7 λsp' G2 H8 nx8 hG2 h8=> ?_;refine Hq.put [_] h8 o7 (by rcases hG2.2 with⟨_,rfl,_⟩ | ⟨b,c,rfl,_⟩<;>rfl) (cE hG2) (by simp) rfl λH9 h9=> ?_;simp only[af,aw (off:=3) (u:=sl) (h9.at_ 1 rfl) ik rfl,pj];refine Hq.dp c.cs c.len h9 λy H10 nx10 h10=> ?_;refine Hq.zT [_,_] (x:=c) (by omega) hG h10 λsl' G1 H11 nx11 hG1 h11=> ?_;refine Hq.put [_] h11 sn (by rcases hG1.2 with⟨_,rfl,_⟩ | ⟨b,c,rfl,_⟩<;>rfl) (cE hG1) (by simp) rfl λH12 h12=> ?_;refine Rq.take hL h12 (λhi H13 nx13 h13=> ?_) (λhi H13 nx13 h13=> ?_)
     . rw[if_pos hi]at ho;simp only[af,Bool.not_true];exact JU hL m (λj hj=>hp j (by omega)) (λj hj=>he j (by omega)) kk (l++[c]) (q++[a]) _ sl' sp' G1 G2 o z x0 x1 nx13 H13 (by rw[List.length_append];simp;omega) (by rw[List.length_append];simp;omega) hG1 hG2 hz ho h13
     . rw[if_neg hi]at ho;have hv:dP 1 [i64 kk,i64 0,aD [],sl',sp',aC] (.mk kk 0 [] (l++[c]) (q++[a]) []) (G1++(G2++[])):=dP.row hG1.Mx hG2.JD nK (cE hG1) (cE hG2) rfl;simp only[af,Bool.not_false,d_ (h13.at_ 1 rfl) hv.len];have h14:Hp nx0 H0 (cq bp L s2::(x0,z,44)::((G1++(G2++[]))++F)) H13 nx13:=by
        rw[List.append_nil,List.append_assoc];exact(Hp.mv [_] h13).sub (by simp)
       exact Hq.fin h14 bG bZ de hz hv.len hv.one hv.fz (by omega) λH5 nx5 h5=>bD.ret ho rfl h5
def E2 (L:List Tok)(r:aH->bJ->RR aH):Prop:=∀(nx0 nx:Nat) (H0 H:Go.Ev.T OB) (bp:Nat) (F G:List Bx) (s:bJ) (o:aH×bJ) (kk:Int) (l:List aH) (sl:Value),l.length<=3->Gw true 6 44 (l.map aH.v) sl G->r (.mk kk 0 [] l [] []) s=some o->Hp nx0 H0 (cq bp L s::(G++F)) H nx->
 aO P pl X0 (aQ P pl (.call 69 [ptr bp,.agg ⟨[i64 kk,i64 0,aD [],sl,aC,aC]⟩] false none H nx)) nx0 H0 (bD nx0 H0 bp L F aH.v o)
theorem Sj (hL:L.length<=100000){n:Nat}(hn:n<=94000)(hp:∀j,j<=n->bf 121 L bh.v (rp L j).pat)(he:∀j,j<=n->bf 39 L aH.v (rp L j).exp):E2 L (rp L (n+1)).fO:=by
 intro nx0 nx H0 H bp F G s o kk l sl hl hG ho h;rw[YS];refine Hq.box h λx1 H1 aE h1=> ?_;refine Hq.alloc bc h1 λx0 H2 nx2 h2=> ?_;exact JU hL (n+1) (λj hj=>hp j (by omega)) (λj hj=>he j (by omega)) kk l [] s sl aC G [] o _ x0 x1 nx2 H2 (by omega) (by simp;omega) hG (Gw.nil _ _ _) rfl ho (Hp.swap' h2)
theorem Rq.s_ {F1:List Bx}{r:aH->bJ->RR aH}{o:aH×bJ}{kk:Int}{l:List aH}{sl:Value}{kt p:Value->Go.Ev.T OB->Nat->Q}(hs:E2 L r)(hl:l.length<=3)(hG:Gw true 6 44 (l.map aH.v) sl G)(h:Hp nx0 H0 (cq bp L s::(G++F1)) H nx)
 (ho:r (.mk kk 0 [] l [] []) s=some o) (hk:∀H' nx',Hp nx0 H0 (cq bp L o.2::F1) H' nx'->aO P pl X0 (kt o.1.v H' nx') nx0 H0 R):
 aO P pl X0 (aj (.call 69 [ptr bp,.agg ⟨[i64 kk,i64 0,aD [],sl,aC,aC]⟩] false none H nx) kt p) nx0 H0 R:=
 Sq.dO rfl (hs nx0 nx H0 H bp F1 G s o kk l sl hl hG ho h) hk
theorem bD.Sk {α:Type}{vf:α->Value}{o:α×bJ}(h:Hp nx0 H0 (cq bp L o.2::F) H nx):aO P pl X0 (.ret ⟨.ret (vf o.1),false,H,nx⟩) nx0 H0 (bD nx0 H0 bp L F vf o):=Wq.ic h.ag ⟨rfl,h⟩
theorem Sl (hL:L.length<=100000){p:RP}(hexp:bf 39 L aH.v p.exp)(hmat:E2 L p.fO)(hbin:bf 70 L aH.v (p.bin 0)):bf 39 L aH.v (Bm L p):=by
 intro nx0 nx H0 H bp F s o ho h;unfold Bm at ho;rw[Yv];refine Hq.alloc bc h λx0 H1 aE h1=> ?_;refine Rq.take hL h1 (λhi H2 nx2 h2=> ?_) (λhi H2 nx2 h2=> ?_)
 . rw[if_pos hi]at ho;simp only[af];refine Rq.call hexp rfl h2 ho λa s2 H3 nx3 _ ho h3=> ?_;refine Hq.gV h3 λH4 nx4 h4=> ?_;refine Rq.aZ hL h4 λH5 nx5 h5=> ?_;refine Rq.call hexp rfl h5 ho λb s3 H6 nx6 _ ho h6=> ?_;refine Hq.gV h6 λH7 nx7 h7=> ?_;refine Rq.aZ hL h7 λH8 nx8 h8=> ?_;refine Rq.call hexp rfl h8 ho λc s4 H9 nx9 _ ho h9=> ?_;refine Hq.gV h9 λH10 nx10 h10=> ?_;simp only[af,pj];refine Hq.EG a.cs b.cs c.cs a.len b.len c.len h10 λx H11 nx11 h11=> ?_;simp only[af,eH];have h12:Hp nx0 H0 (cq bp L s4::(x0,_,44)::([(x,a.cs++b.cs++c.cs,44)]++F)) H11 nx11:=Hp.swap' h11;exact Hq.fin h12 bG bZ de rfl rfl rfl dP.b3.fz (by omega) λH5 nx5 h5=>bD.ret ho rfl h5
 rw[if_neg hi]at ho;simp only[af];refine Rq.take hL h2 (λhi H3 nx3 h3=> ?_) (λhi H3 nx3 h3=> ?_)
 . rw[if_pos hi]at ho;simp only[af];refine Rq.call hexp rfl h3 ho λa s2 H4 nx4 _ ho h4=> ?_;refine Hq.gV h4 λH5 nx5 h5=> ?_;refine Rq.aZ hL h5 λH6 nx6 h6=> ?_;simp only[af,pj];refine Hq.dp a.cs a.len h6 λx H7 nx7 h7=> ?_;simp only[af,eH];refine Rq.s_ hmat (l:=[a]) (by simp) (Gw.j1 a.fR) h7 ho λH8 nx8 h8=> ?_;exact Hq.kZ h8 rfl λH9 nx9 h9=>bD.Sk h9
 rw[if_neg hi]at ho;simp only[af];refine Rq.take hL h3 (λhi H4 nx4 h4=> ?_) (λhi H4 nx4 h4=> ?_)
 . rw[if_pos hi]at ho;simp only[af];refine Rq.s_ hmat (l:=[]) (G:=[]) (by simp) (Gw.nil _ _ _) h4 ho λH8 nx8 h8=> ?_;exact Hq.kZ h8 rfl λH9 nx9 h9=>bD.Sk h9
 rw[if_neg hi]at ho;simp only[af];refine Rq.take hL h4 (λhi H5 nx5 h5=> ?_) (λhi H5 nx5 h5=> ?_)
 . rw[if_pos hi]at ho;simp only[af];refine Rq.call hexp rfl h5 ho λa s2 H6 nx6 _ ho h6=> ?_;refine Hq.gV h6 λH7 nx7 h7=> ?_;simp only[af,pj];refine Hq.dp a.cs a.len h7 λx H8 nx8 h8=> ?_;simp only[af,eH];have h11:Hp nx0 H0 (cq bp L s2::(x0,_,44)::([(x,a.cs,44)]++F)) H8 nx8:=Hp.swap' h8;exact Hq.fin h11 bG bZ de rfl rfl rfl (dP.b1 (dP.of a)).fz (by omega) λH5 nx5 h5=>bD.ret ho rfl h5
 rw[if_neg hi]at ho;simp only[af];refine Rq.call hbin rfl h5 ho λa s2 H6 nx6 _ ho h6=> ?_;refine Hq.gV h6 λH7 nx7 h7=> ?_;refine Rq.take hL h7 (λhi H8 nx8 h8=> ?_) (λhi H8 nx8 h8=> ?_)
 . rw[if_pos hi]at ho;simp only[af,pj];refine Hq.dp a.cs a.len h8 λx H9 nx9 h9=> ?_;simp only[af,eH];refine Rq.s_ hmat (l:=[a]) (by simp) (Gw.j1 a.fR) h9 ho λH10 nx10 h10=> ?_;exact Hq.kZ h10 rfl λH9 nx9 h9=>bD.Sk h9
 . rw[if_neg hi]at ho;simp only[af,pj];exact Hq.kZ h8 rfl λH9 nx9 h9=>bD.ret ho rfl h9
theorem E3 (hL:L.length<=100000):∀(m:Nat),(∀j,j<m->bf 196 L aH.v (rp L j).atom)->∀(a:aH) (s:bJ) (n:Nat) (cs z:List Value) (G:List Bx) (o:aH×bJ) (x0 x1 nx:Nat) (H:Go.Ev.T OB),n+m<=95000->dP n cs a G->z.length=6->(rp L m).fP a s=some o->
 Hp nx0 H0 (cq bp L s::(x1,cs,44)::(x0,z,44)::(G++F)) H nx->aO P pl X0 (.jump (qk (ptr bp) (ptr x0) (ptr x1) H nx)) nx0 H0 (bD nx0 H0 bp L F aH.v o)
 | 0,_,a,s,n,cs,z,G,o,x0,x1,nx,H,hm,hv,hz,ho,h=>by cases ho
 | m+1,ha,a,s,n,cs,z,G,o,x0,x1,nx,H,hm,hv,hz,ho,h=>by
   have ho:zR L (rp L m) a s=some o:=ho;unfold zR Jv at ho;refine Wq.jmp (LF ..) (λ_=>rfl) ?_;cases hs:s.2.isNone with
   | false=>
     rw[hs,if_neg (by simp)]at ho;simp only[af,tb h,k_,hs,d_ (h.at_ 1 rfl) hv.len];have h3:Hp nx0 H0 (cq bp L s::(x0,z,44)::(G++F)) H nx:=(Hp.mv [_] h).sub (by simp);exact Hq.fin h3 bG bZ de hz hv.len hv.one hv.fz (by omega) λH5 nx5 h5=>bD.ret ho rfl h5
   | true=>
     rw[hs,Bool.true_and]at ho;simp only[af,tb h,k_,hs];refine Rq.Xq hs h λH1 aE h1=> ?_;cases hb:lP L s.1 with
     | true=>
       rw[if_pos hb]at ho;simp only[af];refine Rq.call (ha m (Nat.lt_succ_self m)) rfl h1 ho λc s' H5 nx5 _ ho h5=> ?_;refine Hq.gV h5 λH6 nx6 h6=> ?_;simp only[af,d_ (h6.at_ 1 rfl) hv.len,pj];refine Hq.nE cs c.cs hv.len c.len h6 λx H7 nx7 h7=> ?_;simp only[af,eH];refine Hq.set [_,_] h7 bG hv.len rfl rfl λH8 h8=> ?_
       exact E3 hL m (λj hj=>ha j (by omega)) _ s' (n+1) _ z ((x,cs++c.cs,44)::G) o x0 x1 nx7 H8 (by omega) (dP.b2 hv) hz ho (Hp.nJ h8)
     | false=>
       rw[if_neg (by rw[hb];simp)]at ho;simp only[af,d_ (h1.at_ 1 rfl) hv.len];have h3:Hp nx0 H0 (cq bp L s::(x0,z,44)::(G++F)) H1 aE:=(Hp.mv [_] h1).sub (by simp);exact Hq.fin h3 bG bZ de hz hv.len hv.one hv.fz (by omega) λH5 nx5 h5=>bD.ret ho rfl h5
theorem M3 (hL:L.length<=100000){n:Nat}(hn:n<=94000)(ha:∀j,j<=n->bf 196 L aH.v (rp L j).atom)(hu:bf 195 L aH.v (rp L n).un):bf 195 L aH.v (rp L (n+1)).un:=by
 intro nx0 nx H0 H bp F s o ho h;have ho:RD L (rp L n) s=some o:=ho;unfold RD at ho;rw[show Xr L s=(s.2.isNone&&(jT L s.1&&eA.contains (tk L s.1).s))from rfl]at ho;rw[W6];refine Hq.alloc bc h λx0 H1 aE h1=> ?_;refine Hq.call Rb h1 λH2 nx2 h2=> ?_;refine Rq.XE (ws:=eA) (by decide) h2 λH3 nx3 h3=> ?_;simp only[af,Ex,qE (show eA.contains []=false from rfl)];cases hi:(s.2.isNone&&(jT L s.1&&eA.contains (tk L s.1).s))with
 | true=>
   rw[if_pos hi]at ho;obtain⟨ea,ei⟩:=qF hi;simp only[af,ea,Bool.not_true,Bool.not_false];refine Rq.aZ hL h3 λH4 nx4 h4=> ?_;rw[qH ei]at h4;refine Rq.call hu rfl h4 ho λa s' H5 nx5 _ ho h5=> ?_;refine Hq.gV h5 λH6 nx6 h6=> ?_;simp only[af,pj];refine Hq.dp a.cs a.len h6 λx H7 nx7 h7=> ?_;simp only[af,nF];have h8:Hp nx0 H0 (cq bp L s'::(x0,_,44)::([(x,a.cs,44)]++F)) H7 nx7:=Hp.swap' h7;exact Hq.fin h8 bG bZ de rfl rfl rfl (dP.b1 (dP.of a)).fz (by omega) λH5 nx5 h5=>bD.ret ho rfl h5
 | false=>
   rw[if_neg (by rw[hi];simp)]at ho;simp only[af,Bool.not_true,Bool.not_false];refine Rq.call (ha n (Nat.le_refl n)) rfl h3 ho λa s' H5 nx5 _ ho h5=> ?_;refine Hq.alloc bc h5 λx1 H6 nx6 h6=> ?_;refine Hq.kl [_] h6 rfl λH7 h7=> ?_;exact E3 hL (n+1) (λj hj=>ha j (by omega)) a s' 0 _ _ [] o x0 x1 nx6 H7 (by omega) (dP.of a) rfl ho h7
end
section
variable {nx0 nx nx' bp k:Nat}{H0 H H':T OB}{F A B G G':List Bx}{R:Go.Ev.Out->T OB->Nat->Prop}{b:Nat}{l:List Value}{e t:TypeId}{L:List Tok}{s s':bJ}{w:List UInt8}{x:Bx}
theorem E4 (hL:L.length<=100000):∀(m:Nat),(∀j,j<m->bf 39 L aH.v (rp L j).exp)->∀(kd:Int) (l:List aH) (s:bJ) (sl:Value) (G:List Bx) (o:aH×bJ) (z:List Value) (x0 x1 nx:Nat) (H:Go.Ev.T OB),l.length+m<=95000->Gw true 6 44 (l.map aH.v) sl G->z.length=6->
 (rp L m).dQ w (.mk kd 0 [] l [] []) s=some o->Hp nx0 H0 (cq bp L s::(x1,[i64 kd,i64 0,aD [],sl,aC,aC],44)::(x0,z,44)::(G++F)) H nx->
 aO P pl X0 (.jump (qp (ptr bp) (aD w) (ptr x0) (ptr x1) H nx)) nx0 H0 (bD nx0 H0 bp L F aH.v o)
 | 0,_,kd,l,s,sl,G,o,z,x0,x1,nx,H,hm,hG,hz,ho,h=>by cases ho
 | m+1,he,kd,l,s,sl,G,o,z,x0,x1,nx,H,hm,hG,hz,ho,h=>by
   have ho:ki L (rp L m) w (.mk kd 0 [] l [] []) s=some o:=ho;unfold ki at ho;refine Wq.jmp (LK ..) (λ_=>rfl) ?_;refine Rq.take hL h (λhi H1 aE h1=> ?_) (λhi H1 aE h1=> ?_)
   . rw[if_pos hi]at ho;simp only[af];refine Rq.call (he m (Nat.lt_succ_self m)) rfl h1 ho λc s' H2 nx2 _ ho2 h2=> ?_;refine Hq.gV h2 λH3 nx3 h3=> ?_;simp only[af,aw (off:=3) (u:=sl) (h3.at_ 1 rfl) ik rfl,pj];refine Hq.dp c.cs c.len h3 λx H4 nx4 h4=> ?_;refine Hq.zT [_,_] (x:=c) (by omega) hG h4 λsl' G1 H5 nx5 hG1 h5=> ?_;refine Hq.put [_] h5 sn (by rcases hG1.2 with⟨_,rfl,_⟩ | ⟨b,c,rfl,_⟩<;>rfl) (cE hG1) (by simp) rfl λH6 h6=> ?_;exact E4 hL m (λj hj=>he j (by omega)) kd (l++[c]) s' sl' G1 o z x0 x1 nx5 H6 (by rw[List.length_append];simp;omega) hG1 hz ho2 h6
   . rw[if_neg hi]at ho;have hv:=dP.gw (k:=kd) (i:=0) (w:=[]) hG;simp only[af,d_ (h1.at_ 1 rfl) hv.len];have h3:Hp nx0 H0 (cq bp L s::(x0,z,44)::(G++F)) H1 aE:=(Hp.mv [_] h1).sub (by simp);exact Hq.fin h3 bG bZ de hz hv.len hv.one hv.fz (by omega) λH5 nx5 h5=>bD.ret ho rfl h5
theorem M4 (hL:L.length<=100000){n:Nat}(hn:n<=94000)(he:∀j,j<=n->bf 39 L aH.v (rp L j).exp){w:List UInt8}{kd:Int}(hk:(if w=[59]then 13 else 5)=kd){a:aH}{o:aH×bJ}(ho:ki L (rp L n) w (.mk kd 0 [] [a] [] []) s=some o)(h:Hp nx0 H0 (cq bp L s::F) H nx):
 aO P pl X0 (aQ P pl (.call 199 [ptr bp,a.v,aD w] false none H nx)) nx0 H0 (bD nx0 H0 bp L F aH.v o):=by
 rw[W_];refine Wq.bO ?_;refine Hq.alloc bc h.succ λx0 H1 aE h1=> ?_;simp only[af,pj];refine Hq.dp a.cs a.len h1 λy H2 nx2 h2=> ?_;simp only[af,eH];refine Hq.alloc bc h2 λx1 H3 nx3 h3=> ?_;refine Hq.set [_] h3 bG rfl rfl rfl λH4 h4=> ?_
 have fin:∀H5,Hp nx0 H0 (cq bp L s::(x1,[i64 kd,i64 0,aD [],gG y 1 1,aC,aC],44)::(y,a.cs,44)::(x0,[i64 0,i64 0,aD [],aC,aC,aC],44)::F) H5 nx3->aO P pl X0 (.jump (qn (ptr bp) (aD w) (ptr x0) (ptr x1) H5 nx3)) nx0 H0 (bD nx0 H0 bp L F aH.v o):=by
  intro H5 h5;refine Wq.jmp (LJ ..) (λ_=>rfl) ?_;exact E4 hL (n+1) (λj hj=>he j (by omega)) kd [a] s (gG y 1 1) [(y,a.cs,44)] o _ x0 x1 nx3 H5 (show 1+(n+1)<=95000 by omega) (Gw.j1 a.fR) rfl ho (Hp.perm h5 (List.Perm.cons _ (List.Perm.cons _ (List.Perm.swap _ _ _))))
 simp only[af,Ex]
 by_cases hw:w=[59]
 . rw[if_pos hw]at hk;subst hk;rw[decide_eq_true hw];simp only[af];exact Hq.put [_] h4 jk rfl rfl (by simp) rfl λH5 h5=>fin H5 h5
 . rw[if_neg hw]at hk;subst hk;rw[decide_eq_false hw];simp only[af];exact fin H4 h4
theorem Rq.rowOf (hL:L.length<=100000){n:Nat}(hn:n<=94000)(he:∀j,j<=n->bf 39 L aH.v (rp L j).exp){w:List UInt8}{kd:Int}(hk:(if w=[59]then 13 else 5)=kd){β:Type}{a:aH}{g:aH->bJ->RR β}{o:β×bJ}{kt p:Value->Go.Ev.T OB->Nat->Q}(ho:rb (ki L (rp L n) w (.mk kd 0 [] [a] [] []) s) g=some o)(h:Hp nx0 H0 (cq bp L s::F) H nx)
 (hkk:∀c s' H' nx',g c s'=some o->Hp nx0 H0 (cq bp L s'::F) H' nx'->aO P pl X0 (kt c.v H' nx') nx0 H0 R):aO P pl X0 (aj (.call 199 [ptr bp,a.v,aD w] false none H nx) kt p) nx0 H0 R:=by
 cases hr:ki L (rp L n) w (.mk kd 0 [] [a] [] []) s with
 | none=>rw[hr]at ho;cases ho
 | some q=>
   rw[hr]at ho;exact Sq.dO rfl (M4 hL hn he hk hr h) λH' nx' h'=>hkk q.1 q.2 H' nx' ho h'
theorem xS (hL:L.length<=100000){z:List Value}{a:aH}{x0 x1:Nat}{o:aH×bJ}(hz:z.length=6)(ho:rn L [41] s (λs=>ry a s)=some o)(h:Hp nx0 H0 (cq bp L s::(x1,a.cs,44)::(x0,z,44)::F) H nx):
 aO P pl X0 (.jump (ql (ptr bp) (ptr x0) (ptr x1) H nx)) nx0 H0 (bD nx0 H0 bp L F aH.v o):=by
 refine Wq.jmp (LG ..) (λ_=>rfl) ?_;refine Rq.aZ hL h λH1 aE h1=> ?_;simp only[af,BC (h1.at_ 1 rfl)];exact Tc h1 hz λH9 nx9 h9=>bD.ret ho rfl h9
theorem X7 (hs:s.2.isNone=true)(c:Int):(cw L c s=true)=((tk L s.1).k=c):=by
 unfold cw;rw[hs,Bool.true_and,decide_eq_true_eq]
theorem M5 {k:Nat}(h:jU L k=false):(tk L k).k≠1/\(tk L k).k≠2/\(tk L k).k≠3/\(tk L k).k≠4:=by
 unfold jU at h;simpa[Bool.or_eq_false_iff]using h
theorem Pc {c:Int}(h:(s.2.isNone&&jU L s.1)=false)(hc:c=1\/c=2\/c=3\/c=4):¬cw L c s=true:=by
 unfold cw;cases hs:s.2.isNone with
 | false=>simp
 | true=>
   rw[hs,Bool.true_and]at h;obtain⟨h1,h2,h3,h4⟩:=M5 h;rcases hc with rfl | rfl | rfl | rfl<;>simpa
theorem z3 {k:Nat}(h:jU L k=true):(tk L k).k=1\/(tk L k).k=2\/(tk L k).k=3\/(tk L k).k=4:=by
 unfold jU at h;simpa using h
theorem M6 (hL:L.length<=100000){n:Nat}(hn:n<=94000)(he:∀j,j<=n->bf 39 L aH.v (rp L j).exp)(hlt:bf 198 L aH.v (rp L n).lt):bf 196 L aH.v (rp L (n+1)).atom:=by
 intro nx0 nx H0 H bp F s o ho h;have ho:sR L (rp L n) s=some o:=ho;unfold sR at ho;rw[W7];refine Hq.alloc bc h λx0 H1 aE h1=> ?_;refine Rq.now h1 λH2 nx2 h2=> ?_;refine Sq.Ew h2 λH3 nx3 h3=> ?_;have J34:∀(b:Bool) H4 nx4 s',¬b=true->rb ((rp L n).exp s') (λa s=>
  if cK L [44] s=true then rb (ki L (rp L n) [44] (.mk 5 0 [] [a] [] []) s) λe s=>rn L [41] s λs=>ry e s
  else if cK L [59] s=true then rb (ki L (rp L n) [59] (.mk 13 0 [] [a] [] []) s) λe s=>rn L [41] s λs=>ry e s
  else rn L [41] s λs=>ry a s)=some o->Hp nx0 H0 (cq bp L s'::(x0,[i64 0,i64 0,aD [],aC,aC,aC],44)::F) H4 nx4->aO P pl X0 (.jump (ng (ptr bp) (ptr x0) b H4 nx4)) nx0 H0 (bD nx0 H0 bp L F aH.v o):=by
  intro b H4 nx4 s' hb ho h4;have hb:b=false:=by simpa using hb
  subst hb;refine Wq.jmp (Ef ..) (λ_=>rfl) ?_;simp only[af];refine Rq.call (he n (Nat.le_refl n)) rfl h4 ho λa s2 H5 nx5 _ ho h5=> ?_;refine Hq.alloc bc h5 λx1 H6 nx6 h6=> ?_;refine Hq.kl [_] h6 rfl λH7 h7=> ?_;refine Hq.row (l:=([[44],[59]]:List (List UInt8)).map aD) fY gT iM rfl (by kernel_rfl) h7 λy H8 nx8 h8=> ?_;refine Rq.EV (ws:=[[44],[59]]) (n:=2) rfl (by decide) h8 λH9 nx9 h9=> ?_
  by_cases h44:cK L [44] s2=true
  . rw[if_pos h44]at ho;have e:oK L [[44],[59]] s2=[44]:=by rw[qD,List.find?_cons,h44];rfl
    rw[e];simp only[af,Ex,BC (h9.at_ 1 rfl),show decide (([44]:List UInt8)=[])=false from rfl,Bool.not_false];refine Rq.rowOf hL hn he (w:=[44]) (kd:=5) rfl ho h9 λc s3 H10 nx10 ho h10=> ?_;refine Hq.kl [_] h10 a.len λH11 h11=> ?_;exact xS hL rfl ho h11
  . rw[if_neg h44]at ho;have h44':cK L [44] s2=false:=by simpa using h44
    by_cases h59:cK L [59] s2=true
    . rw[if_pos h59]at ho;have e:oK L [[44],[59]] s2=[59]:=by rw[qD,List.find?_cons,h44',List.find?_cons,h59];rfl
      rw[e];simp only[af,Ex,BC (h9.at_ 1 rfl),show decide (([59]:List UInt8)=[])=false from rfl,Bool.not_false];refine Rq.rowOf hL hn he (w:=[59]) (kd:=13) rfl ho h9 λc s3 H10 nx10 ho h10=> ?_;refine Hq.kl [_] h10 a.len λH11 h11=> ?_;exact xS hL rfl ho h11
    . rw[if_neg h59]at ho;have h59':cK L [59] s2=false:=by simpa using h59
      have e:oK L [[44],[59]] s2=[]:=by rw[qD,List.find?_cons,h44',List.find?_cons,h59'];rfl
      rw[e];simp only[af,Ex,show decide (([]:List UInt8)=[])=true from rfl,Bool.not_true];exact xS hL rfl ho h9
 have J34t:∀H4 nx4 s',ry (.mk 5 0 [] [] [] []) s'=some o->Hp nx0 H0 (cq bp L s'::(x0,[i64 0,i64 0,aD [],aC,aC,aC],44)::F) H4 nx4->aO P pl X0 (.jump (ng (ptr bp) (ptr x0) true H4 nx4)) nx0 H0 (bD nx0 H0 bp L F aH.v o):=by
  intro H4 nx4 s' ho h4;refine Wq.jmp (Ef ..) (λ_=>rfl) ?_;simp only[af];exact Hq.fin (G:=[]) h4 bG bZ de rfl rfl rfl dP.nil.fz (by omega) λH5 nx5 h5=>bD.ret ho rfl h5
 have J:∀b,(s.2.isNone&&jU L s.1)=b->aO P pl X0 (.jump (mr (ptr bp) (ptr x0) (ak (tk L s.1).v) b H3 nx3)) nx0 H0 (bD nx0 H0 bp L F aH.v o):=by
  intro b hb;refine Wq.jmp (QD ..) (λ_=>rfl) ?_;cases b with
  | true=>
    rw[Bool.and_eq_true]at hb;have hlt:=qu hb.2;have hc:=z3 hb.2;simp only[X7 hb.1]at ho;simp only[af,Sb h3,dE hL hlt];refine js h3 λH4 h4=> ?_;refine Wq.ite (λhi=> ?_) (λhi=> ?_)
    . rw[if_pos hi]at ho;simp only[af,EL];exact Hq.fin (G:=[]) h4 bG bZ de rfl rfl rfl dP.nil.fz (by omega) λH5 nx5 h5=>bD.ret ho rfl h5
    rw[if_neg hi]at ho;refine Wq.ite (λhi=> ?_) (λhi=> ?_)
    . rw[if_pos hi]at ho;simp only[af,lH];exact Hq.fin (G:=[]) h4 bG bZ de rfl rfl rfl dP.nil.fz (by omega) λH5 nx5 h5=>bD.ret ho rfl h5
    rw[if_neg hi]at ho;refine Wq.ite (λhi=> ?_) (λhi=> ?_)
    . rw[if_pos hi]at ho;simp only[af,lH];exact Hq.fin (G:=[]) h4 bG bZ de rfl rfl rfl dP.nil.fz (by omega) λH5 nx5 h5=>bD.ret ho rfl h5
    rw[if_neg hi,if_pos (by omega)]at ho;simp only[af,lH];exact Hq.fin (G:=[]) h4 bG bZ de rfl rfl rfl dP.nil.fz (by omega) λH5 nx5 h5=>bD.ret ho rfl h5
  | false=>
    rw[if_neg (Pc hb (by simp)),if_neg (Pc hb (by simp)),if_neg (Pc hb (by simp)),if_neg (Pc hb (by simp))]at ho;simp only[af];refine Rq.take hL h3 (λhi H4 nx4 h4=> ?_) (λhi H4 nx4 h4=> ?_)
    . rw[if_pos hi,<- Pb ((rp L n).lt _)]at ho;simp only[af];refine Rq.call hlt rfl h4 ho λa s' H5 nx5 _ ho h5=> ?_;exact Hq.kZ h5 rfl λH9 nx9 h9=>bD.ret ho rfl h9
    . rw[if_neg hi]at ho;simp only[af];refine Rq.aZ hL h4 λH5 nx5 h5=> ?_;have ho:(if(dZ L [40] s).2.isSome=true then _ else if cK L [41] (dZ L [40] s)=true then _ else _)=some o:=ho;cases hs:(dZ L [40] s).2 with
      | some t=>
        rw[if_pos (by rw[hs];rfl)]at ho;simp only[af,tb h5,hs,Option.isSome_some];exact J34t _ _ _ ho h5
      | none=>
        rw[if_neg (by rw[hs];simp)]at ho;simp only[af,tb h5,hs,Option.isSome_none];refine Rq.take hL h5 (λhi H6 nx6 h6=> ?_) (λhi H6 nx6 h6=> ?_)
        . rw[if_pos hi]at ho;simp only[af];exact J34t _ _ _ ho h6
        . rw[if_neg hi]at ho;simp only[af];exact J34 false _ _ _ (by simp) ho h6
 simp only[af,tb h3,k_];cases hs:s.2.isNone with
 | false=>
   simp only[af];exact J false (by rw[hs];rfl)
 | true=>
   rw[hs,Bool.true_and]at J;simp only[af];unfold jU at J
   revert J
   generalize (tk L s.1).k=kk;intro J;refine Wq.ite (λhi=>J true (by simp[hi])) (λhi=> ?_);refine Wq.ite (λhj=>J true (by simp[hj])) (λhj=> ?_);refine Wq.ite (λhk=>J true (by simp[hk])) (λhk=> ?_);exact J _ (by simp[hi,hj,hk])
theorem qI (hL:L.length<=100000){z:List Value}{a:aH}{ds:List a_}{sd:Value}{x0 x1 x2:Nat}{o:aH×bJ}(hd:Gw true 17 57 (ds.map a_.v) sd G')(hz:z.length=6)(ho:rn L [101,110,100] s (λs=>ry (.mk 10 0 [] [a] [] ds) s)=some o)
 (h:Hp nx0 H0 (cq bp L s::(x2,a.cs,44)::(x1,[i64 10,i64 0,aD [],aC,aC,sd],44)::(x0,z,44)::(G'++F)) H nx):aO P pl X0 (.jump (lC (ptr bp) (ptr x0) (ptr x1) (ptr x2) H nx)) nx0 H0 (bD nx0 H0 bp L F aH.v o):=by
 refine Wq.jmp (LI ..) (λ_=>rfl) ?_;refine Rq.aZ hL h λH1 aE h1=> ?_;simp only[af,d_ (h1.at_ 1 rfl) a.len];refine Hq.dp a.cs a.len h1 λx H2 nx2 h2=> ?_;refine Hq.put [_,_,_] h2 sn rfl rfl (by simp) rfl λH3 h3=> ?_;simp only[af,d_ (h3.at_ 3 rfl) rfl];have hl:=dP.UQ (b:=x) (dP.of a) hd;have h4:Hp nx0 H0 (cq bp L (dZ L [101,110,100] s)::(x0,z,44)::(((x,a.cs,44)::[]++G')++F)) H3 nx2:=(Hp.mv [_,_,_] h3).sub (by simp);exact Hq.fin h4 bG bZ de hz hl.len hl.one hl.fz (by omega) λH5 nx5 h5=>bD.ret ho rfl h5
theorem E5 (hL:L.length<=100000){n:Nat}(hn:n<=94000)(he:∀j,j<=n->bf 39 L aH.v (rp L j).exp):∀(m:Nat),(∀j,j<m->bf 67 L gZ (rp L j).bind)->∀(ds:List a_) (s:bJ) (sd:Value) (G':List Bx) (o:aH×bJ) (z:List Value) (x0 x1 nx:Nat) (H:Go.Ev.T OB),ds.length+m<=95000->Gw true 17 57 (ds.map a_.v) sd G'->z.length=6->
 rb ((rp L m).ga ds s) (λds s=>rb ((rp L n).exp s) λa s=>
  if cK L [59] s=true then rb (ki L (rp L n) [59] (.mk 13 0 [] [a] [] []) s) λa s=>rn L [101,110,100] s λs=>ry (.mk 10 0 [] [a] [] ds) s
  else rn L [101,110,100] s λs=>ry (.mk 10 0 [] [a] [] ds) s)=some o->Hp nx0 H0 (cq bp L s::(x1,[i64 10,i64 0,aD [],aC,aC,sd],44)::(x0,z,44)::(G'++F)) H nx->
 aO P pl X0 (.jump (w7 (ptr bp) (ptr x0) (ptr x1) H nx)) nx0 H0 (bD nx0 H0 bp L F aH.v o)
 | 0,_,ds,s,sd,G',o,z,x0,x1,nx,H,hm,hd,hz,ho,h=>by cases ho
 | m+1,hb,ds,s,sd,G',o,z,x0,x1,nx,H,hm,hd,hz,ho,h=>by
   have ho:rb (Bn L (rp L m) ds s) (λds s=>rb ((rp L n).exp s) λa s=>
    if cK L [59] s=true then rb (ki L (rp L n) [59] (.mk 13 0 [] [a] [] []) s) λa s=>rn L [101,110,100] s λs=>ry (.mk 10 0 [] [a] [] ds) s
    else rn L [101,110,100] s λs=>ry (.mk 10 0 [] [a] [] ds) s)=some o:=ho
   unfold Bn at ho;refine Wq.jmp (QE ..) (λ_=>rfl) ?_;cases hs:s.2 with
   | some t=>
     rw[if_pos (by rw[hs];rfl),iP]at ho;simp only[af,tb h,hs,Option.isSome_some,Bool.not_true];refine Rq.call (he n (Nat.le_refl n)) rfl h ho λa s' H2 nx2 _ ho h2=> ?_;refine Hq.alloc bc h2 λx2 H3 nx3 h3=> ?_;refine Hq.kl [_] h3 rfl λH4 h4=> ?_;refine Rq.is h4 λH5 nx5 h5=> ?_;cases hc:cK L [59] s' with
     | true=>
       rw[if_pos hc]at ho;simp only[af,BC (h5.at_ 1 rfl)];refine Rq.rowOf hL hn he (w:=[59]) (kd:=13) rfl ho h5 λc s3 H10 nx10 ho h10=> ?_;refine Hq.kl [_] h10 a.len λH11 h11=> ?_;exact qI hL hd hz ho h11
     | false=>
       rw[if_neg (by rw[hc];simp)]at ho;simp only[af];exact qI hL hd hz ho h5
   | none=>
     rw[if_neg (by rw[hs];simp)]at ho;simp only[af,tb h,hs,Option.isSome_none,Bool.not_false];refine Rq.take hL h (λhi H1 aE h1=> ?_) (λhi H1 aE h1=> ?_)
     . rw[if_pos hi,iP]at ho;simp only[af,Bool.not_true];refine Rq.call (he n (Nat.le_refl n)) rfl h1 ho λa s' H2 nx2 _ ho h2=> ?_;refine Hq.alloc bc h2 λx2 H3 nx3 h3=> ?_;refine Hq.kl [_] h3 rfl λH4 h4=> ?_;refine Rq.is h4 λH5 nx5 h5=> ?_;cases hc:cK L [59] s' with
       | true=>
         rw[if_pos hc]at ho;simp only[af,BC (h5.at_ 1 rfl)];refine Rq.rowOf hL hn he (w:=[59]) (kd:=13) rfl ho h5 λc s3 H10 nx10 ho h10=> ?_;refine Hq.kl [_] h10 a.len λH11 h11=> ?_;exact qI hL hd hz ho h11
       | false=>
         rw[if_neg (by rw[hc];simp)]at ho;simp only[af];exact qI hL hd hz ho h5
     . rw[if_neg hi,kb]at ho;simp only[af,Bool.not_false];refine Rq.call (hb m (Nat.lt_succ_self m)) rfl h1 ho λd s' H2 nx2 _ ho h2=> ?_;unfold gZ;simp only[af,F9,F_];refine Hq.UR h2 λH3 nx3 h3=> ?_;have J:∀s2 H3 nx3,rb ((rp L m).ga (ds++[d.getD kU]) (jo L [59] s2)) (λds s=>rb ((rp L n).exp s) λa s=>
        if cK L [59] s=true then rb (ki L (rp L n) [59] (.mk 13 0 [] [a] [] []) s) λa s=>rn L [101,110,100] s λs=>ry (.mk 10 0 [] [a] [] ds) s
        else rn L [101,110,100] s λs=>ry (.mk 10 0 [] [a] [] ds) s)=some o->Hp nx0 H0 (cq bp L s2::(x1,[i64 10,i64 0,aD [],aC,aC,sd],44)::(x0,z,44)::(G'++F)) H3 nx3->aO P pl X0 (.jump (qm (ptr bp) (ptr x0) (ptr x1) (ak (d.getD kU).v) H3 nx3)) nx0 H0 (bD nx0 H0 bp L F aH.v o):=by
        intro s2 H3 nx3 ho h3;refine Wq.jmp (LH ..) (λ_=>rfl) ?_;simp only[af,aw (off:=5) (u:=sd) (h3.at_ 1 rfl) kL rfl,X3];refine Hq.qy (d.getD kU).cs (d.getD kU).len h3 λx H4 nx4 h4=> ?_;refine Hq.OO [_,_] (x:=d.getD kU) (by omega) hd h4 λsd' G2 H5 nx5 hd' h5=> ?_;refine Hq.put [_] h5 sk (by rcases hd'.2 with⟨_,rfl,_⟩ | ⟨b,c,rfl,_⟩<;>rfl) (cE hd') (by simp) rfl λH6 h6=> ?_;refine Rq.O_ hL h6 λbb H7 nx7 h7=> ?_;simp only[af];exact E5 hL hn he m (λj hj=>hb j (by omega)) (ds++[d.getD kU]) _ sd' G2 o z x0 x1 nx7 H7 (by rw[List.length_append];simp;omega) hd' hz ho h7
       cases hd2:d.isSome with
       | false=>
         rw[hd2,if_neg (by simp)]at ho;simp only[af,Bool.not_false];exact Rq.fail h3 λH4 nx4 h4=>J _ H4 nx4 ho h4
       | true=>
         rw[hd2,if_pos rfl]at ho;simp only[af,Bool.not_true];exact J _ H3 nx3 ho h3
theorem M7 (hL:L.length<=100000){n:Nat}(hn:n<=94000)(he:∀j,j<=n->bf 39 L aH.v (rp L j).exp)(hb:∀j,j<=n->bf 67 L gZ (rp L j).bind):bf 198 L aH.v (rp L (n+1)).lt:=by
 intro nx0 nx H0 H bp F s o ho h;have ho:RE L (rp L n) s=some o:=ho;unfold RE at ho;rw[W9];refine Hq.alloc bc h λx0 H1 aE h1=> ?_;refine Hq.alloc bc h1 λx1 H2 nx2 h2=> ?_;refine Hq.set [_] h2 bG rfl rfl rfl λH3 h3=> ?_
 exact E5 hL hn he (n+1) (λj hj=>hb j (by omega)) [] s aC [] o _ x0 x1 nx2 H3 (by simp;omega) (Gw.nil _ _ _) rfl ho h3
end
section
variable {nx0 nx nx' bp k:Nat}{H0 H H':T OB}{F A B G G':List Bx}{R:Go.Ev.Out->T OB->Nat->Prop}{b:Nat}{l:List Value}{e t:TypeId}{L:List Tok}{s s':bJ}{w:List UInt8}{x:Bx}
theorem Hq.U3 (A:List Bx){a:bh}{z:List Value}{kt:Value->Go.Ev.T OB->Nat->Q}(h:Hp nx0 H0 (A++(b,z,47)::B) H nx)(hz:z.length=4)(hk:∀H',Hp nx0 H0 (A++(b,a.cs,47)::B) H' nx->aO P pl X0 (kt undef H' nx) nx0 H0 R):aO P pl X0 (ao (ah P H nx 47 (some (ptr b)) (some a.v)) kt) nx0 H0 R:=
 Hq.set A h cf hz a.len (fE.of a).one hk
def E6 (L:List Tok)(TT:bJ->RR bh)(a:bh)(s:bJ):RR bh:=if cK L [58,58] s=true then rb (TT (aE s)) λb s=>ry (uK a b) s else ry a s
theorem M8 (hL:L.length<=100000){p:RP}(hpatom:bf 160 L bh.v p.bw)(hpat:bf 121 L bh.v p.pat):bf 121 L bh.v (Bo L p):=by
 intro nx0 nx H0 H bp F s o ho h;unfold Bo uL at ho;have hc:∀(a:bh) (s:bJ),(if cK L [58,58] s=true then rb (p.pat (aE s)) λb s=>ry (uK a b) s else ry a s)=E6 L p.pat a s:=λ_ _=>rfl;simp only[hc]at ho;rw[Wp];refine Hq.alloc cS h λx0 H1 aE h1=> ?_;refine Rq.now h1 λH2 nx2 h2=> ?_;refine Sq.Ew h2 λH3 nx3 h3=> ?_;refine Hq.alloc cS h3 λx1 H4 nx4 h4=> ?_;refine Hq.set [_] h4 cf rfl rfl rfl λH5 h5=> ?_
 have J:∀b,cw L 4 s=b->aO P pl X0 (.jump (p5 (ptr bp) (ptr x0) (ak (tk L s.1).v) (ptr x1) b H5 nx4)) nx0 H0 (bD nx0 H0 bp L F bh.v o):=by
  intro b hb;refine Wq.jmp (Lk ..) (λ_=>rfl) ?_;cases b with
  | true=>
    rw[if_pos hb]at ho;simp only[af,Sb h5,dE hL (uT (by decide) hb)];refine js h5 λH6 h6=> ?_;simp only[af,iO];refine Hq.set [_] h6 cf rfl rfl rfl λH7 h7=> ?_
    refine Rq.Jq h7 λH8 nx8 h8=> ?_;cases hp:pf L (Go.Proofs.YthjhonhhbddhkaaGreatDoor.aE s)with
    | true=>
      rw[if_pos hp,kb]at ho;simp only[af];refine Rq.call hpatom rfl h8 ho λa s2 H9 nx9 _ ho h9=> ?_;rw[iP]at ho;unfold E6 at ho;refine Hq.xM h9 λH10 nx10 h10=> ?_;simp only[af,MH];refine Hq.ed a.cs a.len h10 λy H11 nx11 h11=> ?_;refine Hq.put [_,_] h11 o7 rfl rfl (by simp) rfl λH12 h12=> ?_;have hv:fE 1 [i64 6,i64 0,aD (tk L s.1).s,gG y 1 1] (.mk 6 0 (tk L s.1).s [a]) [(y,a.cs,47)]:=fE.b1 (fE.of a);have h13:=Hp.nJ h12;refine Rq.take hL h13 (λhi H14 nx14 h14=> ?_) (λhi H14 nx14 h14=> ?_)
      . rw[if_pos hi]at ho;simp only[af];refine Rq.call hpat rfl h14 ho λc s3 H15 nx15 _ ho h15=> ?_;refine Hq.xM h15 λH16 nx16 h16=> ?_;simp only[af,iv (h16.at_ 1 rfl) hv.len,MH];refine Hq.qx _ c.cs hv.len c.len h16 λy1 H17 nx17 h17=> ?_;simp only[af,lI];refine Hq.ed [i64 5,i64 0,aD [],gG y1 2 2] rfl h17 λy2 H18 nx18 h18=> ?_;simp only[af,qz];have h19:Hp nx0 H0 (cq bp L s3::(x0,[i64 0,i64 0,aD [],aC],47)::((y2,[i64 5,i64 0,aD [],gG y1 2 2],47)::(y1,[i64 6,i64 0,aD (tk L s.1).s,gG y 1 1]++c.cs,47)::[(y,a.cs,47)]++F)) H18 nx18:=(Hp.mv [_,_,_] h18).sub (by simp);exact Hq.fin h19 cf cG dM rfl rfl rfl (fE.b1 (fE.b2 hv)).fz (by omega) λH5 nx5 h5=>bD.ret ho rfl h5
      . rw[if_neg hi]at ho;simp only[af,iv (h14.at_ 1 rfl) hv.len];have h15:Hp nx0 H0 (cq bp L s2::(x0,[i64 0,i64 0,aD [],aC],47)::([(y,a.cs,47)]++F)) H14 nx14:=(Hp.mv [_] h14).sub (by simp);exact Hq.fin h15 cf cG dM rfl hv.len hv.one hv.fz (by omega) λH5 nx5 h5=>bD.ret ho rfl h5
    | false=>
      rw[if_neg (by rw[hp];simp),iP]at ho;unfold E6 at ho;simp only[af];have hv:fE 0 [i64 6,i64 0,aD (tk L s.1).s,aC] (.mk 6 0 (tk L s.1).s []) []:=fE.nil;refine Rq.take hL h8 (λhi H14 nx14 h14=> ?_) (λhi H14 nx14 h14=> ?_)
      . rw[if_pos hi]at ho;simp only[af];refine Rq.call hpat rfl h14 ho λc s3 H15 nx15 _ ho h15=> ?_;refine Hq.xM h15 λH16 nx16 h16=> ?_;simp only[af,iv (h16.at_ 1 rfl) hv.len,MH];refine Hq.qx _ c.cs hv.len c.len h16 λy1 H17 nx17 h17=> ?_;simp only[af,lI];refine Hq.ed [i64 5,i64 0,aD [],gG y1 2 2] rfl h17 λy2 H18 nx18 h18=> ?_;simp only[af,qz];have h19:Hp nx0 H0 (cq bp L s3::(x0,[i64 0,i64 0,aD [],aC],47)::((y2,[i64 5,i64 0,aD [],gG y1 2 2],47)::(y1,[i64 6,i64 0,aD (tk L s.1).s,aC]++c.cs,47)::[]++F)) H18 nx18:=(Hp.mv [_,_,_] h18).sub (by simp);exact Hq.fin h19 cf cG dM rfl rfl rfl (fE.b1 (fE.b2 hv)).fz (by omega) λH5 nx5 h5=>bD.ret ho rfl h5
      . rw[if_neg hi]at ho;simp only[af,iv (h14.at_ 1 rfl) hv.len];have h15:Hp nx0 H0 (cq bp L (Go.Proofs.YthjhonhhbddhkaaGreatDoor.aE s)::(x0,[i64 0,i64 0,aD [],aC],47)::([]++F)) H14 nx14:=(Hp.mv [_] h14).sub (by simp);exact Hq.fin h15 cf cG dM rfl hv.len hv.one hv.fz (by omega) λH5 nx5 h5=>bD.ret ho rfl h5
  | false=>
    rw[if_neg (by rw[hb];simp)]at ho;simp only[af];refine Rq.call hpatom rfl h5 ho λa s2 H6 nx6 _ ho h6=> ?_;unfold E6 at ho;refine Hq.U3 [_] h6 rfl λH7 h7=> ?_;have hv:=fE.of a;refine Rq.take hL h7 (λhi H14 nx14 h14=> ?_) (λhi H14 nx14 h14=> ?_)
    . rw[if_pos hi]at ho;simp only[af];refine Rq.call hpat rfl h14 ho λc s3 H15 nx15 _ ho h15=> ?_;refine Hq.xM h15 λH16 nx16 h16=> ?_;simp only[af,iv (h16.at_ 1 rfl) hv.len,MH];refine Hq.qx _ c.cs hv.len c.len h16 λy1 H17 nx17 h17=> ?_;simp only[af,lI];refine Hq.ed [i64 5,i64 0,aD [],gG y1 2 2] rfl h17 λy2 H18 nx18 h18=> ?_;simp only[af,qz];have h19:Hp nx0 H0 (cq bp L s3::(x0,[i64 0,i64 0,aD [],aC],47)::((y2,[i64 5,i64 0,aD [],gG y1 2 2],47)::(y1,a.cs++c.cs,47)::[]++F)) H18 nx18:=(Hp.mv [_,_,_] h18).sub (by simp);exact Hq.fin h19 cf cG dM rfl rfl rfl (fE.b1 (fE.b2 hv)).fz (by omega) λH5 nx5 h5=>bD.ret ho rfl h5
    . rw[if_neg hi]at ho;simp only[af,iv (h14.at_ 1 rfl) hv.len];have h15:Hp nx0 H0 (cq bp L s2::(x0,[i64 0,i64 0,aD [],aC],47)::([]++F)) H14 nx14:=(Hp.mv [_] h14).sub (by simp);exact Hq.fin h15 cf cG dM rfl hv.len hv.one hv.fz (by omega) λH5 nx5 h5=>bD.ret ho rfl h5
 simp only[af,tb h5,k_];unfold cw at J;cases hs:s.2.isNone with
 | false=>rw[hs]at J;simp only[af];exact J false rfl
 | true=>rw[hs]at J;simp only[af];exact J _ (Bool.true_and _)
theorem E7 (hL:L.length<=100000):∀(m:Nat),(∀j,j<m->bf 121 L bh.v (rp L j).pat)->∀(l:List bh) (s:bJ) (sl:Value) (G:List Bx) (o:bh×bJ) (z:List Value) (x0 x1 nx:Nat) (H:Go.Ev.T OB),l.length+m<=95000->Gw true 4 47 (l.map bh.v) sl G->z.length=4->
 rb ((rp L m).fQ l s) (λl s=>rn L [41] s λs=>ry (.mk 5 0 [] l) s)=some o->Hp nx0 H0 (cq bp L s::(x1,[i64 5,i64 0,aD [],sl],47)::(x0,z,47)::(G++F)) H nx->
 aO P pl X0 (.jump (qa (ptr bp) (ptr x0) (ptr x1) H nx)) nx0 H0 (bD nx0 H0 bp L F bh.v o)
 | 0,_,l,s,sl,G,o,z,x0,x1,nx,H,hm,hG,hz,ho,h=>by cases ho
 | m+1,hp,l,s,sl,G,o,z,x0,x1,nx,H,hm,hG,hz,ho,h=>by
   have ho:rb (pg L (rp L m) l s) (λl s=>rn L [41] s λs=>ry (.mk 5 0 [] l) s)=some o:=ho;unfold pg at ho;refine Wq.jmp (Lr ..) (λ_=>rfl) ?_;refine Rq.take hL h (λhi H1 aE h1=> ?_) (λhi H1 aE h1=> ?_)
   . rw[if_pos hi,kb]at ho;simp only[af];refine Rq.call (hp m (Nat.lt_succ_self m)) rfl h1 ho λc s' H2 nx2 _ ho2 h2=> ?_;refine Hq.xM h2 λH3 nx3 h3=> ?_;simp only[af,aw (off:=3) (u:=sl) (h3.at_ 1 rfl) gv rfl,MH];refine Hq.ed c.cs c.len h3 λx H4 nx4 h4=> ?_;refine Hq.uN [_,_] (x:=c) (by omega) hG h4 λsl' G' H5 nx5 hG' h5=> ?_;refine Hq.put [_] h5 o7 (by rcases hG'.2 with⟨_,rfl,_⟩ | ⟨b,c,rfl,_⟩<;>rfl) (cE hG') (by simp) rfl λH6 h6=> ?_;exact E7 hL m (λj hj=>hp j (by omega)) (l++[c]) s' sl' G' o z x0 x1 nx5 H6 (by rw[List.length_append];simp;omega) hG' hz ho2 h6
   . rw[if_neg hi,iP]at ho;simp only[af];refine Rq.aZ hL h1 λH2 nx2 h2=> ?_;have hv:fE 1 [i64 5,i64 0,aD [],sl] (.mk 5 0 [] l) G:=fE.gw hG;simp only[af,iv (h2.at_ 1 rfl) hv.len];have h4:Hp nx0 H0 (cq bp L (dZ L [41] s)::(x0,z,47)::(G++F)) H2 nx2:=(Hp.mv [_] h2).sub (by simp);exact Hq.fin h4 cf cG dM hz hv.len hv.one hv.fz (by omega) λH5 nx5 h5=>bD.ret ho rfl h5
theorem M9 (hL:L.length<=100000){n:Nat}(hn:n<=94000)(hpat:∀j,j<=n->bf 121 L bh.v (rp L j).pat):bf 160 L bh.v (rp L (n+1)).bw:=by
 intro nx0 nx H0 H bp F s o ho h;have ho:my L (rp L n) s=some o:=ho;unfold my at ho;rw[WN];refine Hq.alloc cS h λx0 H1 aE h1=> ?_;refine Rq.now h1 λH2 nx2 h2=> ?_;refine Sq.Ew h2 λH3 nx3 h3=> ?_;have J42t:∀H4 nx4 s',ry (.mk 5 0 [] []) s'=some o->Hp nx0 H0 (cq bp L s'::(x0,[i64 0,i64 0,aD [],aC],47)::F) H4 nx4->aO P pl X0 (.jump (p_ (ptr bp) (ptr x0) true H4 nx4)) nx0 H0 (bD nx0 H0 bp L F bh.v o):=by
  intro H4 nx4 s' ho h4;refine Wq.jmp (D8 ..) (λ_=>rfl) ?_;simp only[af];exact Hq.fin (G:=[]) h4 cf cG dM rfl rfl rfl fE.nil.fz (by omega) λH5 nx5 h5=>bD.ret ho rfl h5
 have J:∀b,(s.2.isNone&&jU L s.1)=b->aO P pl X0 (.jump (mq (ptr bp) (ptr x0) (ak (tk L s.1).v) b H3 nx3)) nx0 H0 (bD nx0 H0 bp L F bh.v o):=by
  intro b hb;refine Wq.jmp (Qx ..) (λ_=>rfl) ?_;cases b with
  | true=>
    rw[Bool.and_eq_true]at hb;have hlt:=qu hb.2;have hc:=z3 hb.2;simp only[X7 hb.1]at ho;simp only[af,Sb h3,dE hL hlt];refine js h3 λH4 h4=> ?_;refine Wq.ite (λhi=> ?_) (λhi=> ?_)
    . rw[if_pos hi]at ho;simp only[af,qA];exact Hq.fin (G:=[]) h4 cf cG dM rfl rfl rfl fE.nil.fz (by omega) λH5 nx5 h5=>bD.ret ho rfl h5
    rw[if_neg hi]at ho;refine Wq.ite (λhi=> ?_) (λhi=> ?_)
    . rw[if_pos hi]at ho;simp only[af,iO];exact Hq.fin (G:=[]) h4 cf cG dM rfl rfl rfl fE.nil.fz (by omega) λH5 nx5 h5=>bD.ret ho rfl h5
    rw[if_neg hi]at ho;refine Wq.ite (λhi=> ?_) (λhi=> ?_)
    . rw[if_pos hi]at ho;simp only[af,iO];exact Hq.fin (G:=[]) h4 cf cG dM rfl rfl rfl fE.nil.fz (by omega) λH5 nx5 h5=>bD.ret ho rfl h5
    rw[if_neg hi,if_pos (by omega)]at ho;simp only[af,iO];exact Hq.fin (G:=[]) h4 cf cG dM rfl rfl rfl fE.nil.fz (by omega) λH5 nx5 h5=>bD.ret ho rfl h5
  | false=>
    rw[if_neg (Pc hb (by simp)),if_neg (Pc hb (by simp)),if_neg (Pc hb (by simp)),if_neg (Pc hb (by simp))]at ho;simp only[af];refine Rq.take hL h3 (λhi H4 nx4 h4=> ?_) (λhi H4 nx4 h4=> ?_)
    . rw[if_pos hi]at ho;simp only[af];exact Hq.fin (G:=[]) h4 cf cG dM rfl rfl rfl fE.nil.fz (by omega) λH5 nx5 h5=>bD.ret ho rfl h5
    rw[if_neg hi]at ho;simp only[af];refine Rq.take hL h4 (λhi H5 nx5 h5=> ?_) (λhi H5 nx5 h5=> ?_)
    . rw[if_pos hi]at ho;simp only[af];refine Rq.now h5 λH6 nx6 h6=> ?_;simp only[af];refine Rq.kind (by decide) hL h6 λH7 nx7 h7=> ?_;simp only[af,OU,qA];exact Hq.fin (G:=[]) h7 cf cG dM rfl rfl rfl fE.nil.fz (by omega) λH8 nx8 h8=>bD.ret ho rfl h8
    rw[if_neg hi]at ho;simp only[af];refine Rq.aZ hL h5 λH6 nx6 h6=> ?_;have ho:(if(dZ L [40] s).2.isSome=true then _ else if cK L [41] (dZ L [40] s)=true then _ else _)=some o:=ho;cases hs:(dZ L [40] s).2 with
    | some t=>
      rw[if_pos (by rw[hs];rfl)]at ho;simp only[af,tb h6,hs,Option.isSome_some];exact J42t _ _ _ ho h6
    | none=>
      rw[if_neg (by rw[hs];simp)]at ho;simp only[af,tb h6,hs,Option.isSome_none];refine Rq.take hL h6 (λhi H7 nx7 h7=> ?_) (λhi H7 nx7 h7=> ?_)
      . rw[if_pos hi]at ho;simp only[af];exact J42t _ _ _ ho h7
      rw[if_neg hi]at ho;simp only[af];refine Wq.jmp (D8 ..) (λ_=>rfl) ?_;simp only[af];refine Rq.call (hpat n (Nat.le_refl n)) rfl h7 ho λa s' H8 nx8 _ ho h8=> ?_;refine Hq.alloc cS h8 λx1 H9 nx9 h9=> ?_;refine Hq.U3 [_] h9 rfl λH10 h10=> ?_;refine Rq.is h10 λH11 nx11 h11=> ?_;cases hc:cK L [44] s' with
      | true=>
        rw[if_pos hc]at ho;simp only[af,iv (h11.at_ 1 rfl) a.len];refine Hq.ed a.cs a.len h11 λx H12 nx12 h12=> ?_;simp only[af,lI];refine Hq.set [_,_] h12 cf a.len rfl rfl λH13 h13=> ?_
        exact E7 hL (n+1) (λj hj=>hpat j (by omega)) [a] s' (gG x 1 1) [(x,a.cs,47)] o _ x0 x1 nx12 H13 (show 1+(n+1)<=95000 by omega) (Gw.j1 a.fR) rfl ho (Hp.nJ h13)
      | false=>
        rw[if_neg (by rw[hc];simp)]at ho;simp only[af];refine Wq.jmp (Ls ..) (λ_=>rfl) ?_;refine Rq.aZ hL h11 λH12 nx12 h12=> ?_;simp only[af,iv (h12.at_ 1 rfl) a.len];have h13:Hp nx0 H0 (cq bp L (dZ L [41] s')::(x0,[i64 0,i64 0,aD [],aC],47)::([]++F)) H12 nx12:=(Hp.mv [_] h12).sub (by simp);exact Hq.fin h13 cf cG dM rfl a.len (fE.of a).one a.fz (by omega) λH5 nx5 h5=>bD.ret ho rfl h5
 simp only[af,tb h3,k_];cases hs:s.2.isNone with
 | false=>
   simp only[af];exact J false (by rw[hs];rfl)
 | true=>
   rw[hs,Bool.true_and]at J;simp only[af];unfold jU at J
   revert J
   generalize (tk L s.1).k=kk;intro J;refine Wq.ite (λhi=>J true (by simp[hi])) (λhi=> ?_);refine Wq.ite (λhj=>J true (by simp[hj])) (λhj=> ?_);refine Wq.ite (λhk=>J true (by simp[hk])) (λhk=> ?_);exact J _ (by simp[hi,hj,hk])
end
section
variable {nx0 nx nx' bp k:Nat}{H0 H H':T OB}{F A B G G':List Bx}{R:Go.Ev.Out->T OB->Nat->Prop}{b:Nat}{l:List Value}{e t:TypeId}{L:List Tok}{s s':bJ}{w:List UInt8}{x:Bx}
theorem Pd (a:bo):ae P H 138 (some (ak a.v))=some a.v:=by
 rw[bo.br];exact AT ..
theorem Hq.BD {a:bo}{kt:Go.Ev.T OB->Nat->Q}(h:Hp nx0 H0 F H nx)(hk:∀H' nx',Hp nx0 H0 F H' nx'->aO P pl X0 (kt H' nx') nx0 H0 R):aO P pl X0 (ao (au P H nx 138) λp H nx=>bF P H nx 138 (some p) a.v kt) nx0 H0 R:=Hq.var cv bR rfl a.len (iW.of a).one h hk
theorem Hq.U4 {z:List Value}{a:bo}{x0:Nat}{kt:Value->Go.Ev.T OB->Nat->Q}(h:Hp nx0 H0 (x::(x0,z,138)::F) H nx)(hz:z.length=3)(hk:∀H' nx',Hp nx0 H0 (x::F) H' nx'->aO P pl X0 (kt a.v H' nx') nx0 H0 R):
 aO P pl X0 (ao (ah P H nx 138 (some (ptr x0)) (some a.v)) λ_ H nx=>aa (ae P H 138 (some (ptr x0))) (λx=>aX P 138 x H nx kt) .bad) nx0 H0 R:=
 Hq.fin (G:=[]) h bR ft ir hz a.len (iW.of a).one a.fz (by omega) hk
theorem Y_ {sl:Value}{l:List bo}(hG:Gw true 3 138 (l.map bo.v) sl G)(k:Int):az P 138 (some [(0,i64 k),(2,sl)])=some (.agg ⟨[i64 k,aD [],sl]⟩):=by
 rcases hG.2 with⟨_,rfl,_⟩ | ⟨b,c,rfl,_⟩<;>exact nH ..
theorem Za {sl:Value}{l:List bo}(hG:Gw true 3 138 (l.map bo.v) sl G)(k:Int)(w:List UInt8):az P 138 (some [(0,i64 k),(1,aD w),(2,sl)])=some (.agg ⟨[i64 k,aD w,sl]⟩):=by
 rcases hG.2 with⟨_,rfl,_⟩ | ⟨b,c,rfl,_⟩<;>exact nI ..
theorem M_ (hL:L.length<=100000){p:RP}(hpr:bf 158 L bo.v (kW L p))(htyp:bf 120 L bo.v p.dT):bf 120 L bo.v (Bp L p):=by
 intro nx0 nx H0 H bp F s o ho h;unfold Bp at ho;rw[Wo];refine Hq.alloc cv h λx0 H1 aE h1=> ?_;refine Rq.call hpr rfl h1 ho λa s2 H2 nx2 _ ho h2=> ?_;refine Hq.BD h2 λH3 nx3 h3=> ?_;refine Rq.take hL h3 (λhi H4 nx4 h4=> ?_) (λhi H4 nx4 h4=> ?_)
 . rw[if_pos hi]at ho;simp only[af];refine Rq.call htyp rfl h4 ho λc s3 H5 nx5 _ ho h5=> ?_;refine Hq.BD h5 λH6 nx6 h6=> ?_;simp only[af,Pd];refine Hq.EH a.cs c.cs a.len c.len h6 λy H7 nx7 h7=> ?_;simp only[af,nH];have h8:Hp nx0 H0 (cq bp L s3::(x0,_,138)::([(y,a.cs++c.cs,138)]++F)) H7 nx7:=Hp.swap' h7;exact Hq.fin h8 bR ft ir rfl rfl rfl (iW.b2 (iW.of a)).fz (by omega) λH5 nx5 h5=>bD.ret ho rfl h5
 . rw[if_neg hi]at ho;simp only[af,Pd];exact Hq.U4 h4 rfl λH5 nx5 h5=>bD.ret ho rfl h5
theorem E8 (hL:L.length<=100000):∀(m:Nat),(∀j,j<m->bf 181 L bo.v (rp L j).post)->∀(l:List bo) (s:bJ) (sl:Value) (G:List Bx) (o:bo×bJ) (z:List Value) (x0 nx:Nat) (H:Go.Ev.T OB),l.length+m<=95000->Gw true 3 138 (l.map bo.v) sl G->z.length=3->
 rb ((rp L m).dA l s) (λl s=>ry (.mk 4 [] l) s)=some o->Hp nx0 H0 (cq bp L s::(x0,z,138)::(G++F)) H nx->
 aO P pl X0 (.jump (p9 (ptr bp) (ptr x0) sl H nx)) nx0 H0 (bD nx0 H0 bp L F bo.v o)
 | 0,_,l,s,sl,G,o,z,x0,nx,H,hm,hG,hz,ho,h=>by cases ho
 | m+1,hp,l,s,sl,G,o,z,x0,nx,H,hm,hG,hz,ho,h=>by
   have ho:rb (kV L (rp L m) l s) (λl s=>ry (.mk 4 [] l) s)=some o:=ho;unfold kV at ho;refine Wq.jmp (Lq ..) (λ_=>rfl) ?_;refine Rq.take hL h (λhi H1 aE h1=> ?_) (λhi H1 aE h1=> ?_)
   . rw[if_pos hi,kb]at ho;simp only[af];refine Rq.call (hp m (Nat.lt_succ_self m)) rfl h1 ho λc s' H2 nx2 _ ho2 h2=> ?_;refine Hq.BD h2 λH3 nx3 h3=> ?_;simp only[af,Pd];refine Hq.e_ c.cs c.len h3 λx H4 nx4 h4=> ?_;refine Hq.zU [_] (x:=c) (by omega) hG h4 λsl' G' H5 nx5 hG' h5=> ?_;exact E8 hL m (λj hj=>hp j (by omega)) (l++[c]) s' sl' G' o z x0 nx5 H5 (by rw[List.length_append];simp;omega) hG' hz ho2 h5
   . rw[if_neg hi,iP]at ho;have hv:iW 1 [i64 4,aD [],sl] (.mk 4 [] l) G:=iW.gw hG;simp only[af,Y_ hG];exact Hq.fin h1 bR ft ir hz hv.len hv.one hv.fz (by omega) λH5 nx5 h5=>bD.ret ho rfl h5
theorem Na (hL:L.length<=100000){n:Nat}(hn:n<=94000)(hp:∀j,j<=n->bf 181 L bo.v (rp L j).post):bf 158 L bo.v (kW L (rp L n)):=by
 intro nx0 nx H0 H bp F s o ho h;unfold kW at ho;rw[WL];refine Hq.alloc cv h λx0 H1 aE h1=> ?_;refine Rq.call (hp n (Nat.le_refl n)) rfl h1 ho λa s2 H2 nx2 _ ho h2=> ?_;refine Hq.BD h2 λH3 nx3 h3=> ?_;refine Rq.is h3 λH4 nx4 h4=> ?_;cases hi:cK L [42] s2 with
 | true=>
   rw[if_pos hi]at ho;simp only[af,Bool.not_true,Pd];refine Hq.e_ a.cs a.len h4 λx H5 nx5 h5=> ?_;exact E8 hL (n+1) (λj hj=>hp j (by omega)) [a] s2 (gG x 1 1) [(x,a.cs,138)] o _ x0 nx5 H5 (show 1+(n+1)<=95000 by omega) (Gw.j1 a.fR) rfl ho (Hp.swap' h5)
 | false=>
   rw[if_neg (by rw[hi];simp)]at ho;simp only[af,Bool.not_false,Pd];exact Hq.U4 h4 rfl λH5 nx5 h5=>bD.ret ho rfl h5
theorem nL (hL:L.length<=100000):∀(m:Nat) (a:bo) (s:bJ) (n:Nat) (cs z:List Value) (G:List Bx) (o:bo×bJ) (x0 x1 nx:Nat) (H:Go.Ev.T OB),n+m<=95000->iW n cs a G->z.length=3->(rp L m).cP a s=some o->Hp nx0 H0 (cq bp L s::(x1,cs,138)::(x0,z,138)::(G++F)) H nx->
 aO P pl X0 (.jump (lB (ptr bp) (ptr x0) (ptr x1) H nx)) nx0 H0 (bD nx0 H0 bp L F bo.v o)
 | 0,a,s,n,cs,z,G,o,x0,x1,nx,H,hm,hv,hz,ho,h=>by cases ho
 | m+1,a,s,n,cs,z,G,o,x0,x1,nx,H,hm,hv,hz,ho,h=>by
   have ho:jq L (rp L m) a s=some o:=ho;unfold jq at ho;refine Wq.jmp (LB ..) (λ_=>rfl) ?_;refine Rq.Rs h λH1 aE h1=> ?_;cases hi:kj L s with
   | true=>
     rw[if_pos hi]at ho;simp only[af,gU (h1.at_ 1 rfl) hv.len];refine Hq.e_ cs hv.len h1 λx H2 nx2 h2=> ?_;refine Rq.name hL h2 λH3 nx3 h3=> ?_;have e1:MR L s=Go.Proofs.YthjhonhhbddhkaaGreatDoor.aE s:=if_pos hi;have e2:MQ L s=(tk L s.1).s:=if_pos hi;rw[e1]at h3;rw[e2];simp only[af,gU (h3.at_ 2 rfl) hv.len,bj,nI];refine Hq.set [_,_] h3 bR hv.len rfl rfl λH4 h4=> ?_
     exact nL hL m (.mk 2 (tk L s.1).s [a]) _ (n+1) _ z ((x,cs,138)::G) o x0 x1 nx3 H4 (by omega) (iW.b1 (k:=2) (w:=(tk L s.1).s) hv) hz ho (Hp.nJ h4)
   | false=>
     rw[if_neg (by rw[hi];simp)]at ho;simp only[af,gU (h1.at_ 1 rfl) hv.len];have h4:Hp nx0 H0 (cq bp L s::(x0,z,138)::(G++F)) H1 aE:=(Hp.mv [_] h1).sub (by simp);exact Hq.fin h4 bR ft ir hz hv.len hv.one hv.fz (by omega) λH5 nx5 h5=>bD.ret ho rfl h5
theorem E9 (hL:L.length<=100000){M:Nat}(hM:M<=94500):∀(m:Nat),(∀j,j<m->bf 120 L bo.v (rp L j).dT)->∀(l:List bo) (s:bJ) (sl:Value) (G:List Bx) (o:bo×bJ) (z:List Value) (a:bo) (x0 x1 nx:Nat) (H:Go.Ev.T OB),1<l.length->l.length+m<=95000->Gw true 3 138 (l.map bo.v) sl G->z.length=3->
 rb ((rp L m).mC l s) (λl s=>rn L [41] s λs=>(rp L M).cP (.mk 2 (MQ L s) l) (MR L s))=some o->Hp nx0 H0 (cq bp L s::(x1,a.cs,138)::(x0,z,138)::(G++F)) H nx->
 aO P pl X0 (.jump (qi (ptr bp) (ptr x0) (ptr x1) sl H nx)) nx0 H0 (bD nx0 H0 bp L F bo.v o)
 | 0,_,l,s,sl,G,o,z,a,x0,x1,nx,H,hl1,hm,hG,hz,ho,h=>by cases ho
 | m+1,hp,l,s,sl,G,o,z,a,x0,x1,nx,H,hl1,hm,hG,hz,ho,h=>by
   have ho:rb (tO L (rp L m) l s) (λl s=>rn L [41] s λs=>(rp L M).cP (.mk 2 (MQ L s) l) (MR L s))=some o:=ho;unfold tO at ho;refine Wq.jmp (Ed ..) (λ_=>rfl) ?_;refine Rq.take hL h (λhi H1 aE h1=> ?_) (λhi H1 aE h1=> ?_)
   . rw[if_pos hi,kb]at ho;simp only[af];refine Rq.call (hp m (Nat.lt_succ_self m)) rfl h1 ho λc s' H2 nx2 _ ho2 h2=> ?_;refine Hq.BD h2 λH3 nx3 h3=> ?_;simp only[af,Pd];refine Hq.e_ c.cs c.len h3 λx H4 nx4 h4=> ?_;refine Hq.zU [_,_] (x:=c) (by omega) hG h4 λsl' G' H5 nx5 hG' h5=> ?_;exact E9 hL hM m (λj hj=>hp j (by omega)) (l++[c]) s' sl' G' o z a x0 x1 nx5 H5 (by rw[List.length_append];omega) (by rw[List.length_append];simp;omega) hG' hz ho2 h5
   . rw[if_neg hi,iP]at ho;have ho:(rp L M).cP (.mk 2 (MQ L (dZ L [41] s)) l) (MR L (dZ L [41] s))=some o:=ho;simp only[af];refine Rq.aZ hL h1 λH2 nx2 h2=> ?_;obtain⟨b,c,e⟩:∃b c,sl= .slice (some b) l.length c:=by
      rcases hG.2 with⟨q,_⟩ | ⟨b,c,e,_⟩
      . have:=congrArg List.length q;rw[List.length_map]at this;have:l.length=0:=this;omega
      . exact⟨_,c,by rw[e,List.length_map]⟩
     have hgt:decide (1<(l.length:Int))=true:=decide_eq_true (by omega);have hln:aN P #[53] 3 (some [sl])=some (i64 (l.length:Int)):=by rw[e];exact dW (by kernel_rfl)
     simp only[af,hln,hgt];refine Rq.name hL h2 λH3 nx3 h3=> ?_;simp only[af,Za hG];refine Hq.set [_] h3 bR a.len rfl (by simp[cE hG]) λH4 h4=> ?_
     exact nL hL M _ _ 1 _ z G o x0 x1 nx3 H4 (by omega) (iW.gw (k:=2) hG) hz ho h4
theorem Nb (hL:L.length<=100000){n:Nat}(hn:n<=94000)(htyp:∀j,j<=n->bf 120 L bo.v (rp L j).dT):bf 181 L bo.v (rp L (n+1)).post:=by
 intro nx0 nx H0 H bp F s o ho h;have ho:sS L (rp L n) s=some o:=ho;unfold sS oH at ho;rw[WX];refine Hq.alloc cv h λx0 H1 aE h1=> ?_;refine Hq.alloc cv h1 λx1 H2 nx2 h2=> ?_;refine Hq.set [_] h2 bR rfl rfl rfl λH3 h3=> ?_
 refine Rq.now h3 λH4 nx4 h4=> ?_;simp only[af];refine Wq.ite (λhi=> ?_) (λhi=> ?_)
 . rw[if_pos hi]at ho;have ho:jq L (rp L n) (.mk 1 (Ac L 5 s) []) (Gr L 5 s)=some o:=ho;refine Rq.kind (by decide) hL h4 λH5 nx5 h5=> ?_;simp only[af,nG];refine Hq.set [_] h5 bR rfl rfl rfl λH6 h6=> ?_
   refine Wq.jmp (Ec ..) (λ_=>rfl) ?_;exact nL hL (n+1) _ _ 0 _ _ [] o x0 x1 nx5 H6 (by omega) (iW.row (l:=[]) (db.nil ez bR) rfl) rfl ho h6
 . rw[if_neg hi]at ho;refine Rq.Rs h4 λH5 nx5 h5=> ?_;cases ht:kj L s with
   | true=>
     rw[if_pos ht]at ho;simp only[af];refine Rq.name hL h5 λH6 nx6 h6=> ?_;have e1:MR L s=Go.Proofs.YthjhonhhbddhkaaGreatDoor.aE s:=if_pos ht;have e2:MQ L s=(tk L s.1).s:=if_pos ht;rw[e1]at h6;rw[e2];simp only[af,nG];refine Hq.set [_] h6 bR rfl rfl rfl λH7 h7=> ?_
     refine Wq.jmp (Ec ..) (λ_=>rfl) ?_;exact nL hL (n+1) (.mk 2 (tk L s.1).s []) _ 0 _ _ [] o x0 x1 nx6 H7 (by omega) (iW.row (l:=[]) (db.nil ez bR) rfl) rfl ho h7
   | false=>
     rw[if_neg (by rw[ht];simp)]at ho;simp only[af];refine Rq.aZ hL h5 λH6 nx6 h6=> ?_;have ho:rb (if(dZ L [40] s).2.isSome=true then ry RC (dZ L [40] s)else _) (λa s=>jq L (rp L n) a s)=some o:=ho;cases hs:(dZ L [40] s).2 with
     | some t=>
       rw[if_pos (by rw[hs];rfl),iP]at ho;have ho:ry RC (dZ L [40] s)=some o:=by
        unfold jq at ho;rwa[if_neg (by unfold kj;rw[hs];simp)]at ho
       simp only[af,tb h6,hs,Option.isSome_some,gU (h6.at_ 1 rfl) rfl];have h7:Hp nx0 H0 (cq bp L (dZ L [40] s)::(x0,[i64 0,aD [],aC],138)::([]++F)) H6 nx6:=(Hp.mv [_] h6).sub (by simp);exact Hq.fin h7 bR ft ir rfl rfl rfl (iW.row (k:=0) (w:=[]) (l:=[]) (db.nil ez bR) rfl).fz (by omega) λH9 nx9 h9=>bD.ret ho rfl h9
     | none=>
       rw[if_neg (by rw[hs];simp),kb]at ho;simp only[af,tb h6,hs,Option.isSome_none];refine Rq.call (htyp n (Nat.le_refl n)) rfl h6 ho λa s' H7 nx7 _ ho h7=> ?_;refine Hq.set [_] h7 bR rfl a.len (iW.of a).one λH8 h8=> ?_
       simp only[af,gU (h8.at_ 1 rfl) a.len];refine Hq.e_ a.cs a.len h8 λx H9 nx9 h9=> ?_;have h10:=Hp.nJ h9;refine Wq.jmp (Ed ..) (λ_=>rfl) ?_;refine Rq.take hL h10 (λhi H11 nx11 h11=> ?_) (λhi H11 nx11 h11=> ?_)
       . rw[if_pos hi]at ho;have ho:rb (rb (tO L (rp L n) [a] s') (λl s=>rn L [41] s λs=>ry (.mk 2 (MQ L s) l) (MR L s))) (λa s=>jq L (rp L n) a s)=some o:=ho;unfold tO at ho;rw[if_pos hi,kb,kb]at ho;simp only[af];refine Rq.call (htyp n (Nat.le_refl n)) rfl h11 ho λc s2 H12 nx12 _ ho h12=> ?_;refine Hq.BD h12 λH13 nx13 h13=> ?_;simp only[af,Pd];refine Hq.e_ c.cs c.len h13 λy H14 nx14 h14=> ?_;refine Hq.zU [_,_] (l:=[a]) (x:=c) (by simp) (Gw.j1 a.fR) h14 λsl' G' H15 nx15 hG' h15=> ?_;exact E9 hL (M:=n+1) (by omega) n (λj hj=>htyp j (by omega)) ([a]++[c]) s2 sl' G' o _ a x0 x1 nx15 H15 (by simp) (show 2+n<=95000 by omega) hG' rfl ho h15
       . rw[if_neg hi]at ho;have ho:jq L (rp L n) a (dZ L [41] s')=some o:=ho;simp only[af];refine Rq.aZ hL h11 λH12 nx12 h12=> ?_;rw[show decide ((1:Int)<1)=false from rfl];show aO P pl X0 (Q.jump _) _ _ _;have h13:Hp nx0 H0 (cq bp L (dZ L [41] s')::(x1,a.cs,138)::(x0,[i64 0,aD [],aC],138)::([]++F)) H12 nx12:=h12.sub (by simp);exact nL hL (n+1) _ _ 0 _ _ [] o x0 x1 nx12 H12 (by omega) (iW.of a) rfl ho h13
theorem Sm (hL:L.length<=100000){p:RP}(htyp:bf 120 L bo.v p.dT):bf 66 L da.v (Bq L p):=by
 intro nx0 nx H0 H bp F s o ho h;unfold Bq at ho;rw[YP];refine Hq.alloc fZ h λx0 H1 aE h1=> ?_;refine Rq.kind (by decide) hL h1 λH2 nx2 h2=> ?_;have ho:(if cK L [111,102] (Gr L 4 s)=true then rb (p.dT (Go.Proofs.YthjhonhhbddhkaaGreatDoor.aE (Gr L 4 s))) λa s'=>ry ⟨Ac L 4 s,[a]⟩ s' else ry ⟨Ac L 4 s,[]⟩ (Gr L 4 s))=some o:=ho;generalize Ac L 4 s=nm at ho;simp only[af,EM];refine Hq.alloc fZ h2 λx1 H3 nx3 h3=> ?_;refine Hq.set [_] h3 il rfl rfl rfl λH4 h4=> ?_
 refine Rq.take hL h4 (λhi H5 nx5 h5=> ?_) (λhi H5 nx5 h5=> ?_)
 . rw[if_pos hi]at ho;simp only[af];refine Rq.call htyp rfl h5 ho λa s' H6 nx6 _ ho h6=> ?_;refine Hq.BD h6 λH7 nx7 h7=> ?_;simp only[af,Pd];refine Hq.e_ a.cs a.len h7 λx H8 nx8 h8=> ?_;refine Hq.put [_,_] h8 HG rfl rfl (by simp) rfl λH9 h9=> ?_;refine Wq.jmp (Im ..) (λ_=>rfl) ?_;simp only[af,EJ (h9.at_ 2 rfl) rfl];have h10:Hp nx0 H0 (cq bp L s'::(x0,[aD [],aC],55)::([(x,a.cs,138)]++F)) H9 nx8:=(Hp.mv [_,_] h9).sub (by simp);exact Hq.fin h10 il mn zN rfl rfl rfl (gB.of (eW.one (p:=(1,53)) rfl (Gw.RZ (l:=[a]) (Gw.j1 a.fR)))) (by omega) λH10 nx10 h10=>bD.ret ho rfl h10
 . rw[if_neg hi]at ho;simp only[af];refine Wq.jmp (Im ..) (λ_=>rfl) ?_;simp only[af,EJ (h5.at_ 1 rfl) rfl];have h9:Hp nx0 H0 (cq bp L (Gr L 4 s)::(x0,[aD [],aC],55)::([]++F)) H5 nx5:=(Hp.mv [_] h5).sub (by simp);exact Hq.fin h9 il mn zN rfl rfl rfl (gB.of (eW.one (p:=(1,53)) rfl (db.nil ez bR))) (by omega) λH10 nx10 h10=>bD.ret ho rfl h10
end
section
variable {nx0 nx nx' bp k:Nat}{H0 H H':T OB}{F A B G G':List Bx}{R:Go.Ev.Out->T OB->Nat->Prop}{b:Nat}{l:List Value}{e t:TypeId}{L:List Tok}{s s':bJ}{w:List UInt8}{x:Bx}
abbrev bump (s:bJ):bJ:=aE s
theorem E_ (hL:L.length<=100000){E:bJ->RR aH}(he:bf 39 L aH.v E){w:List UInt8}:∀(m:Nat),(∀j,j<m->bf 160 L bh.v (rp L j).bw)->∀(q:List bh) (s:bJ) (sp:Value) (G:List Bx) (o:Fn×bJ) (z:List Value) (x0 x1 nx:Nat) (H:Go.Ev.T OB),q.length+m<=95000->Gw true 4 47 (q.map bh.v) sp G->z.length=8->∀{PA:bJ->RR bh},bf 160 L bh.v PA->
 rb (PA s) (λc s=>rb ((rp L m).mD (q++[c]) s) λl s=>rn L [61] s λs=>rb (E s) λe s=>ry (.mk w l e) s)=some o->Hp nx0 H0 (cq bp L s::(x1,[aD w,sp,i64 0,i64 0,aD [],aC,aC,aC],65)::(x0,z,65)::(G++F)) H nx->
 aO P pl X0 (.jump (wL (ptr bp) (ptr x0) (ptr x1) H nx)) nx0 H0 (bD nx0 H0 bp L F Fn.v o)
 | m,hp,q,s,sp,G,o,z,x0,x1,nx,H,hm,hG,hz,PA,hPA,ho,h=>by
   refine Wq.jmp (Qr ..) (λ_=>rfl) ?_;refine Rq.call hPA rfl h ho λc s' H2 nx2 _ ho2 h2=> ?_;refine Hq.xM h2 λH3 nx3 h3=> ?_;simp only[af,aw (off:=1) (u:=sp) (h3.at_ 1 rfl) gv rfl,MH];refine Hq.ed c.cs c.len h3 λy H4 nx4 h4=> ?_;refine Hq.uN [_,_] (x:=c) (by omega) hG h4 λsl' G1 H5 nx5 hG1 h5=> ?_;refine Hq.put [_] h5 o7 (by rcases hG1.2 with⟨_,rfl,_⟩ | ⟨b,c,rfl,_⟩<;>rfl) (cE hG1) (by simp) rfl λH6 h6=> ?_;refine Rq.Jq h6 λH7 nx7 h7=> ?_
   match m,hp,hm,ho2 with
   | 0,_,_,ho2=>cases ho2
   | m+1,hp,hm,ho2=>
     have ho2:rb (xD L (rp L m) (q++[c]) s') (λl s=>rn L [61] s λs=>rb (E s) λe s=>ry (.mk w l e) s)=some o:=ho2;unfold xD at ho2;cases hb:pf L s' with
     | true=>
       rw[if_pos hb,kb]at ho2;simp only[af,Bool.not_true];exact E_ hL he m (λj hj=>hp j (by omega)) (q++[c]) s' sl' G1 o z x0 x1 nx7 H7 (by rw[List.length_append];simp;omega) hG1 hz (hp m (Nat.lt_succ_self m)) ho2 h7
     | false=>
       rw[if_neg (by rw[hb];simp),iP]at ho2;simp only[af,Bool.not_false];refine Rq.aZ hL h7 λH8 nx8 h8=> ?_;refine Rq.call he rfl h8 ho2 λd s2 H9 nx9 _ ho h9=> ?_;refine Hq.store [_] h9 bG (by simp) d.len (dP.of d).one λH10 h10=> ?_;have e1:ij ([aD w,sp,i64 0,i64 0,aD [],aC,aC,aC].set 1 sl') (aH.v d).cells.toList 2=aD w::sl'::d.cs:=by
        rw[aH.br,aH.fI];rfl
       rw[e1]at h10;have hlen:(aD w::sl'::d.cs).length=8:=by
        have h6:d.cs.length=6:=d.len;simp only[List.length_cons,h6]
       have hone:(aD w::sl'::d.cs).all aA=true:=by
        simp only[List.all_cons,iJ,cE hG1,Bool.true_and];exact(dP.of d).one
       simp only[af,OQ (h10.at_ 1 rfl) hlen];have h11:Hp nx0 H0 (cq bp L s2::(x0,z,65)::(G1++F)) H10 nx9:=(Hp.mv [_] h10).sub (by simp);exact Hq.fin h11 jl vF Jp hz hlen hone (Fn.km hG1) (by omega) λH9 nx9 h9=>bD.ret ho rfl h9
theorem Nc (hL:L.length<=100000){n:Nat}(hn:n<=94000)(hp:∀j,j<=n->bf 160 L bh.v (rp L j).bw)(he:bf 39 L aH.v (rp L n).exp):bf 122 L Fn.v (rp L (n+1)).fn:=by
 intro nx0 nx H0 H bp F s o ho h;have ho:RF L (rp L n) s=some o:=ho;unfold RF at ho;have ho:rb ((rp L n).bw (Gr L 3 s)) (λq s'=>rb (xD L (rp L n) ([]++[q]) s') λl s'=>rn L [61] s' λs'=>rb ((rp L n).exp s') λe s'=>ry (.mk (Ac L 3 s) l e) s')=some o:=ho;rw[Wr];refine Hq.alloc eZ h λx0 H1 aE h1=> ?_;refine Rq.kind (by decide) hL h1 λH2 nx2 h2=> ?_;have hb:az P 65 (some [(0,aD (Ac L 3 s))])=some (.agg ⟨[aD (Ac L 3 s),aC,i64 0,i64 0,aD [],aC,aC,aC]⟩):=bt eZ (by kernel_rfl);simp only[af,hb];refine Hq.alloc eZ h2 λx1 H3 nx3 h3=> ?_;refine Hq.set [_] h3 jl rfl rfl rfl λH4 h4=> ?_
 exact E_ hL he (n+1) (λj hj=>hp j (by omega)) [] _ aC [] o _ x0 x1 nx3 H4 (by simp;omega) (Gw.nil _ _ _) rfl (hp n (Nat.le_refl n)) ho h4
theorem Zb (a:Fn):ae P H 65 (some (ak a.v))=some a.v:=by
 rw[Fn.br];exact Hr ..
theorem Hq.XF {a:Fn}{kt:Go.Ev.T OB->Nat->Q}(h:Hp nx0 H0 F H nx)(hk:∀H' nx',Hp nx0 H0 F H' nx'->aO P pl X0 (kt H' nx') nx0 H0 R):aO P pl X0 (ao (au P H nx 65) λp H nx=>bF P H nx 65 (some p) a.v kt) nx0 H0 R:=Hq.var eZ jl rfl a.len (a.fR a.v (by simp)).2.1 h hk
theorem JV (hL:L.length<=100000):∀(m:Nat),(∀j,j<m->bf 122 L Fn.v (rp L j).fn)->∀(l:List Fn) (s:bJ) (sl:Value) (G:List Bx) (o:Option a_×bJ) (z:List Value) (x0 x1 nx:Nat) (H:Go.Ev.T OB),l.length+m<=95000->Gw true 8 65 (l.map Fn.v) sl G->z.length=17->∀{FN:bJ->RR Fn},bf 122 L Fn.v FN->
 rb (FN s) (λc s=>rb ((rp L m).fA (l++[c]) s) (λl s=>ry (some (.mk 2 jV ke l gO jW)) s))=some o->Hp nx0 H0 (cq bp L s::(x1,[i64 2,i64 0,i64 0,aD [],aC,i64 0,i64 0,aD [],aC,aC,aC,sl,aC,aD [],aC,aD [],aC],57)::(x0,z,57)::(G++F)) H nx->
 aO P pl X0 (.jump (wq (ptr bp) (ptr x0) (ptr x1) H nx)) nx0 H0 (bD nx0 H0 bp L F gZ o)
 | m,hp,l,s,sl,G,o,z,x0,x1,nx,H,hm,hG,hz,FN,hFN,ho,h=>by
   refine Wq.jmp (Qh ..) (λ_=>rfl) ?_;refine Rq.call hFN rfl h ho λc s' H2 nx2 _ ho2 h2=> ?_;refine Hq.XF h2 λH3 nx3 h3=> ?_;simp only[af,aw (off:=11) (u:=sl) (h3.at_ 1 rfl) sj rfl,Zb];refine Hq.xL c.cs c.len h3 λy H4 nx4 h4=> ?_;refine Hq.ON [_,_] (x:=c) (by omega) hG h4 λsl' G1 H5 nx5 hG1 h5=> ?_;refine Hq.put [_] h5 N6 (by rcases hG1.2 with⟨_,rfl,_⟩ | ⟨b,c,rfl,_⟩<;>rfl) (cE hG1) (by simp) rfl λH6 h6=> ?_
   match m,hp,hm,ho2 with
   | 0,_,_,ho2=>cases ho2
   | m+1,hp,hm,ho2=>
     have ho2:rb (zS L (rp L m) (l++[c]) s') (λl s=>ry (some (.mk 2 jV ke l gO jW)) s)=some o:=ho2;unfold zS at ho2;refine Rq.take hL h6 (λhi H7 nx7 h7=> ?_) (λhi H7 nx7 h7=> ?_)
     . rw[if_pos hi,kb]at ho2;simp only[af,Bool.not_true];exact JV hL m (λj hj=>hp j (by omega)) (l++[c]) _ sl' G1 o z x0 x1 nx7 H7 (by rw[List.length_append];simp;omega) hG1 hz (hp m (Nat.lt_succ_self m)) ho2 h7
     . rw[if_neg hi,iP]at ho2;simp only[af,Bool.not_false,EK (h7.at_ 1 rfl) rfl];have h8:Hp nx0 H0 (cq bp L s'::(x0,z,57)::(G1++F)) H7 nx7:=(Hp.mv [_] h7).sub (by simp);exact Hq.fin h8 dz fw jn hz rfl (by simp[cE hG1]) (a_.O4 hG1) (by omega) λH9 nx9 h9=>bD.ret ho2 rfl h9
theorem Sn (hL:L.length<=100000){n:Nat}(hn:n<=94000)(hp:bf 121 L bh.v (rp L n).pat)(he:bf 39 L aH.v (rp L n).exp)(hf:∀j,j<=n->bf 122 L Fn.v (rp L j).fn):bf 67 L gZ (rp L (n+1)).bind:=by
 intro nx0 nx H0 H bp F s o ho h;have ho:sT L (rp L n) s=some o:=ho;unfold sT at ho;rw[YQ];refine Hq.alloc cW h λx0 H1 aE h1=> ?_;refine Rq.take hL h1 (λhi H2 nx2 h2=> ?_) (λhi H2 nx2 h2=> ?_)
 . rw[if_pos hi]at ho;simp only[af];refine Rq.call hp rfl h2 ho λa s2 H3 nx3 _ ho h3=> ?_;refine Hq.xM h3 λH4 nx4 h4=> ?_;refine Rq.aZ hL h4 λH5 nx5 h5=> ?_;refine Rq.call he rfl h5 ho λc s3 H6 nx6 _ ho h6=> ?_;refine Hq.gV h6 λH7 nx7 h7=> ?_;simp only[af,MH,pj,zX];exact Hq.fin (G:=[]) h7 dz fw jn rfl rfl rfl a_.O3 (by omega) λH9 nx9 h9=>bD.ret ho rfl h9
 rw[if_neg hi]at ho;simp only[af];refine Rq.take hL h2 (λhi H3 nx3 h3=> ?_) (λhi H3 nx3 h3=> ?_)
 . rw[if_pos hi]at ho;have ho:rb ((rp L n).fn (bump s)) (λf s=>rb ((rp L (n+1)).fA ([]++[f]) s) λl s=>ry (some (.mk 2 jV ke l gO jW)) s)=some o:=ho;simp only[af];refine Hq.alloc cW h3 λx1 H4 nx4 h4=> ?_;refine Hq.set [_] h4 dz rfl rfl rfl λH5 h5=> ?_
   exact JV hL (n+1) (λj hj=>hf j (by omega)) [] _ aC [] o _ x0 x1 nx4 H5 (by simp;omega) (Gw.nil _ _ _) rfl (hf n (Nat.le_refl n)) ho h5
 . rw[if_neg hi]at ho;simp only[af];refine Wq.jmp (Qi ..) (λ_=>rfl) ?_;exact Hq.fin (G:=[]) h3 dz fw jn rfl rfl rfl a_.JN (by omega) λH9 nx9 h9=>bD.ret ho rfl h9
theorem X8 (a:da):ae P H 55 (some (ak a.v))=some a.v:=by
 rw[da.br];exact Hn ..
theorem Hq.U5 {a:da}{kt:Go.Ev.T OB->Nat->Q}(h:Hp nx0 H0 F H nx)(hk:∀H' nx',Hp nx0 H0 F H' nx'->aO P pl X0 (kt H' nx') nx0 H0 R):aO P pl X0 (ao (au P H nx 55) λp H nx=>bF P H nx 55 (some p) a.v kt) nx0 H0 R:=Hq.var fZ il rfl a.len (a.fR a.v (by simp)).2.1 h hk
theorem Zc (a:Data):ae P H 52 (some (ak a.v))=some a.v:=by
 rw[Data.br];exact Hm ..
theorem Data.U6 (a:Data):a.v.cells.toList.length=3/\a.v.cells.toList.all aA=true:=by
 rw[Data.br];exact⟨rfl,rfl⟩
theorem Hq.XG {a:Data}{kt:Go.Ev.T OB->Nat->Q}(h:Hp nx0 H0 F H nx)(hk:∀H' nx',Hp nx0 H0 F H' nx'->aO P pl X0 (kt H' nx') nx0 H0 R):aO P pl X0 (ao (au P H nx 52) λp H nx=>bF P H nx 52 (some p) a.v kt) nx0 H0 R:=Hq.var pN zr rfl a.U6.1 a.U6.2 h hk
theorem Data.km {vs:List (List UInt8)}{w:List UInt8}{cl:List da}{sv sc:Value}(hv:Gw false 1 9 (vs.map aD) sv G)(hc:Gw true 2 55 (cl.map da.v) sc G'):gB 1 [(0,49),(2,50)] (.agg ⟨[sv,aD w,sc]⟩) (Data.v ⟨vs,w,cl⟩) (G++G'):=by
 rw[Data.br];have:=eW.cons (p:=(0,49)) (cs:=[sv,aD w,sc]) rfl hv.UZ (eW.cons (p:=(2,50)) rfl hc.UF eW.nil);simp only[List.append_nil]at this;exact gB.of this
theorem JW (hL:L.length<=100000){vs:List (List UInt8)}{w:List UInt8}{sv:Value}(hv:Gw false 1 9 (vs.map aD) sv G'):∀(m:Nat),(∀j,j<m->bf 66 L da.v (rp L j).dY)->∀(l:List da) (s:bJ) (sl:Value) (G:List Bx) (o:Data×bJ) (z:List Value) (x0 x1 nx:Nat) (H:Go.Ev.T OB),l.length+m<=95000->Gw true 2 55 (l.map da.v) sl G->z.length=3->∀{CN:bJ->RR da},bf 66 L da.v CN->
 rb (CN s) (λc s=>rb ((rp L m).fC (l++[c]) s) (λl s=>ry ⟨vs,w,l⟩ s))=some o->Hp nx0 H0 (cq bp L s::(x1,[sv,aD w,sl],52)::(x0,z,52)::(G'++(G++F))) H nx->
 aO P pl X0 (.jump (sC (ptr bp) (ptr x0) (ptr x1) H nx)) nx0 H0 (bD nx0 H0 bp L F Data.v o)
 | m,hp,l,s,sl,G,o,z,x0,x1,nx,H,hm,hG,hz,CN,hCN,ho,h=>by
   refine Wq.jmp (Qg ..) (λ_=>rfl) ?_;refine Rq.call hCN rfl h ho λc s' H2 nx2 _ ho2 h2=> ?_;refine Hq.U5 h2 λH3 nx3 h3=> ?_;simp only[af,aw (off:=2) (u:=sl) (h3.at_ 1 rfl) vD rfl,X8];refine Hq.xK c.cs c.len h3 λy H4 nx4 h4=> ?_;refine Hq.OM (_::_::G') (x:=c) (by omega) hG h4 λsl' G1 H5 nx5 hG1 h5=> ?_;refine Hq.put [_] h5 HF (by rcases hG1.2 with⟨_,rfl,_⟩ | ⟨b,c,rfl,_⟩<;>rfl) (cE hG1) (by simp) rfl λH6 h6=> ?_
   match m,hp,hm,ho2 with
   | 0,_,_,ho2=>cases ho2
   | m+1,hp,hm,ho2=>
     have ho2:rb (kX L (rp L m) (l++[c]) s') (λl s=>ry (Data.mk vs w l) s)=some o:=ho2;unfold kX at ho2;refine Rq.take hL h6 (λhi H7 nx7 h7=> ?_) (λhi H7 nx7 h7=> ?_)
     . rw[if_pos hi,kb]at ho2;simp only[af,Bool.not_true];exact JW hL hv m (λj hj=>hp j (by omega)) (l++[c]) _ sl' G1 o z x0 x1 nx7 H7 (by rw[List.length_append];simp;omega) hG1 hz (hp m (Nat.lt_succ_self m)) ho2 h7
     . rw[if_neg hi,iP]at ho2;simp only[af,Bool.not_false,OP (h7.at_ 1 rfl) rfl];have h8:Hp nx0 H0 (cq bp L s'::(x0,z,52)::((G'++G1)++F)) H7 nx7:=by
        rw[List.append_assoc];exact(Hp.mv [_] h7).sub (by simp)
       exact Hq.fin h8 zr AU Uj hz rfl (by simp[cE hG1,cE hv]) (Data.km hv hG1) (by omega) λH9 nx9 h9=>bD.ret ho2 rfl h9
theorem JX {α:Type}{c:Int}{f:List UInt8->bJ->RR α}:rk L c s f=f (Ac L c s) (Gr L c s):=rfl
theorem BE (hL:L.length<=100000){n:Nat}(hn:n<=94000)(hp:∀j,j<=n->bf 66 L da.v (rp L j).dY){vs:List (List UInt8)}{sv:Value}{z:List Value}{x0 x1:Nat}{o:Data×bJ}(hv:Gw false 1 9 (vs.map aD) sv G')(hz:z.length=3)
 (ho:rk L 3 s (λt s=>rn L [61] s λs=>rb ((rp L n).dY s) λc s=>rb (kX L (rp L n) [c] s) λl s=>ry ⟨vs,t,l⟩ s)=some o) (h:Hp nx0 H0 (cq bp L s::(x1,[sv,aD [],aC],52)::(x0,z,52)::(G'++F)) H nx):
 aO P pl X0 (aQ P pl (wm (ptr bp) (ptr x0) (ptr x1) H nx)) nx0 H0 (bD nx0 H0 bp L F Data.v o):=by
 rw[Il];have ho:rb ((rp L n).dY (dZ L [61] (Gr L 3 s))) (λc s'=>rb ((rp L (n+1)).fC ([]++[c]) s') λl s'=>ry (Data.mk vs (Ac L 3 s) l) s')=some o:=ho;refine Rq.kind (by decide) hL h λH1 aE h1=> ?_;simp only[af];refine Hq.put [_] h1 gT rfl rfl (by simp) rfl λH2 h2=> ?_;refine Rq.aZ hL h2 λH3 nx3 h3=> ?_;exact JW hL hv (n+1) (λj hj=>hp j (by omega)) [] _ aC [] o z x0 x1 nx3 H3 (by simp;omega) (Gw.nil _ _ _) hz (hp n (Nat.le_refl n)) ho h3
theorem JY (hL:L.length<=100000){n:Nat}(hn:n<=94000)(hp:∀j,j<=n->bf 66 L da.v (rp L j).dY):∀(m:Nat) (l:List (List UInt8)) (s:bJ) (sl:Value) (G:List Bx) (o:Data×bJ) (z:List Value) (x0 x1 nx:Nat) (H:Go.Ev.T OB),l.length+m<=95000->Gw false 1 9 (l.map aD) sl G->z.length=3->
 rb ((rp L m).fB l s) (λl s=>rn L [41] s λs=>rk L 3 s λt s=>rn L [61] s λs=>rb ((rp L n).dY s) λc s=>rb (kX L (rp L n) [c] s) λcl s=>ry (Data.mk l t cl) s)=some o->Hp nx0 H0 (cq bp L s::(x1,[sl,aD [],aC],52)::(x0,z,52)::(G++F)) H nx->
 aO P pl X0 (.jump (wo (ptr bp) (ptr x0) (ptr x1) H nx)) nx0 H0 (bD nx0 H0 bp L F Data.v o)
 | 0,l,s,sl,G,o,z,x0,x1,nx,H,hm,hG,hz,ho,h=>by cases ho
 | m+1,l,s,sl,G,o,z,x0,x1,nx,H,hm,hG,hz,ho,h=>by
   have ho:rb (ph L (rp L m) l s) (λl s=>rn L [41] s λs=>rk L 3 s λt s=>rn L [61] s λs=>rb ((rp L n).dY s) λc s=>rb (kX L (rp L n) [c] s) λcl s=>ry (Data.mk l t cl) s)=some o:=ho;unfold ph at ho;refine Wq.jmp (Qf ..) (λ_=>rfl) ?_;refine Rq.take hL h (λhi H1 aE h1=> ?_) (λhi H1 aE h1=> ?_)
   . rw[if_pos hi,JX]at ho;simp only[af,aw (off:=0) (u:=sl) (h1.at_ 1 rfl) gz rfl];refine Rq.kind (by decide) hL h1 λH2 nx2 h2=> ?_;generalize Ac L 5 (bump s)=wd at ho;simp only[af,aw (off:=0) (u:=sl) (h2.at_ 1 rfl) gz rfl,bj];refine Hq.lJ wd h2 λx H3 nx3 h3=> ?_;simp only[af,aw (off:=0) (u:=sl) (h3.at_ 2 rfl) gz rfl,bj];refine Hq.EU [_,_] (w:=wd) (by omega) hG h3 λsl' G1 H4 nx4 hG1 h4=> ?_;refine Hq.put [_] h4 uD (by rcases hG1.2 with⟨_,rfl,_⟩ | ⟨b,c,rfl,_⟩<;>rfl) (cE hG1) (by simp) rfl λH5 h5=> ?_;exact JY hL hn hp m (l++[wd]) _ sl' G1 o z x0 x1 nx4 H5 (by rw[List.length_append];simp;omega) hG1 hz ho h5
   . rw[if_neg hi,iP]at ho;simp only[af];refine Rq.aZ hL h1 λH2 nx2 h2=> ?_;have:=BE hL hn hp hG hz ho h2;rw[Il]at this;exact this
theorem So (hL:L.length<=100000){n:Nat}(hn:n<=94000)(hp:∀j,j<=n->bf 66 L da.v (rp L j).dY):bf 65 L Data.v (rp L (n+1)).data:=by
 intro nx0 nx H0 H bp F s o ho h;have ho:sU L (rp L n) s=some o:=ho;unfold sU uM at ho;rw[YO];refine Hq.alloc pN h λx0 H1 aE h1=> ?_;refine Hq.alloc pN h1 λx1 H2 nx2 h2=> ?_;refine Hq.set [_] h2 zr rfl rfl rfl λH3 h3=> ?_
 refine Rq.now h3 λH4 nx4 h4=> ?_;simp only[af];refine Wq.ite (λhi=> ?_) (λhi=> ?_)
 . rw[if_pos hi,JX,iP]at ho;simp only[af,aw (off:=0) (u:=aC) (h4.at_ 1 rfl) gz rfl];refine Rq.kind (by decide) hL h4 λH5 nx5 h5=> ?_;generalize Ac L 5 s=wd at ho;simp only[af,aw (off:=0) (u:=aC) (h5.at_ 1 rfl) gz rfl,bj];refine Hq.lJ wd h5 λx H6 nx6 h6=> ?_;simp only[af,aw (off:=0) (u:=aC) (h6.at_ 2 rfl) gz rfl,bj];refine Hq.EU [_,_] (w:=wd) (l:=[]) (G:=[]) (by simp) (Gw.nil _ _ _) h6 λsl' G1 H7 nx7 hG1 h7=> ?_;refine Hq.put [_] h7 uD (by rcases hG1.2 with⟨_,rfl,_⟩ | ⟨b,c,rfl,_⟩<;>rfl) (cE hG1) (by simp) rfl λH8 h8=> ?_;exact Wq.jump (λ_=>rfl) (BE hL hn hp hG1 rfl ho h8)
 rw[if_neg hi]at ho;refine Rq.take hL h4 (λhi H5 nx5 h5=> ?_) (λhi H5 nx5 h5=> ?_)
 . rw[if_pos hi,JX,kb]at ho;simp only[af,aw (off:=0) (u:=aC) (h5.at_ 1 rfl) gz rfl];refine Rq.kind (by decide) hL h5 λH6 nx6 h6=> ?_;generalize Ac L 5 (bump s)=wd at ho;simp only[af,aw (off:=0) (u:=aC) (h6.at_ 1 rfl) gz rfl,bj];refine Hq.lJ wd h6 λx H7 nx7 h7=> ?_;simp only[af,aw (off:=0) (u:=aC) (h7.at_ 2 rfl) gz rfl,bj];refine Hq.EU [_,_] (w:=wd) (l:=[]) (G:=[]) (by simp) (Gw.nil _ _ _) h7 λsl' G1 H8 nx8 hG1 h8=> ?_;refine Hq.put [_] h8 uD (by rcases hG1.2 with⟨_,rfl,_⟩ | ⟨b,c,rfl,_⟩<;>rfl) (cE hG1) (by simp) rfl λH9 h9=> ?_;exact JY hL hn hp (n+1) [wd] _ sl' G1 o _ x0 x1 nx8 H9 (show 1+(n+1)<=95000 by omega) hG1 rfl ho h9
 . rw[if_neg hi,iP]at ho;simp only[af];exact Wq.jump (λ_=>rfl) (BE hL hn hp (G':=[]) (Gw.nil _ _ _) rfl ho h5)
theorem JZ (k:Int)(c:Data):az P 57 (some [(0,i64 k),(4,c.v)])=some (.agg ⟨[i64 k,i64 0,i64 0,aD [],aC,i64 0,i64 0,aD [],aC,aC,aC,aC,gk c.vars,aD c.s,j_ c.cons,aD [],aC]⟩):=by
 rw[Data.br];exact EN ..
theorem a_.U7 {c:Data}:gB 0 [(4,42),(8,41),(9,42),(10,24),(11,48),(12,49),(14,50),(16,53)] (.agg ⟨[i64 3,i64 0,i64 0,aD [],aC,i64 0,i64 0,aD [],aC,aC,aC,aC,gk c.vars,aD c.s,j_ c.cons,aD [],aC]⟩) (a_.v (.mk 3 jV ke [] c jW)) []:=
 a_.km jr uO jr nK uP (db.row fY) (db.row mm) uQ (a_.br _)
theorem Sp (hL:L.length<=100000){p:RP}(hd:bf 65 L Data.v p.data)(hc:bf 66 L da.v p.dY)(hb:bf 67 L gZ p.bind):bf 38 L gZ (Br L p):=by
 intro nx0 nx H0 H bp F s o ho h;unfold Br at ho;rw[Yu];refine Hq.alloc cW h λx0 H1 aE h1=> ?_;refine Rq.take hL h1 (λhi H2 nx2 h2=> ?_) (λhi H2 nx2 h2=> ?_)
 . rw[if_pos hi]at ho;simp only[af];refine Rq.call hd rfl h2 ho λa s' H3 nx3 _ ho h3=> ?_;refine Hq.XG h3 λH4 nx4 h4=> ?_;simp only[af,Zc,JZ];exact Hq.fin (G:=[]) h4 dz fw jn rfl rfl rfl a_.U7 (by omega) λH9 nx9 h9=>bD.ret ho rfl h9
 rw[if_neg hi]at ho;simp only[af];refine Rq.take hL h2 (λhi H3 nx3 h3=> ?_) (λhi H3 nx3 h3=> ?_)
 . rw[if_pos hi]at ho;simp only[af];refine Rq.call hc rfl h3 ho λa s' H4 nx4 _ ho h4=> ?_;refine Hq.U5 h4 λH5 nx5 h5=> ?_;simp only[af,X8,zY];exact Hq.fin (G:=[]) h5 dz fw jn rfl rfl rfl a_.O6 (by omega) λH9 nx9 h9=>bD.ret ho rfl h9
 . rw[if_neg hi,<- Pb (p.bind s)]at ho;simp only[af];refine Rq.call hb rfl h3 ho λa s' H4 nx4 _ ho h4=> ?_;unfold gZ;simp only[af,F9,F_];exact Hq.R0 h4 rfl λH9 nx9 h9=>bD.ret ho rfl h9
end
def isTrue (r:Option Rt):Bool:=match r with
 | some ⟨.ret (.bool true),false,_,_⟩=>true
 | _=>false
def X9:jF:=⟨[],[],[],[],false⟩
theorem Gc:QH gY .leaf (λH=>isTrue (FD P X9 (λ_ _=>none) 1000 (.call 11 [] false none H 11)))=true:=by kernel_rfl
section
variable {nx0 nx nx' bp k:Nat}{H0 H H':T OB}{F A B G G':List Bx}{R:Go.Ev.Out->T OB->Nat->Prop}{b:Nat}{l:List Value}{e t:TypeId}{L:List Tok}
theorem Hq.Sr (A:List Bx){off:Nat}{u:Value}{l':List Value}(h:Hp nx0 H0 (A++(b,l,e)::B) H nx)(hs:bq P t=some 1)(hc:u.cells.toList=[u])(ho:aA u=true)(hn:off<l.length)(hl:l.set off u=l'):
 ∃H',ah P H nx t (some (.pointer (some ⟨b,off,none⟩))) (some u)= .val undef H' nx/\Hp nx0 H0 (A++(b,l',e)::B) H' nx:=by
 obtain⟨o,H',nx',hA,⟨h1,h2,h3⟩,hr⟩:=Hq.put (R:=λo H2 nx2=>o= .ret undef/\nx2=nx/\Hp nx0 H0 (A++(b,l',e)::B) H2 nx) (k:=λv H nx=> .ret ⟨.ret v,false,H,nx⟩) A h hs hc ho hn hl λH' h'=>Wq.ic h'.ag ⟨rfl,rfl,h'⟩;cases he:ah P H nx t (some (.pointer (some ⟨b,off,none⟩))) (some u)with
 | val v H1 aE=>
   rw[he]at hr;have hr:some (⟨.ret v,false,H1,aE⟩:Rt)=some ⟨o,false,H',nx'⟩:=hr;cases hr;cases h1;cases h2;exact⟨_,rfl,h3⟩
 | _=>rw[he]at hr;cases hr
theorem Nd {sz:Nat}{x:Value}(hz:bX P e=some l)(hs:bq P t=some sz)(hl:l.length=sz)(hx:x.cells.toList.length=sz)(hone:x.cells.toList.all aA=true)(h:Hp nx0 H0 F H nx):
 ∃H',Hp nx0 H0 F H' (nx+1+1)/\∀k:Go.Ev.T OB->Nat->Q,(ao (au P H nx e) λp H nx=>bF P H nx t (some p) x k)=k H' (nx+1+1):=by
 refine⟨Ev.set (Ev.set H (Ev.bits nx) (some (di l e))) (Ev.bits nx) (some .dead),h.dx ((((h.ag.set h.ag.1 _).succ).set h.ag.1 _).succ) (by omega) λb l e hb hi=>(hi.other (by omega) _).other (by omega) _,λk=> ?_⟩;rw[jM hz];have hg:(Ev.set H (Ev.bits nx) (some (di l e))).get (Ev.bits nx)=some (di l e):=by rw[Ev.get_at,if_pos rfl]
 show l9 ((Ev.set H (Ev.bits nx) (some (di l e))).get (Ev.bits nx)) (λn _ _=>aa (bq P t) (λs=>bif Nat.beq 0 0&&(Nat.beq n s&&(Nat.beq x.cells.toList.length s&&x.cells.toList.all aA))then
  dt (Ev.bits nx) (Ev.set H (Ev.bits nx) (some (di l e))) (some .dead) λH=>Ev.bO (Nat.succ (nx+1)) λn=>k H n else .bad) .bad)=_
 rw[hg];show aa (bq P t) (λs=>bif Nat.beq 0 0&&(Nat.beq l.length s&&(Nat.beq x.cells.toList.length s&&x.cells.toList.all aA))then
  dt (Ev.bits nx) (Ev.set H (Ev.bits nx) (some (di l e))) (some .dead) λH=>Ev.bO (Nat.succ (nx+1)) λn=>k H n else .bad) .bad=_
 rw[hs,aT,hl,hx,hone,bl,bm];have e2:Nat.beq sz sz=true:=Nat.beq_refl sz;rw[e2];rfl
theorem aO.cast {q q':Q}(e:q=q')(h:aO P pl X0 q' nx0 H0 R):aO P pl X0 q nx0 H0 R:=e ▸ h
theorem aO.base {q:Q}{aE:Nat}{H1:T OB}(hA:Ag nx0 H0 aE H1)(h:aO P pl X0 q aE H1 R):aO P pl X0 q nx0 H0 λo H nx=>R o H nx/\Ag aE H1 nx H:=by
 obtain⟨o,H',nx',h1,h2,h3⟩:=h;exact⟨o,H',nx',hA.trans h1,⟨h2,h1⟩,h3⟩
theorem aO.mono {q:Q}{R':Go.Ev.Out->T OB->Nat->Prop}(h:aO P pl X0 q nx0 H0 R)(hR:∀o H nx,Ag nx0 H0 nx H->R o H nx->R' o H nx):aO P pl X0 q nx0 H0 R':=by
 obtain⟨o,H',nx',h1,h2,h3⟩:=h;exact⟨o,H',nx',h1,hR _ _ _ h1 h2,h3⟩
theorem Fa {c:Cg}{tm:T Value}{a1 a2 a3:Value}(h:aO P pl X0 (An P pl c tm .ret H nx) nx0 H0 R):aO P pl X0 (mH P pl c tm [(34,[a1,a2,a3])] .ret H nx) nx0 H0 R:=by
 obtain⟨o,H',nx',h1,h2,h3⟩:=h;refine⟨o,H',nx',h1,h2,?_⟩;have e1:Go.Ev.F P pl X0 (.call 34 [a1,a2,a3] true none H nx)=some ⟨.ret (.tuple ⟨[]⟩),false,H,nx⟩:=by
  rw[ov,V5];rfl
 show aa (Go.Ev.F P pl X0 (.call 34 [a1,a2,a3] true none H nx)) (λr=>(Ti .ret r (mH P pl c tm [])).run (Go.Ev.F P pl X0)) none=_;rw[e1];exact h3
theorem U8 (H:T OB)(a:Int):ai P H .neq 20 true (some (.iface 69 (.agg ⟨[i64 a]⟩))) (some .nilIface)=some (.bool true):=by kernel_rfl
theorem U9 (v:Value):hY P (some (.iface 69 v)) 69 true=some (.tuple ⟨[v,.bool true]⟩):=by kernel_rfl
theorem U_ (H:T OB)(a:Int):ae P H 3 (some (ak (i64 a)))=some (i64 a):=by kernel_rfl
theorem Va (a:Int):ab P 69 (some (ak (.agg ⟨[i64 a]⟩))) 0=some (ak (i64 a)):=by kernel_rfl
theorem Nf {c:Cg}{tm:T Value}{x1 x2 x3:Nat}{v1 v2 v3:Value}{a:Int}(hh:Hp nx0 H0 ((x1,[v1],24)::(x2,[v2],3)::(x3,[v3],25)::F) H nx)
 (h:∀H' nx',Hp nx0 H0 ((x1,[aC],24)::(x2,[i64 a],3)::(x3,[i64 80],25)::F) H' nx'->aO P pl X0 (An P pl c tm .ret H' nx') nx0 H0 R):aO P pl X0 (mH P pl c tm [(34,[ptr x1,ptr x2,ptr x3])] (.gj (jZ a)) H nx) nx0 H0 R:=by
 obtain⟨H1,h1,e1⟩:=Nd (x:= .agg ⟨[i64 a]⟩) K7 TK rfl rfl rfl hh;obtain⟨H2,e2,h2⟩:=Hq.Sr (t:=24) (off:=0) (u:=aC) (l':=[aC]) [] h1 sk rfl rfl (by simp) rfl;obtain⟨H3,e3,h3⟩:=Hq.Sr (t:=3) (off:=0) (u:=i64 a) (l':=[i64 a]) [_] h2 jk rfl rfl (by simp) rfl;obtain⟨H4,e4,h4⟩:=Hq.Sr (t:=25) (off:=0) (u:=i64 80) (l':=[i64 80]) [_,_] h3 DK rfl rfl (by simp) rfl;obtain⟨o,H',nx',g1,g2,g3⟩:=h H4 _ h4;refine⟨o,H',nx',g1,g2,?_⟩;have e12:Go.Ev.F P pl X0 (AV (ptr x1) (ptr x2) (ptr x3) (ak (.agg ⟨[i64 a]⟩)) H1 (nx+1+1))=some ⟨.ret (.tuple ⟨[]⟩),true,H4,nx+1+1⟩:=by
  rw[ov,PW];show Q.run (Go.Ev.F P pl X0) _=_;simp only[Va,U_,aT,e2,e3,e4,ao,bj,Bool.and_true,mI];rfl
 have e0:Go.Ev.F P pl X0 (.call 34 [ptr x1,ptr x2,ptr x3] true (some (jZ a)) H nx)=some ⟨.ret (.tuple ⟨[]⟩),true,H4,nx+1+1⟩:=by
  rw[ov,V4];show Q.run (Go.Ev.F P pl X0) _=_;simp only[U8,U9,aT,r_,mI,F9,F_,e1,vp,Bool.not_true,mJ];exact e12
 show aa (Go.Ev.F P pl X0 (.call 34 [ptr x1,ptr x2,ptr x3] true (some (jZ a)) H nx)) (λr=>(Ti (.gj (jZ a)) r (mH P pl c tm [])).run (Go.Ev.F P pl X0)) none=_;rw[e0];exact g3
end
end
end Go.Proofs.YthjhonhhbddhkaaGreatDoor
