/- Texts of this claim, side by side. -/
import Derived.Test.YthjhonhhbddhkaaGreatDoorG8
import Derived.Test.YthjhonhhbddhkaaGreatDoorG7
namespace Go.Proofs.YthjhonhhbddhkaaGreatDoor
open Go.Ev Go.RowKit
noncomputable section
set_option maxRecDepth 100000
set_option linter.unusedVariables false
set_option linter.unusedSimpArgs false
set_option maxHeartbeats 8000000
section
variable {nx0 nx nx' bp k:Nat}{H0 H H':T OB}{F A B G G':List Bx}{s:Bx}{R:Go.Ev.Out->T OB->Nat->Prop}{b:Nat}{l:List Value}{e t:TypeId}{L:List Tok}
theorem tH {n:Nat}:cP n 48 az (vK []) []:=(cP.nil q6 iP).mono (Nat.zero_le n)
theorem yA {n:Nat}:cP n 49 az (fW []) []:=(cP.nil fK ke).mono (Nat.zero_le n)
theorem yB {n:Nat}:cP n 50 az (jI []) []:=(cP.nil lO gZ).mono (Nat.zero_le n)
theorem tI {n:Nat}:cP n 53 az (fg []) []:=(cP.nil ee bI).mono (Nat.zero_le n)
theorem aT.jU {kk:Int}{p0 p1 p2 c0 c1 c2 w1 w2:Value}{s0 s1 s2 s3 s4 s5 s6 s7:Value}{d:aT}{r0 r1 r2 r3 r4 r5 r6 r7:Value}{n:Nat}{G4:List Bx}
 (h0:cP n 42 s0 r0 []) (h1:cP n 41 s1 r1 []) (h2:cP n 42 s2 r2 []) (h3:cP n 24 s3 r3 []) (h4:cP n 48 s4 r4 G4) (h5:cP n 49 s5 r5 []) (h6:cP n 50 s6 r6 []) (h7:cP n 53 s7 r7 [])
 (hd:d.v= .agg ⟨[i64 kk,p0,p1,p2,r0,c0,c1,c2,r1,r2,r3,r4,r5,w1,r6,w2,r7]⟩):gp n [(4,42),(8,41),(9,42),(10,24),(11,48),(12,49),(14,50),(16,53)] (.agg ⟨[i64 kk,p0,p1,p2,s0,c0,c1,c2,s1,s2,s3,s4,s5,w1,s6,w2,s7]⟩) d.v G4:=by
 rw[hd]
 have:=eL.cons (p:=(4,42)) (cs:=[i64 kk,p0,p1,p2,s0,c0,c1,c2,s1,s2,s3,s4,s5,w1,s6,w2,s7]) rfl h0 (eL.cons (p:=(8,41)) rfl h1 (eL.cons (p:=(9,42)) rfl h2 (eL.cons (p:=(10,24)) rfl h3 (eL.cons (p:=(11,48)) rfl h4 (eL.cons (p:=(12,49)) rfl h5 (eL.cons (p:=(14,50)) rfl h6 (eL.cons (p:=(16,53)) rfl h7 eL.nil)))))))
 simp only[List.append_nil,List.nil_append]at this
 exact gp.of this
theorem yC (k:Int)(a:aZ)(c:aF):aw P 57 (some [(0,i64 k),(1,a.v),(2,c.v)])=some (.agg ⟨[i64 k,i64 a.k,i64 a.n,aE a.s,cj a.l,i64 c.k,i64 c.n,aE c.s,fX c.l,cj c.p,bP c.d,az,az,aE [],az,aE [],az]⟩):=by
 rw[aZ.bk,aF.bk]
 exact Ku ..
theorem KB (a:aZ):ae P H 47 (some (aj a.v))=some a.v:=by
 rw[aZ.bk]
 exact Fq ..
theorem Hq.wu {a:aZ}{kt:Go.Ev.T OB->Nat->Q}(h:Hp nx0 H0 F H nx)(hk:∀H' nx',Hp nx0 H0 F H' nx'->aK P pl X0 (kt H' nx') nx0 H0 R):aK P pl X0 (ak (aq P H nx 47) λp H nx=>bC P H nx 47 (some p) a.v kt) nx0 H0 R:=Hq.var cE bT rfl a.len (fl.of a).one h hk
theorem aT.MK {a:aZ}{c:aF}:gp 0 [(4,42),(8,41),(9,42),(10,24),(11,48),(12,49),(14,50),(16,53)] (.agg ⟨[i64 1,i64 a.k,i64 a.n,aE a.s,cj a.l,i64 c.k,i64 c.n,aE c.s,fX c.l,cj c.p,bP c.d,az,az,aE [],az,aE [],az]⟩) (aT.v (.mk 1 a c [] gC ju)) []:=
 aT.jU (cP.row ed) (cP.row fc) (cP.row ed) (cP.row gd) tH yA yB tI (aT.bk _)
theorem aT.ML {l:List Fn}{sl:Value}(hG:Gw true 8 65 (l.map Fn.v) sl G):gp 1 [(4,42),(8,41),(9,42),(10,24),(11,48),(12,49),(14,50),(16,53)] (.agg ⟨[i64 2,i64 0,i64 0,aE [],az,i64 0,i64 0,aE [],az,az,az,sl,az,aE [],az,aE [],az]⟩) (aT.v (.mk 2 jt jO l gC ju)) G:=
 aT.jU iU tG iU m4 hG.UL yA yB tI (aT.bk _)
theorem aT.HO:gp 0 [(4,42),(8,41),(9,42),(10,24),(11,48),(12,49),(14,50),(16,53)] (.agg ⟨[i64 0,i64 0,i64 0,aE [],az,i64 0,i64 0,aE [],az,az,az,az,az,aE [],az,aE [],az]⟩) kr.v []:=
 aT.jU iU tG iU m4 tH yA yB tI (aT.bk _)
theorem MM (hL:L.length<=100000):∀(m:Nat),(∀j,j<m->bw 149 L Fn.v (ps L j).fn)->∀(l:List Fn) (k:Nat) (sl:Value) (G:List Bx) (o:iY (Option aT)) (z:List Value) (x0 x1 nx:Nat) (H:Go.Ev.T OB),l.length+m<=90010->Gw true 8 65 (l.map Fn.v) sl G->z.length=17->
 bd ((ps L m).fi l k) (λl k=>yes (some (.mk 2 jt jO l gC ju)) k)=some o->Hp nx0 H0 (cD bp L k::(x1,[i64 2,i64 0,i64 0,aE [],az,i64 0,i64 0,aE [],az,az,az,sl,az,aE [],az,aE [],az],57)::(x0,z,57)::(G++F)) H nx->
 aK P pl X0 (.jump (oW (ptr bp) (ptr x0) (ptr x1) H nx)) nx0 H0 (End nx0 H0 bp L F gL o)
 | 0,_,l,k,sl,G,o,z,x0,x1,nx,H,hm,hG,hz,ho,h=>by cases ho
 | m+1,hp,l,k,sl,G,o,z,x0,x1,nx,H,hm,hG,hz,ho,h=>by
   have ho:bd (sD L (ps L m) l k) (λl k=>yes (some (.mk 2 jt jO l gC ju)) k)=some o:=ho
   unfold sD at ho
   refine Wq.jmp (I_ ..) (λ_=>rfl) ?_
   refine Sq.take hL h (λhi H1 aC h1=> ?_) (λhi H1 aC h1=> ?_)
   . rw[if_pos hi,hP]at ho
     simp only[af,av (off:=11) (u:=sl) (h1.at_ 1 rfl) q_ rfl]
     refine Sq.call (hp m (Nat.lt_succ_self m)) rfl h1 ho λc k' H2 nx2 _ ho2 h2=> ?_
     simp only[af,av (off:=11) (u:=sl) (h2.at_ 1 rfl) q_ rfl,bj]
     refine Hq.wq c.cs c.len h2 λx H3 nx3 h3=> ?_
     simp only[af,av (off:=11) (u:=sl) (h3.at_ 2 rfl) q_ rfl,bj]
     refine Hq.Mu [_,_] (x:=c) (by omega) hG h3 λsl' G1 H4 nx4 hG1 h4=> ?_
     refine Hq.put [_] h4 LU (by rcases hG1.2 with⟨_,rfl,_⟩ | ⟨b,c,rfl,_⟩<;>rfl) (ck hG1) (by simp) rfl λH5 h5=> ?_
     exact MM hL m (λj hj=>hp j (by omega)) (l++[c]) k' sl' G1 o z x0 x1 nx4 H5 (by rw[List.length_append];simp;omega) hG1 hz ho2 h5
   . rw[if_neg (by rw[hi];simp),eG]at ho
     simp only[af,C5 (h1.at_ 1 rfl) rfl]
     have h5:Hp nx0 H0 (cD bp L k::(x0,z,57)::(G++F)) H1 aC:=(Hp.mv [_] h1).sub (by simp)
     exact Hq.fin h5 di fe iR hz rfl (by simp[ck hG]) (aT.ML hG) (by omega) λH9 nx9 h9=>End.ret ho rfl h9
theorem Sm (hL:L.length<=100000){n:Nat}(hn:n<=90000)(hp:bw 148 L aZ.v (ps L n).pat)(he:bw 61 L aF.v (ps L n).exp)(hf:∀j,j<=n->bw 149 L Fn.v (ps L j).fn):bw 105 L gL (ps L (n+1)).bind:=by
 intro nx0 nx H0 H bp F k o ho h
 have ho:mK L (ps L n) k=some o:=ho
 unfold mK at ho
 rw[Tr]
 refine Hq.alloc cJ h λx0 H1 aC h1=> ?_
 refine Sq.take hL h1 (λhi H2 nx2 h2=> ?_) (λhi H2 nx2 h2=> ?_)
 . rw[if_pos hi]at ho
   simp only[af]
   refine Sq.call hp rfl h2 ho λa k' H3 nx3 _ ho h3=> ?_
   refine Hq.wu h3 λH4 nx4 h4=> ?_
   refine Sq.jQ hL h4 ho λH5 nx5 _ ho h5=> ?_
   simp only[af,KB]
   refine Sq.call he rfl h5 ho λc k2 H6 nx6 _ ho h6=> ?_
   simp only[af,yC]
   exact Hq.fin (G:=[]) h6 di fe iR rfl rfl rfl aT.MK (by omega) λH9 nx9 h9=>End.ret ho rfl h9
 rw[if_neg (by rw[hi];simp)]at ho
 simp only[af]
 refine Sq.take hL h2 (λhi H3 nx3 h3=> ?_) (λhi H3 nx3 h3=> ?_)
 . rw[if_pos hi]at ho
   simp only[af]
   refine Sq.call (hf n (Nat.le_refl n)) rfl h3 ho λa k' H4 nx4 _ ho h4=> ?_
   refine Hq.wq a.cs a.len h4 λx H5 nx5 h5=> ?_
   simp only[af,Ks]
   refine Hq.alloc cJ h5 λx1 H6 nx6 h6=> ?_
   refine Hq.set [_] h6 di rfl rfl rfl λH7 h7=> ?_
   have h8:Hp nx0 H0 (cD bp L k'::(x1,_,57)::(x0,_,57)::([(x,a.cs,65)]++F)) H7 nx6:=h7.perm (List.Perm.cons _ (List.Perm.cons _ (List.Perm.swap _ _ _)))
   exact MM hL (n+1) (λj hj=>hf j (by omega)) [a] k' (gq x 1 1) [(x,a.cs,65)] o _ x0 x1 nx6 H7 (show 1+(n+1)<=90010 by omega) (Gw.jA a.fD) rfl ho h8
 . rw[if_neg (by rw[hi];simp)]at ho
   simp only[af]
   refine Wq.jmp (Ja ..) (λ_=>rfl) ?_
   exact Hq.fin (G:=[]) h3 di fe iR rfl rfl rfl aT.HO (by omega) λH9 nx9 h9=>End.ret ho rfl h9
end
section
variable {nx0 nx nx' bp k:Nat}{H0 H H':T OB}{F A B G G':List Bx}{s:Bx}{R:Go.Ev.Out->T OB->Nat->Prop}{b:Nat}{l:List Value}{e t:TypeId}{L:List Tok}
theorem Hq.Pp {z:List Value}{a:aT}{x0:Nat}{kt:Value->Go.Ev.T OB->Nat->Q}(h:Hp nx0 H0 (s::(x0,z,57)::F) H nx)(hz:z.length=17)(hk:∀H' nx',Hp nx0 H0 (s::F) H' nx'->aK P pl X0 (kt a.v H' nx') nx0 H0 R):
 aK P pl X0 (ak (ai P H nx 57 (some (ptr x0)) (some a.v)) λ_ H nx=>aa (ae P H 57 (some (ptr x0))) (λx=>aW P 57 x H nx kt) .bad) nx0 H0 R:=
 Hq.fin (G:=[]) h di fe iR hz a.len (a.fD a.v (by simp)).2.1 a.fz (by omega) hk
theorem aT.MN {c:cM}:gp 0 [(4,42),(8,41),(9,42),(10,24),(11,48),(12,49),(14,50),(16,53)] (.agg ⟨[i64 4,i64 0,i64 0,aE [],az,i64 0,i64 0,aE [],az,az,az,az,az,aE [],az,aE c.s,fg c.arg]⟩) (aT.v (.mk 4 jt jO [] gC c)) []:=
 aT.jU iU tG iU m4 tH yA yB (cP.row ee) (aT.bk _)
theorem yD (k:Int)(c:cM):aw P 57 (some [(0,i64 k),(5,c.v)])=some (.agg ⟨[i64 k,i64 0,i64 0,aE [],az,i64 0,i64 0,aE [],az,az,az,az,az,aE [],az,aE c.s,fg c.arg]⟩):=by
 rw[cM.bk]
 exact Kw ..
abbrev z8 (x:Data):Value:=aT.v (.mk 3 jt jO [] x ju)
theorem UO (hL:L.length<=100000){p:PS}(hd:bw 103 L z8 p.data)(hc:bw 104 L cM.v p.dS)(hb:bw 105 L gL p.bind):bw 60 L gL (v8 L p):=by
 intro nx0 nx H0 H bp F k o ho h
 unfold v8 at ho
 rw[VT]
 refine Hq.alloc cJ h λx0 H1 aC h1=> ?_
 refine Sq.take hL h1 (λhi H2 nx2 h2=> ?_) (λhi H2 nx2 h2=> ?_)
 . rw[if_pos hi]at ho
   simp only[af]
   refine Sq.call hd rfl h2 ho λa k' H3 nx3 _ ho h3=> ?_
   exact Hq.Pp (a:= .mk 3 jt jO [] a ju) h3 rfl λH9 nx9 h9=>End.ret ho rfl h9
 rw[if_neg (by rw[hi];simp)]at ho
 simp only[af]
 refine Sq.take hL h2 (λhi H3 nx3 h3=> ?_) (λhi H3 nx3 h3=> ?_)
 . rw[if_pos hi]at ho
   simp only[af]
   refine Sq.call hc rfl h3 ho λa k' H4 nx4 _ ho h4=> ?_
   simp only[af,yD]
   exact Hq.fin (G:=[]) h4 di fe iR rfl rfl rfl aT.MN (by omega) λH9 nx9 h9=>End.ret ho rfl h9
 . rw[if_neg (by rw[hi];simp),<- nH (p.bind k)]at ho
   simp only[af]
   refine Sq.call hb rfl h3 ho λa k' H4 nx4 _ ho h4=> ?_
   unfold gL
   simp only[af,Ej,Ek]
   exact Hq.Pp h4 rfl λH9 nx9 h9=>End.ret ho rfl h9
end
section
variable {nx0 nx nx' bp k:Nat}{H0 H H':T OB}{F A B G G':List Bx}{s:Bx}{R:Go.Ev.Out->T OB->Nat->Prop}{b:Nat}{l:List Value}{e t:TypeId}{L:List Tok}
theorem tJ (f:Value->Go.Ev.T OB->Nat->(Value->Go.Ev.T OB->Nat->Q)->Q)(v:Value):∀(vs:List Value) (H:Go.Ev.T OB) (nx:Nat) (kt:List Value->Go.Ev.T OB->Nat->Q),j2 f (vs++[v]) H nx kt=j2 f vs H nx λus H nx=>f v H nx λu H nx=>kt (us++[u]) H nx
 | [],H,nx,kt=>rfl
 | w::vs,H,nx,kt=>by
   show(f w H nx λw H nx=>j2 f (vs++[v]) H nx λl H nx=>kt (w::l) H nx)=f w H nx λw H nx=>j2 f vs H nx λl H nx=>f v H nx λu H nx=>kt ((w::l)++[u]) H nx
   congr 1
   funext w H nx
   exact tJ f v vs H nx _
theorem iB.snoc {n:Nat}{offs:List (Nat×TypeId)}{vs us:List Value}{v u:Value}(h:iB n offs vs us [])(h1:gp n offs v u []):iB n offs (vs++[v]) (us++[u]) []:=λd hd nx0 nx H0 H s B k R hh hk=>by
 rw[tJ]
 exact h d hd nx0 nx H0 H s B _ R hh λH' nx' h'=>h1 d hd nx0 nx' H0 H' s B _ R h' hk
theorem yE (k:Int)(c:aF):aw P 57 (some [(0,i64 k),(2,c.v)])=some (.agg ⟨[i64 k,i64 0,i64 0,aE [],az,i64 c.k,i64 c.n,aE c.s,fX c.l,cj c.p,bP c.d,az,az,aE [],az,aE [],az]⟩):=by
 rw[aF.bk]
 exact Kv ..
theorem aT.MO {c:aF}:gp 0 [(4,42),(8,41),(9,42),(10,24),(11,48),(12,49),(14,50),(16,53)] (.agg ⟨[i64 5,i64 0,i64 0,aE [],az,i64 c.k,i64 c.n,aE c.s,fX c.l,cj c.p,bP c.d,az,az,aE [],az,aE [],az]⟩) (aT.v (yv c)) []:=
 aT.jU iU (cP.row fc) (cP.row ed) (cP.row gd) tH yA yB tI (aT.bk _)
abbrev kC:List (Nat×TypeId):=[(4,42),(8,41),(9,42),(10,24),(11,48),(12,49),(14,50),(16,53)]
theorem yF {vs:List Value}{ds:List aT}{sl:Value}{kt:Value->Go.Ev.T OB->Nat->Q}(hG:Gw true 17 57 vs sl G)(hL:iB 0 kC vs (ds.map aT.v) [])(hl:vs.length=ds.length)(h:Hp nx0 H0 (s::(G++F)) H nx)(hk:∀H' nx',Hp nx0 H0 (s::F) H' nx'->aK P pl X0 (kt (bP ds) H' nx') nx0 H0 R):aK P pl X0 (aW P 24 sl H nx kt) nx0 H0 R:=by
 have e:aW P 24 sl H nx kt=jL P 100000 24 sl H nx kt:=by
  unfold aW
  rcases hG.2 with⟨_,rfl,_⟩ | ⟨b,c,rfl,_⟩<;>rfl
 rw[e]
 exact(cP.gw (t:=24) gd di fe rfl iR hG hL (λu hu=>by obtain⟨x,_,rfl⟩:=List.mem_map.1 hu;exact x.len) (λq=>by rw[q]at hl;have:=List.length_eq_zero_iff.1 hl.symm;rw[this];rfl)) 100000 (by omega) nx0 nx H0 H s F kt R h hk
theorem Sn (hLL:L.length<=100000):∀(m:Nat),(∀j,j<m->bw 60 L gL (ps L j).dec)->(∀j,j<m->bw 61 L aF.v (ps L j).exp)->∀(ds:List aT) (vs:List Value) (k:Nat) (sl:Value) (G:List Bx) (o:iY (List aT)) (nx:Nat) (H:Go.Ev.T OB),ds.length+m<=90010->Gw true 17 57 vs sl G->iB 0 kC vs (ds.map aT.v) []->vs.length=ds.length->
 (ps L m).bM ds k=some o->Hp nx0 H0 (cD bp L k::(G++F)) H nx->aK P pl X0 (.jump (Cd (ptr bp) sl H nx)) nx0 H0 (End nx0 H0 bp L F bP o)
 | 0,_,_,ds,vs,k,sl,G,o,nx,H,hm,hG,hL,hl,ho,h=>by cases ho
 | m+1,hd,he,ds,vs,k,sl,G,o,nx,H,hm,hG,hL,hl,ho,h=>by
   have ho:mN L (ps L m) ds k=some o:=ho
   unfold mN at ho
   have J14:∀(cs:List Value) (d:aT) (k' x1 nx2:Nat) (H2:Go.Ev.T OB),cs.length=17->cs.all ax=true->gp 0 kC (.agg ⟨cs⟩) d.v []->(ps L m).bM (ds++[d]) (skip L [59] k')=some o->Hp nx0 H0 (cD bp L k'::(x1,cs,57)::(G++F)) H2 nx2->aK P pl X0 (.jump (uP (ptr bp) sl (ptr x1) H2 nx2)) nx0 H0 (End nx0 H0 bp L F bP o):=by
    intro cs d k' x1 nx2 H2 hc h1 hz ho2 h2
    refine Wq.jmp (ND ..) (λ_=>rfl) ?_
    simp only[af,C5 (h2.at_ 1 rfl) hc]
    refine Hq.pG cs hc h2 λx H3 nx3 h3=> ?_
    refine Hq.add [_] (v:= .agg ⟨cs⟩) gd di (HD (by omega)) (by omega) (λv hv=>by rw[List.mem_singleton]at hv;subst hv;exact⟨hc,h1,⟨_,rfl⟩⟩) hG h3 λsl' G' H4 nx4 hG' h4=> ?_
    refine Sq.skip hLL (Hp.ko h4) λbb H5 nx5 h5=> ?_
    simp only[af]
    exact Sn hLL m (λj hj=>hd j (by omega)) (λj hj=>he j (by omega)) (ds++[d]) (vs++[.agg ⟨cs⟩]) _ sl' G' o nx5 H5 (by rw[List.length_append];simp;omega) hG' (by rw[List.map_append];exact hL.snoc hz) (by simp[hl]) ho2 h5
   refine Wq.jmp (Q5 ..) (λ_=>rfl) ?_
   refine Sq.now h λH1 aC h1=> ?_
   simp only[af]
   refine Wq.bK (λhi=> ?_) (λhi=> ?_)
   . have hne:¬(tk L k).k=0:=by simpa using hi
     rw[if_neg hne]at ho
     refine Sq.call (hd m (Nat.lt_succ_self m)) rfl h1 ho λd k' H2 nx2 _ ho h2=> ?_
     unfold gL
     simp only[af,Ej,Ek]
     refine Hq.alloc cJ h2 λx1 H3 nx3 h3=> ?_
     refine Hq.set [_] h3 di rfl (d.getD kr).len ((d.getD kr).fD (d.getD kr).v (by simp)).2.1 λH4 h4=> ?_
     cases d with
     | some d=>
       simp only[af,Option.isSome_some,Bool.not_true]
       exact J14 _ d k' x1 _ H4 d.len (d.fD d.v (by simp)).2.1 d.fz ho h4
     | none=>
       simp only[af,Option.isSome_none,Bool.not_false]
       refine Sq.call (he m (Nat.lt_succ_self m)) rfl h4 ho λc k2 H5 nx5 _ ho h5=> ?_
       simp only[af,yE]
       refine Hq.set [_] h5 di (kr.len) rfl rfl λH6 h6=> ?_
       exact J14 _ (yv c) k2 x1 _ H6 rfl rfl aT.MO ho h6
   . have h0:(tk L k).k=0:=by simpa using hi
     rw[if_pos h0]at ho
     exact yF hG hL hl h1 λH9 nx9 h9=>End.ret ho rfl h9
end
def rW (u:Nat)(s:List UInt8):List UInt8:=if u<10 then(48+u).toUInt8::s else rW (u/10) ((48+u%10).toUInt8::s)
termination_by u
decreasing_by omega
theorem z9 (k:Nat):∀(u:Nat) (s:List UInt8),u<10^(k+1)->(rW u s).length<=s.length+k+1/\s.length<(rW u s).length:=by
 induction k with
 | zero=>
   intro u s h
   rw[rW,if_pos (by simpa using h)]
   simp
 | succ k ih=>
   intro u s h
   rw[rW]
   split
   . simp
   . have:=ih (u/10) ((48+u%10).toUInt8::s) (by rw[Nat.div_lt_iff_lt_mul (by omega)];rw[Nat.pow_succ]at h;omega)
     simp only[List.length_cons]at this ⊢
     omega
def C_ (n:Int):List UInt8:=if n<0 then 45::rW n.natAbs []else rW n.natAbs []
theorem z_ (n:Int)(h: -9223372036854775808<=n/\n<9223372036854775808):(C_ n).length<=20:=by
 have:=(z9 18 n.natAbs [] (by have:(10:Nat)^(18+1)=10000000000000000000:=by decide
                              omega)).1
 unfold C_
 split<;>simp only[List.length_cons,List.length_nil]at this ⊢ <;> omega
theorem Wf:(10:Nat)^(18+1)=10000000000000000000:=by decide
theorem UP:(10:Nat)^19=10000000000000000000:=by decide
theorem Pq (a0:Int):Instr.fill (λi=>some (i*1,1)) (bA [.int .u8 0] (1*1)) [(0,.int .u8 a0)]=some ⟨[.int .u8 a0]⟩:=by kernel_rfl
theorem Qv (a0 a1:Int):Instr.fill (λi=>some (i*1,1)) (bA [.int .u8 0] (2*1)) [(0,.int .u8 a0),(1,.int .u8 a1)]=some ⟨[.int .u8 a0,.int .u8 a1]⟩:=by kernel_rfl
theorem Vg (a0 a1 a2 a3:Int):Instr.fill (λi=>some (i*1,1)) (bA [.int .u8 0] (4*1)) [(0,.int .u8 a0),(1,.int .u8 a1),(2,.int .u8 a2),(3,.int .u8 a3)]=some ⟨[.int .u8 a0,.int .u8 a1,.int .u8 a2,.int .u8 a3]⟩:=by kernel_rfl
theorem Da:P.underlying 167=some (.int .u64):=by kernel_rfl
theorem Db:P.underlying 168=some (.array 20 5):=by kernel_rfl
theorem nI:dX P 120 9=true:=by kernel_rfl
theorem HP (H:T OB)(n:Int):cC P H 2 167 (some (i64 n))=some (.int .u64 (IntKind.u64.wrap n)):=gh Hk Da
theorem yG (H:T OB)(n:Int):cC P H 167 5 (some (.int .u64 n))=some (.int .u8 (IntKind.u8.wrap n)):=gh Da oo
theorem Pr (H:T OB)(n:Int):cC P H 2 5 (some (i64 n))=some (.int .u8 (IntKind.u8.wrap n)):=gh Hk oo
theorem wrap_u64 (n:Int):IntKind.u64.wrap n=n%18446744073709551616:=by
 unfold IntKind.wrap
 simp[IntKind.bits,IntKind.signed]
theorem wv {b off i:Nat}(h:i<20)(k:IntKind):au P 168 (some (.pointer (some ⟨b,off,none⟩))) (some (.int k (i:Int)))=some (.pointer (some ⟨b,off+i,none⟩)):=by
 have:=yi (P:=P) (b:=b) (off:=off) Db gY h k
 rwa[Nat.mul_one]at this
theorem Ps {H:T OB}{b off i:Nat}(h:i<20)(k:IntKind):de P H 168 (some (.pointer (some ⟨b,off,none⟩))) (some (some (.int k (i:Int)))) (some none) (some none)=some (.slice (some ⟨b,off+i,none⟩) (20-i) (20-i)):=by
 have:=yj (P:=P) (H:=H) (b:=b) (off:=off) Db gY h (by omega) k
 rwa[Nat.mul_one]at this
def se (r:List UInt8):List Value:=List.replicate (20-r.length) (.int .u8 0)++kW r
theorem pJ (d:UInt8)(r:List UInt8)(h:r.length<20):(se r).set (19-r.length) (.int .u8 d.toNat)=se (d::r):=by
 unfold se
 rw[List.set_append_left _ _ (by simp;omega)]
 have e1:20-r.length=(19-r.length)+1:=by omega
 rw[e1,List.replicate_succ',List.set_append_right _ _ (by simp)]
 simp only[List.length_replicate,Nat.sub_self,List.set_cons_zero,List.length_cons]
 rw[show 20-(r.length+1)=19-r.length from by omega]
 simp[kW]
theorem hQ (r:List UInt8)(h:r.length<=20):(se r).length=20:=by simp[se];omega
theorem pK {nx0:Nat}{H0:T OB}{nx b:Nat}{H:T OB}(r:List UInt8)(hr:0<r.length/\r.length<=20)(hA:Ag nx0 H0 nx H)(hb:cG H b (se r) 168):
 Wq P pl X0 (.jump (u6 (.pointer (some ⟨b,0,none⟩)) (i64 ((20-r.length:Nat):Int)) H nx)) nx0 H0 (aE r):=by
 refine Wq.jmp (NM ..) (λ_=>rfl) ?_
 rw[Ps (by omega),aJ,nB nI hb (by rw[hQ r hr.2];omega) (r:=r),aJ]
 . exact Wq.ret hA
 . unfold se
   rw[Nat.zero_add,List.drop_left' (by simp)]
   rw[List.take_of_length_le (by simp;omega)]
def El (n:Int):List UInt8:=if n<0 then[45]else[]
theorem HQ (n:Int):C_ n=El n++rW n.natAbs []:=by
 unfold C_ El
 split<;>rfl
theorem wx (d:Nat)(h:d<10):IntKind.u8.wrap (48+(d:Int))=(((48+d).toUInt8).toNat:Int):=by
 rw[wrap_u8]
 have:((48+d).toUInt8).toNat=48+d:=by simp;omega
 rw[this];omega
theorem KC {nx0:Nat}{H0:T OB}{b:Nat}(hbn:nx0<=b)(n:Int)(k:Nat):∀(u:Nat) (s:List UInt8) (H:T OB) (nx:Nat),u<10^(k+1)->s.length+k=18->Ag nx0 H0 nx H->cG H b (se s) 168->
 Wq P pl X0 (.jump (u5 (i64 n) (.int .u64 (u:Int)) (.pointer (some ⟨b,0,none⟩)) (i64 ((20-s.length:Nat):Int)) H nx)) nx0 H0 (aE (El n++rW u s)):=by
 induction k with
 | zero=>
   intro u s H nx hu hs hA hb
   have hu:u<10:=by simpa using hu
   refine Wq.jmp (Gj ..) (λ_=>rfl) ?_
   have e0:IntKind.i64.wrap (((20-s.length:Nat):Int)-1)=((19-s.length:Nat):Int):=by rw[ct (by omega)];omega
   have e1:(u:Int).tmod 10=((u%10:Nat):Int):=by rw[Int.tmod_eq_emod_of_nonneg (by omega)];omega
   have e2:IntKind.u64.wrap (48+((u%10:Nat):Int))=48+((u%10:Nat):Int):=by rw[wrap_u64];omega
   have e3:IntKind.u64.wrap ((u:Int).tdiv 10)=0:=by rw[Int.tdiv_eq_ediv_of_nonneg (by omega),wrap_u64];omega
   rw[rW,if_pos hu]
   simp only[af,e0,kM 167 true .u64 u 10 (by omega),iO 167 true .u64 u 10 (by omega),e1,e2,yG,wx _ (Nat.mod_lt u (by omega:0<10)),wv (show 19-s.length<20 by omega),e3,Nat.zero_add]
   refine Wq.put hb gY rfl rfl (by rw[hQ s (by omega)];omega) (pJ _ s (by omega)) hA hbn λH1 hb1 _ hA1=> ?_
   rw[show u%10=u from Nat.mod_eq_of_lt hu]at hb1
   refine Wq.ite (λhn=> ?_) (λhn=> ?_)
   . have e4:IntKind.i64.wrap (((19-s.length:Nat):Int)-1)=((18-s.length:Nat):Int):=by rw[ct (by omega)];omega
     simp only[af,e4,wv (show 18-s.length<20 by omega),Nat.zero_add]
     have:=pJ 45 ((48+u).toUInt8::s) (by simp;omega)
     rw[List.length_cons,show 19-(s.length+1)=18-s.length from by omega]at this
     refine Wq.put hb1 gY rfl rfl (by rw[hQ _ (by simp;omega)];omega) this hA1 hbn λH2 hb2 _ hA2=> ?_
     have:=pK _ (by simp;omega) hA2 hb2
     simp only[List.length_cons,show 20-(s.length+1+1)=18-s.length from by omega]at this
     unfold El;rw[if_pos hn]
     exact this
   . have:=pK _ (by simp;omega) hA1 hb1
     simp only[List.length_cons,show 20-(s.length+1)=19-s.length from by omega]at this
     unfold El;rw[if_neg hn]
     exact this
 | succ k ih=>
   intro u s H nx hu hs hA hb
   refine Wq.jmp (Gj ..) (λ_=>rfl) ?_
   have hpow:(10:Nat)^(k+1+1)<=10^19:=Nat.pow_le_pow_right (by omega) (by omega)
   have h19:(10:Nat)^19=10000000000000000000:=by decide
   have hdiv:u/10<10^(k+1):=by rw[Nat.div_lt_iff_lt_mul (by omega)];rw[Nat.pow_succ]at hu;omega
   have e0:IntKind.i64.wrap (((20-s.length:Nat):Int)-1)=((19-s.length:Nat):Int):=by rw[ct (by omega)];omega
   have e1:(u:Int).tmod 10=((u%10:Nat):Int):=by rw[Int.tmod_eq_emod_of_nonneg (by omega)];omega
   have e2:IntKind.u64.wrap (48+((u%10:Nat):Int))=48+((u%10:Nat):Int):=by rw[wrap_u64];omega
   have e3:IntKind.u64.wrap ((u:Int).tdiv 10)=((u/10:Nat):Int):=by rw[Int.tdiv_eq_ediv_of_nonneg (by omega),wrap_u64];omega
   simp only[af,e0,kM 167 true .u64 u 10 (by omega),iO 167 true .u64 u 10 (by omega),e1,e2,yG,wx _ (Nat.mod_lt u (by omega:0<10)),wv (show 19-s.length<20 by omega),e3,Nat.zero_add]
   refine Wq.put hb gY rfl rfl (by rw[hQ s (by omega)];omega) (pJ _ s (by omega)) hA hbn λH1 hb1 _ hA1=> ?_
   refine Wq.ite (λh0=> ?_) (λh0=> ?_)
   . have hu10:u<10:=by omega
     rw[rW,if_pos hu10]
     rw[show u%10=u from Nat.mod_eq_of_lt hu10]at hb1
     refine Wq.ite (λhn=> ?_) (λhn=> ?_)
     . have e4:IntKind.i64.wrap (((19-s.length:Nat):Int)-1)=((18-s.length:Nat):Int):=by rw[ct (by omega)];omega
       simp only[af,e4,wv (show 18-s.length<20 by omega),Nat.zero_add]
       have:=pJ 45 ((48+u).toUInt8::s) (by simp;omega)
       rw[List.length_cons,show 19-(s.length+1)=18-s.length from by omega]at this
       refine Wq.put hb1 gY rfl rfl (by rw[hQ _ (by simp;omega)];omega) this hA1 hbn λH2 hb2 _ hA2=> ?_
       have:=pK _ (by simp;omega) hA2 hb2
       simp only[List.length_cons,show 20-(s.length+1+1)=18-s.length from by omega]at this
       unfold El;rw[if_pos hn]
       exact this
     . have:=pK _ (by simp;omega) hA1 hb1
       simp only[List.length_cons,show 20-(s.length+1)=19-s.length from by omega]at this
       unfold El;rw[if_neg hn]
       exact this
   . have:=ih (u/10) ((48+u%10).toUInt8::s) H1 nx hdiv (by simp;omega) hA1 hb1
     rw[rW,if_neg (by omega)]
     simp only[List.length_cons,show 20-(s.length+1)=19-s.length from by omega]at this
     exact this
theorem Vh (n:Int)(h: -9223372036854775808<=n/\n<9223372036854775808):P0 78 [i64 n] (aE (C_ n)):=Pure.of rfl λH nx=>by
 rw[V5]
 have L10:Wq P pl X0 (.jump (u4 (i64 n) (.int .u64 ((n.natAbs:Nat):Int)) H nx)) nx H (aE (C_ n)):=by
  refine Wq.jmp (NL ..) (λ_=>rfl) ?_
  refine Wq.alloc FJ (.refl _ _) λH1 hb1 _ hA1=> ?_
  rw[HQ]
  exact KC (Nat.le_refl _) n 18 n.natAbs [] H1 _ (by rw[Wf];omega) rfl hA1 hb1
 simp only[af,HP,vJ]
 refine Wq.ite (λhn=> ?_) (λhn=> ?_)
 . have e:IntKind.u64.wrap (0-IntKind.u64.wrap n)=((n.natAbs:Nat):Int):=by rw[wrap_u64,wrap_u64];omega
   rw[e];exact L10
 . have e:IntKind.u64.wrap n=((n.natAbs:Nat):Int):=by rw[wrap_u64];omega
   rw[e];exact L10
theorem HS (left:Int)(h: -9223372036854775808<=left/\left<9223372036854775808):w (left.tdiv 10)=left.tdiv 10/\(left.tdiv 10).natAbs=left.natAbs/10/\(left.tmod 10).natAbs=left.natAbs%10:=by
 have h2:(left.tdiv 10).natAbs=left.natAbs/10:=by rw[Int.natAbs_tdiv];rfl
 refine⟨ct (by omega),h2,by rw[Int.natAbs_tmod];rfl⟩
theorem KD {nx0:Nat}{H0:T OB}(n:Int)(k:Nat):∀(left:Int) (s:List UInt8) (H:T OB) (nx:Nat),left.natAbs<10^k->k<=19-> -9223372036854775808<=left->left<9223372036854775808->s.length+k<=120->(k=0->s≠[])->Ag nx0 H0 nx H->
 Wq P pl X0 (.jump (vi (i64 n) (aE s) (i64 left) H nx)) nx0 H0 (aE (El n++(if left=0/\s≠[]then s else rW left.natAbs s))):=by
 induction k with
 | zero=>
   intro left s H nx hl hk19 h1 h2 hk hs hA
   have:left=0:=by have:(10:Nat)^0=1:=rfl
                   omega
   subst this
   rw[if_pos ⟨rfl,hs rfl⟩]
   refine Wq.jmp (Gs ..) (λ_=>rfl) ?_
   simp only[af,decide_true,Bool.not_true,cond_false,show decide ((⟨⟨s⟩⟩:ByteArray)=⟨⟨[]⟩⟩)=false from by simp;exact hs rfl]
   refine Wq.ite (λhn=> ?_) (λhn=> ?_)
   . rw[nA 9 true [45] s (by simp;omega)]
     refine Wq.ff ?_ hA
     unfold El;rw[if_pos hn]
   . refine Wq.ff ?_ hA
     unfold El;rw[if_neg hn];rfl
 | succ k ih=>
   intro left s H nx hl hk19 h1 h2 hk hs hA
   obtain⟨e1,e2,e3⟩:=HS left ⟨h1,h2⟩
   have L16:∀d:Nat,d=left.natAbs%10->(¬(left=0/\s≠[]))->Wq P pl X0 (.jump (kP (i64 n) (aE s) (i64 left) (i64 (d:Int)) H nx)) nx0 H0 (aE (El n++(if left=0/\s≠[]then s else rW left.natAbs s))):=by
    intro d hd hno
    rw[if_neg hno]
    refine Wq.jmp (Jf ..) (λ_=>rfl) ?_
    have hd10:d<10:=by rw[hd];exact Nat.mod_lt _ (by omega)
    have e5:IntKind.i64.wrap (48+(d:Int))=48+(d:Int):=ct (by omega)
    simp only[af,e5,Pr,wx d hd10]
    refine Wq.row cO gY eQ rfl (Pq _) hA λH1 hb1 _ hA1=> ?_
    rw[nB nI hb1 (r:=[(48+d).toUInt8]) (by simp) (by simp[kW]),aJ,nA 9 false [(48+d).toUInt8] s (by simp;omega)]
    simp only[af,iO 2 true .i64 left 10 (by omega),e1]
    have:=ih (left.tdiv 10) ((48+d).toUInt8::s) H1 _ (by rw[e2,Nat.div_lt_iff_lt_mul (by omega)];rw[Nat.pow_succ]at hl;omega) (by omega) (by omega) (by omega) (by simp;omega) (λ_=>by simp) hA1
    have e6:(if left.tdiv 10=0/\(48+d).toUInt8::s≠[]then(48+d).toUInt8::s else rW (left.tdiv 10).natAbs ((48+d).toUInt8::s))=rW left.natAbs s:=by
     rw[rW.eq_def left.natAbs s,e2,hd]
     by_cases hlt:left.natAbs<10
     . rw[if_pos ⟨by omega,by simp⟩,if_pos hlt,Nat.mod_eq_of_lt hlt]
     . rw[if_neg (λq=>by omega),if_neg hlt]
    rw[e6]at this
    exact this
   have hm:∀(q:Int),q=left.tmod 10->¬q<0->q=((left.natAbs%10:Nat):Int):=λq hq h=>by rw[<- e3,<- hq];omega
   have hm2:∀(q:Int),q=left.tmod 10->q<0->IntKind.i64.wrap (0-q)=((left.natAbs%10:Nat):Int):=λq hq h=>by
    have:q.natAbs<10:=by rw[hq,e3];exact Nat.mod_lt _ (by omega)
    rw[ct (by omega),<- e3,<- hq];omega
   refine Wq.jmp (Gs ..) (λ_=>rfl) ?_
   simp only[af,kM 2 true .i64 left 10 (by omega),vJ]
   refine Wq.bK (λh=> ?_) (λh=> ?_)
   . have hne:left≠0:=by simpa using h
     refine Wq.ite (λhn=> ?_) (λhn=> ?_)
     . rw[hm2 _ rfl hn];exact L16 _ rfl (λq=>hne q.1)
     . have:=L16 _ rfl (λq=>hne q.1)
       rw[<- hm _ rfl hn]at this;exact this
   . have h0:left=0:=by simpa using h
     refine Wq.ite (λhs0=> ?_) (λhs0=> ?_)
     . have hs1:s=[]:=by simpa using hs0
       refine Wq.ite (λhn=> ?_) (λhn=> ?_)
       . rw[hm2 _ rfl hn];exact L16 _ rfl (λq=>q.2 hs1)
       . have:=L16 _ rfl (λq=>q.2 hs1)
         rw[<- hm _ rfl hn]at this;exact this
     . have hs1:s≠[]:=by simpa using hs0
       rw[if_pos ⟨h0,hs1⟩]
       refine Wq.ite (λhn=> ?_) (λhn=> ?_)
       . rw[nA 9 true [45] s (by simp;omega)]
         refine Wq.ff ?_ hA
         unfold El;rw[if_pos hn]
       . refine Wq.ff ?_ hA
         unfold El;rw[if_neg hn];rfl
theorem Pt (n:Int)(h: -9223372036854775808<=n/\n<9223372036854775808):P0 117 [i64 n] (aE (C_ n)):=Pure.of rfl λH nx=>by
 rw[TC,HQ]
 have:=KD (H0:=H) (nx0:=nx) n 19 n [] H nx (by rw[UP];omega) (by omega) h.1 h.2 (by simp) (by omega) (.refl _ _)
 simpa using this
def hex:List UInt8:=[48,49,50,51,52,53,54,55,56,57,65,66,67,68,69,70]
def hx (n:Nat):UInt8:=hex.getD n 0
def qc (c:UInt8):List UInt8:=if c.toNat=34\/c.toNat=92 then[92,c]else if c.toNat=10 then[92,110]else if c.toNat=9 then[92,116]else if c.toNat<32\/126<c.toNat then[92,120,hx (c.toNat/16),hx (c.toNat%16)]else[c]
def qs (l:List UInt8):List UInt8:=l.flatMap qc
theorem Em (c:UInt8):(qc c).length<=4:=by unfold qc;split<;>(try split)<;>(try split)<;>(try split)<;>simp
theorem tK (l:List UInt8):(qs l).length<=4*l.length:=by
 induction l with
 | nil=>simp[qs]
 | cons a l ih=>have:=Em a;simp only[qs,List.flatMap_cons,List.length_append,List.length_cons]at ih ⊢;omega
def quote (l:List UInt8):List UInt8:=34::(qs l++[34])
theorem KE {n:Nat}(h:n<16):hex[n]? = some (hx n):=by
 unfold hx
 rw[List.getD_eq_getElem?_getD,List.getElem?_eq_getElem (by simpa[hex]using h)];rfl
theorem wy {n:Nat}(h:n<16)(k:IntKind):aU P 9 (some (.string ⟨⟨[48,49,50,51,52,53,54,55,56,57,65,66,67,68,69,70]⟩⟩)) (some (.int k (n:Int)))=some (.int .u8 ((hx n).toNat:Int)):=bG bU (KE h) k
theorem Pu (H:T OB)(c:UInt8):al P H .shr 5 true (some (.int .u8 (c.toNat:Int))) (some (.int .u64 4))=some (.int .u8 ((c.toNat/16:Nat):Int)):=by
 have:=Ed (P:=P) (H:=H) 5 true .u8 .u64 (c.toNat:Int) 4 (by decide)
 rw[show((4:Nat):Int)=4 from rfl]at this
 rw[this]
 congr 2
 rw[Int.fdiv_eq_ediv_of_nonneg _ (by omega)]
 rw[show(2:Int)^4=16 from by decide];omega
theorem u8_and (H:T OB)(c:UInt8):al P H .and 5 true (some (.int .u8 (c.toNat:Int))) (some (.int .u8 15))=some (.int .u8 ((c.toNat%16:Nat):Int)):=by
 rw[Ee]
 congr 2
 have hc:c.toNat<256:=c.toNat_lt
 have e1:(BitVec.ofInt IntKind.u8.bits (c.toNat:Int) &&& BitVec.ofInt IntKind.u8.bits 15).toNat=c.toNat%16:=by
  rw[BitVec.toNat_and,BitVec.toNat_ofInt,BitVec.toNat_ofInt]
  have hb:IntKind.u8.bits=8:=rfl
  rw[hb]
  have h1:((c.toNat:Int) % ((2^8:Nat):Int)).toNat=c.toNat:=by
   rw[show(2:Nat)^8=256 from by decide];omega
  have h2:((15:Int) % ((2^8:Nat):Int)).toNat=15:=by decide
  rw[h1,h2]
  exact Nat.and_two_pow_sub_one_eq_mod c.toNat 4
 rw[e1,wrap_u8];omega
theorem u8_quo (H:T OB)(c:UInt8):al P H .quo 5 true (some (.int .u8 (c.toNat:Int))) (some (.int .u8 16))=some (.int .u8 ((c.toNat/16:Nat):Int)):=by
 rw[iO _ _ _ _ _ (by omega)]
 congr 2
 have hc:c.toNat<256:=c.toNat_lt
 rw[Int.tdiv_eq_ediv_of_nonneg (by omega),wrap_u8];omega
theorem Pv (H:T OB)(c:UInt8):al P H .rem 5 true (some (.int .u8 (c.toNat:Int))) (some (.int .u8 16))=some (.int .u8 ((c.toNat%16:Nat):Int)):=by
 rw[kM _ _ _ _ _ (by omega)]
 congr 2
theorem Wq.So {nx0:Nat}{H0:T OB}{nx:Nat}{H:T OB}{R:Value->T OB->Nat->Prop}{r:List UInt8}{sl:Value}{k:Value->T OB->Nat->Q}(hB:BS 5 nx0 H nx r sl)(hr:r≠[])(hA:Ag nx0 H0 nx H)(hk:∀H',Ag nx0 H0 (nx+1) H'->uj P pl X0 (k (bc 1 (kW r)) H' (nx+1)) nx0 H0 R):uj P pl X0 (dK P 120 sl H nx k) nx0 H0 R:=by
 rcases hB with⟨rfl,_⟩ | ⟨b,c,hb0,hbx,hb,hc,rfl⟩
 . exact absurd rfl hr
 . have hch:chunk false 1 r.length (kW r)=some (kW r):=by
    have:=im (kW r)
    simpa using this
   refine Wq.QV cO gY Q2 rfl hb (by simp) ?_ hch ?_ hA hb0 λH' _ hA'=>hk H' hA'
   . rcases hc with rfl | rfl
     . simp
     . rw[Nat.ble_eq_true_of_le (Nat.le_refl _),Bool.or_true]
   . simp[kW]
theorem Pw {nx0:Nat}{H0:T OB}(l:List UInt8)(hl:l.length<9223372036854775807):∀(t:List UInt8) (i:Nat) (r:List UInt8) (sl:Value) (H:T OB) (nx:Nat),l.drop i=t->i<=l.length->r.length+(qs t).length+1<=1048576->BS 5 nx0 H nx r sl->Ag nx0 H0 nx H->
 uj P pl X0 (.jump (mB (aE l) sl (i64 (i:Int)) H nx)) nx0 H0 (λu H nx=>u=bc 1 (kW (r++(qs t++[34])))):=by
 intro t
 induction t with
 | nil=>
   intro i r sl H nx hd hi hlen hB hA
   have hil:=drop_nil hd hi
   refine Wq.jmp (L1 ..) (λ_=>rfl) ?_
   simp only[af,bt _ bU,bD,hil,aL]
   refine Wq.nC cO gY eQ hB (x:=[34]) rfl rfl (Pq 34) (λm hm=>iQ (by simp at hm;simp at hlen;omega)) hA λH1 sl1 aC hB1 hA1 _=> ?_
   refine Wq.So hB1 (by simp) hA1 λH2 hA2=> ?_
   exact Wq.Ti hA2 (by simp[qs])
 | cons c t ih=>
   intro i r sl H nx hd hi hlen hB hA
   obtain⟨hg,hlt,hd'⟩:=drop_cons hd
   have hqs:qs (c::t)=qc c++qs t:=rfl
   rw[hqs,List.length_append]at hlen
   have fin:∀(x:List UInt8) (sl1:Value) H1 aC,Ag nx0 H0 aC H1->BS 5 nx0 H1 aC (r++x) sl1->qc c=x->uj P pl X0 (.jump (mB (aE l) sl1 (i64 ((i+1:Nat):Int)) H1 aC)) nx0 H0 (λu H nx=>u=bc 1 (kW (r++(qs (c::t)++[34])))):=by
    intro x sl1 H1 aC hA1 hB1 hx
    have:=ih (i+1) (r++x) sl1 H1 aC hd' (by omega) (by rw[List.length_append,<- hx];omega) hB1 hA1
    rw[hqs,hx]
    simpa[List.append_assoc]using this
   have hc8:c.toNat<256:=c.toNat_lt
   have L30:∀b:Bool,(b=true↔(c.toNat<32\/126<c.toNat))->¬(c.toNat=34\/c.toNat=92)->c.toNat≠10->c.toNat≠9->uj P pl X0 (.jump (u9 (aE l) sl (i64 (i:Int)) (b8 c) b H nx)) nx0 H0 (λu H nx=>u=bc 1 (kW (r++(qs (c::t)++[34])))):=by
    intro b hb h1 h2 h3
    refine Wq.jmp (NO ..) (λ_=>rfl) ?_
    refine Wq.bK (λh=> ?_) (λh=> ?_)
    . have hq:qc c=[92,120,hx (c.toNat/16),hx (c.toNat%16)]:=by unfold qc;rw[if_neg h1,if_neg h2,if_neg h3,if_pos (hb.1 h)]
      rw[hq]at hlen
      simp only[af,Pu,u8_and,wy (show c.toNat/16<16 by omega),wy (show c.toNat%16<16 by omega)]
      refine Wq.nC cO gY eQ hB (x:=[92,120,hx (c.toNat/16),hx (c.toNat%16)]) rfl rfl (Vg 92 120 _ _) (λm hm=>iQ (by simp at hm;simp at hlen;omega)) hA λH1 sl1 aC hB1 hA1 _=> ?_
      simp only[af,aI (show i<9223372036854775807 by omega)]
      exact fin _ _ _ _ hA1 hB1 hq
    . have hq:qc c=[c]:=by unfold qc;rw[if_neg h1,if_neg h2,if_neg h3,if_neg (λq=>by rw[hb.2 q]at h;cases h)]
      rw[hq]at hlen
      refine Wq.nC cO gY eQ hB (x:=[c]) rfl rfl (Pq _) (λm hm=>iQ (by simp at hm;simp at hlen;omega)) hA λH1 sl1 aC hB1 hA1 _=> ?_
      simp only[af,aI (show i<9223372036854775807 by omega)]
      exact fin _ _ _ _ hA1 hB1 hq
   have L18:∀b:Bool,(b=true↔(c.toNat=34\/c.toNat=92))->uj P pl X0 (.jump (u7 (aE l) sl (i64 (i:Int)) (b8 c) b H nx)) nx0 H0 (λu H nx=>u=bc 1 (kW (r++(qs (c::t)++[34])))):=by
    intro b hb
    refine Wq.jmp (NN ..) (λ_=>rfl) ?_
    refine Wq.bK (λh=> ?_) (λh=> ?_)
    . have hq:qc c=[92,c]:=by unfold qc;rw[if_pos (hb.1 h)]
      rw[hq]at hlen
      refine Wq.nC cO gY eQ hB (x:=[92,c]) rfl rfl (Qv 92 _) (λm hm=>iQ (by simp at hm;simp at hlen;omega)) hA λH1 sl1 aC hB1 hA1 _=> ?_
      simp only[af,aI (show i<9223372036854775807 by omega)]
      exact fin _ _ _ _ hA1 hB1 hq
    have h1:¬(c.toNat=34\/c.toNat=92):=λq=>by rw[hb.2 q]at h;cases h
    simp only[af]
    refine Wq.ite (λh2=> ?_) (λh2=> ?_)
    . have h2:c.toNat=10:=by omega
      have hq:qc c=[92,110]:=by unfold qc;rw[if_neg h1,if_pos h2]
      rw[hq]at hlen
      refine Wq.nC cO gY eQ hB (x:=[92,110]) rfl rfl (Qv 92 110) (λm hm=>iQ (by simp at hm;simp at hlen;omega)) hA λH1 sl1 aC hB1 hA1 _=> ?_
      simp only[af,aI (show i<9223372036854775807 by omega)]
      exact fin _ _ _ _ hA1 hB1 hq
    have h2:c.toNat≠10:=by omega
    refine Wq.ite (λh3=> ?_) (λh3=> ?_)
    . have h3:c.toNat=9:=by omega
      have hq:qc c=[92,116]:=by unfold qc;rw[if_neg h1,if_neg h2,if_pos h3]
      rw[hq]at hlen
      refine Wq.nC cO gY eQ hB (x:=[92,116]) rfl rfl (Qv 92 116) (λm hm=>iQ (by simp at hm;simp at hlen;omega)) hA λH1 sl1 aC hB1 hA1 _=> ?_
      simp only[af,aI (show i<9223372036854775807 by omega)]
      exact fin _ _ _ _ hA1 hB1 hq
    have h3:c.toNat≠9:=by omega
    refine Wq.ite (λh4=>L30 true (by simp;omega) h1 h2 h3) (λh4=>L30 _ (by rw[decide_eq_true_eq];omega) h1 h2 h3)
   refine Wq.jmp (L1 ..) (λ_=>rfl) ?_
   simp only[af,bt _ bU,bD,aQ hlt,bG bU hg]
   refine Wq.ite (λh1=>L18 true (by simp;omega)) (λh1=>L18 _ (by rw[decide_eq_true_eq];omega))
theorem Wg {nx0:Nat}{H0:T OB}{nx:Nat}{H:T OB}(l:List UInt8)(hl:(qs l).length<=1000000)(hl2:l.length<9223372036854775807)(hA:Ag nx0 H0 nx H):
 uj P pl X0 (aN P pl (.call 79 [aE l] false none H nx)) nx0 H0 (λu H nx=>u=bc 1 (kW (quote l))):=by
 rw[V6]
 refine Wq.row cO gY eQ rfl (Pq 34) hA λH1 hb1 _ hA1=> ?_
 exact Pw l hl2 l 0 [34] _ H1 _ rfl (Nat.zero_le _) (by simp;omega) (.inr ⟨nx,1,hA.1,by omega,hb1,.inr rfl,rfl⟩) hA1
theorem KF {nx0:Nat}{H0:T OB}(l:List UInt8)(hl:l.length<9223372036854775807):∀(t:List UInt8) (i:Nat) (r:List UInt8) (sl:Value) (H:T OB) (nx:Nat),l.drop i=t->i<=l.length->r.length+(qs t).length+1<=1048576->BS 5 nx0 H nx r sl->Ag nx0 H0 nx H->
 uj P pl X0 (.jump (jn (aE l) sl (i64 (i:Int)) H nx)) nx0 H0 (λu _ _=>u=aE (r++(qs t++[34]))):=by
 intro t
 induction t with
 | nil=>
   intro i r sl H nx hd hi hlen hB hA
   have hil:=drop_nil hd hi
   refine Wq.jmp (Gt ..) (λ_=>rfl) ?_
   simp only[af,bt _ bU,bD,hil,aL]
   refine Wq.nC cO gY eQ hB (x:=[34]) rfl rfl (Pq 34) (λm hm=>iQ (by simp at hm;simp at hlen;omega)) hA λH1 sl1 aC hB1 hA1 _=> ?_
   rw[nD cO oo bU nI hB1,aJ];exact Wq.ret hA1
 | cons c t ih=>
   intro i r sl H nx hd hi hlen hB hA
   obtain⟨hg,hlt,hd'⟩:=drop_cons hd
   have hqs:qs (c::t)=qc c++qs t:=rfl
   rw[hqs,List.length_append]at hlen
   have fin:∀(x:List UInt8) (sl1:Value) H1 aC,Ag nx0 H0 aC H1->BS 5 nx0 H1 aC (r++x) sl1->qc c=x->uj P pl X0 (.jump (jn (aE l) sl1 (i64 ((i+1:Nat):Int)) H1 aC)) nx0 H0 (λu _ _=>u=aE (r++(qs (c::t)++[34]))):=by
    intro x sl1 H1 aC hA1 hB1 hx
    have:=ih (i+1) (r++x) sl1 H1 aC hd' (by omega) (by rw[List.length_append,<- hx];omega) hB1 hA1
    rw[hqs,hx]
    simpa[List.append_assoc]using this
   have hc8:c.toNat<256:=c.toNat_lt
   have L30:∀b:Bool,(b=true↔(c.toNat<32\/126<c.toNat))->¬(c.toNat=34\/c.toNat=92)->c.toNat≠10->c.toNat≠9->uj P pl X0 (.jump (o8 (aE l) sl (i64 (i:Int)) (b8 c) b H nx)) nx0 H0 (λu _ _=>u=aE (r++(qs (c::t)++[34]))):=by
    intro b hb h1 h2 h3
    refine Wq.jmp (Jh ..) (λ_=>rfl) ?_
    refine Wq.bK (λh=> ?_) (λh=> ?_)
    . have hq:qc c=[92,120,hx (c.toNat/16),hx (c.toNat%16)]:=by unfold qc;rw[if_neg h1,if_neg h2,if_neg h3,if_pos (hb.1 h)]
      rw[hq]at hlen
      simp only[af,u8_quo,Pv,wy (show c.toNat/16<16 by omega),wy (show c.toNat%16<16 by omega)]
      refine Wq.nC cO gY eQ hB (x:=[92,120,hx (c.toNat/16),hx (c.toNat%16)]) rfl rfl (Vg 92 120 _ _) (λm hm=>iQ (by simp at hm;simp at hlen;omega)) hA λH1 sl1 aC hB1 hA1 _=> ?_
      simp only[af,aI (show i<9223372036854775807 by omega)]
      exact fin _ _ _ _ hA1 hB1 hq
    . have hq:qc c=[c]:=by unfold qc;rw[if_neg h1,if_neg h2,if_neg h3,if_neg (λq=>by rw[hb.2 q]at h;cases h)]
      rw[hq]at hlen
      refine Wq.nC cO gY eQ hB (x:=[c]) rfl rfl (Pq _) (λm hm=>iQ (by simp at hm;simp at hlen;omega)) hA λH1 sl1 aC hB1 hA1 _=> ?_
      simp only[af,aI (show i<9223372036854775807 by omega)]
      exact fin _ _ _ _ hA1 hB1 hq
   have L18:∀b:Bool,(b=true↔(c.toNat=34\/c.toNat=92))->uj P pl X0 (.jump (o7 (aE l) sl (i64 (i:Int)) (b8 c) b H nx)) nx0 H0 (λu _ _=>u=aE (r++(qs (c::t)++[34]))):=by
    intro b hb
    refine Wq.jmp (Jg ..) (λ_=>rfl) ?_
    refine Wq.bK (λh=> ?_) (λh=> ?_)
    . have hq:qc c=[92,c]:=by unfold qc;rw[if_pos (hb.1 h)]
      rw[hq]at hlen
      refine Wq.nC cO gY eQ hB (x:=[92,c]) rfl rfl (Qv 92 _) (λm hm=>iQ (by simp at hm;simp at hlen;omega)) hA λH1 sl1 aC hB1 hA1 _=> ?_
      simp only[af,aI (show i<9223372036854775807 by omega)]
      exact fin _ _ _ _ hA1 hB1 hq
    have h1:¬(c.toNat=34\/c.toNat=92):=λq=>by rw[hb.2 q]at h;cases h
    simp only[af]
    refine Wq.ite (λh2=> ?_) (λh2=> ?_)
    . have h2:c.toNat=10:=by omega
      have hq:qc c=[92,110]:=by unfold qc;rw[if_neg h1,if_pos h2]
      rw[hq]at hlen
      refine Wq.nC cO gY eQ hB (x:=[92,110]) rfl rfl (Qv 92 110) (λm hm=>iQ (by simp at hm;simp at hlen;omega)) hA λH1 sl1 aC hB1 hA1 _=> ?_
      simp only[af,aI (show i<9223372036854775807 by omega)]
      exact fin _ _ _ _ hA1 hB1 hq
    have h2:c.toNat≠10:=by omega
    refine Wq.ite (λh3=> ?_) (λh3=> ?_)
    . have h3:c.toNat=9:=by omega
      have hq:qc c=[92,116]:=by unfold qc;rw[if_neg h1,if_neg h2,if_pos h3]
      rw[hq]at hlen
      refine Wq.nC cO gY eQ hB (x:=[92,116]) rfl rfl (Qv 92 116) (λm hm=>iQ (by simp at hm;simp at hlen;omega)) hA λH1 sl1 aC hB1 hA1 _=> ?_
      simp only[af,aI (show i<9223372036854775807 by omega)]
      exact fin _ _ _ _ hA1 hB1 hq
    have h3:c.toNat≠9:=by omega
    refine Wq.ite (λh4=>L30 true (by simp;omega) h1 h2 h3) (λh4=>L30 _ (by rw[decide_eq_true_eq];omega) h1 h2 h3)
   refine Wq.jmp (Gt ..) (λ_=>rfl) ?_
   simp only[af,bt _ bU,bD,aQ hlt,bG bU hg]
   refine Wq.ite (λh1=>L18 true (by simp;omega)) (λh1=>L18 _ (by rw[decide_eq_true_eq];omega))
theorem Px (l:List UInt8)(hl:(qs l).length<=1000000)(hl2:l.length<9223372036854775807):P0 118 [aE l] (aE (quote l)):=Pure.of rfl λH nx=>by
 rw[TD]
 refine Wq.row cO gY eQ rfl (Pq 34) (.refl _ _) λH1 hb1 _ hA1=> ?_
 exact KF l hl2 l 0 [34] _ H1 _ rfl (Nat.zero_le _) (by simp;omega) (.inr ⟨nx,1,Nat.le_refl _,by omega,hb1,.inr rfl,rfl⟩) hA1
section
variable {nx0 nx:Nat}{H0 H:T OB}{R:Go.Ev.Out->T OB->Nat->Prop}
def cR (t:Tok):List UInt8:=if t.k=1 then C_ t.n else if t.k=2 then quote t.s else t.s
end
section
variable {nx0 nx:Nat}{H0 H:T OB}{R:Go.Ev.Out->T OB->Nat->Prop}
theorem UQ {n:Nat}(h:n<=1048576):bL P 9 1 n=true:=by
 have:bL P 9 1 n=(Nat.ble n 1048576&&true):=by kernel_rfl
 rw[this,Nat.ble_eq_true_of_le h];rfl
theorem UR (a:ByteArray):Instr.fill (λi=>some (i*1,1)) (bA [Value.string ⟨⟨[]⟩⟩] (1*1)) [(0,.string a)]=some ⟨[.string a]⟩:=by kernel_rfl
end
section
variable {nx0 nx nx' bp k:Nat}{H0 H H':T OB}{F A B G G':List Bx}{s:Bx}{R:Go.Ev.Out->T OB->Nat->Prop}{b:Nat}{l:List Value}{e t:TypeId}{L:List Tok}
theorem Dc (w:List UInt8):ot false 1 [aE w]:=λv hv=>by
 rw[List.mem_singleton]at hv
 subst hv
 exact⟨rfl,rfl,rfl,rfl⟩
theorem Hq.k_ (w:List UInt8){kt:Value->Go.Ev.T OB->Nat->Q}(h:Hp nx0 H0 (s::F) H nx)(hk:∀b H' nx',Hp nx0 H0 (s::(b,[aE w],9)::F) H' nx'->aK P pl X0 (kt (gq b 1 1) H' nx') nx0 H0 R):aK P pl X0 (ak (ao P H nx 49 1 (some [(0,aE w)])) kt) nx0 H0 R:=
 Hq.row fK ke ir rfl (UR _) h hk
theorem Hq.Dd (A:List Bx){l:List (List UInt8)}{w:List UInt8}{sl:Value}{kt:Value->Go.Ev.T OB->Nat->Q}(hl:l.length<=1000000)(hG:Gw false 1 9 (l.map aE) sl G)(h:Hp nx0 H0 (s::(b,[aE w],9)::(A++(G++B))) H nx)
 (hk:∀sl' G' H' nx',Gw false 1 9 ((l++[w]).map aE) sl' G'->Hp nx0 H0 (s::(A++(G'++B))) H' nx'->aK P pl X0 (kt sl' H' nx') nx0 H0 R):aK P pl X0 (ak (a9 P H nx [49,49] (some [sl,gq b 1 1])) kt) nx0 H0 R:=
 Hq.add A (v:=aE w) fK ke (UQ (by rw[List.length_map];omega)) (by rw[List.length_map];omega) (Dc w) hG h λsl' G' H' nx' hG' h'=>hk sl' G' H' nx' (by rw[List.map_append];exact hG') h'
theorem Gw.Sp {l:List (List UInt8)}{sl:Value}(hG:Gw false 1 9 (l.map aE) sl G):cP 1 49 sl (fW l) G:=
 cP.gw fK ke tu rfl UG hG (iB.id λv hv=>by obtain⟨x,_,rfl⟩:=List.mem_map.1 hv;exact gp.aE _) (λu hu=>by obtain⟨x,_,rfl⟩:=List.mem_map.1 hu;rfl) id
theorem Gw.Sr (w:List UInt8):Gw false 1 9 ([w].map aE) (gq b 1 1) [(b,[aE w],9)]:=Gw.one (vs:=[aE w]) (Dc w) rfl (by decide)
theorem aT.Py {vs:List (List UInt8)}{w:List UInt8}{cl:List cM}{sv sc:Value}(hv:Gw false 1 9 (vs.map aE) sv G)(hc:Gw true 2 55 (cl.map cM.v) sc G'):
 gp 1 kC (.agg ⟨[i64 3,i64 0,i64 0,aE [],az,i64 0,i64 0,aE [],az,az,az,az,sv,aE w,sc,aE [],az]⟩) (z8 ⟨vs,w,cl⟩) (G++G'):=by
 show gp 1 kC _ (aT.v _) _
 rw[aT.bk]
 have:=eL.cons (p:=(4,42)) (cs:=[i64 3,i64 0,i64 0,aE [],az,i64 0,i64 0,aE [],az,az,az,az,sv,aE w,sc,aE [],az]) rfl (iU (n:=1)) (eL.cons (p:=(8,41)) rfl tG (eL.cons (p:=(9,42)) rfl iU (eL.cons (p:=(10,24)) rfl m4 (eL.cons (p:=(11,48)) rfl tH (eL.cons (p:=(12,49)) rfl hv.Sp (eL.cons (p:=(14,50)) rfl hc.R7 (eL.cons (p:=(16,53)) rfl tI eL.nil)))))))
 simp only[List.append_nil,List.nil_append]at this
 exact gp.of this
theorem MP (hL:L.length<=100000){vs:List (List UInt8)}{w:List UInt8}{sv:Value}(hv:Gw false 1 9 (vs.map aE) sv G'):∀(m:Nat),(∀j,j<m->bw 104 L cM.v (ps L j).dS)->∀(l:List cM) (k:Nat) (sl:Value) (G:List Bx) (o:iY Data) (z:List Value) (x0 x1 nx:Nat) (H:Go.Ev.T OB),l.length+m<=90010->Gw true 2 55 (l.map cM.v) sl G->z.length=17->
 bd ((ps L m).fk l k) (λl k=>yes ⟨vs,w,l⟩ k)=some o->Hp nx0 H0 (cD bp L k::(x1,[sv,aE w,sl],52)::(x0,z,57)::(G'++(G++F))) H nx->
 aK P pl X0 (.jump (mC (ptr bp) (ptr x0) (ptr x1) H nx)) nx0 H0 (End nx0 H0 bp L F z8 o)
 | 0,_,l,k,sl,G,o,z,x0,x1,nx,H,hm,hG,hz,ho,h=>by cases ho
 | m+1,hp,l,k,sl,G,o,z,x0,x1,nx,H,hm,hG,hz,ho,h=>by
   have ho:bd (g_ L (ps L m) l k) (λl k=>yes ⟨vs,w,l⟩ k)=some o:=ho
   unfold g_ at ho
   refine Wq.jmp (I9 ..) (λ_=>rfl) ?_
   refine Sq.take hL h (λhi H1 aC h1=> ?_) (λhi H1 aC h1=> ?_)
   . rw[if_pos hi,hP]at ho
     simp only[af,av (off:=2) (u:=sl) (h1.at_ 1 rfl) uB rfl]
     refine Sq.call (hp m (Nat.lt_succ_self m)) rfl h1 ho λc k' H2 nx2 _ ho2 h2=> ?_
     simp only[af,av (off:=2) (u:=sl) (h2.at_ 1 rfl) uB rfl,bj]
     refine Hq.wo c.cs c.len h2 λx H3 nx3 h3=> ?_
     simp only[af,av (off:=2) (u:=sl) (h3.at_ 2 rfl) uB rfl,bj]
     refine Hq.Mt (_::_::G') (x:=c) (by omega) hG h3 λsl' G1 H4 nx4 hG1 h4=> ?_
     refine Hq.put [_] h4 FM (by rcases hG1.2 with⟨_,rfl,_⟩ | ⟨b,c,rfl,_⟩<;>rfl) (ck hG1) (by simp) rfl λH5 h5=> ?_
     exact MP hL hv m (λj hj=>hp j (by omega)) (l++[c]) k' sl' G1 o z x0 x1 nx4 H5 (by rw[List.length_append];simp;omega) hG1 hz ho2 h5
   . rw[if_neg (by rw[hi];simp),eG]at ho
     have hb:aw P 57 (some [(0,i64 3),(4,.agg ⟨[sv,aE w,sl]⟩)])=some (.agg ⟨[i64 3,i64 0,i64 0,aE [],az,i64 0,i64 0,aE [],az,az,az,az,sv,aE w,sl,aE [],az]⟩):=C8 ..
     simp only[af,Mw (h1.at_ 1 rfl) rfl,hb]
     have h5:Hp nx0 H0 (cD bp L k::(x0,z,57)::((G'++G)++F)) H1 aC:=by
      rw[List.append_assoc]
      exact(Hp.mv [_] h1).sub (by simp)
     exact Hq.fin h5 di fe iR hz rfl (by simp[ck hG,ck hv]) (aT.Py hv hG) (by omega) λH9 nx9 h9=>End.ret ho rfl h9
theorem HT (hL:L.length<=100000){n:Nat}(hn:n<=90000)(hp:∀j,j<=n->bw 104 L cM.v (ps L j).dS){vs:List (List UInt8)}{sv:Value}{z:List Value}{x0 x1:Nat}{o:iY Data}(hv:Gw false 1 9 (vs.map aE) sv G')(hz:z.length=17)
 (ho:bo L 3 k (λt k=>aS L [61] k λk=>bd ((ps L n).dS k) λc k=>bd (g_ L (ps L n) [c] k) λl k=>yes (Data.mk vs t.s l) k)=some o) (h:Hp nx0 H0 (cD bp L k::(x1,[sv,aE [],az],52)::(x0,z,57)::(G'++F)) H nx):
 aK P pl X0 (aN P pl (oU (ptr bp) (ptr x0) (ptr x1) H nx)) nx0 H0 (End nx0 H0 bp L F z8 o):=by
 rw[Ck]
 refine Sq.word (by decide) hL h ho λH1 aC _ ho h1=> ?_
 simp only[af]
 refine Hq.put [_] h1 ke rfl rfl (by simp) rfl λH2 h2=> ?_
 refine Sq.jQ hL h2 ho λH3 nx3 _ ho h3=> ?_
 refine Sq.call (hp n (Nat.le_refl n)) rfl h3 ho λc k' H4 nx4 _ ho h4=> ?_
 refine Hq.wo c.cs c.len h4 λx H5 nx5 h5=> ?_
 refine Hq.put [_,_] h5 FM rfl rfl (by simp) rfl λH6 h6=> ?_
 have h7:Hp nx0 H0 (cD bp L k'::(x1,[sv,aE (tk L k).s,gq x 1 1],52)::(x0,z,57)::(G'++([(x,c.cs,55)]++F))) H6 nx5:=h6.perm (List.Perm.cons _ ((List.Perm.swap _ _ _).trans (List.Perm.cons _ ((List.Perm.swap _ _ _).trans (List.Perm.cons _ List.perm_middle.symm)))))
 exact MP hL hv (n+1) (λj hj=>hp j (by omega)) [c] k' (gq x 1 1) [(x,c.cs,55)] o z x0 x1 nx5 H6 (show 1+(n+1)<=90010 by omega) (Gw.jA c.fD) hz ho h7
theorem MQ (hL:L.length<=100000){n:Nat}(hn:n<=90000)(hp:∀j,j<=n->bw 104 L cM.v (ps L j).dS):∀(m:Nat) (l:List (List UInt8)) (k:Nat) (sl:Value) (G:List Bx) (o:iY Data) (z:List Value) (x0 x1 nx:Nat) (H:Go.Ev.T OB),l.length+m<=90010->Gw false 1 9 (l.map aE) sl G->z.length=17->
 bd ((ps L m).fj l k) (λl k=>aS L [41] k λk=>bo L 3 k λt k=>aS L [61] k λk=>bd ((ps L n).dS k) λc k=>bd (g_ L (ps L n) [c] k) λcl k=>yes (Data.mk l t.s cl) k)=some o->Hp nx0 H0 (cD bp L k::(x1,[sl,aE [],az],52)::(x0,z,57)::(G++F)) H nx->
 aK P pl X0 (.jump (oV (ptr bp) (ptr x0) (ptr x1) H nx)) nx0 H0 (End nx0 H0 bp L F z8 o)
 | 0,l,k,sl,G,o,z,x0,x1,nx,H,hm,hG,hz,ho,h=>by cases ho
 | m+1,l,k,sl,G,o,z,x0,x1,nx,H,hm,hG,hz,ho,h=>by
   have ho:bd (mL L (ps L m) l k) (λl k=>aS L [41] k λk=>bo L 3 k λt k=>aS L [61] k λk=>bd ((ps L n).dS k) λc k=>bd (g_ L (ps L n) [c] k) λcl k=>yes (Data.mk l t.s cl) k)=some o:=ho
   unfold mL at ho
   refine Wq.jmp (I8 ..) (λ_=>rfl) ?_
   refine Sq.take hL h (λhi H1 aC h1=> ?_) (λhi H1 aC h1=> ?_)
   . rw[if_pos hi]at ho
     have ho:bo L 5 (k+1) (λt k=>bd ((ps L m).fj (l++[t.s]) k) (λl k=>aS L [41] k λk=>bo L 3 k λt k=>aS L [61] k λk=>bd ((ps L n).dS k) λc k=>bd (g_ L (ps L n) [c] k) λcl k=>yes (Data.mk l t.s cl) k))=some o:=by
      rw[<- ho]
      unfold bo
      split<;>rfl
     simp only[af,av (off:=0) (u:=sl) (h1.at_ 1 rfl) gg rfl]
     refine Sq.word (by decide) hL h1 ho λH2 nx2 _ ho2 h2=> ?_
     simp only[af,av (off:=0) (u:=sl) (h2.at_ 1 rfl) gg rfl,bj]
     refine Hq.k_ (tk L (k+1)).s h2 λx H3 nx3 h3=> ?_
     simp only[af,av (off:=0) (u:=sl) (h3.at_ 2 rfl) gg rfl,bj]
     refine Hq.Dd [_,_] (w:=(tk L (k+1)).s) (by omega) hG h3 λsl' G1 H4 nx4 hG1 h4=> ?_
     refine Hq.put [_] h4 tv (by rcases hG1.2 with⟨_,rfl,_⟩ | ⟨b,c,rfl,_⟩<;>rfl) (ck hG1) (by simp) rfl λH5 h5=> ?_
     exact MQ hL hn hp m (l++[(tk L (k+1)).s]) (k+1+1) sl' G1 o z x0 x1 nx4 H5 (by rw[List.length_append];simp;omega) hG1 hz ho2 h5
   . rw[if_neg (by rw[hi];simp),eG]at ho
     simp only[af]
     refine Sq.jQ hL h1 ho λH2 nx2 _ ho h2=> ?_
     have:=HT hL hn hp hG hz ho h2
     rw[Ck]at this
     exact this
theorem Ss (hL:L.length<=100000){n:Nat}(hn:n<=90000)(hp:∀j,j<=n->bw 104 L cM.v (ps L j).dS):bw 103 L z8 (ps L (n+1)).data:=by
 intro nx0 nx H0 H bp F k o ho h
 have ho:mM L (ps L n) k=some o:=ho
 unfold mM ow at ho
 rw[Tp]
 refine Hq.alloc cJ h λx0 H1 aC h1=> ?_
 refine Hq.alloc oT h1 λx1 H2 nx2 h2=> ?_
 refine Sq.now h2 λH3 nx3 h3=> ?_
 refine Sq.CS h3 λH4 nx4 h4=> ?_
 simp only[af]
 refine Wq.ite (λhi=> ?_) (λhi=> ?_)
 . rw[if_pos hi,eG]at ho
   simp only[af,pk h4,dq hL (fP (show(tk L k).k≠0 by omega))]
   refine dI h4 λH5 h5=> ?_
   refine Hq.k_ (tk L k).s h5 λx H6 nx6 h6=> ?_
   refine Hq.put [_,_] h6 tv rfl rfl (by simp) rfl λH7 h7=> ?_
   exact Wq.jump (λ_=>rfl) (HT hL hn hp (G':=[(x,[aE (tk L k).s],9)]) (Gw.Sr _) rfl ho (Hp.mZ h7))
 rw[if_neg hi]at ho
 refine Sq.take hL h4 (λhi H5 nx5 h5=> ?_) (λhi H5 nx5 h5=> ?_)
 . rw[if_pos hi]at ho
   have ho:bo L 5 (k+1) (λt k=>bd (mL L (ps L n) [t.s] k) λl k=>aS L [41] k λk=>bo L 3 k λt k=>aS L [61] k λk=>bd ((ps L n).dS k) λc k=>bd (g_ L (ps L n) [c] k) λcl k=>yes (Data.mk l t.s cl) k)=some o:=by
    rw[<- ho]
    unfold bo
    split
    . rw[hP]
      show bd (mL L (ps L n) [(tk L (k+1)).s] (k+1+1)) _=bd (mL L (ps L n) [(tk L (k+1)).s] (k+1+1)) _
      refine congrArg (bd (mL L (ps L n) [(tk L (k+1)).s] (k+1+1))) ?_
      funext l k
      unfold aS
      split<;>rfl
    . rfl
   simp only[af]
   refine Sq.word (by decide) hL h5 ho λH6 nx6 _ ho h6=> ?_
   simp only[af]
   refine Hq.k_ (tk L (k+1)).s h6 λx H7 nx7 h7=> ?_
   refine Hq.put [_,_] h7 tv rfl rfl (by simp) rfl λH8 h8=> ?_
   exact MQ hL hn hp (n+1) [(tk L (k+1)).s] (k+1+1) (gq x 1 1) [(x,[aE (tk L (k+1)).s],9)] o _ x0 x1 nx7 H8 (show 1+(n+1)<=90010 by omega) (Gw.Sr _) rfl ho (Hp.mZ h8)
 . rw[if_neg (by rw[hi];simp),eG]at ho
   simp only[af]
   exact Wq.jump (λ_=>rfl) (HT hL hn hp (G':=[]) (Gw.nil _ _ _) rfl ho h5)
end
section
variable {L:List Tok}
structure US (L:List Tok)(p:PS):Prop where
 exp:bw 61 L aF.v p.exp
 fA:Ky L p.fA
 bin:HI L p.bin
 un:bw 151 L aF.v p.un
 atom:bw 178 L aF.v p.atom
 lt:bw 188 L aF.v p.lt
 pat:bw 148 L aZ.v p.pat
 bl:bw 177 L aZ.v p.bl
 dH:bw 147 L bg.v p.dH
 post:bw 175 L bg.v p.post
 dS:bw 104 L cM.v p.dS
 bind:bw 105 L gL p.bind
 fn:bw 149 L Fn.v p.fn
 dec:bw 60 L gL p.dec
 data:bw 103 L z8 p.data
theorem bw.none {α:Type}{f:FuncId}{vf:α->Value}:bw f L vf (λ_=> .none):=λnx0 nx H0 H bp F k o ho _=>by cases ho
theorem Pz (hL:L.length<=100000):∀n,n<=90001->∀j,j<=n->US L (ps L j)
 | 0,_,j,hj=>by
   have:j=0:=by omega
   subst this
   exact⟨bw.none,λnx0 nx H0 H bp F G k o kk l sl hl hG ho h=>(by cases ho),λlv nx0 nx H0 H bp F k o hl ho h=>(by cases ho),bw.none,bw.none,bw.none,bw.none,bw.none,bw.none,bw.none,bw.none,bw.none,bw.none,bw.none,bw.none⟩
 | n+1,hn,j,hj=>by
   have ih:=Pz hL n (by omega)
   by_cases hjn:j<=n
   . exact ih j hjn
   . have:j=n+1:=by omega
     subst this
     have i:=ih n (Nat.le_refl n)
     have hn':n<=90000:=by omega
     exact {
      exp:=UN hL i.exp i.fA λnx0 nx H0 H bp F k o=>i.bin 0 nx0 nx H0 H bp F k o (by omega)
      fA:=Sc hL hn' (λj hj=>(ih j hj).pat) (λj hj=>(ih j hj).exp)
      bin:=Se hL hn' (λj hj=>(ih j hj).bin) i.un
      un:=Sf hL hn' (λj hj=>(ih j hj).atom) i.un
      atom:=Sh hL hn' (λj hj=>(ih j hj).exp) i.lt
      lt:=Sk hL hn' (λj hj=>(ih j hj).exp) (λj hj=>(ih j hj).bind)
      pat:=Sa hL i.bl i.pat
      bl:=Sb hL hn' (λj hj=>(ih j hj).pat)
      dH:=R8 hL hn' (λj hj=>(ih j hj).post) i.dH
      post:=R9 hL hn' (λj hj=>(ih j hj).dH)
      dS:=R_ hL i.dH
      bind:=Sm hL hn' i.pat i.exp (λj hj=>(ih j hj).fn)
      fn:=Sl hL hn' (λj hj=>(ih j hj).bl) i.exp
      dec:=UO hL i.data i.dS i.bind
      data:=Ss hL hn' (λj hj=>(ih j hj).dS) }
theorem UT (hL:L.length<=100000){n:Nat}(hn:n<=90000):bw 35 L bP ((ps L n).bM []):=by
 intro nx0 nx H0 H bp F k o ho h
 rw[VE]
 exact Sn hL n (λj hj=>(Pz hL n (by omega) j (by omega)).dec) (λj hj=>(Pz hL n (by omega) j (by omega)).exp) [] [] k az [] o nx H (by simp;omega) (Gw.nil _ _ _) iB.nil rfl ho h
end
section
variable {nx0 nx nx' bp k:Nat}{H0 H H':T OB}{F A B G G':List Bx}{R:Go.Ev.Out->T OB->Nat->Prop}{b:Nat}{l:List Value}{e t:TypeId}{L:List Tok}{s s':bx}{w:List UInt8}
abbrev bZ (bp:Nat)(L:List Tok)(s:bx):Bx:=(bp,[dm L,i64 (s.1:Int),.bool s.2.isSome,i64 (s.2.getD 0)],77)
theorem PB (h:Hp nx0 H0 (bZ bp L s::F) H nx):ae P H 3 (some (.pointer (some ⟨bp,1,none⟩)))=some (i64 (s.1:Int)):=av (h.at_ 0 rfl) od rfl
theorem Wh (h:Hp nx0 H0 (bZ bp L s::F) H nx):ae P H 29 (some (.pointer (some ⟨bp,0,none⟩)))=some (dm L):=av (h.at_ 0 rfl) FL rfl
theorem rX (h:Hp nx0 H0 (bZ bp L s::F) H nx):ae P H 4 (some (.pointer (some ⟨bp,2,none⟩)))=some (.bool s.2.isSome):=av (h.at_ 0 rfl) Q0 rfl
theorem Vi (h:Hp nx0 H0 (bZ bp L s::F) H nx):ae P H 3 (some (.pointer (some ⟨bp,3,none⟩)))=some (i64 (s.2.getD 0)):=av (h.at_ 0 rfl) od rfl
theorem iV {kt:Value->T OB->Nat->Q}(h:Hp nx0 H0 (bZ bp L s::F) H nx)(hk:∀H',Hp nx0 H0 (bZ bp L (aC s)::F) H' nx->aK P pl X0 (kt undef H' nx) nx0 H0 R):aK P pl X0 (ak (ai P H nx 3 (some (.pointer (some ⟨bp,1,none⟩))) (some (i64 ((s.1:Int)+1)))) kt) nx0 H0 R:=
 Hq.put [] h zu rfl rfl (by simp) rfl λH' h'=>hk H' h'
theorem kD (o:Option Int):(!o.isSome)=o.isNone:=by cases o<;>rfl
theorem PC (h:Hp nx0 H0 (bZ bp L s::F) H nx):aK P pl X0 (aN P pl (.call 37 [ptr bp] false none H nx)) nx0 H0 (λo H nx=>o= .ret (tk L s.1).v/\Hp nx0 H0 (bZ bp L s::F) H nx):=by
 rw[VG]
 refine Hq.alloc e8 h λx0 H1 aC h1=> ?_
 simp only[af,PB h1,Wh h1,List.length_map]
 refine Wq.ite (λhlt=> ?_) (λhge=> ?_)
 . have hlt':s.1<L.length:=by omega
   have hg:L[s.1]? = some L[s.1]:=List.getElem?_eq_getElem hlt'
   have hx:(L.map Tok.v)[s.1]? = some L[s.1].v:=by simp[hg]
   simp only[af,tq hx]
   refine Hq.store [bZ bp L s] h1 fT (by simp) rfl rfl λH2 h2=> ?_
   simp only[af,zN (h2.at_ 1 rfl)]
   refine dn ?_ h2.ko
   show _=(tk L s.1).v
   unfold tk
   rw[hg]
   rfl
 . refine Hq.store [bZ bp L s] h1 fT (by simp) rfl rfl λH2 h2=> ?_
   simp only[af,zN (h2.at_ 1 rfl)]
   refine dn ?_ h2.ko
   show _=(tk L s.1).v
   unfold tk
   rw[List.getElem?_eq_none (by omega)]
   rfl
theorem Rq.now {kt p:Value->T OB->Nat->Q}(h:Hp nx0 H0 (bZ bp L s::F) H nx)(hk:∀H' nx',Hp nx0 H0 (bZ bp L s::F) H' nx'->aK P pl X0 (kt (tk L s.1).v H' nx') nx0 H0 R):aK P pl X0 (ah (.call 37 [ptr bp] false none H nx) kt p) nx0 H0 R:=Sq.dP rfl (PC h) hk
theorem KG (h:Hp nx0 H0 (bZ bp L s::F) H nx):aK P pl X0 (aN P pl (.call 123 [ptr bp] false none H nx)) nx0 H0 (λo H nx=>o= .ret (.tuple ⟨[]⟩)/\Hp nx0 H0 (bZ bp L (mO L s)::F) H nx):=by
 obtain⟨k,o⟩:=s
 rw[TJ]
 simp only[af,rX h]
 cases o with
 | some a=>
   simp only[af,Option.isSome_some,Bool.not_true]
   exact gD h
 | none=>
   simp only[af,Option.isSome_none,Bool.not_false]
   refine Hq.put [] h Tk rfl rfl (by simp) rfl λH1 h1=> ?_
   have h1:Hp nx0 H0 ((bp,[dm L,i64 (k:Int),.bool true,i64 0],77)::F) H1 nx:=h1
   have h2:Hp nx0 H0 (bZ bp L (k,some 0)::F) H1 nx:=h1
   refine Rq.now h2 λH3 nx3 h3=> ?_
   simp only[af]
   refine Hq.put [] h3 zu rfl rfl (by simp) rfl λH4 h4=> ?_
   exact gD h4
theorem Rq.fail {kt p:Value->T OB->Nat->Q}(h:Hp nx0 H0 (bZ bp L s::F) H nx)(hk:∀H' nx',Hp nx0 H0 (bZ bp L (mO L s)::F) H' nx'->aK P pl X0 (kt (.tuple ⟨[]⟩) H' nx') nx0 H0 R):aK P pl X0 (ah (.call 123 [ptr bp] false none H nx) kt p) nx0 H0 R:=Sq.dP rfl (KG h) hk
theorem PD (w:List UInt8)(h:Hp nx0 H0 (bZ bp L s::F) H nx):aK P pl X0 (aN P pl (.call 71 [ptr bp,aE w] false none H nx)) nx0 H0 (λo H nx=>o= .ret (.bool (cu L w s))/\Hp nx0 H0 (bZ bp L s::F) H nx):=by
 rw[V4]
 refine Rq.now h λH1 aC h1=> ?_
 refine Sq.CS h1 λH2 nx2 h2=> ?_
 simp only[af,rX h2,kD]
 unfold cu dD jr
 cases hn:s.2.isNone with
 | false=>simp only[af];exact dn (by simp) h2
 | true=>
   simp only[af]
   refine Wq.ite (λhi=> ?_) (λhi=> ?_)
   . refine dn ?_ h2
     rw[hi,CT];rfl
   . refine Wq.ite (λhj=> ?_) (λhj=> ?_)
     . refine dn ?_ h2
       rw[hj,CT];rfl
     . refine dn ?_ h2
       simp[hi,hj]
theorem Rq.is {kt p:Value->T OB->Nat->Q}(h:Hp nx0 H0 (bZ bp L s::F) H nx)(hk:∀H' nx',Hp nx0 H0 (bZ bp L s::F) H' nx'->aK P pl X0 (kt (.bool (cu L w s)) H' nx') nx0 H0 R):aK P pl X0 (ah (.call 71 [ptr bp,aE w] false none H nx) kt p) nx0 H0 R:=Sq.dP rfl (PD w h) hk
theorem PE (h:cu L w s=true):s.1<L.length:=by
 unfold cu at h
 rw[Bool.and_eq_true]at h
 exact jw h.2
theorem PF (h:cu L w s=true):s.2=none:=by
 unfold cu at h
 rw[Bool.and_eq_true]at h
 exact Option.isNone_iff_eq_none.1 h.1
theorem HU (w:List UInt8)(hL:L.length<=100000)(h:Hp nx0 H0 (bZ bp L s::F) H nx):aK P pl X0 (aN P pl (.call 40 [ptr bp,aE w] false none H nx)) nx0 H0 (λo H nx=>o= .ret (.bool (cu L w s))/\Hp nx0 H0 (bZ bp L (iS L w s)::F) H nx):=by
 rw[VJ]
 refine Rq.is h λH1 aC h1=> ?_
 unfold iS
 cases hi:cu L w s with
 | false=>
   simp only[af]
   refine Wq.jmp (F6 ..) (λ_=>rfl) ?_
   exact gD (by simpa using h1)
 | true=>
   simp only[af,PB h1,dq hL (PE hi)]
   refine iV h1 λH2 h2=> ?_
   refine Wq.jmp (F6 ..) (λ_=>rfl) ?_
   exact gD (by simpa using h2)
theorem Rq.MR {kt p:Value->T OB->Nat->Q}(hL:L.length<=100000)(h:Hp nx0 H0 (bZ bp L s::F) H nx)(hk:∀b H' nx',Hp nx0 H0 (bZ bp L (iS L w s)::F) H' nx'->aK P pl X0 (kt (.bool b) H' nx') nx0 H0 R):aK P pl X0 (ah (.call 40 [ptr bp,aE w] false none H nx) kt p) nx0 H0 R:=Sq.dP rfl (HU w hL h) λH' nx' h'=>hk _ H' nx' h'
theorem Rq.take {kt p:Value->T OB->Nat->Q}(hL:L.length<=100000)(h:Hp nx0 H0 (bZ bp L s::F) H nx)(ht:cu L w s=true->∀H' nx',Hp nx0 H0 (bZ bp L (aC s)::F) H' nx'->aK P pl X0 (kt (.bool true) H' nx') nx0 H0 R)
 (hf:¬cu L w s=true->∀H' nx',Hp nx0 H0 (bZ bp L s::F) H' nx'->aK P pl X0 (kt (.bool false) H' nx') nx0 H0 R):aK P pl X0 (ah (.call 40 [ptr bp,aE w] false none H nx) kt p) nx0 H0 R:=
 Sq.dP rfl (HU w hL h) λH' nx' h'=>by
  unfold iS at h'
  cases hi:cu L w s with
  | true=>rw[hi,if_pos rfl]at h';exact ht hi H' nx' h'
  | false=>rw[hi,if_neg (by simp)]at h';exact hf (by rw[hi];simp) H' nx' h'
theorem PG (w:List UInt8)(hL:L.length<=100000)(h:Hp nx0 H0 (bZ bp L s::F) H nx):aK P pl X0 (aN P pl (.call 68 [ptr bp,aE w] false none H nx)) nx0 H0 (λo H nx=>o= .ret (.tuple ⟨[]⟩)/\Hp nx0 H0 (bZ bp L (dT L w s)::F) H nx):=by
 rw[V1]
 unfold dT
 refine Rq.take hL h (λhi H1 aC h1=> ?_) (λhi H1 aC h1=> ?_)
 . simp only[af]
   rw[if_pos hi]
   exact gD h1
 . simp only[af]
   rw[if_neg hi]
   exact Rq.fail h1 λH2 nx2 h2=>gD h2
theorem Rq.aS {kt p:Value->T OB->Nat->Q}(hL:L.length<=100000)(h:Hp nx0 H0 (bZ bp L s::F) H nx)(hk:∀H' nx',Hp nx0 H0 (bZ bp L (dT L w s)::F) H' nx'->aK P pl X0 (kt (.tuple ⟨[]⟩) H' nx') nx0 H0 R):aK P pl X0 (ah (.call 68 [ptr bp,aE w] false none H nx) kt p) nx0 H0 R:=Sq.dP rfl (PG w hL h) hk
theorem tL {c:Int}(hc:c≠0)(h:cc L c s=true):s.1<L.length:=by
 unfold cc at h
 rw[Bool.and_eq_true,decide_eq_true_eq]at h
 exact fP (by rw[h.2];exact hc)
abbrev yL (L:List Tok)(c:Int)(s:bx):List UInt8:=if cc L c s=true then(tk L s.1).s else[]
abbrev Ey (L:List Tok)(c:Int)(s:bx):bx:=if cc L c s=true then aC s else mO L s
theorem KH (c:Int)(hL:L.length<=100000)(hc:c≠0)(h:Hp nx0 H0 (bZ bp L s::F) H nx):aK P pl X0 (aN P pl (.call 119 [ptr bp,i64 c] false none H nx)) nx0 H0 (λo H nx=>o= .ret (aE (yL L c s))/\Hp nx0 H0 (bZ bp L (Ey L c s)::F) H nx):=by
 rw[TE]
 refine Rq.now h λH1 aC h1=> ?_
 refine Sq.CS h1 λH2 nx2 h2=> ?_
 simp only[af,rX h2]
 have J:∀b,cc L c s= !b->aK P pl X0 (.jump (vj (ptr bp) (aj (tk L s.1).v) b H2 nx2)) nx0 H0 (λo H nx=>o= .ret (aE (yL L c s))/\Hp nx0 H0 (bZ bp L (Ey L c s)::F) H nx):=by
  intro b hb
  refine Wq.jmp (NQ ..) (λ_=>rfl) ?_
  unfold yL Ey
  cases b with
  | true=>
    rw[hb,Bool.not_true,if_neg (by simp),if_neg (by simp)]
    simp only[af]
    exact Rq.fail h2 λH3 nx3 h3=>gD h3
  | false=>
    have hr:cc L c s=true:=hb
    rw[if_pos hr,if_pos hr]
    simp only[af,PB h2,dq hL (tL hc hr)]
    refine iV h2 λH3 h3=> ?_
    exact gD h3
 unfold cc at J
 cases hs:s.2 with
 | some a=>
   rw[hs]at J
   simp only[af,Option.isSome_some]
   exact J true (by simp)
 | none=>
   rw[hs]at J
   simp only[af,Option.isSome_none]
   exact J _ (by simp)
theorem Rq.kind {c:Int}{kt p:Value->T OB->Nat->Q}(hc:c≠0)(hL:L.length<=100000)(h:Hp nx0 H0 (bZ bp L s::F) H nx)(hk:∀H' nx',Hp nx0 H0 (bZ bp L (Ey L c s)::F) H' nx'->aK P pl X0 (kt (aE (yL L c s)) H' nx') nx0 H0 R):aK P pl X0 (ah (.call 119 [ptr bp,i64 c] false none H nx) kt p) nx0 H0 R:=Sq.dP rfl (KH c hL hc h) hk
theorem KI (h:Hp nx0 H0 (bZ bp L s::F) H nx):aK P pl X0 (aN P pl (.call 189 [ptr bp] false none H nx)) nx0 H0 (λo H nx=>o= .ret (.bool (jS L s))/\Hp nx0 H0 (bZ bp L s::F) H nx):=by
 rw[Ue]
 simp only[af,rX h,kD]
 unfold jS iC
 cases hn:s.2.isNone with
 | false=>
   simp only[af]
   refine Rq.is h λH1 aC h1=> ?_
   unfold cu
   rw[hn]
   simp only[af]
   exact gD h1
 | true=>
   simp only[af]
   refine Rq.now h λH1 aC h1=> ?_
   simp only[af]
   refine Wq.ite (λhi=> ?_) (λhi=> ?_)
   . exact dn (by simp[hi]) h1
   . refine Rq.is h1 λH2 nx2 h2=> ?_
     unfold cu
     rw[hn]
     simp only[af]
     exact dn (by simp[hi]) h2
theorem Rq.OU {kt p:Value->T OB->Nat->Q}(h:Hp nx0 H0 (bZ bp L s::F) H nx)(hk:∀H' nx',Hp nx0 H0 (bZ bp L s::F) H' nx'->aK P pl X0 (kt (.bool (jS L s)) H' nx') nx0 H0 R):aK P pl X0 (ah (.call 189 [ptr bp] false none H nx) kt p) nx0 H0 R:=Sq.dP rfl (KI h) hk
theorem KJ (h:jS L s=true):s.1<L.length:=by
 unfold jS at h
 rw[Bool.and_eq_true]at h
 exact pB h.2
abbrev KK (L:List Tok)(s:bx):List UInt8:=if jS L s=true then(tk L s.1).s else[]
abbrev KL (L:List Tok)(s:bx):bx:=if jS L s=true then aC s else mO L s
theorem KM (hL:L.length<=100000)(h:Hp nx0 H0 (bZ bp L s::F) H nx):aK P pl X0 (aN P pl (.call 190 [ptr bp] false none H nx)) nx0 H0 (λo H nx=>o= .ret (aE (KK L s))/\Hp nx0 H0 (bZ bp L (KL L s)::F) H nx):=by
 rw[Uf]
 refine Rq.now h λH1 aC h1=> ?_
 simp only[af]
 refine Rq.OU h1 λH2 nx2 h2=> ?_
 unfold KK KL
 cases hi:jS L s with
 | false=>
   simp only[af]
   exact Rq.fail h2 λH3 nx3 h3=>gD h3
 | true=>
   simp only[af,PB h2,dq hL (KJ hi)]
   refine iV h2 λH3 h3=> ?_
   exact gD h3
theorem Rq.name {kt p:Value->T OB->Nat->Q}(hL:L.length<=100000)(h:Hp nx0 H0 (bZ bp L s::F) H nx)(hk:∀H' nx',Hp nx0 H0 (bZ bp L (KL L s)::F) H' nx'->aK P pl X0 (kt (aE (KK L s)) H' nx') nx0 H0 R):aK P pl X0 (ah (.call 190 [ptr bp] false none H nx) kt p) nx0 H0 R:=Sq.dP rfl (KM hL h) hk
theorem Rq.Su {kt p:Value->T OB->Nat->Q}(w:List UInt8)(h:Hp nx0 H0 (bZ bp L s::F) H nx)(hs:s.2.isNone=true)(hk:∀H' nx',Hp nx0 H0 (bZ bp L s::F) H' nx'->aK P pl X0 (kt (.bool (dD L s.1 w)) H' nx') nx0 H0 R):aK P pl X0 (ah (.call 71 [ptr bp,aE w] false none H nx) kt p) nx0 H0 R:=
 Rq.is h λH' nx' h'=>by unfold cu;rw[hs,Bool.true_and];exact hk H' nx' h'
theorem KN (hs:s.2.isNone=true)(h:Hp nx0 H0 (bZ bp L s::F) H nx):aK P pl X0 (aN P pl (.call 197 [ptr bp] false none H nx)) nx0 H0 (λo H nx=>o= .ret (.bool (lb L s.1))/\Hp nx0 H0 (bZ bp L s::F) H nx):=by
 rw[Ul]
 refine Rq.now h λH1 aC h1=> ?_
 simp only[af]
 unfold lb js
 refine Wq.ite (λhi=>dn (by simp[hi]) h1) (λhi=> ?_)
 refine Wq.ite (λhj=>dn (by simp[hj]) h1) (λhj=> ?_)
 refine Wq.ite (λhk=>dn (by simp[hk]) h1) (λhk=> ?_)
 refine Wq.ite (λhl=>dn (by simp[hl]) h1) (λhl=> ?_)
 refine Rq.Su [40] h1 hs λH2 nx2 h2=> ?_
 cases hm:dD L s.1 [40]with
 | true=>simp only[af];exact dn (by simp) h2
 | false=>
   simp only[af]
   refine Rq.Su [108,101,116] h2 hs λH3 nx3 h3=> ?_
   simp only[af]
   exact dn (by simp[hi,hj,hk,hl]) h3
theorem Rq.UH {kt p:Value->T OB->Nat->Q}(hs:s.2.isNone=true)(h:Hp nx0 H0 (bZ bp L s::F) H nx)(hk:∀H' nx',Hp nx0 H0 (bZ bp L s::F) H' nx'->aK P pl X0 (kt (.bool (lb L s.1)) H' nx') nx0 H0 R):aK P pl X0 (ah (.call 197 [ptr bp] false none H nx) kt p) nx0 H0 R:=Sq.dP rfl (KN hs h) hk
theorem KO (h:Hp nx0 H0 (bZ bp L s::F) H nx):aK P pl X0 (aN P pl (.call 159 [ptr bp] false none H nx)) nx0 H0 (λo H nx=>o= .ret (.bool (ox L s))/\Hp nx0 H0 (bZ bp L s::F) H nx):=by
 rw[T2]
 refine Rq.now h λH1 aC h1=> ?_
 simp only[af,rX h1,kD]
 unfold ox kq js
 cases hs:s.2.isNone with
 | false=>simp only[af];exact dn (by simp) h1
 | true=>
   simp only[af]
   refine Wq.ite (λhi=>dn (by simp[hi]) h1) (λhi=> ?_)
   refine Wq.ite (λhj=>dn (by simp[hj]) h1) (λhj=> ?_)
   refine Wq.ite (λhk=>dn (by simp[hk]) h1) (λhk=> ?_)
   refine Wq.ite (λhl=>dn (by simp[hl]) h1) (λhl=> ?_)
   refine Rq.Su [40] h1 hs λH2 nx2 h2=> ?_
   cases hm:dD L s.1 [40]with
   | true=>simp only[af];exact dn (by simp) h2
   | false=>
     simp only[af]
     refine Rq.Su [95] h2 hs λH3 nx3 h3=> ?_
     cases hn:dD L s.1 [95]with
     | true=>simp only[af];exact dn (by simp) h3
     | false=>
       simp only[af]
       refine Rq.Su [126] h3 hs λH4 nx4 h4=> ?_
       simp only[af]
       exact dn (by simp[hi,hj,hk,hl]) h4
theorem Rq.Ho {kt p:Value->T OB->Nat->Q}(h:Hp nx0 H0 (bZ bp L s::F) H nx)(hk:∀H' nx',Hp nx0 H0 (bZ bp L s::F) H' nx'->aK P pl X0 (kt (.bool (ox L s)) H' nx') nx0 H0 R):aK P pl X0 (ah (.call 159 [ptr bp] false none H nx) kt p) nx0 H0 R:=Sq.dP rfl (KO h) hk
def nJ (L:List Tok)(l:List (List UInt8))(s:bx):List UInt8:=if(s.2.isNone&&(jr L s.1&&l.contains (tk L s.1).s))=true then(tk L s.1).s else[]
theorem pL {l:List (List UInt8)}:nJ L l s=((l.find? λw=>cu L w s).getD []):=by
 unfold nJ
 by_cases hs:s.2.isNone=true
 . by_cases hw:jr L s.1=true
   . have e:∀w,cu L w s=decide ((tk L s.1).s=w):=λw=>by unfold cu dD;rw[hs,hw];simp
     induction l with
     | nil=>simp
     | cons w l ih=>
       rw[List.find?_cons,e w]
       by_cases hq:(tk L s.1).s=w
       . rw[decide_eq_true hq]
         simp[hs,hw,hq]
       . rw[decide_eq_false hq]
         show _=(List.find? (λw=>cu L w s) l).getD []
         rw[<- ih]
         simp only[hs,hw,Bool.true_and,List.contains_cons]
         have:((tk L s.1).s == w)=false:=by simpa using hq
         rw[this,Bool.false_or]
   . have e:l.find? (λw=>cu L w s)=none:=List.find?_eq_none.2 λw _=>by unfold cu dD;simp[hw]
     rw[e]
     simp[hw]
 . have e:l.find? (λw=>cu L w s)=none:=List.find?_eq_none.2 λw _=>by unfold cu;simp[hs]
   rw[e]
   simp[hs]
theorem MS:eB P (some 49)=true:=by kernel_rfl
theorem wz {ws:List (List UInt8)}{n:Nat}{sv:Value}(hn:ws.length=n)(hw:n<100000)(hln:aM P #[49] 3 (some [sv])=some (i64 (n:Int)))
 (hx:∀i w,ws[i]? = some w->∃p,au P 49 (some sv) (some (i64 ((i:Nat):Int)))=some p/\∀H nx,Hp nx0 H0 (bZ bp L s::F) H nx->ae P H 9 (some p)=some (aE w)):∀(d i:Nat) (nx:Nat) (H:Go.Ev.T OB),i+d=n->(∀j,j<i->∀w,ws[j]? = some w->cu L w s=false)->Hp nx0 H0 (bZ bp L s::F) H nx->
 aK P pl X0 (.jump (vD (ptr bp) sv (i64 ((i:Nat):Int)) H nx)) nx0 H0 (λo H nx=>o= .ret (aE (nJ L ws s))/\Hp nx0 H0 (bZ bp L s::F) H nx)
 | 0,i,nx,H,hd,hf,h=>by
   refine Wq.jmp (Gu ..) (λ_=>rfl) ?_
   simp only[af,hln]
   rw[decide_eq_false (by omega)]
   simp only[af]
   refine dn ?_ h
   have:ws.find? (λw=>cu L w s)=none:=by
    rw[List.find?_eq_none]
    intro w hw'
    obtain⟨j,hj,e⟩:=List.getElem_of_mem hw'
    rw[hf j (by omega) w (by rw[List.getElem?_eq_getElem hj,e])]
    simp
   rw[pL,this]
   rfl
 | d+1,i,nx,H,hd,hf,h=>by
   have hi:i<ws.length:=by omega
   have hg:ws[i]? = some ws[i]:=List.getElem?_eq_getElem hi
   obtain⟨p,hp,hl⟩:=hx i ws[i] hg
   refine Wq.jmp (Gu ..) (λ_=>rfl) ?_
   simp only[af,hln]
   rw[decide_eq_true (by omega)]
   simp only[af,hp,hl _ _ h]
   refine Rq.is h λH1 aC h1=> ?_
   cases hr:cu L ws[i] s with
   | true=>
     simp only[af,hp,hl _ _ h1]
     refine dn ?_ h1
     have hs:s.2.isNone=true:=by have:=PF hr;rw[this];rfl
     have hwd:jr L s.1=true/\(tk L s.1).s=ws[i]:=by
      unfold cu dD at hr
      rw[hs,Bool.true_and,Bool.and_eq_true,decide_eq_true_eq]at hr
      exact hr
     unfold nJ
     have hc:ws.contains (tk L s.1).s=true:=by rw[hwd.2];simp
     rw[hs,hwd.1,hc,hwd.2]
     rfl
   | false=>
     simp only[af,aI (i:=i) (by omega)]
     exact wz hn hw hln hx d (i+1) aC H1 (by omega) (λj hj w hw=>by
      rcases Nat.lt_succ_iff_lt_or_eq.1 hj with q | rfl
      . exact hf j q w hw
      . rw[hg]at hw
        cases hw
        exact hr) h1
theorem Rq.De {ws:List (List UInt8)}{n:Nat}{kt p:Value->T OB->Nat->Q}(hn:ws.length=n)(hw:n<100000)(h:Hp nx0 H0 (bZ bp L s::(b,ws.map aE,9)::F) H nx)(hk:∀H' nx',Hp nx0 H0 (bZ bp L s::F) H' nx'->aK P pl X0 (kt (aE (nJ L ws s)) H' nx') nx0 H0 R):aK P pl X0 (ah (.call 192 [ptr bp,.slice (some ⟨b,0,none⟩) n n] false none H nx) kt p) nx0 H0 R:=
 Sq.dP rfl (F':=bZ bp L s::(b,ws.map aE,9)::F) (by
  rw[Ra]
  exact wz hn hw (dN MS) (λi w hg=>⟨_,gW (s:=1) (by kernel_rfl) (by have:=(List.getElem?_eq_some_iff.1 hg).1;omega) .i64,λH nx h=>av (h.at_ 1 rfl) tu (by simp[hg])⟩) n 0 nx H (by omega) (λj hj=>by omega) h) λH' nx' h'=>hk H' nx' h'.ko
theorem Rq.UU {ws:List (List UInt8)}{kt p:Value->T OB->Nat->Q}(hw:ws.length<100000)(h:Hp nx0 H0 (bZ bp L s::F) H nx)(hk:∀H' nx',Hp nx0 H0 (bZ bp L s::F) H' nx'->aK P pl X0 (kt (aE (nJ L ws s)) H' nx') nx0 H0 R):aK P pl X0 (ah (.call 192 [ptr bp,fW ws] false none H nx) kt p) nx0 H0 R:=
 Sq.dP rfl (F':=bZ bp L s::F) (by
  rw[Ra]
  exact wz rfl hw (by rw[dM 1 _ MS,List.length_map]) (λi w hg=>⟨_,xW (u:=aE w) (by simp[hg]) .i64,λH nx h=>by rw[Nt];rfl⟩) ws.length 0 nx H (by omega) (λj hj=>by omega) h) λH' nx' h'=>hk H' nx' h'
end
section
variable {nx0 nx nx' bp k:Nat}{H0 H H':T OB}{F A B G G':List Bx}{R:Go.Ev.Out->T OB->Nat->Prop}{b:Nat}{l:List Value}{e t:TypeId}{L:List Tok}{s s':bx}{w:List UInt8}{x:Bx}
abbrev bq {α:Type}(nx0:Nat)(H0:T OB)(bp:Nat)(L:List Tok)(F:List Bx)(vf:α->Value)(o:α×bx):Go.Ev.Out->T OB->Nat->Prop:=λq H nx=>q= .ret (vf o.1)/\Hp nx0 H0 (bZ bp L o.2::F) H nx
def aX {α:Type}(f:FuncId)(L:List Tok)(vf:α->Value)(r:bx->RR α):Prop:=∀nx0 nx H0 H bp F s o,r s=some o->Hp nx0 H0 (bZ bp L s::F) H nx->aK P pl X0 (aN P pl (.call f [ptr bp] false none H nx)) nx0 H0 (bq nx0 H0 bp L F vf o)
theorem bq.ret {α:Type}{vf:α->Value}{a:α}{u:Value}{o:α×bx}(ho:ry a s=some o)(e:u=vf a)(h:Hp nx0 H0 (bZ bp L s::F) H nx):aK P pl X0 (.ret ⟨.ret u,false,H,nx⟩) nx0 H0 (bq nx0 H0 bp L F vf o):=by
 cases ho
 exact Wq.jM h.ag ⟨by rw[e],h⟩
theorem Rq.call {α β:Type}{f:FuncId}{vf:α->Value}{r:bx->RR α}{g:α->bx->RR β}{o:β×bx}{kt p:Value->T OB->Nat->Q}(hs:aX f L vf r)(hx:X0 f [ptr bp]=none)(h:Hp nx0 H0 (bZ bp L s::G) H nx)(ho:rb (r s) g=some o)
 (hk:∀a s' H' nx',r s=some (a,s')->g a s'=some o->Hp nx0 H0 (bZ bp L s'::G) H' nx'->aK P pl X0 (kt (vf a) H' nx') nx0 H0 R):aK P pl X0 (ah (.call f [ptr bp] false none H nx) kt p) nx0 H0 R:=by
 cases hr:r s with
 | none=>rw[hr]at ho;cases ho
 | some q=>
   obtain⟨a,s'⟩:=q
   rw[hr]at ho
   exact Sq.dP hx (hs nx0 nx H0 H bp G s (a,s') hr h) λH' nx' h'=>hk a s' H' nx' hr ho h'
theorem MT {α:Type}(x:RR α):rb x ry=x:=by
 cases x with
 | none=>rfl
 | some r=>rfl
theorem jK {α β γ:Type}(x:RR α)(f:α->bx->RR β)(g:β->bx->RR γ):rb (rb x f) g=rb x λa k=>rb (f a k) g:=by
 cases x with
 | none=>rfl
 | some r=>rfl
theorem iv {α β:Type}(a:α)(s:bx)(f:α->bx->RR β):rb (ry a s) f=f a s:=rfl
theorem aX.none {α:Type}{f:FuncId}{vf:α->Value}:aX f L vf (λ_=> .none):=λnx0 nx H0 H bp F s o ho _=>by cases ho
theorem KP (op:List UInt8)(a c:aF)(h:Hp nx0 H0 (x::F) H nx):aK P pl X0 (aN P pl (.call 125 [aE op,a.v,c.v] false none H nx)) nx0 H0 (λo H nx=>o= .ret (two op a c).v/\Hp nx0 H0 (x::F) H nx):=by
 rw[TL]
 refine Wq.bF (Wq.bF ?_)
 refine Hq.alloc aV h.succ.succ λx0 H1 aC h1=> ?_
 simp only[af,oA]
 refine Hq.mU a.cs c.cs a.len c.len h1 λx1 H2 nx2 h2=> ?_
 simp only[af,mV]
 have h3:Hp nx0 H0 (x::(x0,_,44)::([(x1,a.cs++c.cs,44)]++F)) H2 nx2:=Hp.swap' h2
 exact Hq.fin h3 bu bN cQ rfl rfl rfl (dE.b2 (dE.of a)).fz (by omega) λH5 nx5 h5=>gD h5
theorem Rq.two {op:List UInt8}{a c:aF}{kt p:Value->T OB->Nat->Q}(h:Hp nx0 H0 (x::F) H nx)(hk:∀H' nx',Hp nx0 H0 (x::F) H' nx'->aK P pl X0 (kt (two op a c).v H' nx') nx0 H0 R):aK P pl X0 (ah (.call 125 [aE op,a.v,c.v] false none H nx) kt p) nx0 H0 R:=Sq.dP rfl (KP op a c h) hk
theorem Aa {b:Nat}{a:aF}(h:cG H b a.cs 44):ae P H 44 (some (ptr b))=some a.v:=dU h a.len
theorem Hq.jT (A:List Bx){a:aF}{z:List Value}{kt:Value->Go.Ev.T OB->Nat->Q}(h:Hp nx0 H0 (A++(b,z,44)::B) H nx)(hz:z.length=6)(hk:∀H',Hp nx0 H0 (A++(b,a.cs,44)::B) H' nx->aK P pl X0 (kt undef H' nx) nx0 H0 R):aK P pl X0 (ak (ai P H nx 44 (some (ptr b)) (some a.v)) kt) nx0 H0 R:=
 Hq.set A h bu hz a.len (dE.of a).one hk
theorem Qw {z z':List Value}{a:aF}{x0 x1:Nat}{kt:Value->Go.Ev.T OB->Nat->Q}(h:Hp nx0 H0 (x::(x1,z',44)::(x0,z,44)::F) H nx)(hz:z.length=6)(hk:∀H' nx',Hp nx0 H0 (x::F) H' nx'->aK P pl X0 (kt a.v H' nx') nx0 H0 R):
 aK P pl X0 (ak (ai P H nx 44 (some (ptr x0)) (some a.v)) λ_ H nx=>aa (ae P H 44 (some (ptr x0))) (λx=>aW P 44 x H nx kt) .bad) nx0 H0 R:=
 Hq.kB (F:=F) (h.sub (by simp)) hz hk
theorem pM {l:List (List UInt8)}{s:bx}(hl:l.contains []=false):decide (nJ L l s=[])= !(s.2.isNone&&(jr L s.1&&l.contains (tk L s.1).s)):=by
 unfold nJ
 cases hq:(s.2.isNone&&(jr L s.1&&l.contains (tk L s.1).s))with
 | false=>simp
 | true=>
   rw[if_pos rfl]
   simp only[Bool.and_eq_true]at hq
   have:(tk L s.1).s≠[]:=λq=>by rw[q,hl]at hq;simp at hq
   simp[this]
theorem pN {l:List (List UInt8)}(h:(s.2.isNone&&(jr L s.1&&l.contains (tk L s.1).s))=true):nJ L l s=(tk L s.1).s/\cu L (tk L s.1).s s=true:=by
 unfold nJ
 rw[if_pos h]
 simp only[Bool.and_eq_true]at h
 refine⟨rfl,?_⟩
 unfold cu dD
 simp[h.1,h.2.1]
abbrev Df (lv:Nat):List (List UInt8):=(br[lv]?).getD []
theorem wA {lv:Nat}:Ms L lv s=(s.2.isNone&&(jr L s.1&&(Df lv).contains (tk L s.1).s)):=rfl
theorem pO {lv:Nat}{w:List UInt8}(h:Df lv=[w]):Ms L lv s=cu L w s:=by
 rw[wA,h]
 unfold cu dD
 congr 2
 rw[Bool.eq_iff_iff]
 simp
theorem Dg (h:cu L w s=true):(tk L s.1).s=w:=by
 unfold cu dD at h
 rw[Bool.and_eq_true,Bool.and_eq_true,decide_eq_true_eq]at h
 exact h.2.2
theorem pP (h:cu L w s=true):dT L w s=aC s:=by unfold dT;rw[if_pos h]
theorem HV (hL:L.length<=100000):∀(m:Nat),(∀j,j<m->aX 124 L aF.v ((rp L j).bin 1))->∀(a:aF) (s:bx) (o:aF×bx) (z:List Value) (x0 x2 nx:Nat) (H:Go.Ev.T OB),z.length=6->(rp L m).fh 0 a s=some o->Hp nx0 H0 (bZ bp L s::(x2,a.cs,44)::(x0,z,44)::F) H nx->
 aK P pl X0 (.jump (Ch (ptr bp) (ptr x0) (ptr x2) H nx)) nx0 H0 (bq nx0 H0 bp L F aF.v o)
 | 0,_,a,s,o,z,x0,x2,nx,H,hz,ho,h=>by cases ho
 | m+1,hp,a,s,o,z,x0,x2,nx,H,hz,ho,h=>by
   have ho:fZ L (rp L m) 0 a s=some o:=ho
   unfold fZ at ho
   refine Wq.jmp (Q8 ..) (λ_=>rfl) ?_
   have e:Ms L 0 s=cu L [111,114,101,108,115,101] s:=pO rfl
   rw[e]at ho
   refine Rq.take hL h (λhi H1 aC h1=> ?_) (λhi H1 aC h1=> ?_)
   . rw[if_pos hi,if_neg (by decide),Dg hi]at ho
     simp only[af]
     refine Rq.call (hp m (Nat.lt_succ_self m)) rfl h1 ho λc s' H2 nx2 _ ho h2=> ?_
     refine Hq.gH h2 λH3 nx3 h3=> ?_
     simp only[af,Aa (h3.at_ 1 rfl),oA]
     refine Rq.two h3 λH4 nx4 h4=> ?_
     refine Hq.jT [_] h4 a.len λH5 h5=> ?_
     exact HV hL m (λj hj=>hp j (by omega)) _ s' o z x0 x2 nx4 H5 hz ho h5
   . rw[if_neg hi]at ho
     simp only[af,Aa (h1.at_ 1 rfl)]
     exact Qw h1 hz λH9 nx9 h9=>bq.ret ho rfl h9
theorem PH (hL:L.length<=100000){n:Nat}(hp:∀j,j<=n->aX 124 L aF.v ((rp L j).bin 1)):aX 70 L aF.v ((rp L (n+1)).bin 0):=by
 intro nx0 nx H0 H bp F s o ho h
 have ho:iD L (rp L n) 0 s=some o:=ho
 unfold iD at ho
 rw[if_neg (by decide)]at ho
 rw[V3]
 refine Hq.alloc aV h λx0 H1 aC h1=> ?_
 refine Rq.call (hp n (Nat.le_refl n)) rfl h1 ho λa s' H2 nx2 _ ho h2=> ?_
 refine Hq.alloc aV h2 λx2 H3 nx3 h3=> ?_
 refine Hq.jT [_] h3 rfl λH4 h4=> ?_
 exact HV hL (n+1) (λj hj=>hp j (by omega)) a s' o _ x0 x2 nx3 H4 rfl ho h4
theorem Dh (hL:L.length<=100000):∀(m:Nat),(∀j,j<m->aX 161 L aF.v ((rp L j).bin 2))->∀(a:aF) (s:bx) (o:aF×bx) (z:List Value) (x0 x2 nx:Nat) (H:Go.Ev.T OB),z.length=6->(rp L m).fh 1 a s=some o->Hp nx0 H0 (bZ bp L s::(x2,a.cs,44)::(x0,z,44)::F) H nx->
 aK P pl X0 (.jump (vl (ptr bp) (ptr x0) (ptr x2) H nx)) nx0 H0 (bq nx0 H0 bp L F aF.v o)
 | 0,_,a,s,o,z,x0,x2,nx,H,hz,ho,h=>by cases ho
 | m+1,hp,a,s,o,z,x0,x2,nx,H,hz,ho,h=>by
   have ho:fZ L (rp L m) 1 a s=some o:=ho
   unfold fZ at ho
   refine Wq.jmp (NS ..) (λ_=>rfl) ?_
   have e:Ms L 1 s=cu L [97,110,100,97,108,115,111] s:=pO rfl
   rw[e]at ho
   refine Rq.take hL h (λhi H1 aC h1=> ?_) (λhi H1 aC h1=> ?_)
   . rw[if_pos hi,if_neg (by decide),Dg hi]at ho
     simp only[af]
     refine Rq.call (hp m (Nat.lt_succ_self m)) rfl h1 ho λc s' H2 nx2 _ ho h2=> ?_
     refine Hq.gH h2 λH3 nx3 h3=> ?_
     simp only[af,Aa (h3.at_ 1 rfl),oA]
     refine Rq.two h3 λH4 nx4 h4=> ?_
     refine Hq.jT [_] h4 a.len λH5 h5=> ?_
     exact Dh hL m (λj hj=>hp j (by omega)) _ s' o z x0 x2 nx4 H5 hz ho h5
   . rw[if_neg hi]at ho
     simp only[af,Aa (h1.at_ 1 rfl)]
     exact Qw h1 hz λH9 nx9 h9=>bq.ret ho rfl h9
theorem KQ (hL:L.length<=100000){n:Nat}(hp:∀j,j<=n->aX 161 L aF.v ((rp L j).bin 2)):aX 124 L aF.v ((rp L (n+1)).bin 1):=by
 intro nx0 nx H0 H bp F s o ho h
 have ho:iD L (rp L n) 1 s=some o:=ho
 unfold iD at ho
 rw[if_neg (by decide)]at ho
 rw[TK]
 refine Hq.alloc aV h λx0 H1 aC h1=> ?_
 refine Rq.call (hp n (Nat.le_refl n)) rfl h1 ho λa s' H2 nx2 _ ho h2=> ?_
 refine Hq.alloc aV h2 λx2 H3 nx3 h3=> ?_
 refine Hq.jT [_] h3 rfl λH4 h4=> ?_
 exact Dh hL (n+1) (λj hj=>hp j (by omega)) a s' o _ x0 x2 nx3 H4 rfl ho h4
theorem Di (hL:L.length<=100000):∀(m:Nat),(∀j,j<m->aX 191 L aF.v ((rp L j).bin 4))->∀(a:aF) (s:bx) (o:aF×bx) (z:List Value) (x0 x2 nx:Nat) (H:Go.Ev.T OB),z.length=6->(rp L m).fh 3 a s=some o->Hp nx0 H0 (bZ bp L s::(x2,a.cs,44)::(x0,z,44)::F) H nx->
 aK P pl X0 (.jump (vy (ptr bp) (ptr x0) (ptr x2) H nx)) nx0 H0 (bq nx0 H0 bp L F aF.v o)
 | 0,_,a,s,o,z,x0,x2,nx,H,hz,ho,h=>by cases ho
 | m+1,hp,a,s,o,z,x0,x2,nx,H,hz,ho,h=>by
   have ho:fZ L (rp L m) 3 a s=some o:=ho
   unfold fZ at ho
   refine Wq.jmp (NY ..) (λ_=>rfl) ?_
   rw[wA]at ho
   refine Hq.row (l:=((Df 3).map aE)) fK ke ir rfl (by kernel_rfl) h λy H1 aC h1=> ?_
   refine Rq.De (ws:=Df 3) (n:=6) rfl (by decide) h1 λH2 nx2 h2=> ?_
   simp only[af,CT,pM (show(Df 3).contains []=false from rfl)]
   cases hi:(s.2.isNone&&(jr L s.1&&(Df 3).contains (tk L s.1).s))with
   | false=>
     rw[if_neg (by rw[hi];simp)]at ho
     simp only[af,Aa (h2.at_ 1 rfl)]
     exact Qw h2 hz λH9 nx9 h9=>bq.ret ho rfl h9
   | true=>
     rw[if_pos hi,if_neg (by decide)]at ho
     obtain⟨ea,ei⟩:=pN hi
     simp only[af,ea]
     refine Rq.aS hL h2 λH3 nx3 h3=> ?_
     rw[pP ei]at h3
     refine Rq.call (hp m (Nat.lt_succ_self m)) rfl h3 ho λc s' H4 nx4 _ ho h4=> ?_
     refine Hq.gH h4 λH5 nx5 h5=> ?_
     simp only[af,Aa (h5.at_ 1 rfl),oA]
     refine Rq.two h5 λH6 nx6 h6=> ?_
     refine Hq.jT [_] h6 a.len λH7 h7=> ?_
     exact Di hL m (λj hj=>hp j (by omega)) _ s' o z x0 x2 nx6 H7 hz ho h7
theorem KR (hL:L.length<=100000){n:Nat}(hp:∀j,j<=n->aX 191 L aF.v ((rp L j).bin 4)):aX 182 L aF.v ((rp L (n+1)).bin 3):=by
 intro nx0 nx H0 H bp F s o ho h
 have ho:iD L (rp L n) 3 s=some o:=ho
 unfold iD at ho
 rw[if_neg (by decide)]at ho
 rw[Ub]
 refine Hq.alloc aV h λx0 H1 aC h1=> ?_
 refine Rq.call (hp n (Nat.le_refl n)) rfl h1 ho λa s' H2 nx2 _ ho h2=> ?_
 refine Hq.alloc aV h2 λx2 H3 nx3 h3=> ?_
 refine Hq.jT [_] h3 rfl λH4 h4=> ?_
 exact Di hL (n+1) (λj hj=>hp j (by omega)) a s' o _ x0 x2 nx3 H4 rfl ho h4
theorem Dj (hL:L.length<=100000):∀(m:Nat),(∀j,j<m->aX 194 L aF.v ((rp L j).bin 6))->∀(a:aF) (s:bx) (o:aF×bx) (z:List Value) (x0 x2 nx:Nat) (H:Go.Ev.T OB),z.length=6->(rp L m).fh 5 a s=some o->Hp nx0 H0 (bZ bp L s::(x2,a.cs,44)::(x0,z,44)::F) H nx->
 aK P pl X0 (.jump (vE (ptr bp) (ptr x0) (ptr x2) H nx)) nx0 H0 (bq nx0 H0 bp L F aF.v o)
 | 0,_,a,s,o,z,x0,x2,nx,H,hz,ho,h=>by cases ho
 | m+1,hp,a,s,o,z,x0,x2,nx,H,hz,ho,h=>by
   have ho:fZ L (rp L m) 5 a s=some o:=ho
   unfold fZ at ho
   refine Wq.jmp (N1 ..) (λ_=>rfl) ?_
   rw[wA]at ho
   refine Hq.row (l:=((Df 5).map aE)) fK ke ir rfl (by kernel_rfl) h λy H1 aC h1=> ?_
   refine Rq.De (ws:=Df 5) (n:=3) rfl (by decide) h1 λH2 nx2 h2=> ?_
   simp only[af,CT,pM (show(Df 5).contains []=false from rfl)]
   cases hi:(s.2.isNone&&(jr L s.1&&(Df 5).contains (tk L s.1).s))with
   | false=>
     rw[if_neg (by rw[hi];simp)]at ho
     simp only[af,Aa (h2.at_ 1 rfl)]
     exact Qw h2 hz λH9 nx9 h9=>bq.ret ho rfl h9
   | true=>
     rw[if_pos hi,if_neg (by decide)]at ho
     obtain⟨ea,ei⟩:=pN hi
     simp only[af,ea]
     refine Rq.aS hL h2 λH3 nx3 h3=> ?_
     rw[pP ei]at h3
     refine Rq.call (hp m (Nat.lt_succ_self m)) rfl h3 ho λc s' H4 nx4 _ ho h4=> ?_
     refine Hq.gH h4 λH5 nx5 h5=> ?_
     simp only[af,Aa (h5.at_ 1 rfl),oA]
     refine Rq.two h5 λH6 nx6 h6=> ?_
     refine Hq.jT [_] h6 a.len λH7 h7=> ?_
     exact Dj hL m (λj hj=>hp j (by omega)) _ s' o z x0 x2 nx6 H7 hz ho h7
theorem KS (hL:L.length<=100000){n:Nat}(hp:∀j,j<=n->aX 194 L aF.v ((rp L j).bin 6)):aX 193 L aF.v ((rp L (n+1)).bin 5):=by
 intro nx0 nx H0 H bp F s o ho h
 have ho:iD L (rp L n) 5 s=some o:=ho
 unfold iD at ho
 rw[if_neg (by decide)]at ho
 rw[Uh]
 refine Hq.alloc aV h λx0 H1 aC h1=> ?_
 refine Rq.call (hp n (Nat.le_refl n)) rfl h1 ho λa s' H2 nx2 _ ho h2=> ?_
 refine Hq.alloc aV h2 λx2 H3 nx3 h3=> ?_
 refine Hq.jT [_] h3 rfl λH4 h4=> ?_
 exact Dj hL (n+1) (λj hj=>hp j (by omega)) a s' o _ x0 x2 nx3 H4 rfl ho h4
theorem Dk (hL:L.length<=100000):∀(m:Nat),(∀j,j<m->aX 195 L aF.v ((rp L j).bin 7))->∀(a:aF) (s:bx) (o:aF×bx) (z:List Value) (x0 x2 nx:Nat) (H:Go.Ev.T OB),z.length=6->(rp L m).fh 6 a s=some o->Hp nx0 H0 (bZ bp L s::(x2,a.cs,44)::(x0,z,44)::F) H nx->
 aK P pl X0 (.jump (vF (ptr bp) (ptr x0) (ptr x2) H nx)) nx0 H0 (bq nx0 H0 bp L F aF.v o)
 | 0,_,a,s,o,z,x0,x2,nx,H,hz,ho,h=>by cases ho
 | m+1,hp,a,s,o,z,x0,x2,nx,H,hz,ho,h=>by
   have ho:fZ L (rp L m) 6 a s=some o:=ho
   unfold fZ at ho
   refine Wq.jmp (N2 ..) (λ_=>rfl) ?_
   rw[wA]at ho
   refine Hq.row (l:=((Df 6).map aE)) fK ke ir rfl (by kernel_rfl) h λy H1 aC h1=> ?_
   refine Rq.De (ws:=Df 6) (n:=3) rfl (by decide) h1 λH2 nx2 h2=> ?_
   simp only[af,CT,pM (show(Df 6).contains []=false from rfl)]
   cases hi:(s.2.isNone&&(jr L s.1&&(Df 6).contains (tk L s.1).s))with
   | false=>
     rw[if_neg (by rw[hi];simp)]at ho
     simp only[af,Aa (h2.at_ 1 rfl)]
     exact Qw h2 hz λH9 nx9 h9=>bq.ret ho rfl h9
   | true=>
     rw[if_pos hi,if_neg (by decide)]at ho
     obtain⟨ea,ei⟩:=pN hi
     simp only[af,ea]
     refine Rq.aS hL h2 λH3 nx3 h3=> ?_
     rw[pP ei]at h3
     refine Rq.call (hp m (Nat.lt_succ_self m)) rfl h3 ho λc s' H4 nx4 _ ho h4=> ?_
     refine Hq.gH h4 λH5 nx5 h5=> ?_
     simp only[af,Aa (h5.at_ 1 rfl),oA]
     refine Rq.two h5 λH6 nx6 h6=> ?_
     refine Hq.jT [_] h6 a.len λH7 h7=> ?_
     exact Dk hL m (λj hj=>hp j (by omega)) _ s' o z x0 x2 nx6 H7 hz ho h7
theorem KT (hL:L.length<=100000){n:Nat}(hp:∀j,j<=n->aX 195 L aF.v ((rp L j).bin 7)):aX 194 L aF.v ((rp L (n+1)).bin 6):=by
 intro nx0 nx H0 H bp F s o ho h
 have ho:iD L (rp L n) 6 s=some o:=ho
 unfold iD at ho
 rw[if_neg (by decide)]at ho
 rw[Ui]
 refine Hq.alloc aV h λx0 H1 aC h1=> ?_
 refine Rq.call (hp n (Nat.le_refl n)) rfl h1 ho λa s' H2 nx2 _ ho h2=> ?_
 refine Hq.alloc aV h2 λx2 H3 nx3 h3=> ?_
 refine Hq.jT [_] h3 rfl λH4 h4=> ?_
 exact Dk hL (n+1) (λj hj=>hp j (by omega)) a s' o _ x0 x2 nx3 H4 rfl ho h4
theorem KU (hL:L.length<=100000){n:Nat}(hp:aX 182 L aF.v ((rp L n).bin 3))(hs:aX 161 L aF.v ((rp L n).bin 2)):aX 161 L aF.v ((rp L (n+1)).bin 2):=by
 intro nx0 nx H0 H bp F s o ho h
 have ho:iD L (rp L n) 2 s=some o:=ho
 unfold iD fZ at ho
 rw[if_neg (by decide)]at ho
 rw[T4]
 refine Hq.alloc aV h λx0 H1 aC h1=> ?_
 refine Rq.call hp rfl h1 ho λa s' H2 nx2 _ ho h2=> ?_
 have e:Ms L 2 s'=cu L [58,61] s':=pO rfl
 rw[e]at ho
 refine Hq.gH h2 λH3 nx3 h3=> ?_
 refine Rq.take hL h3 (λhi H4 nx4 h4=> ?_) (λhi H4 nx4 h4=> ?_)
 . rw[if_pos hi,if_pos (by decide),Dg hi]at ho
   simp only[af]
   refine Rq.call hs rfl h4 ho λc s2 H5 nx5 _ ho h5=> ?_
   refine Hq.gH h5 λH6 nx6 h6=> ?_
   simp only[af,oA]
   refine Rq.two h6 λH7 nx7 h7=> ?_
   exact Hq.kB h7 rfl λH9 nx9 h9=>bq.ret ho rfl h9
 . rw[if_neg hi]at ho
   simp only[af,oA]
   exact Hq.kB h4 rfl λH9 nx9 h9=>bq.ret ho rfl h9
theorem KV (hL:L.length<=100000){n:Nat}(hp:aX 193 L aF.v ((rp L n).bin 5))(hs:aX 191 L aF.v ((rp L n).bin 4)):aX 191 L aF.v ((rp L (n+1)).bin 4):=by
 intro nx0 nx H0 H bp F s o ho h
 have ho:iD L (rp L n) 4 s=some o:=ho
 unfold iD fZ at ho
 rw[if_neg (by decide)]at ho
 rw[Ug]
 refine Hq.alloc aV h λx0 H1 aC h1=> ?_
 refine Rq.call hp rfl h1 ho λa s' H2 nx2 _ ho h2=> ?_
 have e:Ms L 4 s'=cu L [58,58] s':=pO rfl
 rw[e]at ho
 refine Hq.gH h2 λH3 nx3 h3=> ?_
 refine Rq.take hL h3 (λhi H4 nx4 h4=> ?_) (λhi H4 nx4 h4=> ?_)
 . rw[if_pos hi,if_pos (by decide),Dg hi]at ho
   simp only[af]
   refine Rq.call hs rfl h4 ho λc s2 H5 nx5 _ ho h5=> ?_
   refine Hq.gH h5 λH6 nx6 h6=> ?_
   simp only[af,oA]
   refine Rq.two h6 λH7 nx7 h7=> ?_
   exact Hq.kB h7 rfl λH9 nx9 h9=>bq.ret ho rfl h9
 . rw[if_neg hi]at ho
   simp only[af,oA]
   exact Hq.kB h4 rfl λH9 nx9 h9=>bq.ret ho rfl h9
end
section
variable {nx0 nx nx' bp k:Nat}{H0 H H':T OB}{F A B G G':List Bx}{R:Go.Ev.Out->T OB->Nat->Prop}{b:Nat}{l:List Value}{e t:TypeId}{L:List Tok}{s s':bx}{w:List UInt8}{x:Bx}
theorem HW (hL:L.length<=100000):∀(m:Nat),(∀j,j<m->aX 121 L aZ.v (rp L j).pat)->(∀j,j<m->aX 39 L aF.v (rp L j).exp)->∀(kk:Int) (l:List aF) (q:List aZ) (s:bx) (sl sp:Value) (G G':List Bx) (o:aF×bx) (z:List Value) (x0 x1 nx:Nat) (H:Go.Ev.T OB),l.length+m<=95000->q.length+m<=95000->
 Gw true 6 44 (l.map aF.v) sl G->Gw true 4 47 (q.map aZ.v) sp G'->z.length=6->(rp L m).fA (.mk kk 0 [] l q []) s=some o->Hp nx0 H0 (bZ bp L s::(x1,[i64 kk,i64 0,aE [],sl,sp,az],44)::(x0,z,44)::(G++(G'++F))) H nx->
 aK P pl X0 (.jump (Cf (ptr bp) (ptr x1) (ptr x0) H nx)) nx0 H0 (bq nx0 H0 bp L F aF.v o)
 | 0,_,_,kk,l,q,s,sl,sp,G,G',o,z,x0,x1,nx,H,hm,hm',hG,hG',hz,ho,h=>by cases ho
 | m+1,hp,he,kk,l,q,s,sl,sp,G,G',o,z,x0,x1,nx,H,hm,hm',hG,hG',hz,ho,h=>by
   have ho:zU L (rp L m) (.mk kk 0 [] l q []) s=some o:=ho
   unfold zU at ho
   refine Wq.jmp (Q7 ..) (λ_=>rfl) ?_
   cases hs:s.2 with
   | some t=>
     rw[if_pos (by rw[hs];rfl)]at ho
     have hv:dE 1 [i64 kk,i64 0,aE [],sl,sp,az] (.mk kk 0 [] l q []) (G++(G'++[])):=dE.row hG.Kq hG'.HE m4 (ck hG) (ck hG') rfl
     simp only[af,rX h,hs,Option.isSome_some,Bool.not_true,dU (h.at_ 1 rfl) hv.len]
     have h12:Hp nx0 H0 (bZ bp L s::(x0,z,44)::((G++(G'++[]))++F)) H nx:=by
      rw[List.append_nil,List.append_assoc]
      exact(Hp.mv [_] h).sub (by simp)
     exact Hq.fin h12 bu bN cQ hz hv.len hv.one hv.fz (by omega) λH5 nx5 h5=>bq.ret ho rfl h5
   | none=>
     rw[if_neg (by rw[hs];simp)]at ho
     simp only[af,rX h,hs,Option.isSome_none,Bool.not_false]
     refine Rq.call (hp m (Nat.lt_succ_self m)) rfl h ho λa s1 H2 nx2 _ ho h2=> ?_
     refine Hq.wu h2 λH3 nx3 h3=> ?_
     refine Rq.aS hL h3 λH4 nx4 h4=> ?_
     refine Rq.call (he m (Nat.lt_succ_self m)) rfl h4 ho λc s2 H5 nx5 _ ho h5=> ?_
     refine Hq.gH h5 λH6 nx6 h6=> ?_
     simp only[af,av (off:=4) (u:=sp) (h6.at_ 1 rfl) gf rfl,KB]
     refine Hq.dW a.cs a.len h6 λx H7 nx7 h7=> ?_
     refine Hq.tF (_::_::G) (x:=a) (by omega) hG' h7 λsp' G2 H8 nx8 hG2 h8=> ?_
     refine Hq.put [_] h8 oe (by rcases hG2.2 with⟨_,rfl,_⟩ | ⟨b,c,rfl,_⟩<;>rfl) (ck hG2) (by simp) rfl λH9 h9=> ?_
     simp only[af,av (off:=3) (u:=sl) (h9.at_ 1 rfl) gX rfl,oA]
     refine Hq.cZ c.cs c.len h9 λy H10 nx10 h10=> ?_
     refine Hq.yy [_,_] (x:=c) (by omega) hG h10 λsl' G1 H11 nx11 hG1 h11=> ?_
     refine Hq.put [_] h11 re (by rcases hG1.2 with⟨_,rfl,_⟩ | ⟨b,c,rfl,_⟩<;>rfl) (ck hG1) (by simp) rfl λH12 h12=> ?_
     refine Rq.take hL h12 (λhi H13 nx13 h13=> ?_) (λhi H13 nx13 h13=> ?_)
     . rw[if_pos hi]at ho
       simp only[af,Bool.not_true]
       exact HW hL m (λj hj=>hp j (by omega)) (λj hj=>he j (by omega)) kk (l++[c]) (q++[a]) _ sl' sp' G1 G2 o z x0 x1 nx13 H13 (by rw[List.length_append];simp;omega) (by rw[List.length_append];simp;omega) hG1 hG2 hz ho h13
     . rw[if_neg hi]at ho
       have hv:dE 1 [i64 kk,i64 0,aE [],sl',sp',az] (.mk kk 0 [] (l++[c]) (q++[a]) []) (G1++(G2++[])):=dE.row hG1.Kq hG2.HE m4 (ck hG1) (ck hG2) rfl
       simp only[af,Bool.not_false,dU (h13.at_ 1 rfl) hv.len]
       have h14:Hp nx0 H0 (bZ bp L s2::(x0,z,44)::((G1++(G2++[]))++F)) H13 nx13:=by
        rw[List.append_nil,List.append_assoc]
        exact(Hp.mv [_] h13).sub (by simp)
       exact Hq.fin h14 bu bN cQ hz hv.len hv.one hv.fz (by omega) λH5 nx5 h5=>bq.ret ho rfl h5
def Dl (L:List Tok)(r:aF->bx->RR aF):Prop:=∀(nx0 nx:Nat) (H0 H:Go.Ev.T OB) (bp:Nat) (F G:List Bx) (s:bx) (o:aF×bx) (kk:Int) (l:List aF) (sl:Value),l.length<=3->Gw true 6 44 (l.map aF.v) sl G->r (.mk kk 0 [] l [] []) s=some o->Hp nx0 H0 (bZ bp L s::(G++F)) H nx->
 aK P pl X0 (aN P pl (.call 69 [ptr bp,.agg ⟨[i64 kk,i64 0,aE [],sl,az,az]⟩] false none H nx)) nx0 H0 (bq nx0 H0 bp L F aF.v o)
theorem PJ (hL:L.length<=100000){n:Nat}(hn:n<=94000)(hp:∀j,j<=n->aX 121 L aZ.v (rp L j).pat)(he:∀j,j<=n->aX 39 L aF.v (rp L j).exp):Dl L (rp L (n+1)).fA:=by
 intro nx0 nx H0 H bp F G s o kk l sl hl hG ho h
 rw[V2]
 refine Hq.box h λx1 H1 aC h1=> ?_
 refine Hq.alloc aV h1 λx0 H2 nx2 h2=> ?_
 exact HW hL (n+1) (λj hj=>hp j (by omega)) (λj hj=>he j (by omega)) kk l [] s sl az G [] o _ x0 x1 nx2 H2 (by omega) (by simp;omega) hG (Gw.nil _ _ _) rfl ho (Hp.swap' h2)
theorem Rq.rV {F1:List Bx}{r:aF->bx->RR aF}{o:aF×bx}{kk:Int}{l:List aF}{sl:Value}{kt p:Value->Go.Ev.T OB->Nat->Q}(hs:Dl L r)(hl:l.length<=3)(hG:Gw true 6 44 (l.map aF.v) sl G)(h:Hp nx0 H0 (bZ bp L s::(G++F1)) H nx)
 (ho:r (.mk kk 0 [] l [] []) s=some o) (hk:∀H' nx',Hp nx0 H0 (bZ bp L o.2::F1) H' nx'->aK P pl X0 (kt o.1.v H' nx') nx0 H0 R):
 aK P pl X0 (ah (.call 69 [ptr bp,.agg ⟨[i64 kk,i64 0,aE [],sl,az,az]⟩] false none H nx) kt p) nx0 H0 R:=
 Sq.dP rfl (hs nx0 nx H0 H bp F1 G s o kk l sl hl hG ho h) hk
theorem bq.PK {α:Type}{vf:α->Value}{o:α×bx}(h:Hp nx0 H0 (bZ bp L o.2::F) H nx):aK P pl X0 (.ret ⟨.ret (vf o.1),false,H,nx⟩) nx0 H0 (bq nx0 H0 bp L F vf o):=Wq.jM h.ag ⟨rfl,h⟩
theorem PM (hL:L.length<=100000){p:RP}(hexp:aX 39 L aF.v p.exp)(hmat:Dl L p.fA)(hbin:aX 70 L aF.v (p.bin 0)):aX 39 L aF.v (zV L p):=by
 intro nx0 nx H0 H bp F s o ho h
 unfold zV at ho
 rw[VI]
 refine Hq.alloc aV h λx0 H1 aC h1=> ?_
 refine Rq.take hL h1 (λhi H2 nx2 h2=> ?_) (λhi H2 nx2 h2=> ?_)
 . rw[if_pos hi]at ho
   simp only[af]
   refine Rq.call hexp rfl h2 ho λa s2 H3 nx3 _ ho h3=> ?_
   refine Hq.gH h3 λH4 nx4 h4=> ?_
   refine Rq.aS hL h4 λH5 nx5 h5=> ?_
   refine Rq.call hexp rfl h5 ho λb s3 H6 nx6 _ ho h6=> ?_
   refine Hq.gH h6 λH7 nx7 h7=> ?_
   refine Rq.aS hL h7 λH8 nx8 h8=> ?_
   refine Rq.call hexp rfl h8 ho λc s4 H9 nx9 _ ho h9=> ?_
   refine Hq.gH h9 λH10 nx10 h10=> ?_
   simp only[af,oA]
   refine Hq.C2 a.cs b.cs c.cs a.len b.len c.len h10 λx H11 nx11 h11=> ?_
   simp only[af,er]
   have h12:Hp nx0 H0 (bZ bp L s4::(x0,_,44)::([(x,a.cs++b.cs++c.cs,44)]++F)) H11 nx11:=Hp.swap' h11
   exact Hq.fin h12 bu bN cQ rfl rfl rfl dE.b3.fz (by omega) λH5 nx5 h5=>bq.ret ho rfl h5
 rw[if_neg hi]at ho
 simp only[af]
 refine Rq.take hL h2 (λhi H3 nx3 h3=> ?_) (λhi H3 nx3 h3=> ?_)
 . rw[if_pos hi]at ho
   simp only[af]
   refine Rq.call hexp rfl h3 ho λa s2 H4 nx4 _ ho h4=> ?_
   refine Hq.gH h4 λH5 nx5 h5=> ?_
   refine Rq.aS hL h5 λH6 nx6 h6=> ?_
   simp only[af,oA]
   refine Hq.cZ a.cs a.len h6 λx H7 nx7 h7=> ?_
   simp only[af,er]
   refine Rq.rV hmat (l:=[a]) (by simp) (Gw.jA a.fD) h7 ho λH8 nx8 h8=> ?_
   exact Hq.kB h8 rfl λH9 nx9 h9=>bq.PK h9
 rw[if_neg hi]at ho
 simp only[af]
 refine Rq.take hL h3 (λhi H4 nx4 h4=> ?_) (λhi H4 nx4 h4=> ?_)
 . rw[if_pos hi]at ho
   simp only[af]
   refine Rq.rV hmat (l:=[]) (G:=[]) (by simp) (Gw.nil _ _ _) h4 ho λH8 nx8 h8=> ?_
   exact Hq.kB h8 rfl λH9 nx9 h9=>bq.PK h9
 rw[if_neg hi]at ho
 simp only[af]
 refine Rq.take hL h4 (λhi H5 nx5 h5=> ?_) (λhi H5 nx5 h5=> ?_)
 . rw[if_pos hi]at ho
   simp only[af]
   refine Rq.call hexp rfl h5 ho λa s2 H6 nx6 _ ho h6=> ?_
   refine Hq.gH h6 λH7 nx7 h7=> ?_
   simp only[af,oA]
   refine Hq.cZ a.cs a.len h7 λx H8 nx8 h8=> ?_
   simp only[af,er]
   have h11:Hp nx0 H0 (bZ bp L s2::(x0,_,44)::([(x,a.cs,44)]++F)) H8 nx8:=Hp.swap' h8
   exact Hq.fin h11 bu bN cQ rfl rfl rfl (dE.b1 (dE.of a)).fz (by omega) λH5 nx5 h5=>bq.ret ho rfl h5
 rw[if_neg hi]at ho
 simp only[af]
 refine Rq.call hbin rfl h5 ho λa s2 H6 nx6 _ ho h6=> ?_
 refine Hq.gH h6 λH7 nx7 h7=> ?_
 refine Rq.take hL h7 (λhi H8 nx8 h8=> ?_) (λhi H8 nx8 h8=> ?_)
 . rw[if_pos hi]at ho
   simp only[af,oA]
   refine Hq.cZ a.cs a.len h8 λx H9 nx9 h9=> ?_
   simp only[af,er]
   refine Rq.rV hmat (l:=[a]) (by simp) (Gw.jA a.fD) h9 ho λH10 nx10 h10=> ?_
   exact Hq.kB h10 rfl λH9 nx9 h9=>bq.PK h9
 . rw[if_neg hi]at ho
   simp only[af,oA]
   exact Hq.kB h8 rfl λH9 nx9 h9=>bq.ret ho rfl h9
theorem Dm (hL:L.length<=100000):∀(m:Nat),(∀j,j<m->aX 196 L aF.v (rp L j).atom)->∀(a:aF) (s:bx) (n:Nat) (cs z:List Value) (G:List Bx) (o:aF×bx) (x0 x1 nx:Nat) (H:Go.Ev.T OB),n+m<=95000->dE n cs a G->z.length=6->(rp L m).fB a s=some o->
 Hp nx0 H0 (bZ bp L s::(x1,cs,44)::(x0,z,44)::(G++F)) H nx->aK P pl X0 (.jump (pw (ptr bp) (ptr x0) (ptr x1) H nx)) nx0 H0 (bq nx0 H0 bp L F aF.v o)
 | 0,_,a,s,n,cs,z,G,o,x0,x1,nx,H,hm,hv,hz,ho,h=>by cases ho
 | m+1,ha,a,s,n,cs,z,G,o,x0,x1,nx,H,hm,hv,hz,ho,h=>by
   have ho:yw L (rp L m) a s=some o:=ho
   unfold yw Hv at ho
   refine Wq.jmp (JB ..) (λ_=>rfl) ?_
   cases hs:s.2.isNone with
   | false=>
     rw[hs,if_neg (by simp)]at ho
     simp only[af,rX h,kD,hs,dU (h.at_ 1 rfl) hv.len]
     have h3:Hp nx0 H0 (bZ bp L s::(x0,z,44)::(G++F)) H nx:=(Hp.mv [_] h).sub (by simp)
     exact Hq.fin h3 bu bN cQ hz hv.len hv.one hv.fz (by omega) λH5 nx5 h5=>bq.ret ho rfl h5
   | true=>
     rw[hs,Bool.true_and]at ho
     simp only[af,rX h,kD,hs]
     refine Rq.UH hs h λH1 aC h1=> ?_
     cases hb:lb L s.1 with
     | true=>
       rw[if_pos hb]at ho
       simp only[af]
       refine Rq.call (ha m (Nat.lt_succ_self m)) rfl h1 ho λc s' H5 nx5 _ ho h5=> ?_
       refine Hq.gH h5 λH6 nx6 h6=> ?_
       simp only[af,dU (h6.at_ 1 rfl) hv.len,oA]
       refine Hq.mU cs c.cs hv.len c.len h6 λx H7 nx7 h7=> ?_
       simp only[af,er]
       refine Hq.set [_,_] h7 bu hv.len rfl rfl λH8 h8=> ?_
       exact Dm hL m (λj hj=>ha j (by omega)) _ s' (n+1) _ z ((x,cs++c.cs,44)::G) o x0 x1 nx7 H8 (by omega) (dE.b2 hv) hz ho (Hp.mZ h8)
     | false=>
       rw[if_neg (by rw[hb];simp)]at ho
       simp only[af,dU (h1.at_ 1 rfl) hv.len]
       have h3:Hp nx0 H0 (bZ bp L s::(x0,z,44)::(G++F)) H1 aC:=(Hp.mv [_] h1).sub (by simp)
       exact Hq.fin h3 bu bN cQ hz hv.len hv.one hv.fz (by omega) λH5 nx5 h5=>bq.ret ho rfl h5
theorem KW (hL:L.length<=100000){n:Nat}(hn:n<=94000)(ha:∀j,j<=n->aX 196 L aF.v (rp L j).atom)(hu:aX 195 L aF.v (rp L n).un):aX 195 L aF.v (rp L (n+1)).un:=by
 intro nx0 nx H0 H bp F s o ho h
 have ho:O4 L (rp L n) s=some o:=ho
 unfold O4 at ho
 rw[show UI L s=(s.2.isNone&&(jr L s.1&&eg.contains (tk L s.1).s))from rfl]at ho
 rw[Uj]
 refine Hq.alloc aV h λx0 H1 aC h1=> ?_
 refine Hq.call OD h1 λH2 nx2 h2=> ?_
 refine Rq.UU (ws:=eg) (by decide) h2 λH3 nx3 h3=> ?_
 simp only[af,CT,pM (show eg.contains []=false from rfl)]
 cases hi:(s.2.isNone&&(jr L s.1&&eg.contains (tk L s.1).s))with
 | true=>
   rw[if_pos hi]at ho
   obtain⟨ea,ei⟩:=pN hi
   simp only[af,ea,Bool.not_true,Bool.not_false]
   refine Rq.aS hL h3 λH4 nx4 h4=> ?_
   rw[pP ei]at h4
   refine Rq.call hu rfl h4 ho λa s' H5 nx5 _ ho h5=> ?_
   refine Hq.gH h5 λH6 nx6 h6=> ?_
   simp only[af,oA]
   refine Hq.cZ a.cs a.len h6 λx H7 nx7 h7=> ?_
   simp only[af,mV]
   have h8:Hp nx0 H0 (bZ bp L s'::(x0,_,44)::([(x,a.cs,44)]++F)) H7 nx7:=Hp.swap' h7
   exact Hq.fin h8 bu bN cQ rfl rfl rfl (dE.b1 (dE.of a)).fz (by omega) λH5 nx5 h5=>bq.ret ho rfl h5
 | false=>
   rw[if_neg (by rw[hi];simp)]at ho
   simp only[af,Bool.not_true,Bool.not_false]
   refine Rq.call (ha n (Nat.le_refl n)) rfl h3 ho λa s' H5 nx5 _ ho h5=> ?_
   refine Hq.alloc aV h5 λx1 H6 nx6 h6=> ?_
   refine Hq.jT [_] h6 rfl λH7 h7=> ?_
   exact Dm hL (n+1) (λj hj=>ha j (by omega)) a s' 0 _ _ [] o x0 x1 nx6 H7 (by omega) (dE.of a) rfl ho h7
end
section
variable {nx0 nx nx' bp k:Nat}{H0 H H':T OB}{F A B G G':List Bx}{R:Go.Ev.Out->T OB->Nat->Prop}{b:Nat}{l:List Value}{e t:TypeId}{L:List Tok}{s s':bx}{w:List UInt8}{x:Bx}
theorem Dn (hL:L.length<=100000):∀(m:Nat),(∀j,j<m->aX 39 L aF.v (rp L j).exp)->∀(kd:Int) (l:List aF) (s:bx) (sl:Value) (G:List Bx) (o:aF×bx) (z:List Value) (x0 x1 nx:Nat) (H:Go.Ev.T OB),l.length+m<=95000->Gw true 6 44 (l.map aF.v) sl G->z.length=6->
 (rp L m).dF w (.mk kd 0 [] l [] []) s=some o->Hp nx0 H0 (bZ bp L s::(x1,[i64 kd,i64 0,aE [],sl,az,az],44)::(x0,z,44)::(G++F)) H nx->
 aK P pl X0 (.jump (pA (ptr bp) (aE w) (ptr x0) (ptr x1) H nx)) nx0 H0 (bq nx0 H0 bp L F aF.v o)
 | 0,_,kd,l,s,sl,G,o,z,x0,x1,nx,H,hm,hG,hz,ho,h=>by cases ho
 | m+1,he,kd,l,s,sl,G,o,z,x0,x1,nx,H,hm,hG,hz,ho,h=>by
   have ho:jR L (rp L m) w (.mk kd 0 [] l [] []) s=some o:=ho
   unfold jR at ho
   refine Wq.jmp (JG ..) (λ_=>rfl) ?_
   refine Rq.take hL h (λhi H1 aC h1=> ?_) (λhi H1 aC h1=> ?_)
   . rw[if_pos hi]at ho
     simp only[af]
     refine Rq.call (he m (Nat.lt_succ_self m)) rfl h1 ho λc s' H2 nx2 _ ho2 h2=> ?_
     refine Hq.gH h2 λH3 nx3 h3=> ?_
     simp only[af,av (off:=3) (u:=sl) (h3.at_ 1 rfl) gX rfl,oA]
     refine Hq.cZ c.cs c.len h3 λx H4 nx4 h4=> ?_
     refine Hq.yy [_,_] (x:=c) (by omega) hG h4 λsl' G1 H5 nx5 hG1 h5=> ?_
     refine Hq.put [_] h5 re (by rcases hG1.2 with⟨_,rfl,_⟩ | ⟨b,c,rfl,_⟩<;>rfl) (ck hG1) (by simp) rfl λH6 h6=> ?_
     exact Dn hL m (λj hj=>he j (by omega)) kd (l++[c]) s' sl' G1 o z x0 x1 nx5 H6 (by rw[List.length_append];simp;omega) hG1 hz ho2 h6
   . rw[if_neg hi]at ho
     have hv:=dE.gw (k:=kd) (i:=0) (w:=[]) hG
     simp only[af,dU (h1.at_ 1 rfl) hv.len]
     have h3:Hp nx0 H0 (bZ bp L s::(x0,z,44)::(G++F)) H1 aC:=(Hp.mv [_] h1).sub (by simp)
     exact Hq.fin h3 bu bN cQ hz hv.len hv.one hv.fz (by omega) λH5 nx5 h5=>bq.ret ho rfl h5
theorem KX (hL:L.length<=100000){n:Nat}(hn:n<=94000)(he:∀j,j<=n->aX 39 L aF.v (rp L j).exp){w:List UInt8}{kd:Int}(hk:(if w=[59]then 13 else 5)=kd){a:aF}{o:aF×bx}(ho:jR L (rp L n) w (.mk kd 0 [] [a] [] []) s=some o)(h:Hp nx0 H0 (bZ bp L s::F) H nx):
 aK P pl X0 (aN P pl (.call 199 [ptr bp,a.v,aE w] false none H nx)) nx0 H0 (bq nx0 H0 bp L F aF.v o):=by
 rw[Un]
 refine Wq.bF ?_
 refine Hq.alloc aV h.succ λx0 H1 aC h1=> ?_
 simp only[af,oA]
 refine Hq.cZ a.cs a.len h1 λy H2 nx2 h2=> ?_
 simp only[af,er]
 refine Hq.alloc aV h2 λx1 H3 nx3 h3=> ?_
 refine Hq.set [_] h3 bu rfl rfl rfl λH4 h4=> ?_
 have fin:∀H5,Hp nx0 H0 (bZ bp L s::(x1,[i64 kd,i64 0,aE [],gq y 1 1,az,az],44)::(y,a.cs,44)::(x0,[i64 0,i64 0,aE [],az,az,az],44)::F) H5 nx3->aK P pl X0 (.jump (pz (ptr bp) (aE w) (ptr x0) (ptr x1) H5 nx3)) nx0 H0 (bq nx0 H0 bp L F aF.v o):=by
  intro H5 h5
  refine Wq.jmp (JF ..) (λ_=>rfl) ?_
  exact Dn hL (n+1) (λj hj=>he j (by omega)) kd [a] s (gq y 1 1) [(y,a.cs,44)] o _ x0 x1 nx3 H5 (show 1+(n+1)<=95000 by omega) (Gw.jA a.fD) rfl ho (Hp.perm h5 (List.Perm.cons _ (List.Perm.cons _ (List.Perm.swap _ _ _))))
 simp only[af,CT]
 by_cases hw:w=[59]
 . rw[if_pos hw]at hk
   subst hk
   rw[decide_eq_true hw]
   simp only[af]
   exact Hq.put [_] h4 zu rfl rfl (by simp) rfl λH5 h5=>fin H5 h5
 . rw[if_neg hw]at hk
   subst hk
   rw[decide_eq_false hw]
   simp only[af]
   exact fin H4 h4
theorem Rq.rowOf (hL:L.length<=100000){n:Nat}(hn:n<=94000)(he:∀j,j<=n->aX 39 L aF.v (rp L j).exp){w:List UInt8}{kd:Int}(hk:(if w=[59]then 13 else 5)=kd){β:Type}{a:aF}{g:aF->bx->RR β}{o:β×bx}{kt p:Value->Go.Ev.T OB->Nat->Q}(ho:rb (jR L (rp L n) w (.mk kd 0 [] [a] [] []) s) g=some o)(h:Hp nx0 H0 (bZ bp L s::F) H nx)
 (hkk:∀c s' H' nx',g c s'=some o->Hp nx0 H0 (bZ bp L s'::F) H' nx'->aK P pl X0 (kt c.v H' nx') nx0 H0 R):aK P pl X0 (ah (.call 199 [ptr bp,a.v,aE w] false none H nx) kt p) nx0 H0 R:=by
 cases hr:jR L (rp L n) w (.mk kd 0 [] [a] [] []) s with
 | none=>rw[hr]at ho;cases ho
 | some q=>
   rw[hr]at ho
   exact Sq.dP rfl (KX hL hn he hk hr h) λH' nx' h'=>hkk q.1 q.2 H' nx' ho h'
theorem wB (hL:L.length<=100000){z:List Value}{a:aF}{x0 x1:Nat}{o:aF×bx}(hz:z.length=6)(ho:rn L [41] s (λs=>ry a s)=some o)(h:Hp nx0 H0 (bZ bp L s::(x1,a.cs,44)::(x0,z,44)::F) H nx):
 aK P pl X0 (.jump (px (ptr bp) (ptr x0) (ptr x1) H nx)) nx0 H0 (bq nx0 H0 bp L F aF.v o):=by
 refine Wq.jmp (JC ..) (λ_=>rfl) ?_
 refine Rq.aS hL h λH1 aC h1=> ?_
 simp only[af,Aa (h1.at_ 1 rfl)]
 exact Qw h1 hz λH9 nx9 h9=>bq.ret ho rfl h9
theorem Vj (hs:s.2.isNone=true)(c:Int):(cc L c s=true)=((tk L s.1).k=c):=by
 unfold cc
 rw[hs,Bool.true_and,decide_eq_true_eq]
theorem KY {k:Nat}(h:js L k=false):(tk L k).k≠1/\(tk L k).k≠2/\(tk L k).k≠3/\(tk L k).k≠4:=by
 unfold js at h
 simpa[Bool.or_eq_false_iff]using h
theorem MU {c:Int}(h:(s.2.isNone&&js L s.1)=false)(hc:c=1\/c=2\/c=3\/c=4):¬cc L c s=true:=by
 unfold cc
 cases hs:s.2.isNone with
 | false=>simp
 | true=>
   rw[hs,Bool.true_and]at h
   obtain⟨h1,h2,h3,h4⟩:=KY h
   rcases hc with rfl | rfl | rfl | rfl<;>simpa
theorem yH {k:Nat}(h:js L k=true):(tk L k).k=1\/(tk L k).k=2\/(tk L k).k=3\/(tk L k).k=4:=by
 unfold js at h
 simpa using h
theorem KZ (hL:L.length<=100000){n:Nat}(hn:n<=94000)(he:∀j,j<=n->aX 39 L aF.v (rp L j).exp)(hlt:aX 198 L aF.v (rp L n).lt):aX 196 L aF.v (rp L (n+1)).atom:=by
 intro nx0 nx H0 H bp F s o ho h
 have ho:rL L (rp L n) s=some o:=ho
 unfold rL at ho
 rw[Uk]
 refine Hq.alloc aV h λx0 H1 aC h1=> ?_
 refine Rq.now h1 λH2 nx2 h2=> ?_
 refine Sq.CS h2 λH3 nx3 h3=> ?_
 have J34:∀(b:Bool) H4 nx4 s',¬b=true->rb ((rp L n).exp s') (λa s=>
  if cu L [44] s=true then rb (jR L (rp L n) [44] (.mk 5 0 [] [a] [] []) s) λe s=>rn L [41] s λs=>ry e s
  else if cu L [59] s=true then rb (jR L (rp L n) [59] (.mk 13 0 [] [a] [] []) s) λe s=>rn L [41] s λs=>ry e s
  else rn L [41] s λs=>ry a s)=some o->Hp nx0 H0 (bZ bp L s'::(x0,[i64 0,i64 0,aE [],az,az,az],44)::F) H4 nx4->aK P pl X0 (.jump (mE (ptr bp) (ptr x0) b H4 nx4)) nx0 H0 (bq nx0 H0 bp L F aF.v o):=by
  intro b H4 nx4 s' hb ho h4
  have hb:b=false:=by simpa using hb
  subst hb
  refine Wq.jmp (CC ..) (λ_=>rfl) ?_
  simp only[af]
  refine Rq.call (he n (Nat.le_refl n)) rfl h4 ho λa s2 H5 nx5 _ ho h5=> ?_
  refine Hq.alloc aV h5 λx1 H6 nx6 h6=> ?_
  refine Hq.jT [_] h6 rfl λH7 h7=> ?_
  refine Hq.row (l:=([[44],[59]]:List (List UInt8)).map aE) fK ke ir rfl (by kernel_rfl) h7 λy H8 nx8 h8=> ?_
  refine Rq.De (ws:=[[44],[59]]) (n:=2) rfl (by decide) h8 λH9 nx9 h9=> ?_
  by_cases h44:cu L [44] s2=true
  . rw[if_pos h44]at ho
    have e:nJ L [[44],[59]] s2=[44]:=by rw[pL,List.find?_cons,h44];rfl
    rw[e]
    simp only[af,CT,Aa (h9.at_ 1 rfl),show decide (([44]:List UInt8)=[])=false from rfl,Bool.not_false]
    refine Rq.rowOf hL hn he (w:=[44]) (kd:=5) rfl ho h9 λc s3 H10 nx10 ho h10=> ?_
    refine Hq.jT [_] h10 a.len λH11 h11=> ?_
    exact wB hL rfl ho h11
  . rw[if_neg h44]at ho
    have h44':cu L [44] s2=false:=by simpa using h44
    by_cases h59:cu L [59] s2=true
    . rw[if_pos h59]at ho
      have e:nJ L [[44],[59]] s2=[59]:=by rw[pL,List.find?_cons,h44',List.find?_cons,h59];rfl
      rw[e]
      simp only[af,CT,Aa (h9.at_ 1 rfl),show decide (([59]:List UInt8)=[])=false from rfl,Bool.not_false]
      refine Rq.rowOf hL hn he (w:=[59]) (kd:=13) rfl ho h9 λc s3 H10 nx10 ho h10=> ?_
      refine Hq.jT [_] h10 a.len λH11 h11=> ?_
      exact wB hL rfl ho h11
    . rw[if_neg h59]at ho
      have h59':cu L [59] s2=false:=by simpa using h59
      have e:nJ L [[44],[59]] s2=[]:=by rw[pL,List.find?_cons,h44',List.find?_cons,h59'];rfl
      rw[e]
      simp only[af,CT,show decide (([]:List UInt8)=[])=true from rfl,Bool.not_true]
      exact wB hL rfl ho h9
 have J34t:∀H4 nx4 s',ry (.mk 5 0 [] [] [] []) s'=some o->Hp nx0 H0 (bZ bp L s'::(x0,[i64 0,i64 0,aE [],az,az,az],44)::F) H4 nx4->aK P pl X0 (.jump (mE (ptr bp) (ptr x0) true H4 nx4)) nx0 H0 (bq nx0 H0 bp L F aF.v o):=by
  intro H4 nx4 s' ho h4
  refine Wq.jmp (CC ..) (λ_=>rfl) ?_
  simp only[af]
  exact Hq.fin (G:=[]) h4 bu bN cQ rfl rfl rfl dE.nil.fz (by omega) λH5 nx5 h5=>bq.ret ho rfl h5
 have J:∀b,(s.2.isNone&&js L s.1)=b->aK P pl X0 (.jump (lR (ptr bp) (ptr x0) (aj (tk L s.1).v) b H3 nx3)) nx0 H0 (bq nx0 H0 bp L F aF.v o):=by
  intro b hb
  refine Wq.jmp (N3 ..) (λ_=>rfl) ?_
  cases b with
  | true=>
    rw[Bool.and_eq_true]at hb
    have hlt:=pC hb.2
    have hc:=yH hb.2
    simp only[Vj hb.1]at ho
    simp only[af,PB h3,dq hL hlt]
    refine iV h3 λH4 h4=> ?_
    refine Wq.ite (λhi=> ?_) (λhi=> ?_)
    . rw[if_pos hi]at ho
      simp only[af,C6]
      exact Hq.fin (G:=[]) h4 bu bN cQ rfl rfl rfl dE.nil.fz (by omega) λH5 nx5 h5=>bq.ret ho rfl h5
    rw[if_neg hi]at ho
    refine Wq.ite (λhi=> ?_) (λhi=> ?_)
    . rw[if_pos hi]at ho
      simp only[af,kZ]
      exact Hq.fin (G:=[]) h4 bu bN cQ rfl rfl rfl dE.nil.fz (by omega) λH5 nx5 h5=>bq.ret ho rfl h5
    rw[if_neg hi]at ho
    refine Wq.ite (λhi=> ?_) (λhi=> ?_)
    . rw[if_pos hi]at ho
      simp only[af,kZ]
      exact Hq.fin (G:=[]) h4 bu bN cQ rfl rfl rfl dE.nil.fz (by omega) λH5 nx5 h5=>bq.ret ho rfl h5
    rw[if_neg hi,if_pos (by omega)]at ho
    simp only[af,kZ]
    exact Hq.fin (G:=[]) h4 bu bN cQ rfl rfl rfl dE.nil.fz (by omega) λH5 nx5 h5=>bq.ret ho rfl h5
  | false=>
    rw[if_neg (MU hb (by simp)),if_neg (MU hb (by simp)),if_neg (MU hb (by simp)),if_neg (MU hb (by simp))]at ho
    simp only[af]
    refine Rq.take hL h3 (λhi H4 nx4 h4=> ?_) (λhi H4 nx4 h4=> ?_)
    . rw[if_pos hi,<- MT ((rp L n).lt _)]at ho
      simp only[af]
      refine Rq.call hlt rfl h4 ho λa s' H5 nx5 _ ho h5=> ?_
      exact Hq.kB h5 rfl λH9 nx9 h9=>bq.ret ho rfl h9
    . rw[if_neg hi]at ho
      simp only[af]
      refine Rq.aS hL h4 λH5 nx5 h5=> ?_
      have ho:(if(dT L [40] s).2.isSome=true then _ else if cu L [41] (dT L [40] s)=true then _ else _)=some o:=ho
      cases hs:(dT L [40] s).2 with
      | some t=>
        rw[if_pos (by rw[hs];rfl)]at ho
        simp only[af,rX h5,hs,Option.isSome_some]
        exact J34t _ _ _ ho h5
      | none=>
        rw[if_neg (by rw[hs];simp)]at ho
        simp only[af,rX h5,hs,Option.isSome_none]
        refine Rq.take hL h5 (λhi H6 nx6 h6=> ?_) (λhi H6 nx6 h6=> ?_)
        . rw[if_pos hi]at ho
          simp only[af]
          exact J34t _ _ _ ho h6
        . rw[if_neg hi]at ho
          simp only[af]
          exact J34 false _ _ _ (by simp) ho h6
 simp only[af,rX h3,kD]
 cases hs:s.2.isNone with
 | false=>
   simp only[af]
   exact J false (by rw[hs];rfl)
 | true=>
   rw[hs,Bool.true_and]at J
   simp only[af]
   unfold js at J
   revert J
   generalize (tk L s.1).k=kk
   intro J
   refine Wq.ite (λhi=>J true (by simp[hi])) (λhi=> ?_)
   refine Wq.ite (λhj=>J true (by simp[hj])) (λhj=> ?_)
   refine Wq.ite (λhk=>J true (by simp[hk])) (λhk=> ?_)
   exact J _ (by simp[hi,hj,hk])
theorem pQ (hL:L.length<=100000){z:List Value}{a:aF}{ds:List aT}{sd:Value}{x0 x1 x2:Nat}{o:aF×bx}(hd:Gw true 17 57 (ds.map aT.v) sd G')(hz:z.length=6)(ho:rn L [101,110,100] s (λs=>ry (.mk 10 0 [] [a] [] ds) s)=some o)
 (h:Hp nx0 H0 (bZ bp L s::(x2,a.cs,44)::(x1,[i64 10,i64 0,aE [],az,az,sd],44)::(x0,z,44)::(G'++F)) H nx):aK P pl X0 (.jump (kV (ptr bp) (ptr x0) (ptr x1) (ptr x2) H nx)) nx0 H0 (bq nx0 H0 bp L F aF.v o):=by
 refine Wq.jmp (JE ..) (λ_=>rfl) ?_
 refine Rq.aS hL h λH1 aC h1=> ?_
 simp only[af,dU (h1.at_ 1 rfl) a.len]
 refine Hq.cZ a.cs a.len h1 λx H2 nx2 h2=> ?_
 refine Hq.put [_,_,_] h2 re rfl rfl (by simp) rfl λH3 h3=> ?_
 simp only[af,dU (h3.at_ 3 rfl) rfl]
 have hl:=dE.Si (b:=x) (dE.of a) hd
 have h4:Hp nx0 H0 (bZ bp L (dT L [101,110,100] s)::(x0,z,44)::(((x,a.cs,44)::[]++G')++F)) H3 nx2:=(Hp.mv [_,_,_] h3).sub (by simp)
 exact Hq.fin h4 bu bN cQ hz hl.len hl.one hl.fz (by omega) λH5 nx5 h5=>bq.ret ho rfl h5
theorem Dp (hL:L.length<=100000){n:Nat}(hn:n<=94000)(he:∀j,j<=n->aX 39 L aF.v (rp L j).exp):∀(m:Nat),(∀j,j<m->aX 67 L gL (rp L j).bind)->∀(ds:List aT) (s:bx) (sd:Value) (G':List Bx) (o:aF×bx) (z:List Value) (x0 x1 nx:Nat) (H:Go.Ev.T OB),ds.length+m<=95000->Gw true 17 57 (ds.map aT.v) sd G'->z.length=6->
 rb ((rp L m).fO ds s) (λds s=>rb ((rp L n).exp s) λa s=>
  if cu L [59] s=true then rb (jR L (rp L n) [59] (.mk 13 0 [] [a] [] []) s) λa s=>rn L [101,110,100] s λs=>ry (.mk 10 0 [] [a] [] ds) s
  else rn L [101,110,100] s λs=>ry (.mk 10 0 [] [a] [] ds) s)=some o->Hp nx0 H0 (bZ bp L s::(x1,[i64 10,i64 0,aE [],az,az,sd],44)::(x0,z,44)::(G'++F)) H nx->
 aK P pl X0 (.jump (vG (ptr bp) (ptr x0) (ptr x1) H nx)) nx0 H0 (bq nx0 H0 bp L F aF.v o)
 | 0,_,ds,s,sd,G',o,z,x0,x1,nx,H,hm,hd,hz,ho,h=>by cases ho
 | m+1,hb,ds,s,sd,G',o,z,x0,x1,nx,H,hm,hd,hz,ho,h=>by
   have ho:rb (zW L (rp L m) ds s) (λds s=>rb ((rp L n).exp s) λa s=>
    if cu L [59] s=true then rb (jR L (rp L n) [59] (.mk 13 0 [] [a] [] []) s) λa s=>rn L [101,110,100] s λs=>ry (.mk 10 0 [] [a] [] ds) s
    else rn L [101,110,100] s λs=>ry (.mk 10 0 [] [a] [] ds) s)=some o:=ho
   unfold zW at ho
   refine Wq.jmp (N4 ..) (λ_=>rfl) ?_
   cases hs:s.2 with
   | some t=>
     rw[if_pos (by rw[hs];rfl),iv]at ho
     simp only[af,rX h,hs,Option.isSome_some,Bool.not_true]
     refine Rq.call (he n (Nat.le_refl n)) rfl h ho λa s' H2 nx2 _ ho h2=> ?_
     refine Hq.alloc aV h2 λx2 H3 nx3 h3=> ?_
     refine Hq.jT [_] h3 rfl λH4 h4=> ?_
     refine Rq.is h4 λH5 nx5 h5=> ?_
     cases hc:cu L [59] s' with
     | true=>
       rw[if_pos hc]at ho
       simp only[af,Aa (h5.at_ 1 rfl)]
       refine Rq.rowOf hL hn he (w:=[59]) (kd:=13) rfl ho h5 λc s3 H10 nx10 ho h10=> ?_
       refine Hq.jT [_] h10 a.len λH11 h11=> ?_
       exact pQ hL hd hz ho h11
     | false=>
       rw[if_neg (by rw[hc];simp)]at ho
       simp only[af]
       exact pQ hL hd hz ho h5
   | none=>
     rw[if_neg (by rw[hs];simp)]at ho
     simp only[af,rX h,hs,Option.isSome_none,Bool.not_false]
     refine Rq.take hL h (λhi H1 aC h1=> ?_) (λhi H1 aC h1=> ?_)
     . rw[if_pos hi,iv]at ho
       simp only[af,Bool.not_true]
       refine Rq.call (he n (Nat.le_refl n)) rfl h1 ho λa s' H2 nx2 _ ho h2=> ?_
       refine Hq.alloc aV h2 λx2 H3 nx3 h3=> ?_
       refine Hq.jT [_] h3 rfl λH4 h4=> ?_
       refine Rq.is h4 λH5 nx5 h5=> ?_
       cases hc:cu L [59] s' with
       | true=>
         rw[if_pos hc]at ho
         simp only[af,Aa (h5.at_ 1 rfl)]
         refine Rq.rowOf hL hn he (w:=[59]) (kd:=13) rfl ho h5 λc s3 H10 nx10 ho h10=> ?_
         refine Hq.jT [_] h10 a.len λH11 h11=> ?_
         exact pQ hL hd hz ho h11
       | false=>
         rw[if_neg (by rw[hc];simp)]at ho
         simp only[af]
         exact pQ hL hd hz ho h5
     . rw[if_neg hi,jK]at ho
       simp only[af,Bool.not_false]
       refine Rq.call (hb m (Nat.lt_succ_self m)) rfl h1 ho λd s' H2 nx2 _ ho h2=> ?_
       unfold gL
       simp only[af,Ej,Ek]
       refine Hq.Sj h2 λH3 nx3 h3=> ?_
       have J:∀s2 H3 nx3,rb ((rp L m).fO (ds++[d.getD kr]) (iS L [59] s2)) (λds s=>rb ((rp L n).exp s) λa s=>
        if cu L [59] s=true then rb (jR L (rp L n) [59] (.mk 13 0 [] [a] [] []) s) λa s=>rn L [101,110,100] s λs=>ry (.mk 10 0 [] [a] [] ds) s
        else rn L [101,110,100] s λs=>ry (.mk 10 0 [] [a] [] ds) s)=some o->Hp nx0 H0 (bZ bp L s2::(x1,[i64 10,i64 0,aE [],az,az,sd],44)::(x0,z,44)::(G'++F)) H3 nx3->aK P pl X0 (.jump (py (ptr bp) (ptr x0) (ptr x1) (aj (d.getD kr).v) H3 nx3)) nx0 H0 (bq nx0 H0 bp L F aF.v o):=by
        intro s2 H3 nx3 ho h3
        refine Wq.jmp (JD ..) (λ_=>rfl) ?_
        simp only[af,av (off:=5) (u:=sd) (h3.at_ 1 rfl) kc rfl,Vf]
        refine Hq.pG (d.getD kr).cs (d.getD kr).len h3 λx H4 nx4 h4=> ?_
        refine Hq.Mv [_,_] (x:=d.getD kr) (by omega) hd h4 λsd' G2 H5 nx5 hd' h5=> ?_
        refine Hq.put [_] h5 ra (by rcases hd'.2 with⟨_,rfl,_⟩ | ⟨b,c,rfl,_⟩<;>rfl) (ck hd') (by simp) rfl λH6 h6=> ?_
        refine Rq.MR hL h6 λbb H7 nx7 h7=> ?_
        simp only[af]
        exact Dp hL hn he m (λj hj=>hb j (by omega)) (ds++[d.getD kr]) _ sd' G2 o z x0 x1 nx7 H7 (by rw[List.length_append];simp;omega) hd' hz ho h7
       cases hd2:d.isSome with
       | false=>
         rw[hd2,if_neg (by simp)]at ho
         simp only[af,Bool.not_false]
         exact Rq.fail h3 λH4 nx4 h4=>J _ H4 nx4 ho h4
       | true=>
         rw[hd2,if_pos rfl]at ho
         simp only[af,Bool.not_true]
         exact J _ H3 nx3 ho h3
theorem K0 (hL:L.length<=100000){n:Nat}(hn:n<=94000)(he:∀j,j<=n->aX 39 L aF.v (rp L j).exp)(hb:∀j,j<=n->aX 67 L gL (rp L j).bind):aX 198 L aF.v (rp L (n+1)).lt:=by
 intro nx0 nx H0 H bp F s o ho h
 have ho:O5 L (rp L n) s=some o:=ho
 unfold O5 at ho
 rw[Um]
 refine Hq.alloc aV h λx0 H1 aC h1=> ?_
 refine Hq.alloc aV h1 λx1 H2 nx2 h2=> ?_
 refine Hq.set [_] h2 bu rfl rfl rfl λH3 h3=> ?_
 exact Dp hL hn he (n+1) (λj hj=>hb j (by omega)) [] s az [] o _ x0 x1 nx2 H3 (by simp;omega) (Gw.nil _ _ _) rfl ho h3
end
section
variable {nx0 nx nx' bp k:Nat}{H0 H H':T OB}{F A B G G':List Bx}{R:Go.Ev.Out->T OB->Nat->Prop}{b:Nat}{l:List Value}{e t:TypeId}{L:List Tok}{s s':bx}{w:List UInt8}{x:Bx}
theorem Hq.Sv (A:List Bx){a:aZ}{z:List Value}{kt:Value->Go.Ev.T OB->Nat->Q}(h:Hp nx0 H0 (A++(b,z,47)::B) H nx)(hz:z.length=4)(hk:∀H',Hp nx0 H0 (A++(b,a.cs,47)::B) H' nx->aK P pl X0 (kt undef H' nx) nx0 H0 R):aK P pl X0 (ak (ai P H nx 47 (some (ptr b)) (some a.v)) kt) nx0 H0 R:=
 Hq.set A h bT hz a.len (fl.of a).one hk
def Dq (L:List Tok)(TT:bx->RR aZ)(a:aZ)(s:bx):RR aZ:=if cu L [58,58] s=true then rb (TT (aC s)) λb s=>ry (tC a b) s else ry a s
theorem K1 (hL:L.length<=100000){p:RP}(hpatom:aX 160 L aZ.v p.bl)(hpat:aX 121 L aZ.v p.pat):aX 121 L aZ.v (zX L p):=by
 intro nx0 nx H0 H bp F s o ho h
 unfold zX tD at ho
 have hc:∀(a:aZ) (s:bx),(if cu L [58,58] s=true then rb (p.pat (aC s)) λb s=>ry (tC a b) s else ry a s)=Dq L p.pat a s:=λ_ _=>rfl
 simp only[hc]at ho
 rw[TG]
 refine Hq.alloc cE h λx0 H1 aC h1=> ?_
 refine Rq.now h1 λH2 nx2 h2=> ?_
 refine Sq.CS h2 λH3 nx3 h3=> ?_
 refine Hq.alloc cE h3 λx1 H4 nx4 h4=> ?_
 refine Hq.set [_] h4 bT rfl rfl rfl λH5 h5=> ?_
 have J:∀b,cc L 4 s=b->aK P pl X0 (.jump (o9 (ptr bp) (ptr x0) (aj (tk L s.1).v) (ptr x1) b H5 nx4)) nx0 H0 (bq nx0 H0 bp L F aZ.v o):=by
  intro b hb
  refine Wq.jmp (Ji ..) (λ_=>rfl) ?_
  cases b with
  | true=>
    rw[if_pos hb]at ho
    simp only[af,PB h5,dq hL (tL (by decide) hb)]
    refine iV h5 λH6 h6=> ?_
    simp only[af,iu]
    refine Hq.set [_] h6 bT rfl rfl rfl λH7 h7=> ?_
    refine Rq.Ho h7 λH8 nx8 h8=> ?_
    cases hp:ox L (Go.Proofs.YthjhonhhbddhkaaGreatDoor.aC s)with
    | true=>
      rw[if_pos hp,jK]at ho
      simp only[af]
      refine Rq.call hpatom rfl h8 ho λa s2 H9 nx9 _ ho h9=> ?_
      rw[iv]at ho
      unfold Dq at ho
      refine Hq.wu h9 λH10 nx10 h10=> ?_
      simp only[af,KB]
      refine Hq.dW a.cs a.len h10 λy H11 nx11 h11=> ?_
      refine Hq.put [_,_] h11 oe rfl rfl (by simp) rfl λH12 h12=> ?_
      have hv:fl 1 [i64 6,i64 0,aE (tk L s.1).s,gq y 1 1] (.mk 6 0 (tk L s.1).s [a]) [(y,a.cs,47)]:=fl.b1 (fl.of a)
      have h13:=Hp.mZ h12
      refine Rq.take hL h13 (λhi H14 nx14 h14=> ?_) (λhi H14 nx14 h14=> ?_)
      . rw[if_pos hi]at ho
        simp only[af]
        refine Rq.call hpat rfl h14 ho λc s3 H15 nx15 _ ho h15=> ?_
        refine Hq.wu h15 λH16 nx16 h16=> ?_
        simp only[af,hJ (h16.at_ 1 rfl) hv.len,KB]
        refine Hq.pF _ c.cs hv.len c.len h16 λy1 H17 nx17 h17=> ?_
        simp only[af,k0]
        refine Hq.dW [i64 5,i64 0,aE [],gq y1 2 2] rfl h17 λy2 H18 nx18 h18=> ?_
        simp only[af,pH]
        have h19:Hp nx0 H0 (bZ bp L s3::(x0,[i64 0,i64 0,aE [],az],47)::((y2,[i64 5,i64 0,aE [],gq y1 2 2],47)::(y1,[i64 6,i64 0,aE (tk L s.1).s,gq y 1 1]++c.cs,47)::[(y,a.cs,47)]++F)) H18 nx18:=(Hp.mv [_,_,_] h18).sub (by simp)
        exact Hq.fin h19 bT cm dC rfl rfl rfl (fl.b1 (fl.b2 hv)).fz (by omega) λH5 nx5 h5=>bq.ret ho rfl h5
      . rw[if_neg hi]at ho
        simp only[af,hJ (h14.at_ 1 rfl) hv.len]
        have h15:Hp nx0 H0 (bZ bp L s2::(x0,[i64 0,i64 0,aE [],az],47)::([(y,a.cs,47)]++F)) H14 nx14:=(Hp.mv [_] h14).sub (by simp)
        exact Hq.fin h15 bT cm dC rfl hv.len hv.one hv.fz (by omega) λH5 nx5 h5=>bq.ret ho rfl h5
    | false=>
      rw[if_neg (by rw[hp];simp),iv]at ho
      unfold Dq at ho
      simp only[af]
      have hv:fl 0 [i64 6,i64 0,aE (tk L s.1).s,az] (.mk 6 0 (tk L s.1).s []) []:=fl.nil
      refine Rq.take hL h8 (λhi H14 nx14 h14=> ?_) (λhi H14 nx14 h14=> ?_)
      . rw[if_pos hi]at ho
        simp only[af]
        refine Rq.call hpat rfl h14 ho λc s3 H15 nx15 _ ho h15=> ?_
        refine Hq.wu h15 λH16 nx16 h16=> ?_
        simp only[af,hJ (h16.at_ 1 rfl) hv.len,KB]
        refine Hq.pF _ c.cs hv.len c.len h16 λy1 H17 nx17 h17=> ?_
        simp only[af,k0]
        refine Hq.dW [i64 5,i64 0,aE [],gq y1 2 2] rfl h17 λy2 H18 nx18 h18=> ?_
        simp only[af,pH]
        have h19:Hp nx0 H0 (bZ bp L s3::(x0,[i64 0,i64 0,aE [],az],47)::((y2,[i64 5,i64 0,aE [],gq y1 2 2],47)::(y1,[i64 6,i64 0,aE (tk L s.1).s,az]++c.cs,47)::[]++F)) H18 nx18:=(Hp.mv [_,_,_] h18).sub (by simp)
        exact Hq.fin h19 bT cm dC rfl rfl rfl (fl.b1 (fl.b2 hv)).fz (by omega) λH5 nx5 h5=>bq.ret ho rfl h5
      . rw[if_neg hi]at ho
        simp only[af,hJ (h14.at_ 1 rfl) hv.len]
        have h15:Hp nx0 H0 (bZ bp L (Go.Proofs.YthjhonhhbddhkaaGreatDoor.aC s)::(x0,[i64 0,i64 0,aE [],az],47)::([]++F)) H14 nx14:=(Hp.mv [_] h14).sub (by simp)
        exact Hq.fin h15 bT cm dC rfl hv.len hv.one hv.fz (by omega) λH5 nx5 h5=>bq.ret ho rfl h5
  | false=>
    rw[if_neg (by rw[hb];simp)]at ho
    simp only[af]
    refine Rq.call hpatom rfl h5 ho λa s2 H6 nx6 _ ho h6=> ?_
    unfold Dq at ho
    refine Hq.Sv [_] h6 rfl λH7 h7=> ?_
    have hv:=fl.of a
    refine Rq.take hL h7 (λhi H14 nx14 h14=> ?_) (λhi H14 nx14 h14=> ?_)
    . rw[if_pos hi]at ho
      simp only[af]
      refine Rq.call hpat rfl h14 ho λc s3 H15 nx15 _ ho h15=> ?_
      refine Hq.wu h15 λH16 nx16 h16=> ?_
      simp only[af,hJ (h16.at_ 1 rfl) hv.len,KB]
      refine Hq.pF _ c.cs hv.len c.len h16 λy1 H17 nx17 h17=> ?_
      simp only[af,k0]
      refine Hq.dW [i64 5,i64 0,aE [],gq y1 2 2] rfl h17 λy2 H18 nx18 h18=> ?_
      simp only[af,pH]
      have h19:Hp nx0 H0 (bZ bp L s3::(x0,[i64 0,i64 0,aE [],az],47)::((y2,[i64 5,i64 0,aE [],gq y1 2 2],47)::(y1,a.cs++c.cs,47)::[]++F)) H18 nx18:=(Hp.mv [_,_,_] h18).sub (by simp)
      exact Hq.fin h19 bT cm dC rfl rfl rfl (fl.b1 (fl.b2 hv)).fz (by omega) λH5 nx5 h5=>bq.ret ho rfl h5
    . rw[if_neg hi]at ho
      simp only[af,hJ (h14.at_ 1 rfl) hv.len]
      have h15:Hp nx0 H0 (bZ bp L s2::(x0,[i64 0,i64 0,aE [],az],47)::([]++F)) H14 nx14:=(Hp.mv [_] h14).sub (by simp)
      exact Hq.fin h15 bT cm dC rfl hv.len hv.one hv.fz (by omega) λH5 nx5 h5=>bq.ret ho rfl h5
 simp only[af,rX h5,kD]
 unfold cc at J
 cases hs:s.2.isNone with
 | false=>rw[hs]at J;simp only[af];exact J false rfl
 | true=>rw[hs]at J;simp only[af];exact J _ (Bool.true_and _)
theorem Dr (hL:L.length<=100000):∀(m:Nat),(∀j,j<m->aX 121 L aZ.v (rp L j).pat)->∀(l:List aZ) (s:bx) (sl:Value) (G:List Bx) (o:aZ×bx) (z:List Value) (x0 x1 nx:Nat) (H:Go.Ev.T OB),l.length+m<=95000->Gw true 4 47 (l.map aZ.v) sl G->z.length=4->
 rb ((rp L m).fC l s) (λl s=>rn L [41] s λs=>ry (.mk 5 0 [] l) s)=some o->Hp nx0 H0 (bZ bp L s::(x1,[i64 5,i64 0,aE [],sl],47)::(x0,z,47)::(G++F)) H nx->
 aK P pl X0 (.jump (pe (ptr bp) (ptr x0) (ptr x1) H nx)) nx0 H0 (bq nx0 H0 bp L F aZ.v o)
 | 0,_,l,s,sl,G,o,z,x0,x1,nx,H,hm,hG,hz,ho,h=>by cases ho
 | m+1,hp,l,s,sl,G,o,z,x0,x1,nx,H,hm,hG,hz,ho,h=>by
   have ho:rb (oy L (rp L m) l s) (λl s=>rn L [41] s λs=>ry (.mk 5 0 [] l) s)=some o:=ho
   unfold oy at ho
   refine Wq.jmp (Jp ..) (λ_=>rfl) ?_
   refine Rq.take hL h (λhi H1 aC h1=> ?_) (λhi H1 aC h1=> ?_)
   . rw[if_pos hi,jK]at ho
     simp only[af]
     refine Rq.call (hp m (Nat.lt_succ_self m)) rfl h1 ho λc s' H2 nx2 _ ho2 h2=> ?_
     refine Hq.wu h2 λH3 nx3 h3=> ?_
     simp only[af,av (off:=3) (u:=sl) (h3.at_ 1 rfl) gf rfl,KB]
     refine Hq.dW c.cs c.len h3 λx H4 nx4 h4=> ?_
     refine Hq.tF [_,_] (x:=c) (by omega) hG h4 λsl' G' H5 nx5 hG' h5=> ?_
     refine Hq.put [_] h5 oe (by rcases hG'.2 with⟨_,rfl,_⟩ | ⟨b,c,rfl,_⟩<;>rfl) (ck hG') (by simp) rfl λH6 h6=> ?_
     exact Dr hL m (λj hj=>hp j (by omega)) (l++[c]) s' sl' G' o z x0 x1 nx5 H6 (by rw[List.length_append];simp;omega) hG' hz ho2 h6
   . rw[if_neg hi,iv]at ho
     simp only[af]
     refine Rq.aS hL h1 λH2 nx2 h2=> ?_
     have hv:fl 1 [i64 5,i64 0,aE [],sl] (.mk 5 0 [] l) G:=fl.gw hG
     simp only[af,hJ (h2.at_ 1 rfl) hv.len]
     have h4:Hp nx0 H0 (bZ bp L (dT L [41] s)::(x0,z,47)::(G++F)) H2 nx2:=(Hp.mv [_] h2).sub (by simp)
     exact Hq.fin h4 bT cm dC hz hv.len hv.one hv.fz (by omega) λH5 nx5 h5=>bq.ret ho rfl h5
theorem K2 (hL:L.length<=100000){n:Nat}(hn:n<=94000)(hpat:∀j,j<=n->aX 121 L aZ.v (rp L j).pat):aX 160 L aZ.v (rp L (n+1)).bl:=by
 intro nx0 nx H0 H bp F s o ho h
 have ho:lU L (rp L n) s=some o:=ho
 unfold lU at ho
 rw[T3]
 refine Hq.alloc cE h λx0 H1 aC h1=> ?_
 refine Rq.now h1 λH2 nx2 h2=> ?_
 refine Sq.CS h2 λH3 nx3 h3=> ?_
 have J42t:∀H4 nx4 s',ry (.mk 5 0 [] []) s'=some o->Hp nx0 H0 (bZ bp L s'::(x0,[i64 0,i64 0,aE [],az],47)::F) H4 nx4->aK P pl X0 (.jump (pc (ptr bp) (ptr x0) true H4 nx4)) nx0 H0 (bq nx0 H0 bp L F aZ.v o):=by
  intro H4 nx4 s' ho h4
  refine Wq.jmp (Cu ..) (λ_=>rfl) ?_
  simp only[af]
  exact Hq.fin (G:=[]) h4 bT cm dC rfl rfl rfl fl.nil.fz (by omega) λH5 nx5 h5=>bq.ret ho rfl h5
 have J:∀b,(s.2.isNone&&js L s.1)=b->aK P pl X0 (.jump (lQ (ptr bp) (ptr x0) (aj (tk L s.1).v) b H3 nx3)) nx0 H0 (bq nx0 H0 bp L F aZ.v o):=by
  intro b hb
  refine Wq.jmp (NX ..) (λ_=>rfl) ?_
  cases b with
  | true=>
    rw[Bool.and_eq_true]at hb
    have hlt:=pC hb.2
    have hc:=yH hb.2
    simp only[Vj hb.1]at ho
    simp only[af,PB h3,dq hL hlt]
    refine iV h3 λH4 h4=> ?_
    refine Wq.ite (λhi=> ?_) (λhi=> ?_)
    . rw[if_pos hi]at ho
      simp only[af,pI]
      exact Hq.fin (G:=[]) h4 bT cm dC rfl rfl rfl fl.nil.fz (by omega) λH5 nx5 h5=>bq.ret ho rfl h5
    rw[if_neg hi]at ho
    refine Wq.ite (λhi=> ?_) (λhi=> ?_)
    . rw[if_pos hi]at ho
      simp only[af,iu]
      exact Hq.fin (G:=[]) h4 bT cm dC rfl rfl rfl fl.nil.fz (by omega) λH5 nx5 h5=>bq.ret ho rfl h5
    rw[if_neg hi]at ho
    refine Wq.ite (λhi=> ?_) (λhi=> ?_)
    . rw[if_pos hi]at ho
      simp only[af,iu]
      exact Hq.fin (G:=[]) h4 bT cm dC rfl rfl rfl fl.nil.fz (by omega) λH5 nx5 h5=>bq.ret ho rfl h5
    rw[if_neg hi,if_pos (by omega)]at ho
    simp only[af,iu]
    exact Hq.fin (G:=[]) h4 bT cm dC rfl rfl rfl fl.nil.fz (by omega) λH5 nx5 h5=>bq.ret ho rfl h5
  | false=>
    rw[if_neg (MU hb (by simp)),if_neg (MU hb (by simp)),if_neg (MU hb (by simp)),if_neg (MU hb (by simp))]at ho
    simp only[af]
    refine Rq.take hL h3 (λhi H4 nx4 h4=> ?_) (λhi H4 nx4 h4=> ?_)
    . rw[if_pos hi]at ho
      simp only[af]
      exact Hq.fin (G:=[]) h4 bT cm dC rfl rfl rfl fl.nil.fz (by omega) λH5 nx5 h5=>bq.ret ho rfl h5
    rw[if_neg hi]at ho
    simp only[af]
    refine Rq.take hL h4 (λhi H5 nx5 h5=> ?_) (λhi H5 nx5 h5=> ?_)
    . rw[if_pos hi]at ho
      simp only[af]
      refine Rq.now h5 λH6 nx6 h6=> ?_
      simp only[af]
      refine Rq.kind (by decide) hL h6 λH7 nx7 h7=> ?_
      simp only[af,MB,pI]
      exact Hq.fin (G:=[]) h7 bT cm dC rfl rfl rfl fl.nil.fz (by omega) λH8 nx8 h8=>bq.ret ho rfl h8
    rw[if_neg hi]at ho
    simp only[af]
    refine Rq.aS hL h5 λH6 nx6 h6=> ?_
    have ho:(if(dT L [40] s).2.isSome=true then _ else if cu L [41] (dT L [40] s)=true then _ else _)=some o:=ho
    cases hs:(dT L [40] s).2 with
    | some t=>
      rw[if_pos (by rw[hs];rfl)]at ho
      simp only[af,rX h6,hs,Option.isSome_some]
      exact J42t _ _ _ ho h6
    | none=>
      rw[if_neg (by rw[hs];simp)]at ho
      simp only[af,rX h6,hs,Option.isSome_none]
      refine Rq.take hL h6 (λhi H7 nx7 h7=> ?_) (λhi H7 nx7 h7=> ?_)
      . rw[if_pos hi]at ho
        simp only[af]
        exact J42t _ _ _ ho h7
      rw[if_neg hi]at ho
      simp only[af]
      refine Wq.jmp (Cu ..) (λ_=>rfl) ?_
      simp only[af]
      refine Rq.call (hpat n (Nat.le_refl n)) rfl h7 ho λa s' H8 nx8 _ ho h8=> ?_
      refine Hq.alloc cE h8 λx1 H9 nx9 h9=> ?_
      refine Hq.Sv [_] h9 rfl λH10 h10=> ?_
      refine Rq.is h10 λH11 nx11 h11=> ?_
      cases hc:cu L [44] s' with
      | true=>
        rw[if_pos hc]at ho
        simp only[af,hJ (h11.at_ 1 rfl) a.len]
        refine Hq.dW a.cs a.len h11 λx H12 nx12 h12=> ?_
        simp only[af,k0]
        refine Hq.set [_,_] h12 bT a.len rfl rfl λH13 h13=> ?_
        exact Dr hL (n+1) (λj hj=>hpat j (by omega)) [a] s' (gq x 1 1) [(x,a.cs,47)] o _ x0 x1 nx12 H13 (show 1+(n+1)<=95000 by omega) (Gw.jA a.fD) rfl ho (Hp.mZ h13)
      | false=>
        rw[if_neg (by rw[hc];simp)]at ho
        simp only[af]
        refine Wq.jmp (Jq ..) (λ_=>rfl) ?_
        refine Rq.aS hL h11 λH12 nx12 h12=> ?_
        simp only[af,hJ (h12.at_ 1 rfl) a.len]
        have h13:Hp nx0 H0 (bZ bp L (dT L [41] s')::(x0,[i64 0,i64 0,aE [],az],47)::([]++F)) H12 nx12:=(Hp.mv [_] h12).sub (by simp)
        exact Hq.fin h13 bT cm dC rfl a.len (fl.of a).one a.fz (by omega) λH5 nx5 h5=>bq.ret ho rfl h5
 simp only[af,rX h3,kD]
 cases hs:s.2.isNone with
 | false=>
   simp only[af]
   exact J false (by rw[hs];rfl)
 | true=>
   rw[hs,Bool.true_and]at J
   simp only[af]
   unfold js at J
   revert J
   generalize (tk L s.1).k=kk
   intro J
   refine Wq.ite (λhi=>J true (by simp[hi])) (λhi=> ?_)
   refine Wq.ite (λhj=>J true (by simp[hj])) (λhj=> ?_)
   refine Wq.ite (λhk=>J true (by simp[hk])) (λhk=> ?_)
   exact J _ (by simp[hi,hj,hk])
end
section
variable {nx0 nx nx' bp k:Nat}{H0 H H':T OB}{F A B G G':List Bx}{R:Go.Ev.Out->T OB->Nat->Prop}{b:Nat}{l:List Value}{e t:TypeId}{L:List Tok}{s s':bx}{w:List UInt8}{x:Bx}
theorem MV (a:bg):ae P H 138 (some (aj a.v))=some a.v:=by
 rw[bg.bk]
 exact zr ..
theorem Hq.Ab {a:bg}{kt:Go.Ev.T OB->Nat->Q}(h:Hp nx0 H0 F H nx)(hk:∀H' nx',Hp nx0 H0 F H' nx'->aK P pl X0 (kt H' nx') nx0 H0 R):aK P pl X0 (ak (aq P H nx 138) λp H nx=>bC P H nx 138 (some p) a.v kt) nx0 H0 R:=Hq.var cb bI rfl a.len (iE.of a).one h hk
theorem Hq.Sw {z:List Value}{a:bg}{x0:Nat}{kt:Value->Go.Ev.T OB->Nat->Q}(h:Hp nx0 H0 (x::(x0,z,138)::F) H nx)(hz:z.length=3)(hk:∀H' nx',Hp nx0 H0 (x::F) H' nx'->aK P pl X0 (kt a.v H' nx') nx0 H0 R):
 aK P pl X0 (ak (ai P H nx 138 (some (ptr x0)) (some a.v)) λ_ H nx=>aa (ae P H 138 (some (ptr x0))) (λx=>aW P 138 x H nx kt) .bad) nx0 H0 R:=
 Hq.fin (G:=[]) h bI e_ g9 hz a.len (iE.of a).one a.fz (by omega) hk
theorem Wi {sl:Value}{l:List bg}(hG:Gw true 3 138 (l.map bg.v) sl G)(k:Int):aw P 138 (some [(0,i64 k),(2,sl)])=some (.agg ⟨[i64 k,aE [],sl]⟩):=by
 rcases hG.2 with⟨_,rfl,_⟩ | ⟨b,c,rfl,_⟩<;>exact mX ..
theorem Wj {sl:Value}{l:List bg}(hG:Gw true 3 138 (l.map bg.v) sl G)(k:Int)(w:List UInt8):aw P 138 (some [(0,i64 k),(1,aE w),(2,sl)])=some (.agg ⟨[i64 k,aE w,sl]⟩):=by
 rcases hG.2 with⟨_,rfl,_⟩ | ⟨b,c,rfl,_⟩<;>exact mY ..
theorem K3 (hL:L.length<=100000){p:RP}(hpr:aX 158 L bg.v (kx L p))(htyp:aX 120 L bg.v p.dH):aX 120 L bg.v (zY L p):=by
 intro nx0 nx H0 H bp F s o ho h
 unfold zY at ho
 rw[TF]
 refine Hq.alloc cb h λx0 H1 aC h1=> ?_
 refine Rq.call hpr rfl h1 ho λa s2 H2 nx2 _ ho h2=> ?_
 refine Hq.Ab h2 λH3 nx3 h3=> ?_
 refine Rq.take hL h3 (λhi H4 nx4 h4=> ?_) (λhi H4 nx4 h4=> ?_)
 . rw[if_pos hi]at ho
   simp only[af]
   refine Rq.call htyp rfl h4 ho λc s3 H5 nx5 _ ho h5=> ?_
   refine Hq.Ab h5 λH6 nx6 h6=> ?_
   simp only[af,MV]
   refine Hq.C3 a.cs c.cs a.len c.len h6 λy H7 nx7 h7=> ?_
   simp only[af,mX]
   have h8:Hp nx0 H0 (bZ bp L s3::(x0,_,138)::([(y,a.cs++c.cs,138)]++F)) H7 nx7:=Hp.swap' h7
   exact Hq.fin h8 bI e_ g9 rfl rfl rfl (iE.b2 (iE.of a)).fz (by omega) λH5 nx5 h5=>bq.ret ho rfl h5
 . rw[if_neg hi]at ho
   simp only[af,MV]
   exact Hq.Sw h4 rfl λH5 nx5 h5=>bq.ret ho rfl h5
theorem Ds (hL:L.length<=100000):∀(m:Nat),(∀j,j<m->aX 181 L bg.v (rp L j).post)->∀(l:List bg) (s:bx) (sl:Value) (G:List Bx) (o:bg×bx) (z:List Value) (x0 nx:Nat) (H:Go.Ev.T OB),l.length+m<=95000->Gw true 3 138 (l.map bg.v) sl G->z.length=3->
 rb ((rp L m).dk l s) (λl s=>ry (.mk 4 [] l) s)=some o->Hp nx0 H0 (bZ bp L s::(x0,z,138)::(G++F)) H nx->
 aK P pl X0 (.jump (pb (ptr bp) (ptr x0) sl H nx)) nx0 H0 (bq nx0 H0 bp L F bg.v o)
 | 0,_,l,s,sl,G,o,z,x0,nx,H,hm,hG,hz,ho,h=>by cases ho
 | m+1,hp,l,s,sl,G,o,z,x0,nx,H,hm,hG,hz,ho,h=>by
   have ho:rb (ku L (rp L m) l s) (λl s=>ry (.mk 4 [] l) s)=some o:=ho
   unfold ku at ho
   refine Wq.jmp (Jo ..) (λ_=>rfl) ?_
   refine Rq.take hL h (λhi H1 aC h1=> ?_) (λhi H1 aC h1=> ?_)
   . rw[if_pos hi,jK]at ho
     simp only[af]
     refine Rq.call (hp m (Nat.lt_succ_self m)) rfl h1 ho λc s' H2 nx2 _ ho2 h2=> ?_
     refine Hq.Ab h2 λH3 nx3 h3=> ?_
     simp only[af,MV]
     refine Hq.eM c.cs c.len h3 λx H4 nx4 h4=> ?_
     refine Hq.yz [_] (x:=c) (by omega) hG h4 λsl' G' H5 nx5 hG' h5=> ?_
     exact Ds hL m (λj hj=>hp j (by omega)) (l++[c]) s' sl' G' o z x0 nx5 H5 (by rw[List.length_append];simp;omega) hG' hz ho2 h5
   . rw[if_neg hi,iv]at ho
     have hv:iE 1 [i64 4,aE [],sl] (.mk 4 [] l) G:=iE.gw hG
     simp only[af,Wi hG]
     exact Hq.fin h1 bI e_ g9 hz hv.len hv.one hv.fz (by omega) λH5 nx5 h5=>bq.ret ho rfl h5
theorem K4 (hL:L.length<=100000){n:Nat}(hn:n<=94000)(hp:∀j,j<=n->aX 181 L bg.v (rp L j).post):aX 158 L bg.v (kx L (rp L n)):=by
 intro nx0 nx H0 H bp F s o ho h
 unfold kx at ho
 rw[T1]
 refine Hq.alloc cb h λx0 H1 aC h1=> ?_
 refine Rq.call (hp n (Nat.le_refl n)) rfl h1 ho λa s2 H2 nx2 _ ho h2=> ?_
 refine Hq.Ab h2 λH3 nx3 h3=> ?_
 refine Rq.is h3 λH4 nx4 h4=> ?_
 cases hi:cu L [42] s2 with
 | true=>
   rw[if_pos hi]at ho
   simp only[af,Bool.not_true,MV]
   refine Hq.eM a.cs a.len h4 λx H5 nx5 h5=> ?_
   exact Ds hL (n+1) (λj hj=>hp j (by omega)) [a] s2 (gq x 1 1) [(x,a.cs,138)] o _ x0 nx5 H5 (show 1+(n+1)<=95000 by omega) (Gw.jA a.fD) rfl ho (Hp.swap' h5)
 | false=>
   rw[if_neg (by rw[hi];simp)]at ho
   simp only[af,Bool.not_false,MV]
   exact Hq.Sw h4 rfl λH5 nx5 h5=>bq.ret ho rfl h5
theorem m5 (hL:L.length<=100000):∀(m:Nat) (a:bg) (s:bx) (n:Nat) (cs z:List Value) (G:List Bx) (o:bg×bx) (x0 x1 nx:Nat) (H:Go.Ev.T OB),n+m<=95000->iE n cs a G->z.length=3->(rp L m).cB a s=some o->Hp nx0 H0 (bZ bp L s::(x1,cs,138)::(x0,z,138)::(G++F)) H nx->
 aK P pl X0 (.jump (kU (ptr bp) (ptr x0) (ptr x1) H nx)) nx0 H0 (bq nx0 H0 bp L F bg.v o)
 | 0,a,s,n,cs,z,G,o,x0,x1,nx,H,hm,hv,hz,ho,h=>by cases ho
 | m+1,a,s,n,cs,z,G,o,x0,x1,nx,H,hm,hv,hz,ho,h=>by
   have ho:iT L (rp L m) a s=some o:=ho
   unfold iT at ho
   refine Wq.jmp (Jy ..) (λ_=>rfl) ?_
   refine Rq.OU h λH1 aC h1=> ?_
   cases hi:jS L s with
   | true=>
     rw[if_pos hi]at ho
     simp only[af,gG (h1.at_ 1 rfl) hv.len]
     refine Hq.eM cs hv.len h1 λx H2 nx2 h2=> ?_
     refine Rq.name hL h2 λH3 nx3 h3=> ?_
     have e1:KL L s=Go.Proofs.YthjhonhhbddhkaaGreatDoor.aC s:=if_pos hi
     have e2:KK L s=(tk L s.1).s:=if_pos hi
     rw[e1]at h3
     rw[e2]
     simp only[af,gG (h3.at_ 2 rfl) hv.len,bj,mY]
     refine Hq.set [_,_] h3 bI hv.len rfl rfl λH4 h4=> ?_
     exact m5 hL m (.mk 2 (tk L s.1).s [a]) _ (n+1) _ z ((x,cs,138)::G) o x0 x1 nx3 H4 (by omega) (iE.b1 (k:=2) (w:=(tk L s.1).s) hv) hz ho (Hp.mZ h4)
   | false=>
     rw[if_neg (by rw[hi];simp)]at ho
     simp only[af,gG (h1.at_ 1 rfl) hv.len]
     have h4:Hp nx0 H0 (bZ bp L s::(x0,z,138)::(G++F)) H1 aC:=(Hp.mv [_] h1).sub (by simp)
     exact Hq.fin h4 bI e_ g9 hz hv.len hv.one hv.fz (by omega) λH5 nx5 h5=>bq.ret ho rfl h5
theorem Dt (hL:L.length<=100000){M:Nat}(hM:M<=94500):∀(m:Nat),(∀j,j<m->aX 120 L bg.v (rp L j).dH)->∀(l:List bg) (s:bx) (sl:Value) (G:List Bx) (o:bg×bx) (z:List Value) (a:bg) (x0 x1 nx:Nat) (H:Go.Ev.T OB),1<l.length->l.length+m<=95000->Gw true 3 138 (l.map bg.v) sl G->z.length=3->
 rb ((rp L m).lX l s) (λl s=>rn L [41] s λs=>(rp L M).cB (.mk 2 (KK L s) l) (KL L s))=some o->Hp nx0 H0 (bZ bp L s::(x1,a.cs,138)::(x0,z,138)::(G++F)) H nx->
 aK P pl X0 (.jump (po (ptr bp) (ptr x0) (ptr x1) sl H nx)) nx0 H0 (bq nx0 H0 bp L F bg.v o)
 | 0,_,l,s,sl,G,o,z,a,x0,x1,nx,H,hl1,hm,hG,hz,ho,h=>by cases ho
 | m+1,hp,l,s,sl,G,o,z,a,x0,x1,nx,H,hl1,hm,hG,hz,ho,h=>by
   have ho:rb (sF L (rp L m) l s) (λl s=>rn L [41] s λs=>(rp L M).cB (.mk 2 (KK L s) l) (KL L s))=some o:=ho
   unfold sF at ho
   refine Wq.jmp (CA ..) (λ_=>rfl) ?_
   refine Rq.take hL h (λhi H1 aC h1=> ?_) (λhi H1 aC h1=> ?_)
   . rw[if_pos hi,jK]at ho
     simp only[af]
     refine Rq.call (hp m (Nat.lt_succ_self m)) rfl h1 ho λc s' H2 nx2 _ ho2 h2=> ?_
     refine Hq.Ab h2 λH3 nx3 h3=> ?_
     simp only[af,MV]
     refine Hq.eM c.cs c.len h3 λx H4 nx4 h4=> ?_
     refine Hq.yz [_,_] (x:=c) (by omega) hG h4 λsl' G' H5 nx5 hG' h5=> ?_
     exact Dt hL hM m (λj hj=>hp j (by omega)) (l++[c]) s' sl' G' o z a x0 x1 nx5 H5 (by rw[List.length_append];omega) (by rw[List.length_append];simp;omega) hG' hz ho2 h5
   . rw[if_neg hi,iv]at ho
     have ho:(rp L M).cB (.mk 2 (KK L (dT L [41] s)) l) (KL L (dT L [41] s))=some o:=ho
     simp only[af]
     refine Rq.aS hL h1 λH2 nx2 h2=> ?_
     obtain⟨b,c,e⟩:∃b c,sl= .slice (some b) l.length c:=by
      rcases hG.2 with⟨q,_⟩ | ⟨b,c,e,_⟩
      . have:=congrArg List.length q
        rw[List.length_map]at this
        have:l.length=0:=this
        omega
      . exact⟨_,c,by rw[e,List.length_map]⟩
     have hgt:decide (1<(l.length:Int))=true:=decide_eq_true (by omega)
     have hln:aM P #[53] 3 (some [sl])=some (i64 (l.length:Int)):=by rw[e];exact dN (by kernel_rfl)
     simp only[af,hln,hgt]
     refine Rq.name hL h2 λH3 nx3 h3=> ?_
     simp only[af,Wj hG]
     refine Hq.set [_] h3 bI a.len rfl (by simp[ck hG]) λH4 h4=> ?_
     exact m5 hL M _ _ 1 _ z G o x0 x1 nx3 H4 (by omega) (iE.gw (k:=2) hG) hz ho h4
theorem K5 (hL:L.length<=100000){n:Nat}(hn:n<=94000)(htyp:∀j,j<=n->aX 120 L bg.v (rp L j).dH):aX 181 L bg.v (rp L (n+1)).post:=by
 intro nx0 nx H0 H bp F s o ho h
 have ho:rM L (rp L n) s=some o:=ho
 unfold rM nG at ho
 rw[Ua]
 refine Hq.alloc cb h λx0 H1 aC h1=> ?_
 refine Hq.alloc cb h1 λx1 H2 nx2 h2=> ?_
 refine Hq.set [_] h2 bI rfl rfl rfl λH3 h3=> ?_
 refine Rq.now h3 λH4 nx4 h4=> ?_
 simp only[af]
 refine Wq.ite (λhi=> ?_) (λhi=> ?_)
 . rw[if_pos hi]at ho
   have ho:iT L (rp L n) (.mk 1 (yL L 5 s) []) (Ey L 5 s)=some o:=ho
   refine Rq.kind (by decide) hL h4 λH5 nx5 h5=> ?_
   simp only[af,mW]
   refine Hq.set [_] h5 bI rfl rfl rfl λH6 h6=> ?_
   refine Wq.jmp (Cz ..) (λ_=>rfl) ?_
   exact m5 hL (n+1) _ _ 0 _ _ [] o x0 x1 nx5 H6 (by omega) (iE.row (l:=[]) (cP.nil ee bI) rfl) rfl ho h6
 . rw[if_neg hi]at ho
   refine Rq.OU h4 λH5 nx5 h5=> ?_
   cases ht:jS L s with
   | true=>
     rw[if_pos ht]at ho
     simp only[af]
     refine Rq.name hL h5 λH6 nx6 h6=> ?_
     have e1:KL L s=Go.Proofs.YthjhonhhbddhkaaGreatDoor.aC s:=if_pos ht
     have e2:KK L s=(tk L s.1).s:=if_pos ht
     rw[e1]at h6
     rw[e2]
     simp only[af,mW]
     refine Hq.set [_] h6 bI rfl rfl rfl λH7 h7=> ?_
     refine Wq.jmp (Cz ..) (λ_=>rfl) ?_
     exact m5 hL (n+1) (.mk 2 (tk L s.1).s []) _ 0 _ _ [] o x0 x1 nx6 H7 (by omega) (iE.row (l:=[]) (cP.nil ee bI) rfl) rfl ho h7
   | false=>
     rw[if_neg (by rw[ht];simp)]at ho
     simp only[af]
     refine Rq.aS hL h5 λH6 nx6 h6=> ?_
     have ho:rb (if(dT L [40] s).2.isSome=true then ry O3 (dT L [40] s)else _) (λa s=>iT L (rp L n) a s)=some o:=ho
     cases hs:(dT L [40] s).2 with
     | some t=>
       rw[if_pos (by rw[hs];rfl),iv]at ho
       have ho:ry O3 (dT L [40] s)=some o:=by
        unfold iT at ho
        rwa[if_neg (by unfold jS;rw[hs];simp)]at ho
       simp only[af,rX h6,hs,Option.isSome_some,gG (h6.at_ 1 rfl) rfl]
       have h7:Hp nx0 H0 (bZ bp L (dT L [40] s)::(x0,[i64 0,aE [],az],138)::([]++F)) H6 nx6:=(Hp.mv [_] h6).sub (by simp)
       exact Hq.fin h7 bI e_ g9 rfl rfl rfl (iE.row (k:=0) (w:=[]) (l:=[]) (cP.nil ee bI) rfl).fz (by omega) λH9 nx9 h9=>bq.ret ho rfl h9
     | none=>
       rw[if_neg (by rw[hs];simp),jK]at ho
       simp only[af,rX h6,hs,Option.isSome_none]
       refine Rq.call (htyp n (Nat.le_refl n)) rfl h6 ho λa s' H7 nx7 _ ho h7=> ?_
       refine Hq.set [_] h7 bI rfl a.len (iE.of a).one λH8 h8=> ?_
       simp only[af,gG (h8.at_ 1 rfl) a.len]
       refine Hq.eM a.cs a.len h8 λx H9 nx9 h9=> ?_
       have h10:=Hp.mZ h9
       refine Wq.jmp (CA ..) (λ_=>rfl) ?_
       refine Rq.take hL h10 (λhi H11 nx11 h11=> ?_) (λhi H11 nx11 h11=> ?_)
       . rw[if_pos hi]at ho
         have ho:rb (rb (sF L (rp L n) [a] s') (λl s=>rn L [41] s λs=>ry (.mk 2 (KK L s) l) (KL L s))) (λa s=>iT L (rp L n) a s)=some o:=ho
         unfold sF at ho
         rw[if_pos hi,jK,jK]at ho
         simp only[af]
         refine Rq.call (htyp n (Nat.le_refl n)) rfl h11 ho λc s2 H12 nx12 _ ho h12=> ?_
         refine Hq.Ab h12 λH13 nx13 h13=> ?_
         simp only[af,MV]
         refine Hq.eM c.cs c.len h13 λy H14 nx14 h14=> ?_
         refine Hq.yz [_,_] (l:=[a]) (x:=c) (by simp) (Gw.jA a.fD) h14 λsl' G' H15 nx15 hG' h15=> ?_
         exact Dt hL (M:=n+1) (by omega) n (λj hj=>htyp j (by omega)) ([a]++[c]) s2 sl' G' o _ a x0 x1 nx15 H15 (by simp) (show 2+n<=95000 by omega) hG' rfl ho h15
       . rw[if_neg hi]at ho
         have ho:iT L (rp L n) a (dT L [41] s')=some o:=ho
         simp only[af]
         refine Rq.aS hL h11 λH12 nx12 h12=> ?_
         rw[show decide ((1:Int)<1)=false from rfl]
         show aK P pl X0 (Q.jump _) _ _ _
         have h13:Hp nx0 H0 (bZ bp L (dT L [41] s')::(x1,a.cs,138)::(x0,[i64 0,aE [],az],138)::([]++F)) H12 nx12:=h12.sub (by simp)
         exact m5 hL (n+1) _ _ 0 _ _ [] o x0 x1 nx12 H12 (by omega) (iE.of a) rfl ho h13
theorem PN (hL:L.length<=100000){p:RP}(htyp:aX 120 L bg.v p.dH):aX 66 L cM.v (zZ L p):=by
 intro nx0 nx H0 H bp F s o ho h
 unfold zZ at ho
 rw[VZ]
 refine Hq.alloc fL h λx0 H1 aC h1=> ?_
 refine Rq.kind (by decide) hL h1 λH2 nx2 h2=> ?_
 have ho:(if cu L [111,102] (Ey L 4 s)=true then rb (p.dH (Go.Proofs.YthjhonhhbddhkaaGreatDoor.aC (Ey L 4 s))) λa s'=>ry ⟨yL L 4 s,[a]⟩ s' else ry ⟨yL L 4 s,[]⟩ (Ey L 4 s))=some o:=ho
 generalize yL L 4 s=nm at ho
 simp only[af,C7]
 refine Hq.alloc fL h2 λx1 H3 nx3 h3=> ?_
 refine Hq.set [_] h3 gZ rfl rfl rfl λH4 h4=> ?_
 refine Rq.take hL h4 (λhi H5 nx5 h5=> ?_) (λhi H5 nx5 h5=> ?_)
 . rw[if_pos hi]at ho
   simp only[af]
   refine Rq.call htyp rfl h5 ho λa s' H6 nx6 _ ho h6=> ?_
   refine Hq.Ab h6 λH7 nx7 h7=> ?_
   simp only[af,MV]
   refine Hq.eM a.cs a.len h7 λx H8 nx8 h8=> ?_
   refine Hq.put [_,_] h8 FO rfl rfl (by simp) rfl λH9 h9=> ?_
   refine Wq.jmp (Gh ..) (λ_=>rfl) ?_
   simp only[af,C4 (h9.at_ 2 rfl) rfl]
   have h10:Hp nx0 H0 (bZ bp L s'::(x0,[aE [],az],55)::([(x,a.cs,138)]++F)) H9 nx8:=(Hp.mv [_,_] h9).sub (by simp)
   exact Hq.fin h10 gZ lP yr rfl rfl rfl (gp.of (eL.one (p:=(1,53)) rfl (Gw.Po (l:=[a]) (Gw.jA a.fD)))) (by omega) λH10 nx10 h10=>bq.ret ho rfl h10
 . rw[if_neg hi]at ho
   simp only[af]
   refine Wq.jmp (Gh ..) (λ_=>rfl) ?_
   simp only[af,C4 (h5.at_ 1 rfl) rfl]
   have h9:Hp nx0 H0 (bZ bp L (Ey L 4 s)::(x0,[aE [],az],55)::([]++F)) H5 nx5:=(Hp.mv [_] h5).sub (by simp)
   exact Hq.fin h9 gZ lP yr rfl rfl rfl (gp.of (eL.one (p:=(1,53)) rfl (cP.nil ee bI))) (by omega) λH10 nx10 h10=>bq.ret ho rfl h10
end
section
variable {nx0 nx nx' bp k:Nat}{H0 H H':T OB}{F A B G G':List Bx}{R:Go.Ev.Out->T OB->Nat->Prop}{b:Nat}{l:List Value}{e t:TypeId}{L:List Tok}{s s':bx}{w:List UInt8}{x:Bx}
abbrev bump (s:bx):bx:=aC s
theorem Du (hL:L.length<=100000){E:bx->RR aF}(he:aX 39 L aF.v E){w:List UInt8}:∀(m:Nat),(∀j,j<m->aX 160 L aZ.v (rp L j).bl)->∀(q:List aZ) (s:bx) (sp:Value) (G:List Bx) (o:Fn×bx) (z:List Value) (x0 x1 nx:Nat) (H:Go.Ev.T OB),q.length+m<=95000->Gw true 4 47 (q.map aZ.v) sp G->z.length=8->∀{PA:bx->RR aZ},aX 160 L aZ.v PA->
 rb (PA s) (λc s=>rb ((rp L m).lY (q++[c]) s) λl s=>rn L [61] s λs=>rb (E s) λe s=>ry (.mk w l e) s)=some o->Hp nx0 H0 (bZ bp L s::(x1,[aE w,sp,i64 0,i64 0,aE [],az,az,az],65)::(x0,z,65)::(G++F)) H nx->
 aK P pl X0 (.jump (vk (ptr bp) (ptr x0) (ptr x1) H nx)) nx0 H0 (bq nx0 H0 bp L F Fn.v o)
 | m,hp,q,s,sp,G,o,z,x0,x1,nx,H,hm,hG,hz,PA,hPA,ho,h=>by
   refine Wq.jmp (NR ..) (λ_=>rfl) ?_
   refine Rq.call hPA rfl h ho λc s' H2 nx2 _ ho2 h2=> ?_
   refine Hq.wu h2 λH3 nx3 h3=> ?_
   simp only[af,av (off:=1) (u:=sp) (h3.at_ 1 rfl) gf rfl,KB]
   refine Hq.dW c.cs c.len h3 λy H4 nx4 h4=> ?_
   refine Hq.tF [_,_] (x:=c) (by omega) hG h4 λsl' G1 H5 nx5 hG1 h5=> ?_
   refine Hq.put [_] h5 oe (by rcases hG1.2 with⟨_,rfl,_⟩ | ⟨b,c,rfl,_⟩<;>rfl) (ck hG1) (by simp) rfl λH6 h6=> ?_
   refine Rq.Ho h6 λH7 nx7 h7=> ?_
   match m,hp,hm,ho2 with
   | 0,_,_,ho2=>cases ho2
   | m+1,hp,hm,ho2=>
     have ho2:rb (we L (rp L m) (q++[c]) s') (λl s=>rn L [61] s λs=>rb (E s) λe s=>ry (.mk w l e) s)=some o:=ho2
     unfold we at ho2
     cases hb:ox L s' with
     | true=>
       rw[if_pos hb,jK]at ho2
       simp only[af,Bool.not_true]
       exact Du hL he m (λj hj=>hp j (by omega)) (q++[c]) s' sl' G1 o z x0 x1 nx7 H7 (by rw[List.length_append];simp;omega) hG1 hz (hp m (Nat.lt_succ_self m)) ho2 h7
     | false=>
       rw[if_neg (by rw[hb];simp),iv]at ho2
       simp only[af,Bool.not_false]
       refine Rq.aS hL h7 λH8 nx8 h8=> ?_
       refine Rq.call he rfl h8 ho2 λd s2 H9 nx9 _ ho h9=> ?_
       refine Hq.store [_] h9 bu (by simp) d.len (dE.of d).one λH10 h10=> ?_
       have e1:il ([aE w,sp,i64 0,i64 0,aE [],az,az,az].set 1 sl') (aF.v d).cells.toList 2=aE w::sl'::d.cs:=by
        rw[aF.bk,aF.fu];rfl
       rw[e1]at h10
       have hlen:(aE w::sl'::d.cs).length=8:=by
        have h6:d.cs.length=6:=d.len
        simp only[List.length_cons,h6]
       have hone:(aE w::sl'::d.cs).all ax=true:=by
        simp only[List.all_cons,ik,ck hG1,Bool.true_and]
        exact(dE.of d).one
       simp only[af,Mx (h10.at_ 1 rfl) hlen]
       have h11:Hp nx0 H0 (bZ bp L s2::(x0,z,65)::(G1++F)) H10 nx9:=(Hp.mv [_] h10).sub (by simp)
       exact Hq.fin h11 iP uD Hn hz hlen hone (Fn.jU hG1) (by omega) λH9 nx9 h9=>bq.ret ho rfl h9
theorem K6 (hL:L.length<=100000){n:Nat}(hn:n<=94000)(hp:∀j,j<=n->aX 160 L aZ.v (rp L j).bl)(he:aX 39 L aF.v (rp L n).exp):aX 122 L Fn.v (rp L (n+1)).fn:=by
 intro nx0 nx H0 H bp F s o ho h
 have ho:O6 L (rp L n) s=some o:=ho
 unfold O6 at ho
 have ho:rb ((rp L n).bl (Ey L 3 s)) (λq s'=>rb (we L (rp L n) ([]++[q]) s') λl s'=>rn L [61] s' λs'=>rb ((rp L n).exp s') λe s'=>ry (.mk (yL L 3 s) l e) s')=some o:=ho
 rw[TH]
 refine Hq.alloc eK h λx0 H1 aC h1=> ?_
 refine Rq.kind (by decide) hL h1 λH2 nx2 h2=> ?_
 have hb:aw P 65 (some [(0,aE (yL L 3 s))])=some (.agg ⟨[aE (yL L 3 s),az,i64 0,i64 0,aE [],az,az,az]⟩):=bn eK (by kernel_rfl)
 simp only[af,hb]
 refine Hq.alloc eK h2 λx1 H3 nx3 h3=> ?_
 refine Hq.set [_] h3 iP rfl rfl rfl λH4 h4=> ?_
 exact Du hL he (n+1) (λj hj=>hp j (by omega)) [] _ az [] o _ x0 x1 nx3 H4 (by simp;omega) (Gw.nil _ _ _) rfl (hp n (Nat.le_refl n)) ho h4
theorem Wk (a:Fn):ae P H 65 (some (aj a.v))=some a.v:=by
 rw[Fn.bk]
 exact Fv ..
theorem Hq.UW {a:Fn}{kt:Go.Ev.T OB->Nat->Q}(h:Hp nx0 H0 F H nx)(hk:∀H' nx',Hp nx0 H0 F H' nx'->aK P pl X0 (kt H' nx') nx0 H0 R):aK P pl X0 (ak (aq P H nx 65) λp H nx=>bC P H nx 65 (some p) a.v kt) nx0 H0 R:=Hq.var eK iP rfl a.len (a.fD a.v (by simp)).2.1 h hk
theorem HX (hL:L.length<=100000):∀(m:Nat),(∀j,j<m->aX 122 L Fn.v (rp L j).fn)->∀(l:List Fn) (s:bx) (sl:Value) (G:List Bx) (o:Option aT×bx) (z:List Value) (x0 x1 nx:Nat) (H:Go.Ev.T OB),l.length+m<=95000->Gw true 8 65 (l.map Fn.v) sl G->z.length=17->∀{FN:bx->RR Fn},aX 122 L Fn.v FN->
 rb (FN s) (λc s=>rb ((rp L m).fi (l++[c]) s) (λl s=>ry (some (.mk 2 jt jO l gC ju)) s))=some o->Hp nx0 H0 (bZ bp L s::(x1,[i64 2,i64 0,i64 0,aE [],az,i64 0,i64 0,aE [],az,az,az,sl,az,aE [],az,aE [],az],57)::(x0,z,57)::(G++F)) H nx->
 aK P pl X0 (.jump (u3 (ptr bp) (ptr x0) (ptr x1) H nx)) nx0 H0 (bq nx0 H0 bp L F gL o)
 | m,hp,l,s,sl,G,o,z,x0,x1,nx,H,hm,hG,hz,FN,hFN,ho,h=>by
   refine Wq.jmp (NJ ..) (λ_=>rfl) ?_
   refine Rq.call hFN rfl h ho λc s' H2 nx2 _ ho2 h2=> ?_
   refine Hq.UW h2 λH3 nx3 h3=> ?_
   simp only[af,av (off:=11) (u:=sl) (h3.at_ 1 rfl) q_ rfl,Wk]
   refine Hq.wq c.cs c.len h3 λy H4 nx4 h4=> ?_
   refine Hq.Mu [_,_] (x:=c) (by omega) hG h4 λsl' G1 H5 nx5 hG1 h5=> ?_
   refine Hq.put [_] h5 LU (by rcases hG1.2 with⟨_,rfl,_⟩ | ⟨b,c,rfl,_⟩<;>rfl) (ck hG1) (by simp) rfl λH6 h6=> ?_
   match m,hp,hm,ho2 with
   | 0,_,_,ho2=>cases ho2
   | m+1,hp,hm,ho2=>
     have ho2:rb (yx L (rp L m) (l++[c]) s') (λl s=>ry (some (.mk 2 jt jO l gC ju)) s)=some o:=ho2
     unfold yx at ho2
     refine Rq.take hL h6 (λhi H7 nx7 h7=> ?_) (λhi H7 nx7 h7=> ?_)
     . rw[if_pos hi,jK]at ho2
       simp only[af,Bool.not_true]
       exact HX hL m (λj hj=>hp j (by omega)) (l++[c]) _ sl' G1 o z x0 x1 nx7 H7 (by rw[List.length_append];simp;omega) hG1 hz (hp m (Nat.lt_succ_self m)) ho2 h7
     . rw[if_neg hi,iv]at ho2
       simp only[af,Bool.not_false,C5 (h7.at_ 1 rfl) rfl]
       have h8:Hp nx0 H0 (bZ bp L s'::(x0,z,57)::(G1++F)) H7 nx7:=(Hp.mv [_] h7).sub (by simp)
       exact Hq.fin h8 di fe iR hz rfl (by simp[ck hG1]) (aT.ML hG1) (by omega) λH9 nx9 h9=>bq.ret ho2 rfl h9
theorem PO (hL:L.length<=100000){n:Nat}(hn:n<=94000)(hp:aX 121 L aZ.v (rp L n).pat)(he:aX 39 L aF.v (rp L n).exp)(hf:∀j,j<=n->aX 122 L Fn.v (rp L j).fn):aX 67 L gL (rp L (n+1)).bind:=by
 intro nx0 nx H0 H bp F s o ho h
 have ho:rN L (rp L n) s=some o:=ho
 unfold rN at ho
 rw[V0]
 refine Hq.alloc cJ h λx0 H1 aC h1=> ?_
 refine Rq.take hL h1 (λhi H2 nx2 h2=> ?_) (λhi H2 nx2 h2=> ?_)
 . rw[if_pos hi]at ho
   simp only[af]
   refine Rq.call hp rfl h2 ho λa s2 H3 nx3 _ ho h3=> ?_
   refine Hq.wu h3 λH4 nx4 h4=> ?_
   refine Rq.aS hL h4 λH5 nx5 h5=> ?_
   refine Rq.call he rfl h5 ho λc s3 H6 nx6 _ ho h6=> ?_
   refine Hq.gH h6 λH7 nx7 h7=> ?_
   simp only[af,KB,oA,yC]
   exact Hq.fin (G:=[]) h7 di fe iR rfl rfl rfl aT.MK (by omega) λH9 nx9 h9=>bq.ret ho rfl h9
 rw[if_neg hi]at ho
 simp only[af]
 refine Rq.take hL h2 (λhi H3 nx3 h3=> ?_) (λhi H3 nx3 h3=> ?_)
 . rw[if_pos hi]at ho
   have ho:rb ((rp L n).fn (bump s)) (λf s=>rb ((rp L (n+1)).fi ([]++[f]) s) λl s=>ry (some (.mk 2 jt jO l gC ju)) s)=some o:=ho
   simp only[af]
   refine Hq.alloc cJ h3 λx1 H4 nx4 h4=> ?_
   refine Hq.set [_] h4 di rfl rfl rfl λH5 h5=> ?_
   exact HX hL (n+1) (λj hj=>hf j (by omega)) [] _ az [] o _ x0 x1 nx4 H5 (by simp;omega) (Gw.nil _ _ _) rfl (hf n (Nat.le_refl n)) ho h5
 . rw[if_neg hi]at ho
   simp only[af]
   refine Wq.jmp (NK ..) (λ_=>rfl) ?_
   exact Hq.fin (G:=[]) h3 di fe iR rfl rfl rfl aT.HO (by omega) λH9 nx9 h9=>bq.ret ho rfl h9
theorem Vk (a:cM):ae P H 55 (some (aj a.v))=some a.v:=by
 rw[cM.bk]
 exact Ft ..
theorem Hq.Sx {a:cM}{kt:Go.Ev.T OB->Nat->Q}(h:Hp nx0 H0 F H nx)(hk:∀H' nx',Hp nx0 H0 F H' nx'->aK P pl X0 (kt H' nx') nx0 H0 R):aK P pl X0 (ak (aq P H nx 55) λp H nx=>bC P H nx 55 (some p) a.v kt) nx0 H0 R:=Hq.var fL gZ rfl a.len (a.fD a.v (by simp)).2.1 h hk
theorem Wl (a:Data):ae P H 52 (some (aj a.v))=some a.v:=by
 rw[Data.bk]
 exact Fs ..
theorem Data.Sy (a:Data):a.v.cells.toList.length=3/\a.v.cells.toList.all ax=true:=by
 rw[Data.bk]
 exact⟨rfl,rfl⟩
theorem Hq.UX {a:Data}{kt:Go.Ev.T OB->Nat->Q}(h:Hp nx0 H0 F H nx)(hk:∀H' nx',Hp nx0 H0 F H' nx'->aK P pl X0 (kt H' nx') nx0 H0 R):aK P pl X0 (ak (aq P H nx 52) λp H nx=>bC P H nx 52 (some p) a.v kt) nx0 H0 R:=Hq.var oT x_ rfl a.Sy.1 a.Sy.2 h hk
theorem Data.jU {vs:List (List UInt8)}{w:List UInt8}{cl:List cM}{sv sc:Value}(hv:Gw false 1 9 (vs.map aE) sv G)(hc:Gw true 2 55 (cl.map cM.v) sc G'):gp 1 [(0,49),(2,50)] (.agg ⟨[sv,aE w,sc]⟩) (Data.v ⟨vs,w,cl⟩) (G++G'):=by
 rw[Data.bk]
 have:=eL.cons (p:=(0,49)) (cs:=[sv,aE w,sc]) rfl hv.Sp (eL.cons (p:=(2,50)) rfl hc.R7 eL.nil)
 simp only[List.append_nil]at this
 exact gp.of this
theorem HY (hL:L.length<=100000){vs:List (List UInt8)}{w:List UInt8}{sv:Value}(hv:Gw false 1 9 (vs.map aE) sv G'):∀(m:Nat),(∀j,j<m->aX 66 L cM.v (rp L j).dS)->∀(l:List cM) (s:bx) (sl:Value) (G:List Bx) (o:Data×bx) (z:List Value) (x0 x1 nx:Nat) (H:Go.Ev.T OB),l.length+m<=95000->Gw true 2 55 (l.map cM.v) sl G->z.length=3->∀{CN:bx->RR cM},aX 66 L cM.v CN->
 rb (CN s) (λc s=>rb ((rp L m).fk (l++[c]) s) (λl s=>ry ⟨vs,w,l⟩ s))=some o->Hp nx0 H0 (bZ bp L s::(x1,[sv,aE w,sl],52)::(x0,z,52)::(G'++(G++F))) H nx->
 aK P pl X0 (.jump (rz (ptr bp) (ptr x0) (ptr x1) H nx)) nx0 H0 (bq nx0 H0 bp L F Data.v o)
 | m,hp,l,s,sl,G,o,z,x0,x1,nx,H,hm,hG,hz,CN,hCN,ho,h=>by
   refine Wq.jmp (NI ..) (λ_=>rfl) ?_
   refine Rq.call hCN rfl h ho λc s' H2 nx2 _ ho2 h2=> ?_
   refine Hq.Sx h2 λH3 nx3 h3=> ?_
   simp only[af,av (off:=2) (u:=sl) (h3.at_ 1 rfl) uB rfl,Vk]
   refine Hq.wo c.cs c.len h3 λy H4 nx4 h4=> ?_
   refine Hq.Mt (_::_::G') (x:=c) (by omega) hG h4 λsl' G1 H5 nx5 hG1 h5=> ?_
   refine Hq.put [_] h5 FM (by rcases hG1.2 with⟨_,rfl,_⟩ | ⟨b,c,rfl,_⟩<;>rfl) (ck hG1) (by simp) rfl λH6 h6=> ?_
   match m,hp,hm,ho2 with
   | 0,_,_,ho2=>cases ho2
   | m+1,hp,hm,ho2=>
     have ho2:rb (kz L (rp L m) (l++[c]) s') (λl s=>ry (Data.mk vs w l) s)=some o:=ho2
     unfold kz at ho2
     refine Rq.take hL h6 (λhi H7 nx7 h7=> ?_) (λhi H7 nx7 h7=> ?_)
     . rw[if_pos hi,jK]at ho2
       simp only[af,Bool.not_true]
       exact HY hL hv m (λj hj=>hp j (by omega)) (l++[c]) _ sl' G1 o z x0 x1 nx7 H7 (by rw[List.length_append];simp;omega) hG1 hz (hp m (Nat.lt_succ_self m)) ho2 h7
     . rw[if_neg hi,iv]at ho2
       simp only[af,Bool.not_false,Mw (h7.at_ 1 rfl) rfl]
       have h8:Hp nx0 H0 (bZ bp L s'::(x0,z,52)::((G'++G1)++F)) H7 nx7:=by
        rw[List.append_assoc]
        exact(Hp.mv [_] h7).sub (by simp)
       exact Hq.fin h8 x_ zt RI hz rfl (by simp[ck hG1,ck hv]) (Data.jU hv hG1) (by omega) λH9 nx9 h9=>bq.ret ho2 rfl h9
theorem HZ {α:Type}{c:Int}{f:List UInt8->bx->RR α}:rk L c s f=f (yL L c s) (Ey L c s):=rfl
theorem Ac (hL:L.length<=100000){n:Nat}(hn:n<=94000)(hp:∀j,j<=n->aX 66 L cM.v (rp L j).dS){vs:List (List UInt8)}{sv:Value}{z:List Value}{x0 x1:Nat}{o:Data×bx}(hv:Gw false 1 9 (vs.map aE) sv G')(hz:z.length=3)
 (ho:rk L 3 s (λt s=>rn L [61] s λs=>rb ((rp L n).dS s) λc s=>rb (kz L (rp L n) [c] s) λl s=>ry ⟨vs,t,l⟩ s)=some o) (h:Hp nx0 H0 (bZ bp L s::(x1,[sv,aE [],az],52)::(x0,z,52)::(G'++F)) H nx):
 aK P pl X0 (aN P pl (u1 (ptr bp) (ptr x0) (ptr x1) H nx)) nx0 H0 (bq nx0 H0 bp L F Data.v o):=by
 rw[Gg]
 have ho:rb ((rp L n).dS (dT L [61] (Ey L 3 s))) (λc s'=>rb ((rp L (n+1)).fk ([]++[c]) s') λl s'=>ry (Data.mk vs (yL L 3 s) l) s')=some o:=ho
 refine Rq.kind (by decide) hL h λH1 aC h1=> ?_
 simp only[af]
 refine Hq.put [_] h1 ke rfl rfl (by simp) rfl λH2 h2=> ?_
 refine Rq.aS hL h2 λH3 nx3 h3=> ?_
 exact HY hL hv (n+1) (λj hj=>hp j (by omega)) [] _ az [] o z x0 x1 nx3 H3 (by simp;omega) (Gw.nil _ _ _) hz (hp n (Nat.le_refl n)) ho h3
theorem H_ (hL:L.length<=100000){n:Nat}(hn:n<=94000)(hp:∀j,j<=n->aX 66 L cM.v (rp L j).dS):∀(m:Nat) (l:List (List UInt8)) (s:bx) (sl:Value) (G:List Bx) (o:Data×bx) (z:List Value) (x0 x1 nx:Nat) (H:Go.Ev.T OB),l.length+m<=95000->Gw false 1 9 (l.map aE) sl G->z.length=3->
 rb ((rp L m).fj l s) (λl s=>rn L [41] s λs=>rk L 3 s λt s=>rn L [61] s λs=>rb ((rp L n).dS s) λc s=>rb (kz L (rp L n) [c] s) λcl s=>ry (Data.mk l t cl) s)=some o->Hp nx0 H0 (bZ bp L s::(x1,[sl,aE [],az],52)::(x0,z,52)::(G++F)) H nx->
 aK P pl X0 (.jump (u2 (ptr bp) (ptr x0) (ptr x1) H nx)) nx0 H0 (bq nx0 H0 bp L F Data.v o)
 | 0,l,s,sl,G,o,z,x0,x1,nx,H,hm,hG,hz,ho,h=>by cases ho
 | m+1,l,s,sl,G,o,z,x0,x1,nx,H,hm,hG,hz,ho,h=>by
   have ho:rb (oz L (rp L m) l s) (λl s=>rn L [41] s λs=>rk L 3 s λt s=>rn L [61] s λs=>rb ((rp L n).dS s) λc s=>rb (kz L (rp L n) [c] s) λcl s=>ry (Data.mk l t cl) s)=some o:=ho
   unfold oz at ho
   refine Wq.jmp (NH ..) (λ_=>rfl) ?_
   refine Rq.take hL h (λhi H1 aC h1=> ?_) (λhi H1 aC h1=> ?_)
   . rw[if_pos hi,HZ]at ho
     simp only[af,av (off:=0) (u:=sl) (h1.at_ 1 rfl) gg rfl]
     refine Rq.kind (by decide) hL h1 λH2 nx2 h2=> ?_
     generalize yL L 5 (bump s)=wd at ho
     simp only[af,av (off:=0) (u:=sl) (h2.at_ 1 rfl) gg rfl,bj]
     refine Hq.k_ wd h2 λx H3 nx3 h3=> ?_
     simp only[af,av (off:=0) (u:=sl) (h3.at_ 2 rfl) gg rfl,bj]
     refine Hq.Dd [_,_] (w:=wd) (by omega) hG h3 λsl' G1 H4 nx4 hG1 h4=> ?_
     refine Hq.put [_] h4 tv (by rcases hG1.2 with⟨_,rfl,_⟩ | ⟨b,c,rfl,_⟩<;>rfl) (ck hG1) (by simp) rfl λH5 h5=> ?_
     exact H_ hL hn hp m (l++[wd]) _ sl' G1 o z x0 x1 nx4 H5 (by rw[List.length_append];simp;omega) hG1 hz ho h5
   . rw[if_neg hi,iv]at ho
     simp only[af]
     refine Rq.aS hL h1 λH2 nx2 h2=> ?_
     have:=Ac hL hn hp hG hz ho h2
     rw[Gg]at this
     exact this
theorem PQ (hL:L.length<=100000){n:Nat}(hn:n<=94000)(hp:∀j,j<=n->aX 66 L cM.v (rp L j).dS):aX 65 L Data.v (rp L (n+1)).data:=by
 intro nx0 nx H0 H bp F s o ho h
 have ho:rO L (rp L n) s=some o:=ho
 unfold rO tE at ho
 rw[VY]
 refine Hq.alloc oT h λx0 H1 aC h1=> ?_
 refine Hq.alloc oT h1 λx1 H2 nx2 h2=> ?_
 refine Hq.set [_] h2 x_ rfl rfl rfl λH3 h3=> ?_
 refine Rq.now h3 λH4 nx4 h4=> ?_
 simp only[af]
 refine Wq.ite (λhi=> ?_) (λhi=> ?_)
 . rw[if_pos hi,HZ,iv]at ho
   simp only[af,av (off:=0) (u:=az) (h4.at_ 1 rfl) gg rfl]
   refine Rq.kind (by decide) hL h4 λH5 nx5 h5=> ?_
   generalize yL L 5 s=wd at ho
   simp only[af,av (off:=0) (u:=az) (h5.at_ 1 rfl) gg rfl,bj]
   refine Hq.k_ wd h5 λx H6 nx6 h6=> ?_
   simp only[af,av (off:=0) (u:=az) (h6.at_ 2 rfl) gg rfl,bj]
   refine Hq.Dd [_,_] (w:=wd) (l:=[]) (G:=[]) (by simp) (Gw.nil _ _ _) h6 λsl' G1 H7 nx7 hG1 h7=> ?_
   refine Hq.put [_] h7 tv (by rcases hG1.2 with⟨_,rfl,_⟩ | ⟨b,c,rfl,_⟩<;>rfl) (ck hG1) (by simp) rfl λH8 h8=> ?_
   exact Wq.jump (λ_=>rfl) (Ac hL hn hp hG1 rfl ho h8)
 rw[if_neg hi]at ho
 refine Rq.take hL h4 (λhi H5 nx5 h5=> ?_) (λhi H5 nx5 h5=> ?_)
 . rw[if_pos hi,HZ,jK]at ho
   simp only[af,av (off:=0) (u:=az) (h5.at_ 1 rfl) gg rfl]
   refine Rq.kind (by decide) hL h5 λH6 nx6 h6=> ?_
   generalize yL L 5 (bump s)=wd at ho
   simp only[af,av (off:=0) (u:=az) (h6.at_ 1 rfl) gg rfl,bj]
   refine Hq.k_ wd h6 λx H7 nx7 h7=> ?_
   simp only[af,av (off:=0) (u:=az) (h7.at_ 2 rfl) gg rfl,bj]
   refine Hq.Dd [_,_] (w:=wd) (l:=[]) (G:=[]) (by simp) (Gw.nil _ _ _) h7 λsl' G1 H8 nx8 hG1 h8=> ?_
   refine Hq.put [_] h8 tv (by rcases hG1.2 with⟨_,rfl,_⟩ | ⟨b,c,rfl,_⟩<;>rfl) (ck hG1) (by simp) rfl λH9 h9=> ?_
   exact H_ hL hn hp (n+1) [wd] _ sl' G1 o _ x0 x1 nx8 H9 (show 1+(n+1)<=95000 by omega) hG1 rfl ho h9
 . rw[if_neg hi,iv]at ho
   simp only[af]
   exact Wq.jump (λ_=>rfl) (Ac hL hn hp (G':=[]) (Gw.nil _ _ _) rfl ho h5)
theorem Ia (k:Int)(c:Data):aw P 57 (some [(0,i64 k),(4,c.v)])=some (.agg ⟨[i64 k,i64 0,i64 0,aE [],az,i64 0,i64 0,aE [],az,az,az,az,fW c.vars,aE c.s,jI c.cons,aE [],az]⟩):=by
 rw[Data.bk]
 exact C8 ..
theorem aT.SA {c:Data}:gp 0 [(4,42),(8,41),(9,42),(10,24),(11,48),(12,49),(14,50),(16,53)] (.agg ⟨[i64 3,i64 0,i64 0,aE [],az,i64 0,i64 0,aE [],az,az,az,az,fW c.vars,aE c.s,jI c.cons,aE [],az]⟩) (aT.v (.mk 3 jt jO [] c ju)) []:=
 aT.jU iU tG iU m4 tH (cP.row fK) (cP.row lO) tI (aT.bk _)
theorem PU (hL:L.length<=100000){p:RP}(hd:aX 65 L Data.v p.data)(hc:aX 66 L cM.v p.dS)(hb:aX 67 L gL p.bind):aX 38 L gL (z1 L p):=by
 intro nx0 nx H0 H bp F s o ho h
 unfold z1 at ho
 rw[VH]
 refine Hq.alloc cJ h λx0 H1 aC h1=> ?_
 refine Rq.take hL h1 (λhi H2 nx2 h2=> ?_) (λhi H2 nx2 h2=> ?_)
 . rw[if_pos hi]at ho
   simp only[af]
   refine Rq.call hd rfl h2 ho λa s' H3 nx3 _ ho h3=> ?_
   refine Hq.UX h3 λH4 nx4 h4=> ?_
   simp only[af,Wl,Ia]
   exact Hq.fin (G:=[]) h4 di fe iR rfl rfl rfl aT.SA (by omega) λH9 nx9 h9=>bq.ret ho rfl h9
 rw[if_neg hi]at ho
 simp only[af]
 refine Rq.take hL h2 (λhi H3 nx3 h3=> ?_) (λhi H3 nx3 h3=> ?_)
 . rw[if_pos hi]at ho
   simp only[af]
   refine Rq.call hc rfl h3 ho λa s' H4 nx4 _ ho h4=> ?_
   refine Hq.Sx h4 λH5 nx5 h5=> ?_
   simp only[af,Vk,yD]
   exact Hq.fin (G:=[]) h5 di fe iR rfl rfl rfl aT.MN (by omega) λH9 nx9 h9=>bq.ret ho rfl h9
 . rw[if_neg hi,<- MT (p.bind s)]at ho
   simp only[af]
   refine Rq.call hb rfl h3 ho λa s' H4 nx4 _ ho h4=> ?_
   unfold gL
   simp only[af,Ej,Ek]
   exact Hq.Pp h4 rfl λH9 nx9 h9=>bq.ret ho rfl h9
end
def isTrue (r:Option Rt):Bool:=match r with
 | some ⟨.ret (.bool true),false,_,_⟩=>true
 | _=>false
def Vl:jf:=⟨[],[],[],[],false⟩
theorem En:N6 gK .leaf (λH=>isTrue (FD P Vl (λ_ _=>none) 1000 (.call 11 [] false none H 11)))=true:=by kernel_rfl
section
variable {nx0 nx nx' bp k:Nat}{H0 H H':T OB}{F A B G G':List Bx}{R:Go.Ev.Out->T OB->Nat->Prop}{b:Nat}{l:List Value}{e t:TypeId}{L:List Tok}
theorem Hq.PV (A:List Bx){off:Nat}{u:Value}{l':List Value}(h:Hp nx0 H0 (A++(b,l,e)::B) H nx)(hs:bh P t=some 1)(hc:u.cells.toList=[u])(ho:ax u=true)(hn:off<l.length)(hl:l.set off u=l'):
 ∃H',ai P H nx t (some (.pointer (some ⟨b,off,none⟩))) (some u)= .val undef H' nx/\Hp nx0 H0 (A++(b,l',e)::B) H' nx:=by
 obtain⟨o,H',nx',hA,⟨h1,h2,h3⟩,hr⟩:=Hq.put (R:=λo H2 nx2=>o= .ret undef/\nx2=nx/\Hp nx0 H0 (A++(b,l',e)::B) H2 nx) (k:=λv H nx=> .ret ⟨.ret v,false,H,nx⟩) A h hs hc ho hn hl λH' h'=>Wq.jM h'.ag ⟨rfl,rfl,h'⟩
 cases he:ai P H nx t (some (.pointer (some ⟨b,off,none⟩))) (some u)with
 | val v H1 aC=>
   rw[he]at hr
   have hr:some (⟨.ret v,false,H1,aC⟩:Rt)=some ⟨o,false,H',nx'⟩:=hr
   cases hr
   cases h1
   cases h2
   exact⟨_,rfl,h3⟩
 | _=>rw[he]at hr;cases hr
theorem K7 {sz:Nat}{x:Value}(hz:bS P e=some l)(hs:bh P t=some sz)(hl:l.length=sz)(hx:x.cells.toList.length=sz)(hone:x.cells.toList.all ax=true)(h:Hp nx0 H0 F H nx):
 ∃H',Hp nx0 H0 F H' (nx+1+1)/\∀k:Go.Ev.T OB->Nat->Q,(ak (aq P H nx e) λp H nx=>bC P H nx t (some p) x k)=k H' (nx+1+1):=by
 refine⟨Ev.set (Ev.set H (Ev.bits nx) (some (cS l e))) (Ev.bits nx) (some .dead),h.dz ((((h.ag.set h.ag.1 _).succ).set h.ag.1 _).succ) (by omega) λb l e hb hi=>(hi.other (by omega) _).other (by omega) _,λk=> ?_⟩
 rw[jm hz]
 have hg:(Ev.set H (Ev.bits nx) (some (cS l e))).get (Ev.bits nx)=some (cS l e):=by rw[Ev.get_at,if_pos rfl]
 show lB ((Ev.set H (Ev.bits nx) (some (cS l e))).get (Ev.bits nx)) (λn _ _=>aa (bh P t) (λs=>bif Nat.beq 0 0&&(Nat.beq n s&&(Nat.beq x.cells.toList.length s&&x.cells.toList.all ax))then
  da (Ev.bits nx) (Ev.set H (Ev.bits nx) (some (cS l e))) (some .dead) λH=>Ev.bF (Nat.succ (nx+1)) λn=>k H n else .bad) .bad)=_
 rw[hg]
 show aa (bh P t) (λs=>bif Nat.beq 0 0&&(Nat.beq l.length s&&(Nat.beq x.cells.toList.length s&&x.cells.toList.all ax))then
  da (Ev.bits nx) (Ev.set H (Ev.bits nx) (some (cS l e))) (some .dead) λH=>Ev.bF (Nat.succ (nx+1)) λn=>k H n else .bad) .bad=_
 rw[hs,aJ,hl,hx,hone,a_,ba]
 have e2:Nat.beq sz sz=true:=Nat.beq_refl sz
 rw[e2]
 rfl
theorem aK.cast {q q':Q}(e:q=q')(h:aK P pl X0 q' nx0 H0 R):aK P pl X0 q nx0 H0 R:=e ▸ h
theorem aK.base {q:Q}{aC:Nat}{H1:T OB}(hA:Ag nx0 H0 aC H1)(h:aK P pl X0 q aC H1 R):aK P pl X0 q nx0 H0 λo H nx=>R o H nx/\Ag aC H1 nx H:=by
 obtain⟨o,H',nx',h1,h2,h3⟩:=h
 exact⟨o,H',nx',hA.trans h1,⟨h2,h1⟩,h3⟩
theorem aK.mono {q:Q}{R':Go.Ev.Out->T OB->Nat->Prop}(h:aK P pl X0 q nx0 H0 R)(hR:∀o H nx,Ag nx0 H0 nx H->R o H nx->R' o H nx):aK P pl X0 q nx0 H0 R':=by
 obtain⟨o,H',nx',h1,h2,h3⟩:=h
 exact⟨o,H',nx',h1,hR _ _ _ h1 h2,h3⟩
theorem Dv {c:Cg}{tm:T Value}{a1 a2 a3:Value}(h:aK P pl X0 (yU P pl c tm .ret H nx) nx0 H0 R):aK P pl X0 (l6 P pl c tm [(34,[a1,a2,a3])] .ret H nx) nx0 H0 R:=by
 obtain⟨o,H',nx',h1,h2,h3⟩:=h
 refine⟨o,H',nx',h1,h2,?_⟩
 have e1:Go.Ev.F P pl X0 (.call 34 [a1,a2,a3] true none H nx)=some ⟨.ret (.tuple ⟨[]⟩),false,H,nx⟩:=by
  rw[oI,To]
  rfl
 show aa (Go.Ev.F P pl X0 (.call 34 [a1,a2,a3] true none H nx)) (λr=>(QD .ret r (l6 P pl c tm [])).run (Go.Ev.F P pl X0)) none=_
 rw[e1]
 exact h3
theorem SB (H:T OB)(a:Int):al P H .neq 20 true (some (.iface 69 (.agg ⟨[i64 a]⟩))) (some .nilIface)=some (.bool true):=by kernel_rfl
theorem SC (v:Value):gQ P (some (.iface 69 v)) 69 true=some (.tuple ⟨[v,.bool true]⟩):=by kernel_rfl
theorem SD (H:T OB)(a:Int):ae P H 3 (some (aj (i64 a)))=some (i64 a):=by kernel_rfl
theorem SE (a:Int):ab P 69 (some (aj (.agg ⟨[i64 a]⟩))) 0=some (aj (i64 a)):=by kernel_rfl
theorem K8 {c:Cg}{tm:T Value}{x1 x2 x3:Nat}{v1 v2 v3:Value}{a:Int}(hh:Hp nx0 H0 ((x1,[v1],24)::(x2,[v2],3)::(x3,[v3],25)::F) H nx)
 (h:∀H' nx',Hp nx0 H0 ((x1,[az],24)::(x2,[i64 a],3)::(x3,[i64 80],25)::F) H' nx'->aK P pl X0 (yU P pl c tm .ret H' nx') nx0 H0 R):aK P pl X0 (l6 P pl c tm [(34,[ptr x1,ptr x2,ptr x3])] (.fR (jy a)) H nx) nx0 H0 R:=by
 obtain⟨H1,h1,e1⟩:=K7 (x:= .agg ⟨[i64 a]⟩) I6 Q3 rfl rfl rfl hh
 obtain⟨H2,e2,h2⟩:=Hq.PV (t:=24) (off:=0) (u:=az) (l':=[az]) [] h1 ra rfl rfl (by simp) rfl
 obtain⟨H3,e3,h3⟩:=Hq.PV (t:=3) (off:=0) (u:=i64 a) (l':=[i64 a]) [_] h2 zu rfl rfl (by simp) rfl
 obtain⟨H4,e4,h4⟩:=Hq.PV (t:=25) (off:=0) (u:=i64 80) (l':=[i64 80]) [_,_] h3 B_ rfl rfl (by simp) rfl
 obtain⟨o,H',nx',g1,g2,g3⟩:=h H4 _ h4
 refine⟨o,H',nx',g1,g2,?_⟩
 have e12:Go.Ev.F P pl X0 (zv (ptr x1) (ptr x2) (ptr x3) (aj (.agg ⟨[i64 a]⟩)) H1 (nx+1+1))=some ⟨.ret (.tuple ⟨[]⟩),true,H4,nx+1+1⟩:=by
  rw[oI,Nx]
  show Q.run (Go.Ev.F P pl X0) _=_
  simp only[SE,SD,aJ,e2,e3,e4,ak,bj,Bool.and_true,l7]
  rfl
 have e0:Go.Ev.F P pl X0 (.call 34 [ptr x1,ptr x2,ptr x3] true (some (jy a)) H nx)=some ⟨.ret (.tuple ⟨[]⟩),true,H4,nx+1+1⟩:=by
  rw[oI,Tn]
  show Q.run (Go.Ev.F P pl X0) _=_
  simp only[SB,SC,aJ,qW,l7,Ej,Ek,e1,uk,Bool.not_true,l8]
  exact e12
 show aa (Go.Ev.F P pl X0 (.call 34 [ptr x1,ptr x2,ptr x3] true (some (jy a)) H nx)) (λr=>(QD (.fR (jy a)) r (l6 P pl c tm [])).run (Go.Ev.F P pl X0)) none=_
 rw[e0]
 exact g3
end
end
end Go.Proofs.YthjhonhhbddhkaaGreatDoor
