/- Texts of this claim, side by side. -/
import Derived.Test.YthjhonhhbddhkaaDoorG9
import Derived.Test.YthjhonhhbddhkaaDoorG8
namespace Go.Proofs.YthjhonhhbddhkaaDoor
open Go.Ev Go.RowKit
noncomputable section
set_option maxRecDepth 100000
set_option linter.unusedVariables false
set_option linter.unusedSimpArgs false
set_option maxHeartbeats 8000000
section
variable {L:List Tok}{k k' m n:Nat}{s w:List UInt8}{t:Tok}
def PE (L:List Tok)(k:Nat):Prop:=jZ L k=false/\bP L k [58,58]=false
theorem LV (h:(tk L k).k≠1/\(tk L k).k≠2/\(tk L k).k≠3/\(tk L k).k≠4):mY L k=false:=by
 unfold mY;rw[decide_eq_false h.1,decide_eq_false h.2.1,decide_eq_false h.2.2.1,decide_eq_false h.2.2.2];rfl
theorem o_ {k n:Int}(h:(decide (k=3)||decide (n=0))=true)(hk:k≠3):n=0:=by
 rw[Bool.or_eq_true,decide_eq_true_eq,decide_eq_true_eq]at h;exact h.resolve_left hk
theorem Pk (k n:Int)(s:List UInt8)(l:List aB):(aB.mk k n s l).k=k:=rfl
theorem Ps (k n:Int)(s:List UInt8)(l:List aB):(aB.mk k n s l).s=s:=rfl
theorem Pl (k n:Int)(s:List UInt8)(l:List aB):(aB.mk k n s l).l=l:=rfl
theorem y7 (h:ia (tk L k) (cN s))(h1:s≠[40])(h2:s≠[95])(h3:s≠[126]):jZ L k=false:=by
 unfold jZ;rw[LV ⟨dK h (by decide),dK h (by decide),dK h (by decide),dK h (by decide)⟩,cw h h1,cw h h2,cw h h3];rfl
theorem PE.sg (h:ia (tk L k) (cN s))(h1:s≠[40])(h2:s≠[95])(h3:s≠[126])(h4:s≠[58,58]):PE L k:=⟨y7 h h1 h2 h3,cw h h4⟩
def LW (t:Tok):Prop:=t.k=1\/t.k=2\/t.k=3\/t.k=4\/t=cN [40]\/t=cN [95]\/t=cN [126]
theorem LW.XO (h:LW t)(he:ia (tk L k) t):jZ L k=true:=by
 unfold jZ mY
 rcases h with h | h | h | h | h | h | h
 . rw[he.1,h];rfl
 . rw[he.1,h];rfl
 . rw[he.1,h];rfl
 . rw[he.1,h];rfl
 . subst h;rw[fD he];simp
 . subst h;rw[fD he];simp
 . subst h;rw[fD he];simp
theorem jr (p:aB)(hr:bx p=true):∃t ts,aS p=t::ts/\LW t/\(t.k=4->p= .mk 6 0 t.s []/\ts=[]):=by
 rw[kz];have e0:=h_ p;rw[hr]at e0;have e1:=e0.symm;rw[Bool.and_eq_true]at e1;obtain⟨_,hd⟩:=e1;unfold kj at hd;rw[Bool.and_eq_true]at hd;obtain⟨hn,hd⟩:=hd
 by_cases hk:p.k=6/\p.l.length≠0
 . rw[if_pos hk];exact⟨_,_,rfl,by simp[LW],λh=>by cases h⟩
 rw[if_neg hk,mQ];unfold mw
 by_cases h1:p.k=1
 . rw[if_pos h1];exact⟨_,_,rfl,by simp[LW],λh=>by cases h⟩
 rw[if_neg h1]at hd ⊢
 by_cases h2:p.k=2
 . rw[if_pos h2];exact⟨_,_,rfl,by simp[LW],λh=>by cases h⟩
 rw[if_neg h2]at hd ⊢
 by_cases h3:p.k=3
 . rw[if_pos h3];split
   . exact⟨_,_,rfl,by simp[LW],λh=>by cases h⟩
   . exact⟨_,_,rfl,by simp[LW],λh=>by cases h⟩
 rw[if_neg h3]at hd ⊢
 by_cases h4:p.k=4
 . rw[if_pos h4];exact⟨_,_,rfl,by simp[LW],λh=>by cases h⟩
 rw[if_neg h4]at hd ⊢
 by_cases h5:p.k=5
 . rw[if_pos h5];exact⟨_,_,rfl,by simp[LW],λh=>by cases h⟩
 rw[if_neg h5]at hd ⊢
 by_cases h6:p.k=6
 . rw[if_pos h6]at hd ⊢;obtain⟨c,n,s,l⟩:=p;obtain rfl:c=6:=h6;have hl:l=[]:=List.eq_nil_of_length_eq_zero (by
    refine Decidable.byContradiction λq=>hk ⟨rfl,q⟩)
   subst hl
   by_cases hc:s=[58,58]
   . subst hc;cases hd
   . rw[if_neg (show ¬(aB.mk 6 n s []).s=[58,58]from hc)];have hn:n=0:=o_ (k:=6) hn (by decide);subst hn;exact⟨_,_,rfl,by simp[LW],λh=>⟨rfl,rfl⟩⟩
 . rw[if_neg h6]at hd;cases hd
def FU (L:List Tok)(p:aB):Prop:=∀n k k',12*(aS p).length<=n->Sg L k (aS p) k'->(ps L n).cm k=yes p k'
def YX (L:List Tok)(p:aB):Prop:=∀n k k',12*(fR p).length+6<=n->Sg L k (fR p) k'->PE L k'->(ps L n).pat k=yes p k'
theorem FU.pat {p:aB}(h:FU L p)(hr:bx p=true)(hn:12*(aS p).length+1<=n)(hS:Sg L k (aS p) k')(hK:PE L k'):(ps L n).pat k=yes p k':=by
 obtain⟨m,rfl⟩:∃m,n=m+1:=⟨n-1,by omega⟩;show oW L (ps L m) k=_;unfold oW;have e:oV L (ps L m) k=yes p k':=by
  obtain⟨t,ts,e,h1,h2⟩:=jr p hr;unfold oV
  by_cases h4:t.k=4
  . obtain⟨rfl,rfl⟩:=h2 h4;rw[e]at hS;obtain⟨hs1,hs2⟩:=hS;cases hs2;rw[if_pos (by rw[hs1.1,h4]),bV hK.1,hs1.2.1]
  . have hs1:ia (tk L k) t:=by rw[e]at hS;exact hS.1
    rw[if_neg (by rw[hs1.1];exact h4)];exact h m k k' (by omega) hS
 rw[e,bW,bV hK.2]
theorem Ho (l:List aB)(hl:∀a,a∈l->FU L a/\bx a=true)(acc:List aB)(hn:12*(bj (bN [44] aS) false l).length+1<=n)(hS:Sg L k (bj (bN [44] aS) false l) k')(hK:PE L k')(hN:bP L k' [44]=false):(ps L n).iP acc k=yes (acc++l) k':=by
 rw[<- foldl_add];exact mD aS (λn=>(ps L n).pat) (λn=>(ps L n).iP) _ [44] (PE L) 1 (by decide) (λn acc k=>rfl) (λk h=>PE.sg h (by decide) (by decide) (by decide) (by decide)) l (λa ha n k k' h1 h2 h3=>(hl a ha).1.pat (hl a ha).2 h1 h2 h3) acc n k k' hn hS hK hN
theorem OV {s:List UInt8}(l:List aB)(b:Bool):bj (bN s vu) b (l.map λp=>((p.k,p.l.length),ux p))=bj (bN s aS) b l:=fA _ _ _ b
theorem LX {x:Int}(h: -4611686018427387903<=x/\x<=4611686018427387903):IntKind.i64.wrap (-(-x))=x:=by
 rw[bS (by omega)];omega
theorem tY (p:aB):bx p=true->(FU L p/\YX L p)/\∀a,a∈p.l->FU L a:=aB.ind (p:=λp=>bx p=true->(FU L p/\YX L p)/\∀a,a∈p.l->FU L a) (λp ih hr=>by
 have e0:=h_ p;rw[hr]at e0;have e1:=e0.symm;rw[Bool.and_eq_true,cJ]at e1;obtain⟨hrl,hd⟩:=e1;have hR:∀a,a∈p.l->bx a=true:=λa ha=>bG hrl ha;have hE:∀a,a∈p.l->FU L a:=λa ha=>(ih a ha (hR a ha)).1.1;have hE2:∀q,q∈p.l->∀a,a∈q.l->FU L a:=λq hq=>(ih q hq (hR q hq)).2;have hT:=mQ p;have hr0:=hr;unfold kj at hd;rw[Bool.and_eq_true]at hd;obtain⟨hz,hd⟩:=hd;have hV:¬(p.k=6/\p.l.length≠0)->FU L p:=λhk n k k' hn hS=>by
  rw[kz,if_neg hk,hT]at hn hS;obtain⟨c,x,s,l⟩:=p;unfold mw at hn hS
  by_cases h1:(aB.mk c x s l).k=1
  . rw[if_pos h1]at hn hS hd;obtain rfl:c=1:=h1;obtain⟨m,rfl⟩:∃m,n=m+1:=⟨n-1,by simp at hn;omega⟩;obtain⟨hs1,hs2⟩:=hS;cases hs2;rw[Bool.and_eq_true,decide_eq_true_eq,decide_eq_true_eq]at hd;show dB L (ps L m) k=_;unfold dB;rw[if_neg (dK hs1 (by decide)),if_neg (dK hs1 (by decide)),if_neg (dK hs1 (by decide)),if_neg (dK hs1 (by decide)),if_pos (fD hs1)];obtain⟨d1,d2⟩:=hd;cases d1;cases List.eq_nil_of_length_eq_zero d2;have hx:x=0:=o_ (k:=1) hz (by decide);rw[hx]
  rw[if_neg h1]at hn hS hd
  by_cases h2:(aB.mk c x s l).k=2
  . rw[if_pos h2]at hn hS hd;obtain rfl:c=2:=h2;obtain⟨m,rfl⟩:∃m,n=m+1:=⟨n-1,by simp at hn;omega⟩;obtain⟨hs1,hs2⟩:=hS;cases hs2;rw[Bool.and_eq_true,decide_eq_true_eq]at hd;show dB L (ps L m) k=_;unfold dB;rw[if_neg (dK hs1 (by decide)),if_neg (dK hs1 (by decide)),if_pos hs1.1,hs1.2.1];cases List.eq_nil_of_length_eq_zero hd.2;have hx:x=0:=o_ (k:=2) hz (by decide);rw[hx];rfl
  rw[if_neg h2]at hn hS hd
  by_cases h3:(aB.mk c x s l).k=3
  . rw[if_pos h3]at hn hS hd;obtain rfl:c=3:=h3;simp only[Bool.and_eq_true,decide_eq_true_eq]at hd;obtain⟨d1,d2,d3,d4⟩:=hd;cases d1;cases List.eq_nil_of_length_eq_zero d2;obtain⟨m,rfl⟩:∃m,n=m+1:=⟨n-1,by split at hn<;>simp at hn<;>omega⟩;show dB L (ps L m) k=_;unfold dB;split at hS
    . obtain⟨hs1,hs2,hs3⟩:=hS;cases hs3;rw[if_neg (dK hs1 (by decide)),if_neg (dK hs1 (by decide)),if_neg (dK hs1 (by decide)),if_neg (dK hs1 (by decide)),bV (cw hs1 (by decide)),if_pos (fD hs1),n5 hs2.1,hs2.2.2];show yes (aB.mk 3 (IntKind.i64.wrap (-(-x))) [] []) _=_;rw[show IntKind.i64.wrap (-(-x))=x from LX ⟨d3,d4⟩]
    . obtain⟨hs1,hs2⟩:=hS;cases hs2;rw[if_pos hs1.1,hs1.2.2];rfl
  rw[if_neg h3]at hn hS hd;have hx:x=0:=o_ hz h3;subst hx
  by_cases h4:(aB.mk c 0 s l).k=4
  . rw[if_pos h4]at hn hS hd;obtain rfl:c=4:=h4;obtain⟨m,rfl⟩:∃m,n=m+1:=⟨n-1,by simp at hn;omega⟩;obtain⟨hs1,hs2⟩:=hS;cases hs2;rw[decide_eq_true_eq]at hd;show dB L (ps L m) k=_;unfold dB;rw[if_neg (dK hs1 (by decide)),if_pos hs1.1,hs1.2.1];cases List.eq_nil_of_length_eq_zero hd;rfl
  rw[if_neg h4]at hn hS hd
  by_cases h5:(aB.mk c 0 s l).k=5
  . rw[if_pos h5,OV]at hn hS;rw[if_pos h5]at hd;obtain rfl:c=5:=h5;rw[Bool.and_eq_true,decide_eq_true_eq]at hd;obtain⟨d1,d2⟩:=hd;cases d1;obtain⟨m,rfl⟩:∃m,n=m+1:=⟨n-1,by simp at hn;omega⟩;rw[Sg.cons,Sg.app]at hS;obtain⟨hs1,j,hs2,hs3,hs4⟩:=hS;cases hs4;rw[List.length_cons,List.length_append]at hn;show dB L (ps L m) k=_;unfold dB;rw[if_neg (dK hs1 (by decide)),if_neg (dK hs1 (by decide)),if_neg (dK hs1 (by decide)),if_neg (dK hs1 (by decide)),bV (cw hs1 (by decide)),bV (cw hs1 (by decide)),dC hs1]
    match l with
    | []=>
      cases hs2;rw[if_pos (fD hs3)]
    | [a]=>simp[aB.l]at d2
    | a::b::r=>
      have eq:bj (bN [44] aS) true (aB.mk 5 0 [] (a::b::r)).l=aS a++bj (bN [44] aS) false (b::r):=rfl;rw[eq]at hs2 hn;rw[Sg.app]at hs2;obtain⟨j1,h1,h2⟩:=hs2;rw[List.length_append]at hn;have h6:ia (tk L j1) (cN [44]):=h2.1;have ha:a∈(aB.mk 5 0 [] (a::b::r)).l:=List.mem_cons_self ..;obtain⟨t,ts,e,hh,hh4⟩:=jr a (hR a ha);have h7:ia (tk L (k+1)) t:=by rw[e]at h1;exact h1.1
      have h8:bP L (k+1) [41]=false:=by
       rcases hh with h | h | h | h | h | h | h
       . exact o7 (fF h7 (by omega) (by omega))
       . exact o7 (fF h7 (by omega) (by omega))
       . exact o7 (fF h7 (by omega) (by omega))
       . exact o7 (fF h7 (by omega) (by omega))
       . subst h;exact cw h7 (by decide)
       . subst h;exact cw h7 (by decide)
       . subst h;exact cw h7 (by decide)
      have hp:mn L (ps L m) [a] j1=yes ([a]++(b::r)) j:=Ho (n:=m+1) (b::r) (λx hx=>⟨hE x (by show x∈a::b::r;simp at hx ⊢;exact .inr hx),hR x (by show x∈a::b::r;simp at hx ⊢;exact .inr hx)⟩) [a] (by omega) h2 (PE.sg hs3 (by decide) (by decide) (by decide) (by decide)) (cw hs3 (by decide));rw[bV h8,(hE a ha).pat (hR a ha) (by omega) h1 (PE.sg h6 (by decide) (by decide) (by decide) (by decide)),bW,if_pos (fD h6),hp,bW,dC hs3];rfl
  rw[if_neg h5]at hn hS hd
  by_cases h6:(aB.mk c 0 s l).k=6
  . rw[if_pos h6]at hn hS hd;have hl:l=[]:=List.eq_nil_of_length_eq_zero (Decidable.byContradiction λq=>hk ⟨h6,q⟩);subst hl;obtain rfl:c=6:=h6
    by_cases hc:s=[58,58]
    . subst hc;cases hd
    . rw[if_neg (show ¬(aB.mk 6 0 s []).s=[58,58]from hc)]at hn hS;obtain⟨m,rfl⟩:∃m,n=m+1:=⟨n-1,by simp at hn;omega⟩;obtain⟨hs1,hs2⟩:=hS;cases hs2;show dB L (ps L m) k=_;unfold dB;rw[if_neg (dK hs1 (by decide)),if_neg (dK hs1 (by decide)),if_neg (dK hs1 (by decide)),if_pos hs1.1,hs1.2.1];rfl
  . rw[if_neg h6]at hd;cases hd
 have hB:YX L p:=λn k k' hn hS hK=>by
  by_cases hk:p.k=6/\p.l.length≠0
  . rw[hT]at hn hS;obtain⟨c,x,s,l⟩:=p;obtain⟨q1,q2⟩:=hk;obtain rfl:c=6:=q1;have hx:x=0:=o_ (k:=6) hz (by decide);subst hx;unfold mw at hn hS;simp only[show((6:Int)=1)=False from by simp,show((6:Int)=2)=False from by simp,show((6:Int)=3)=False from by simp,show((6:Int)=4)=False from by simp,show((6:Int)=5)=False from by simp,if_false,if_true,Pk]at hn hS hd;obtain⟨m,rfl⟩:∃m,n=m+1:=⟨n-1,by omega⟩;show oW L (ps L m) k=_;unfold oW
    by_cases hc:s=[58,58]
    . subst hc;simp only[Ps,if_true]at hn hS hd
      match l,hd with
      | [q],hd=>
        simp only[Pl,List.map_cons,List.map_nil]at hn hS hd;rw[Bool.and_eq_true,decide_eq_true_eq,decide_eq_true_eq]at hd;have hq:q∈(aB.mk 6 0 [58,58] [q]).l:=by simp[aB.l]
        rw[oZ q]at hn hS;have hrq:=hR q hq;have e2:=h_ q;rw[hrq]at e2;have e3:=e2.symm;rw[Bool.and_eq_true,cJ]at e3;obtain⟨g1,g2⟩:=e3;obtain⟨qc,qx,qs,ql⟩:=q;obtain⟨q1,q2⟩:=hd;obtain rfl:qc=5:=q1;unfold kj at g2;simp only[show((5:Int)=1)=False from by simp,show((5:Int)=2)=False from by simp,show((5:Int)=3)=False from by simp,show((5:Int)=4)=False from by simp,if_false,if_true,Pk,Bool.and_eq_true,decide_eq_true_eq,decide_false,Bool.false_or]at g2;obtain⟨g2,g3,_⟩:=g2;cases g2;cases g3
        match ql,q2 with
        | [a,b],_=>
          simp only[Pl,List.map_cons,List.map_nil]at hn hS;have ha:a∈(aB.mk 5 0 [] [a,b]).l:=by simp[aB.l]
          have hb:b∈(aB.mk 5 0 [] [a,b]).l:=by simp[aB.l]
          rw[Sg.app]at hS;obtain⟨j,h1,h2,h3⟩:=hS;rw[List.length_append,List.length_cons]at hn;have ra:bx a=true:=bG g1 ha;have rb:bx b=true:=bG g1 hb;have eH:oV L (ps L m) k=yes a j:=by
           obtain⟨t,ts,e,hh1,hh2⟩:=jr a ra;unfold oV
           by_cases h4:t.k=4
           . obtain⟨rfl,rfl⟩:=hh2 h4;rw[e]at h1;obtain⟨hs1,hs2⟩:=h1;cases hs2;rw[if_pos (by rw[hs1.1,h4]),bV (y7 h2 (by decide) (by decide) (by decide)),hs1.2.1]
           . have hs1:ia (tk L k) t:=by rw[e]at h1;exact h1.1
             rw[if_neg (by rw[hs1.1];exact h4)];exact hE2 _ hq a ha m k j (by omega) h1
          rw[eH,bW,if_pos (fD h2),(hE2 _ hq b hb).pat rb (by omega) h3 hK,bW];rfl
    . rw[if_neg (show ¬(aB.mk 6 0 s l).s=[58,58]from hc)]at hn hS hd;rw[Bool.and_eq_true,decide_eq_true_eq]at hd
      match l,q2,hd.2 with
      | [a],_,_=>
        simp only[Pl,List.map_cons,List.map_nil]at hn hS;have eq:bj (λ_=>vu) true [((a.k,a.l.length),ux a)]=aS a++[]:=rfl;rw[eq,List.append_nil]at hn hS;have ha:a∈(aB.mk 6 0 s [a]).l:=by simp[aB.l]
        obtain⟨h1,h2⟩:=hS;rw[List.length_cons]at hn;obtain⟨t,ts,e,hh1,hh2⟩:=jr a (hR a ha);have h3:ia (tk L (k+1)) t:=by rw[e]at h2;exact h2.1
        unfold oV;rw[if_pos h1.1,if_pos (hh1.XO h3),hE a ha m _ _ (by omega) h2,bW,bW,h1.2.1,bV hK.2];rfl
  . have eP:aS p=fR p:=by rw[kz,if_neg hk]
    exact(hV hk).pat hr (by rw[eP];omega) (by rw[eP];exact hS) hK
 refine⟨⟨?_,hB⟩,hE⟩
 by_cases hk:p.k=6/\p.l.length≠0
 . intro n k k' hn hS;rw[kz,if_pos hk]at hn hS;rw[Sg.cons,Sg.app]at hS;obtain⟨hs1,j,hs2,hs3,hs4⟩:=hS;cases hs4;rw[List.length_cons,List.length_append]at hn;obtain⟨m,rfl⟩:∃m,n=m+1:=⟨n-1,by omega⟩;have h8:bP L (k+1) [41]=false:=by
    rw[hT]at hs2;unfold mw at hs2;rw[hk.1]at hs2 hd;simp only[show((6:Int)=1)=False from by simp,show((6:Int)=2)=False from by simp,show((6:Int)=3)=False from by simp,show((6:Int)=4)=False from by simp,show((6:Int)=5)=False from by simp,if_false,if_true]at hs2 hd
    by_cases hc:p.s=[58,58]
    . rw[if_pos hc]at hs2 hd
      match hpl:p.l,hd with
      | [q],hd=>
        rw[hpl]at hs2;rw[Bool.and_eq_true,decide_eq_true_eq,decide_eq_true_eq]at hd;simp only[List.map_cons,List.map_nil]at hs2;rw[oZ q]at hs2;have hq:q∈p.l:=by rw[hpl];simp
        have e3:=h_ q;rw[hR q hq]at e3;have e3:=e3.symm;rw[Bool.and_eq_true,cJ]at e3
        match hql:q.l,hd.2 with
        | [a,b],_=>
          rw[hql]at hs2;simp only[List.map_cons,List.map_nil]at hs2;rw[Sg.app]at hs2;obtain⟨j1,h1,_⟩:=hs2;obtain⟨t,ts,e,hh,_⟩:=jr a (bG e3.1 (by rw[hql];simp));have h7:ia (tk L (k+1)) t:=by rw[e]at h1;exact h1.1
          rcases hh with h | h | h | h | h | h | h
          . exact o7 (fF h7 (by omega) (by omega))
          . exact o7 (fF h7 (by omega) (by omega))
          . exact o7 (fF h7 (by omega) (by omega))
          . exact o7 (fF h7 (by omega) (by omega))
          . subst h;exact cw h7 (by decide)
          . subst h;exact cw h7 (by decide)
          . subst h;exact cw h7 (by decide)
    . rw[if_neg hc]at hs2;exact o7 (XA hs2.1 (by decide) (by decide))
   show dB L (ps L m) k=_;unfold dB;rw[if_neg (dK hs1 (by decide)),if_neg (dK hs1 (by decide)),if_neg (dK hs1 (by decide)),if_neg (dK hs1 (by decide)),bV (cw hs1 (by decide)),bV (cw hs1 (by decide)),dC hs1,bV h8,hB m _ _ (by simp at hn;omega) hs2 (PE.sg hs3 (by decide) (by decide) (by decide) (by decide)),bW,bV (cw hs3 (by decide)),dC hs3]
 . exact hV hk) p
end
section
variable {L:List Tok}{k k' m n:Nat}{s w:List UInt8}{t:Tok}
abbrev CJ:List UInt8:=[108,101,116]
abbrev OW:List UInt8:=[104,97,110,100,108,101]
structure WS (L:List Tok)(k:Nat):Prop where
 op:∀lv,gV L lv k=false
 bg:js L k=false
 hn:bP L k OW=false
def vJ (s:List UInt8):Bool:=aC.all (λx=> !x.contains s)&&(!decide (s=[40])&&(!decide (s=CJ) && !decide (s=OW)))
theorem OX (h:aC.all (λx=> !x.contains s)=true)(lv:Nat):((aC[lv]?).getD []).contains s=false:=by
 cases hx:aC[lv]? with
 | none=>rfl
 | some x=>
   have:=List.all_eq_true.1 h x (List.mem_of_getElem? hx);show x.contains s=false;rw[Bool.not_eq_true']at this;exact this
theorem FV (h:ia (tk L k) t)(hs:aC.all (λx=> !x.contains t.s)=true)(lv:Nat):gV L lv k=false:=by
 unfold gV;rw[h.2.1,OX hs,Bool.and_false]
theorem FW (h:ia (tk L k) t)(hk:t.k=7\/t.k=6\/t.k=0)(h1:t.s≠[40])(h2:t.s≠CJ):js L k=false:=by
 unfold js;rw[LV (by rw[h.1];omega)];unfold bP;rw[h.2.1,decide_eq_false h1,decide_eq_false h2,Bool.and_false];rfl
theorem WS.of (h:ia (tk L k) t)(hk:t.k=7\/t.k=6\/t.k=0)(hs:vJ t.s=true):WS L k:=by
 unfold vJ at hs;simp only[Bool.and_eq_true,Bool.not_eq_true',decide_eq_false_iff_not]at hs;obtain⟨h1,h2,h3,h4⟩:=hs;refine⟨FV h h1,FW h hk h2 h3,?_⟩;unfold bP;rw[h.2.1,decide_eq_false h4,Bool.and_false]
theorem WS.sg (h:ia (tk L k) (cN s))(hs:vJ s=true):WS L k:=WS.of h (.inl rfl) hs
theorem WS.ky (h:ia (tk L k) (eg s))(hs:vJ s=true):WS L k:=WS.of h (.inr (.inl rfl)) hs
def CK (t:Tok):Prop:=t.k=1\/t.k=2\/t.k=3\/t.k=4\/t=cN [40]\/t=eg CJ
theorem CK.no (h:CK t)(he:ia (tk L k) t)(h1:[40]≠w)(h2:CJ≠w):bP L k w=false:=by
 rcases h with h | h | h | h | h | h
 . exact o7 (fF he (by omega) (by omega))
 . exact o7 (fF he (by omega) (by omega))
 . exact o7 (fF he (by omega) (by omega))
 . exact o7 (fF he (by omega) (by omega))
 . subst h;exact cw he h1
 . subst h;exact fE he h2
theorem CK.un (h:CK t)(he:ia (tk L k) t):unOp L k=false:=by
 unfold unOp
 rcases h with h | h | h | h | h | h
 . rw[fF he (by omega) (by omega)];rfl
 . rw[fF he (by omega) (by omega)];rfl
 . rw[fF he (by omega) (by omega)];rfl
 . rw[fF he (by omega) (by omega)];rfl
 . subst h;rw[he.2.1,show cX.contains (cN [40]).s=false by decide +kernel,Bool.and_false]
 . subst h;rw[he.2.1,show cX.contains (eg CJ).s=false by decide +kernel,Bool.and_false]
theorem CK.bg (h:CK t)(he:ia (tk L k) t):js L k=true:=by
 unfold js mY
 rcases h with h | h | h | h | h | h
 . rw[he.1,h];rfl
 . rw[he.1,h];rfl
 . rw[he.1,h];rfl
 . rw[he.1,h];rfl
 . subst h;rw[fD he];simp
 . subst h;rw[iK he];simp
theorem kG (e:aq)(hr:bh e=true):kl e=e/\(∀a,a∈e.l->bh a=true)/\(∀a,a∈e.p->bx a=true)/\(∀a,a∈e.d->eo a=true)/\fx e.k e.n e.s e.l.length e.p.length e.d=true:=by
 have e0:=yo e;rw[hr]at e0;have e1:=e0.symm;rw[Bool.and_eq_true,Bool.and_eq_true,Bool.and_eq_true,Bool.and_eq_true,jn,cJ,fB]at e1;exact⟨by simpa[cP]using e1.2.1,λa ha=>bG e1.1 ha,λa ha=>bG e1.2.2.1 ha,λa ha=>bG e1.2.2.2.1 ha,e1.2.2.2.2⟩
theorem tZ (e:aq)(hr:bh e=true):∃t ts,ay e=t::ts/\CK t:=by
 rw[jm];obtain⟨_,_,_,_,hd⟩:=kG e hr
 by_cases hk:lL e.k=true
 . rw[if_pos hk,dU];unfold lL at hk;simp only[Bool.or_eq_true,decide_eq_true_eq]at hk;unfold tO;unfold fx at hd
   by_cases h1:e.k=1
   . rw[if_pos h1];exact⟨_,_,rfl,by simp[CK]⟩
   rw[if_neg h1]at hd ⊢
   by_cases h2:e.k=2\/e.k=3\/e.k=4
   . rw[if_pos h2];exact⟨_,_,rfl,by simp only[CK];omega⟩
   rw[if_neg h2]
   by_cases h5:e.k=5
   . rw[if_pos h5];exact⟨_,_,rfl,by simp[CK]⟩
   rw[if_neg h5]
   by_cases h13:e.k=13
   . rw[if_pos h13];exact⟨_,_,rfl,by simp[CK]⟩
   rw[if_neg h13];have h10:e.k=10:=by omega
   rw[if_pos h10];rw[h10]at hd;simp only[show((10:Int)=2)=False from by simp,show((10:Int)=3)=False from by simp,show((10:Int)=4)=False from by simp,show((10:Int)=5)=False from by simp,show((10:Int)=13)=False from by simp,show((10:Int)=6)=False from by simp,show((10:Int)=7)=False from by simp,show((10:Int)=8)=False from by simp,show((10:Int)=9)=False from by simp,show((10:Int)=12)=False from by simp,show((10:Int)=11)=False from by simp,show((10:Int)=14)=False from by simp,show((10:Int)=15)=False from by simp,if_false,if_true,or_false,Bool.and_eq_true,decide_eq_true_eq]at hd
   match e.l,hd.2 with
   | [x],_=>exact⟨_,_,rfl,by simp[CK]⟩
 . rw[if_neg hk];exact⟨_,_,rfl,by simp[CK]⟩
def UN (L:List Tok)(e:aq):Prop:=∀n k k',12*(ay e).length<=n->Sg L k (ay e) k'->(ps L n).atom k=yes e k'
def UO (L:List Tok)(e:aq):Prop:=∀n k k',12*(dm e).length+12<=n->Sg L k (dm e) k'->WS L k'->bP L k' [124]=false->(ps L n).exp k=yes e k'
def rK (L:List Tok)(e:aq):Prop:=UN L e/\bh e=true
theorem rK.pos {e:aq}(h:rK L e):1<=(ay e).length:=by
 obtain⟨t,ts,e1,_⟩:=tZ e h.2;rw[e1];simp
theorem rK.hd {e:aq}(h:rK L e)(hS:Sg L k (ay e) k'):∃t,CK t/\ia (tk L k) t:=by
 obtain⟨t,ts,e1,h1⟩:=tZ e h.2;rw[e1]at hS;exact⟨t,h1,hS.1⟩
theorem rK.un {e:aq}(h:rK L e)(hn:12*(ay e).length+1<=n)(hS:Sg L k (ay e) k')(hb:js L k'=false):(ps L n).un k=yes e k':=by
 obtain⟨m,rfl⟩:∃m,n=m+1:=⟨n-1,by omega⟩;obtain⟨t,h1,h2⟩:=h.hd hS;show A3 L (ps L m) k=_;unfold A3;rw[bV (h1.un h2),h.1 m k k' (by omega) hS,bW];unfold nT;rw[bV hb]
theorem n_ {a:aq}{N k1:Nat}(hu:∀m,N<=m->(ps L m).un k=yes a k1):∀d lv,lv+d=7->(∀j,lv<=j->gV L j k1=false)->∀n,N+d+1<=n->(ps L n).bin lv k=yes a k1:=by
 intro d
 induction d with
 | zero=>
   intro lv hl hj n hn;obtain⟨m,rfl⟩:∃m,n=m+1:=⟨n-1,by omega⟩;show lI L (ps L m) lv k=_;unfold lI;rw[if_pos (by omega)];exact hu m (by omega)
 | succ d ih=>
   intro lv hl hj n hn;obtain⟨m,rfl⟩:∃m,n=m+1:=⟨n-1,by omega⟩;show lI L (ps L m) lv k=_;unfold lI;rw[if_neg (by omega),ih (lv+1) (by omega) (λj h=>hj j (by omega)) m (by omega),bW];unfold mZ;rw[bV (hj lv (Nat.le_refl _))]
theorem rL {a:aq}{k1:Nat}(h1:bP L k [105,102]=false)(h2:bP L k [99,97,115,101]=false)(h3:bP L k [102,110]=false)(h4:bP L k [114,97,105,115,101]=false)(hb:(ps L n).bin 0 k=yes a k1)(hh:bP L k1 OW=false):(ps L (n+1)).exp k=yes a k1:=by
 show jv L (ps L n) k=_;unfold jv;rw[bV h1,bV h2,bV h3,bV h4,hb,bW,bV hh]
theorem rK.exp {e:aq}(h:rK L e)(hn:12*(ay e).length+10<=n)(hS:Sg L k (ay e) k')(hK:WS L k'):(ps L n).exp k=yes e k':=by
 obtain⟨m,rfl⟩:∃m,n=m+1:=⟨n-1,by omega⟩;obtain⟨t,h1,h2⟩:=h.hd hS;exact rL (h1.no h2 (by decide) (by decide)) (h1.no h2 (by decide) (by decide)) (h1.no h2 (by decide) (by decide)) (h1.no h2 (by decide) (by decide)) (n_ (N:=12*(ay e).length+1) (λm hm=>h.un hm hS hK.bg) 7 0 rfl (λj _=>hK.op j) m (by omega)) hK.hn
theorem Hr (r:List aq):∀(c x:Int) (s:List UInt8) (l:List aq) (p:List aB) (d:List aG),r.foldl aq.add (.mk c x s l p d)= .mk c x s (l++r) p d:=by
 induction r with
 | nil=>intros;simp
 | cons a r ih=>intro c x s l p d;rw[List.foldl_cons,aq.add,ih];simp
theorem Hs (w:List UInt8)(hw:vJ w=true)(l:List aq)(hl:∀a,a∈l->rK L a)(acc:aq)(hn:12*(bj (bN w ay) false l).length+10<=n)(hS:Sg L k (bj (bN w ay) false l) k')(hK:WS L k')(hN:bP L k' w=false):(ps L n).cU w acc k=yes (l.foldl aq.add acc) k':=
 mD ay (λn=>(ps L n).exp) (λn=>(ps L n).cU w) _ w (WS L) 10 (by decide) (λn acc k=>rfl) (λk h=>WS.sg h hw) l (λa ha n k k' h1 h2 h3=>(hl a ha).exp h1 h2 h3) acc n k k' hn hS hK hN
theorem t_ (hK:WS L k')(hN:bP L k' [124]=false)(c x:Int)(s:List UInt8)(d:List aG):∀(qs:List aB) (xs:List aq) (l:List aq) (p:List aB) (n k:Nat),qs.length=xs.length->0<xs.length->(∀q,q∈qs->FU L q/\bx q=true)->(∀x,x∈xs->rK L x)->12*(ec true (qs.map aS) (xs.map ay)).length<=n->Sg L k (ec true (qs.map aS) (xs.map ay)) k'->(ps L n).j4 (.mk c x s l p d) k=yes (.mk c x s (l++xs) (p++qs) d) k':=by
 intro qs
 induction qs with
 | nil=>intro xs l p n k h1 h2;rw[List.length_nil]at h1;omega
 | cons q qs ih=>
   intro xs l p n k h1 h2 hq hx hn hS
   match xs,h2 with
   | e::xs,_=>
   have eq:ec true ((q::qs).map aS) ((e::xs).map ay)=aS q++cN [61,62]::(ay e++ec false (qs.map aS) (xs.map ay)):=rfl;rw[eq]at hn hS;rw[Sg.app]at hS;obtain⟨j1,s1,s2,s3⟩:=hS;rw[Sg.app]at s3;obtain⟨j2,s3,s4⟩:=s3;rw[List.length_append,List.length_cons,List.length_append]at hn;have hqq:=hq q (by simp);have hee:=hx e (by simp);obtain⟨t,ts,ep,_⟩:=jr q hqq.2;have hpos:1<=(aS q).length:=by rw[ep];simp
   obtain⟨m,rfl⟩:∃m,n=m+1:=⟨n-1,by omega⟩;have hj:WS L j2:=by
    match qs,xs,s4 with
    | [],_,s4=>cases s4;exact hK
    | _::_,[],_=>simp at h1
    | _::_,_::_,s4=>exact WS.sg (show ia (tk L j2) (cN [124])from s4.1) (by decide +kernel)
   show qY L (ps L m) _ k=_;unfold qY;rw[hqq.1.pat hqq.2 (by omega) s1 (PE.sg s2 (by decide) (by decide) (by decide) (by decide)),bW,dC s2,hee.exp (by omega) s3 hj,bW]
   match qs,xs,h1,s4,hn,ih with
   | [],[],_,s4,hn,_=>
     cases s4;rw[bV hN];rfl
   | q2::qs,e2::xs,h1,s4,hn,ih=>
     have eq2:ec false ((q2::qs).map aS) ((e2::xs).map ay)=cN [124]::ec true ((q2::qs).map aS) ((e2::xs).map ay):=rfl;rw[eq2]at s4 hn;obtain⟨s5,s6⟩:=s4;rw[List.length_cons]at hn;rw[if_pos (fD s5),aq.mm,ih (e2::xs) (l++[e]) (p++[q]) m (j2+1) (by simpa using h1) (by simp) (λr hr=>hq r (by simp at hr ⊢;exact .inr hr)) (λr hr=>hx r (by simp at hr ⊢;exact .inr hr)) (by omega) s6];simp
theorem LY (s:List UInt8):tI s=eg s\/tI s=cN s:=(Classical.em _).elim (λh=> .inl (if_pos h)) (λh=> .inr (if_neg h))
theorem CL (h:ia (tk L k) (tI s)):ko L k=true/\(tk L k).s=s:=by
 unfold ko;rcases LY s with q | q
 . rw[q]at h;exact⟨by rw[h.1];rfl,h.2.1⟩
 . rw[q]at h;exact⟨by rw[h.1];rfl,h.2.1⟩
theorem OY:∀s∈il,∃l,l<7/\(((aC[l]?).getD []).contains s=true/\(∀j,j<7->j≠l->((aC[j]?).getD []).contains s=false))/\s≠[40]/\s≠CJ:=by decide +kernel
theorem LZ:∀s∈cX,s≠[105,102]/\s≠[99,97,115,101]/\s≠[102,110]/\s≠[114,97,105,115,101]:=by decide +kernel
theorem A0 (h:ia (tk L k) (tI s))(hw:s≠w):bP L k w=false:=by
 unfold bP;rw[(CL h).2,decide_eq_false hw,Bool.and_false]
theorem OZ {a b:aq}(ha:rK L a)(hb:rK L b)(hs:il.contains s=true)(hn:12*((ay a).length+(ay b).length+1)+12<=n){j:Nat}(h1:Sg L k (ay a) j)(h2:ia (tk L j) (tI s))(h3:Sg L (j+1) (ay b) k')(hK:WS L k'):(ps L n).exp k=yes (two s a b) k':=by
 obtain⟨m,rfl⟩:∃m,n=m+1:=⟨n-1,by omega⟩;obtain⟨t,ht1,ht2⟩:=ha.hd h1;obtain⟨l,hl,⟨hin,hout⟩,hs1,hs2⟩:=OY s (by simpa using hs);obtain⟨o1,o2⟩:=CL h2;have hbg:js L j=false:=by
  unfold js mY bP;unfold ko at o1;rw[o2,decide_eq_false hs1,decide_eq_false hs2,Bool.and_false];rw[Bool.or_eq_true,decide_eq_true_eq,decide_eq_true_eq]at o1;rw[decide_eq_false (by omega),decide_eq_false (by omega),decide_eq_false (by omega),decide_eq_false (by omega)];rfl
 have hop:∀i,gV L i j=((aC[i]?).getD []).contains s:=λi=>by unfold gV;rw[o1,o2,Bool.true_and]
 have hno:∀i,i≠l->gV L i j=false:=λi hi=>by
  rw[hop]
  by_cases h7:i<7
  . exact hout i h7 hi
  . rw[List.getElem?_eq_none (by simpa[aC]using h7)];rfl
 have hua:∀m,12*(ay a).length+1<=m->(ps L m).un k=yes a j:=λm hm=>ha.un hm h1 hbg;have hub:∀m,12*(ay b).length+1<=m->(ps L m).un (j+1)=yes b k':=λm hm=>hb.un hm h3 hK.bg;have pa:=ha.pos;have pb:=hb.pos;have at_l:∀m,12*((ay a).length+(ay b).length+1)+4<=m->(ps L m).bin l k=yes (two s a b) k':=λm hm=>by
  obtain⟨m,rfl⟩:∃m',m=m'+1:=⟨m-1,by omega⟩;show lI L (ps L m) l k=_;unfold lI;rw[if_neg (by omega),n_ hua (6-l) (l+1) (by omega) (λi hi=>hno i (by omega)) m (by omega),bW];unfold mZ;rw[if_pos (by rw[hop];exact hin),o2];split
  . rw[n_ hub (7-l) l (by omega) (λi _=>hK.op i) m (by omega),bW]
  . rw[n_ hub (6-l) (l+1) (by omega) (λi _=>hK.op i) m (by omega),bW];obtain⟨m,rfl⟩:∃m',m=m'+1:=⟨m-1,by omega⟩;show mZ L (ps L m) l _ k'=_;unfold mZ;rw[bV (hK.op l)]
 have down:∀d lv,lv+d=l->∀m,12*((ay a).length+(ay b).length+1)+4+d<=m->(ps L m).bin lv k=yes (two s a b) k':=by
  intro d
  induction d with
  | zero=>
    intro lv h m hm;have:lv=l:=by omega
    subst this;exact at_l m (by omega)
  | succ d ih=>
    intro lv h m hm;obtain⟨m,rfl⟩:∃m',m=m'+1:=⟨m-1,by omega⟩;show lI L (ps L m) lv k=_;unfold lI;rw[if_neg (by omega),ih (lv+1) (by omega) m (by omega),bW];unfold mZ;rw[bV (hK.op lv)]
 exact rL (ht1.no ht2 (by decide) (by decide)) (ht1.no ht2 (by decide) (by decide)) (ht1.no ht2 (by decide) (by decide)) (ht1.no ht2 (by decide) (by decide)) (down l 0 (by omega) m (by omega)) hK.hn
theorem O0 {a:aq}(ha:rK L a)(hs:cX.contains s=true)(hn:12*((ay a).length+1)+12<=n)(h2:ia (tk L k) (tI s))(h3:Sg L (k+1) (ay a) k')(hK:WS L k'):(ps L n).exp k=yes (.mk 15 0 s [a] [] []) k':=by
 obtain⟨m,rfl⟩:∃m,n=m+1:=⟨n-1,by omega⟩;obtain⟨o1,o2⟩:=CL h2;obtain⟨w1,w2,w3,w4⟩:=LZ s (by simpa using hs);have hu:∀m,12*(ay a).length+2<=m->(ps L m).un k=yes (.mk 15 0 s [a] [] []) k':=λm hm=>by
  obtain⟨m,rfl⟩:∃m',m=m'+1:=⟨m-1,by omega⟩;show A3 L (ps L m) k=_;unfold A3;rw[if_pos (show unOp L k=true by unfold unOp;rw[o1,o2,hs];rfl),ha.un (by omega) h3 hK.bg,bW,o2]
 exact rL (A0 h2 w1) (A0 h2 w2) (A0 h2 w3) (A0 h2 w4) (n_ hu 7 0 rfl (λi _=>hK.op i) m (by omega)) hK.hn
theorem O1 {a b:aq}(ha:rK L a)(hb:rK L b)(hn:12*((ay a).length+(ay b).length)+12<=n){j:Nat}(h1:Sg L k (ay a) j)(h3:Sg L j (ay b) k')(hK:WS L k'):(ps L n).exp k=yes (.mk 6 0 [] [a,b] [] []) k':=by
 obtain⟨m,rfl⟩:∃m,n=m+1:=⟨n-1,by omega⟩;obtain⟨t,ht1,ht2⟩:=ha.hd h1;obtain⟨u,hu1,hu2⟩:=hb.hd h3;have pa:=ha.pos;have hu:∀m,12*((ay a).length+(ay b).length)+1<=m->(ps L m).un k=yes (.mk 6 0 [] [a,b] [] []) k':=λm hm=>by
  obtain⟨m,rfl⟩:∃m',m=m'+1:=⟨m-1,by omega⟩;show A3 L (ps L m) k=_;unfold A3;rw[bV (ht1.un ht2),ha.1 m k j (by omega) h1,bW];unfold nT;rw[if_pos (hu1.bg hu2),hb.1 m j k' (by omega) h3,bW];obtain⟨m,rfl⟩:∃m',m=m'+1:=⟨m-1,by omega⟩;show nT L (ps L m) _ k'=_;unfold nT;rw[bV hK.bg]
 exact rL (ht1.no ht2 (by decide) (by decide)) (ht1.no ht2 (by decide) (by decide)) (ht1.no ht2 (by decide) (by decide)) (ht1.no ht2 (by decide) (by decide)) (n_ hu 7 0 rfl (λi _=>hK.op i) m (by omega)) hK.hn
end
section
variable {L:List Tok}{k k' m n:Nat}{s w:List UInt8}{t:Tok}
def DE (L:List Tok)(k:Nat):Prop:=WS L k/\bP L k [124]=false/\CE L k
abbrev Uu:List UInt8:=[97,110,100]
theorem DE.sg (h:ia (tk L k) (cN [59])):DE L k:=⟨WS.sg h (by decide +kernel),cw h (by decide),TE.sg h (by decide) (by decide) (by decide),cw h (by decide)⟩
def YY (L:List Tok)(d:aG):Prop:=(d.k=1\/d.k=2)->∀n k k',12*(eM d).length+12<=n->Sg L k (eM d) k'->DE L k'->bP L k' Uu=false->(ps L n).bind k=yes (some d) k'
theorem L1 (ds:List aG):∀(acc:List aG) (n k:Nat),(∀d,d∈ds->YY L d/\(d.k=1\/d.k=2))->12*((ds.map eM).flatMap λd=>d++[cN [59]]).length+2<=n->Sg L k (((ds.map eM).flatMap λd=>d++[cN [59]])++[eg [105,110]]) k'->(ps L n).iD acc k=yes (acc++ds) k':=by
 induction ds with
 | nil=>
   intro acc n k _ hn hS;obtain⟨m,rfl⟩:∃m,n=m+1:=⟨n-1,by omega⟩;obtain⟨h1,h2⟩:=hS;cases h2;show m4 L (ps L m) acc k=_;unfold m4;rw[if_pos (iK h1),List.append_nil]
 | cons d ds ih=>
   intro acc n k hd hn hS;obtain⟨m,rfl⟩:∃m,n=m+1:=⟨n-1,by omega⟩;have eq:(((d::ds).map eM).flatMap λd=>d++[cN [59]])++[eg [105,110]]=eM d++cN [59]::(((ds.map eM).flatMap λd=>d++[cN [59]])++[eg [105,110]]):=by simp
   have el:(((d::ds).map eM).flatMap λd=>d++[cN [59]]).length=(eM d).length+1+((ds.map eM).flatMap λd=>d++[cN [59]]).length:=by rw[List.map_cons,List.flatMap_cons,List.length_append,List.length_append];rfl
   rw[el]at hn;rw[eq,Sg.app]at hS;obtain⟨j,h1,h2,h3⟩:=hS;obtain⟨hB,hk⟩:=hd d (by simp);have hnot:bP L k [105,110]=false:=by
    rw[o0]at h1;rcases hk with q | q
    . rw[if_pos q]at h1;exact fE h1.1 (by decide)
    . rw[if_neg (by omega),if_pos q,yI]at h1;cases hf:d.f with
      | nil=>
        rw[hf]at h1;cases h1;exact cw h2 (by decide)
      | cons f r=>rw[hf]at h1;exact fE h1.1 (by decide)
   show m4 L (ps L m) acc k=_;unfold m4;rw[bV hnot,hB hk m k j (by omega) h1 (DE.sg h2) (cw h2 (by decide)),bW];show(ps L m).iD (acc++[d]) (skip L [59] j)=_;unfold skip;rw[if_pos (fD h2),ih (acc++[d]) m (j+1) (λx hx=>hd x (by simp[hx])) (by omega) h3];simp
theorem oc (e:aq)(hr:bh e=true)(hs:kl e=e):(e.k=1->e= .mk 1 e.n [] [] [] [])/\(e.k=2\/e.k=3\/e.k=4->e= .mk e.k 0 e.s [] [] [])/\(e.k=5\/e.k=13\/e.k=6\/e.k=8\/e.k=11->e= .mk e.k 0 [] e.l [] [])/\(e.k=7\/e.k=9\/e.k=12->e= .mk e.k 0 [] e.l e.p [])/\(e.k=14\/e.k=15->e= .mk e.k 0 e.s e.l [] [])/\(e.k=10->e= .mk 10 0 [] e.l [] e.d):=by
 refine⟨λh=> ?_,λh=> ?_,λh=> ?_,λh=> ?_,λh=> ?_,λh=> ?_⟩
 . rw[<- hs];unfold kl;simp[h]<;>first | rfl | exact⟨rfl,rfl⟩ | exact⟨rfl,rfl,rfl⟩
 . rw[<- hs];unfold kl
   rcases h with h | h | h<;>simp[h]<;>first | rfl | exact⟨rfl,rfl⟩ | exact⟨rfl,rfl,rfl⟩
 . rw[<- hs];unfold kl
   rcases h with h | h | h | h | h<;>simp[h]<;>first | rfl | exact⟨rfl,rfl⟩ | exact⟨rfl,rfl,rfl⟩
 . rw[<- hs];unfold kl
   rcases h with h | h | h<;>simp[h]<;>first | rfl | exact⟨rfl,rfl⟩ | exact⟨rfl,rfl,rfl⟩
 . rw[<- hs];unfold kl
   rcases h with h | h<;>simp[h]<;>first | rfl | exact⟨rfl,rfl⟩ | exact⟨rfl,rfl,rfl⟩
 . rw[<- hs];unfold kl;simp[h]<;>first | rfl | exact⟨rfl,rfl⟩ | exact⟨rfl,rfl,rfl⟩
theorem y8 (w:List UInt8)(hw:w=[44]\/w=[59]){a b:aq}{r:List aq}(c:Int)(hl:∀x,x∈a::b::r->rK L x)(hn:12*(cU w ((a::b::r).map ay)).length+12<=n)(hS:Sg L k (cU w ((a::b::r).map ay)) k')(hK:WS L k')(hN:bP L k' w=false):∃j,(ps L n).exp k=yes a j/\ia (tk L j) (cN w)/\kp L (ps L n) w (.mk c 0 [] [a] [] []) j=yes (.mk c 0 [] (a::b::r) [] []) k':=by
 have hst:vJ w=true:=by rcases hw with rfl | rfl<;>decide +kernel
 rw[gN]at hn hS;have eq:bj (bN w ay) true (a::b::r)=ay a++bj (bN w ay) false (b::r):=rfl;rw[eq]at hn hS;rw[Sg.app]at hS;obtain⟨j,h1,h2⟩:=hS;rw[List.length_append]at hn;have h3:ia (tk L j) (cN w):=h2.1;refine⟨j,(hl a (by simp)).exp (by omega) h1 (WS.sg h3 hst),h3,?_⟩;have:=Hs (n:=n+1) w hst (b::r) (λx hx=>hl x (by simp at hx ⊢;exact .inr hx)) (.mk c 0 [] [a] [] []) (by omega) h2 hK hN;rw[Hr]at this;exact this
theorem O2 (e:aq)(hr:bh e=true)(hB:UO L e)(hA:lL e.k=true->UN L e)(hh:lL e.k=false->∀k j,Sg L k (dm e) j->bP L k [41]=false):UN L e:=by
 cases hk:lL e.k with
 | true=>exact hA hk
 | false=>
   intro n k k' hn hS;rw[jm,hk,if_neg (by decide)]at hn hS;rw[Sg.cons,Sg.app]at hS;obtain⟨h1,j,h2,h3,h4⟩:=hS;cases h4;rw[List.length_cons,List.length_append]at hn;obtain⟨m,rfl⟩:∃m,n=m+1:=⟨n-1,by omega⟩;show fK L (ps L m) k=_;unfold fK;rw[if_neg (dK h1 (by decide)),if_neg (dK h1 (by decide)),if_neg (dK h1 (by decide)),if_neg (dK h1 (by decide)),bV (cw h1 (by decide)),dC h1,bV (hh hk _ _ h2),hB m _ _ (by simp at hn;omega) h2 (WS.sg h3 (by decide +kernel)) (cw h3 (by decide)),bW,bV (cw h3 (by decide)),bV (cw h3 (by decide)),dC h3]
theorem QW {a:aq}(ha:bh a=true){r:List Tok}{k j:Nat}(h:Sg L k (ay a++r) j):bP L k [41]=false:=by
 obtain⟨t,ts,e1,h1⟩:=tZ a ha;rw[e1]at h;exact h1.no h.1 (by decide) (by decide)
def HB (L:List Tok)(e:aq):Prop:=bh e=true->(UN L e/\UO L e)/\∀a,a∈e.l->rK L a
def UP (L:List Tok)(d:aG):Prop:=eo d=true->YY L d/\(d.k=5->HB L d.e)
theorem XB (e:aq)(hr:bh e=true)(ihE:∀c,c∈e.l->HB L c)(ihD:∀d,d∈e.d->UP L d)(hk:lL e.k=true):UN L e:=by
 intro n k k' hn hS;obtain⟨hsh,hl,hp,hdd,hd⟩:=kG e hr;obtain⟨sh1,sh2,sh3,sh4,sh5,sh6⟩:=oc e hr hsh;have hE:∀a,a∈e.l->rK L a:=λa ha=>⟨(ihE a ha (hl a ha)).1.1,hl a ha⟩;have hE2:∀q,q∈e.l->∀a,a∈q.l->rK L a:=λq hq=>(ihE q hq (hl q hq)).2;rw[jm,if_pos hk,dU]at hn hS;unfold lL at hk;simp only[Bool.or_eq_true,decide_eq_true_eq]at hk;unfold tO at hn hS;unfold fx at hd
 by_cases h1:e.k=1
 . rw[if_pos h1]at hn hS;obtain⟨s1,s2⟩:=hS;cases s2;obtain⟨m,rfl⟩:∃m,n=m+1:=⟨n-1,by simp at hn;omega⟩;show fK L (ps L m) k=_;unfold fK;rw[if_pos s1.1,s1.2.2,<- sh1 h1]
 rw[if_neg h1]at hd hn hS
 by_cases h2:e.k=2\/e.k=3\/e.k=4
 . rw[if_pos h2]at hn hS;obtain⟨s1,s2⟩:=hS;cases s2;obtain⟨m,rfl⟩:∃m,n=m+1:=⟨n-1,by simp at hn;omega⟩;show fK L (ps L m) k=_;unfold fK;rw[s1.1,s1.2.1];have q:=sh2 h2;rcases h2 with h | h | h
   . rw[h]at q;rw[if_neg (by show ¬e.k=1;omega),if_pos h];exact congrArg (λx=>yes x (k+1)) q.symm
   . rw[h]at q;rw[if_neg (by show ¬e.k=1;omega),if_neg (by show ¬e.k=2;omega),if_pos h];exact congrArg (λx=>yes x (k+1)) q.symm
   . rw[h]at q;rw[if_neg (by show ¬e.k=1;omega),if_neg (by show ¬e.k=2;omega),if_neg (by show ¬e.k=3;omega),if_pos h];exact congrArg (λx=>yes x (k+1)) q.symm
 rw[if_neg h2]at hn hS;rw[if_neg (by omega),if_neg (by omega),if_neg (by omega)]at hd
 by_cases h5:e.k=5
 . rw[if_pos h5,gW,<- gN]at hn hS;rw[if_pos h5]at hd;rw[Sg.cons,Sg.app]at hS;obtain⟨s1,j,s2,s3,s4⟩:=hS;cases s4;rw[List.length_cons,List.length_append]at hn;obtain⟨m,rfl⟩:∃m,n=m+1:=⟨n-1,by omega⟩;show fK L (ps L m) k=_;unfold fK;rw[if_neg (dK s1 (by decide)),if_neg (dK s1 (by decide)),if_neg (dK s1 (by decide)),if_neg (dK s1 (by decide)),bV (cw s1 (by decide)),dC s1];have q:=sh3 (.inl h5);rw[h5]at q
   match hel:e.l with
   | []=>
     rw[hel]at s2 q;cases s2;rw[if_pos (fD s3),<- q]
   | [a]=>rw[hel]at hd;cases hd
   | a::b::r=>
     rw[hel]at s2 hn q hE;obtain⟨j1,g1,g2,g3⟩:=y8 (n:=m) [44] (.inl rfl) 5 hE (by simp at hn ⊢;omega) s2 (WS.sg s3 (by decide +kernel)) (cw s3 (by decide));have h41:bP L (k+1) [41]=false:=by
      rw[gN]at s2;exact QW (r:=bj (bN [44] ay) false (b::r)) (hE a (by simp)).2 s2
     rw[bV h41,g1,bW,if_pos (fD g2),g3,bW,dC s3,<- q]
 rw[if_neg h5]at hn hS hd
 by_cases h13:e.k=13
 . rw[if_pos h13,gW,<- gN]at hn hS;rw[if_pos h13,decide_eq_true_eq]at hd;rw[Sg.cons,Sg.app]at hS;obtain⟨s1,j,s2,s3,s4⟩:=hS;cases s4;rw[List.length_cons,List.length_append]at hn;obtain⟨m,rfl⟩:∃m,n=m+1:=⟨n-1,by omega⟩;show fK L (ps L m) k=_;unfold fK;rw[if_neg (dK s1 (by decide)),if_neg (dK s1 (by decide)),if_neg (dK s1 (by decide)),if_neg (dK s1 (by decide)),bV (cw s1 (by decide)),dC s1];have q:=sh3 (.inr (.inl h13));rw[h13]at q
   match hel:e.l with
   | []=>rw[hel]at hd;simp at hd
   | [a]=>rw[hel]at hd;simp at hd
   | a::b::r=>
     rw[hel]at s2 hn q hE;obtain⟨j1,g1,g2,g3⟩:=y8 (n:=m) [59] (.inr rfl) 13 hE (by simp at hn ⊢;omega) s2 (WS.sg s3 (by decide +kernel)) (cw s3 (by decide));have h41:bP L (k+1) [41]=false:=by
      rw[gN]at s2;exact QW (r:=bj (bN [59] ay) false (b::r)) (hE a (by simp)).2 s2
     rw[bV h41,g1,bW,bV (cw g2 (by decide)),if_pos (fD g2),g3,bW,dC s3,<- q]
 rw[if_neg h13]at hn hS hd;have h10:e.k=10:=by omega
 rw[if_pos h10]at hn hS;rw[if_neg (by omega),if_neg (by omega),if_neg (by omega),if_neg (by omega),if_neg (by omega),if_neg (by omega),if_neg (by omega),if_pos h10,Bool.and_eq_true,decide_eq_true_eq,List.all_eq_true]at hd;have q:=sh6 h10
 match hel:e.l,hd.2 with
 | [x],_=>
   rw[hel]at hn hS q;have hxl:x∈e.l:=by rw[hel];simp
   have hx:rK L x:=hE x hxl;simp only[List.map_cons,List.map_nil]at hn hS;have eb:(if x.k=13 then cU [59] (iE x).2 else d_ (x.k,iE x))=if x.k=13 then cU [59] (x.l.map ay)else ay x:=by
    rw[show(iE x).2=x.l.map ay by rw[rF x]];rfl
   rw[eb]at hn hS;rw[List.append_cons]at hS;rw[List.length_cons,List.length_append,List.length_cons,List.length_append]at hn;obtain⟨s1,hS⟩:=hS;rw[Sg.app]at hS;obtain⟨j,s2,hS⟩:=hS;rw[Sg.app]at hS;obtain⟨j1,s3,s4,s5⟩:=hS;cases s5;obtain⟨m,rfl⟩:∃m,n=m+2:=⟨n-2,by omega⟩;show fK L (ps L (m+1)) k=_;unfold fK;rw[if_neg (dK s1 (by decide)),if_neg (dK s1 (by decide)),if_neg (dK s1 (by decide)),if_neg (dK s1 (by decide)),if_pos (iK s1)];show Hy L (ps L m) (k+1)=_;have hlet:m4 L (ps L m) [] (k+1)=yes ([]++e.d) j:=L1 (L:=L) e.d [] (m+1) _ (λd hdm=>⟨(ihD d hdm (hdd d hdm)).1,by simpa using hd.1 d hdm⟩) (by omega) s2;unfold Hy;rw[hlet,bW,List.nil_append]
   by_cases hx13:x.k=13
   . rw[if_pos hx13]at hn s3;obtain⟨xsh,xl,_,_,xd⟩:=kG x hx.2;have xq:=(oc x hx.2 xsh).2.2.1 (.inr (.inl hx13));rw[hx13]at xq;unfold fx at xd;rw[hx13]at xd;have hxx:=hE2 x hxl
     match hxe:x.l with
     | []=>rw[hxe]at xd;cases xd
     | [a]=>rw[hxe]at xd;cases xd
     | a::b::r=>
       rw[hxe]at s3 hn xq hxx;obtain⟨j2,g1,g2,g3⟩:=y8 (n:=m) [59] (.inr rfl) 13 hxx (by simp at hn ⊢;omega) s3 (WS.ky s4 (by decide +kernel)) (fE s4 (by decide));rw[g1,bW,if_pos (fD g2),g3,bW,o8 s4,<- xq,<- q]
   . rw[if_neg hx13]at hn s3;rw[hx.exp (by simp at hn;omega) s3 (WS.ky s4 (by decide +kernel)),bW,bV (fE s4 (by decide)),o8 s4,<- q]
end
section
variable {L:List Tok}{k k' m n:Nat}{s w:List UInt8}{t:Tok}
def UQ (t:Tok):Prop:=CK t\/(∃s,cX.contains s=true/\t=tI s)\/t=eg [105,102]\/t=eg [99,97,115,101]\/t=eg [102,110]\/t=eg [114,97,105,115,101]
def XC:List (List UInt8):=[[41],[118,97,108],[102,117,110],[100,97,116,97,116,121,112,101],[101,120,99,101,112,116,105,111,110]]
theorem UQ.no (h:UQ t)(he:ia (tk L k) t)(hw:w∈XC):bP L k w=false:=by
 have key:∀w∈XC,[40]≠w/\CJ≠w/\[105,102]≠w/\[99,97,115,101]≠w/\[102,110]≠w/\[114,97,105,115,101]≠w/\∀s∈cX,s≠w:=by decide +kernel
 obtain⟨k1,k2,k3,k4,k5,k6,k7⟩:=key w hw
 rcases h with h | ⟨s,hs,h⟩ | h | h | h | h
 . exact h.no he k1 k2
 . subst h;exact A0 he (k7 s (by simpa using hs))
 . subst h;exact fE he k3
 . subst h;exact fE he k4
 . subst h;exact fE he k5
 . subst h;exact fE he k6
theorem UQ.nz (h:UQ t):t.k≠0:=by
 rcases h with h | ⟨s,hs,h⟩ | h | h | h | h
 . rcases h with h | h | h | h | h | h
   . omega
   . omega
   . omega
   . omega
   . subst h;decide
   . subst h;decide
 . subst h;rcases LY s with q | q
   . rw[q];show(6:Int)≠0;decide
   . rw[q];show(7:Int)≠0;decide
 . subst h;decide
 . subst h;decide
 . subst h;decide
 . subst h;decide
theorem L2 (e:aq)(hr:bh e=true)(hE:∀a,a∈e.l->rK L a)(hk:lL e.k=false):UO L e/\∀k j,Sg L k (dm e) j->∃t,UQ t/\ia (tk L k) t:=by
 obtain⟨hsh,hl,hp,hdd,hd⟩:=kG e hr;obtain⟨sh1,sh2,sh3,sh4,sh5,sh6⟩:=oc e hr hsh;have hP:∀q,q∈e.p->FU L q/\bx q=true:=λq hq=>⟨(tY q (hp q hq)).1.1,hp q hq⟩;unfold lL at hk;simp only[Bool.or_eq_false_iff,decide_eq_false_iff_not]at hk;obtain⟨k1,k2,k3,k4,k5,k13,k10⟩:=hk;have hT:=dU e;unfold tO at hT;unfold fx at hd;rw[if_neg k1,if_neg (by omega),if_neg k5,if_neg k13,if_neg k10]at hT;rw[if_neg k1,if_neg k2,if_neg k3,if_neg k4,if_neg k5,if_neg k13]at hd
 by_cases h14:e.k=14
 . rw[if_pos h14]at hT;rw[if_neg (by omega),if_neg (by omega),if_neg (by omega),if_neg (by omega),if_neg (by omega),if_pos h14,Bool.and_eq_true,decide_eq_true_eq]at hd;have q:=sh5 (.inl h14)
   match hel:e.l,hd.1 with
   | [a,b],_=>
     rw[hel]at hT q hE;have eq:dm e=ay a++tI e.s::ay b:=hT;refine⟨λn k k' hn hS hK hN=> ?_,λk j hS=> ?_⟩
     . rw[eq]at hn hS;rw[Sg.app]at hS;obtain⟨j,s1,s2,s3⟩:=hS;rw[List.length_append,List.length_cons]at hn;rw[OZ (hE a (by simp)) (hE b (by simp)) hd.2 (by omega) s1 s2 s3 hK];rw[h14]at q;exact congrArg (λx=>yes x k') q.symm
     . rw[eq]at hS;rw[Sg.app]at hS;obtain⟨j,s1,s2,s3⟩:=hS;obtain⟨t,t1,t2⟩:=(hE a (by simp)).hd s1;exact⟨t,.inl t1,t2⟩
 rw[if_neg h14]at hT
 by_cases h15:e.k=15
 . rw[if_pos h15]at hT;rw[if_neg (by omega),if_neg (by omega),if_neg (by omega),if_neg (by omega),if_neg (by omega),if_neg h14,if_pos h15,Bool.and_eq_true,decide_eq_true_eq]at hd;have q:=sh5 (.inr h15)
   match hel:e.l,hd.1 with
   | [a],_=>
     rw[hel]at hT q hE;have eq:dm e=tI e.s::ay a:=hT;refine⟨λn k k' hn hS hK hN=> ?_,λk j hS=> ?_⟩
     . rw[eq]at hn hS;obtain⟨s1,s2⟩:=hS;rw[List.length_cons]at hn;rw[O0 (hE a (by simp)) hd.2 (by omega) s1 s2 hK];rw[h15]at q;exact congrArg (λx=>yes x k') q.symm
     . rw[eq]at hS;exact⟨_,.inr (.inl ⟨e.s,hd.2,rfl⟩),hS.1⟩
 rw[if_neg h15]at hT
 by_cases h6:e.k=6
 . rw[if_pos h6]at hT;rw[if_pos h6,decide_eq_true_eq]at hd;have q:=sh3 (.inr (.inr (.inl h6)))
   match hel:e.l,hd with
   | [a,b],_=>
     rw[hel]at hT q hE;have eq:dm e=ay a++(ay b++[]):=hT;rw[List.append_nil]at eq;refine⟨λn k k' hn hS hK hN=> ?_,λk j hS=> ?_⟩
     . rw[eq]at hn hS;rw[Sg.app]at hS;obtain⟨j,s1,s2⟩:=hS;rw[List.length_append]at hn;rw[O1 (hE a (by simp)) (hE b (by simp)) (by omega) s1 s2 hK];rw[h6]at q;exact congrArg (λx=>yes x k') q.symm
     . rw[eq]at hS;rw[Sg.app]at hS;obtain⟨j,s1,s2⟩:=hS;obtain⟨t,t1,t2⟩:=(hE a (by simp)).hd s1;exact⟨t,.inl t1,t2⟩
 rw[if_neg h6]at hT hd
 by_cases h8:e.k=8
 . rw[if_pos h8]at hT;rw[if_neg (by omega),if_pos h8,decide_eq_true_eq]at hd;have q:=sh3 (.inr (.inr (.inr (.inl h8))))
   match hel:e.l,hd with
   | [a,b,c],_=>
     rw[hel]at hT q hE;have eq:dm e=eg [105,102]::(ay a++eg [116,104,101,110]::(ay b++eg [101,108,115,101]::ay c)):=hT;refine⟨λn k k' hn hS hK hN=> ?_,λk j hS=> ?_⟩
     . rw[eq]at hn hS;obtain⟨s0,hS⟩:=hS;rw[Sg.app]at hS;obtain⟨j,s1,s2,hS⟩:=hS;rw[Sg.app]at hS;obtain⟨j2,s3,s4,s5⟩:=hS;simp only[List.length_append,List.length_cons]at hn;obtain⟨m,rfl⟩:∃m,n=m+1:=⟨n-1,by omega⟩;show jv L (ps L m) k=_;unfold jv;rw[if_pos (iK s0),(hE a (by simp)).exp (by omega) s1 (WS.ky s2 (by decide +kernel)),bW,o8 s2,(hE b (by simp)).exp (by omega) s3 (WS.ky s4 (by decide +kernel)),bW,o8 s4,(hE c (by simp)).exp (by omega) s5 hK,bW];rw[h8]at q;exact congrArg (λx=>yes x k') q.symm
     . rw[eq]at hS;exact⟨_,.inr (.inr (.inl rfl)),hS.1⟩
 rw[if_neg h8]at hT
 by_cases h11:e.k=11
 . rw[if_pos h11,gW,<- gN]at hT;rw[if_neg (by omega),if_neg h8,if_neg (by omega),if_pos h11,decide_eq_true_eq]at hd;have q:=sh3 (.inr (.inr (.inr (.inr h11))))
   match hel:e.l,hd with
   | [a],_=>
     rw[hel]at hT q hE;have eq:dm e=eg [114,97,105,115,101]::(ay a++[]):=hT;rw[List.append_nil]at eq;refine⟨λn k k' hn hS hK hN=> ?_,λk j hS=> ?_⟩
     . rw[eq]at hn hS;obtain⟨s0,s1⟩:=hS;rw[List.length_cons]at hn;obtain⟨m,rfl⟩:∃m,n=m+1:=⟨n-1,by omega⟩;show jv L (ps L m) k=_;unfold jv;rw[bV (fE s0 (by decide)),bV (fE s0 (by decide)),bV (fE s0 (by decide)),if_pos (iK s0),(hE a (by simp)).exp (by omega) s1 hK,bW];rw[h11]at q;exact congrArg (λx=>yes x k') q.symm
     . rw[eq]at hS;exact⟨_,.inr (.inr (.inr (.inr (.inr rfl)))),hS.1⟩
 rw[if_neg h11]at hT
 by_cases h7:e.k=7
 . rw[if_pos h7,List.map_map]at hT;rw[if_pos h7,Bool.and_eq_true,decide_eq_true_eq,decide_eq_true_eq]at hd;have q:=sh4 (.inl h7);have eq:dm e=eg [102,110]::ec true (e.p.map aS) (e.l.map ay):=hT;refine⟨λn k k' hn hS hK hN=> ?_,λk j hS=> ?_⟩
   . rw[eq]at hn hS;obtain⟨s0,s1⟩:=hS;rw[List.length_cons]at hn;obtain⟨m,rfl⟩:∃m,n=m+1:=⟨n-1,by omega⟩;show jv L (ps L m) k=_;unfold jv;rw[bV (fE s0 (by decide)),bV (fE s0 (by decide)),if_pos (iK s0),t_ hK hN 7 0 [] [] e.p e.l [] [] m (k+1) hd.2 hd.1 hP hE (by omega) s1,List.nil_append,List.nil_append];rw[h7]at q;exact congrArg (λx=>yes x k') q.symm
   . rw[eq]at hS;exact⟨_,.inr (.inr (.inr (.inr (.inl rfl)))),hS.1⟩
 rw[if_neg h7]at hT hd;rw[if_neg h8]at hd
 by_cases h9:e.k=9
 . rw[if_pos h9]at hT;rw[if_pos (.inl h9),Bool.and_eq_true,decide_eq_true_eq,decide_eq_true_eq]at hd;have q:=sh4 (.inr (.inl h9))
   match hel:e.l,hd with
   | a::r,hd=>
     rw[hel]at hT q hE;simp only[List.map_cons,List.map_map]at hT;have eq:dm e=eg [99,97,115,101]::(ay a++eg [111,102]::ec true (e.p.map aS) (r.map ay)):=hT;rw[List.length_cons]at hd;refine⟨λn k k' hn hS hK hN=> ?_,λk j hS=> ?_⟩
     . rw[eq]at hn hS;obtain⟨s0,hS⟩:=hS;rw[Sg.app]at hS;obtain⟨j,s1,s2,s3⟩:=hS;rw[List.length_cons,List.length_append,List.length_cons]at hn;obtain⟨m,rfl⟩:∃m,n=m+1:=⟨n-1,by omega⟩;show jv L (ps L m) k=_;unfold jv;rw[bV (fE s0 (by decide)),if_pos (iK s0),(hE a (by simp)).exp (by omega) s1 (WS.ky s2 (by decide +kernel)),bW,o8 s2,t_ hK hN 9 0 [] [] e.p r [a] [] m (j+1) (by omega) (by omega) hP (λx hx=>hE x (by simp[hx])) (by omega) s3,List.nil_append];rw[h9]at q;exact congrArg (λx=>yes x k') q.symm
     . rw[eq]at hS;exact⟨_,.inr (.inr (.inr (.inl rfl))),hS.1⟩
 rw[if_neg h9]at hT
 by_cases h12:e.k=12
 . rw[if_pos h12]at hT;rw[if_pos (.inr h12),Bool.and_eq_true,decide_eq_true_eq,decide_eq_true_eq]at hd;have q:=sh4 (.inr (.inr h12))
   match hel:e.l,hd with
   | a::r,hd=>
     rw[hel]at hT q hE;simp only[List.map_cons,List.map_map]at hT;have eq:dm e=ay a++eg OW::ec true (e.p.map aS) (r.map ay):=hT;rw[List.length_cons]at hd;have ha:=hE a (by simp);refine⟨λn k k' hn hS hK hN=> ?_,λk j hS=> ?_⟩
     . rw[eq]at hn hS;rw[Sg.app]at hS;obtain⟨j,s1,s2,s3⟩:=hS;rw[List.length_append,List.length_cons]at hn;obtain⟨m,rfl⟩:∃m,n=m+1:=⟨n-1,by omega⟩;obtain⟨t,h1,h2⟩:=ha.hd s1;have hbg:js L j=false:=FW s2 (.inr (.inl rfl)) (by decide) (by decide);show jv L (ps L m) k=_;unfold jv;rw[bV (h1.no h2 (by decide) (by decide)),bV (h1.no h2 (by decide) (by decide)),bV (h1.no h2 (by decide) (by decide)),bV (h1.no h2 (by decide) (by decide)),n_ (N:=12*(ay a).length+1) (λm hm=>ha.un hm s1 hbg) 7 0 rfl (λi _=>FV s2 (by decide +kernel) i) m (by omega),bW,if_pos (iK s2),t_ hK hN 12 0 [] [] e.p r [a] [] m (j+1) (by omega) (by omega) hP (λx hx=>hE x (by simp[hx])) (by omega) s3,List.nil_append];rw[h12]at q;exact congrArg (λx=>yes x k') q.symm
     . rw[eq]at hS;rw[Sg.app]at hS;obtain⟨j,s1,s2,s3⟩:=hS;obtain⟨t,t1,t2⟩:=ha.hd s1;exact⟨t,.inl t1,t2⟩
 rw[if_neg (by omega),if_neg h11,if_neg h14,if_neg h15,if_neg k10]at hd;cases hd
theorem FX (e:aq)(ihE:∀c,c∈e.l->HB L c)(ihD:∀d,d∈e.d->UP L d):HB L e:=λhr=>by
 obtain⟨hsh,hl,hp,hdd,hd⟩:=kG e hr;have hE:∀a,a∈e.l->rK L a:=λa ha=>⟨(ihE a ha (hl a ha)).1.1,hl a ha⟩;have hA:lL e.k=true->UN L e:=XB e hr ihE ihD;cases hk:lL e.k with
 | true=>
   have ha:=hA hk;have eP:ay e=dm e:=by rw[jm,if_pos hk]
   exact⟨⟨ha,λn k k' hn hS hK hN=>rK.exp ⟨ha,hr⟩ (by rw[eP];omega) (by rw[eP];exact hS) hK⟩,hE⟩
 | false=>
   obtain⟨hB,hh⟩:=L2 e hr hE hk;refine⟨⟨O2 e hr hB hA λ_ k j hS=> ?_,hB⟩,hE⟩;obtain⟨t,h1,h2⟩:=hh k j hS;exact h1.no h2 (by decide)
theorem XD (e:aq)(hr:bh e=true)(h:HB L e){k j:Nat}(hS:Sg L k (dm e) j):∃t,UQ t/\ia (tk L k) t:=by
 cases hk:lL e.k with
 | true=>
   have eP:ay e=dm e:=by rw[jm,if_pos hk]
   obtain⟨t,h1,h2⟩:=rK.hd (e:=e) (L:=L) ⟨(h hr).1.1,hr⟩ (by rw[eP];exact hS);exact⟨t,.inl h1,h2⟩
 | false=>exact(L2 e hr (h hr).2 hk).2 k j hS
theorem L3 (l:List aB)(hl:∀a,a∈l->FU L a/\bx a=true):∀(acc:List aB) (n k:Nat),12*(l.flatMap aS).length+1<=n->Sg L k (l.flatMap aS) k'->jZ L k'=false->(ps L n).tH acc k=yes (acc++l) k':=by
 induction l with
 | nil=>
   intro acc n k hn hS hN;obtain⟨m,rfl⟩:∃m,n=m+1:=⟨n-1,by omega⟩;cases hS;show m5 L (ps L m) acc _=_;unfold m5;rw[bV hN,List.append_nil]
 | cons a l ih=>
   intro acc n k hn hS hN;obtain⟨m,rfl⟩:∃m,n=m+1:=⟨n-1,by omega⟩;rw[List.flatMap_cons,Sg.app]at hS;obtain⟨j,s1,s2⟩:=hS;rw[List.flatMap_cons,List.length_append]at hn;obtain⟨t,ts,e,h1,_⟩:=jr a (hl a (by simp)).2;have h2:ia (tk L k) t:=by rw[e]at s1;exact s1.1
   have h3:1<=(aS a).length:=by rw[e];simp
   show m5 L (ps L m) acc k=_;unfold m5;rw[if_pos (h1.XO h2),(hl a (by simp)).1 m k j (by omega) s1,bW,ih (λx hx=>hl x (by simp[hx])) (acc++[a]) m j (by omega) s2 hN];simp
theorem FY (f:Fn)(hr:E4 f=true)(hb:UO L f.b)(hn:12*(QG f).length+12<=n)(hS:Sg L k (QG f) k')(hK:WS L k')(hN:bP L k' [124]=false):(ps L n).fn k=yes f k':=by
 rw[tG,Bool.and_eq_true,Bool.and_eq_true,Bool.and_eq_true,decide_eq_true_eq,cJ]at hr;obtain⟨_,hl0,hR,_⟩:=hr;rw[Cn]at hn hS;obtain⟨s,l,b⟩:=f
 match l,hl0 with
 | q::l,_=>
 have hP:∀x,x∈q::l->FU L x/\bx x=true:=λx hx=>⟨(tY x (bG hR hx)).1.1,bG hR hx⟩;obtain⟨s1,hS⟩:=hS;rw[Sg.app]at hS;obtain⟨j,s2,s3,s4⟩:=hS;have eq:(Fn.mk s (q::l) b).p.flatMap aS=aS q++l.flatMap aS:=rfl;rw[eq,Sg.app]at s2;obtain⟨j1,s5,s6⟩:=s2;rw[eq,List.length_cons,List.length_append,List.length_append,List.length_cons]at hn;obtain⟨m,rfl⟩:∃m,n=m+1:=⟨n-1,by omega⟩;show HA L (ps L m) k=_;unfold HA;have hp:m5 L (ps L m) [q] j1=yes ([q]++l) j:=L3 l (λx hx=>hP x (by simp[hx])) [q] (m+1) _ (by omega) s6 (y7 s3 (by decide) (by decide) (by decide));rw[n5 s1.1,(hP q (by simp)).1 m _ _ (by omega) s5,bW,hp,bW,dC s3,hb m _ _ (by show 12*(dm b).length+12<=m;have:(dm (Fn.mk s (q::l) b).b)=dm b:=rfl;rw[this]at hn;omega) s4 hK hN,bW,s1.2.1];rfl
theorem Ht (l:List Fn)(hl:∀f,f∈l->E4 f=true/\UO L f.b)(hK:WS L k')(hN:bP L k' [124]=false)(hA:bP L k' Uu=false):∀(acc:List Fn) (n k:Nat),12*(m6 false l).length+1<=n->Sg L k (m6 false l) k'->(ps L n).ji acc k=yes (acc++l) k':=by
 induction l with
 | nil=>
   intro acc n k hn hS;obtain⟨m,rfl⟩:∃m,n=m+1:=⟨n-1,by omega⟩;rw[m6]at hS;cases hS;show nU L (ps L m) acc _=_;unfold nU;rw[bV hA,List.append_nil]
 | cons f l ih=>
   intro acc n k hn hS;obtain⟨m,rfl⟩:∃m,n=m+1:=⟨n-1,by omega⟩;rw[m6,if_neg (by decide)]at hn hS;obtain⟨s1,hS⟩:=hS;rw[Sg.app]at hS;obtain⟨j,s2,s3⟩:=hS;rw[List.length_cons,List.length_append]at hn;have hj:WS L j/\bP L j [124]=false:=by
    cases l with
    | nil=>rw[m6]at s3;cases s3;exact⟨hK,hN⟩
    | cons g l=>
      rw[m6,if_neg (by decide)]at s3;exact⟨WS.ky s3.1 (by decide +kernel),fE s3.1 (by decide)⟩
   show nU L (ps L m) acc k=_;unfold nU;rw[if_pos (iK s1),FY f (hl f (by simp)).1 (hl f (by simp)).2 (by omega) s2 hj.1 hj.2,bW,ih (λx hx=>hl x (by simp[hx])) (acc++[f]) m j (by omega) s3];simp
theorem O3 (d:aG)(hr:eo d=true)(ihE:HB L d.e)(ihF:∀f,f∈d.f->HB L f.b):YY L d:=λhk n k k' hn hS hK hA=>by
 have e0:=iN d;rw[hr]at e0;rw[o0]at hn hS;obtain⟨m,rfl⟩:∃m,n=m+1:=⟨n-1,by omega⟩;show jN L (ps L m) k=_;unfold jN;rcases hk with h1 | h2
 . rw[if_pos h1]at e0 hn hS;have e1:=e0.symm;rw[Bool.and_eq_true,Bool.and_eq_true]at e1;obtain⟨s0,hS⟩:=hS;rw[Sg.app]at hS;obtain⟨j,s1,s2,s3⟩:=hS;rw[List.length_cons,List.length_append,List.length_cons]at hn;rw[if_pos (iK s0),(tY d.p e1.2.1).1.2 m _ _ (by omega) s1 (PE.sg s2 (by decide) (by decide) (by decide) (by decide)),bW,dC s2,(ihE e1.2.2).1.2 m _ _ (by omega) s3 hK.1 hK.2.1,bW];have q:dL d=d:=by simpa[cP]using e1.1
   have q2:d= .mk 1 d.p d.e [] dF fO:=by
    conv=>lhs;rw[<- q]
    unfold dL;simp[h1]
   exact congrArg (λx=>yes (some x) k') q2.symm
 . rw[if_neg (by omega)]at e0 hn hS;rw[if_pos h2]at hn hS;rw[if_neg (by omega),if_pos h2]at e0;have e1:=e0.symm;rw[Bool.and_eq_true,Bool.and_eq_true,decide_eq_true_eq,mR]at e1;obtain⟨hfr,hf0,hq⟩:=e1;have q:dL d=d:=by simpa[cP]using hq
   have q2:d= .mk 2 f_ gk d.f dF fO:=by
    conv=>lhs;rw[<- q]
    unfold dL;simp[h2]
   match hdf:d.f,hf0 with
   | f::l,_=>
     rw[hdf]at hn hS q2 hfr;rw[m6,if_pos rfl]at hn hS;obtain⟨s0,hS⟩:=hS;rw[Sg.app]at hS;obtain⟨j,s1,s2⟩:=hS;rw[List.length_cons,List.length_append]at hn;have hF:∀x,x∈f::l->E4 x=true/\UO L x.b:=λx hx=>by
      have hx1:=bG hfr hx;have hx2:=hx1;rw[tG,Bool.and_eq_true,Bool.and_eq_true,Bool.and_eq_true]at hx2;exact⟨hx1,(ihF x (by rw[hdf];exact hx) hx2.2.2.2).1.2⟩
     have hj:WS L j/\bP L j [124]=false:=by
      cases l with
      | nil=>rw[m6]at s2;cases s2;exact⟨hK.1,hK.2.1⟩
      | cons g l=>
        rw[m6,if_neg (by decide)]at s2;exact⟨WS.ky s2.1 (by decide +kernel),fE s2.1 (by decide)⟩
     have hp:nU L (ps L m) [f] j=yes ([f]++l) k':=Ht l (λx hx=>hF x (by simp[hx])) hK.1 hK.2.1 hA [f] (m+1) _ (by omega) s2;rw[bV (fE s0 (by decide)),if_pos (iK s0),FY f (hF f (by simp)).1 (hF f (by simp)).2 (by omega) s1 hj.1 hj.2,bW,hp,bW];exact congrArg (λx=>yes (some x) k') q2.symm
theorem FZ (d:aG)(ihE:HB L d.e)(ihF:∀f,f∈d.f->HB L f.b):UP L d:=λhr=>⟨O3 d hr ihE ihF,λ_=>ihE⟩
theorem exq (L:List Tok)(e:aq):HB L e:=aq.ind (p:=HB L) (q:=UP L) FX FZ e
theorem deq (L:List Tok)(d:aG):UP L d:=aG.ind (p:=HB L) (q:=UP L) FX FZ d
theorem L5 (d:aG)(hr:eo d=true)(hn:12*(eM d).length+14<=n)(hS:Sg L k (eM d) k')(hK:DE L k')(hA:bP L k' Uu=false):(tk L k).k≠0/\((d.k≠5/\(ps L n).dec k=yes (some d) k')\/(d=q7 d.e/\(ps L n).dec k=yes none k/\(ps L n).exp k=yes d.e k')):=by
 obtain⟨m,rfl⟩:∃m,n=m+1:=⟨n-1,by omega⟩;have hB:=(deq L d hr).1;have e0:=iN d;rw[hr]at e0;have eT:=o0 d
 by_cases h1:d.k=1
 . rw[if_pos h1]at eT;have s0:ia (tk L k) (eg [118,97,108]):=by rw[eT]at hS;exact hS.1
   refine⟨by rw[s0.1];decide,.inl ⟨by omega,?_⟩⟩;show kr L (ps L m) k=_;unfold kr;rw[bV (fE s0 (by decide)),bV (fE s0 (by decide))];exact hB (.inl h1) m k k' (by omega) hS hK hA
 rw[if_neg h1]at eT e0
 by_cases h2:d.k=2
 . rw[if_pos h2]at eT;rw[if_neg (by omega),if_pos h2]at e0;have e1:=e0.symm;rw[Bool.and_eq_true,Bool.and_eq_true,decide_eq_true_eq]at e1;have s0:ia (tk L k) (eg [102,117,110]):=by
    rw[eT]at hS
    match hdf:d.f,e1.2.1 with
    | f::l,_=>rw[hdf,m6,if_pos rfl]at hS;exact hS.1
   refine⟨by rw[s0.1];decide,.inl ⟨by omega,?_⟩⟩;show kr L (ps L m) k=_;unfold kr;rw[bV (fE s0 (by decide)),bV (fE s0 (by decide))];exact hB (.inr h2) m k k' (by omega) hS hK hA
 rw[if_neg h2]at eT;have shape:cP (dL d) d=true->dL d=d:=λh=>by simpa[cP]using h
 by_cases h5:d.k=5
 . rw[if_pos h5]at e0;rw[if_neg (by omega),if_neg (by omega),if_pos h5]at eT;have e1:=e0.symm;rw[Bool.and_eq_true]at e1;have q:=shape e1.1;have q2:d=q7 d.e:=by
    conv=>lhs;rw[<- q]
    unfold dL;simp[h5]
   rw[eT]at hS hn;have hQ:=exq L d.e;obtain⟨t,t1,t2⟩:=XD d.e e1.2 hQ hS;refine⟨by rw[t2.1];exact t1.nz,.inr ⟨q2,?_,(hQ e1.2).1.2 _ _ _ (by omega) hS hK.1 hK.2.1⟩⟩;show kr L (ps L m) k=_;obtain⟨m,rfl⟩:∃m',m=m'+1:=⟨m-1,by omega⟩;unfold kr;rw[bV (t1.no t2 (by decide)),bV (t1.no t2 (by decide))];show jN L (ps L m) k=_;unfold jN;rw[bV (t1.no t2 (by decide)),bV (t1.no t2 (by decide))]
 rw[if_neg h5,if_neg h2]at e0
 by_cases h3:d.k=3
 . rw[if_pos h3]at eT e0;have e1:=e0.symm;rw[Bool.and_eq_true,Bool.and_eq_true,Bool.and_eq_true,Bool.and_eq_true]at e1;have hx:iv d.x=true:=by
    unfold iv;rw[e1.1,e1.2.1,e1.2.2.1,e1.2.2.2.1];rfl
   have q:=shape e1.2.2.2.2;have q2:d= .mk 3 f_ gk [] d.x fO:=by
    conv=>lhs;rw[<- q]
    unfold dL;simp[h3]
   rw[eT]at hS hn;have hS2:ia (tk L k) (eg [100,97,116,97,116,121,112,101])/\Sg L (k+1) (kA d.x).tail k':=by
    unfold kA at hS ⊢;exact hS
   refine⟨by rw[hS2.1.1];decide,.inl ⟨h5,?_⟩⟩;show kr L (ps L m) k=_;unfold kr;rw[if_pos (iK hS2.1),Hn d.x hx (by omega) hS2.2 hK.2.2 hK.2.1,bW];exact congrArg (λx=>yes (some x) k') q2.symm
 rw[if_neg h3]at eT e0
 by_cases h4:d.k=4
 . rw[if_pos h4]at eT e0;have e1:=e0.symm;rw[Bool.and_eq_true]at e1;have q:=shape e1.2;have q2:d= .mk 4 f_ gk [] dF d.c:=by
    conv=>lhs;rw[<- q]
    unfold dL;simp[h4]
   rw[eT]at hS hn;obtain⟨s0,s1⟩:=hS;rw[List.length_cons]at hn;refine⟨by rw[s0.1];decide,.inl ⟨h5,?_⟩⟩;show kr L (ps L m) k=_;unfold kr;rw[bV (fE s0 (by decide)),if_pos (iK s0),tX d.c e1.1 (by omega) s1 hK.2.2.1 hK.2.2.2,bW];exact congrArg (λx=>yes (some x) k') q2.symm
 . rw[if_neg h4]at e0;cases e0
theorem CM (l:List aG):∀(acc:List aG) (n k:Nat),(∀d,d∈l->eo d=true)->12*(eD l).length+20<=n->Sg L k (eD l) k'->(tk L k').k=0->(ps L n).cq acc k=yes (acc++l) k':=by
 induction l with
 | nil=>
   intro acc n k _ hn hS hz;obtain⟨m,rfl⟩:∃m,n=m+1:=⟨n-1,by omega⟩;cases hS;show jO L (ps L m) acc _=_;unfold jO;rw[if_pos hz,List.append_nil]
 | cons d l ih=>
   intro acc n k hr hn hS hz;obtain⟨m,rfl⟩:∃m,n=m+1:=⟨n-1,by omega⟩;have eq:eD (d::l)=eM d++cN [59]::eD l:=by unfold eD;simp
   rw[eq]at hn hS;rw[Sg.app]at hS;obtain⟨j,s1,s2,s3⟩:=hS;rw[List.length_append,List.length_cons]at hn;obtain⟨h0,h⟩:=L5 d (hr d (by simp)) (n:=m) (by omega) s1 (DE.sg s2) (cw s2 (by decide));show jO L (ps L m) acc k=_;unfold jO;have hsk:skip L [59] j=j+1:=by unfold skip;rw[if_pos (fD s2)]
   rw[if_neg h0]
   rcases h with⟨h5,h⟩ | ⟨q,h,h2⟩
   . rw[h,bW];show(ps L m).cq (acc++[d]) (skip L [59] j)=_;rw[hsk,ih (acc++[d]) m (j+1) (λx hx=>hr x (by simp[hx])) (by omega) s3 hz];simp
   . rw[h,bW];show(bd ((ps L m).exp k) λe k=>(ps L m).cq (acc++[q7 e]) (skip L [59] k))=_;rw[h2,bW,<- q,hsk,ih (acc++[d]) m (j+1) (λx hx=>hr x (by simp[hx])) (by omega) s3 hz];simp
end
section
variable {t:Tok}{ts rs:List Tok}{r s x:List UInt8}
def sp (r:List UInt8):Prop:=∀c u,r=c::u->c=32\/c=41
theorem CN {p:UInt8->Bool}{l r:List UInt8}(h:l.all p=true)(hr:∀c u,r=c::u->p c=false):(l++r).takeWhile p=l:=by
 rw[List.takeWhile_append_of_pos (List.all_eq_true.1 h)];cases r with
 | nil=>simp
 | cons c u=>rw[List.takeWhile_cons,hr c u rfl];simp
theorem L7 (p:UInt8->Bool)(h1:p 32=false)(h2:p 41=false)(h:sp r):∀c u,r=c::u->p c=false:=λc u e=>by
 rcases h c u e with q | q
 . rw[q];exact h1
 . rw[q];exact h2
theorem vK:∀n:Nat,n<10->ck ((48+n).toUInt8)=true/\dv ((48+n).toUInt8)=n:=by decide
theorem O4 (u:Nat):∀s,u<=4611686018427387903->mB 0 (A4 u s)=mB u s:=by
 induction u using Nat.strongRecOn with
 | _ u ih=>
   intro s hu;rw[A4]
   by_cases h:u<10
   . rw[if_pos h,mB,(vK u h).1,(vK u h).2,if_pos ⟨rfl,Nat.zero_le _⟩,Nat.zero_mul,Nat.zero_add]
   . rw[if_neg h,ih (u/10) (by omega) _ (by omega),mB,(vK (u%10) (Nat.mod_lt _ (by omega))).1,(vK (u%10) (Nat.mod_lt _ (by omega))).2,if_pos ⟨rfl,by omega⟩];congr 1;omega
theorem O5 (u:Nat):∀s,s.all ck=true->(A4 u s).all ck=true:=by
 induction u using Nat.strongRecOn with
 | _ u ih=>
   intro s hs;rw[A4]
   by_cases h:u<10
   . rw[if_pos h,List.all_cons,(vK u h).1,hs];rfl
   . rw[if_neg h];exact ih (u/10) (by omega) _ (by rw[List.all_cons,(vK (u%10) (Nat.mod_lt _ (by omega))).1,hs];rfl)
theorem QX:∀n:Nat,n<16->fC (hx n)=n:=by decide +kernel
theorem XE (c:UInt8):UInt8.ofNat (16*((c.toNat/16:Nat):Int)+((c.toNat%16:Nat):Int)).toNat=c:=by
 have h:(16*((c.toNat/16:Nat):Int)+((c.toNat%16:Nat):Int)).toNat=c.toNat:=by omega
 rw[h];exact UInt8.ofNat_toNat
theorem F0 (c:UInt8)(r:List UInt8):gY (qc c++r)=(c,(qc c).length)/\0<(qc c).length/\∃a u,qc c=a::u/\a.toNat≠34:=by
 have hc:=c.toNat_lt;unfold qc
 by_cases h1:c.toNat=34\/c.toNat=92
 . rw[if_pos h1];refine⟨?_,Nat.succ_pos _,_,_,rfl,by decide⟩;show gY (92::c::r)=_;rw[mT,if_neg (by decide),if_pos (by decide),gr];rcases h1 with h | h
   . rw[if_pos h];have:c=34:=UInt8.toNat_inj.1 h;subst this;rfl
   . rw[if_neg (by omega),if_pos h];have:c=92:=UInt8.toNat_inj.1 h;subst this;rfl
 rw[if_neg h1]
 by_cases h2:c.toNat=10
 . rw[if_pos h2];have:c=10:=UInt8.toNat_inj.1 h2;subst this;exact⟨rfl,by decide,_,_,rfl,by decide⟩
 rw[if_neg h2]
 by_cases h3:c.toNat=9
 . rw[if_pos h3];have:c=9:=UInt8.toNat_inj.1 h3;subst this;exact⟨rfl,by decide,_,_,rfl,by decide⟩
 rw[if_neg h3]
 by_cases h4:c.toNat<32\/126<c.toNat
 . rw[if_pos h4];refine⟨?_,Nat.succ_pos _,_,_,rfl,by decide⟩;show gY (92::120::hx (c.toNat/16)::hx (c.toNat%16)::r)=_;rw[mT,if_neg (by decide),if_pos (by decide),gr,if_neg (by decide),if_neg (by decide),if_neg (by decide),if_neg (by decide),if_pos (by decide)];unfold Lu;simp only;rw[QX _ (by omega),QX _ (by omega),if_pos ⟨by omega,by omega⟩,XE];rfl
 . rw[if_neg h4];refine⟨?_,Nat.succ_pos _,_,_,rfl,by omega⟩;show gY (c::r)=_;rw[mT,if_neg (by omega),if_neg (by omega)];rfl
theorem XF (s:List UInt8):∀(f:Nat),s.length<f->qt f (qs s++34::r)=some (s,(qs s).length+1):=by
 induction s with
 | nil=>
   intro f hf;obtain⟨g,rfl⟩:∃g,f=g+1:=⟨f-1,by simp at hf;omega⟩;show qt (g+1) (34::r)=_;rw[o5,if_pos (by decide)];rfl
 | cons c s ih=>
   intro f hf;obtain⟨g,rfl⟩:∃g,f=g+1:=⟨f-1,by simp at hf;omega⟩;have e:qs (c::s)++34::r=qc c++(qs s++34::r):=by simp[qs]
   obtain⟨h1,h2,a,u,h3,h4⟩:=F0 c (qs s++34::r);rw[e];have e2:qc c++(qs s++34::r)=a::(u++(qs s++34::r)):=by rw[h3];rfl
   rw[e2,o5,if_neg h4,<- e2,h1,if_neg (by show ¬(qc c).length=0;omega)];simp only;rw[List.drop_left,ih g (by simp at hf;omega)];simp[qs,List.length_append];omega
theorem L9:∀s∈bC,(∀r,bC.find? (λx=>x.isPrefixOf (s++32::r))=some s)/\(∀r,bC.find? (λx=>x.isPrefixOf (s++41::r))=some s)/\bC.find? (λx=>x.isPrefixOf (s++[]))=some s:=by
 intro s hs;simp only[bC,List.mem_cons,List.not_mem_nil,or_false]at hs;rcases hs with rfl | rfl | rfl | rfl | rfl | rfl | rfl | rfl | rfl | rfl | rfl | rfl | rfl | rfl | rfl | rfl | rfl | rfl | rfl | rfl | rfl | rfl
 all_goals exact⟨λr=>rfl,λr=>rfl,rfl⟩
theorem F2:∀s∈bC,∃c u,s=c::u/\ck c=false/\c.toNat≠34/\(cL c||cW c)=false/\c.toNat≠39/\ws c=false/\(c=40->u=[])/\(c=42->s=[42]):=by
 intro s hs;simp only[bC,List.mem_cons,List.not_mem_nil,or_false]at hs;rcases hs with rfl | rfl | rfl | rfl | rfl | rfl | rfl | rfl | rfl | rfl | rfl | rfl | rfl | rfl | rfl | rfl | rfl | rfl | rfl | rfl | rfl | rfl
 all_goals exact⟨_,_,rfl,by decide,by decide,by decide,by decide,by decide,by decide,by decide⟩
theorem Hu {s:List UInt8}(hs:s∈bC)(hr:sp r):bC.find? (λx=>x.isPrefixOf (s++r))=some s:=by
 obtain⟨h1,h2,h3⟩:=L9 s hs;cases r with
 | nil=>exact h3
 | cons c u=>
   rcases hr c u rfl with rfl | rfl
   . exact h1 u
   . exact h2 u
theorem L_ (n:Int)(h0:0<=n):∃c u,vB n=c::u/\ck c=true/\u.all ck=true:=by
 have h1:(vB n).all ck=true:=by unfold vB;rw[if_neg (by omega)];exact O5 _ [] rfl
 cases h:vB n with
 | nil=>exact absurd h (Li n)
 | cons c u=>
   rw[h,List.all_cons,Bool.and_eq_true]at h1;exact⟨c,u,rfl,h1.1,h1.2⟩
theorem Uv (h:m7 t):∃c u,cE t=c::u/\ws c=false/\(c=40->u=[])/\(c=42->t.k=7/\t.s=[42]):=by
 obtain⟨h1,h2,h3,h4⟩:=h;have dgw:∀c:UInt8,ck c=true->ws c=false/\c≠40/\c≠42:=by
  intro c hc;rw[kB]at hc;refine⟨?_,λe=>by subst e;simp at hc,λe=>by subst e;simp at hc⟩;unfold ws;simp only[Bool.or_eq_false_iff,beq_eq_false_iff_ne];refine⟨⟨⟨λe=> ?_,λe=> ?_⟩,λe=> ?_⟩,λe=> ?_⟩ <;> · subst e;simp at hc
 have ltw:∀c:UInt8,(cL c||cW c)=true->ws c=false/\c≠40/\c≠42:=by
  intro c hc;unfold cL cW at hc;simp only[Bool.or_eq_true,Bool.and_eq_true,decide_eq_true_eq]at hc;refine⟨?_,λe=>by subst e;simp at hc,λe=>by subst e;simp at hc⟩;unfold ws;simp only[Bool.or_eq_false_iff,beq_eq_false_iff_ne];refine⟨⟨⟨λe=> ?_,λe=> ?_⟩,λe=> ?_⟩,λe=> ?_⟩ <;> · subst e;simp at hc
 unfold cE;unfold aV at h1;rw[if_neg h2]at h1
 by_cases k1:t.k=1
 . rw[if_pos k1]at h1 ⊢;simp only[Bool.and_eq_true,decide_eq_true_eq]at h1;obtain⟨c,u,e,hc,_⟩:=L_ t.n h1.2.1;obtain⟨w1,w2,w3⟩:=dgw c hc;exact⟨c,u,e,w1,λq=>absurd q w2,λq=>absurd q w3⟩
 rw[if_neg k1]at h1 ⊢
 by_cases k2:t.k=2
 . rw[if_pos k2];exact⟨34,_,rfl,by decide,λq=>absurd q (by decide),λq=>absurd q (by decide)⟩
 rw[if_neg k2]at h1 ⊢
 by_cases k7:t.k=7
 . rw[if_pos k7,Bool.and_eq_true]at h1;obtain⟨c,u,e,_,_,_,_,w,w1,w2⟩:=F2 t.s (by simpa using h1.2);exact⟨c,u,e,w,w1,λq=>⟨k7,w2 q⟩⟩
 rw[if_neg k7]at h1
 by_cases k5:t.k=5
 . rw[if_pos k5,Bool.and_eq_true]at h1
   match t.s,h1.1 with
   | [],h=>cases h
   | [_],h=>cases h
   | a::b::u,h=>
     have h':(decide (a.toNat=39)&&(cL b&&u.all λc=> !decide (c.toNat=39)&&kf c))=true:=h;rw[Bool.and_eq_true,decide_eq_true_eq]at h';have:a=39:=UInt8.toNat_inj.1 h'.1;subst this;exact⟨39,_,rfl,by decide,λq=>absurd q (by decide),λq=>absurd q (by decide)⟩
 rw[if_neg k5]at h1;split at h1
 . rw[Bool.and_eq_true]at h1
   match t.s,h1.1 with
   | [],h=>cases h
   | c::u,h=>
     have h':((cL c||cW c)&&u.all kf)=true:=h;rw[Bool.and_eq_true]at h';obtain⟨w1,w2,w3⟩:=ltw c h'.1;exact⟨c,u,rfl,w1,λq=>absurd q w2,λq=>absurd q w3⟩
 . cases h1
theorem O6 (h:m7 t)(hr:sp r):∃q,mC (cE t++r)=some (q,(cE t).length)/\ia q t:=by
 obtain⟨h1,h2,h3,h4⟩:=h;unfold cE;unfold aV at h1;rw[if_neg h2]at h1
 by_cases k1:t.k=1
 . rw[if_pos k1]at h1 ⊢;simp only[Bool.and_eq_true,decide_eq_true_eq]at h1;obtain⟨c,u,e,hc,hu⟩:=L_ t.n h1.2.1;have hd:(vB t.n).all ck=true:=by rw[e,List.all_cons,hc,hu];rfl
   have hw:(vB t.n++r).takeWhile ck=vB t.n:=CN hd (L7 _ (by decide) (by decide) hr);have hnum:mB 0 (vB t.n)=some t.n.natAbs:=by
    unfold vB;rw[if_neg (by omega),O4 _ _ (by omega)];rfl
   rw[e]at hw ⊢;show ∃q,mC (c::(u++r))=_/\_;rw[fI,if_pos hc];rw[show c::(u++r)=c::u++r from rfl,hw];unfold CD;rw[<- e,hnum];exact⟨_,rfl,k1.symm,h1.1.symm,by show((t.n.natAbs:Nat):Int)=t.n;omega⟩
 rw[if_neg k1]at h1 ⊢
 by_cases k2:t.k=2
 . rw[if_pos k2]at h1 ⊢;rw[decide_eq_true_eq]at h1;have e:quote t.s++r=34::(qs t.s++34::r):=by simp[quote]
   rw[e,fI,if_neg (by decide)];unfold uz;rw[if_pos (by decide),XF t.s _ (by
    have:t.s.length<=(qs t.s).length:=by
     have:∀l:List UInt8,l.length<=(qs l).length:=λl=>by
      induction l with
      | nil=>simp
      | cons a l ih=>
        have:=(F0 a []).2.1;simp only[qs,List.flatMap_cons,List.length_append,List.length_cons]at ih ⊢;omega
     exact this _
    rw[List.length_append,List.length_cons];omega)]
   exact⟨⟨2,t.s,0,0⟩,by rw[Option.map_some];congr 2;simp[quote];omega,k2.symm,rfl,h1.symm⟩
 rw[if_neg k2]at h1 ⊢
 by_cases k7:t.k=7
 . rw[if_pos k7,Bool.and_eq_true,decide_eq_true_eq]at h1;have hs:t.s∈bC:=by simpa using h1.2
   obtain⟨c,u,e,w1,w2,w3,w4,_,_,_⟩:=F2 t.s hs;have hf:=Hu hs hr;have e':=e;generalize t.s=s at e hf ⊢;subst e;show ∃q,mC (c::(u++r))=_/\_;rw[fI,if_neg (by rw[w1];decide)];unfold uz;rw[if_neg w2,if_neg (by rw[w3];decide),if_neg (λq=>w4 q.1),show c::(u++r)=c::u++r from rfl,hf,Option.map_some];exact⟨⟨7,c::u,0,0⟩,rfl,k7.symm,e'.symm,h1.1.symm⟩
 rw[if_neg k7]at h1
 by_cases k5:t.k=5
 . rw[if_pos k5,Bool.and_eq_true,decide_eq_true_eq]at h1
   match hts:t.s,h1.1 with
   | [],h=>cases h
   | [_],h=>cases h
   | a::b::u,h=>
     have h':(decide (a.toNat=39)&&(cL b&&u.all λc=> !decide (c.toNat=39)&&kf c))=true:=h;rw[Bool.and_eq_true,decide_eq_true_eq,Bool.and_eq_true]at h';have e:a=39:=UInt8.toNat_inj.1 h'.1;subst e;show ∃q,mC (39::(b::u++r))=_/\_;rw[fI,if_neg (by decide)];unfold uz;have hw:(List.drop 1 (b::u++r)).takeWhile FL=u:=CN (p:=FL) h'.2.2 (L7 _ (by decide) (by decide) hr);rw[if_neg (by decide),if_neg (by decide),if_pos ⟨by decide,h'.2.1⟩,hw];refine⟨⟨5,List.take (2+u.length) (39::(b::u++r)),0,0⟩,?_,k5.symm,?_,h1.2.symm⟩
     rotate_left
     . show List.take (2+u.length) (39::(b::u++r))=t.s;rw[hts,show 39::(b::u++r)=(39::b::u)++r from rfl,show 2+u.length=(39::b::u:List UInt8).length by simp;omega,List.take_left]
     . congr 2;simp;omega
 rw[if_neg k5]at h1
 by_cases kw:t.k=3\/t.k=4\/t.k=6
 . rw[if_pos kw,Bool.and_eq_true,Bool.and_eq_true,decide_eq_true_eq,decide_eq_true_eq]at h1
   match hts:t.s,h1.1 with
   | [],h=>cases h
   | c::u,h=>
     have h':((cL c||cW c)&&u.all kf)=true:=h;rw[Bool.and_eq_true]at h';obtain⟨g1,g2,g3⟩:=Ui h'.1;have hw:(u++r).takeWhile kf=u:=CN h'.2 (L7 _ (by decide) (by decide) hr);show ∃q,mC (c::(u++r))=_/\_;rw[fI,if_neg (by rw[g1];decide)];unfold uz;rw[if_neg g2,if_pos h'.1,hw];refine⟨⟨kh (c::u),c::u,0,0⟩,?_,?_,hts.symm,h1.2.1.symm⟩
     rotate_left
     . show kh (c::u)=t.k;rw[<- hts];exact h1.2.2
     . congr 2;simp;omega
 . rw[if_neg kw]at h1;cases h1
def Lx:List UInt8->List Tok->Prop
 | r,[]=>(er r).2=true/\r.length<=(er r).1
 | r,t::ts=>(er r).2=true/\¬r.length<=(er r).1/\∃q n,mC (r.drop (er r).1)=some (q,n)/\ia q t/\Lx (r.drop ((er r).1+n)) ts
theorem Lx.nil:Lx [] []:=by
 show(er []).2=true/\_;rw[er];exact⟨rfl,Nat.le_refl _⟩
theorem Lx.sp (h:Lx r ts):Lx (32::r) ts:=by
 have e:er (32::r)=((er r).1+1,(er r).2):=Lw (by decide);cases ts with
 | nil=>
   show(er (32::r)).2=true/\(32::r).length<=(er (32::r)).1;rw[e,List.length_cons];exact⟨h.1,by have:=h.2;simp only;omega⟩
 | cons t ts=>
   obtain⟨h1,h2,q,n,h3,h4,h5⟩:=h;refine⟨by rw[e];exact h1,by rw[e,List.length_cons];simp only;omega,q,n,?_,h4,?_⟩
   . rw[e];exact h3
   . rw[e];show Lx ((32::r).drop ((er r).1+1+n)) ts;rw[show(er r).1+1+n=(er r).1+n+1 by omega,List.drop_succ_cons];exact h5
theorem Lx.tok {c:UInt8}{u:List UInt8}{q:Tok}(hx:x=c::u)(hw:ws c=false)(h40:¬(c=40/\(u++r).head? = some 42))(hl:mC (x++r)=some (q,x.length))(he:ia q t)(h:Lx r ts):Lx (x++r) (t::ts):=by
 have e:er (x++r)=(0,true):=by
  rw[hx];exact AU (by rw[hw];decide) h40
 refine⟨by rw[e],by rw[e,hx];simp,q,x.length,by rw[e];exact hl,he,?_⟩;rw[e];show Lx ((x++r).drop (0+x.length)) ts;rw[Nat.zero_add,List.drop_left];exact h
theorem Lx.m7 (hg:m7 t)(hr:Go.Proofs.YthjhonhhbddhkaaDoor.sp r)(h:Lx r ts):Lx (cE t++r) (t::ts):=by
 obtain⟨q,h1,h2⟩:=O6 hg hr;obtain⟨c,u,e,hw,h40,_⟩:=Uv hg;refine Lx.tok e hw ?_ h1 h2 h;rintro⟨rfl,q2⟩;rw[h40 rfl]at q2;cases r with
 | nil=>cases q2
 | cons d v=>
   have:d=42:=by simpa using q2
   subst this;rcases hr 42 v rfl with h | h<;>cases h
theorem Uw:sp []:=λc u e=>by cases e
theorem XG:sp (32::r):=λc u e=>by cases e;exact .inl rfl
theorem Lx.qP (ts:List Tok)(hg:∀t,t∈ts->Go.Proofs.YthjhonhhbddhkaaDoor.m7 t)(hr:Go.Proofs.YthjhonhhbddhkaaDoor.sp r)(h:Lx r rs):Lx (qP ts++r) (ts++rs):=by
 induction ts with
 | nil=>exact h
 | cons t ts ih=>
   cases ts with
   | nil=>exact Lx.m7 (hg t (by simp)) hr h
   | cons u ts=>
     rw[mz (by simp),List.append_assoc,List.cons_append];exact Lx.m7 (hg t (by simp)) XG (Lx.sp (ih λx hx=>hg x (by simp[hx])))
def Ml:List Tok->List Tok->Prop
 | [],[]=>True
 | a::l,b::m=>ia a b/\Ml l m
 | _,_=>False
theorem Ml.sg {a b:List Tok}:∀{out rest:List Tok},Ml a b->Sg (out++a++rest) out.length b (out.length+a.length):=by
 induction a generalizing b with
 | nil=>
   intro out rest h;cases b with
   | nil=>show out.length=_;simp
   | cons x b=>cases h
 | cons x a ih=>
   intro out rest h;cases b with
   | nil=>cases h
   | cons y b=>
     obtain⟨h1,h2⟩:=h;refine⟨?_,?_⟩
     . unfold tk;simp only[List.append_assoc,List.cons_append];rw[List.getElem?_append_right (Nat.le_refl _),Nat.sub_self];exact h1
     . have:=ih (out:=out++[x]) (rest:=rest) h2;simp only[List.length_append,List.length_cons,List.length_nil,List.append_assoc,List.cons_append,List.nil_append]at this ⊢;rw[show out.length+(a.length+1)=out.length+(0+1)+a.length by omega];exact this
theorem Ml.len {a b:List Tok}(h:Ml a b):a.length=b.length:=by
 induction a generalizing b with
 | nil=>cases b with | nil=>rfl | cons _ _=>cases h
 | cons x a ih=>cases b with | nil=>cases h | cons _ _=>rw[List.length_cons,List.length_cons,ih h.2]
theorem O7 (s:List UInt8):∀(ts:List Tok) (m:Nat) (out:List Tok) (i:Nat),i<=s.length->s.length-i<m->Lx (s.drop i) ts->
 (1000<out.length+ts.length/\1000<out.length+1+ts.length/\(out.length<=1000->∃j,gR s m out i=([],j,3)))\/(out.length+ts.length<=1000/\∃tl,Ml tl ts/\gR s m out i=(out++tl++[⟨0,[],0,(s.length:Int)⟩],0,0)):=by
 intro ts
 induction ts with
 | nil=>
   intro m out i hi hm hL;obtain⟨h1,h2⟩:=hL;rw[List.length_drop]at h2;obtain⟨m,rfl⟩:∃m',m=m'+1:=⟨m-1,by omega⟩;have e:gR s (m+1) out i=(out++[⟨0,[],0,(s.length:Int)⟩],0,0):=by
    unfold gR;rw[if_neg (by rw[h1];decide),if_pos (by omega)]
   by_cases ho:out.length<=1000
   . exact .inr ⟨by simpa using ho,[],trivial,by rw[e,List.append_nil]⟩
   . exact .inl ⟨by simp;omega,by simp;omega,λq=>absurd q ho⟩
 | cons t ts ih=>
   intro m out i hi hm hL;obtain⟨h1,h2,q,n,h3,h4,h5⟩:=hL;rw[List.length_drop]at h2;rw[List.drop_drop]at h3 h5;obtain⟨m,rfl⟩:∃m',m=m'+1:=⟨m-1,by omega⟩;have hp:=o6 h3;rw[List.length_drop]at hp;have e:gR s (m+1) out i=if 1000<=out.length then([],i+(er (s.drop i)).1,3)
    else gR s m (out++[⟨q.k,q.s,q.n,((i+(er (s.drop i)).1:Nat):Int)⟩]) (i+(er (s.drop i)).1+n):=by
    conv=>lhs;unfold gR
    rw[if_neg (by rw[h1];decide),if_neg (by omega),h3]
   rw[List.length_cons]
   by_cases ho:1000<=out.length
   . rw[e,if_pos ho];exact .inl ⟨by omega,by omega,λ_=>⟨_,rfl⟩⟩
   . rw[e,if_neg ho];have:=ih m (out++[⟨q.k,q.s,q.n,((i+(er (s.drop i)).1:Nat):Int)⟩]) (i+(er (s.drop i)).1+n) (by omega) (by simp only at hp;omega) (by rw[<- Nat.add_assoc]at h5;exact h5);rw[List.length_append,List.length_singleton]at this;rcases this with⟨g1,g2,g3⟩ | ⟨g1,tl,g2,g3⟩
     . exact .inl ⟨by omega,by omega,λ_=>g3 (by omega)⟩
     . refine .inr ⟨by omega,⟨q.k,q.s,q.n,((i+(er (s.drop i)).1:Nat):Int)⟩::tl,⟨h4,g2⟩,?_⟩;rw[g3];simp
theorem O8 {s:List UInt8}(h:Lx s ts):((4096<s.length\/1000<ts.length)/\∃j,scan s=([],j,3))\/(s.length<=4096/\ts.length<=1000/\∃tl,Ml tl ts/\scan s=(tl++[⟨0,[],0,(s.length:Int)⟩],0,0)):=by
 unfold scan
 by_cases hs:4096<s.length
 . rw[if_pos hs];exact .inl ⟨.inl hs,0,rfl⟩
 . rw[if_neg hs];rcases O7 s ts (s.length+1) [] 0 (Nat.zero_le _) (by omega) (by simpa using h)with⟨g1,_,g3⟩ | ⟨g1,tl,g2,g3⟩
   . exact .inl ⟨.inr (by simpa using g1),g3 (by simp)⟩
   . exact .inr ⟨by omega,by simpa using g1,tl,g2,by simpa using g3⟩
end
section
variable {nx0 nx:Nat}{H0 H:T OB}{R:Value->T OB->Nat->Prop}
theorem YZ (a b:Value):bk (some (.tuple ⟨[a,b]⟩)) 0=some a:=rfl
theorem Y0 (a b:Value):bk (some (.tuple ⟨[a,b]⟩)) 1=some b:=rfl
end
section
variable {nx0 nx nx':Nat}{H0 H H':T OB}{L:List Tok}{s:List UInt8}{ts:List Tok}
theorem Ml.ok {a b:List Tok}(h:Ml a b)(hb:∀t,t∈b->aV t=true):a.all aV=true:=by
 induction a generalizing b with
 | nil=>rfl
 | cons x a ih=>
   cases b with
   | nil=>cases h
   | cons y b=>
     obtain⟨h1,h2⟩:=h;rw[List.all_cons,ih h2 λt ht=>hb t (by simp[ht]),Bool.and_true];have:=hb y (by simp);unfold aV at this ⊢;rw[h1.1,h1.2.1,h1.2.2];exact this
theorem Hv (h:Lx s ts)(hg:∀t,t∈ts->aV t=true):((4096<s.length\/1000<ts.length)/\∃j,scan s=([],j,3))\/(s.length<=4096/\ts.length<=1000/\∃L,scan s=(L,0,0)/\L.length=ts.length+1/\L.all aV=true/\Sg L 0 ts ts.length/\(tk L ts.length).k=0):=by
 rcases O8 h with h1 | ⟨h1,h2,tl,h3,h4⟩
 . exact .inl h1
 . refine .inr ⟨h1,h2,_,h4,by rw[List.length_append,h3.len];rfl,?_,?_,?_⟩
   . rw[List.all_append,h3.ok hg];rfl
   . have:=Ml.sg (out:=[]) (rest:=[⟨0,[],0,(s.length:Int)⟩]) h3;rw[List.nil_append,List.length_nil,Nat.zero_add,h3.len]at this;exact this
   . unfold tk;rw[<- h3.len,List.getElem?_append_right (Nat.le_refl _),Nat.sub_self];rfl
theorem ua (l:List aG)(hr:de l=true)(hok:∀d,d∈l->d.ok):∀t,t∈eD l->m7 t:=(yO l hr hok).1
theorem A1 (l:List aG)(hr:de l=true)(hok:∀d,d∈l->d.ok):((4096<(qP (eD l)).length\/1000<(eD l).length)/\∃j,scan (qP (eD l))=([],j,3))\/((qP (eD l)).length<=4096/\(eD l).length<=1000/\(scan (qP (eD l))).2.2=0/\0<(scan (qP (eD l))).1.length/\∀o,(ps (scan (qP (eD l))).1 90000).cq [] 0=some o->parse (qP (eD l)) o=if 100<jd l 0 then([],0,81)else(l,0,0)):=by
 have hg:=ua l hr hok;have hL:Lx (qP (eD l)) (eD l):=by
  have:=Lx.qP (rs:=[]) (r:=[]) (eD l) hg Uw Lx.nil;rwa[List.append_nil,List.append_nil]at this
 rcases Hv hL λt ht=>(hg t ht).1 with h | ⟨h1,h2,L,h3,h4,h5,h6,h7⟩
 . exact .inl h
 . refine .inr ⟨h1,h2,by rw[h3],by rw[h3];show 0<L.length;omega,λo ho=> ?_⟩;rw[fB]at hr;rw[h3]at ho;have:=CM (L:=L) l [] 90000 0 (λd hd=>bG hr hd) (by omega) h6 h7;rw[show(ps (L,0,0).1 90000)=ps L 90000 from rfl,this]at ho;cases ho;unfold parse;rw[h3];show(if(0:Int)=0 then m8 L (.ok ([]++l) _)else _)=_;rw[if_pos rfl,List.nil_append];unfold m8 G9;rw[if_pos h5]
theorem ub (hl:s.length<dQ):∃o,(ps (scan s).1 90000).cq [] 0=some o:=by
 have hs:=yY hl;obtain⟨o,ho,_⟩:=(Wj (L:=(scan s).1) 90000).cq [] 0 (by omega);exact⟨o,ho⟩
end
section
variable {nx0 nx nx':Nat}{H0 H H':T OB}{L:List Tok}{s r:List UInt8}
theorem Ma {q:Tok×Nat}(h:mC r=some q):q.1.s.length<=q.2:=by
 cases r with
 | nil=>cases h
 | cons c u=>
   rw[fI]at h
   by_cases hd:ck c=true
   . rw[if_pos hd]at h;unfold CD at h;cases hN:mB 0 ((c::u).takeWhile ck)with
     | none=>rw[hN]at h;cases h
     | some v=>rw[hN]at h;cases h;exact Nat.zero_le _
   rw[if_neg hd]at h;unfold uz at h
   by_cases h34:c.toNat=34
   . rw[if_pos h34]at h;obtain⟨q1,hq,rfl⟩:=Option.map_eq_some_iff.1 h;have:=LG hq;show q1.1.length<=1+q1.2;omega
   rw[if_neg h34]at h
   by_cases hl:(cL c||cW c)=true
   . rw[if_pos hl]at h;cases h;show(c::u.takeWhile kf).length<=1+(u.takeWhile kf).length;rw[List.length_cons];omega
   rw[if_neg hl]at h
   by_cases h39:c.toNat=39/\kD u=true
   . rw[if_pos h39]at h;cases h;show(List.take _ _).length<=_;rw[List.length_take];omega
   rw[if_neg h39]at h;obtain⟨x,hx,rfl⟩:=Option.map_eq_some_iff.1 h;exact Nat.le_refl _
def mE:List Tok->Nat
 | []=>0
 | t::l=>t.s.length+mE l
theorem qn (l:List Tok)(t:Tok):mE (l++[t])=mE l+t.s.length:=by
 induction l with
 | nil=>simp[mE]
 | cons a l ih=>rw[List.cons_append,mE,ih,mE];omega
theorem Hw (s:List UInt8):∀(m:Nat) (out:List Tok) (i:Nat) (L:List Tok) (a:Nat),i<=s.length->mE out<=i->out.length<=1000->gR s m out i=(L,a,0)->mE L<=s.length/\L.length<=1001:=by
 intro m
 induction m with
 | zero=>intro out i L a _ _ _ h;cases h
 | succ m ih=>
   intro out i L a hi hS ho h;unfold gR at h;split at h
   . cases h
   split at h
   . cases h;exact⟨by rw[qn];show mE out+0<=_;omega,by rw[List.length_append];show out.length+1<=_;omega⟩
   split at h
   . cases h
   . rename_i q hq;split at h
     . cases h
     . have hp:=o6 hq;have hl:=Ma hq;rw[List.length_drop]at hp;exact ih _ _ L a (by omega) (by rw[qn];show mE out+q.1.s.length<=_;omega) (by rw[List.length_append];show out.length+1<=_;omega) h
theorem Mb {a:Nat}(h:scan s=(L,a,0)):mE L<=s.length/\L.length<=1001:=by
 unfold scan at h;split at h
 . cases h
 . exact Hw s _ [] 0 L a (Nat.zero_le _) (Nat.le_refl _) (by simp) h
theorem QY:∀k,k<=L.length->Cw L k<=7*k+mE (L.take k)
 | 0,_=>Nat.le_refl _
 | k+1,h=>by
   have ih:=QY k (by omega);have hg:L[k]? = some L[k]:=List.getElem?_eq_getElem (by omega);have e:=dn L k;rw[QR hg]at e;rw[List.take_add_one,hg];show Cw L (k+1)<=7*(k+1)+mE (L.take k++[L[k]]);rw[qn,e];have:=Nat.div_le_self (L[k]).s.length 8;omega
theorem Hx (k:Nat):∀L:List Tok,mE (L.take k)<=mE L:=by
 induction k with
 | zero=>intro L;exact Nat.zero_le _
 | succ k ih=>
   intro L;cases L with
   | nil=>exact Nat.le_refl _
   | cons a l=>have:=ih l;rw[List.take_succ_cons,mE,mE];omega
theorem CO (hs:s.length<=1200){o:kn (List aG)}(ho:(ps (scan s).1 90000).cq [] 0=some o):(parse s o).2.2≠0/\(parse s o).1=[]\/∃l,parse s o=(l,0,0)/\de l=true/\ek l<=9000/\jd l 0<=100:=by
 by_cases h0:(scan s).2.2=0
 . obtain⟨L,a,e,hsc⟩:∃L a e,scan s=(L,a,e):=⟨_,_,_,rfl⟩;rw[hsc]at h0 ho;have h0:e=0:=h0;subst h0;have ho:(ps L 90000).cq [] 0=some o:=ho;unfold parse;rw[hsc];show(if(0:Int)=0 then m8 L o else _).2.2≠0/\(if(0:Int)=0 then m8 L o else _).1=[]\/∃l,(if(0:Int)=0 then m8 L o else _)=_/\_;rw[if_pos rfl];unfold m8
   by_cases hT:L.all aV=true
   . rw[if_pos hT];cases o with
     | bad a=>exact .inl ⟨by show(80:Int)≠0;decide,rfl⟩
     | ok l kE=>
       show(if 100<jd l 0 then([],0,81)else(l,0,0):List aG×Int×Int).2.2≠0/\_\/∃l',(if 100<jd l 0 then([],0,81)else(l,0,0):List aG×Int×Int)=(l',0,0)/\_
       by_cases hd:100<jd l 0
       . refine .inl ⟨by rw[if_pos hd];show(81:Int)≠0;decide,?_⟩;show(if 100<jd l 0 then([],0,81)else(l,0,0):List aG×Int×Int).1=[];rw[if_pos hd]
       . refine .inr ⟨l,by rw[if_neg hd],?_⟩;have ht:∀k,aV (tk L k)=true:=λk=>by
          unfold tk;cases hk:L[k]? with
          | none=>rfl
          | some t=>exact List.all_eq_true.1 hT t (List.mem_of_getElem? hk)
         obtain⟨h1,h2,h3⟩:=(Xz ht 90000).cq [] 0 Al.nil l kE ho;obtain⟨L0,hL,_,_⟩:=LJ hsc;have hE:(tk L L0.length).k=0:=by
          rw[QR (t:=⟨0,[],0,(s.length:Int)⟩) (by rw[hL,List.getElem?_append_right (Nat.le_refl _),Nat.sub_self];rfl)]
         have hk:=(Wl (L:=L) (L':=L) (E:=L0.length) (K:=0) ⟨hE,λ_ _=>rfl⟩ 90000).cq [] 0 (Nat.zero_le _);rw[ho]at hk;have hkE:kE<=L0.length:=hk.2.1;obtain⟨q1,q2⟩:=Mb hsc;have hlen:L.length=L0.length+1:=by rw[hL,List.length_append];rfl
         have c1:=QY (L:=L) kE (by omega);have c2:=Hx kE L;rw[yZ]at h3;have c3:Cw L 0=0:=rfl;exact⟨by rw[fB];exact h1.all,by omega,by omega⟩
   . rw[if_neg hT];exact .inl ⟨by show(110:Int)≠0;decide,rfl⟩
 . unfold parse;rw[if_neg h0];exact .inl ⟨h0,rfl⟩
theorem Ux {ts:List Tok}(hg:∀t,t∈ts->m7 t):2*ts.length<=(qP ts).length+1:=by
 induction ts with
 | nil=>exact Nat.zero_le _
 | cons t ts ih=>
   have ht:=List.length_pos_iff.2 (Fw (hg t (by simp)));cases ts with
   | nil=>show 2*1<=(cE t).length+1;omega
   | cons u ts=>
     have:=ih λx hx=>hg x (by simp[hx]);rw[mz (by simp),List.length_append,show(32::qP (u::ts)).length=(qP (u::ts)).length+1 from rfl,show(t::u::ts).length=(u::ts).length+1 from rfl];omega
theorem QZ {nx0 nx:Nat}{H0 H:T OB}(hT:dY nx0 H0){l:List aG}{v:Value}(hv:DV l v)(hl:l.length<dQ)(hok:∀d,d∈l->d.ok)(hz:ek l<=9000)(hA:Ag nx0 H0 nx H):dJ P pl X0 (aI P pl (.call 15 [v] false none H nx)) nx0 H0 (QI nx0 l):=by
 rcases hv with rfl | ⟨rfl,rfl⟩
 . exact Yy hT l hl hok hz hA
 . rw[Y7];refine Wq.box hA λH1 hb cc hA1=> ?_;have hb:cA H1 nx [.slice none 0 0,.bool false] 88:=hb;simp only[ab,show cv P #[23] 3 (some [aw])=some (i64 0)by kernel_rfl];refine Wq.jmp (I5 ..) (λ_=>rfl) ?_;simp only[ab,oQ,gb,ah hb wI (off:=0) (u:= .slice none 0 0) rfl,ah hb IT (off:=1) (u:= .bool false) rfl];refine Wq.uu hA1 ⟨[],.slice none 0 0,?_,.inl ⟨rfl,rfl⟩,λ_=>rfl,Nat.zero_le _⟩;rw[de]
theorem Uy {l:List aG}{v:Value}(hv:DV l v)(hl:l.length<dQ)(hok:∀d,d∈l->d.ok)(hz:ek l<=9000):PT 10 [v] (.bool (de l)):=PT.of rfl λH nx hT=>by
 rw[Zi];refine Wq.va rfl (QZ hT hv hl hok hz (.refl _ _)) λu H' nx' hA hu=> ?_;obtain⟨toks,sl,rfl,_⟩:=hu;simp only[ab,show bk (some (.tuple ⟨[sl,.bool (de l)]⟩)) 0=some sl from rfl,show bk (some (.tuple ⟨[sl,.bool (de l)]⟩)) 1=some (.bool (de l))from rfl];exact Wq.ret hA
theorem Uz {l:List aG}{v:Value}(hv:DV l v)(hl:l.length<dQ)(hok:∀d,d∈l->d.ok)(hz:ek l<=9000)(hr:de l=true):PT 9 [v] (.tuple ⟨[au (qP (eD l)),i64 0]⟩):=PT.of rfl λH nx hT=>by
 rw[q9];refine Wq.va rfl (QZ hT hv hl hok hz (.refl _ _)) λu H1 av hA1 hu=> ?_;obtain⟨toks,sl,rfl,hS,hd,hn⟩:=hu;obtain rfl:=hd hr;rw[hr];simp only[ab,show bk (some (.tuple ⟨[sl,.bool true]⟩)) 0=some sl from rfl,show bk (some (.tuple ⟨[sl,.bool true]⟩)) 1=some (.bool true)from rfl];have hG:=yO l hr hok;refine Wq.va rfl (YF hT (eD l) (by unfold dQ;omega) hG.1 (Nat.le_trans hG.2 (by omega)) hS hA1) λu H2 nx2 hA2 hu=> ?_;subst hu;rw[T1 hG.1];exact Wq.ret hA2
theorem Mc (s:List UInt8)(hl:s.length<dQ):PT 4 [au s] (.bool true):=PT.of rfl λH nx hT=>by
 have hk:P0 7 [] (.bool true):=Pure.ext rfl;have hbig:dQ=1125899906842624:=rfl;have hs:=yY hl;rw[q4];simp only[ab,aT _ bl,aY];refine Wq.ite (λh=> ?_) (λh=> ?_)
 . refine Wq.call hk (.refl _ _) λH1 av hA1=> ?_;simp only[ab];exact Wq.ret hA1
 obtain⟨o,ho⟩:=ub hl;have hok:(parse s o).1.length<dQ/\∀d,d∈(parse s o).1->d.ok:=by
  have hok:=λds k (e:o= .ok ds k)=>(Ub hs.2.1 90000 (by omega)).cq [] 0 0 ak.nil (by omega) ds k (by rw[ho,e]);have hnil:([]:List aG).length<dQ/\∀d,d∈([]:List aG)->d.ok:=⟨by decide,λd h=>by simp at h⟩;unfold parse m8 G9;split
  . split
    . split
      . exact hnil
      . split
        . exact hnil
        . have h1:=hok _ _ rfl;exact⟨h1.dQ (by omega),h1.2⟩
    . exact hnil
  . exact hnil
 have hrr:=CO (by omega) ho;refine Wq.iF rfl (QQ hl ho hT (.refl _ _)) (λu H1 av hA1 hR=> ?_) (λu H3 nx3 hA3 hR=>by obtain⟨v,q,_⟩:=hR;cases q);obtain⟨v,q,hv⟩:=hR;cases q;have x0:∀(v:Value) (a e:Int),bk (some (Value.tuple ⟨[v,i64 a,i64 e]⟩)) 0=some v:=λ_ _ _=>rfl;have x1:∀(v:Value) (a e:Int),bk (some (Value.tuple ⟨[v,i64 a,i64 e]⟩)) 1=some (i64 a):=λ_ _ _=>rfl;have x2:∀(v:Value) (a e:Int),bk (some (Value.tuple ⟨[v,i64 a,i64 e]⟩)) 2=some (i64 e):=λ_ _ _=>rfl;simp only[ab,x0,x1,x2];rcases hrr with⟨hne,hnl⟩ | ⟨l,hp,hr,hz,hd⟩
 . rw[decide_eq_false hne];rw[hnl]at hv;have hlen:cv P #[23] 3 (some [v])=some (i64 0):=by
    rcases hv with rfl | ⟨_,rfl⟩
    . rw[eU 17 _ (by kernel_rfl)];rfl
    . kernel_rfl
   simp only[ab,hlen];refine Wq.call hk hA1 λH2 nx2 hA2=> ?_;simp only[ab];exact Wq.ret hA2
 rw[hp]at hv hok ⊢;obtain⟨hll,hlok⟩:=hok;simp only[ab];refine Wq.qK hT (Uz hv hll hlok hz hr) hA1 λH2 nx2 hA2=> ?_;simp only[ab,YZ,Y0];have hgt:=yO l hr hlok;have hgood:=ua l hr hlok;have hge:=Ux hgood;have hsl:(qP (eD l)).length<dQ:=by
  have:=Ol (eD l);have:=hgt.2;omega
 have hpp:=A1 l hr hlok;obtain⟨o2,ho2⟩:=ub hsl;generalize qP (eD l)=t at hsl hpp ho2 hge ⊢;refine Wq.iF rfl (QQ hsl ho2 hT hA2) (λu H3 nx3 hA3 hR=> ?_) (λu H3 nx3 hA3 hR=>by obtain⟨v,q,_⟩:=hR;cases q);obtain⟨w,q,hw⟩:=hR;cases q;simp only[ab,x0,x1,x2];refine Wq.qK hT (Uy hv hll hlok hz) hA3 λH4 nx4 hA4=> ?_;rw[hr];simp only[ab];refine Wq.jmp (Vw ..) (λ_=>rfl) ?_;rcases hpp with⟨h1,j,h2⟩ | ⟨h1,h2,h3,h4,h5⟩
 . have e1:parse t o2=([],(j:Int),3):=by unfold parse;rw[h2];rfl
   rw[e1];simp only[ab,aT _ bl,aY];refine Wq.ite (λ_=> ?_) (λhq=>by omega);refine Wq.call hk hA4 λH5 nx5 hA5=> ?_;simp only[ab];exact Wq.ret hA5
 . rw[h5 o2 ho2,if_neg (by omega)]at hw ⊢;simp only[ab];rw[show decide ((0:Int)=3)=false from rfl];simp only[ab];refine Wq.call (LI l v w hv hw hll hlok) hA4 λH5 nx5 hA5=> ?_;simp only[ab];refine Wq.call hk hA5 λH6 nx6 hA6=> ?_;simp only[ab];exact Wq.ret hA6
end
end
end Go.Proofs.YthjhonhhbddhkaaDoor
