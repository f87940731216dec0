/- Texts of this claim, side by side. -/
import Derived.Test.YthjhonhhbddhkaaGreatDoorG8
import Derived.Test.YthjhonhhbddhkaaGreatDoorG7
import Derived.Test.YthjhonhhbddhkaaGreatDoorG6
open List renaming length_map->aa,length_append->aj,mem_of_getElem?->ak,length_cons->ao,mem_cons->aG,all_eq_true->aM,mem_singleton->aP,eq_nil_of_length_eq_zero->aQ,append_nil->bf,append_assoc->bn,mem_map->bo,getElem?_eq_none->bt,map_cons->bD,getElem?_map->bS,nil_append->cj,all_cons->cW,length_nil->c_,drop_zero->dq,map_map->dC,map_append->dI,length_eq_zero_iff->d_,cons_append->eZ,flatMap_cons->fj,map_nil->fm,mem_cons_self->fC,take_length->fD
open Bool renaming and_eq_true->ae,true_and->ai,false_and->aE,and_true->aW,or_eq_true->bl,false_or->bG,not_true->cM,and_false->cU,or_eq_false_iff->dy,not_eq_true'->dY,not_false->fk
open Nat renaming ble_eq_true_of_le->av,le_refl->ax,beq->ay,zero_le->aN,ble->bj,lt_succ_self->bz,beq_refl->cm,succ->cS,lt_of_lt_of_le->eh
namespace Go.Proofs.YthjhonhhbddhkaaGreatDoor
open Go.Ev Go.RowKit
noncomputable section
set_option maxRecDepth 100000
set_option linter.unusedVariables false
set_option linter.unusedSimpArgs false
set_option maxHeartbeats 8000000
section
variable {L:List Tok}{k k' m n:Nat}{s w:List UInt8}{t:Tok}
def PE (L:List Tok)(k:Nat):Prop:=qy L k=false/\eM L k [58,58]=false
theorem QV (h:(tk L k).k≠1/\(tk L k).k≠2/\(tk L k).k≠3/\(tk L k).k≠4):uo L k=false:=by
 unfold uo;rw[decide_eq_false h.1,decide_eq_false h.2.1,decide_eq_false h.2.2.1,decide_eq_false h.2.2.2];rfl
theorem ti {k n:Int}(h:(decide (k=3)||decide (n=0))=true)(hk:k≠3):n=0:=by
 rw[bl,decide_eq_true_eq,decide_eq_true_eq]at h;exact h.resolve_left hk
theorem Pk (k n:Int)(s:List UInt8)(l:List bk):(bk.mk k n s l).k=k:=rfl
theorem Ps (k n:Int)(s:List UInt8)(l:List bk):(bk.mk k n s l).s=s:=rfl
theorem Pl (k n:Int)(s:List UInt8)(l:List bk):(bk.mk k n s l).l=l:=rfl
theorem Dz (h:kY (tk L k) (ft s))(h1:s≠[40])(h2:s≠[95])(h3:s≠[126]):qy L k=false:=by
 unfold qy;rw[QV ⟨gq h (by decide),gq h (by decide),gq h (by decide),gq h (by decide)⟩,eQ h h1,eQ h h2,eQ h h3];rfl
theorem PE.sg (h:kY (tk L k) (ft s))(h1:s≠[40])(h2:s≠[95])(h3:s≠[126])(h4:s≠[58,58]):PE L k:=⟨Dz h h1 h2 h3,eQ h h4⟩
def QW (t:Tok):Prop:=t.k=1\/t.k=2\/t.k=3\/t.k=4\/t=ft [40]\/t=ft [95]\/t=ft [126]
theorem QW.beg (h:QW t)(he:kY (tk L k) t):qy L k=true:=by
 unfold qy uo
 rcases h with h | h | h | h | h | h | h
 . rw[he.1,h];rfl
 . rw[he.1,h];rfl
 . rw[he.1,h];rfl
 . rw[he.1,h];rfl
 . subst h;rw[jf he];simp
 . subst h;rw[jf he];simp
 . subst h;rw[jf he];simp
theorem ma (p:bk)(hr:dN p=true):∃t ts,ca p=t::ts/\QW t/\(t.k=4->p= .mk 6 0 t.s []/\ts=[]):=by
 rw[m9];have e0:=kW p;rw[hr]at e0;have e1:=e0.symm;rw[ae]at e1;obtain⟨_,hd⟩:=e1;unfold o6 at hd;rw[ae]at hd;obtain⟨hn,hd⟩:=hd
 by_cases hk:p.k=6/\p.l.length≠0
 . rw[if_pos hk];exact⟨_,_,rfl,by simp[QW],λh=>by cases h⟩
 rw[if_neg hk,qn];unfold pf
 by_cases h1:p.k=1
 . rw[if_pos h1];exact⟨_,_,rfl,by simp[QW],λh=>by cases h⟩
 rw[if_neg h1]at hd ⊢
 by_cases h2:p.k=2
 . rw[if_pos h2];exact⟨_,_,rfl,by simp[QW],λh=>by cases h⟩
 rw[if_neg h2]at hd ⊢
 by_cases h3:p.k=3
 . rw[if_pos h3];split
   . exact⟨_,_,rfl,by simp[QW],λh=>by cases h⟩
   . exact⟨_,_,rfl,by simp[QW],λh=>by cases h⟩
 rw[if_neg h3]at hd ⊢
 by_cases h4:p.k=4
 . rw[if_pos h4];exact⟨_,_,rfl,by simp[QW],λh=>by cases h⟩
 rw[if_neg h4]at hd ⊢
 by_cases h5:p.k=5
 . rw[if_pos h5];exact⟨_,_,rfl,by simp[QW],λh=>by cases h⟩
 rw[if_neg h5]at hd ⊢
 by_cases h6:p.k=6
 . rw[if_pos h6]at hd ⊢;obtain⟨c,n,s,l⟩:=p;obtain rfl:c=6:=h6;have hl:l=[]:=aQ (by
    refine Decidable.byContradiction λq=>hk ⟨rfl,q⟩)
   subst hl
   by_cases hc:s=[58,58]
   . subst hc;cases hd
   . rw[if_neg (show ¬(bk.mk 6 n s []).s=[58,58]from hc)];have hn:n=0:=ti (k:=6) hn (by decide);subst hn;exact⟨_,_,rfl,by simp[QW],λh=>⟨rfl,rfl⟩⟩
 . rw[if_neg h6]at hd;cases hd
def KX (L:List Tok)(p:bk):Prop:=∀n k k',12*(ca p).length<=n->Sg L k (ca p) k'->(ps L n).gR k=yes p k'
def PaB (L:List Tok)(p:bk):Prop:=∀n k k',12*(jE p).length+6<=n->Sg L k (jE p) k'->PE L k'->(ps L n).pat k=yes p k'
theorem KX.pat {p:bk}(h:KX L p)(hr:dN p=true)(hn:12*(ca p).length+1<=n)(hS:Sg L k (ca p) k')(hK:PE L k'):(ps L n).pat k=yes p k':=by
 obtain⟨m,rfl⟩:∃m,n=m+1:=⟨n-1,by omega⟩;show zR L (ps L m) k=_;unfold zR;have e:zQ L (ps L m) k=yes p k':=by
  obtain⟨t,ts,e,h1,h2⟩:=ma p hr;unfold zQ
  by_cases h4:t.k=4
  . obtain⟨rfl,rfl⟩:=h2 h4;rw[e]at hS;obtain⟨hs1,hs2⟩:=hS;cases hs2;rw[if_pos (by rw[hs1.1,h4]),dQ hK.1,hs1.2.1]
  . have hs1:kY (tk L k) t:=by rw[e]at hS;exact hS.1
    rw[if_neg (by rw[hs1.1];exact h4)];exact h m k k' (by omega) hS
 rw[e,dR,dQ hK.2]
theorem My (l:List bk)(hl:∀a,a∈l->KX L a/\dN a=true)(acc:List bk)(hn:12*(cQ (dB [44] ca) false l).length+1<=n)(hS:Sg L k (cQ (dB [44] ca) false l) k')(hK:PE L k')(hN:eM L k' [44]=false):(ps L n).ur acc k=yes (acc++l) k':=by
 rw[<- foldl_add];exact ph ca (λn=>(ps L n).pat) (λn=>(ps L n).ur) _ [44] (PE L) 1 (by decide) (λn acc k=>rfl) (λk h=>PE.sg h (by decide) (by decide) (by decide) (by decide)) l (λa ha n k k' h1 h2 h3=>(hl a ha).1.pat (hl a ha).2 h1 h2 h3) acc n k k' hn hS hK hN
theorem Uw {s:List UInt8}(l:List bk)(b:Bool):cQ (dB s AN) b (l.map λp=>((p.k,p.l.length),zS p))=cQ (dB s ca) b l:=je _ _ _ b
theorem QX {x:Int}(h: -4611686018427387903<=x/\x<=4611686018427387903):IntKind.i64.wrap (-(-x))=x:=by
 rw[aS (by omega)];omega
theorem zk (p:bk):dN p=true->(KX L p/\PaB L p)/\∀a,a∈p.l->KX L a:=bk.ind (p:=λp=>dN p=true->(KX L p/\PaB L p)/\∀a,a∈p.l->KX L a) (λp ih hr=>by
 have e0:=kW p;rw[hr]at e0;have e1:=e0.symm;rw[ae,gk]at e1;obtain⟨hrl,hd⟩:=e1;have hR:∀a,a∈p.l->dN a=true:=λa ha=>dp hrl ha;have hE:∀a,a∈p.l->KX L a:=λa ha=>(ih a ha (hR a ha)).1.1;have hE2:∀q,q∈p.l->∀a,a∈q.l->KX L a:=λq hq=>(ih q hq (hR q hq)).2;have hT:=qn p;have hr0:=hr;unfold o6 at hd;rw[ae]at hd;obtain⟨hz,hd⟩:=hd;have hV:¬(p.k=6/\p.l.length≠0)->KX L p:=λhk n k k' hn hS=>by
  rw[m9,if_neg hk,hT]at hn hS;obtain⟨c,x,s,l⟩:=p;unfold pf at hn hS
  by_cases h1:(bk.mk c x s l).k=1
  . rw[if_pos h1]at hn hS hd;obtain rfl:c=1:=h1;obtain⟨m,rfl⟩:∃m,n=m+1:=⟨n-1,by simp at hn;omega⟩;obtain⟨hs1,hs2⟩:=hS;cases hs2;rw[ae,decide_eq_true_eq,decide_eq_true_eq]at hd;show hJ L (ps L m) k=_;unfold hJ;rw[if_neg (gq hs1 (by decide)),if_neg (gq hs1 (by decide)),if_neg (gq hs1 (by decide)),if_neg (gq hs1 (by decide)),if_pos (jf hs1)];obtain⟨d1,d2⟩:=hd;cases d1;cases aQ d2;have hx:x=0:=ti (k:=1) hz (by decide);rw[hx]
  rw[if_neg h1]at hn hS hd
  by_cases h2:(bk.mk c x s l).k=2
  . rw[if_pos h2]at hn hS hd;obtain rfl:c=2:=h2;obtain⟨m,rfl⟩:∃m,n=m+1:=⟨n-1,by simp at hn;omega⟩;obtain⟨hs1,hs2⟩:=hS;cases hs2;rw[ae,decide_eq_true_eq]at hd;show hJ L (ps L m) k=_;unfold hJ;rw[if_neg (gq hs1 (by decide)),if_neg (gq hs1 (by decide)),if_pos hs1.1,hs1.2.1];cases aQ hd.2;have hx:x=0:=ti (k:=2) hz (by decide);rw[hx];rfl
  rw[if_neg h2]at hn hS hd
  by_cases h3:(bk.mk c x s l).k=3
  . rw[if_pos h3]at hn hS hd;obtain rfl:c=3:=h3;simp only[ae,decide_eq_true_eq]at hd;obtain⟨d1,d2,d3,d4⟩:=hd;cases d1;cases aQ d2;obtain⟨m,rfl⟩:∃m,n=m+1:=⟨n-1,by split at hn<;>simp at hn<;>omega⟩;show hJ L (ps L m) k=_;unfold hJ;split at hS
    . obtain⟨hs1,hs2,hs3⟩:=hS;cases hs3;rw[if_neg (gq hs1 (by decide)),if_neg (gq hs1 (by decide)),if_neg (gq hs1 (by decide)),if_neg (gq hs1 (by decide)),dQ (eQ hs1 (by decide)),if_pos (jf hs1),rN hs2.1,hs2.2.2];show yes (bk.mk 3 (IntKind.i64.wrap (-(-x))) [] []) _=_;rw[show IntKind.i64.wrap (-(-x))=x from QX ⟨d3,d4⟩]
    . obtain⟨hs1,hs2⟩:=hS;cases hs2;rw[if_pos hs1.1,hs1.2.2];rfl
  rw[if_neg h3]at hn hS hd;have hx:x=0:=ti hz h3;subst hx
  by_cases h4:(bk.mk c 0 s l).k=4
  . rw[if_pos h4]at hn hS hd;obtain rfl:c=4:=h4;obtain⟨m,rfl⟩:∃m,n=m+1:=⟨n-1,by simp at hn;omega⟩;obtain⟨hs1,hs2⟩:=hS;cases hs2;rw[decide_eq_true_eq]at hd;show hJ L (ps L m) k=_;unfold hJ;rw[if_neg (gq hs1 (by decide)),if_pos hs1.1,hs1.2.1];cases aQ hd;rfl
  rw[if_neg h4]at hn hS hd
  by_cases h5:(bk.mk c 0 s l).k=5
  . rw[if_pos h5,Uw]at hn hS;rw[if_pos h5]at hd;obtain rfl:c=5:=h5;rw[ae,decide_eq_true_eq]at hd;obtain⟨d1,d2⟩:=hd;cases d1;obtain⟨m,rfl⟩:∃m,n=m+1:=⟨n-1,by simp at hn;omega⟩;rw[Sg.cons,Sg.app]at hS;obtain⟨hs1,j,hs2,hs3,hs4⟩:=hS;cases hs4;rw[ao,aj]at hn;show hJ L (ps L m) k=_;unfold hJ;rw[if_neg (gq hs1 (by decide)),if_neg (gq hs1 (by decide)),if_neg (gq hs1 (by decide)),if_neg (gq hs1 (by decide)),dQ (eQ hs1 (by decide)),dQ (eQ hs1 (by decide)),f_ hs1]
    match l with
    | []=>
      cases hs2;rw[if_pos (jf hs3)]
    | [a]=>simp[bk.l]at d2
    | a::b::r=>
      have eq:cQ (dB [44] ca) true (bk.mk 5 0 [] (a::b::r)).l=ca a++cQ (dB [44] ca) false (b::r):=rfl;rw[eq]at hs2 hn;rw[Sg.app]at hs2;obtain⟨j1,h1,h2⟩:=hs2;rw[aj]at hn;have h6:kY (tk L j1) (ft [44]):=h2.1;have ha:a∈(bk.mk 5 0 [] (a::b::r)).l:=fC ..;obtain⟨t,ts,e,hh,hh4⟩:=ma a (hR a ha);have h7:kY (tk L (k+1)) t:=by rw[e]at h1;exact h1.1
      have h8:eM L (k+1) [41]=false:=by
       rcases hh with h | h | h | h | h | h | h
       . exact te (ji h7 (by omega) (by omega))
       . exact te (ji h7 (by omega) (by omega))
       . exact te (ji h7 (by omega) (by omega))
       . exact te (ji h7 (by omega) (by omega))
       . subst h;exact eQ h7 (by decide)
       . subst h;exact eQ h7 (by decide)
       . subst h;exact eQ h7 (by decide)
      have hp:uZ L (ps L m) [a] j1=yes ([a]++(b::r)) j:=My (n:=m+1) (b::r) (λx hx=>⟨hE x (by show x∈a::b::r;simp at hx ⊢;exact .inr hx),hR x (by show x∈a::b::r;simp at hx ⊢;exact .inr hx)⟩) [a] (by omega) h2 (PE.sg hs3 (by decide) (by decide) (by decide) (by decide)) (eQ hs3 (by decide));rw[dQ h8,(hE a ha).pat (hR a ha) (by omega) h1 (PE.sg h6 (by decide) (by decide) (by decide) (by decide)),dR,if_pos (jf h6),hp,dR,f_ hs3];rfl
  rw[if_neg h5]at hn hS hd
  by_cases h6:(bk.mk c 0 s l).k=6
  . rw[if_pos h6]at hn hS hd;have hl:l=[]:=aQ (Decidable.byContradiction λq=>hk ⟨h6,q⟩);subst hl;obtain rfl:c=6:=h6
    by_cases hc:s=[58,58]
    . subst hc;cases hd
    . rw[if_neg (show ¬(bk.mk 6 0 s []).s=[58,58]from hc)]at hn hS;obtain⟨m,rfl⟩:∃m,n=m+1:=⟨n-1,by simp at hn;omega⟩;obtain⟨hs1,hs2⟩:=hS;cases hs2;show hJ L (ps L m) k=_;unfold hJ;rw[if_neg (gq hs1 (by decide)),if_neg (gq hs1 (by decide)),if_neg (gq hs1 (by decide)),if_pos hs1.1,hs1.2.1];rfl
  . rw[if_neg h6]at hd;cases hd
 have hB:PaB L p:=λn k k' hn hS hK=>by
  by_cases hk:p.k=6/\p.l.length≠0
  . rw[hT]at hn hS;obtain⟨c,x,s,l⟩:=p;obtain⟨q1,q2⟩:=hk;obtain rfl:c=6:=q1;have hx:x=0:=ti (k:=6) hz (by decide);subst hx;unfold pf at hn hS;simp only[show((6:Int)=1)=False from by simp,show((6:Int)=2)=False from by simp,show((6:Int)=3)=False from by simp,show((6:Int)=4)=False from by simp,show((6:Int)=5)=False from by simp,if_false,if_true,Pk]at hn hS hd;obtain⟨m,rfl⟩:∃m,n=m+1:=⟨n-1,by omega⟩;show zR L (ps L m) k=_;unfold zR
    by_cases hc:s=[58,58]
    . subst hc;simp only[Ps,if_true]at hn hS hd
      match l,hd with
      | [q],hd=>
        simp only[Pl,bD,fm]at hn hS hd;rw[ae,decide_eq_true_eq,decide_eq_true_eq]at hd;have hq:q∈(bk.mk 6 0 [58,58] [q]).l:=by simp[bk.l]
        rw[tb q]at hn hS;have hrq:=hR q hq;have e2:=kW q;rw[hrq]at e2;have e3:=e2.symm;rw[ae,gk]at e3;obtain⟨g1,g2⟩:=e3;obtain⟨qc,qx,qs,ql⟩:=q;obtain⟨q1,q2⟩:=hd;obtain rfl:qc=5:=q1;unfold o6 at g2;simp only[show((5:Int)=1)=False from by simp,show((5:Int)=2)=False from by simp,show((5:Int)=3)=False from by simp,show((5:Int)=4)=False from by simp,if_false,if_true,Pk,ae,decide_eq_true_eq,decide_false,bG]at g2;obtain⟨g2,g3,_⟩:=g2;cases g2;cases g3
        match ql,q2 with
        | [a,b],_=>
          simp only[Pl,bD,fm]at hn hS;have ha:a∈(bk.mk 5 0 [] [a,b]).l:=by simp[bk.l]
          have hb:b∈(bk.mk 5 0 [] [a,b]).l:=by simp[bk.l]
          rw[Sg.app]at hS;obtain⟨j,h1,h2,h3⟩:=hS;rw[aj,ao]at hn;have ra:dN a=true:=dp g1 ha;have rb:dN b=true:=dp g1 hb;have eH:zQ L (ps L m) k=yes a j:=by
           obtain⟨t,ts,e,hh1,hh2⟩:=ma a ra;unfold zQ
           by_cases h4:t.k=4
           . obtain⟨rfl,rfl⟩:=hh2 h4;rw[e]at h1;obtain⟨hs1,hs2⟩:=h1;cases hs2;rw[if_pos (by rw[hs1.1,h4]),dQ (Dz h2 (by decide) (by decide) (by decide)),hs1.2.1]
           . have hs1:kY (tk L k) t:=by rw[e]at h1;exact h1.1
             rw[if_neg (by rw[hs1.1];exact h4)];exact hE2 _ hq a ha m k j (by omega) h1
          rw[eH,dR,if_pos (jf h2),(hE2 _ hq b hb).pat rb (by omega) h3 hK,dR];rfl
    . rw[if_neg (show ¬(bk.mk 6 0 s l).s=[58,58]from hc)]at hn hS hd;rw[ae,decide_eq_true_eq]at hd
      match l,q2,hd.2 with
      | [a],_,_=>
        simp only[Pl,bD,fm]at hn hS;have eq:cQ (λ_=>AN) true [((a.k,a.l.length),zS a)]=ca a++[]:=rfl;rw[eq,bf]at hn hS;have ha:a∈(bk.mk 6 0 s [a]).l:=by simp[bk.l]
        obtain⟨h1,h2⟩:=hS;rw[ao]at hn;obtain⟨t,ts,e,hh1,hh2⟩:=ma a (hR a ha);have h3:kY (tk L (k+1)) t:=by rw[e]at h2;exact h2.1
        unfold zQ;rw[if_pos h1.1,if_pos (hh1.beg h3),hE a ha m _ _ (by omega) h2,dR,dR,h1.2.1,dQ hK.2];rfl
  . have eP:ca p=jE p:=by rw[m9,if_neg hk]
    exact(hV hk).pat hr (by rw[eP];omega) (by rw[eP];exact hS) hK
 refine⟨⟨?_,hB⟩,hE⟩
 by_cases hk:p.k=6/\p.l.length≠0
 . intro n k k' hn hS;rw[m9,if_pos hk]at hn hS;rw[Sg.cons,Sg.app]at hS;obtain⟨hs1,j,hs2,hs3,hs4⟩:=hS;cases hs4;rw[ao,aj]at hn;obtain⟨m,rfl⟩:∃m,n=m+1:=⟨n-1,by omega⟩;have h8:eM L (k+1) [41]=false:=by
    rw[hT]at hs2;unfold pf at hs2;rw[hk.1]at hs2 hd;simp only[show((6:Int)=1)=False from by simp,show((6:Int)=2)=False from by simp,show((6:Int)=3)=False from by simp,show((6:Int)=4)=False from by simp,show((6:Int)=5)=False from by simp,if_false,if_true]at hs2 hd
    by_cases hc:p.s=[58,58]
    . rw[if_pos hc]at hs2 hd
      match hpl:p.l,hd with
      | [q],hd=>
        rw[hpl]at hs2;rw[ae,decide_eq_true_eq,decide_eq_true_eq]at hd;simp only[bD,fm]at hs2;rw[tb q]at hs2;have hq:q∈p.l:=by rw[hpl];simp
        have e3:=kW q;rw[hR q hq]at e3;have e3:=e3.symm;rw[ae,gk]at e3
        match hql:q.l,hd.2 with
        | [a,b],_=>
          rw[hql]at hs2;simp only[bD,fm]at hs2;rw[Sg.app]at hs2;obtain⟨j1,h1,_⟩:=hs2;obtain⟨t,ts,e,hh,_⟩:=ma a (dp e3.1 (by rw[hql];simp));have h7:kY (tk L (k+1)) t:=by rw[e]at h1;exact h1.1
          rcases hh with h | h | h | h | h | h | h
          . exact te (ji h7 (by omega) (by omega))
          . exact te (ji h7 (by omega) (by omega))
          . exact te (ji h7 (by omega) (by omega))
          . exact te (ji h7 (by omega) (by omega))
          . subst h;exact eQ h7 (by decide)
          . subst h;exact eQ h7 (by decide)
          . subst h;exact eQ h7 (by decide)
    . rw[if_neg hc]at hs2;exact te (ack hs2.1 (by decide) (by decide))
   show hJ L (ps L m) k=_;unfold hJ;rw[if_neg (gq hs1 (by decide)),if_neg (gq hs1 (by decide)),if_neg (gq hs1 (by decide)),if_neg (gq hs1 (by decide)),dQ (eQ hs1 (by decide)),dQ (eQ hs1 (by decide)),f_ hs1,dQ h8,hB m _ _ (by simp at hn;omega) hs2 (PE.sg hs3 (by decide) (by decide) (by decide) (by decide)),dR,dQ (eQ hs3 (by decide)),f_ hs3]
 . exact hV hk) p
end
section
variable {L:List Tok}{k k' m n:Nat}{s w:List UInt8}{t:Tok}
abbrev Hu:List UInt8:=[108,101,116]
abbrev Ux:List UInt8:=[104,97,110,100,108,101]
structure WS (L:List Tok)(k:Nat):Prop where
 op:∀lv,om L lv k=false
 bg:o9 L k=false
 hn:eM L k Ux=false
def AV (s:List UInt8):Bool:=bx.all (λx=> !x.contains s)&&(!decide (s=[40])&&(!decide (s=Hu) && !decide (s=Ux)))
theorem Uy (h:bx.all (λx=> !x.contains s)=true)(lv:Nat):((bx[lv]?).getD []).contains s=false:=by
 cases hx:bx[lv]? with
 | none=>rfl
 | some x=>
   have:=aM.1 h x (ak hx);show x.contains s=false;rw[dY]at this;exact this
theorem KY (h:kY (tk L k) t)(hs:bx.all (λx=> !x.contains t.s)=true)(lv:Nat):om L lv k=false:=by
 unfold om;rw[h.2.1,Uy hs,cU]
theorem KZ (h:kY (tk L k) t)(hk:t.k=7\/t.k=6\/t.k=0)(h1:t.s≠[40])(h2:t.s≠Hu):o9 L k=false:=by
 unfold o9;rw[QV (by rw[h.1];omega)];unfold eM;rw[h.2.1,decide_eq_false h1,decide_eq_false h2,cU];rfl
theorem WS.of (h:kY (tk L k) t)(hk:t.k=7\/t.k=6\/t.k=0)(hs:AV t.s=true):WS L k:=by
 unfold AV at hs;simp only[ae,dY,decide_eq_false_iff_not]at hs;obtain⟨h1,h2,h3,h4⟩:=hs;refine⟨KY h h1,KZ h hk h2 h3,?_⟩;unfold eM;rw[h.2.1,decide_eq_false h4,cU]
theorem WS.sg (h:kY (tk L k) (ft s))(hs:AV s=true):WS L k:=WS.of h (.inl rfl) hs
theorem WS.ky (h:kY (tk L k) (gU s))(hs:AV s=true):WS L k:=WS.of h (.inr (.inl rfl)) hs
def Hv (t:Tok):Prop:=t.k=1\/t.k=2\/t.k=3\/t.k=4\/t=ft [40]\/t=gU Hu
theorem Hv.no (h:Hv t)(he:kY (tk L k) t)(h1:[40]≠w)(h2:Hu≠w):eM L k w=false:=by
 rcases h with h | h | h | h | h | h
 . exact te (ji he (by omega) (by omega))
 . exact te (ji he (by omega) (by omega))
 . exact te (ji he (by omega) (by omega))
 . exact te (ji he (by omega) (by omega))
 . subst h;exact eQ he h1
 . subst h;exact jg he h2
theorem Hv.un (h:Hv t)(he:kY (tk L k) t):unOp L k=false:=by
 unfold unOp
 rcases h with h | h | h | h | h | h
 . rw[ji he (by omega) (by omega)];rfl
 . rw[ji he (by omega) (by omega)];rfl
 . rw[ji he (by omega) (by omega)];rfl
 . rw[ji he (by omega) (by omega)];rfl
 . subst h;rw[he.2.1,show fh.contains (ft [40]).s=false by decide +kernel,cU]
 . subst h;rw[he.2.1,show fh.contains (gU Hu).s=false by decide +kernel,cU]
theorem Hv.bg (h:Hv t)(he:kY (tk L k) t):o9 L k=true:=by
 unfold o9 uo
 rcases h with h | h | h | h | h | h
 . rw[he.1,h];rfl
 . rw[he.1,h];rfl
 . rw[he.1,h];rfl
 . rw[he.1,h];rfl
 . subst h;rw[jf he];simp
 . subst h;rw[lu he];simp
theorem na (e:aO)(hr:dt e=true):fy e=e/\(∀a,a∈e.l->dt a=true)/\(∀a,a∈e.p->dN a=true)/\(∀a,a∈e.d->jt a=true)/\iC e.k e.n e.s e.l.length e.p.length e.d=true:=by
 have e0:=Dg e;rw[hr]at e0;have e1:=e0.symm;rw[ae,ae,ae,ae,nR,gk,kS]at e1;exact⟨by simpa[fo]using e1.2.1,λa ha=>dp e1.1 ha,λa ha=>dp e1.2.2.1 ha,λa ha=>dp e1.2.2.2.1 ha,e1.2.2.2.2⟩
theorem zm (e:aO)(hr:dt e=true):∃t ts,bh e=t::ts/\Hv t:=by
 rw[l_];obtain⟨_,_,_,_,hd⟩:=na e hr
 by_cases hk:ot e.k=true
 . rw[if_pos hk,gI];unfold ot at hk;simp only[bl,decide_eq_true_eq]at hk;unfold zg;unfold iC at hd
   by_cases h1:e.k=1
   . rw[if_pos h1];exact⟨_,_,rfl,by simp[Hv]⟩
   rw[if_neg h1]at hd ⊢
   by_cases h2:e.k=2\/e.k=3\/e.k=4
   . rw[if_pos h2];exact⟨_,_,rfl,by simp only[Hv];omega⟩
   rw[if_neg h2]
   by_cases h5:e.k=5
   . rw[if_pos h5];exact⟨_,_,rfl,by simp[Hv]⟩
   rw[if_neg h5]
   by_cases h13:e.k=13
   . rw[if_pos h13];exact⟨_,_,rfl,by simp[Hv]⟩
   rw[if_neg h13];have h10:e.k=10:=by omega
   rw[if_pos h10];rw[h10]at hd;simp only[show((10:Int)=2)=False from by simp,show((10:Int)=3)=False from by simp,show((10:Int)=4)=False from by simp,show((10:Int)=5)=False from by simp,show((10:Int)=13)=False from by simp,show((10:Int)=6)=False from by simp,show((10:Int)=7)=False from by simp,show((10:Int)=8)=False from by simp,show((10:Int)=9)=False from by simp,show((10:Int)=12)=False from by simp,show((10:Int)=11)=False from by simp,show((10:Int)=14)=False from by simp,show((10:Int)=15)=False from by simp,if_false,if_true,or_false,ae,decide_eq_true_eq]at hd
   match e.l,hd.2 with
   | [x],_=>exact⟨_,_,rfl,by simp[Hv]⟩
 . rw[if_neg hk];exact⟨_,_,rfl,by simp[Hv]⟩
def ExA (L:List Tok)(e:aO):Prop:=∀n k k',12*(bh e).length<=n->Sg L k (bh e) k'->(ps L n).atom k=yes e k'
def ExB (L:List Tok)(e:aO):Prop:=∀n k k',12*(fP e).length+12<=n->Sg L k (fP e) k'->WS L k'->eM L k' [124]=false->(ps L n).exp k=yes e k'
def w9 (L:List Tok)(e:aO):Prop:=ExA L e/\dt e=true
theorem w9.pos {e:aO}(h:w9 L e):1<=(bh e).length:=by
 obtain⟨t,ts,e1,_⟩:=zm e h.2;rw[e1];simp
theorem w9.hd {e:aO}(h:w9 L e)(hS:Sg L k (bh e) k'):∃t,Hv t/\kY (tk L k) t:=by
 obtain⟨t,ts,e1,h1⟩:=zm e h.2;rw[e1]at hS;exact⟨t,h1,hS.1⟩
theorem w9.un {e:aO}(h:w9 L e)(hn:12*(bh e).length+1<=n)(hS:Sg L k (bh e) k')(hb:o9 L k'=false):(ps L n).un k=yes e k':=by
 obtain⟨m,rfl⟩:∃m,n=m+1:=⟨n-1,by omega⟩;obtain⟨t,h1,h2⟩:=h.hd hS;show MN L (ps L m) k=_;unfold MN;rw[dQ (h1.un h2),h.1 m k k' (by omega) hS,dR];unfold y9;rw[dQ hb]
theorem rO {a:aO}{N k1:Nat}(hu:∀m,N<=m->(ps L m).un k=yes a k1):∀d lv,lv+d=7->(∀j,lv<=j->om L j k1=false)->∀n,N+d+1<=n->(ps L n).bin lv k=yes a k1:=by
 intro d
 induction d with
 | zero=>
   intro lv hl hj n hn;obtain⟨m,rfl⟩:∃m,n=m+1:=⟨n-1,by omega⟩;show s9 L (ps L m) lv k=_;unfold s9;rw[if_pos (by omega)];exact hu m (by omega)
 | succ d ih=>
   intro lv hl hj n hn;obtain⟨m,rfl⟩:∃m,n=m+1:=⟨n-1,by omega⟩;show s9 L (ps L m) lv k=_;unfold s9;rw[if_neg (by omega),ih (lv+1) (by omega) (λj h=>hj j (by omega)) m (by omega),dR];unfold vo;rw[dQ (hj lv (ax _))]
theorem w_ {a:aO}{k1:Nat}(h1:eM L k [105,102]=false)(h2:eM L k [99,97,115,101]=false)(h3:eM L k [102,110]=false)(h4:eM L k [114,97,105,115,101]=false)(hb:(ps L n).bin 0 k=yes a k1)(hh:eM L k1 Ux=false):(ps L (n+1)).exp k=yes a k1:=by
 show oo L (ps L n) k=_;unfold oo;rw[dQ h1,dQ h2,dQ h3,dQ h4,hb,dR,dQ hh]
theorem w9.exp {e:aO}(h:w9 L e)(hn:12*(bh e).length+10<=n)(hS:Sg L k (bh e) k')(hK:WS L k'):(ps L n).exp k=yes e k':=by
 obtain⟨m,rfl⟩:∃m,n=m+1:=⟨n-1,by omega⟩;obtain⟨t,h1,h2⟩:=h.hd hS;exact w_ (h1.no h2 (by decide) (by decide)) (h1.no h2 (by decide) (by decide)) (h1.no h2 (by decide) (by decide)) (h1.no h2 (by decide) (by decide)) (rO (N:=12*(bh e).length+1) (λm hm=>h.un hm hS hK.bg) 7 0 rfl (λj _=>hK.op j) m (by omega)) hK.hn
theorem Mz (r:List aO):∀(c x:Int) (s:List UInt8) (l:List aO) (p:List bk) (d:List bm),r.foldl aO.add (.mk c x s l p d)= .mk c x s (l++r) p d:=by
 induction r with
 | nil=>intros;simp
 | cons a r ih=>intro c x s l p d;rw[List.foldl_cons,aO.add,ih];simp
theorem MA (w:List UInt8)(hw:AV w=true)(l:List aO)(hl:∀a,a∈l->w9 L a)(acc:aO)(hn:12*(cQ (dB w bh) false l).length+10<=n)(hS:Sg L k (cQ (dB w bh) false l) k')(hK:WS L k')(hN:eM L k' w=false):(ps L n).gu w acc k=yes (l.foldl aO.add acc) k':=
 ph bh (λn=>(ps L n).exp) (λn=>(ps L n).gu w) _ w (WS L) 10 (by decide) (λn acc k=>rfl) (λk h=>WS.sg h hw) l (λa ha n k k' h1 h2 h3=>(hl a ha).exp h1 h2 h3) acc n k k' hn hS hK hN
theorem zn (hK:WS L k')(hN:eM L k' [124]=false)(c x:Int)(s:List UInt8)(d:List bm):∀(qs:List bk) (xs:List aO) (l:List aO) (p:List bk) (n k:Nat),qs.length=xs.length->0<xs.length->(∀q,q∈qs->KX L q/\dN q=true)->(∀x,x∈xs->w9 L x)->12*(gT true (qs.map ca) (xs.map bh)).length<=n->Sg L k (gT true (qs.map ca) (xs.map bh)) k'->(ps L n).uq (.mk c x s l p d) k=yes (.mk c x s (l++xs) (p++qs) d) k':=by
 intro qs
 induction qs with
 | nil=>intro xs l p n k h1 h2;rw[c_]at h1;omega
 | cons q qs ih=>
   intro xs l p n k h1 h2 hq hx hn hS
   match xs,h2 with
   | e::xs,_=>
   have eq:gT true ((q::qs).map ca) ((e::xs).map bh)=ca q++ft [61,62]::(bh e++gT false (qs.map ca) (xs.map bh)):=rfl;rw[eq]at hn hS;rw[Sg.app]at hS;obtain⟨j1,s1,s2,s3⟩:=hS;rw[Sg.app]at s3;obtain⟨j2,s3,s4⟩:=s3;rw[aj,ao,aj]at hn;have hqq:=hq q (by simp);have hee:=hx e (by simp);obtain⟨t,ts,ep,_⟩:=ma q hqq.2;have hpos:1<=(ca q).length:=by rw[ep];simp
   obtain⟨m,rfl⟩:∃m,n=m+1:=⟨n-1,by omega⟩;have hj:WS L j2:=by
    match qs,xs,s4 with
    | [],_,s4=>cases s4;exact hK
    | _::_,[],_=>simp at h1
    | _::_,_::_,s4=>exact WS.sg (show kY (tk L j2) (ft [124])from s4.1) (by decide +kernel)
   show Fv L (ps L m) _ k=_;unfold Fv;rw[hqq.1.pat hqq.2 (by omega) s1 (PE.sg s2 (by decide) (by decide) (by decide) (by decide)),dR,f_ s2,hee.exp (by omega) s3 hj,dR]
   match qs,xs,h1,s4,hn,ih with
   | [],[],_,s4,hn,_=>
     cases s4;rw[dQ hN];rfl
   | q2::qs,e2::xs,h1,s4,hn,ih=>
     have eq2:gT false ((q2::qs).map ca) ((e2::xs).map bh)=ft [124]::gT true ((q2::qs).map ca) ((e2::xs).map bh):=rfl;rw[eq2]at s4 hn;obtain⟨s5,s6⟩:=s4;rw[ao]at hn;rw[if_pos (jf s5),aO.zO,ih (e2::xs) (l++[e]) (p++[q]) m (j2+1) (by simpa using h1) (by simp) (λr hr=>hq r (by simp at hr ⊢;exact .inr hr)) (λr hr=>hx r (by simp at hr ⊢;exact .inr hr)) (by omega) s6];simp
theorem QY (s:List UInt8):za s=gU s\/za s=ft s:=(Classical.em _).elim (λh=> .inl (if_pos h)) (λh=> .inr (if_neg h))
theorem Hw (h:kY (tk L k) (za s)):o8 L k=true/\(tk L k).s=s:=by
 unfold o8;rcases QY s with q | q
 . rw[q]at h;exact⟨by rw[h.1];rfl,h.2.1⟩
 . rw[q]at h;exact⟨by rw[h.1];rfl,h.2.1⟩
theorem Uz:∀s∈lY,∃l,l<7/\(((bx[l]?).getD []).contains s=true/\(∀j,j<7->j≠l->((bx[j]?).getD []).contains s=false))/\s≠[40]/\s≠Hu:=by decide +kernel
theorem QZ:∀s∈fh,s≠[105,102]/\s≠[99,97,115,101]/\s≠[102,110]/\s≠[114,97,105,115,101]:=by decide +kernel
theorem FH (h:kY (tk L k) (za s))(hw:s≠w):eM L k w=false:=by
 unfold eM;rw[(Hw h).2,decide_eq_false hw,cU]
theorem UA {a b:aO}(ha:w9 L a)(hb:w9 L b)(hs:lY.contains s=true)(hn:12*((bh a).length+(bh b).length+1)+12<=n){j:Nat}(h1:Sg L k (bh a) j)(h2:kY (tk L j) (za s))(h3:Sg L (j+1) (bh b) k')(hK:WS L k'):(ps L n).exp k=yes (two s a b) k':=by
 obtain⟨m,rfl⟩:∃m,n=m+1:=⟨n-1,by omega⟩;obtain⟨t,ht1,ht2⟩:=ha.hd h1;obtain⟨l,hl,⟨hin,hout⟩,hs1,hs2⟩:=Uz s (by simpa using hs);obtain⟨o1,o2⟩:=Hw h2;have hbg:o9 L j=false:=by
  unfold o9 uo eM;unfold o8 at o1;rw[o2,decide_eq_false hs1,decide_eq_false hs2,cU];rw[bl,decide_eq_true_eq,decide_eq_true_eq]at o1;rw[decide_eq_false (by omega),decide_eq_false (by omega),decide_eq_false (by omega),decide_eq_false (by omega)];rfl
 have hop:∀i,om L i j=((bx[i]?).getD []).contains s:=λi=>by unfold om;rw[o1,o2,ai]
 have hno:∀i,i≠l->om L i j=false:=λi hi=>by
  rw[hop]
  by_cases h7:i<7
  . exact hout i h7 hi
  . rw[bt (by simpa[bx]using h7)];rfl
 have hua:∀m,12*(bh a).length+1<=m->(ps L m).un k=yes a j:=λm hm=>ha.un hm h1 hbg;have hub:∀m,12*(bh b).length+1<=m->(ps L m).un (j+1)=yes b k':=λm hm=>hb.un hm h3 hK.bg;have pa:=ha.pos;have pb:=hb.pos;have at_l:∀m,12*((bh a).length+(bh b).length+1)+4<=m->(ps L m).bin l k=yes (two s a b) k':=λm hm=>by
  obtain⟨m,rfl⟩:∃m',m=m'+1:=⟨m-1,by omega⟩;show s9 L (ps L m) l k=_;unfold s9;rw[if_neg (by omega),rO hua (6-l) (l+1) (by omega) (λi hi=>hno i (by omega)) m (by omega),dR];unfold vo;rw[if_pos (by rw[hop];exact hin),o2];split
  . rw[rO hub (7-l) l (by omega) (λi _=>hK.op i) m (by omega),dR]
  . rw[rO hub (6-l) (l+1) (by omega) (λi _=>hK.op i) m (by omega),dR];obtain⟨m,rfl⟩:∃m',m=m'+1:=⟨m-1,by omega⟩;show vo L (ps L m) l _ k'=_;unfold vo;rw[dQ (hK.op l)]
 have down:∀d lv,lv+d=l->∀m,12*((bh a).length+(bh b).length+1)+4+d<=m->(ps L m).bin lv k=yes (two s a b) k':=by
  intro d
  induction d with
  | zero=>
    intro lv h m hm;have:lv=l:=by omega
    subst this;exact at_l m (by omega)
  | succ d ih=>
    intro lv h m hm;obtain⟨m,rfl⟩:∃m',m=m'+1:=⟨m-1,by omega⟩;show s9 L (ps L m) lv k=_;unfold s9;rw[if_neg (by omega),ih (lv+1) (by omega) m (by omega),dR];unfold vo;rw[dQ (hK.op lv)]
 exact w_ (ht1.no ht2 (by decide) (by decide)) (ht1.no ht2 (by decide) (by decide)) (ht1.no ht2 (by decide) (by decide)) (ht1.no ht2 (by decide) (by decide)) (down l 0 (by omega) m (by omega)) hK.hn
theorem UB {a:aO}(ha:w9 L a)(hs:fh.contains s=true)(hn:12*((bh a).length+1)+12<=n)(h2:kY (tk L k) (za s))(h3:Sg L (k+1) (bh a) k')(hK:WS L k'):(ps L n).exp k=yes (.mk 15 0 s [a] [] []) k':=by
 obtain⟨m,rfl⟩:∃m,n=m+1:=⟨n-1,by omega⟩;obtain⟨o1,o2⟩:=Hw h2;obtain⟨w1,w2,w3,w4⟩:=QZ s (by simpa using hs);have hu:∀m,12*(bh a).length+2<=m->(ps L m).un k=yes (.mk 15 0 s [a] [] []) k':=λm hm=>by
  obtain⟨m,rfl⟩:∃m',m=m'+1:=⟨m-1,by omega⟩;show MN L (ps L m) k=_;unfold MN;rw[if_pos (show unOp L k=true by unfold unOp;rw[o1,o2,hs];rfl),ha.un (by omega) h3 hK.bg,dR,o2]
 exact w_ (FH h2 w1) (FH h2 w2) (FH h2 w3) (FH h2 w4) (rO hu 7 0 rfl (λi _=>hK.op i) m (by omega)) hK.hn
theorem UC {a b:aO}(ha:w9 L a)(hb:w9 L b)(hn:12*((bh a).length+(bh b).length)+12<=n){j:Nat}(h1:Sg L k (bh a) j)(h3:Sg L j (bh b) k')(hK:WS L k'):(ps L n).exp k=yes (.mk 6 0 [] [a,b] [] []) k':=by
 obtain⟨m,rfl⟩:∃m,n=m+1:=⟨n-1,by omega⟩;obtain⟨t,ht1,ht2⟩:=ha.hd h1;obtain⟨u,hu1,hu2⟩:=hb.hd h3;have pa:=ha.pos;have hu:∀m,12*((bh a).length+(bh b).length)+1<=m->(ps L m).un k=yes (.mk 6 0 [] [a,b] [] []) k':=λm hm=>by
  obtain⟨m,rfl⟩:∃m',m=m'+1:=⟨m-1,by omega⟩;show MN L (ps L m) k=_;unfold MN;rw[dQ (ht1.un ht2),ha.1 m k j (by omega) h1,dR];unfold y9;rw[if_pos (hu1.bg hu2),hb.1 m j k' (by omega) h3,dR];obtain⟨m,rfl⟩:∃m',m=m'+1:=⟨m-1,by omega⟩;show y9 L (ps L m) _ k'=_;unfold y9;rw[dQ hK.bg]
 exact w_ (ht1.no ht2 (by decide) (by decide)) (ht1.no ht2 (by decide) (by decide)) (ht1.no ht2 (by decide) (by decide)) (ht1.no ht2 (by decide) (by decide)) (rO hu 7 0 rfl (λi _=>hK.op i) m (by omega)) hK.hn
end
section
variable {L:List Tok}{k k' m n:Nat}{s w:List UInt8}{t:Tok}
def DE (L:List Tok)(k:Nat):Prop:=WS L k/\eM L k [124]=false/\CE L k
abbrev aaf:List UInt8:=[97,110,100]
theorem DE.sg (h:kY (tk L k) (ft [59])):DE L k:=⟨WS.sg h (by decide +kernel),eQ h (by decide),TE.sg h (by decide) (by decide) (by decide),eQ h (by decide)⟩
def DeB (L:List Tok)(d:bm):Prop:=(d.k=1\/d.k=2)->∀n k k',12*(iE d).length+12<=n->Sg L k (iE d) k'->DE L k'->eM L k' aaf=false->(ps L n).bind k=yes (some d) k'
theorem Q0 (ds:List bm):∀(acc:List bm) (n k:Nat),(∀d,d∈ds->DeB L d/\(d.k=1\/d.k=2))->12*((ds.map iE).flatMap λd=>d++[ft [59]]).length+2<=n->Sg L k (((ds.map iE).flatMap λd=>d++[ft [59]])++[gU [105,110]]) k'->(ps L n).vm acc k=yes (acc++ds) k':=by
 induction ds with
 | nil=>
   intro acc n k _ hn hS;obtain⟨m,rfl⟩:∃m,n=m+1:=⟨n-1,by omega⟩;obtain⟨h1,h2⟩:=hS;cases h2;show vp L (ps L m) acc k=_;unfold vp;rw[if_pos (lu h1),bf]
 | cons d ds ih=>
   intro acc n k hd hn hS;obtain⟨m,rfl⟩:∃m,n=m+1:=⟨n-1,by omega⟩;have eq:(((d::ds).map iE).flatMap λd=>d++[ft [59]])++[gU [105,110]]=iE d++ft [59]::(((ds.map iE).flatMap λd=>d++[ft [59]])++[gU [105,110]]):=by simp
   have el:(((d::ds).map iE).flatMap λd=>d++[ft [59]]).length=(iE d).length+1+((ds.map iE).flatMap λd=>d++[ft [59]]).length:=by rw[bD,fj,aj,aj];rfl
   rw[el]at hn;rw[eq,Sg.app]at hS;obtain⟨j,h1,h2,h3⟩:=hS;obtain⟨hB,hk⟩:=hd d (by simp);have hnot:eM L k [105,110]=false:=by
    rw[tc]at h1;rcases hk with q | q
    . rw[if_pos q]at h1;exact jg h1.1 (by decide)
    . rw[if_neg (by omega),if_pos q,Dt]at h1;cases hf:d.f with
      | nil=>
        rw[hf]at h1;cases h1;exact eQ h2 (by decide)
      | cons f r=>rw[hf]at h1;exact jg h1.1 (by decide)
   show vp L (ps L m) acc k=_;unfold vp;rw[dQ hnot,hB hk m k j (by omega) h1 (DE.sg h2) (eQ h2 (by decide)),dR];show(ps L m).vm (acc++[d]) (skip L [59] j)=_;unfold skip;rw[if_pos (jf h2),ih (acc++[d]) m (j+1) (λx hx=>hd x (by simp[hx])) (by omega) h3];simp
theorem rP (e:aO)(hr:dt e=true)(hs:fy e=e):(e.k=1->e= .mk 1 e.n [] [] [] [])/\(e.k=2\/e.k=3\/e.k=4->e= .mk e.k 0 e.s [] [] [])/\(e.k=5\/e.k=13\/e.k=6\/e.k=8\/e.k=11->e= .mk e.k 0 [] e.l [] [])/\(e.k=7\/e.k=9\/e.k=12->e= .mk e.k 0 [] e.l e.p [])/\(e.k=14\/e.k=15->e= .mk e.k 0 e.s e.l [] [])/\(e.k=10->e= .mk 10 0 [] e.l [] e.d):=by
 refine⟨λh=> ?_,λh=> ?_,λh=> ?_,λh=> ?_,λh=> ?_,λh=> ?_⟩
 . rw[<- hs];unfold fy;simp[h]<;>first | rfl | exact⟨rfl,rfl⟩ | exact⟨rfl,rfl,rfl⟩
 . rw[<- hs];unfold fy
   rcases h with h | h | h<;>simp[h]<;>first | rfl | exact⟨rfl,rfl⟩ | exact⟨rfl,rfl,rfl⟩
 . rw[<- hs];unfold fy
   rcases h with h | h | h | h | h<;>simp[h]<;>first | rfl | exact⟨rfl,rfl⟩ | exact⟨rfl,rfl,rfl⟩
 . rw[<- hs];unfold fy
   rcases h with h | h | h<;>simp[h]<;>first | rfl | exact⟨rfl,rfl⟩ | exact⟨rfl,rfl,rfl⟩
 . rw[<- hs];unfold fy
   rcases h with h | h<;>simp[h]<;>first | rfl | exact⟨rfl,rfl⟩ | exact⟨rfl,rfl,rfl⟩
 . rw[<- hs];unfold fy;simp[h]<;>first | rfl | exact⟨rfl,rfl⟩ | exact⟨rfl,rfl,rfl⟩
theorem DA (w:List UInt8)(hw:w=[44]\/w=[59]){a b:aO}{r:List aO}(c:Int)(hl:∀x,x∈a::b::r->w9 L x)(hn:12*(gu w ((a::b::r).map bh)).length+12<=n)(hS:Sg L k (gu w ((a::b::r).map bh)) k')(hK:WS L k')(hN:eM L k' w=false):∃j,(ps L n).exp k=yes a j/\kY (tk L j) (ft w)/\qz L (ps L n) w (.mk c 0 [] [a] [] []) j=yes (.mk c 0 [] (a::b::r) [] []) k':=by
 have hst:AV w=true:=by rcases hw with rfl | rfl<;>decide +kernel
 rw[kq]at hn hS;have eq:cQ (dB w bh) true (a::b::r)=bh a++cQ (dB w bh) false (b::r):=rfl;rw[eq]at hn hS;rw[Sg.app]at hS;obtain⟨j,h1,h2⟩:=hS;rw[aj]at hn;have h3:kY (tk L j) (ft w):=h2.1;refine⟨j,(hl a (by simp)).exp (by omega) h1 (WS.sg h3 hst),h3,?_⟩;have:=MA (n:=n+1) w hst (b::r) (λx hx=>hl x (by simp at hx ⊢;exact .inr hx)) (.mk c 0 [] [a] [] []) (by omega) h2 hK hN;rw[Mz]at this;exact this
theorem UD (e:aO)(hr:dt e=true)(hB:ExB L e)(hA:ot e.k=true->ExA L e)(hh:ot e.k=false->∀k j,Sg L k (fP e) j->eM L k [41]=false):ExA L e:=by
 cases hk:ot e.k with
 | true=>exact hA hk
 | false=>
   intro n k k' hn hS;rw[l_,hk,if_neg (by decide)]at hn hS;rw[Sg.cons,Sg.app]at hS;obtain⟨h1,j,h2,h3,h4⟩:=hS;cases h4;rw[ao,aj]at hn;obtain⟨m,rfl⟩:∃m,n=m+1:=⟨n-1,by omega⟩;show kH L (ps L m) k=_;unfold kH;rw[if_neg (gq h1 (by decide)),if_neg (gq h1 (by decide)),if_neg (gq h1 (by decide)),if_neg (gq h1 (by decide)),dQ (eQ h1 (by decide)),f_ h1,dQ (hh hk _ _ h2),hB m _ _ (by simp at hn;omega) h2 (WS.sg h3 (by decide +kernel)) (eQ h3 (by decide)),dR,dQ (eQ h3 (by decide)),dQ (eQ h3 (by decide)),f_ h3]
theorem Xd {a:aO}(ha:dt a=true){r:List Tok}{k j:Nat}(h:Sg L k (bh a++r) j):eM L k [41]=false:=by
 obtain⟨t,ts,e1,h1⟩:=zm a ha;rw[e1]at h;exact h1.no h.1 (by decide) (by decide)
def MO (L:List Tok)(e:aO):Prop:=dt e=true->(ExA L e/\ExB L e)/\∀a,a∈e.l->w9 L a
def DeQ (L:List Tok)(d:bm):Prop:=jt d=true->DeB L d/\(d.k=5->MO L d.e)
theorem acm (e:aO)(hr:dt e=true)(ihE:∀c,c∈e.l->MO L c)(ihD:∀d,d∈e.d->DeQ L d)(hk:ot e.k=true):ExA L e:=by
 intro n k k' hn hS;obtain⟨hsh,hl,hp,hdd,hd⟩:=na e hr;obtain⟨sh1,sh2,sh3,sh4,sh5,sh6⟩:=rP e hr hsh;have hE:∀a,a∈e.l->w9 L a:=λa ha=>⟨(ihE a ha (hl a ha)).1.1,hl a ha⟩;have hE2:∀q,q∈e.l->∀a,a∈q.l->w9 L a:=λq hq=>(ihE q hq (hl q hq)).2;rw[l_,if_pos hk,gI]at hn hS;unfold ot at hk;simp only[bl,decide_eq_true_eq]at hk;unfold zg at hn hS;unfold iC at hd
 by_cases h1:e.k=1
 . rw[if_pos h1]at hn hS;obtain⟨s1,s2⟩:=hS;cases s2;obtain⟨m,rfl⟩:∃m,n=m+1:=⟨n-1,by simp at hn;omega⟩;show kH L (ps L m) k=_;unfold kH;rw[if_pos s1.1,s1.2.2,<- sh1 h1]
 rw[if_neg h1]at hd hn hS
 by_cases h2:e.k=2\/e.k=3\/e.k=4
 . rw[if_pos h2]at hn hS;obtain⟨s1,s2⟩:=hS;cases s2;obtain⟨m,rfl⟩:∃m,n=m+1:=⟨n-1,by simp at hn;omega⟩;show kH L (ps L m) k=_;unfold kH;rw[s1.1,s1.2.1];have q:=sh2 h2;rcases h2 with h | h | h
   . rw[h]at q;rw[if_neg (by show ¬e.k=1;omega),if_pos h];exact congrArg (λx=>yes x (k+1)) q.symm
   . rw[h]at q;rw[if_neg (by show ¬e.k=1;omega),if_neg (by show ¬e.k=2;omega),if_pos h];exact congrArg (λx=>yes x (k+1)) q.symm
   . rw[h]at q;rw[if_neg (by show ¬e.k=1;omega),if_neg (by show ¬e.k=2;omega),if_neg (by show ¬e.k=3;omega),if_pos h];exact congrArg (λx=>yes x (k+1)) q.symm
 rw[if_neg h2]at hn hS;rw[if_neg (by omega),if_neg (by omega),if_neg (by omega)]at hd
 by_cases h5:e.k=5
 . rw[if_pos h5,kR,<- kq]at hn hS;rw[if_pos h5]at hd;rw[Sg.cons,Sg.app]at hS;obtain⟨s1,j,s2,s3,s4⟩:=hS;cases s4;rw[ao,aj]at hn;obtain⟨m,rfl⟩:∃m,n=m+1:=⟨n-1,by omega⟩;show kH L (ps L m) k=_;unfold kH;rw[if_neg (gq s1 (by decide)),if_neg (gq s1 (by decide)),if_neg (gq s1 (by decide)),if_neg (gq s1 (by decide)),dQ (eQ s1 (by decide)),f_ s1];have q:=sh3 (.inl h5);rw[h5]at q
   match hel:e.l with
   | []=>
     rw[hel]at s2 q;cases s2;rw[if_pos (jf s3),<- q]
   | [a]=>rw[hel]at hd;cases hd
   | a::b::r=>
     rw[hel]at s2 hn q hE;obtain⟨j1,g1,g2,g3⟩:=DA (n:=m) [44] (.inl rfl) 5 hE (by simp at hn ⊢;omega) s2 (WS.sg s3 (by decide +kernel)) (eQ s3 (by decide));have h41:eM L (k+1) [41]=false:=by
      rw[kq]at s2;exact Xd (r:=cQ (dB [44] bh) false (b::r)) (hE a (by simp)).2 s2
     rw[dQ h41,g1,dR,if_pos (jf g2),g3,dR,f_ s3,<- q]
 rw[if_neg h5]at hn hS hd
 by_cases h13:e.k=13
 . rw[if_pos h13,kR,<- kq]at hn hS;rw[if_pos h13,decide_eq_true_eq]at hd;rw[Sg.cons,Sg.app]at hS;obtain⟨s1,j,s2,s3,s4⟩:=hS;cases s4;rw[ao,aj]at hn;obtain⟨m,rfl⟩:∃m,n=m+1:=⟨n-1,by omega⟩;show kH L (ps L m) k=_;unfold kH;rw[if_neg (gq s1 (by decide)),if_neg (gq s1 (by decide)),if_neg (gq s1 (by decide)),if_neg (gq s1 (by decide)),dQ (eQ s1 (by decide)),f_ s1];have q:=sh3 (.inr (.inl h13));rw[h13]at q
   match hel:e.l with
   | []=>rw[hel]at hd;simp at hd
   | [a]=>rw[hel]at hd;simp at hd
   | a::b::r=>
     rw[hel]at s2 hn q hE;obtain⟨j1,g1,g2,g3⟩:=DA (n:=m) [59] (.inr rfl) 13 hE (by simp at hn ⊢;omega) s2 (WS.sg s3 (by decide +kernel)) (eQ s3 (by decide));have h41:eM L (k+1) [41]=false:=by
      rw[kq]at s2;exact Xd (r:=cQ (dB [59] bh) false (b::r)) (hE a (by simp)).2 s2
     rw[dQ h41,g1,dR,dQ (eQ g2 (by decide)),if_pos (jf g2),g3,dR,f_ s3,<- q]
 rw[if_neg h13]at hn hS hd;have h10:e.k=10:=by omega
 rw[if_pos h10]at hn hS;rw[if_neg (by omega),if_neg (by omega),if_neg (by omega),if_neg (by omega),if_neg (by omega),if_neg (by omega),if_neg (by omega),if_pos h10,ae,decide_eq_true_eq,aM]at hd;have q:=sh6 h10
 match hel:e.l,hd.2 with
 | [x],_=>
   rw[hel]at hn hS q;have hxl:x∈e.l:=by rw[hel];simp
   have hx:w9 L x:=hE x hxl;simp only[bD,fm]at hn hS;have eb:(if x.k=13 then gu [59] (lq x).2 else gS (x.k,lq x))=if x.k=13 then gu [59] (x.l.map bh)else bh x:=by
    rw[show(lq x).2=x.l.map bh by rw[w6 x]];rfl
   rw[eb]at hn hS;rw[List.append_cons]at hS;rw[ao,aj,ao,aj]at hn;obtain⟨s1,hS⟩:=hS;rw[Sg.app]at hS;obtain⟨j,s2,hS⟩:=hS;rw[Sg.app]at hS;obtain⟨j1,s3,s4,s5⟩:=hS;cases s5;obtain⟨m,rfl⟩:∃m,n=m+2:=⟨n-2,by omega⟩;show kH L (ps L (m+1)) k=_;unfold kH;rw[if_neg (gq s1 (by decide)),if_neg (gq s1 (by decide)),if_neg (gq s1 (by decide)),if_neg (gq s1 (by decide)),if_pos (lu s1)];show W7 L (ps L m) (k+1)=_;have hlet:vp L (ps L m) [] (k+1)=yes ([]++e.d) j:=Q0 (L:=L) e.d [] (m+1) _ (λd hdm=>⟨(ihD d hdm (hdd d hdm)).1,by simpa using hd.1 d hdm⟩) (by omega) s2;unfold W7;rw[hlet,dR,cj]
   by_cases hx13:x.k=13
   . rw[if_pos hx13]at hn s3;obtain⟨xsh,xl,_,_,xd⟩:=na x hx.2;have xq:=(rP x hx.2 xsh).2.2.1 (.inr (.inl hx13));rw[hx13]at xq;unfold iC at xd;rw[hx13]at xd;have hxx:=hE2 x hxl
     match hxe:x.l with
     | []=>rw[hxe]at xd;cases xd
     | [a]=>rw[hxe]at xd;cases xd
     | a::b::r=>
       rw[hxe]at s3 hn xq hxx;obtain⟨j2,g1,g2,g3⟩:=DA (n:=m) [59] (.inr rfl) 13 hxx (by simp at hn ⊢;omega) s3 (WS.ky s4 (by decide +kernel)) (jg s4 (by decide));rw[g1,dR,if_pos (jf g2),g3,dR,tg s4,<- xq,<- q]
   . rw[if_neg hx13]at hn s3;rw[hx.exp (by simp at hn;omega) s3 (WS.ky s4 (by decide +kernel)),dR,dQ (jg s4 (by decide)),tg s4,<- q]
end
section
variable {L:List Tok}{k k' m n:Nat}{s w:List UInt8}{t:Tok}
def HdX (t:Tok):Prop:=Hv t\/(∃s,fh.contains s=true/\t=za s)\/t=gU [105,102]\/t=gU [99,97,115,101]\/t=gU [102,110]\/t=gU [114,97,105,115,101]
def acn:List (List UInt8):=[[41],[118,97,108],[102,117,110],[100,97,116,97,116,121,112,101],[101,120,99,101,112,116,105,111,110]]
theorem HdX.no (h:HdX t)(he:kY (tk L k) t)(hw:w∈acn):eM L k w=false:=by
 have key:∀w∈acn,[40]≠w/\Hu≠w/\[105,102]≠w/\[99,97,115,101]≠w/\[102,110]≠w/\[114,97,105,115,101]≠w/\∀s∈fh,s≠w:=by decide +kernel
 obtain⟨k1,k2,k3,k4,k5,k6,k7⟩:=key w hw
 rcases h with h | ⟨s,hs,h⟩ | h | h | h | h
 . exact h.no he k1 k2
 . subst h;exact FH he (k7 s (by simpa using hs))
 . subst h;exact jg he k3
 . subst h;exact jg he k4
 . subst h;exact jg he k5
 . subst h;exact jg he k6
theorem HdX.nz (h:HdX t):t.k≠0:=by
 rcases h with h | ⟨s,hs,h⟩ | h | h | h | h
 . rcases h with h | h | h | h | h | h
   . omega
   . omega
   . omega
   . omega
   . subst h;decide
   . subst h;decide
 . subst h;rcases QY s with q | q
   . rw[q];show(6:Int)≠0;decide
   . rw[q];show(7:Int)≠0;decide
 . subst h;decide
 . subst h;decide
 . subst h;decide
 . subst h;decide
theorem Q2 (e:aO)(hr:dt e=true)(hE:∀a,a∈e.l->w9 L a)(hk:ot e.k=false):ExB L e/\∀k j,Sg L k (fP e) j->∃t,HdX t/\kY (tk L k) t:=by
 obtain⟨hsh,hl,hp,hdd,hd⟩:=na e hr;obtain⟨sh1,sh2,sh3,sh4,sh5,sh6⟩:=rP e hr hsh;have hP:∀q,q∈e.p->KX L q/\dN q=true:=λq hq=>⟨(zk q (hp q hq)).1.1,hp q hq⟩;unfold ot at hk;simp only[dy,decide_eq_false_iff_not]at hk;obtain⟨k1,k2,k3,k4,k5,k13,k10⟩:=hk;have hT:=gI e;unfold zg at hT;unfold iC at hd;rw[if_neg k1,if_neg (by omega),if_neg k5,if_neg k13,if_neg k10]at hT;rw[if_neg k1,if_neg k2,if_neg k3,if_neg k4,if_neg k5,if_neg k13]at hd
 by_cases h14:e.k=14
 . rw[if_pos h14]at hT;rw[if_neg (by omega),if_neg (by omega),if_neg (by omega),if_neg (by omega),if_neg (by omega),if_pos h14,ae,decide_eq_true_eq]at hd;have q:=sh5 (.inl h14)
   match hel:e.l,hd.1 with
   | [a,b],_=>
     rw[hel]at hT q hE;have eq:fP e=bh a++za e.s::bh b:=hT;refine⟨λn k k' hn hS hK hN=> ?_,λk j hS=> ?_⟩
     . rw[eq]at hn hS;rw[Sg.app]at hS;obtain⟨j,s1,s2,s3⟩:=hS;rw[aj,ao]at hn;rw[UA (hE a (by simp)) (hE b (by simp)) hd.2 (by omega) s1 s2 s3 hK];rw[h14]at q;exact congrArg (λx=>yes x k') q.symm
     . rw[eq]at hS;rw[Sg.app]at hS;obtain⟨j,s1,s2,s3⟩:=hS;obtain⟨t,t1,t2⟩:=(hE a (by simp)).hd s1;exact⟨t,.inl t1,t2⟩
 rw[if_neg h14]at hT
 by_cases h15:e.k=15
 . rw[if_pos h15]at hT;rw[if_neg (by omega),if_neg (by omega),if_neg (by omega),if_neg (by omega),if_neg (by omega),if_neg h14,if_pos h15,ae,decide_eq_true_eq]at hd;have q:=sh5 (.inr h15)
   match hel:e.l,hd.1 with
   | [a],_=>
     rw[hel]at hT q hE;have eq:fP e=za e.s::bh a:=hT;refine⟨λn k k' hn hS hK hN=> ?_,λk j hS=> ?_⟩
     . rw[eq]at hn hS;obtain⟨s1,s2⟩:=hS;rw[ao]at hn;rw[UB (hE a (by simp)) hd.2 (by omega) s1 s2 hK];rw[h15]at q;exact congrArg (λx=>yes x k') q.symm
     . rw[eq]at hS;exact⟨_,.inr (.inl ⟨e.s,hd.2,rfl⟩),hS.1⟩
 rw[if_neg h15]at hT
 by_cases h6:e.k=6
 . rw[if_pos h6]at hT;rw[if_pos h6,decide_eq_true_eq]at hd;have q:=sh3 (.inr (.inr (.inl h6)))
   match hel:e.l,hd with
   | [a,b],_=>
     rw[hel]at hT q hE;have eq:fP e=bh a++(bh b++[]):=hT;rw[bf]at eq;refine⟨λn k k' hn hS hK hN=> ?_,λk j hS=> ?_⟩
     . rw[eq]at hn hS;rw[Sg.app]at hS;obtain⟨j,s1,s2⟩:=hS;rw[aj]at hn;rw[UC (hE a (by simp)) (hE b (by simp)) (by omega) s1 s2 hK];rw[h6]at q;exact congrArg (λx=>yes x k') q.symm
     . rw[eq]at hS;rw[Sg.app]at hS;obtain⟨j,s1,s2⟩:=hS;obtain⟨t,t1,t2⟩:=(hE a (by simp)).hd s1;exact⟨t,.inl t1,t2⟩
 rw[if_neg h6]at hT hd
 by_cases h8:e.k=8
 . rw[if_pos h8]at hT;rw[if_neg (by omega),if_pos h8,decide_eq_true_eq]at hd;have q:=sh3 (.inr (.inr (.inr (.inl h8))))
   match hel:e.l,hd with
   | [a,b,c],_=>
     rw[hel]at hT q hE;have eq:fP e=gU [105,102]::(bh a++gU [116,104,101,110]::(bh b++gU [101,108,115,101]::bh c)):=hT;refine⟨λn k k' hn hS hK hN=> ?_,λk j hS=> ?_⟩
     . rw[eq]at hn hS;obtain⟨s0,hS⟩:=hS;rw[Sg.app]at hS;obtain⟨j,s1,s2,hS⟩:=hS;rw[Sg.app]at hS;obtain⟨j2,s3,s4,s5⟩:=hS;simp only[aj,ao]at hn;obtain⟨m,rfl⟩:∃m,n=m+1:=⟨n-1,by omega⟩;show oo L (ps L m) k=_;unfold oo;rw[if_pos (lu s0),(hE a (by simp)).exp (by omega) s1 (WS.ky s2 (by decide +kernel)),dR,tg s2,(hE b (by simp)).exp (by omega) s3 (WS.ky s4 (by decide +kernel)),dR,tg s4,(hE c (by simp)).exp (by omega) s5 hK,dR];rw[h8]at q;exact congrArg (λx=>yes x k') q.symm
     . rw[eq]at hS;exact⟨_,.inr (.inr (.inl rfl)),hS.1⟩
 rw[if_neg h8]at hT
 by_cases h11:e.k=11
 . rw[if_pos h11,kR,<- kq]at hT;rw[if_neg (by omega),if_neg h8,if_neg (by omega),if_pos h11,decide_eq_true_eq]at hd;have q:=sh3 (.inr (.inr (.inr (.inr h11))))
   match hel:e.l,hd with
   | [a],_=>
     rw[hel]at hT q hE;have eq:fP e=gU [114,97,105,115,101]::(bh a++[]):=hT;rw[bf]at eq;refine⟨λn k k' hn hS hK hN=> ?_,λk j hS=> ?_⟩
     . rw[eq]at hn hS;obtain⟨s0,s1⟩:=hS;rw[ao]at hn;obtain⟨m,rfl⟩:∃m,n=m+1:=⟨n-1,by omega⟩;show oo L (ps L m) k=_;unfold oo;rw[dQ (jg s0 (by decide)),dQ (jg s0 (by decide)),dQ (jg s0 (by decide)),if_pos (lu s0),(hE a (by simp)).exp (by omega) s1 hK,dR];rw[h11]at q;exact congrArg (λx=>yes x k') q.symm
     . rw[eq]at hS;exact⟨_,.inr (.inr (.inr (.inr (.inr rfl)))),hS.1⟩
 rw[if_neg h11]at hT
 by_cases h7:e.k=7
 . rw[if_pos h7,dC]at hT;rw[if_pos h7,ae,decide_eq_true_eq,decide_eq_true_eq]at hd;have q:=sh4 (.inl h7);have eq:fP e=gU [102,110]::gT true (e.p.map ca) (e.l.map bh):=hT;refine⟨λn k k' hn hS hK hN=> ?_,λk j hS=> ?_⟩
   . rw[eq]at hn hS;obtain⟨s0,s1⟩:=hS;rw[ao]at hn;obtain⟨m,rfl⟩:∃m,n=m+1:=⟨n-1,by omega⟩;show oo L (ps L m) k=_;unfold oo;rw[dQ (jg s0 (by decide)),dQ (jg s0 (by decide)),if_pos (lu s0),zn hK hN 7 0 [] [] e.p e.l [] [] m (k+1) hd.2 hd.1 hP hE (by omega) s1,cj,cj];rw[h7]at q;exact congrArg (λx=>yes x k') q.symm
   . rw[eq]at hS;exact⟨_,.inr (.inr (.inr (.inr (.inl rfl)))),hS.1⟩
 rw[if_neg h7]at hT hd;rw[if_neg h8]at hd
 by_cases h9:e.k=9
 . rw[if_pos h9]at hT;rw[if_pos (.inl h9),ae,decide_eq_true_eq,decide_eq_true_eq]at hd;have q:=sh4 (.inr (.inl h9))
   match hel:e.l,hd with
   | a::r,hd=>
     rw[hel]at hT q hE;simp only[bD,dC]at hT;have eq:fP e=gU [99,97,115,101]::(bh a++gU [111,102]::gT true (e.p.map ca) (r.map bh)):=hT;rw[ao]at hd;refine⟨λn k k' hn hS hK hN=> ?_,λk j hS=> ?_⟩
     . rw[eq]at hn hS;obtain⟨s0,hS⟩:=hS;rw[Sg.app]at hS;obtain⟨j,s1,s2,s3⟩:=hS;rw[ao,aj,ao]at hn;obtain⟨m,rfl⟩:∃m,n=m+1:=⟨n-1,by omega⟩;show oo L (ps L m) k=_;unfold oo;rw[dQ (jg s0 (by decide)),if_pos (lu s0),(hE a (by simp)).exp (by omega) s1 (WS.ky s2 (by decide +kernel)),dR,tg s2,zn hK hN 9 0 [] [] e.p r [a] [] m (j+1) (by omega) (by omega) hP (λx hx=>hE x (by simp[hx])) (by omega) s3,cj];rw[h9]at q;exact congrArg (λx=>yes x k') q.symm
     . rw[eq]at hS;exact⟨_,.inr (.inr (.inr (.inl rfl))),hS.1⟩
 rw[if_neg h9]at hT
 by_cases h12:e.k=12
 . rw[if_pos h12]at hT;rw[if_pos (.inr h12),ae,decide_eq_true_eq,decide_eq_true_eq]at hd;have q:=sh4 (.inr (.inr h12))
   match hel:e.l,hd with
   | a::r,hd=>
     rw[hel]at hT q hE;simp only[bD,dC]at hT;have eq:fP e=bh a++gU Ux::gT true (e.p.map ca) (r.map bh):=hT;rw[ao]at hd;have ha:=hE a (by simp);refine⟨λn k k' hn hS hK hN=> ?_,λk j hS=> ?_⟩
     . rw[eq]at hn hS;rw[Sg.app]at hS;obtain⟨j,s1,s2,s3⟩:=hS;rw[aj,ao]at hn;obtain⟨m,rfl⟩:∃m,n=m+1:=⟨n-1,by omega⟩;obtain⟨t,h1,h2⟩:=ha.hd s1;have hbg:o9 L j=false:=KZ s2 (.inr (.inl rfl)) (by decide) (by decide);show oo L (ps L m) k=_;unfold oo;rw[dQ (h1.no h2 (by decide) (by decide)),dQ (h1.no h2 (by decide) (by decide)),dQ (h1.no h2 (by decide) (by decide)),dQ (h1.no h2 (by decide) (by decide)),rO (N:=12*(bh a).length+1) (λm hm=>ha.un hm s1 hbg) 7 0 rfl (λi _=>KY s2 (by decide +kernel) i) m (by omega),dR,if_pos (lu s2),zn hK hN 12 0 [] [] e.p r [a] [] m (j+1) (by omega) (by omega) hP (λx hx=>hE x (by simp[hx])) (by omega) s3,cj];rw[h12]at q;exact congrArg (λx=>yes x k') q.symm
     . rw[eq]at hS;rw[Sg.app]at hS;obtain⟨j,s1,s2,s3⟩:=hS;obtain⟨t,t1,t2⟩:=ha.hd s1;exact⟨t,.inl t1,t2⟩
 rw[if_neg (by omega),if_neg h11,if_neg h14,if_neg h15,if_neg k10]at hd;cases hd
theorem K0 (e:aO)(ihE:∀c,c∈e.l->MO L c)(ihD:∀d,d∈e.d->DeQ L d):MO L e:=λhr=>by
 obtain⟨hsh,hl,hp,hdd,hd⟩:=na e hr;have hE:∀a,a∈e.l->w9 L a:=λa ha=>⟨(ihE a ha (hl a ha)).1.1,hl a ha⟩;have hA:ot e.k=true->ExA L e:=acm e hr ihE ihD;cases hk:ot e.k with
 | true=>
   have ha:=hA hk;have eP:bh e=fP e:=by rw[l_,if_pos hk]
   exact⟨⟨ha,λn k k' hn hS hK hN=>w9.exp ⟨ha,hr⟩ (by rw[eP];omega) (by rw[eP];exact hS) hK⟩,hE⟩
 | false=>
   obtain⟨hB,hh⟩:=Q2 e hr hE hk;refine⟨⟨UD e hr hB hA λ_ k j hS=> ?_,hB⟩,hE⟩;obtain⟨t,h1,h2⟩:=hh k j hS;exact h1.no h2 (by decide)
theorem aco (e:aO)(hr:dt e=true)(h:MO L e){k j:Nat}(hS:Sg L k (fP e) j):∃t,HdX t/\kY (tk L k) t:=by
 cases hk:ot e.k with
 | true=>
   have eP:bh e=fP e:=by rw[l_,if_pos hk]
   obtain⟨t,h1,h2⟩:=w9.hd (e:=e) (L:=L) ⟨(h hr).1.1,hr⟩ (by rw[eP];exact hS);exact⟨t,.inl h1,h2⟩
 | false=>exact(Q2 e hr (h hr).2 hk).2 k j hS
theorem Q3 (l:List bk)(hl:∀a,a∈l->KX L a/\dN a=true):∀(acc:List bk) (n k:Nat),12*(l.flatMap ca).length+1<=n->Sg L k (l.flatMap ca) k'->qy L k'=false->(ps L n).MM acc k=yes (acc++l) k':=by
 induction l with
 | nil=>
   intro acc n k hn hS hN;obtain⟨m,rfl⟩:∃m,n=m+1:=⟨n-1,by omega⟩;cases hS;show vr L (ps L m) acc _=_;unfold vr;rw[dQ hN,bf]
 | cons a l ih=>
   intro acc n k hn hS hN;obtain⟨m,rfl⟩:∃m,n=m+1:=⟨n-1,by omega⟩;rw[fj,Sg.app]at hS;obtain⟨j,s1,s2⟩:=hS;rw[fj,aj]at hn;obtain⟨t,ts,e,h1,_⟩:=ma a (hl a (by simp)).2;have h2:kY (tk L k) t:=by rw[e]at s1;exact s1.1
   have h3:1<=(ca a).length:=by rw[e];simp
   show vr L (ps L m) acc k=_;unfold vr;rw[if_pos (h1.beg h2),(hl a (by simp)).1 m k j (by omega) s1,dR,ih (λx hx=>hl x (by simp[hx])) (acc++[a]) m j (by omega) s2 hN];simp
theorem K1 (f:Fn)(hr:RS f=true)(hb:ExB L f.b)(hn:12*(Xa f).length+12<=n)(hS:Sg L k (Xa f) k')(hK:WS L k')(hN:eM L k' [124]=false):(ps L n).fn k=yes f k':=by
 rw[y7,ae,ae,ae,decide_eq_true_eq,gk]at hr;obtain⟨_,hl0,hR,_⟩:=hr;rw[Hl]at hn hS;obtain⟨s,l,b⟩:=f
 match l,hl0 with
 | q::l,_=>
 have hP:∀x,x∈q::l->KX L x/\dN x=true:=λx hx=>⟨(zk x (dp hR hx)).1.1,dp hR hx⟩;obtain⟨s1,hS⟩:=hS;rw[Sg.app]at hS;obtain⟨j,s2,s3,s4⟩:=hS;have eq:(Fn.mk s (q::l) b).p.flatMap ca=ca q++l.flatMap ca:=rfl;rw[eq,Sg.app]at s2;obtain⟨j1,s5,s6⟩:=s2;rw[eq,ao,aj,aj,ao]at hn;obtain⟨m,rfl⟩:∃m,n=m+1:=⟨n-1,by omega⟩;show W8 L (ps L m) k=_;unfold W8;have hp:vr L (ps L m) [q] j1=yes ([q]++l) j:=Q3 l (λx hx=>hP x (by simp[hx])) [q] (m+1) _ (by omega) s6 (Dz s3 (by decide) (by decide) (by decide));rw[rN s1.1,(hP q (by simp)).1 m _ _ (by omega) s5,dR,hp,dR,f_ s3,hb m _ _ (by show 12*(fP b).length+12<=m;have:(fP (Fn.mk s (q::l) b).b)=fP b:=rfl;rw[this]at hn;omega) s4 hK hN,dR,s1.2.1];rfl
theorem MB (l:List Fn)(hl:∀f,f∈l->RS f=true/\ExB L f.b)(hK:WS L k')(hN:eM L k' [124]=false)(hA:eM L k' aaf=false):∀(acc:List Fn) (n k:Nat),12*(qB false l).length+1<=n->Sg L k (qB false l) k'->(ps L n).vn acc k=yes (acc++l) k':=by
 induction l with
 | nil=>
   intro acc n k hn hS;obtain⟨m,rfl⟩:∃m,n=m+1:=⟨n-1,by omega⟩;rw[qB]at hS;cases hS;show vq L (ps L m) acc _=_;unfold vq;rw[dQ hA,bf]
 | cons f l ih=>
   intro acc n k hn hS;obtain⟨m,rfl⟩:∃m,n=m+1:=⟨n-1,by omega⟩;rw[qB,if_neg (by decide)]at hn hS;obtain⟨s1,hS⟩:=hS;rw[Sg.app]at hS;obtain⟨j,s2,s3⟩:=hS;rw[ao,aj]at hn;have hj:WS L j/\eM L j [124]=false:=by
    cases l with
    | nil=>rw[qB]at s3;cases s3;exact⟨hK,hN⟩
    | cons g l=>
      rw[qB,if_neg (by decide)]at s3;exact⟨WS.ky s3.1 (by decide +kernel),jg s3.1 (by decide)⟩
   show vq L (ps L m) acc k=_;unfold vq;rw[if_pos (lu s1),K1 f (hl f (by simp)).1 (hl f (by simp)).2 (by omega) s2 hj.1 hj.2,dR,ih (λx hx=>hl x (by simp[hx])) (acc++[f]) m j (by omega) s3];simp
theorem UE (d:bm)(hr:jt d=true)(ihE:MO L d.e)(ihF:∀f,f∈d.f->MO L f.b):DeB L d:=λhk n k k' hn hS hK hA=>by
 have e0:=sW d;rw[hr]at e0;rw[tc]at hn hS;obtain⟨m,rfl⟩:∃m,n=m+1:=⟨n-1,by omega⟩;show qU L (ps L m) k=_;unfold qU;rcases hk with h1 | h2
 . rw[if_pos h1]at e0 hn hS;have e1:=e0.symm;rw[ae,ae]at e1;obtain⟨s0,hS⟩:=hS;rw[Sg.app]at hS;obtain⟨j,s1,s2,s3⟩:=hS;rw[ao,aj,ao]at hn;rw[if_pos (lu s0),(zk d.p e1.2.1).1.2 m _ _ (by omega) s1 (PE.sg s2 (by decide) (by decide) (by decide) (by decide)),dR,f_ s2,(ihE e1.2.2).1.2 m _ _ (by omega) s3 hK.1 hK.2.1,dR];have q:eJ d=d:=by simpa[fo]using e1.1
   have q2:d= .mk 1 d.p d.e [] mB rJ:=by
    conv=>lhs;rw[<- q]
    unfold eJ;simp[h1]
   exact congrArg (λx=>yes (some x) k') q2.symm
 . rw[if_neg (by omega)]at e0 hn hS;rw[if_pos h2]at hn hS;rw[if_neg (by omega),if_pos h2]at e0;have e1:=e0.symm;rw[ae,ae,decide_eq_true_eq,ux]at e1;obtain⟨hfr,hf0,hq⟩:=e1;have q:eJ d=d:=by simpa[fo]using hq
   have q2:d= .mk 2 rI sZ d.f mB rJ:=by
    conv=>lhs;rw[<- q]
    unfold eJ;simp[h2]
   match hdf:d.f,hf0 with
   | f::l,_=>
     rw[hdf]at hn hS q2 hfr;rw[qB,if_pos rfl]at hn hS;obtain⟨s0,hS⟩:=hS;rw[Sg.app]at hS;obtain⟨j,s1,s2⟩:=hS;rw[ao,aj]at hn;have hF:∀x,x∈f::l->RS x=true/\ExB L x.b:=λx hx=>by
      have hx1:=dp hfr hx;have hx2:=hx1;rw[y7,ae,ae,ae]at hx2;exact⟨hx1,(ihF x (by rw[hdf];exact hx) hx2.2.2.2).1.2⟩
     have hj:WS L j/\eM L j [124]=false:=by
      cases l with
      | nil=>rw[qB]at s2;cases s2;exact⟨hK.1,hK.2.1⟩
      | cons g l=>
        rw[qB,if_neg (by decide)]at s2;exact⟨WS.ky s2.1 (by decide +kernel),jg s2.1 (by decide)⟩
     have hp:vq L (ps L m) [f] j=yes ([f]++l) k':=MB l (λx hx=>hF x (by simp[hx])) hK.1 hK.2.1 hA [f] (m+1) _ (by omega) s2;rw[dQ (jg s0 (by decide)),if_pos (lu s0),K1 f (hF f (by simp)).1 (hF f (by simp)).2 (by omega) s1 hj.1 hj.2,dR,hp,dR];exact congrArg (λx=>yes (some x) k') q2.symm
theorem K2 (d:bm)(ihE:MO L d.e)(ihF:∀f,f∈d.f->MO L f.b):DeQ L d:=λhr=>⟨UE d hr ihE ihF,λ_=>ihE⟩
theorem exq (L:List Tok)(e:aO):MO L e:=aO.ind (p:=MO L) (q:=DeQ L) K0 K2 e
theorem deq (L:List Tok)(d:bm):DeQ L d:=bm.ind (p:=MO L) (q:=DeQ L) K0 K2 d
theorem Q4 (d:bm)(hr:jt d=true)(hn:12*(iE d).length+14<=n)(hS:Sg L k (iE d) k')(hK:DE L k')(hA:eM L k' aaf=false):(tk L k).k≠0/\((d.k≠5/\(ps L n).dec k=yes (some d) k')\/(d=Mh d.e/\(ps L n).dec k=yes none k/\(ps L n).exp k=yes d.e k')):=by
 obtain⟨m,rfl⟩:∃m,n=m+1:=⟨n-1,by omega⟩;have hB:=(deq L d hr).1;have e0:=sW d;rw[hr]at e0;have eT:=tc d
 by_cases h1:d.k=1
 . rw[if_pos h1]at eT;have s0:kY (tk L k) (gU [118,97,108]):=by rw[eT]at hS;exact hS.1
   refine⟨by rw[s0.1];decide,.inl ⟨by omega,?_⟩⟩;show qA L (ps L m) k=_;unfold qA;rw[dQ (jg s0 (by decide)),dQ (jg s0 (by decide))];exact hB (.inl h1) m k k' (by omega) hS hK hA
 rw[if_neg h1]at eT e0
 by_cases h2:d.k=2
 . rw[if_pos h2]at eT;rw[if_neg (by omega),if_pos h2]at e0;have e1:=e0.symm;rw[ae,ae,decide_eq_true_eq]at e1;have s0:kY (tk L k) (gU [102,117,110]):=by
    rw[eT]at hS
    match hdf:d.f,e1.2.1 with
    | f::l,_=>rw[hdf,qB,if_pos rfl]at hS;exact hS.1
   refine⟨by rw[s0.1];decide,.inl ⟨by omega,?_⟩⟩;show qA L (ps L m) k=_;unfold qA;rw[dQ (jg s0 (by decide)),dQ (jg s0 (by decide))];exact hB (.inr h2) m k k' (by omega) hS hK hA
 rw[if_neg h2]at eT;have shape:fo (eJ d) d=true->eJ d=d:=λh=>by simpa[fo]using h
 by_cases h5:d.k=5
 . rw[if_pos h5]at e0;rw[if_neg (by omega),if_neg (by omega),if_pos h5]at eT;have e1:=e0.symm;rw[ae]at e1;have q:=shape e1.1;have q2:d=Mh d.e:=by
    conv=>lhs;rw[<- q]
    unfold eJ;simp[h5]
   rw[eT]at hS hn;have hQ:=exq L d.e;obtain⟨t,t1,t2⟩:=aco d.e e1.2 hQ hS;refine⟨by rw[t2.1];exact t1.nz,.inr ⟨q2,?_,(hQ e1.2).1.2 _ _ _ (by omega) hS hK.1 hK.2.1⟩⟩;show qA L (ps L m) k=_;obtain⟨m,rfl⟩:∃m',m=m'+1:=⟨m-1,by omega⟩;unfold qA;rw[dQ (t1.no t2 (by decide)),dQ (t1.no t2 (by decide))];show qU L (ps L m) k=_;unfold qU;rw[dQ (t1.no t2 (by decide)),dQ (t1.no t2 (by decide))]
 rw[if_neg h5,if_neg h2]at e0
 by_cases h3:d.k=3
 . rw[if_pos h3]at eT e0;have e1:=e0.symm;rw[ae,ae,ae,ae]at e1;have hx:mD d.x=true:=by
    unfold mD;rw[e1.1,e1.2.1,e1.2.2.1,e1.2.2.2.1];rfl
   have q:=shape e1.2.2.2.2;have q2:d= .mk 3 rI sZ [] d.x rJ:=by
    conv=>lhs;rw[<- q]
    unfold eJ;simp[h3]
   rw[eT]at hS hn;have hS2:kY (tk L k) (gU [100,97,116,97,116,121,112,101])/\Sg L (k+1) (m_ d.x).tail k':=by
    unfold m_ at hS ⊢;exact hS
   refine⟨by rw[hS2.1.1];decide,.inl ⟨h5,?_⟩⟩;show qA L (ps L m) k=_;unfold qA;rw[if_pos (lu hS2.1),Mx d.x hx (by omega) hS2.2 hK.2.2 hK.2.1,dR];exact congrArg (λx=>yes (some x) k') q2.symm
 rw[if_neg h3]at eT e0
 by_cases h4:d.k=4
 . rw[if_pos h4]at eT e0;have e1:=e0.symm;rw[ae]at e1;have q:=shape e1.2;have q2:d= .mk 4 rI sZ [] mB d.c:=by
    conv=>lhs;rw[<- q]
    unfold eJ;simp[h4]
   rw[eT]at hS hn;obtain⟨s0,s1⟩:=hS;rw[ao]at hn;refine⟨by rw[s0.1];decide,.inl ⟨h5,?_⟩⟩;show qA L (ps L m) k=_;unfold qA;rw[dQ (jg s0 (by decide)),if_pos (lu s0),zj d.c e1.1 (by omega) s1 hK.2.2.1 hK.2.2.2,dR];exact congrArg (λx=>yes (some x) k') q2.symm
 . rw[if_neg h4]at e0;cases e0
theorem Hx (l:List bm):∀(acc:List bm) (n k:Nat),(∀d,d∈l->jt d=true)->12*(ib l).length+20<=n->Sg L k (ib l) k'->(tk L k').k=0->(ps L n).iD acc k=yes (acc++l) k':=by
 induction l with
 | nil=>
   intro acc n k _ hn hS hz;obtain⟨m,rfl⟩:∃m,n=m+1:=⟨n-1,by omega⟩;cases hS;show qV L (ps L m) acc _=_;unfold qV;rw[if_pos hz,bf]
 | cons d l ih=>
   intro acc n k hr hn hS hz;obtain⟨m,rfl⟩:∃m,n=m+1:=⟨n-1,by omega⟩;have eq:ib (d::l)=iE d++ft [59]::ib l:=by unfold ib;simp
   rw[eq]at hn hS;rw[Sg.app]at hS;obtain⟨j,s1,s2,s3⟩:=hS;rw[aj,ao]at hn;obtain⟨h0,h⟩:=Q4 d (hr d (by simp)) (n:=m) (by omega) s1 (DE.sg s2) (eQ s2 (by decide));show qV L (ps L m) acc k=_;unfold qV;have hsk:skip L [59] j=j+1:=by unfold skip;rw[if_pos (jf s2)]
   rw[if_neg h0]
   rcases h with⟨h5,h⟩ | ⟨q,h,h2⟩
   . rw[h,dR];show(ps L m).iD (acc++[d]) (skip L [59] j)=_;rw[hsk,ih (acc++[d]) m (j+1) (λx hx=>hr x (by simp[hx])) (by omega) s3 hz];simp
   . rw[h,dR];show(bd ((ps L m).exp k) λe k=>(ps L m).iD (acc++[Mh e]) (skip L [59] k))=_;rw[h2,dR,<- q,hsk,ih (acc++[d]) m (j+1) (λx hx=>hr x (by simp[hx])) (by omega) s3 hz];simp
end
section
variable {nx0 nx:Nat}{H0 H:T OB}{R:Go.Ev.Out->T OB->Nat->Prop}
def zo:List Tok->List UInt8
 | []=>[]
 | [t]=>ck t
 | t::ts=>ck t++32::zo ts
theorem tj {t:Tok}{ts:List Tok}(h:ts≠[]):zo (t::ts)=ck t++32::zo ts:=by
 cases ts with
 | nil=>exact absurd rfl h
 | cons a l=>rfl
theorem UF (ts:List Tok):(zo ts).length<=tw ts:=by
 induction ts with
 | nil=>simp[zo,tw]
 | cons t ts ih=>
   cases ts with
   | nil=>simp[zo,tw]
   | cons u ts=>rw[tj (by simp),aj,ao,tw];omega
theorem Q5 (n:Int):uh n≠[]:=by
 intro h;have:=(yY n.natAbs n.natAbs [] (eh (Nat.lt_pow_self (by omega)) (Nat.pow_le_pow_right (by omega) (by omega)))).2;unfold uh at h;split at h
 . cases h
 . rw[h]at this;simp at this
theorem UG {t:Tok}(h:rM t):ck t≠[]:=by
 unfold ck;obtain⟨h1,h2,_,_⟩:=h;split
 . exact Q5 _
 . split
   . simp[quote]
   . rename_i h3 h4;intro hs;unfold cP at h1;rw[if_neg h2,if_neg h3,if_neg h4]at h1;split at h1
     . rw[hs]at h1;have:bB.contains ([]:List UInt8)=false:=by decide +kernel
       rw[this,cU]at h1;cases h1
     . split at h1
       . rw[hs]at h1;cases h1
       . split at h1
         . rw[hs]at h1;cases h1
         . cases h1
theorem aag {ts:List Tok}(hg:∀t,t∈ts->rM t):∀{out:List UInt8},out≠[]->ts≠[]->pr out ts=out++32::zo ts:=by
 induction ts with
 | nil=>intro out _ h;exact absurd rfl h
 | cons t ts ih=>
   intro out ho _;rw[pr,if_neg ho];cases ts with
   | nil=>simp[pr,zo]
   | cons u ts=>
     rw[ih (λx hx=>hg x (by simp[hx])) (by simp) (by simp),tj (t:=t) (ts:=u::ts) (by simp)];simp
theorem aah {ts:List Tok}(hg:∀t,t∈ts->rM t):pr [] ts=zo ts:=by
 cases ts with
 | nil=>rfl
 | cons t ts=>
   rw[pr,if_pos rfl,cj];cases ts with
   | nil=>rfl
   | cons u ts=>rw[aag (λx hx=>hg x (by simp[hx])) (UG (hg t (by simp))) (by simp),tj (t:=t) (ts:=u::ts) (by simp)]
theorem ae2 {n:Nat}(h:n<=1048576):da P 9 1 n=true:=by
 have:da P 9 1 n=(bj n 1048576&&true):=by kernel_rfl
 rw[this,av h];rfl
theorem ae3 (a:ByteArray):Instr.fill (λi=>some (i*1,1)) (cI [Value.string ⟨⟨[]⟩⟩] (1*1)) [(0,.string a)]=some ⟨[.string a]⟩:=by kernel_rfl
end
section
variable {nx0 nx nx' bp k:Nat}{H0 H H':T OB}{F A B G G':List Bx}{s:Bx}{R:Go.Ev.Out->T OB->Nat->Prop}{b:Nat}{l:List Value}{e t:TypeId}{L:List Tok}
abbrev a_:Value:= .slice none 0 0
abbrev mO (b n c:Nat):Value:= .slice (some ⟨b,0,none⟩) n c
theorem UH (c0 c1 c2 c3 c4 c5:Value)(z:List Value)(hz:dD P 44=some z):Instr.fill (λi=>some (i*6,6)) (cI z (1*6)) [(0,.agg ⟨[c0,c1,c2,c3,c4,c5]⟩)]=some ⟨[c0,c1,c2,c3,c4,c5]⟩:=by
 rw[de]at hz;cases hz;kernel_rfl
theorem Hq.kr (cs:List Value)(hc:cs.length=6){kt:Value->T OB->Nat->Q}(h:Hp nx0 H0 (s::F) H nx)(hk:∀b H' nx',Hp nx0 H0 (s::(b,cs,44)::F) H' nx'->bA P pl X0 (kt (mO b 1 1) H' nx') nx0 H0 R):bA P pl X0 (bU (bC P H nx 41 1 (some [(0,.agg ⟨cs⟩)])) kt) nx0 H0 R:=
 match cs,hc with
 | [c0,c1,c2,c3,c4,c5],_=>Hq.row jU dE de rfl (UH _ _ _ _ _ _ _ de) h hk
theorem UI (c0 c1 c2 c3 c4 c5 d0 d1 d2 d3 d4 d5:Value)(z:List Value)(hz:dD P 44=some z):Instr.fill (λi=>some (i*6,6)) (cI z (2*6)) [(0,.agg ⟨[c0,c1,c2,c3,c4,c5]⟩),(1,.agg ⟨[d0,d1,d2,d3,d4,d5]⟩)]=some ⟨[c0,c1,c2,c3,c4,c5,d0,d1,d2,d3,d4,d5]⟩:=by
 rw[de]at hz;cases hz;kernel_rfl
theorem Hq.DB (cs ds:List Value)(hc:cs.length=6)(hd:ds.length=6){kt:Value->T OB->Nat->Q}(h:Hp nx0 H0 (s::F) H nx)(hk:∀b H' nx',Hp nx0 H0 (s::(b,cs++ds,44)::F) H' nx'->bA P pl X0 (kt (mO b 2 2) H' nx') nx0 H0 R):bA P pl X0 (bU (bC P H nx 41 2 (some [(0,.agg ⟨cs⟩),(1,.agg ⟨ds⟩)])) kt) nx0 H0 R:=
 match cs,hc,ds,hd with
 | [c0,c1,c2,c3,c4,c5],_,[d0,d1,d2,d3,d4,d5],_=>Hq.row jU dE de rfl (UI _ _ _ _ _ _ _ _ _ _ _ _ _ de) h hk
theorem UJ (c0 c1 c2 c3 c4 c5 d0 d1 d2 d3 d4 d5 f0 f1 f2 f3 f4 f5:Value)(z:List Value)(hz:dD P 44=some z):Instr.fill (λi=>some (i*6,6)) (cI z (3*6)) [(0,.agg ⟨[c0,c1,c2,c3,c4,c5]⟩),(1,.agg ⟨[d0,d1,d2,d3,d4,d5]⟩),(2,.agg ⟨[f0,f1,f2,f3,f4,f5]⟩)]=some ⟨[c0,c1,c2,c3,c4,c5,d0,d1,d2,d3,d4,d5,f0,f1,f2,f3,f4,f5]⟩:=by
 rw[de]at hz;cases hz;kernel_rfl
theorem Hq.UK (cs ds fs:List Value)(hc:cs.length=6)(hd:ds.length=6)(hf:fs.length=6){kt:Value->T OB->Nat->Q}(h:Hp nx0 H0 (s::F) H nx)(hk:∀b H' nx',Hp nx0 H0 (s::(b,cs++ds++fs,44)::F) H' nx'->bA P pl X0 (kt (mO b 3 3) H' nx') nx0 H0 R):bA P pl X0 (bU (bC P H nx 41 3 (some [(0,.agg ⟨cs⟩),(1,.agg ⟨ds⟩),(2,.agg ⟨fs⟩)])) kt) nx0 H0 R:=
 match cs,hc,ds,hd,fs,hf with
 | [c0,c1,c2,c3,c4,c5],_,[d0,d1,d2,d3,d4,d5],_,[f0,f1,f2,f3,f4,f5],_=>Hq.row jU dE de rfl (UJ _ _ _ _ _ _ _ _ _ _ _ _ _ _ _ _ _ _ _ de) h hk
theorem acp {n:Nat}(h:n<=1048576):da P 44 6 n=true:=by
 have:da P 44 6 n=(bj n 1048576&&true):=by kernel_rfl
 rw[this,av h];rfl
theorem aO.lx (x:aO):vl true 6 [x.v]:=λv hv=>by
 rw[aP]at hv;subst hv;rw[aO.bX];exact⟨rfl,rfl,⟨_,rfl⟩⟩
theorem aO.ae4 (l:List aO):vl true 6 (l.map aO.v):=λv hv=>by
 obtain⟨x,_,rfl⟩:=bo.1 hv;exact x.lx x.v (by simp)
theorem aO.len (x:aO):x.v.cells.toList.length=6:=(x.lx x.v (by simp)).1
theorem Hq.Q6 (A:List Bx){l:List aO}{x:aO}{sl:Value}{kt:Value->T OB->Nat->Q}(hl:l.length<=1000000)(hG:Gw true 6 44 (l.map aO.v) sl G)(h:Hp nx0 H0 (s::(b,x.v.cells.toList,44)::(A++(G++B))) H nx)
 (hk:∀sl' G' H' nx',Gw true 6 44 ((l++[x]).map aO.v) sl' G'->Hp nx0 H0 (s::(A++(G'++B))) H' nx'->bA P pl X0 (kt sl' H' nx') nx0 H0 R):bA P pl X0 (bU (fe P H nx [41,41] (some [sl,mO b 1 1])) kt) nx0 H0 R:=
 Hq.add A jU dE (acp (by rw[aa];omega)) (by rw[aa];omega) x.lx hG h λsl' G' H' nx' hG' h'=>hk sl' G' H' nx' (by rw[dI];exact hG') h'
theorem UL (c0 c1 c2 c3:Value)(z:List Value)(hz:dD P 47=some z):Instr.fill (λi=>some (i*4,4)) (cI z (1*4)) [(0,.agg ⟨[c0,c1,c2,c3]⟩)]=some ⟨[c0,c1,c2,c3]⟩:=by
 rw[fx]at hz;cases hz;kernel_rfl
theorem Hq.nS (cs:List Value)(hc:cs.length=4){kt:Value->T OB->Nat->Q}(h:Hp nx0 H0 (s::F) H nx)(hk:∀b H' nx',Hp nx0 H0 (s::(b,cs,47)::F) H' nx'->bA P pl X0 (kt (mO b 1 1) H' nx') nx0 H0 R):bA P pl X0 (bU (bC P H nx 42 1 (some [(0,.agg ⟨cs⟩)])) kt) nx0 H0 R:=
 match cs,hc with
 | [c0,c1,c2,c3],_=>Hq.row iN fJ fx rfl (UL _ _ _ _ _ fx) h hk
theorem UM (c0 c1 c2 c3 d0 d1 d2 d3:Value)(z:List Value)(hz:dD P 47=some z):Instr.fill (λi=>some (i*4,4)) (cI z (2*4)) [(0,.agg ⟨[c0,c1,c2,c3]⟩),(1,.agg ⟨[d0,d1,d2,d3]⟩)]=some ⟨[c0,c1,c2,c3,d0,d1,d2,d3]⟩:=by
 rw[fx]at hz;cases hz;kernel_rfl
theorem Hq.UN (cs ds:List Value)(hc:cs.length=4)(hd:ds.length=4){kt:Value->T OB->Nat->Q}(h:Hp nx0 H0 (s::F) H nx)(hk:∀b H' nx',Hp nx0 H0 (s::(b,cs++ds,47)::F) H' nx'->bA P pl X0 (kt (mO b 2 2) H' nx') nx0 H0 R):bA P pl X0 (bU (bC P H nx 42 2 (some [(0,.agg ⟨cs⟩),(1,.agg ⟨ds⟩)])) kt) nx0 H0 R:=
 match cs,hc,ds,hd with
 | [c0,c1,c2,c3],_,[d0,d1,d2,d3],_=>Hq.row iN fJ fx rfl (UM _ _ _ _ _ _ _ _ _ fx) h hk
theorem acq {n:Nat}(h:n<=1048576):da P 47 4 n=true:=by
 have:da P 47 4 n=(bj n 1048576&&true):=by kernel_rfl
 rw[this,av h];rfl
theorem bk.lx (x:bk):vl true 4 [x.v]:=λv hv=>by
 rw[aP]at hv;subst hv;rw[bk.bX];exact⟨rfl,rfl,⟨_,rfl⟩⟩
theorem bk.len (x:bk):x.v.cells.toList.length=4:=(x.lx x.v (by simp)).1
theorem Hq.Q7 (A:List Bx){l:List bk}{x:bk}{sl:Value}{kt:Value->T OB->Nat->Q}(hl:l.length<=1000000)(hG:Gw true 4 47 (l.map bk.v) sl G)(h:Hp nx0 H0 (s::(b,x.v.cells.toList,47)::(A++(G++B))) H nx)
 (hk:∀sl' G' H' nx',Gw true 4 47 ((l++[x]).map bk.v) sl' G'->Hp nx0 H0 (s::(A++(G'++B))) H' nx'->bA P pl X0 (kt sl' H' nx') nx0 H0 R):bA P pl X0 (bU (fe P H nx [42,42] (some [sl,mO b 1 1])) kt) nx0 H0 R:=
 Hq.add A iN fJ (acq (by rw[aa];omega)) (by rw[aa];omega) x.lx hG h λsl' G' H' nx' hG' h'=>hk sl' G' H' nx' (by rw[dI];exact hG') h'
theorem UO (c0 c1 c2:Value)(z:List Value)(hz:dD P 138=some z):Instr.fill (λi=>some (i*3,3)) (cI z (1*3)) [(0,.agg ⟨[c0,c1,c2]⟩)]=some ⟨[c0,c1,c2]⟩:=by
 rw[ff]at hz;cases hz;kernel_rfl
theorem Hq.qq (cs:List Value)(hc:cs.length=3){kt:Value->T OB->Nat->Q}(h:Hp nx0 H0 (s::F) H nx)(hk:∀b H' nx',Hp nx0 H0 (s::(b,cs,138)::F) H' nx'->bA P pl X0 (kt (mO b 1 1) H' nx') nx0 H0 R):bA P pl X0 (bU (bC P H nx 53 1 (some [(0,.agg ⟨cs⟩)])) kt) nx0 H0 R:=
 match cs,hc with
 | [c0,c1,c2],_=>Hq.row kh fA ff rfl (UO _ _ _ _ ff) h hk
theorem UP (c0 c1 c2 d0 d1 d2:Value)(z:List Value)(hz:dD P 138=some z):Instr.fill (λi=>some (i*3,3)) (cI z (2*3)) [(0,.agg ⟨[c0,c1,c2]⟩),(1,.agg ⟨[d0,d1,d2]⟩)]=some ⟨[c0,c1,c2,d0,d1,d2]⟩:=by
 rw[ff]at hz;cases hz;kernel_rfl
theorem Hq.UQ (cs ds:List Value)(hc:cs.length=3)(hd:ds.length=3){kt:Value->T OB->Nat->Q}(h:Hp nx0 H0 (s::F) H nx)(hk:∀b H' nx',Hp nx0 H0 (s::(b,cs++ds,138)::F) H' nx'->bA P pl X0 (kt (mO b 2 2) H' nx') nx0 H0 R):bA P pl X0 (bU (bC P H nx 53 2 (some [(0,.agg ⟨cs⟩),(1,.agg ⟨ds⟩)])) kt) nx0 H0 R:=
 match cs,hc,ds,hd with
 | [c0,c1,c2],_,[d0,d1,d2],_=>Hq.row kh fA ff rfl (UP _ _ _ _ _ _ _ ff) h hk
theorem aai {n:Nat}(h:n<=1048576):da P 138 3 n=true:=by
 have:da P 138 3 n=(bj n 1048576&&true):=by kernel_rfl
 rw[this,av h];rfl
theorem bI.lx (x:bI):vl true 3 [x.v]:=λv hv=>by
 rw[aP]at hv;subst hv;rw[bI.bX];exact⟨rfl,rfl,⟨_,rfl⟩⟩
theorem bI.len (x:bI):x.v.cells.toList.length=3:=(x.lx x.v (by simp)).1
theorem Hq.Xe (A:List Bx){l:List bI}{x:bI}{sl:Value}{kt:Value->T OB->Nat->Q}(hl:l.length<=1000000)(hG:Gw true 3 138 (l.map bI.v) sl G)(h:Hp nx0 H0 (s::(b,x.v.cells.toList,138)::(A++(G++B))) H nx)
 (hk:∀sl' G' H' nx',Gw true 3 138 ((l++[x]).map bI.v) sl' G'->Hp nx0 H0 (s::(A++(G'++B))) H' nx'->bA P pl X0 (kt sl' H' nx') nx0 H0 R):bA P pl X0 (bU (fe P H nx [53,53] (some [sl,mO b 1 1])) kt) nx0 H0 R:=
 Hq.add A kh fA (aai (by rw[aa];omega)) (by rw[aa];omega) x.lx hG h λsl' G' H' nx' hG' h'=>hk sl' G' H' nx' (by rw[dI];exact hG') h'
theorem UR (c0 c1:Value)(z:List Value)(hz:dD P 55=some z):Instr.fill (λi=>some (i*2,2)) (cI z (1*2)) [(0,.agg ⟨[c0,c1]⟩)]=some ⟨[c0,c1]⟩:=by
 rw[lB]at hz;cases hz;kernel_rfl
theorem Hq.K3 (cs:List Value)(hc:cs.length=2){kt:Value->T OB->Nat->Q}(h:Hp nx0 H0 (s::F) H nx)(hk:∀b H' nx',Hp nx0 H0 (s::(b,cs,55)::F) H' nx'->bA P pl X0 (kt (mO b 1 1) H' nx') nx0 H0 R):bA P pl X0 (bU (bC P H nx 50 1 (some [(0,.agg ⟨cs⟩)])) kt) nx0 H0 R:=
 match cs,hc with
 | [c0,c1],_=>Hq.row tT mX lB rfl (UR _ _ _ lB) h hk
theorem acr {n:Nat}(h:n<=1048576):da P 55 2 n=true:=by
 have:da P 55 2 n=(bj n 1048576&&true):=by kernel_rfl
 rw[this,av h];rfl
theorem eO.lx (x:eO):vl true 2 [x.v]:=λv hv=>by
 rw[aP]at hv;subst hv;rw[eO.bX];exact⟨rfl,rfl,⟨_,rfl⟩⟩
theorem eO.len (x:eO):x.v.cells.toList.length=2:=(x.lx x.v (by simp)).1
theorem Hq.acs (A:List Bx){l:List eO}{x:eO}{sl:Value}{kt:Value->T OB->Nat->Q}(hl:l.length<=1000000)(hG:Gw true 2 55 (l.map eO.v) sl G)(h:Hp nx0 H0 (s::(b,x.v.cells.toList,55)::(A++(G++B))) H nx)
 (hk:∀sl' G' H' nx',Gw true 2 55 ((l++[x]).map eO.v) sl' G'->Hp nx0 H0 (s::(A++(G'++B))) H' nx'->bA P pl X0 (kt sl' H' nx') nx0 H0 R):bA P pl X0 (bU (fe P H nx [50,50] (some [sl,mO b 1 1])) kt) nx0 H0 R:=
 Hq.add A tT mX (acr (by rw[aa];omega)) (by rw[aa];omega) x.lx hG h λsl' G' H' nx' hG' h'=>hk sl' G' H' nx' (by rw[dI];exact hG') h'
theorem US (c0 c1 c2 c3 c4 c5 c6 c7:Value)(z:List Value)(hz:dD P 65=some z):Instr.fill (λi=>some (i*8,8)) (cI z (1*8)) [(0,.agg ⟨[c0,c1,c2,c3,c4,c5,c6,c7]⟩)]=some ⟨[c0,c1,c2,c3,c4,c5,c6,c7]⟩:=by
 rw[ki]at hz;cases hz;kernel_rfl
theorem Hq.K4 (cs:List Value)(hc:cs.length=8){kt:Value->T OB->Nat->Q}(h:Hp nx0 H0 (s::F) H nx)(hk:∀b H' nx',Hp nx0 H0 (s::(b,cs,65)::F) H' nx'->bA P pl X0 (kt (mO b 1 1) H' nx') nx0 H0 R):bA P pl X0 (bU (bC P H nx 48 1 (some [(0,.agg ⟨cs⟩)])) kt) nx0 H0 R:=
 match cs,hc with
 | [c0,c1,c2,c3,c4,c5,c6,c7],_=>Hq.row yu oh ki rfl (US _ _ _ _ _ _ _ _ _ ki) h hk
theorem acu {n:Nat}(h:n<=1048576):da P 65 8 n=true:=by
 have:da P 65 8 n=(bj n 1048576&&true):=by kernel_rfl
 rw[this,av h];rfl
theorem Fn.lx (x:Fn):vl true 8 [x.v]:=λv hv=>by
 rw[aP]at hv;subst hv;rw[Fn.bX];exact⟨rfl,rfl,⟨_,rfl⟩⟩
theorem Fn.len (x:Fn):x.v.cells.toList.length=8:=(x.lx x.v (by simp)).1
theorem Hq.acv (A:List Bx){l:List Fn}{x:Fn}{sl:Value}{kt:Value->T OB->Nat->Q}(hl:l.length<=1000000)(hG:Gw true 8 65 (l.map Fn.v) sl G)(h:Hp nx0 H0 (s::(b,x.v.cells.toList,65)::(A++(G++B))) H nx)
 (hk:∀sl' G' H' nx',Gw true 8 65 ((l++[x]).map Fn.v) sl' G'->Hp nx0 H0 (s::(A++(G'++B))) H' nx'->bA P pl X0 (kt sl' H' nx') nx0 H0 R):bA P pl X0 (bU (fe P H nx [48,48] (some [sl,mO b 1 1])) kt) nx0 H0 R:=
 Hq.add A yu oh (acu (by rw[aa];omega)) (by rw[aa];omega) x.lx hG h λsl' G' H' nx' hG' h'=>hk sl' G' H' nx' (by rw[dI];exact hG') h'
theorem UT (c0 c1 c2 c3 c4 c5 c6 c7 c8 c9 c10 c11 c12 c13 c14 c15 c16:Value)(z:List Value)(hz:dD P 57=some z):Instr.fill (λi=>some (i*17,17)) (cI z (1*17)) [(0,.agg ⟨[c0,c1,c2,c3,c4,c5,c6,c7,c8,c9,c10,c11,c12,c13,c14,c15,c16]⟩)]=some ⟨[c0,c1,c2,c3,c4,c5,c6,c7,c8,c9,c10,c11,c12,c13,c14,c15,c16]⟩:=by
 rw[fO]at hz;cases hz;kernel_rfl
theorem Hq.K5 (cs:List Value)(hc:cs.length=17){kt:Value->T OB->Nat->Q}(h:Hp nx0 H0 (s::F) H nx)(hk:∀b H' nx',Hp nx0 H0 (s::(b,cs,57)::F) H' nx'->bA P pl X0 (kt (mO b 1 1) H' nx') nx0 H0 R):bA P pl X0 (bU (bC P H nx 24 1 (some [(0,.agg ⟨cs⟩)])) kt) nx0 H0 R:=
 match cs,hc with
 | [c0,c1,c2,c3,c4,c5,c6,c7,c8,c9,c10,c11,c12,c13,c14,c15,c16],_=>Hq.row jT gQ fO rfl (UT _ _ _ _ _ _ _ _ _ _ _ _ _ _ _ _ _ _ fO) h hk
theorem Xf {n:Nat}(h:n<=1048576):da P 57 17 n=true:=by
 have:da P 57 17 n=(bj n 1048576&&true):=by kernel_rfl
 rw[this,av h];rfl
theorem bm.lx (x:bm):vl true 17 [x.v]:=λv hv=>by
 rw[aP]at hv;subst hv;rw[bm.bX];exact⟨rfl,rfl,⟨_,rfl⟩⟩
theorem bm.len (x:bm):x.v.cells.toList.length=17:=(x.lx x.v (by simp)).1
theorem Hq.acw (A:List Bx){l:List bm}{x:bm}{sl:Value}{kt:Value->T OB->Nat->Q}(hl:l.length<=1000000)(hG:Gw true 17 57 (l.map bm.v) sl G)(h:Hp nx0 H0 (s::(b,x.v.cells.toList,57)::(A++(G++B))) H nx)
 (hk:∀sl' G' H' nx',Gw true 17 57 ((l++[x]).map bm.v) sl' G'->Hp nx0 H0 (s::(A++(G'++B))) H' nx'->bA P pl X0 (kt sl' H' nx') nx0 H0 R):bA P pl X0 (bU (fe P H nx [24,24] (some [sl,mO b 1 1])) kt) nx0 H0 R:=
 Hq.add A jT gQ (Xf (by rw[aa];omega)) (by rw[aa];omega) x.lx hG h λsl' G' H' nx' hG' h'=>hk sl' G' H' nx' (by rw[dI];exact hG') h'
theorem aO.fz (x:aO):lE 0 [(3,41),(4,42),(5,24)] x.v x.v []:=by
 rw[aO.bX];exact lE.of (jJ.cons rfl (fZ.row jU) (jJ.cons rfl (fZ.row iN) (jJ.cons rfl (fZ.row jT) (jJ.nil))))
theorem bk.fz (x:bk):lE 0 [(3,42)] x.v x.v []:=by
 rw[bk.bX];exact lE.of (jJ.cons rfl (fZ.row iN) (jJ.nil))
theorem bI.fz (x:bI):lE 0 [(2,53)] x.v x.v []:=by
 rw[bI.bX];exact lE.of (jJ.cons rfl (fZ.row kh) (jJ.nil))
theorem eO.fz (x:eO):lE 0 [(1,53)] x.v x.v []:=by
 rw[eO.bX];exact lE.of (jJ.cons rfl (fZ.row kh) (jJ.nil))
theorem Fn.fz (x:Fn):lE 0 [(1,42),(5,41),(6,42),(7,24)] x.v x.v []:=by
 rw[Fn.bX];exact lE.of (jJ.cons rfl (fZ.row iN) (jJ.cons rfl (fZ.row jU) (jJ.cons rfl (fZ.row iN) (jJ.cons rfl (fZ.row jT) (jJ.nil)))))
theorem bm.fz (x:bm):lE 0 [(4,42),(8,41),(9,42),(10,24),(11,48),(12,49),(14,50),(16,53)] x.v x.v []:=by
 rw[bm.bX];exact lE.of (jJ.cons rfl (fZ.row iN) (jJ.cons rfl (fZ.row jU) (jJ.cons rfl (fZ.row iN) (jJ.cons rfl (fZ.row jT) (jJ.cons rfl (fZ.row yu) (jJ.cons rfl (fZ.row mI) (jJ.cons rfl (fZ.row tT) (jJ.cons rfl (fZ.row kh) (jJ.nil)))))))))
theorem Gw.acx {l:List aO}{sl:Value}(hG:Gw true 6 44 (l.map aO.v) sl G):fZ 1 41 sl (bM 6 (l.map aO.v)) G:=
 fZ.gw jU dE fY rfl ko hG (m6.id λv hv=>by obtain⟨x,_,rfl⟩:=bo.1 hv;exact x.fz) (λu hu=>by obtain⟨x,_,rfl⟩:=bo.1 hu;exact x.len) id
theorem Gw.aaj {l:List bk}{sl:Value}(hG:Gw true 4 47 (l.map bk.v) sl G):fZ 1 42 sl (bM 4 (l.map bk.v)) G:=
 fZ.gw iN fJ jc rfl mA hG (m6.id λv hv=>by obtain⟨x,_,rfl⟩:=bo.1 hv;exact x.fz) (λu hu=>by obtain⟨x,_,rfl⟩:=bo.1 hu;exact x.len) id
theorem Gw.acy {l:List bI}{sl:Value}(hG:Gw true 3 138 (l.map bI.v) sl G):fZ 1 53 sl (bM 3 (l.map bI.v)) G:=
 fZ.gw kh fA nJ rfl um hG (m6.id λv hv=>by obtain⟨x,_,rfl⟩:=bo.1 hv;exact x.fz) (λu hu=>by obtain⟨x,_,rfl⟩:=bo.1 hu;exact x.len) id
theorem Gw.ae5 {l:List eO}{sl:Value}(hG:Gw true 2 55 (l.map eO.v) sl G):fZ 1 50 sl (bM 2 (l.map eO.v)) G:=
 fZ.gw tT mX yx rfl Qi hG (m6.id λv hv=>by obtain⟨x,_,rfl⟩:=bo.1 hv;exact x.fz) (λu hu=>by obtain⟨x,_,rfl⟩:=bo.1 hu;exact x.len) id
theorem Gw.ae6 {l:List Fn}{sl:Value}(hG:Gw true 8 65 (l.map Fn.v) sl G):fZ 1 48 sl (bM 8 (l.map Fn.v)) G:=
 fZ.gw yu oh GJ rfl W6 hG (m6.id λv hv=>by obtain⟨x,_,rfl⟩:=bo.1 hv;exact x.fz) (λu hu=>by obtain⟨x,_,rfl⟩:=bo.1 hu;exact x.len) id
theorem Gw.ae7 {l:List bm}{sl:Value}(hG:Gw true 17 57 (l.map bm.v) sl G):fZ 1 24 sl (bM 17 (l.map bm.v)) G:=
 fZ.gw jT gQ lT rfl uY hG (m6.id λv hv=>by obtain⟨x,_,rfl⟩:=bo.1 hv;exact x.fz) (λu hu=>by obtain⟨x,_,rfl⟩:=bo.1 hu;exact x.len) id
theorem lf {cs:List Value}(h:dO H b cs 44)(hc:cs.length=6):aA P H 44 (some (ptr b))=some (.agg ⟨cs⟩):=by
 rw[cR h fY dE (by omega),dq,<- hc,fD]
theorem AW {cs:List Value}(h:dO H b cs 47)(hc:cs.length=4):aA P H 47 (some (ptr b))=some (.agg ⟨cs⟩):=by
 rw[cR h jc fJ (by omega),dq,<- hc,fD]
theorem rQ {cs:List Value}(h:dO H b cs 138)(hc:cs.length=3):aA P H 138 (some (ptr b))=some (.agg ⟨cs⟩):=by
 rw[cR h nJ fA (by omega),dq,<- hc,fD]
theorem Xg {cs:List Value}(h:dO H b cs 55)(hc:cs.length=2):aA P H 55 (some (ptr b))=some (.agg ⟨cs⟩):=by
 rw[cR h yx mX (by omega),dq,<- hc,fD]
theorem acz {cs:List Value}(h:dO H b cs 52)(hc:cs.length=3):aA P H 52 (some (ptr b))=some (.agg ⟨cs⟩):=by
 rw[cR h NU NW (by omega),dq,<- hc,fD]
theorem acA {cs:List Value}(h:dO H b cs 65)(hc:cs.length=8):aA P H 65 (some (ptr b))=some (.agg ⟨cs⟩):=by
 rw[cR h GJ oh (by omega),dq,<- hc,fD]
theorem Xh {cs:List Value}(h:dO H b cs 57)(hc:cs.length=17):aA P H 57 (some (ptr b))=some (.agg ⟨cs⟩):=by
 rw[cR h lT gQ (by omega),dq,<- hc,fD]
theorem mE (k:Int)(a:Option Addr)(n c:Nat):cA P 44 (some [(0,i64 k),(3,.slice a n c)])=some (.agg ⟨[i64 k,i64 0,aK [],.slice a n c,a_,a_]⟩):=cf de (by kernel_rfl)
theorem DC (k:Int)(w:List UInt8)(a:Option Addr)(n c:Nat):cA P 44 (some [(0,i64 k),(2,aK w),(3,.slice a n c)])=some (.agg ⟨[i64 k,i64 0,aK w,.slice a n c,a_,a_]⟩):=cf de (by kernel_rfl)
theorem UU (k n:Int):cA P 44 (some [(0,i64 k),(1,i64 n)])=some (.agg ⟨[i64 k,i64 n,aK [],a_,a_,a_]⟩):=cf de (by kernel_rfl)
theorem DD (k:Int)(w:List UInt8):cA P 44 (some [(0,i64 k),(2,aK w)])=some (.agg ⟨[i64 k,i64 0,aK w,a_,a_,a_]⟩):=cf de (by kernel_rfl)
theorem K6 (k:Int)(a:Option Addr)(n c:Nat):cA P 47 (some [(0,i64 k),(3,.slice a n c)])=some (.agg ⟨[i64 k,i64 0,aK [],.slice a n c]⟩):=cf fx (by kernel_rfl)
theorem UW (k:Int)(w:List UInt8)(a:Option Addr)(n c:Nat):cA P 47 (some [(0,i64 k),(2,aK w),(3,.slice a n c)])=some (.agg ⟨[i64 k,i64 0,aK w,.slice a n c]⟩):=cf fx (by kernel_rfl)
theorem K7 (k n:Int):cA P 47 (some [(0,i64 k),(1,i64 n)])=some (.agg ⟨[i64 k,i64 n,aK [],a_]⟩):=cf fx (by kernel_rfl)
theorem xe (k:Int)(w:List UInt8):cA P 47 (some [(0,i64 k),(2,aK w)])=some (.agg ⟨[i64 k,i64 0,aK w,a_]⟩):=cf fx (by kernel_rfl)
theorem FI (k:Int)(w:List UInt8):cA P 138 (some [(0,i64 k),(1,aK w)])=some (.agg ⟨[i64 k,aK w,a_]⟩):=cf ff (by kernel_rfl)
theorem FJ (k:Int)(a:Option Addr)(n c:Nat):cA P 138 (some [(0,i64 k),(2,.slice a n c)])=some (.agg ⟨[i64 k,aK [],.slice a n c]⟩):=cf ff (by kernel_rfl)
theorem FK (k:Int)(w:List UInt8)(a:Option Addr)(n c:Nat):cA P 138 (some [(0,i64 k),(1,aK w),(2,.slice a n c)])=some (.agg ⟨[i64 k,aK w,.slice a n c]⟩):=cf ff (by kernel_rfl)
theorem UX (w:List UInt8):cA P 55 (some [(0,aK w)])=some (.agg ⟨[aK w,a_]⟩):=cf lB (by kernel_rfl)
theorem UY (w:List UInt8)(a:Option Addr)(n c:Nat):cA P 65 (some [(0,aK w),(1,.slice a n c)])=some (.agg ⟨[aK w,.slice a n c,i64 0,i64 0,aK [],a_,a_,a_]⟩):=cf ki (by kernel_rfl)
theorem UZ (k:Int)(a:Option Addr)(n c:Nat):cA P 57 (some [(0,i64 k),(3,.slice a n c)])=some (.agg ⟨[i64 k,i64 0,i64 0,aK [],a_,i64 0,i64 0,aK [],a_,a_,a_,.slice a n c,a_,aK [],a_,aK [],a_]⟩):=cf fO (by kernel_rfl)
theorem U0 (k:Int)(p0 p1 p2 p3 c0 c1 c2 c3 c4 c5:Value):cA P 57 (some [(0,i64 k),(1,.agg ⟨[p0,p1,p2,p3]⟩),(2,.agg ⟨[c0,c1,c2,c3,c4,c5]⟩)])=some (.agg ⟨[i64 k,p0,p1,p2,p3,c0,c1,c2,c3,c4,c5,a_,a_,aK [],a_,aK [],a_]⟩):=cf fO (by kernel_rfl)
theorem U1 (k:Int)(c0 c1 c2 c3 c4 c5:Value):cA P 57 (some [(0,i64 k),(2,.agg ⟨[c0,c1,c2,c3,c4,c5]⟩)])=some (.agg ⟨[i64 k,i64 0,i64 0,aK [],a_,c0,c1,c2,c3,c4,c5,a_,a_,aK [],a_,aK [],a_]⟩):=cf fO (by kernel_rfl)
theorem U2 (k:Int)(c0 c1 c2:Value):cA P 57 (some [(0,i64 k),(4,.agg ⟨[c0,c1,c2]⟩)])=some (.agg ⟨[i64 k,i64 0,i64 0,aK [],a_,i64 0,i64 0,aK [],a_,a_,a_,a_,c0,c1,c2,aK [],a_]⟩):=cf fO (by kernel_rfl)
theorem U3 (k:Int)(c0 c1:Value):cA P 57 (some [(0,i64 k),(5,.agg ⟨[c0,c1]⟩)])=some (.agg ⟨[i64 k,i64 0,i64 0,aK [],a_,i64 0,i64 0,aK [],a_,a_,a_,a_,a_,aK [],a_,c0,c1]⟩):=cf fO (by kernel_rfl)
end
section
variable {nx0 nx nx' bp k:Nat}{H0 H H':T OB}{F A B G G':List Bx}{s:Bx}{R:Go.Ev.Out->T OB->Nat->Prop}{b:Nat}{l:List Value}{e t:TypeId}{L:List Tok}
theorem jJ.one {n:Nat}{p:Nat×TypeId}{cs:List Value}{v u:Value}(hc:cs[p.1]? = some v)(h1:fZ n p.2 v u G):jJ n [p] cs (cs.set p.1 u) G:=by
 have:=jJ.cons hc h1 (jJ.nil (n:=n));rwa[bf]at this
theorem m6.one {n:Nat}{offs:List (Nat×TypeId)}{v u:Value}(h1:lE n offs v u G):m6 n offs [v] [u] G:=by
 have:=m6.cons h1 (m6.nil (n:=n) (offs:=offs));rwa[bf]at this
theorem m6.two {n:Nat}{offs:List (Nat×TypeId)}{v u w:Value}(h1:lE n offs v u G)(h2:lE 0 offs w w []):m6 n offs [v,w] [u,w] G:=by
 have:=m6.cons h1 (m6.one (h2.mono (aN n)));rwa[bf]at this
theorem mb (cs:List Value):fi [.agg ⟨cs⟩]=cs:=bf cs
theorem rR (cs ds:List Value):fi [.agg ⟨cs⟩,.agg ⟨ds⟩]=cs++ds:=by show cs++(ds++[])=_;rw[bf]
theorem Gw.vt {a:Bool}{sz:Nat}{cs:List Value}(h:vl a sz [.agg ⟨cs⟩]):Gw a sz e [.agg ⟨cs⟩] (mO b 1 1) [(b,cs,e)]:=by
 have:=Gw.one (b:=b) (e:=e) (n:=1) h rfl (by decide);rwa[mb]at this
structure tn (n:Nat)(cs:List Value)(a:bI)(G:List Bx):Prop where
 len:cs.length=3
 one:cs.all aC=true
 fz:lE n [(2,53)] (.agg ⟨cs⟩) a.v G
theorem tn.of (a:bI):tn 0 a.cs a []:=⟨a.len,(a.lx a.v (by simp)).2.1,a.fz⟩
theorem tn.lx {n:Nat}{cs:List Value}{a:bI}(h:tn n cs a G):vl true 3 [.agg ⟨cs⟩]:=λv hv=>by
 rw[aP]at hv;subst hv;exact⟨h.len,h.one,⟨_,rfl⟩⟩
theorem tn.row {k:Int}{w:List UInt8}{sl:Value}{l:List bI}{n:Nat}(h:fZ n 53 sl (iB l) G)(ho:aC sl=true):tn n [i64 k,aK w,sl] (.mk k w l) G:=⟨rfl,by simp[ho],by
 rw[bI.bX];exact lE.of (jJ.one (p:=(2,53)) (cs:=[i64 k,aK w,sl]) rfl h)⟩
theorem jv {a:Bool}{sz:Nat}{vs:List Value}{sl:Value}(h:Gw a sz e vs sl G):aC sl=true:=by
 rcases h.2 with⟨_,rfl,_⟩ | ⟨b,c,rfl,_⟩<;>rfl
theorem tn.gw {k:Int}{w:List UInt8}{sl:Value}{l:List bI}(h:Gw true 3 138 (l.map bI.v) sl G):tn 1 [i64 k,aK w,sl] (.mk k w l) G:=tn.row h.acy (jv h)
theorem tn.b1 {k:Int}{w:List UInt8}{n:Nat}{cs:List Value}{a:bI}(h:tn n cs a G):tn (n+1) [i64 k,aK w,mO b 1 1] (.mk k w [a]) ((b,cs,138)::G):=by
 have:=fZ.gr (t:=53) (b:=b) kh fA nJ rfl um h.lx (.inr rfl) (by simp) (m6.one h.fz) (λu hu=>by rw[aP]at hu;subst hu;exact a.len);rw[mb cs]at this;exact tn.row this rfl
theorem tn.b2 {k:Int}{w:List UInt8}{n:Nat}{cs:List Value}{a c:bI}(h:tn n cs a G):tn (n+1) [i64 k,aK w,mO b 2 2] (.mk k w [a,c]) ((b,cs++c.cs,138)::G):=by
 have:=fZ.gr (t:=53) (b:=b) (vs:=[.agg ⟨cs⟩,c.v]) kh fA nJ rfl um (λv hv=>by
  rcases aG.1 hv with rfl | hv
  . exact h.lx _ (by simp)
  . exact c.lx v hv) (.inr rfl) (by simp) (m6.two h.fz c.fz) (λu hu=>by
  rcases aG.1 hu with rfl | hu
  . exact a.len
  . rw[aP]at hu;subst hu;exact c.len)
 rw[show fi [Value.agg ⟨cs⟩,c.v]=cs++c.cs from rR cs c.cs]at this;exact tn.row this rfl
theorem mc {α β γ:Type}(x:PR α)(f:α->Nat->PR β)(g:β->Nat->PR γ):bd (bd x f) g=bd x λa k=>bd (f a k) g:=by
 cases x with
 | none=>rfl
 | some r=>cases r<;>rfl
theorem jj {α β:Type}(a:α)(k:Nat)(f:α->Nat->PR β):bd (yes a k) f=f a k:=rfl
def U4 (L:List Tok)(T:Nat->PR bI)(a:bI)(k:Nat):PR bI:=if eM L k [45,62]=true then bd (T (k+1)) λb k=>yes (.mk 3 [] [a,b]) k else yes a k
theorem Xi {T:Nat->PR bI}(hT:cY 147 L bI.v T)(hL:L.length<=100000){n:Nat}{cs z:List Value}{a:bI}{x0 x2:Nat}{o:nh bI}(hv:tn n cs a G)(hn:n<=99990)(hz:z.length=3)(ho:U4 L T a k=some o)
 (h:Hp nx0 H0 (fu bp L k::(x2,cs,138)::(x0,z,138)::(G++F)) H nx):bA P pl X0 (aX P pl (CL (ptr bp) (ptr x0) (ptr x2) H nx)) nx0 H0 (End nx0 H0 bp L F bI.v o):=by
 rw[J_];unfold U4 at ho;refine Sq.take hL h (λhi H1 aI h1=> ?_) (λhi H1 aI h1=> ?_)
 . rw[if_pos hi]at ho;simp only[af,rQ (h1.at_ 1 rfl) hv.len];refine Sq.call hT rfl h1 ho λc k' H2 nx2 _ ho2 h2=> ?_;simp only[af,rQ (h2.at_ 1 rfl) hv.len,cg];refine Hq.UQ cs c.cs hv.len c.len h2 λx H3 nx3 h3=> ?_;simp only[af,FJ];have h4:Hp nx0 H0 (fu bp L k'::(x0,z,138)::((x,cs++c.cs,138)::G++F)) H3 nx3:=(Hp.mv [_,_] h3).sub (by simp);exact Hq.fin h4 fA nJ um hz rfl rfl (tn.b2 hv).fz (by omega) λH5 nx5 h5=>End.ret ho2 rfl h5
 . rw[if_neg (by rw[hi];simp)]at ho;simp only[af,rQ (h1.at_ 1 rfl) hv.len];have h4:Hp nx0 H0 (fu bp L k::(x0,z,138)::(G++F)) H1 aI:=(Hp.mv [_] h1).sub (by simp);exact Hq.fin h4 fA nJ um hz hv.len hv.one hv.fz (by omega) λH5 nx5 h5=>End.ret ho rfl h5
theorem Xj {TT:Nat->PR bI}(hT:cY 147 L bI.v TT)(hL:L.length<=100000):∀(m:Nat),(∀j,j<m->cY 175 L bI.v (ps L j).post)->∀(l:List bI) (k:Nat) (sl:Value) (G:List Bx) (o:nh bI) (z:List Value) (x0 x2 nx:Nat) (H:T OB),l.length+m<=90010->Gw true 3 138 (l.map bI.v) sl G->z.length=3->
 bd ((ps L m).m7 l k) (λl k=>U4 L TT (.mk 4 [] l) k)=some o->Hp nx0 H0 (fu bp L k::(x2,[i64 4,aK [],sl],138)::(x0,z,138)::(G++F)) H nx->
 bA P pl X0 (.jump (wk (ptr bp) (ptr x0) (ptr x2) H nx)) nx0 H0 (End nx0 H0 bp L F bI.v o)
 | 0,_,l,k,sl,G,o,z,x0,x2,nx,H,hm,hG,hz,ho,h=>by cases ho
 | m+1,hp,l,k,sl,G,o,z,x0,x2,nx,H,hm,hG,hz,ho,h=>by
   have ho:bd (u6 L (ps L m) l k) (λl k=>U4 L TT (.mk 4 [] l) k)=some o:=ho;unfold u6 at ho;refine Wq.jmp (S5 ..) (λ_=>rfl) ?_;refine Sq.take hL h (λhi H1 aI h1=> ?_) (λhi H1 aI h1=> ?_)
   . rw[if_pos hi,mc]at ho;simp only[af,aB (off:=2) (u:=sl) (h1.at_ 1 rfl) BJ rfl];refine Sq.call (hp m (bz m)) rfl h1 ho λc k' H2 nx2 _ ho2 h2=> ?_;simp only[af,aB (off:=2) (u:=sl) (h2.at_ 1 rfl) BJ rfl,cg];refine Hq.qq c.cs c.len h2 λx H3 nx3 h3=> ?_;simp only[af,aB (off:=2) (u:=sl) (h3.at_ 2 rfl) BJ rfl,cg];refine Hq.Xe [_,_] (x:=c) (by omega) hG h3 λsl' G' H4 nx4 hG' h4=> ?_;refine Hq.put [_] h4 We (by rcases hG'.2 with⟨_,rfl,_⟩ | ⟨b,c,rfl,_⟩<;>rfl) (jv hG') (by simp) rfl λH5 h5=> ?_;exact Xj hT hL m (λj hj=>hp j (by omega)) (l++[c]) k' sl' G' o z x0 x2 nx4 H5 (by rw[aj];simp;omega) hG' hz ho2 h5
   . rw[if_neg (by rw[hi];simp)]at ho;have:=Xi hT hL (tn.gw (k:=4) (w:=[]) hG) (by omega) hz ho h1;rw[J_]at this;exact this
theorem RU (a b:Value):bH (some (.tuple ⟨[a,b]⟩)) 0=some a:=rfl
theorem RV (a b:Value):bH (some (.tuple ⟨[a,b]⟩)) 1=some b:=rfl
theorem Hq.set (A:List Bx){sz:Nat}{cs:List Value}{kt:Value->Go.Ev.T OB->Nat->Q}(h:Hp nx0 H0 (A++(b,l,e)::B) H nx)(hs:bT P t=some sz)(hl:l.length=sz)(hc:cs.length=sz)(h1:cs.all aC=true)
 (hk:∀H',Hp nx0 H0 (A++(b,cs,e)::B) H' nx->bA P pl X0 (kt undef H' nx) nx0 H0 R):bA P pl X0 (bU (eD P H nx t (some (ptr b)) (some (.agg ⟨cs⟩))) kt) nx0 H0 R:=
 Hq.store A h hs (by omega) hc h1 λH' h'=>hk H' (by
  rw[show mn l (Value.agg ⟨cs⟩).cells.toList 0=cs from AK (by show cs.length=_;omega)]at h';exact h')
theorem Hp.swap' {x y:Bx}(h:Hp nx0 H0 (s::x::y::F) H nx):Hp nx0 H0 (s::y::x::F) H nx:=h.perm (List.Perm.cons _ (List.Perm.swap _ _ _))
theorem Hp.DF {x y z:Bx}(h:Hp nx0 H0 (s::x::y::z::F) H nx):Hp nx0 H0 (s::y::z::x::F) H nx:=h.perm (List.Perm.cons _ ((List.Perm.swap _ _ _).trans (List.Perm.cons _ (List.Perm.swap _ _ _))))
theorem acB (hL:L.length<=100000){n:Nat}(hn:n<=90000)(hpost:∀j,j<=n->cY 175 L bI.v (ps L j).post)(htyp:cY 147 L bI.v (ps L n).ni):cY 147 L bI.v (ps L (n+1)).ni:=by
 intro nx0 nx H0 H bp F k o ho h;have ho:ta L (ps L n) k=some o:=ho;unfold ta s_ at ho;rw[mc]at ho;rw[aed];refine Hq.alloc ff h λx0 H1 aI h1=> ?_;refine Sq.call (hpost n (ax n)) rfl h1 ho λa k' H2 nx2 _ ho h2=> ?_;have ha:=tn.of a;refine Hq.alloc ff h2 λx2 H3 nx3 h3=> ?_;refine Hq.set [_] h3 fA rfl ha.len ha.one λH4 h4=> ?_
 refine Sq.is h4 λH5 nx5 h5=> ?_;cases hi:eM L k' [42]with
 | true=>
   rw[hi,if_pos rfl,mc]at ho;simp only[af,rQ (h5.at_ 1 rfl) a.len];refine Hq.qq a.cs a.len h5 λx H6 nx6 h6=> ?_;simp only[af,FJ];refine Hq.set [_,_] h6 fA ha.len rfl rfl λH7 h7=> ?_
   exact Xj htyp hL (n+1) (λj hj=>hpost j (by omega)) [a] k' (mO x 1 1) [(x,a.cs,138)] o _ x0 x2 nx6 H7 (show 1+(n+1)<=90010 by omega) (Gw.vt a.lx) rfl ho (Hp.DF h7)
 | false=>
   rw[hi,if_neg (by simp),jj]at ho;simp only[af];exact Wq.jump (λ_=>rfl) (Xi htyp hL ha (by omega) rfl ho h5)
theorem Q8 (hL:L.length<=100000):∀(m:Nat) (a:bI) (k n:Nat) (cs z:List Value) (G:List Bx) (o:nh bI) (x0 x1 nx:Nat) (H:Go.Ev.T OB),n+m<=90010->tn n cs a G->z.length=3->(ps L m).lr a k=some o->Hp nx0 H0 (fu bp L k::(x1,cs,138)::(x0,z,138)::(G++F)) H nx->
 bA P pl X0 (aX P pl (qd (ptr bp) (ptr x0) (ptr x1) H nx)) nx0 H0 (End nx0 H0 bp L F bI.v o)
 | 0,a,k,n,cs,z,G,o,x0,x1,nx,H,hm,hv,hz,ho,h=>by cases ho
 | m+1,a,k,n,cs,z,G,o,x0,x1,nx,H,hm,hv,hz,ho,h=>by
   have ho:l8 L (ps L m) a k=some o:=ho;unfold l8 at ho;rw[CW];refine Sq.tyn hL h (λhi H1 aI h1=> ?_) (λhi H1 aI h1=> ?_)
   . rw[if_pos hi]at ho;simp only[af,RU,RV];refine Wq.jmp (Kf ..) (λ_=>rfl) ?_;simp only[af,rQ (h1.at_ 1 rfl) hv.len];refine Hq.qq cs hv.len h1 λx H2 nx2 h2=> ?_;simp only[af,FK];refine Hq.set [_,_] h2 fA hv.len rfl rfl λH3 h3=> ?_
     have:=Q8 hL m (.mk 2 (tk L k).s [a]) (k+1) (n+1) _ z ((x,cs,138)::G) o x0 x1 nx2 H3 (by omega) (tn.b1 (k:=2) (w:=(tk L k).s) hv) hz ho (Hp.DF h3);rw[CW]at this;exact this
   . rw[if_neg (by rw[hi];simp)]at ho;simp only[af,RU,RV];refine Wq.jmp (Kf ..) (λ_=>rfl) ?_;simp only[af,rQ (h1.at_ 1 rfl) hv.len];have h4:Hp nx0 H0 (fu bp L k::(x0,z,138)::(G++F)) H1 aI:=(Hp.mv [_] h1).sub (by simp);exact Hq.fin h4 fA nJ um hz hv.len hv.one hv.fz (by omega) λH5 nx5 h5=>End.ret ho rfl h5
theorem Hy (hL:L.length<=100000){m:Nat}{a:bI}{k n:Nat}{cs z:List Value}{G:List Bx}{o:nh bI}{x0 x1 nx:Nat}{H:Go.Ev.T OB}(hm:n+m<=90010)(hv:tn n cs a G)(hz:z.length=3)(ho:(ps L m).lr a k=some o)(h:Hp nx0 H0 (fu bp L k::(x1,cs,138)::(x0,z,138)::(G++F)) H nx):
 bA P pl X0 (.jump (qd (ptr bp) (ptr x0) (ptr x1) H nx)) nx0 H0 (End nx0 H0 bp L F bI.v o):=Wq.jump (λ_=>rfl) (Q8 hL m a k n cs z G o x0 x1 nx H hm hv hz ho h)
theorem Xk (hL:L.length<=100000){M:Nat}(hM:M<=90005):∀(m:Nat),(∀j,j<m->cY 147 L bI.v (ps L j).ni)->∀(l:List bI) (k:Nat) (sl:Value) (G:List Bx) (o:nh bI) (y z:List Value) (x0 x1 nx:Nat) (H:Go.Ev.T OB),l.length+m<=90010->Gw true 3 138 (l.map bI.v) sl G->y.length=3->z.length=3->
 bd ((ps L m).Mg l k) (λl k=>dj L [41] k λk=>bd (if kC L k=true then yes (bI.mk 2 (tk L k).s l) (k+1)else qS L k) λa k=>(ps L M).lr a k)=some o->Hp nx0 H0 (fu bp L k::(x1,y,138)::(x0,z,138)::(G++F)) H nx->
 bA P pl X0 (.jump (wJ (ptr bp) (ptr x0) (ptr x1) sl H nx)) nx0 H0 (End nx0 H0 bp L F bI.v o)
 | 0,_,l,k,sl,G,o,y,z,x0,x1,nx,H,hm,hG,hy,hz,ho,h=>by cases ho
 | m+1,hp,l,k,sl,G,o,y,z,x0,x1,nx,H,hm,hG,hy,hz,ho,h=>by
   have ho:bd (y_ L (ps L m) l k) (λl k=>dj L [41] k λk=>bd (if kC L k=true then yes (bI.mk 2 (tk L k).s l) (k+1)else qS L k) λa k=>(ps L M).lr a k)=some o:=ho;unfold y_ at ho;refine Wq.jmp (Tl ..) (λ_=>rfl) ?_;refine Sq.take hL h (λhi H1 aI h1=> ?_) (λhi H1 aI h1=> ?_)
   . rw[if_pos hi,mc]at ho;simp only[af];refine Sq.call (hp m (bz m)) rfl h1 ho λc k' H2 nx2 _ ho2 h2=> ?_;refine Hq.qq c.cs c.len h2 λx H3 nx3 h3=> ?_;refine Hq.Xe [_,_] (x:=c) (by omega) hG h3 λsl' G' H4 nx4 hG' h4=> ?_;exact Xk hL hM m (λj hj=>hp j (by omega)) (l++[c]) k' sl' G' o y z x0 x1 nx4 H4 (by rw[aj];simp;omega) hG' hy hz ho2 h4
   . rw[if_neg (by rw[hi];simp),jj]at ho;simp only[af];refine Sq.ov hL h1 ho λH2 nx2 _ ho h2=> ?_;refine Sq.tyn hL h2 (λhi H3 nx3 h3=> ?_) (λhi H3 nx3 h3=> ?_)
     . rw[if_pos hi,jj]at ho;simp only[af,RU,RV];refine Wq.jmp (Tn ..) (λ_=>rfl) ?_;have hb:cA P 138 (some [(0,i64 2),(1,aK (tk L (k+1)).s),(2,sl)])=some (.agg ⟨[i64 2,aK (tk L (k+1)).s,sl]⟩):=by
        rcases hG.2 with⟨_,rfl,_⟩ | ⟨b,c,rfl,_⟩<;>exact FK ..
       simp only[af,hb];refine Hq.set [_] h3 fA hy rfl (by simp[jv hG]) λH4 h4=> ?_
       have:=Q8 hL M _ _ 1 _ z G o x0 x1 nx3 H4 (by omega) (tn.gw (k:=2) (w:=(tk L (k+1)).s) hG) hz ho h4;rw[CW]at this;exact this
     . rw[if_neg (by rw[hi];simp)]at ho;simp only[af,RU,RV];exact Sq.fail (α:=bI) (β:=bI) (o:=o) (by cases ho;rfl) h3
theorem acC (hL:L.length<=100000){n:Nat}(hn:n<=90000)(htyp:∀j,j<=n->cY 147 L bI.v (ps L j).ni):cY 175 L bI.v (ps L (n+1)).post:=by
 intro nx0 nx H0 H bp F k o ho h;have ho:qT L (ps L n) k=some o:=ho;unfold qT o_ at ho;have hnm:∀a k,l8 L (ps L n) a k=(ps L (n+1)).lr a k:=λ_ _=>rfl;rw[aey];refine Hq.alloc ff h λx0 H1 aI h1=> ?_;refine Hq.alloc ff h1 λx1 H2 nx2 h2=> ?_;refine Sq.now h2 λH3 nx3 h3=> ?_;refine Sq.T1 h3 λH4 nx4 h4=> ?_;simp only[af];refine Wq.ite (λhi=> ?_) (λhi=> ?_)
 . rw[if_pos hi,jj]at ho;simp only[af,pk h4,jC hL (kI (show(tk L k).k≠0 by omega))];refine gV h4 λH5 h5=> ?_;simp only[af,FI];refine Hq.set [_] h5 fA rfl rfl rfl λH6 h6=> ?_
   exact Hy hL (m:=n+1) (n:=0) (G:=[]) (by omega) (tn.row (k:=1) (w:=(tk L k).s) (l:=[]) (fZ.nil kh fA) rfl) rfl ho h6
 . rw[if_neg hi]at ho;refine Sq.tyn hL h4 (λht H5 nx5 h5=> ?_) (λht H5 nx5 h5=> ?_)
   . rw[if_pos ht,jj]at ho;simp only[af,RU,RV,FI];refine Hq.set [_] h5 fA rfl rfl rfl λH6 h6=> ?_
     exact Hy hL (m:=n+1) (n:=0) (G:=[]) (by omega) (tn.row (k:=2) (w:=(tk L k).s) (l:=[]) (fZ.nil kh fA) rfl) rfl ho h6
   . rw[if_neg (by rw[ht];simp)]at ho;simp only[af,RU,RV];have ho:dj L [40] k (λk=>bd (bd ((ps L n).ni k) λa k=>if eM L k [44]=true then bd (y_ L (ps L n) [a] k) λl k=>dj L [41] k λk=>if kC L k=true then yes (bI.mk 2 (tk L k).s l) (k+1)else qS L k else dj L [41] k λk=>yes a k) λa k=>l8 L (ps L n) a k)=some o:=by
      rw[<- ho];unfold dj;split<;>rfl
     refine Sq.ov hL h5 ho λH6 nx6 _ ho h6=> ?_;rw[mc]at ho;refine Sq.call (htyp n (ax n)) rfl h6 ho λa k' H7 nx7 _ ho h7=> ?_;refine Hq.set [_] h7 fA rfl a.len (tn.of a).one λH8 h8=> ?_
     refine Sq.is h8 λH9 nx9 h9=> ?_;cases hc:eM L k' [44]with
     | true=>
       rw[hc,if_pos rfl,mc]at ho;simp only[af,rQ (h9.at_ 1 rfl) a.len];refine Hq.qq a.cs a.len h9 λx H10 nx10 h10=> ?_;refine Xk hL (M:=n+1) (by omega) (n+1) (λj hj=>htyp j (by omega)) [a] k' (mO x 1 1) [(x,a.cs,138)] o _ _ x0 x1 nx10 H10 (show 1+(n+1)<=90010 by omega) (Gw.vt a.lx) a.len rfl ?_ (Hp.DF h10);rw[<- ho];show bd (y_ L (ps L n) [a] k') _=bd (y_ L (ps L n) [a] k') _;congr 1;funext l k;unfold dj;split<;>rfl
     | false=>
       rw[hc,if_neg (by simp)]at ho;simp only[af];have ho:dj L [41] k' (λk=>(ps L (n+1)).lr a k)=some o:=by
        rw[<- ho];unfold dj;split<;>rfl
       refine Sq.ov hL h9 ho λH10 nx10 _ ho h10=> ?_;exact Hy hL (m:=n+1) (n:=0) (G:=[]) (by omega) (tn.of a) rfl ho h10
theorem acD (hL:L.length<=100000){p:PS}(htyp:cY 147 L bI.v p.ni):cY 104 L eO.v (Fw L p):=by
 intro nx0 nx H0 H bp F k o ho h;unfold Fw at ho;rw[adK];refine Hq.alloc lB h λx0 H1 aI h1=> ?_;refine Sq.word (by decide) hL h1 ho λH2 nx2 _ ho h2=> ?_;simp only[af,UX];refine Hq.alloc lB h2 λx1 H3 nx3 h3=> ?_;refine Hq.set [_] h3 mX rfl rfl rfl λH4 h4=> ?_
 refine Sq.take hL h4 (λhi H5 nx5 h5=> ?_) (λhi H5 nx5 h5=> ?_)
 . rw[if_pos hi]at ho;simp only[af];refine Sq.call htyp rfl h5 ho λa k' H6 nx6 _ ho h6=> ?_;refine Hq.qq a.cs a.len h6 λx H7 nx7 h7=> ?_;refine Hq.put [_,_] h7 We rfl rfl (by simp) rfl λH8 h8=> ?_;refine Wq.jmp (JY ..) (λ_=>rfl) ?_;simp only[af,Xg (h8.at_ 2 rfl) rfl];have h9:Hp nx0 H0 (fu bp L k'::(x0,[aK [],a_],55)::([(x,a.cs,138)]++F)) H8 nx7:=(Hp.mv [_,_] h8).sub (by simp);refine Hq.fin h9 mX yx Qi rfl rfl rfl (lE.of (jJ.one (p:=(1,53)) rfl (Gw.acy (l:=[a]) (Gw.vt a.lx)))) (by omega) λH10 nx10 h10=>End.ret ho rfl h10
 . rw[if_neg (by rw[hi];simp)]at ho;simp only[af];refine Wq.jmp (JY ..) (λ_=>rfl) ?_;simp only[af,Xg (h5.at_ 1 rfl) rfl];have h9:Hp nx0 H0 (fu bp L (k+1)::(x0,[aK [],a_],55)::([]++F)) H5 nx5:=(Hp.mv [_] h5).sub (by simp);refine Hq.fin h9 mX yx Qi rfl rfl rfl (lE.of (jJ.one (p:=(1,53)) rfl (fZ.nil kh fA))) (by omega) λH10 nx10 h10=>End.ret ho rfl h10
end
section
variable {nx0 nx nx' bp k:Nat}{H0 H H':T OB}{F A B G G':List Bx}{s:Bx}{R:Go.Ev.Out->T OB->Nat->Prop}{b:Nat}{l:List Value}{e t:TypeId}{L:List Tok}
structure nj (n:Nat)(cs:List Value)(a:bk)(G:List Bx):Prop where
 len:cs.length=4
 one:cs.all aC=true
 fz:lE n [(3,42)] (.agg ⟨cs⟩) a.v G
theorem nj.of (a:bk):nj 0 a.cs a []:=⟨a.len,(a.lx a.v (by simp)).2.1,a.fz⟩
theorem nj.lx {n:Nat}{cs:List Value}{a:bk}(h:nj n cs a G):vl true 4 [.agg ⟨cs⟩]:=λv hv=>by
 rw[aP]at hv;subst hv;exact⟨h.len,h.one,⟨_,rfl⟩⟩
theorem nj.row {k i:Int}{w:List UInt8}{sl:Value}{l:List bk}{n:Nat}(h:fZ n 42 sl (cL l) G)(ho:aC sl=true):nj n [i64 k,i64 i,aK w,sl] (.mk k i w l) G:=⟨rfl,by simp[ho],by
 rw[bk.bX];exact lE.of (jJ.one (p:=(3,42)) (cs:=[i64 k,i64 i,aK w,sl]) rfl h)⟩
theorem nj.nil {k i:Int}{w:List UInt8}:nj 0 [i64 k,i64 i,aK w,a_] (.mk k i w []) []:=nj.row (l:=[]) (fZ.nil iN fJ) rfl
theorem nj.gw {k i:Int}{w:List UInt8}{sl:Value}{l:List bk}(h:Gw true 4 47 (l.map bk.v) sl G):nj 1 [i64 k,i64 i,aK w,sl] (.mk k i w l) G:=nj.row h.aaj (jv h)
theorem nj.b1 {k i:Int}{w:List UInt8}{n:Nat}{cs:List Value}{a:bk}(h:nj n cs a G):nj (n+1) [i64 k,i64 i,aK w,mO b 1 1] (.mk k i w [a]) ((b,cs,47)::G):=by
 have:=fZ.gr (t:=42) (b:=b) iN fJ jc rfl mA h.lx (.inr rfl) (by simp) (m6.one h.fz) (λu hu=>by rw[aP]at hu;subst hu;exact a.len);rw[mb cs]at this;exact nj.row this rfl
theorem nj.b2 {k i:Int}{w:List UInt8}{n:Nat}{cs:List Value}{a c:bk}(h:nj n cs a G):nj (n+1) [i64 k,i64 i,aK w,mO b 2 2] (.mk k i w [a,c]) ((b,cs++c.cs,47)::G):=by
 have:=fZ.gr (t:=42) (b:=b) (vs:=[.agg ⟨cs⟩,c.v]) iN fJ jc rfl mA (λv hv=>by
  rcases aG.1 hv with rfl | hv
  . exact h.lx _ (by simp)
  . exact c.lx v hv) (.inr rfl) (by simp) (m6.two h.fz c.fz) (λu hu=>by
  rcases aG.1 hu with rfl | hu
  . exact a.len
  . rw[aP]at hu;subst hu;exact c.len)
 rw[show fi [Value.agg ⟨cs⟩,c.v]=cs++c.cs from rR cs c.cs]at this;exact nj.row this rfl
def Q9 (L:List Tok)(TT:Nat->PR bk)(a:bk)(k:Nat):PR bk:=if eM L k [58,58]=true then bd (TT (k+1)) λb k=>yes (Qj a b) k else yes a k
theorem Q_ {TT:Nat->PR bk}(hT:cY 148 L bk.v TT)(hL:L.length<=100000){n:Nat}{cs z:List Value}{a:bk}{x0 x1:Nat}{o:nh bk}(hv:nj n cs a G)(hn:n<=99990)(hz:z.length=4)(ho:Q9 L TT a k=some o)
 (h:Hp nx0 H0 (fu bp L k::(x1,cs,47)::(x0,z,47)::(G++F)) H nx):bA P pl X0 (.jump (sP (ptr bp) (ptr x0) (ptr x1) H nx)) nx0 H0 (End nx0 H0 bp L F bk.v o):=by
 refine Wq.jmp (S6 ..) (λ_=>rfl) ?_;unfold Q9 at ho;refine Sq.take hL h (λhi H1 aI h1=> ?_) (λhi H1 aI h1=> ?_)
 . rw[if_pos hi]at ho;simp only[af,AW (h1.at_ 1 rfl) hv.len];refine Sq.call hT rfl h1 ho λc k' H2 nx2 _ ho2 h2=> ?_;simp only[af,AW (h2.at_ 1 rfl) hv.len,cg];refine Hq.UN cs c.cs hv.len c.len h2 λx H3 nx3 h3=> ?_;simp only[af,K6];refine Hq.nS [i64 5,i64 0,aK [],mO x 2 2] rfl h3 λy H4 nx4 h4=> ?_;simp only[af,UW];have h5:Hp nx0 H0 (fu bp L k'::(x0,z,47)::((y,[i64 5,i64 0,aK [],mO x 2 2],47)::(x,cs++c.cs,47)::G++F)) H4 nx4:=(Hp.mv [_,_,_] h4).sub (by simp);exact Hq.fin h5 fJ jc mA hz rfl rfl (nj.b1 (nj.b2 hv)).fz (by omega) λH5 nx5 h5=>End.ret ho2 rfl h5
 . rw[if_neg (by rw[hi];simp)]at ho;simp only[af,AW (h1.at_ 1 rfl) hv.len];have h4:Hp nx0 H0 (fu bp L k::(x0,z,47)::(G++F)) H1 aI:=(Hp.mv [_] h1).sub (by simp);exact Hq.fin h4 fJ jc mA hz hv.len hv.one hv.fz (by omega) λH5 nx5 h5=>End.ret ho rfl h5
theorem acE (hL:L.length<=100000){p:PS}(hpatom:cY 177 L bk.v p.gR)(hpat:cY 148 L bk.v p.pat):cY 148 L bk.v (zR L p):=by
 intro nx0 nx H0 H bp F k o ho h;unfold zR zQ at ho;have hc:∀(a:bk) (k:Nat),(if eM L k [58,58]=true then bd (p.pat (k+1)) λb k=>yes (Qj a b) k else yes a k)=Q9 L p.pat a k:=λ_ _=>rfl;simp only[hc]at ho;rw[aee];refine Hq.alloc fx h λx0 H1 aI h1=> ?_;refine Hq.alloc fx h1 λx1 H2 nx2 h2=> ?_;refine Sq.now h2 λH3 nx3 h3=> ?_;refine Sq.T1 h3 λH4 nx4 h4=> ?_;simp only[af];refine Wq.ite (λhi=> ?_) (λhi=> ?_)
 . rw[if_pos hi]at ho;simp only[af,pk h4,jC hL (kI (show(tk L k).k≠0 by omega))];refine gV h4 λH5 h5=> ?_;simp only[af,xe];refine Hq.set [_] h5 fJ rfl rfl rfl λH6 h6=> ?_
   refine Sq.ab6 h6 λH7 nx7 h7=> ?_;cases hb:qy L (k+1)with
   | true=>
     rw[hb,if_pos rfl,mc]at ho;simp only[jj]at ho;simp only[af];refine Sq.call hpatom rfl h7 ho λa k' H8 nx8 _ ho h8=> ?_;refine Hq.nS a.cs a.len h8 λx H9 nx9 h9=> ?_;refine Hq.put [_,_] h9 EV rfl rfl (by simp) rfl λH10 h10=> ?_;exact Q_ (n:=1) (G:=[(x,a.cs,47)]) hpat hL (nj.b1 (nj.of a)) (by omega) rfl ho (Hp.DF h10)
   | false=>
     rw[hb,if_neg (by simp),jj]at ho;simp only[af];exact Q_ (n:=0) (G:=[]) hpat hL nj.nil (by omega) rfl ho h7
 . rw[if_neg hi]at ho;refine Sq.call hpatom rfl h4 ho λa k' H5 nx5 _ ho h5=> ?_;refine Hq.set [_] h5 fJ rfl a.len (nj.of a).one λH6 h6=> ?_
   exact Q_ (n:=0) (G:=[]) hpat hL (nj.of a) (by omega) rfl ho h6
theorem acF (n:Int):HP P .neg (some (i64 n))=some (i64 (IntKind.i64.wrap (-n))):=by rw[wR,Int.zero_sub]
theorem Xl (hL:L.length<=100000):∀(m:Nat),(∀j,j<m->cY 148 L bk.v (ps L j).pat)->∀(l:List bk) (k:Nat) (sl:Value) (G:List Bx) (o:nh bk) (z:List Value) (x0 x1 nx:Nat) (H:Go.Ev.T OB),l.length+m<=90010->Gw true 4 47 (l.map bk.v) sl G->z.length=4->
 bd ((ps L m).ur l k) (λl k=>dj L [41] k λk=>yes (.mk 5 0 [] l) k)=some o->Hp nx0 H0 (fu bp L k::(x1,[i64 5,i64 0,aK [],sl],47)::(x0,z,47)::(G++F)) H nx->
 bA P pl X0 (.jump (wL (ptr bp) (ptr x0) (ptr x1) H nx)) nx0 H0 (End nx0 H0 bp L F bk.v o)
 | 0,_,l,k,sl,G,o,z,x0,x1,nx,H,hm,hG,hz,ho,h=>by cases ho
 | m+1,hp,l,k,sl,G,o,z,x0,x1,nx,H,hm,hG,hz,ho,h=>by
   have ho:bd (uZ L (ps L m) l k) (λl k=>dj L [41] k λk=>yes (.mk 5 0 [] l) k)=some o:=ho;unfold uZ at ho;refine Wq.jmp (Tp ..) (λ_=>rfl) ?_;refine Sq.take hL h (λhi H1 aI h1=> ?_) (λhi H1 aI h1=> ?_)
   . rw[if_pos hi,mc]at ho;simp only[af,aB (off:=3) (u:=sl) (h1.at_ 1 rfl) lj rfl];refine Sq.call (hp m (bz m)) rfl h1 ho λc k' H2 nx2 _ ho2 h2=> ?_;simp only[af,aB (off:=3) (u:=sl) (h2.at_ 1 rfl) lj rfl,cg];refine Hq.nS c.cs c.len h2 λx H3 nx3 h3=> ?_;simp only[af,aB (off:=3) (u:=sl) (h3.at_ 2 rfl) lj rfl,cg];refine Hq.Q7 [_,_] (x:=c) (by omega) hG h3 λsl' G' H4 nx4 hG' h4=> ?_;refine Hq.put [_] h4 EV (by rcases hG'.2 with⟨_,rfl,_⟩ | ⟨b,c,rfl,_⟩<;>rfl) (jv hG') (by simp) rfl λH5 h5=> ?_;exact Xl hL m (λj hj=>hp j (by omega)) (l++[c]) k' sl' G' o z x0 x1 nx4 H5 (by rw[aj];simp;omega) hG' hz ho2 h5
   . rw[if_neg (by rw[hi];simp),jj]at ho;simp only[af];refine Sq.ov hL h1 ho λH2 nx2 _ ho h2=> ?_;have hv:nj 1 [i64 5,i64 0,aK [],sl] (.mk 5 0 [] l) G:=nj.gw hG;simp only[af,AW (h2.at_ 1 rfl) hv.len];have h4:Hp nx0 H0 (fu bp L (k+1)::(x0,z,47)::(G++F)) H2 nx2:=(Hp.mv [_] h2).sub (by simp);exact Hq.fin h4 fJ jc mA hz hv.len hv.one hv.fz (by omega) λH5 nx5 h5=>End.ret ho rfl h5
theorem acG (hL:L.length<=100000){n:Nat}(hn:n<=90000)(hpat:∀j,j<=n->cY 148 L bk.v (ps L j).pat):cY 177 L bk.v (ps L (n+1)).gR:=by
 intro nx0 nx H0 H bp F k o ho h;have ho:hJ L (ps L n) k=some o:=ho;unfold hJ at ho;rw[aeA];refine Hq.alloc fx h λx0 H1 aI h1=> ?_;refine Sq.now h1 λH2 nx2 h2=> ?_;refine Sq.T1 h2 λH3 nx3 h3=> ?_;simp only[af];refine Wq.ite (λhi=> ?_) (λhi=> ?_)
 . rw[if_pos hi]at ho;simp only[af,pk h3,jC hL (kI (show(tk L k).k≠0 by omega))];refine gV h3 λH4 h4=> ?_;simp only[af,K7];exact Hq.fin (G:=[]) h4 fJ jc mA rfl rfl rfl nj.nil.fz (by omega) λH5 nx5 h5=>End.ret ho rfl h5
 rw[if_neg hi]at ho;refine Wq.ite (λhi=> ?_) (λhi=> ?_)
 . rw[if_pos hi]at ho;simp only[af,pk h3,jC hL (kI (show(tk L k).k≠0 by omega))];refine gV h3 λH4 h4=> ?_;simp only[af,xe];exact Hq.fin (G:=[]) h4 fJ jc mA rfl rfl rfl nj.nil.fz (by omega) λH5 nx5 h5=>End.ret ho rfl h5
 rw[if_neg hi]at ho;refine Wq.ite (λhi=> ?_) (λhi=> ?_)
 . rw[if_pos hi]at ho;simp only[af,pk h3,jC hL (kI (show(tk L k).k≠0 by omega))];refine gV h3 λH4 h4=> ?_;simp only[af,xe];exact Hq.fin (G:=[]) h4 fJ jc mA rfl rfl rfl nj.nil.fz (by omega) λH5 nx5 h5=>End.ret ho rfl h5
 rw[if_neg hi]at ho;refine Wq.ite (λhi=> ?_) (λhi=> ?_)
 . rw[if_pos hi]at ho;simp only[af,pk h3,jC hL (kI (show(tk L k).k≠0 by omega))];refine gV h3 λH4 h4=> ?_;simp only[af,xe];exact Hq.fin (G:=[]) h4 fJ jc mA rfl rfl rfl nj.nil.fz (by omega) λH5 nx5 h5=>End.ret ho rfl h5
 rw[if_neg hi]at ho;refine Sq.take hL h3 (λhi H4 nx4 h4=> ?_) (λhi H4 nx4 h4=> ?_)
 . rw[if_pos hi]at ho;simp only[af];exact Hq.fin (G:=[]) h4 fJ jc mA rfl rfl rfl nj.nil.fz (by omega) λH5 nx5 h5=>End.ret ho rfl h5
 rw[if_neg (by rw[hi];simp)]at ho;simp only[af];refine Sq.take hL h4 (λhi H5 nx5 h5=> ?_) (λhi H5 nx5 h5=> ?_)
 . rw[if_pos hi]at ho;simp only[af];refine Sq.word (by decide) hL h5 ho λH6 nx6 _ ho h6=> ?_;simp only[af,acF,K7];exact Hq.fin (G:=[]) h6 fJ jc mA rfl rfl rfl nj.nil.fz (by omega) λH7 nx7 h7=>End.ret ho rfl h7
 rw[if_neg (by rw[hi];simp)]at ho;simp only[af];refine Sq.ov hL h5 ho λH6 nx6 _ ho h6=> ?_;refine Sq.take hL h6 (λhi H7 nx7 h7=> ?_) (λhi H7 nx7 h7=> ?_)
 . rw[if_pos hi]at ho;simp only[af];exact Hq.fin (G:=[]) h7 fJ jc mA rfl rfl rfl nj.nil.fz (by omega) λH8 nx8 h8=>End.ret ho rfl h8
 rw[if_neg (by rw[hi];simp)]at ho;simp only[af];refine Sq.call (hpat n (ax n)) rfl h7 ho λa k' H8 nx8 _ ho h8=> ?_;refine Hq.alloc fx h8 λx1 H9 nx9 h9=> ?_;refine Hq.set [_] h9 fJ rfl a.len (nj.of a).one λH10 h10=> ?_
 refine Sq.is h10 λH11 nx11 h11=> ?_;cases hc:eM L k' [44]with
 | true=>
   rw[hc,if_pos rfl]at ho;simp only[af,AW (h11.at_ 1 rfl) a.len];refine Hq.nS a.cs a.len h11 λx H12 nx12 h12=> ?_;simp only[af,K6];refine Hq.set [_,_] h12 fJ a.len rfl rfl λH13 h13=> ?_
   exact Xl hL (n+1) (λj hj=>hpat j (by omega)) [a] k' (mO x 1 1) [(x,a.cs,47)] o _ x0 x1 nx12 H13 (show 1+(n+1)<=90010 by omega) (Gw.vt a.lx) rfl ho (Hp.DF h13)
 | false=>
   rw[hc,if_neg (by simp)]at ho;simp only[af];refine Wq.jmp (Tq ..) (λ_=>rfl) ?_;refine Sq.ov hL h11 ho λH12 nx12 _ ho h12=> ?_;simp only[af,AW (h12.at_ 1 rfl) a.len];have h4:Hp nx0 H0 (fu bp L (k'+1)::(x0,[i64 0,i64 0,aK [],a_],47)::([]++F)) H12 nx12:=(Hp.mv [_] h12).sub (by simp);exact Hq.fin h4 fJ jc mA rfl a.len (nj.of a).one a.fz (by omega) λH5 nx5 h5=>End.ret ho rfl h5
end
section
variable {nx0 nx nx' bp k:Nat}{H0 H H':T OB}{F A B G G':List Bx}{s:Bx}{R:Go.Ev.Out->T OB->Nat->Prop}{b:Nat}{l:List Value}{e t:TypeId}{L:List Tok}
structure jV (n:Nat)(cs:List Value)(a:aO)(G:List Bx):Prop where
 len:cs.length=6
 one:cs.all aC=true
 fz:lE n [(3,41),(4,42),(5,24)] (.agg ⟨cs⟩) a.v G
theorem jV.of (a:aO):jV 0 a.cs a []:=⟨a.len,(a.lx a.v (by simp)).2.1,a.fz⟩
theorem jV.lx {n:Nat}{cs:List Value}{a:aO}(h:jV n cs a G):vl true 6 [.agg ⟨cs⟩]:=λv hv=>by
 rw[aP]at hv;subst hv;exact⟨h.len,h.one,⟨_,rfl⟩⟩
theorem jV.row {k i:Int}{w:List UInt8}{sl sp sd:Value}{l:List aO}{p:List bk}{d:List bm}{n:Nat}{G1 G2 G3:List Bx}(h1:fZ n 41 sl (fK l) G1)(h2:fZ n 42 sp (cL p) G2)(h3:fZ n 24 sd (cb d) G3)(o1:aC sl=true)(o2:aC sp=true)(o3:aC sd=true):
 jV n [i64 k,i64 i,aK w,sl,sp,sd] (.mk k i w l p d) (G1++(G2++G3)):=⟨rfl,by simp[o1,o2,o3],by
 rw[aO.bX];exact lE.of (jJ.cons (p:=(3,41)) (cs:=[i64 k,i64 i,aK w,sl,sp,sd]) rfl h1 (jJ.cons (p:=(4,42)) rfl h2 (jJ.one (p:=(5,24)) rfl h3)))⟩
theorem pj {n:Nat}:fZ n 42 a_ (cL []) []:=(fZ.nil iN fJ).mono (aN n)
theorem AX {n:Nat}:fZ n 24 a_ (cb []) []:=(fZ.nil jT gQ).mono (aN n)
theorem FL {n:Nat}:fZ n 41 a_ (fK []) []:=(fZ.nil jU dE).mono (aN n)
theorem jV.ll {k i:Int}{w:List UInt8}{sl:Value}{l:List aO}{n:Nat}(h:fZ n 41 sl (fK l) G)(ho:aC sl=true):jV n [i64 k,i64 i,aK w,sl,a_,a_] (.mk k i w l [] []) G:=by
 have:=jV.row (k:=k) (i:=i) (w:=w) h (pj (n:=n)) (AX (n:=n)) ho rfl rfl;rwa[bf,bf]at this
theorem jV.nil {k i:Int}{w:List UInt8}:jV 0 [i64 k,i64 i,aK w,a_,a_,a_] (.mk k i w [] [] []) []:=jV.ll FL rfl
theorem jV.gw {k i:Int}{w:List UInt8}{sl:Value}{l:List aO}(h:Gw true 6 44 (l.map aO.v) sl G):jV 1 [i64 k,i64 i,aK w,sl,a_,a_] (.mk k i w l [] []) G:=jV.ll h.acx (jv h)
theorem jV.b1 {k i:Int}{w:List UInt8}{n:Nat}{cs:List Value}{a:aO}(h:jV n cs a G):jV (n+1) [i64 k,i64 i,aK w,mO b 1 1,a_,a_] (.mk k i w [a] [] []) ((b,cs,44)::G):=by
 have:=fZ.gr (t:=41) (b:=b) jU dE fY rfl ko h.lx (.inr rfl) (by simp) (m6.one h.fz) (λu hu=>by rw[aP]at hu;subst hu;exact a.len);rw[mb cs]at this;exact jV.ll this rfl
theorem jV.b2 {k i:Int}{w:List UInt8}{n:Nat}{cs:List Value}{a c:aO}(h:jV n cs a G):jV (n+1) [i64 k,i64 i,aK w,mO b 2 2,a_,a_] (.mk k i w [a,c] [] []) ((b,cs++c.cs,44)::G):=by
 have:=fZ.gr (t:=41) (b:=b) (vs:=[.agg ⟨cs⟩,c.v]) jU dE fY rfl ko (λv hv=>by
  rcases aG.1 hv with rfl | hv
  . exact h.lx _ (by simp)
  . exact c.lx v hv) (.inr rfl) (by simp) (m6.two h.fz c.fz) (λu hu=>by
  rcases aG.1 hu with rfl | hu
  . exact a.len
  . rw[aP]at hu;subst hu;exact c.len)
 rw[show fi [Value.agg ⟨cs⟩,c.v]=cs++c.cs from rR cs c.cs]at this;exact jV.ll this rfl
theorem jV.b3 {k i:Int}{w:List UInt8}{a c d:aO}:jV 1 [i64 k,i64 i,aK w,mO b 3 3,a_,a_] (.mk k i w [a,c,d] [] []) [(b,a.cs++c.cs++d.cs,44)]:=by
 have hG:Gw true 6 44 ([a,c,d].map aO.v) (mO b 3 3) [(b,fi ([a,c,d].map aO.v),44)]:=Gw.one (aO.ae4 _) rfl (by decide);have e:fi ([a,c,d].map aO.v)=a.cs++c.cs++d.cs:=by
  show a.cs++(c.cs++(d.cs++[]))=_;rw[bf,bn]
 rw[e]at hG;exact jV.gw hG
theorem Xm (hL:L.length<=100000):∀(m:Nat),(∀j,j<m->cY 148 L bk.v (ps L j).pat)->(∀j,j<m->cY 61 L aO.v (ps L j).exp)->∀(kk:Int) (l:List aO) (q:List bk) (k:Nat) (sl sp:Value) (G G':List Bx) (o:nh aO) (z:List Value) (x0 x1 nx:Nat) (H:Go.Ev.T OB),l.length+m<=90010->q.length+m<=90010->
 Gw true 6 44 (l.map aO.v) sl G->Gw true 4 47 (q.map bk.v) sp G'->z.length=6->(ps L m).uq (.mk kk 0 [] l q []) k=some o->Hp nx0 H0 (fu bp L k::(x1,[i64 kk,i64 0,aK [],sl,sp,a_],44)::(x0,z,44)::(G++(G'++F))) H nx->
 bA P pl X0 (.jump (CC (ptr bp) (ptr x1) (ptr x0) H nx)) nx0 H0 (End nx0 H0 bp L F aO.v o)
 | 0,_,_,kk,l,q,k,sl,sp,G,G',o,z,x0,x1,nx,H,hm,hm',hG,hG',hz,ho,h=>by cases ho
 | m+1,hp,he,kk,l,q,k,sl,sp,G,G',o,z,x0,x1,nx,H,hm,hm',hG,hG',hz,ho,h=>by
   have ho:Fv L (ps L m) (.mk kk 0 [] l q []) k=some o:=ho;unfold Fv at ho;refine Wq.jmp (YP ..) (λ_=>rfl) ?_;simp only[af,aB (off:=4) (u:=sp) (h.at_ 1 rfl) lj rfl];refine Sq.call (hp m (bz m)) rfl h ho λa k' H2 nx2 _ ho h2=> ?_;simp only[af,aB (off:=4) (u:=sp) (h2.at_ 1 rfl) lj rfl,cg];refine Hq.nS a.cs a.len h2 λx H3 nx3 h3=> ?_;simp only[af,aB (off:=4) (u:=sp) (h3.at_ 2 rfl) lj rfl,cg];refine Hq.Q7 (_::_::G) (x:=a) (by omega) hG' h3 λsp' G2 H4 nx4 hG2 h4=> ?_;refine Hq.put [_] h4 EV (by rcases hG2.2 with⟨_,rfl,_⟩ | ⟨b,c,rfl,_⟩<;>rfl) (jv hG2) (by simp) rfl λH5 h5=> ?_;refine Sq.ov hL h5 ho λH6 nx6 _ ho h6=> ?_;simp only[af,aB (off:=3) (u:=sl) (h6.at_ 1 rfl) mJ rfl];refine Sq.call (he m (bz m)) rfl h6 ho λc k2 H7 nx7 _ ho h7=> ?_;simp only[af,aB (off:=3) (u:=sl) (h7.at_ 1 rfl) mJ rfl,cg];refine Hq.kr c.cs c.len h7 λy H8 nx8 h8=> ?_;simp only[af,aB (off:=3) (u:=sl) (h8.at_ 2 rfl) mJ rfl,cg];refine Hq.Q6 [_,_] (x:=c) (by omega) hG h8 λsl' G1 H9 nx9 hG1 h9=> ?_;refine Hq.put [_] h9 Ay (by rcases hG1.2 with⟨_,rfl,_⟩ | ⟨b,c,rfl,_⟩<;>rfl) (jv hG1) (by simp) rfl λH10 h10=> ?_;refine Sq.take hL h10 (λhi H11 nx11 h11=> ?_) (λhi H11 nx11 h11=> ?_)
   . rw[if_pos hi]at ho;simp only[af];exact Xm hL m (λj hj=>hp j (by omega)) (λj hj=>he j (by omega)) kk (l++[c]) (q++[a]) (k2+1) sl' sp' G1 G2 o z x0 x1 nx11 H11 (by rw[aj];simp;omega) (by rw[aj];simp;omega) hG1 hG2 hz ho h11
   . rw[if_neg (by rw[hi];simp)]at ho;have hv:jV 1 [i64 kk,i64 0,aK [],sl',sp',a_] (.mk kk 0 [] (l++[c]) (q++[a]) []) (G1++(G2++[])):=jV.row hG1.acx hG2.aaj AX (jv hG1) (jv hG2) rfl;simp only[af,lf (h11.at_ 1 rfl) hv.len];have h12:Hp nx0 H0 (fu bp L k2::(x0,z,44)::((G1++(G2++[]))++F)) H11 nx11:=by
      rw[bf,bn];exact(Hp.mv [_] h11).sub (by simp)
     exact Hq.fin h12 dE fY ko hz hv.len hv.one hv.fz (by omega) λH5 nx5 h5=>End.ret ho rfl h5
def U5 (L:List Tok)(r:aO->Nat->PR aO):Prop:=∀(nx0 nx:Nat) (H0 H:Go.Ev.T OB) (bp:Nat) (F G:List Bx) (k:Nat) (o:nh aO) (kk:Int) (l:List aO) (sl:Value),l.length<=3->Gw true 6 44 (l.map aO.v) sl G->r (.mk kk 0 [] l [] []) k=some o->Hp nx0 H0 (fu bp L k::(G++F)) H nx->
 bA P pl X0 (aX P pl (.call 107 [ptr bp,.agg ⟨[i64 kk,i64 0,aK [],sl,a_,a_]⟩] false none H nx)) nx0 H0 (End nx0 H0 bp L F aO.v o)
theorem acH (hL:L.length<=100000){n:Nat}(hn:n<=90000)(hp:∀j,j<=n->cY 148 L bk.v (ps L j).pat)(he:∀j,j<=n->cY 61 L aO.v (ps L j).exp):U5 L (ps L (n+1)).uq:=by
 intro nx0 nx H0 H bp F G k o kk l sl hl hG ho h;rw[adM];refine Hq.box h λx1 H1 aI h1=> ?_;refine Hq.alloc de h1 λx0 H2 nx2 h2=> ?_;exact Xm hL (n+1) (λj hj=>hp j (by omega)) (λj hj=>he j (by omega)) kk l [] k sl a_ G [] o _ x0 x1 nx2 H2 (by omega) (by simp;omega) hG (Gw.nil _ _ _) rfl ho (Hp.swap' h2)
theorem uA {α:Type}(x:PR α):bd x yes=x:=by
 cases x with
 | none=>rfl
 | some r=>cases r<;>rfl
theorem Sq.Ra {β:Type}{F1:List Bx}{vg:β->Value}{r:aO->Nat->PR aO}{g:aO->Nat->PR β}{o:nh β}{kk:Int}{l:List aO}{sl:Value}{kt:Value->Go.Ev.T OB->Nat->Q}(hs:U5 L r)(hl:l.length<=3)(hG:Gw true 6 44 (l.map aO.v) sl G)(h:Hp nx0 H0 (fu bp L k::(G++F1)) H nx)
 (ho:bd (r (.mk kk 0 [] l [] []) k) g=some o) (hk:∀a k' H' nx',g a k'=some o->Hp nx0 H0 (fu bp L k'::F1) H' nx'->bA P pl X0 (kt a.v H' nx') nx0 H0 (End nx0 H0 bp L F vg o)):
 bA P pl X0 (dm (.call 107 [ptr bp,.agg ⟨[i64 kk,i64 0,aK [],sl,a_,a_]⟩] false none H nx) kt Ev.jy) nx0 H0 (End nx0 H0 bp L F vg o):=by
 cases hr:r (.mk kk 0 [] l [] []) k with
 | none=>rw[hr]at ho;cases ho
 | some q=>
   refine Wq.lS rfl (hs nx0 nx H0 H bp F1 G k q kk l sl hl hG hr h) (λu H' nx' _ he=> ?_) (λu H' nx' hA he=> ?_)
   . cases q with
     | bad a=>cases he
     | ok a k'=>
       rw[hr,KK]at ho;cases he.1;exact hk a k' H' nx' ho he.2
   . cases q with
     | ok a k'=>cases he.1
     | bad a=>
       rw[hr,Dk]at ho;cases ho;cases he;exact Sq.jy hA
theorem Hq.U6 {a:aO}{kt:Go.Ev.T OB->Nat->Q}(h:Hp nx0 H0 F H nx)(hk:∀H' nx',Hp nx0 H0 F H' nx'->bA P pl X0 (kt H' nx') nx0 H0 R):bA P pl X0 (bU (eN P H nx 44) λp H nx=>sx P H nx 44 (some p) a.v kt) nx0 H0 R:=Hq.var de dE rfl a.len (jV.of a).one h hk
theorem ldE (a:aO):aA P H 44 (some (ah a.v))=some a.v:=by
 rw[aO.bX];exact NF ..
theorem Hq.HA {z:List Value}{a:aO}{x0:Nat}{kt:Value->Go.Ev.T OB->Nat->Q}(h:Hp nx0 H0 (s::(x0,z,44)::F) H nx)(hz:z.length=6)(hk:∀H' nx',Hp nx0 H0 (s::F) H' nx'->bA P pl X0 (kt a.v H' nx') nx0 H0 R):
 bA P pl X0 (bU (eD P H nx 44 (some (ptr x0)) (some a.v)) λ_ H nx=>aw (aA P H 44 (some (ptr x0))) (λx=>dM P 44 x H nx kt) .bad) nx0 H0 R:=
 Hq.fin (G:=[]) h dE fY ko hz a.len (jV.of a).one a.fz (by omega) hk
theorem ae8 (hL:L.length<=100000){p:PS}(hexp:cY 61 L aO.v p.exp)(hmat:U5 L p.uq)(hbin:∀nx0 nx H0 H bp F k o,p.bin 0 k=some o->Hp nx0 H0 (fu bp L k::F) H nx->bA P pl X0 (aX P pl (.call 108 [ptr bp,i64 0] false none H nx)) nx0 H0 (End nx0 H0 bp L F aO.v o)):cY 61 L aO.v (oo L p):=by
 intro nx0 nx H0 H bp F k o ho h;unfold oo at ho;rw[q61];refine Hq.alloc de h λx0 H1 aI h1=> ?_;refine Sq.take hL h1 (λhi H2 nx2 h2=> ?_) (λhi H2 nx2 h2=> ?_)
 . rw[if_pos hi]at ho;simp only[af];refine Sq.call hexp rfl h2 ho λa k2 H3 nx3 _ ho h3=> ?_;refine Hq.U6 h3 λH4 nx4 h4=> ?_;refine Sq.ov hL h4 ho λH5 nx5 _ ho h5=> ?_;refine Sq.call hexp rfl h5 ho λb k3 H6 nx6 _ ho h6=> ?_;refine Hq.U6 h6 λH7 nx7 h7=> ?_;refine Sq.ov hL h7 ho λH8 nx8 _ ho h8=> ?_;simp only[af,ldE];refine Sq.call hexp rfl h8 ho λc k4 H9 nx9 _ ho h9=> ?_;refine Hq.UK a.cs b.cs c.cs a.len b.len c.len h9 λx H10 nx10 h10=> ?_;simp only[af,mE];have h11:Hp nx0 H0 (fu bp L k4::(x0,_,44)::([(x,a.cs++b.cs++c.cs,44)]++F)) H10 nx10:=Hp.swap' h10;exact Hq.fin h11 dE fY ko rfl rfl rfl jV.b3.fz (by omega) λH5 nx5 h5=>End.ret ho rfl h5
 rw[if_neg (by rw[hi];simp)]at ho;simp only[af];refine Sq.take hL h2 (λhi H3 nx3 h3=> ?_) (λhi H3 nx3 h3=> ?_)
 . rw[if_pos hi]at ho;simp only[af];refine Sq.call hexp rfl h3 ho λa k2 H4 nx4 _ ho h4=> ?_;refine Hq.U6 h4 λH5 nx5 h5=> ?_;refine Sq.ov hL h5 ho λH6 nx6 _ ho h6=> ?_;simp only[af,ldE];refine Hq.kr a.cs a.len h6 λx H7 nx7 h7=> ?_;simp only[af,mE];rw[<- uA (p.uq _ _)]at ho;refine Sq.Ra hmat (l:=[a]) (by simp) (Gw.vt a.lx) h7 ho λc k3 H8 nx8 ho h8=> ?_;exact Hq.HA h8 rfl λH9 nx9 h9=>End.ret ho rfl h9
 rw[if_neg (by rw[hi];simp)]at ho;simp only[af];refine Sq.take hL h3 (λhi H4 nx4 h4=> ?_) (λhi H4 nx4 h4=> ?_)
 . rw[if_pos hi]at ho;simp only[af];rw[<- uA (p.uq _ _)]at ho;refine Sq.Ra hmat (l:=[]) (G:=[]) (by simp) (Gw.nil _ _ _) h4 ho λc k3 H8 nx8 ho h8=> ?_;exact Hq.HA h8 rfl λH9 nx9 h9=>End.ret ho rfl h9
 rw[if_neg (by rw[hi];simp)]at ho;simp only[af];refine Sq.take hL h4 (λhi H5 nx5 h5=> ?_) (λhi H5 nx5 h5=> ?_)
 . rw[if_pos hi]at ho;simp only[af];refine Sq.call hexp rfl h5 ho λa k2 H6 nx6 _ ho h6=> ?_;refine Hq.kr a.cs a.len h6 λx H7 nx7 h7=> ?_;simp only[af,mE];have h11:Hp nx0 H0 (fu bp L k2::(x0,_,44)::([(x,a.cs,44)]++F)) H7 nx7:=Hp.swap' h7;exact Hq.fin h11 dE fY ko rfl rfl rfl (jV.b1 (jV.of a)).fz (by omega) λH5 nx5 h5=>End.ret ho rfl h5
 rw[if_neg (by rw[hi];simp)]at ho;simp only[af];cases hr:p.bin 0 k with
 | none=>rw[hr]at ho;cases ho
 | some q=>
   refine Wq.lS rfl (hbin nx0 nx5 H0 H5 bp _ k q hr h5) (λu H6 nx6 _ he=> ?_) (λu H6 nx6 hA he=> ?_)
   . cases q with
     | bad a=>cases he
     | ok a k2=>
       rw[hr,KK]at ho;obtain⟨he1,h6⟩:=he;cases he1;refine Hq.U6 h6 λH7 nx7 h7=> ?_;refine Sq.take hL h7 (λhi H8 nx8 h8=> ?_) (λhi H8 nx8 h8=> ?_)
       . rw[if_pos hi]at ho;simp only[af,ldE];refine Hq.kr a.cs a.len h8 λx H9 nx9 h9=> ?_;simp only[af,mE];rw[<- uA (p.uq _ _)]at ho;refine Sq.Ra hmat (l:=[a]) (by simp) (Gw.vt a.lx) h9 ho λc k3 H10 nx10 ho h10=> ?_;exact Hq.HA h10 rfl λH9 nx9 h9=>End.ret ho rfl h9
       . rw[if_neg (by rw[hi];simp)]at ho;simp only[af,ldE];exact Hq.HA h8 rfl λH9 nx9 h9=>End.ret ho rfl h9
   . cases q with
     | ok a k'=>cases he.1
     | bad a=>
       rw[hr,Dk]at ho;cases ho;cases he;exact Sq.jy hA
end
section
variable {nx0 nx nx' bp k:Nat}{H0 H H':T OB}{F A B G G':List Bx}{s:Bx}{R:Go.Ev.Out->T OB->Nat->Prop}{b:Nat}{l:List Value}{e t:TypeId}{L:List Tok}
theorem U7:∀(i:Nat),i<7->cq P 182 (some (.pointer (some ⟨2,0,none⟩))) (some (i64 (i:Int)))=some (.pointer (some ⟨2,i,none⟩))
 | 0,_=>by kernel_rfl
 | 1,_=>by kernel_rfl
 | 2,_=>by kernel_rfl
 | 3,_=>by kernel_rfl
 | 4,_=>by kernel_rfl
 | 5,_=>by kernel_rfl
 | 6,_=>by kernel_rfl
 | i+7,h=>by omega
theorem K8 {i:Nat}(h:i<7):bx[i]? = some ((bx[i]?).getD [])/\((bx[i]?).getD []).length<ei/\((bx[i]?).getD []).contains []=false/\∀w,((bx[i]?).getD []).contains w=true->(decide (w=[58,61])||decide (w=[58,58]))=decide (i=2\/i=4):=by
 have:∀i,i<7->bx[i]? = some ((bx[i]?).getD [])/\((bx[i]?).getD []).length<100/\((bx[i]?).getD []).contains []=false/\(((bx[i]?).getD []).all λw=>(decide (w=[58,61])||decide (w=[58,58])) == decide (i=2\/i=4))=true:=by decide +kernel
 obtain⟨h1,h2,h3,h4⟩:=this i h;refine⟨h1,Nat.lt_trans h2 (by decide),h3,λw hw=> ?_⟩;have hm:w∈(bx[i]?).getD []:=by simpa using hw
 have:=aM.1 h4 w hm;simpa using this
def Rb (L:List Tok)(r:Nat->Nat->PR aO):Prop:=∀(lv nx0 nx:Nat) (H0 H:Go.Ev.T OB) (bp:Nat) (F:List Bx) (k:Nat) (o:nh aO),lv<=7->r lv k=some o->Hp nx0 H0 (fu bp L k::F) H nx->bA P pl X0 (aX P pl (.call 108 [ptr bp,i64 (lv:Int)] false none H nx)) nx0 H0 (End nx0 H0 bp L F aO.v o)
theorem Sq.gZ {β:Type}{F1:List Bx}{vg:β->Value}{lv:Nat}{r:Nat->Nat->PR aO}{g:aO->Nat->PR β}{o:nh β}{kt:Value->Go.Ev.T OB->Nat->Q}(hs:Rb L r)(hl:lv<=7)(h:Hp nx0 H0 (fu bp L k::F1) H nx)
 (ho:bd (r lv k) g=some o) (hk:∀a k' H' nx',g a k'=some o->Hp nx0 H0 (fu bp L k'::F1) H' nx'->bA P pl X0 (kt a.v H' nx') nx0 H0 (End nx0 H0 bp L F vg o)):
 bA P pl X0 (dm (.call 108 [ptr bp,i64 (lv:Int)] false none H nx) kt Ev.jy) nx0 H0 (End nx0 H0 bp L F vg o):=by
 cases hr:r lv k with
 | none=>rw[hr]at ho;cases ho
 | some q=>
   refine Wq.lS rfl (hs lv nx0 nx H0 H bp F1 k q hl hr h) (λu H' nx' _ he=> ?_) (λu H' nx' hA he=> ?_)
   . cases q with
     | bad a=>cases he
     | ok a k'=>
       rw[hr,KK]at ho;cases he.1;exact hk a k' H' nx' ho he.2
   . cases q with
     | ok a k'=>cases he.1
     | bad a=>
       rw[hr,Dk]at ho;cases ho;cases he;exact Sq.jy hA
theorem U8 {lv k:Nat}(h:lv<7):om L lv k=(!decide ((if o8 L k=true then(tk L k).s else[])=[])&&((bx[lv]?).getD []).contains (if o8 L k=true then(tk L k).s else[])):=by
 obtain⟨_,_,h3,_⟩:=K8 h;unfold om;cases o8 L k with
 | false=>simp
 | true=>
   rw[ai,if_pos rfl]
   by_cases hs:(tk L k).s=[]
   . rw[hs,h3];simp
   . simp[hs]
theorem Rc {L:List Tok}{k:Nat}(h:o8 L k=true):k<L.length:=kI λq=>by unfold o8 at h;rw[q]at h;simp at h
theorem Xn (hL:L.length<=100000){lv:Nat}(hlv:lv<7):∀(m:Nat),(∀j,j<m->Rb L (ps L j).bin)->∀(a:aO) (k n:Nat) (cs z:List Value) (G:List Bx) (o:nh aO) (x0 x1 nx:Nat) (H:Go.Ev.T OB),n+m<=90010->jV n cs a G->z.length=6->(ps L m).zP lv a k=some o->
 Hp nx0 H0 (fu bp L k::(x1,cs,44)::(x0,z,44)::(G++F)) H nx->bA P pl X0 (.jump (vO (ptr bp) (i64 (lv:Int)) (ptr x0) (ptr x1) H nx)) nx0 H0 (End nx0 H0 bp L F aO.v o)
 | 0,_,a,k,n,cs,z,G,o,x0,x1,nx,H,hm,hv,hz,ho,h=>by cases ho
 | m+1,hb,a,k,n,cs,z,G,o,x0,x1,nx,H,hm,hv,hz,ho,h=>by
   have ho:vo L (ps L m) lv a k=some o:=ho;unfold vo at ho;obtain⟨hg1,hg2,hg3,hg4⟩:=K8 hlv;refine Wq.jmp (SF ..) (λ_=>rfl) ?_;refine Sq.op h λH1 aI h1=> ?_;have fin:∀(w:Value) H2 nx2,om L lv k=false->Hp nx0 H0 (fu bp L k::(x1,cs,44)::(x0,z,44)::(G++F)) H2 nx2->bA P pl X0 (.jump (vP (ptr bp) (i64 (lv:Int)) (ptr x0) (ptr x1) w true H2 nx2)) nx0 H0 (End nx0 H0 bp L F aO.v o):=by
    intro w H2 nx2 hf h2;rw[if_neg (by rw[hf];simp)]at ho;refine Wq.jmp (J0 ..) (λ_=>rfl) ?_;simp only[af,lf (h2.at_ 1 rfl) hv.len];have h3:Hp nx0 H0 (fu bp L k::(x0,z,44)::(G++F)) H2 nx2:=(Hp.mv [_] h2).sub (by simp);exact Hq.fin h3 dE fY ko hz hv.len hv.one hv.fz (by omega) λH5 nx5 h5=>End.ret ho rfl h5
   have hop:=U8 (L:=L) (k:=k) hlv;simp only[af,dtx];refine Wq.ite (λhw=> ?_) (λhw=> ?_)
   . exact fin _ H1 aI (by rw[hop,hw];simp) h1
   . simp only[af,U7 lv hlv,ug (h1.Dh.ag h1.ag).levels BI (show(bx.map lvl)[lv]? = some (lvl ((bx[lv]?).getD []))by rw[bS,hg1];rfl)];refine Hq.call (Qn _ hg2 _) h1 λH2 nx2 h2=> ?_;simp only[af];cases hc:((bx[lv]?).getD []).contains (if o8 L k=true then(tk L k).s else[])with
     | false=>exact fin _ H2 nx2 (by rw[hop,hc,cU]) h2
     | true=>
       have oJ:om L lv k=true:=by rw[hop,hc];simp[hw]
       have hW:o8 L k=true:=by
        unfold om at oJ;rw[ae]at oJ;exact oJ.1
       rw[if_pos oJ]at ho;rw[if_pos hW]at hc ⊢;refine Wq.jmp (J0 ..) (λ_=>rfl) ?_;simp only[af,pk h2,jC hL (Rc hW)];refine gV h2 λH3 h3=> ?_;refine Hq.call (Z6 _) h3 λH4 nx4 h4=> ?_;rw[hg4 _ hc];refine Wq.ite (λhr=> ?_) (λhr=> ?_)
       . rw[if_pos hr]at ho;simp only[af,lf (h4.at_ 1 rfl) hv.len];refine Sq.gZ (hb m (bz m)) (by omega) h4 ho λc k' H5 nx5 ho h5=> ?_;simp only[af,lf (h5.at_ 1 rfl) hv.len,cg];refine Hq.DB cs c.cs hv.len c.len h5 λx H6 nx6 h6=> ?_;simp only[af,DC];have h7:Hp nx0 H0 (fu bp L k'::(x0,z,44)::((x,cs++c.cs,44)::G++F)) H6 nx6:=(Hp.mv [_,_] h6).sub (by simp);exact Hq.fin h7 dE fY ko hz rfl rfl (jV.b2 hv).fz (by omega) λH5 nx5 h5=>End.ret ho rfl h5
       . rw[if_neg hr]at ho;simp only[af,lf (h4.at_ 1 rfl) hv.len,az (show lv<9223372036854775807 by omega)];refine Sq.gZ (lv:=lv+1) (hb m (bz m)) (by omega) h4 ho λc k' H5 nx5 ho h5=> ?_;simp only[af,lf (h5.at_ 1 rfl) hv.len,cg];refine Hq.DB cs c.cs hv.len c.len h5 λx H6 nx6 h6=> ?_;simp only[af,DC];refine Hq.set [_,_] h6 dE hv.len rfl rfl λH7 h7=> ?_
         exact Xn hL hlv m (λj hj=>hb j (by omega)) _ k' (n+1) _ z ((x,cs++c.cs,44)::G) o x0 x1 nx6 H7 (by omega) (jV.b2 hv) hz ho (Hp.DF h7)
theorem acI (hL:L.length<=100000){n:Nat}(hn:n<=90000)(hb:∀j,j<=n->Rb L (ps L j).bin)(hu:cY 151 L aO.v (ps L n).un):Rb L (ps L (n+1)).bin:=by
 intro lv nx0 nx H0 H bp F k o hlv ho h;have ho:s9 L (ps L n) lv k=some o:=ho;unfold s9 at ho;rw[adN];refine Hq.alloc de h λx0 H1 aI h1=> ?_;simp only[af];refine Wq.ite (λhi=> ?_) (λhi=> ?_)
 . rw[if_pos (by omega),<- uA ((ps L n).un k)]at ho;refine Sq.call hu rfl h1 ho λa k' H2 nx2 _ ho h2=> ?_;exact Hq.HA h2 rfl λH9 nx9 h9=>End.ret ho rfl h9
 . rw[if_neg (by omega)]at ho;simp only[af,az (show lv<9223372036854775807 by omega)];refine Sq.gZ (lv:=lv+1) (hb n (ax n)) (by omega) h1 ho λa k' H2 nx2 ho h2=> ?_;refine Hq.alloc de h2 λx1 H3 nx3 h3=> ?_;refine Hq.set [_] h3 dE rfl a.len (jV.of a).one λH4 h4=> ?_
   exact Xn hL (by omega) (n+1) (λj hj=>hb j (by omega)) a k' 0 _ _ [] o x0 x1 nx3 H4 (by omega) (jV.of a) rfl ho h4
theorem Xo (hL:L.length<=100000):∀(m:Nat),(∀j,j<m->cY 178 L aO.v (ps L j).atom)->∀(a:aO) (k n:Nat) (cs z:List Value) (G:List Bx) (o:nh aO) (x0 x1 nx:Nat) (H:Go.Ev.T OB),n+m<=90010->jV n cs a G->z.length=6->(ps L m).y8 a k=some o->
 Hp nx0 H0 (fu bp L k::(x1,cs,44)::(x0,z,44)::(G++F)) H nx->bA P pl X0 (.jump (wm (ptr bp) (ptr x0) (ptr x1) H nx)) nx0 H0 (End nx0 H0 bp L F aO.v o)
 | 0,_,a,k,n,cs,z,G,o,x0,x1,nx,H,hm,hv,hz,ho,h=>by cases ho
 | m+1,ha,a,k,n,cs,z,G,o,x0,x1,nx,H,hm,hv,hz,ho,h=>by
   have ho:y9 L (ps L m) a k=some o:=ho;unfold y9 at ho;refine Wq.jmp (S7 ..) (λ_=>rfl) ?_;refine Sq.beg h λH1 aI h1=> ?_;cases hb:o9 L k with
   | true=>
     rw[if_pos hb]at ho;simp only[af,lf (h1.at_ 1 rfl) hv.len];refine Sq.call (ha m (bz m)) rfl h1 ho λc k' H5 nx5 _ ho h5=> ?_;simp only[af,lf (h5.at_ 1 rfl) hv.len,cg];refine Hq.DB cs c.cs hv.len c.len h5 λx H6 nx6 h6=> ?_;simp only[af,mE];refine Hq.set [_,_] h6 dE hv.len rfl rfl λH7 h7=> ?_
     exact Xo hL m (λj hj=>ha j (by omega)) _ k' (n+1) _ z ((x,cs++c.cs,44)::G) o x0 x1 nx6 H7 (by omega) (jV.b2 hv) hz ho (Hp.DF h7)
   | false=>
     rw[if_neg (by rw[hb];simp)]at ho;simp only[af,lf (h1.at_ 1 rfl) hv.len];have h3:Hp nx0 H0 (fu bp L k::(x0,z,44)::(G++F)) H1 aI:=(Hp.mv [_] h1).sub (by simp);exact Hq.fin h3 dE fY ko hz hv.len hv.one hv.fz (by omega) λH5 nx5 h5=>End.ret ho rfl h5
theorem acJ (hL:L.length<=100000){n:Nat}(hn:n<=90000)(ha:∀j,j<=n->cY 178 L aO.v (ps L j).atom)(hu:cY 151 L aO.v (ps L n).un):cY 151 L aO.v (ps L (n+1)).un:=by
 intro nx0 nx H0 H bp F k o ho h;have ho:MN L (ps L n) k=some o:=ho;unfold MN at ho;rw[aeh];refine Hq.alloc de h λx0 H1 aI h1=> ?_;refine Sq.op h1 λH2 nx2 h2=> ?_;have J:∀(bb:Bool) H3 nx3,unOp L k=bb->Hp nx0 H0 (fu bp L k::(x0,[i64 0,i64 0,aK [],a_,a_,a_],44)::F) H3 nx3->bA P pl X0 (.jump (CN (ptr bp) (ptr x0) (aK (if o8 L k=true then(tk L k).s else[])) bb H3 nx3)) nx0 H0 (End nx0 H0 bp L F aO.v o):=by
  intro bb H3 nx3 hbb h3;refine Wq.jmp (YT ..) (λ_=>rfl) ?_;cases bb with
  | true=>
    rw[if_pos hbb]at ho;have hW:o8 L k=true:=by
     unfold unOp at hbb;rw[ae]at hbb;exact hbb.1
    rw[if_pos hW];simp only[af,pk h3,jC hL (Rc hW)];refine gV h3 λH4 h4=> ?_;refine Sq.call hu rfl h4 ho λa k' H5 nx5 _ ho h5=> ?_;refine Hq.kr a.cs a.len h5 λx H6 nx6 h6=> ?_;simp only[af,DC];have h7:Hp nx0 H0 (fu bp L k'::(x0,_,44)::([(x,a.cs,44)]++F)) H6 nx6:=Hp.swap' h6;exact Hq.fin h7 dE fY ko rfl rfl rfl (jV.b1 (jV.of a)).fz (by omega) λH5 nx5 h5=>End.ret ho rfl h5
  | false=>
    rw[if_neg (by rw[hbb];simp)]at ho;simp only[af];refine Sq.call (ha n (ax n)) rfl h3 ho λa k' H5 nx5 _ ho h5=> ?_;refine Hq.alloc de h5 λx1 H6 nx6 h6=> ?_;refine Hq.set [_] h6 dE rfl a.len (jV.of a).one λH7 h7=> ?_
    exact Xo hL (n+1) (λj hj=>ha j (by omega)) a k' 0 _ _ [] o x0 x1 nx6 H7 (by omega) (jV.of a) rfl ho h7
 have hop:unOp L k=(!decide ((if o8 L k=true then(tk L k).s else[])=[])&&fh.contains (if o8 L k=true then(tk L k).s else[])):=by
  unfold unOp;cases o8 L k with
  | false=>simp
  | true=>
    rw[ai,if_pos rfl]
    by_cases hs:(tk L k).s=[]
    . rw[hs];decide +kernel
    . simp[hs]
 simp only[af,dtx];refine Wq.bK (λhw=> ?_) (λhw=> ?_)
 . simp only[af,Hc];refine Hq.uW (KL _) h2 λH3 nx3 h3=> ?_;simp only[af];exact J _ H3 nx3 (by rw[hop,hw,ai]) h3
 . exact J false H2 nx2 (by rw[hop,hw,aE]) h2
end
section
variable {nx0 nx nx' bp k:Nat}{H0 H H':T OB}{F A B G G':List Bx}{s:Bx}{R:Go.Ev.Out->T OB->Nat->Prop}{b:Nat}{l:List Value}{e t:TypeId}{L:List Tok}
theorem Rd (hL:L.length<=100000){sep:List UInt8}{kd:Int}:∀(m:Nat),(∀j,j<m->cY 61 L aO.v (ps L j).exp)->∀(l:List aO) (k:Nat) (sl:Value) (G:List Bx) (o:nh aO) (y z:List Value) (x0 x1 x2 nx:Nat) (H:Go.Ev.T OB),l.length+m<=90010->Gw true 6 44 (l.map aO.v) sl G->y.length=6->z.length=6->
 bd ((ps L m).gu sep (.mk kd 0 [] l [] []) k) (λe k=>dj L [41] k λk=>yes e k)=some o->Hp nx0 H0 (fu bp L k::(x2,[i64 kd,i64 0,aK [],sl,a_,a_],44)::(x1,y,44)::(x0,z,44)::(G++F)) H nx->
 bA P pl X0 (.jump (wN (ptr bp) (ptr x0) (ptr x1) (ah (.agg ⟨[aK sep,i64 kd]⟩)) (ptr x2) H nx)) nx0 H0 (End nx0 H0 bp L F aO.v o)
 | 0,_,l,k,sl,G,o,y,z,x0,x1,x2,nx,H,hm,hG,hy,hz,ho,h=>by cases ho
 | m+1,he,l,k,sl,G,o,y,z,x0,x1,x2,nx,H,hm,hG,hy,hz,ho,h=>by
   have ho:bd (qz L (ps L m) sep (.mk kd 0 [] l [] []) k) (λe k=>dj L [41] k λk=>yes e k)=some o:=ho;unfold qz at ho;refine Wq.jmp (Tr ..) (λ_=>rfl) ?_;simp only[af];refine Sq.take hL h (λhi H1 aI h1=> ?_) (λhi H1 aI h1=> ?_)
   . rw[if_pos hi,mc]at ho;simp only[af,aB (off:=3) (u:=sl) (h1.at_ 1 rfl) mJ rfl];refine Sq.call (he m (bz m)) rfl h1 ho λc k' H2 nx2 _ ho2 h2=> ?_;simp only[af,aB (off:=3) (u:=sl) (h2.at_ 1 rfl) mJ rfl,cg];refine Hq.kr c.cs c.len h2 λx H3 nx3 h3=> ?_;simp only[af,aB (off:=3) (u:=sl) (h3.at_ 2 rfl) mJ rfl,cg];refine Hq.Q6 [_,_,_] (x:=c) (by omega) hG h3 λsl' G' H4 nx4 hG' h4=> ?_;refine Hq.put [_] h4 Ay (by rcases hG'.2 with⟨_,rfl,_⟩ | ⟨b,c,rfl,_⟩<;>rfl) (jv hG') (by simp) rfl λH5 h5=> ?_;exact Rd hL m (λj hj=>he j (by omega)) (l++[c]) k' sl' G' o y z x0 x1 x2 nx4 H5 (by rw[aj];simp;omega) hG' hy hz ho2 h5
   . rw[if_neg (by rw[hi];simp),jj]at ho;have hv:jV 1 [i64 kd,i64 0,aK [],sl,a_,a_] (.mk kd 0 [] l [] []) G:=jV.gw hG;simp only[af,lf (h1.at_ 1 rfl) hv.len];refine Hq.set [_,_] h1 dE hy hv.len hv.one λH2 h2=> ?_
     refine Sq.ov hL h2 ho λH3 nx3 _ ho h3=> ?_;simp only[af,lf (h3.at_ 2 rfl) hv.len];have h4:Hp nx0 H0 (fu bp L (k+1)::(x0,z,44)::(G++F)) H3 nx3:=(Hp.mv [_,_] h3).sub (by simp);exact Hq.fin h4 dE fY ko hz hv.len hv.one hv.fz (by omega) λH5 nx5 h5=>End.ret ho rfl h5
theorem Re:eB P 195 (some (.agg ⟨[aK [44],i64 5,aK [59],i64 13]⟩)) (some (i64 0))=some (.agg ⟨[aK [44],i64 5]⟩):=by kernel_rfl
theorem Rf:eB P 195 (some (.agg ⟨[aK [44],i64 5,aK [59],i64 13]⟩)) (some (i64 1))=some (.agg ⟨[aK [59],i64 13]⟩):=by kernel_rfl
theorem Hq.Rg {w:List UInt8}{i:Int}{kt:Go.Ev.T OB->Nat->Q}(h:Hp nx0 H0 F H nx)(hk:∀H' nx',Hp nx0 H0 F H' nx'->bA P pl X0 (kt H' nx') nx0 H0 R):bA P pl X0 (bU (eN P H nx 194) λp H nx=>sx P H nx 194 (some p) (.agg ⟨[aK w,i64 i]⟩) kt) nx0 H0 R:=Hq.var NT X6 rfl rfl rfl h hk
theorem acK (hL:L.length<=100000){n:Nat}(hn:n<=90000)(he:∀j,j<=n->cY 61 L aO.v (ps L j).exp){a:aO}{z:List Value}{x0 x1:Nat}{o:nh aO}(hz:z.length=6)
 (ho:(if eM L k [44]=true then bd (qz L (ps L n) [44] (.mk 5 0 [] [a] [] []) k) λe k=>dj L [41] k λk=>yes e k
 else if eM L k [59]=true then bd (qz L (ps L n) [59] (.mk 13 0 [] [a] [] []) k) λe k=>dj L [41] k λk=>yes e k
 else dj L [41] k λk=>yes a k)=some o) (h:Hp nx0 H0 (fu bp L k::(x1,a.cs,44)::(x0,z,44)::F) H nx):
 bA P pl X0 (.jump (wM (ptr bp) (ptr x0) (ptr x1) (.agg ⟨[aK [44],i64 5,aK [59],i64 13]⟩) (i64 0) H nx)) nx0 H0 (End nx0 H0 bp L F aO.v o):=by
 refine Wq.jmp (CX ..) (λ_=>rfl) ?_;simp only[af,Re,Int.reduceLT];refine Hq.Rg h λH1 aI h1=> ?_;refine Sq.is h1 λH2 nx2 h2=> ?_;cases hc:eM L k [44]with
 | true=>
   rw[if_pos hc]at ho;simp only[af,lf (h2.at_ 1 rfl) a.len];refine Hq.kr a.cs a.len h2 λx H3 nx3 h3=> ?_;simp only[af,mE];refine Hq.alloc de h3 λx2 H4 nx4 h4=> ?_;refine Hq.set [_] h4 dE rfl rfl rfl λH5 h5=> ?_
   have h6:Hp nx0 H0 (fu bp L k::(x2,_,44)::(x1,a.cs,44)::(x0,z,44)::([(x,a.cs,44)]++F)) H5 nx4:=h5.perm (List.Perm.cons _ (List.Perm.cons _ ((List.Perm.swap _ _ _).trans (List.Perm.cons _ (List.Perm.swap _ _ _)))));exact Rd hL (n+1) (λj hj=>he j (by omega)) [a] k (mO x 1 1) [(x,a.cs,44)] o _ z x0 x1 x2 nx4 H5 (show 1+(n+1)<=90010 by omega) (Gw.vt a.lx) a.len hz ho h6
 | false=>
   rw[if_neg (by rw[hc];simp)]at ho;simp only[af];refine Wq.jmp (Ki ..) (λ_=>rfl) ?_;simp only[af,Int.reduceAdd,show IntKind.i64.wrap 1=1 from rfl];refine Wq.jmp (CX ..) (λ_=>rfl) ?_;simp only[af,Rf,Int.reduceLT];refine Hq.Rg h2 λH3 nx3 h3=> ?_;refine Sq.is h3 λH4 nx4 h4=> ?_;cases hc2:eM L k [59]with
   | true=>
     rw[if_pos hc2]at ho;simp only[af,lf (h4.at_ 1 rfl) a.len];refine Hq.kr a.cs a.len h4 λx H5 nx5 h5=> ?_;simp only[af,mE];refine Hq.alloc de h5 λx2 H6 nx6 h6=> ?_;refine Hq.set [_] h6 dE rfl rfl rfl λH7 h7=> ?_
     have h8:Hp nx0 H0 (fu bp L k::(x2,_,44)::(x1,a.cs,44)::(x0,z,44)::([(x,a.cs,44)]++F)) H7 nx6:=h7.perm (List.Perm.cons _ (List.Perm.cons _ ((List.Perm.swap _ _ _).trans (List.Perm.cons _ (List.Perm.swap _ _ _)))));exact Rd hL (n+1) (λj hj=>he j (by omega)) [a] k (mO x 1 1) [(x,a.cs,44)] o _ z x0 x1 x2 nx6 H7 (show 1+(n+1)<=90010 by omega) (Gw.vt a.lx) a.len hz ho h8
   | false=>
     rw[if_neg (by rw[hc2];simp)]at ho;simp only[af];refine Wq.jmp (Ki ..) (λ_=>rfl) ?_;simp only[af,Int.reduceAdd,show IntKind.i64.wrap 2=2 from rfl];refine Wq.jmp (CX ..) (λ_=>rfl) ?_;simp only[af,Int.reduceLT];refine Sq.ov hL h4 ho λH5 nx5 _ ho h5=> ?_;simp only[af,lf (h5.at_ 1 rfl) a.len];exact Hq.HA (Hp.sY h5) hz λH9 nx9 h9=>End.ret ho rfl h9
theorem acL (hL:L.length<=100000){n:Nat}(hn:n<=90000)(he:∀j,j<=n->cY 61 L aO.v (ps L j).exp)(hlt:cY 188 L aO.v (ps L n).lt):cY 178 L aO.v (ps L (n+1)).atom:=by
 intro nx0 nx H0 H bp F k o ho h;have ho:kH L (ps L n) k=some o:=ho;unfold kH at ho;rw[aeB];refine Hq.alloc de h λx0 H1 aI h1=> ?_;refine Sq.now h1 λH2 nx2 h2=> ?_;refine Sq.T1 h2 λH3 nx3 h3=> ?_;simp only[af];refine Wq.ite (λhi=> ?_) (λhi=> ?_)
 . rw[if_pos hi]at ho;simp only[af,pk h3,jC hL (kI (show(tk L k).k≠0 by omega))];refine gV h3 λH4 h4=> ?_;simp only[af,UU];exact Hq.fin (G:=[]) h4 dE fY ko rfl rfl rfl jV.nil.fz (by omega) λH5 nx5 h5=>End.ret ho rfl h5
 rw[if_neg hi]at ho;refine Wq.ite (λhi=> ?_) (λhi=> ?_)
 . rw[if_pos hi]at ho;simp only[af,pk h3,jC hL (kI (show(tk L k).k≠0 by omega))];refine gV h3 λH4 h4=> ?_;simp only[af,DD];exact Hq.fin (G:=[]) h4 dE fY ko rfl rfl rfl jV.nil.fz (by omega) λH5 nx5 h5=>End.ret ho rfl h5
 rw[if_neg hi]at ho;refine Wq.ite (λhi=> ?_) (λhi=> ?_)
 . rw[if_pos hi]at ho;simp only[af,pk h3,jC hL (kI (show(tk L k).k≠0 by omega))];refine gV h3 λH4 h4=> ?_;simp only[af,DD];exact Hq.fin (G:=[]) h4 dE fY ko rfl rfl rfl jV.nil.fz (by omega) λH5 nx5 h5=>End.ret ho rfl h5
 rw[if_neg hi]at ho;refine Wq.ite (λhi=> ?_) (λhi=> ?_)
 . rw[if_pos hi]at ho;simp only[af,pk h3,jC hL (kI (show(tk L k).k≠0 by omega))];refine gV h3 λH4 h4=> ?_;simp only[af,DD];exact Hq.fin (G:=[]) h4 dE fY ko rfl rfl rfl jV.nil.fz (by omega) λH5 nx5 h5=>End.ret ho rfl h5
 rw[if_neg hi]at ho;refine Sq.take hL h3 (λhi H4 nx4 h4=> ?_) (λhi H4 nx4 h4=> ?_)
 . rw[if_pos hi,<- uA ((ps L n).lt _)]at ho;simp only[af];refine Sq.call hlt rfl h4 ho λa k' H5 nx5 _ ho h5=> ?_;exact Hq.HA h5 rfl λH9 nx9 h9=>End.ret ho rfl h9
 rw[if_neg (by rw[hi];simp)]at ho;simp only[af];refine Sq.ov hL h4 ho λH6 nx6 _ ho h6=> ?_;refine Sq.take hL h6 (λhi H7 nx7 h7=> ?_) (λhi H7 nx7 h7=> ?_)
 . rw[if_pos hi]at ho;simp only[af];exact Hq.fin (G:=[]) h7 dE fY ko rfl rfl rfl jV.nil.fz (by omega) λH8 nx8 h8=>End.ret ho rfl h8
 rw[if_neg (by rw[hi];simp)]at ho;simp only[af];refine Sq.call (he n (ax n)) rfl h7 ho λa k' H8 nx8 _ ho h8=> ?_;refine Hq.alloc de h8 λx1 H9 nx9 h9=> ?_;refine Hq.set [_] h9 dE rfl a.len (jV.of a).one λH10 h10=> ?_
 exact acK hL hn he rfl ho h10
end
section
variable {nx0 nx nx' bp k:Nat}{H0 H H':T OB}{F A B G G':List Bx}{s:Bx}{R:Go.Ev.Out->T OB->Nat->Prop}{b:Nat}{l:List Value}{e t:TypeId}{L:List Tok}
def vu (d:Option bm):Value:= .tuple ⟨[(d.getD Mf).v,.bool d.isSome]⟩
theorem jV.ae9 {n:Nat}{cs:List Value}{a:aO}{ds:List bm}{sd:Value}(h:jV n cs a G)(hd:Gw true 17 57 (ds.map bm.v) sd G'):jV (n+1) [i64 10,i64 0,aK [],mO b 1 1,a_,sd] (.mk 10 0 [] [a] [] ds) ((b,cs,44)::G++G'):=by
 have h1:=fZ.gr (t:=41) (b:=b) jU dE fY rfl ko h.lx (.inr rfl) (by simp) (m6.one h.fz) (λu hu=>by rw[aP]at hu;subst hu;exact a.len);rw[mb cs]at h1;exact jV.row h1 pj (hd.ae7.mono (by omega)) rfl rfl (jv hd)
theorem Xp (hL:L.length<=100000){n:Nat}{cs z:List Value}{a:aO}{ds:List bm}{sd:Value}{x0 x1 x2:Nat}{o:nh aO}(hv:jV n cs a G)(hn:n<=90010)(hd:Gw true 17 57 (ds.map bm.v) sd G')(hz:z.length=6)(ho:dj L [101,110,100] k (λk=>yes (.mk 10 0 [] [a] [] ds) k)=some o)
 (h:Hp nx0 H0 (fu bp L k::(x2,cs,44)::(x1,[i64 10,i64 0,aK [],a_,a_,sd],44)::(x0,z,44)::(G++(G'++F))) H nx):bA P pl X0 (aX P pl (C3 (ptr bp) (ptr x0) (ptr x1) (ptr x2) H nx)) nx0 H0 (End nx0 H0 bp L F aO.v o):=by
 rw[Kj];refine Sq.ov hL h ho λH1 aI _ ho h1=> ?_;simp only[af,lf (h1.at_ 1 rfl) hv.len];refine Hq.kr cs hv.len h1 λx H2 nx2 h2=> ?_;refine Hq.put [_,_,_] h2 Ay rfl rfl (by simp) rfl λH3 h3=> ?_;simp only[af,lf (h3.at_ 3 rfl) rfl];have hl:=jV.ae9 (b:=x) hv hd;have h4:Hp nx0 H0 (fu bp L (k+1)::(x0,z,44)::(((x,cs,44)::G++G')++F)) H3 nx2:=by
  rw[eZ,eZ,bn];exact(Hp.mv [_,_,_] h3).sub (by simp)
 exact Hq.fin h4 dE fY ko hz hl.len hl.one hl.fz (by omega) λH5 nx5 h5=>End.ret ho rfl h5
theorem Xq (hL:L.length<=100000){ds:List bm}{sd:Value}(hd:Gw true 17 57 (ds.map bm.v) sd G'):∀(m:Nat),(∀j,j<m->cY 61 L aO.v (ps L j).exp)->∀(l:List aO) (k:Nat) (sl:Value) (G:List Bx) (o:nh aO) (z:List Value) (x0 x1 x2 nx:Nat) (H:Go.Ev.T OB),l.length+m<=90010->Gw true 6 44 (l.map aO.v) sl G->z.length=6->
 bd ((ps L m).gu [59] (.mk 13 0 [] l [] []) k) (λa k=>dj L [101,110,100] k λk=>yes (.mk 10 0 [] [a] [] ds) k)=some o->Hp nx0 H0 (fu bp L k::(x2,[i64 13,i64 0,aK [],sl,a_,a_],44)::(x1,[i64 10,i64 0,aK [],a_,a_,sd],44)::(x0,z,44)::(G++(G'++F))) H nx->
 bA P pl X0 (.jump (wP (ptr bp) (ptr x0) (ptr x1) (ptr x2) H nx)) nx0 H0 (End nx0 H0 bp L F aO.v o)
 | 0,_,l,k,sl,G,o,z,x0,x1,x2,nx,H,hm,hG,hz,ho,h=>by cases ho
 | m+1,he,l,k,sl,G,o,z,x0,x1,x2,nx,H,hm,hG,hz,ho,h=>by
   have ho:bd (qz L (ps L m) [59] (.mk 13 0 [] l [] []) k) (λa k=>dj L [101,110,100] k λk=>yes (.mk 10 0 [] [a] [] ds) k)=some o:=ho;unfold qz at ho;refine Wq.jmp (Tw ..) (λ_=>rfl) ?_;refine Sq.take hL h (λhi H1 aI h1=> ?_) (λhi H1 aI h1=> ?_)
   . rw[if_pos hi,mc]at ho;simp only[af,aB (off:=3) (u:=sl) (h1.at_ 1 rfl) mJ rfl];refine Sq.call (he m (bz m)) rfl h1 ho λc k' H2 nx2 _ ho2 h2=> ?_;simp only[af,aB (off:=3) (u:=sl) (h2.at_ 1 rfl) mJ rfl,cg];refine Hq.kr c.cs c.len h2 λx H3 nx3 h3=> ?_;simp only[af,aB (off:=3) (u:=sl) (h3.at_ 2 rfl) mJ rfl,cg];refine Hq.Q6 [_,_,_] (x:=c) (by omega) hG h3 λsl' G1 H4 nx4 hG1 h4=> ?_;refine Hq.put [_] h4 Ay (by rcases hG1.2 with⟨_,rfl,_⟩ | ⟨b,c,rfl,_⟩<;>rfl) (jv hG1) (by simp) rfl λH5 h5=> ?_;exact Xq hL hd m (λj hj=>he j (by omega)) (l++[c]) k' sl' G1 o z x0 x1 x2 nx4 H5 (by rw[aj];simp;omega) hG1 hz ho2 h5
   . rw[if_neg (by rw[hi];simp),jj]at ho;simp only[af];have:=Xp hL (jV.gw (k:=13) (i:=0) (w:=[]) hG) (by omega) hd hz ho h1;rw[Kj]at this;exact this
theorem Hq.afa {a:bm}{kt:Go.Ev.T OB->Nat->Q}(h:Hp nx0 H0 F H nx)(hk:∀H' nx',Hp nx0 H0 F H' nx'->bA P pl X0 (kt H' nx') nx0 H0 R):bA P pl X0 (bU (eN P H nx 57) λp H nx=>sx P H nx 57 (some p) a.v kt) nx0 H0 R:=Hq.var fO gQ rfl a.len (a.lx a.v (by simp)).2.1 h hk
theorem ldD (a:bm):aA P H 57 (some (ah a.v))=some a.v:=by
 rw[bm.bX];exact NH ..
theorem Xr (hL:L.length<=100000){n:Nat}(hn:n<=90000)(he:∀j,j<=n->cY 61 L aO.v (ps L j).exp):∀(m:Nat),(∀j,j<m->cY 105 L vu (ps L j).bind)->∀(ds:List bm) (k:Nat) (sd:Value) (G':List Bx) (o:nh aO) (z:List Value) (x0 x1 nx:Nat) (H:Go.Ev.T OB),ds.length+m<=90010->Gw true 17 57 (ds.map bm.v) sd G'->z.length=6->
 bd ((ps L m).vm ds k) (λds k=>bd ((ps L n).exp k) λa k=>
  if eM L k [59]=true then bd (qz L (ps L n) [59] (.mk 13 0 [] [a] [] []) k) λa k=>dj L [101,110,100] k λk=>yes (.mk 10 0 [] [a] [] ds) k
  else dj L [101,110,100] k λk=>yes (.mk 10 0 [] [a] [] ds) k)=some o->Hp nx0 H0 (fu bp L k::(x1,[i64 10,i64 0,aK [],a_,a_,sd],44)::(x0,z,44)::(G'++F)) H nx->
 bA P pl X0 (.jump (C1 (ptr bp) (ptr x0) (ptr x1) H nx)) nx0 H0 (End nx0 H0 bp L F aO.v o)
 | 0,_,ds,k,sd,G',o,z,x0,x1,nx,H,hm,hd,hz,ho,h=>by cases ho
 | m+1,hb,ds,k,sd,G',o,z,x0,x1,nx,H,hm,hd,hz,ho,h=>by
   have ho:bd (vp L (ps L m) ds k) (λds k=>bd ((ps L n).exp k) λa k=>
    if eM L k [59]=true then bd (qz L (ps L n) [59] (.mk 13 0 [] [a] [] []) k) λa k=>dj L [101,110,100] k λk=>yes (.mk 10 0 [] [a] [] ds) k
    else dj L [101,110,100] k λk=>yes (.mk 10 0 [] [a] [] ds) k)=some o:=ho
   unfold vp at ho;refine Wq.jmp (Y1 ..) (λ_=>rfl) ?_;refine Sq.take hL h (λhi H1 aI h1=> ?_) (λhi H1 aI h1=> ?_)
   . rw[if_pos hi,jj]at ho;simp only[af];refine Sq.call (he n (ax n)) rfl h1 ho λa k' H2 nx2 _ ho h2=> ?_;refine Hq.alloc de h2 λx2 H3 nx3 h3=> ?_;refine Hq.set [_] h3 dE rfl a.len (jV.of a).one λH4 h4=> ?_
     refine Sq.is h4 λH5 nx5 h5=> ?_;cases hc:eM L k' [59]with
     | true=>
       rw[if_pos hc]at ho;simp only[af,lf (h5.at_ 1 rfl) a.len];refine Hq.kr a.cs a.len h5 λx H6 nx6 h6=> ?_;simp only[af,mE];refine Hq.set [_,_] h6 dE a.len rfl rfl λH7 h7=> ?_
       have h8:Hp nx0 H0 (fu bp L k'::(x2,_,44)::(x1,_,44)::(x0,z,44)::([(x,a.cs,44)]++(G'++F))) H7 nx6:=h7.perm (List.Perm.cons _ ((List.Perm.swap _ _ _).trans (List.Perm.cons _ ((List.Perm.swap _ _ _).trans (List.Perm.cons _ (List.Perm.swap _ _ _))))));exact Xq hL hd (n+1) (λj hj=>he j (by omega)) [a] k' (mO x 1 1) [(x,a.cs,44)] o z x0 x1 x2 nx6 H7 (show 1+(n+1)<=90010 by omega) (Gw.vt a.lx) hz ho h8
     | false=>
       rw[if_neg (by rw[hc];simp)]at ho;simp only[af];exact Wq.jump (λ_=>rfl) (Xp (n:=0) (G:=[]) hL (jV.of a) (by omega) hd hz ho h5)
   . rw[if_neg (by rw[hi];simp),mc]at ho;simp only[af];refine Sq.call (hb m (bz m)) rfl h1 ho λd k' H2 nx2 _ ho h2=> ?_;unfold vu;simp only[af,RU,RV];refine Hq.afa h2 λH3 nx3 h3=> ?_;cases d with
     | none=>
       simp only[af,Option.isSome_none,fk];exact Sq.fail (α:=aO) (β:=aO) (o:=o) (by cases ho;rfl) h3
     | some d=>
       simp only[af,Option.isSome_some,cM,Option.getD_some];refine Wq.jmp (Tv ..) (λ_=>rfl) ?_;simp only[af,aB (off:=5) (u:=sd) (h3.at_ 1 rfl) oU rfl,ldD];refine Hq.K5 d.cs d.len h3 λx H4 nx4 h4=> ?_;refine Hq.acw [_,_] (x:=d) (by omega) hd h4 λsd' G2 H5 nx5 hd' h5=> ?_;refine Hq.put [_] h5 yy (by rcases hd'.2 with⟨_,rfl,_⟩ | ⟨b,c,rfl,_⟩<;>rfl) (jv hd') (by simp) rfl λH6 h6=> ?_;refine Sq.skip hL h6 λbb H7 nx7 h7=> ?_;simp only[af];exact Xr hL hn he m (λj hj=>hb j (by omega)) (ds++[d]) _ sd' G2 o z x0 x1 nx7 H7 (by rw[aj];simp;omega) hd' hz ho h7
theorem acM (hL:L.length<=100000){n:Nat}(hn:n<=90000)(he:∀j,j<=n->cY 61 L aO.v (ps L j).exp)(hb:∀j,j<=n->cY 105 L vu (ps L j).bind):cY 188 L aO.v (ps L (n+1)).lt:=by
 intro nx0 nx H0 H bp F k o ho h;have ho:W7 L (ps L n) k=some o:=ho;unfold W7 at ho;rw[aeJ];refine Hq.alloc de h λx0 H1 aI h1=> ?_;refine Hq.alloc de h1 λx1 H2 nx2 h2=> ?_;refine Hq.set [_] h2 dE rfl rfl rfl λH3 h3=> ?_
 exact Xr hL hn he (n+1) (λj hj=>hb j (by omega)) [] k a_ [] o _ x0 x1 nx2 H3 (by simp;omega) (Gw.nil _ _ _) rfl ho h3
end
section
variable {nx0 nx nx' bp k:Nat}{H0 H H':T OB}{F A B G G':List Bx}{s:Bx}{R:Go.Ev.Out->T OB->Nat->Prop}{b:Nat}{l:List Value}{e t:TypeId}{L:List Tok}
theorem Fn.qH {w:List UInt8}{q:List bk}{e:aO}{sp:Value}(hG:Gw true 4 47 (q.map bk.v) sp G):lE 1 [(1,42),(5,41),(6,42),(7,24)] (.agg ⟨aK w::sp::e.cs⟩) (Fn.v (.mk w q e)) G:=by
 rw[Fn.bX,aO.ia];have h1:=hG.aaj;have:=jJ.cons (p:=(1,42)) (cs:=[aK w,sp,i64 e.k,i64 e.n,aK e.s,fK e.l,cL e.p,cb e.d]) rfl h1 (jJ.cons (p:=(5,41)) rfl ((fZ.row jU).mono (aN 1)) (jJ.cons (p:=(6,42)) rfl ((fZ.row iN).mono (aN 1)) (jJ.cons (p:=(7,24)) rfl ((fZ.row jT).mono (aN 1)) jJ.nil)));simp only[bf]at this;exact lE.of this
theorem Xs (hL:L.length<=100000){E:Nat->PR aO}(he:cY 61 L aO.v E){w:List UInt8}:∀(m:Nat),(∀j,j<m->cY 177 L bk.v (ps L j).gR)->∀(q:List bk) (k:Nat) (sp:Value) (G:List Bx) (o:nh Fn) (z:List Value) (x0 x1 nx:Nat) (H:Go.Ev.T OB),q.length+m<=90010->Gw true 4 47 (q.map bk.v) sp G->z.length=8->
 bd ((ps L m).MM q k) (λl k=>dj L [61] k λk=>bd (E k) λe k=>yes (.mk w l e) k)=some o->Hp nx0 H0 (fu bp L k::(x1,[aK w,sp,i64 0,i64 0,aK [],a_,a_,a_],65)::(x0,z,65)::(G++F)) H nx->
 bA P pl X0 (.jump (CM (ptr bp) (ptr x0) (ptr x1) H nx)) nx0 H0 (End nx0 H0 bp L F Fn.v o)
 | 0,_,q,k,sp,G,o,z,x0,x1,nx,H,hm,hG,hz,ho,h=>by cases ho
 | m+1,hp,q,k,sp,G,o,z,x0,x1,nx,H,hm,hG,hz,ho,h=>by
   have ho:bd (vr L (ps L m) q k) (λl k=>dj L [61] k λk=>bd (E k) λe k=>yes (.mk w l e) k)=some o:=ho;unfold vr at ho;refine Wq.jmp (YS ..) (λ_=>rfl) ?_;refine Sq.ab6 h λH1 aI h1=> ?_;cases hb:qy L k with
   | true=>
     rw[if_pos hb,mc]at ho;simp only[af,aB (off:=1) (u:=sp) (h1.at_ 1 rfl) lj rfl];refine Sq.call (hp m (bz m)) rfl h1 ho λc k' H2 nx2 _ ho2 h2=> ?_;simp only[af,aB (off:=1) (u:=sp) (h2.at_ 1 rfl) lj rfl,cg];refine Hq.nS c.cs c.len h2 λx H3 nx3 h3=> ?_;simp only[af,aB (off:=1) (u:=sp) (h3.at_ 2 rfl) lj rfl,cg];refine Hq.Q7 [_,_] (x:=c) (by omega) hG h3 λsl' G1 H4 nx4 hG1 h4=> ?_;refine Hq.put [_] h4 EV (by rcases hG1.2 with⟨_,rfl,_⟩ | ⟨b,c,rfl,_⟩<;>rfl) (jv hG1) (by simp) rfl λH5 h5=> ?_;exact Xs hL he m (λj hj=>hp j (by omega)) (q++[c]) k' sl' G1 o z x0 x1 nx4 H5 (by rw[aj];simp;omega) hG1 hz ho2 h5
   | false=>
     rw[if_neg (by rw[hb];simp),jj]at ho;simp only[af];refine Sq.ov hL h1 ho λH2 nx2 _ ho h2=> ?_;refine Sq.call he rfl h2 ho λc k' H3 nx3 _ ho h3=> ?_;refine Hq.store [_] h3 dE (by simp) c.len (jV.of c).one λH4 h4=> ?_;have e1:mn [aK w,sp,i64 0,i64 0,aK [],a_,a_,a_] (aO.v c).cells.toList 2=aK w::sp::c.cs:=by
      rw[aO.bX,aO.ia];rfl
     rw[e1]at h4;have hlen:(aK w::sp::c.cs).length=8:=by
      have:=c.len;simp only[ao];show c.cs.length+1+1=8;have h6:c.cs.length=6:=c.len;omega
     have hone:(aK w::sp::c.cs).all aC=true:=by
      simp only[cW,oR,jv hG,ai];exact(jV.of c).one
     simp only[af,acA (h4.at_ 1 rfl) hlen];have h5:Hp nx0 H0 (fu bp L k'::(x0,z,65)::(G++F)) H4 nx3:=(Hp.mv [_] h4).sub (by simp);exact Hq.fin h5 oh GJ W6 hz hlen hone (Fn.qH hG) (by omega) λH9 nx9 h9=>End.ret ho rfl h9
theorem acN (hL:L.length<=100000){n:Nat}(hn:n<=90000)(hp:∀j,j<=n->cY 177 L bk.v (ps L j).gR)(he:cY 61 L aO.v (ps L n).exp):cY 149 L Fn.v (ps L (n+1)).fn:=by
 intro nx0 nx H0 H bp F k o ho h;have ho:W8 L (ps L n) k=some o:=ho;unfold W8 at ho;rw[aef];refine Hq.alloc ki h λx0 H1 aI h1=> ?_;refine Sq.word (by decide) hL h1 ho λH2 nx2 _ ho h2=> ?_;simp only[af];refine Sq.call (hp n (ax n)) rfl h2 ho λa k' H3 nx3 _ ho h3=> ?_;refine Hq.nS a.cs a.len h3 λx H4 nx4 h4=> ?_;simp only[af,UY];refine Hq.alloc ki h4 λx1 H5 nx5 h5=> ?_;refine Hq.set [_] h5 oh rfl rfl rfl λH6 h6=> ?_
 have h7:Hp nx0 H0 (fu bp L k'::(x1,_,65)::(x0,_,65)::([(x,a.cs,47)]++F)) H6 nx5:=h6.perm (List.Perm.cons _ (List.Perm.cons _ (List.Perm.swap _ _ _)));exact Xs hL he (n+1) (λj hj=>hp j (by omega)) [a] k' (mO x 1 1) [(x,a.cs,47)] o _ x0 x1 nx5 H6 (show 1+(n+1)<=90010 by omega) (Gw.vt a.lx) rfl ho h7
end
section
variable {nx0 nx nx' bp k:Nat}{H0 H H':T OB}{F A B G G':List Bx}{s:Bx}{R:Go.Ev.Out->T OB->Nat->Prop}{b:Nat}{l:List Value}{e t:TypeId}{L:List Tok}
theorem FM {n:Nat}:fZ n 48 a_ (vj []) []:=(fZ.nil yu oh).mono (aN n)
theorem FN {n:Nat}:fZ n 49 a_ (kl []) []:=(fZ.nil mI lU).mono (aN n)
theorem FO {n:Nat}:fZ n 50 a_ (mZ []) []:=(fZ.nil tT mX).mono (aN n)
theorem FP {n:Nat}:fZ n 53 a_ (iB []) []:=(fZ.nil kh fA).mono (aN n)
theorem bm.qH {kk:Int}{p0 p1 p2 c0 c1 c2 w1 w2:Value}{s0 s1 s2 s3 s4 s5 s6 s7:Value}{d:bm}{r0 r1 r2 r3 r4 r5 r6 r7:Value}{n:Nat}{G4:List Bx}
 (h0:fZ n 42 s0 r0 []) (h1:fZ n 41 s1 r1 []) (h2:fZ n 42 s2 r2 []) (h3:fZ n 24 s3 r3 []) (h4:fZ n 48 s4 r4 G4) (h5:fZ n 49 s5 r5 []) (h6:fZ n 50 s6 r6 []) (h7:fZ n 53 s7 r7 [])
 (hd:d.v= .agg ⟨[i64 kk,p0,p1,p2,r0,c0,c1,c2,r1,r2,r3,r4,r5,w1,r6,w2,r7]⟩):lE n [(4,42),(8,41),(9,42),(10,24),(11,48),(12,49),(14,50),(16,53)] (.agg ⟨[i64 kk,p0,p1,p2,s0,c0,c1,c2,s1,s2,s3,s4,s5,w1,s6,w2,s7]⟩) d.v G4:=by
 rw[hd];have:=jJ.cons (p:=(4,42)) (cs:=[i64 kk,p0,p1,p2,s0,c0,c1,c2,s1,s2,s3,s4,s5,w1,s6,w2,s7]) rfl h0 (jJ.cons (p:=(8,41)) rfl h1 (jJ.cons (p:=(9,42)) rfl h2 (jJ.cons (p:=(10,24)) rfl h3 (jJ.cons (p:=(11,48)) rfl h4 (jJ.cons (p:=(12,49)) rfl h5 (jJ.cons (p:=(14,50)) rfl h6 (jJ.cons (p:=(16,53)) rfl h7 jJ.nil)))))));simp only[bf,cj]at this;exact lE.of this
theorem Rh (k:Int)(a:bk)(c:aO):cA P 57 (some [(0,i64 k),(1,a.v),(2,c.v)])=some (.agg ⟨[i64 k,i64 a.k,i64 a.n,aK a.s,cL a.l,i64 c.k,i64 c.n,aK c.s,fK c.l,cL c.p,cb c.d,a_,a_,aK [],a_,aK [],a_]⟩):=by
 rw[bk.bX,aO.bX];exact U0 ..
theorem ldP (a:bk):aA P H 47 (some (ah a.v))=some a.v:=by
 rw[bk.bX];exact NG ..
theorem Hq.afb {a:bk}{kt:Go.Ev.T OB->Nat->Q}(h:Hp nx0 H0 F H nx)(hk:∀H' nx',Hp nx0 H0 F H' nx'->bA P pl X0 (kt H' nx') nx0 H0 R):bA P pl X0 (bU (eN P H nx 47) λp H nx=>sx P H nx 47 (some p) a.v kt) nx0 H0 R:=Hq.var fx fJ rfl a.len (nj.of a).one h hk
theorem bm.acO {a:bk}{c:aO}:lE 0 [(4,42),(8,41),(9,42),(10,24),(11,48),(12,49),(14,50),(16,53)] (.agg ⟨[i64 1,i64 a.k,i64 a.n,aK a.s,cL a.l,i64 c.k,i64 c.n,aK c.s,fK c.l,cL c.p,cb c.d,a_,a_,aK [],a_,aK [],a_]⟩) (bm.v (.mk 1 a c [] mB rJ)) []:=
 bm.qH (fZ.row iN) (fZ.row jU) (fZ.row iN) (fZ.row jT) FM FN FO FP (bm.bX _)
theorem bm.acP {l:List Fn}{sl:Value}(hG:Gw true 8 65 (l.map Fn.v) sl G):lE 1 [(4,42),(8,41),(9,42),(10,24),(11,48),(12,49),(14,50),(16,53)] (.agg ⟨[i64 2,i64 0,i64 0,aK [],a_,i64 0,i64 0,aK [],a_,a_,a_,sl,a_,aK [],a_,aK [],a_]⟩) (bm.v (.mk 2 rI sZ l mB rJ)) G:=
 bm.qH pj FL pj AX hG.ae6 FN FO FP (bm.bX _)
theorem bm.aak:lE 0 [(4,42),(8,41),(9,42),(10,24),(11,48),(12,49),(14,50),(16,53)] (.agg ⟨[i64 0,i64 0,i64 0,aK [],a_,i64 0,i64 0,aK [],a_,a_,a_,a_,a_,aK [],a_,aK [],a_]⟩) Mf.v []:=
 bm.qH pj FL pj AX FM FN FO FP (bm.bX _)
theorem Xt (hL:L.length<=100000):∀(m:Nat),(∀j,j<m->cY 149 L Fn.v (ps L j).fn)->∀(l:List Fn) (k:Nat) (sl:Value) (G:List Bx) (o:nh (Option bm)) (z:List Value) (x0 x1 nx:Nat) (H:Go.Ev.T OB),l.length+m<=90010->Gw true 8 65 (l.map Fn.v) sl G->z.length=17->
 bd ((ps L m).vn l k) (λl k=>yes (some (.mk 2 rI sZ l mB rJ)) k)=some o->Hp nx0 H0 (fu bp L k::(x1,[i64 2,i64 0,i64 0,aK [],a_,i64 0,i64 0,aK [],a_,a_,a_,sl,a_,aK [],a_,aK [],a_],57)::(x0,z,57)::(G++F)) H nx->
 bA P pl X0 (.jump (vN (ptr bp) (ptr x0) (ptr x1) H nx)) nx0 H0 (End nx0 H0 bp L F vu o)
 | 0,_,l,k,sl,G,o,z,x0,x1,nx,H,hm,hG,hz,ho,h=>by cases ho
 | m+1,hp,l,k,sl,G,o,z,x0,x1,nx,H,hm,hG,hz,ho,h=>by
   have ho:bd (vq L (ps L m) l k) (λl k=>yes (some (.mk 2 rI sZ l mB rJ)) k)=some o:=ho;unfold vq at ho;refine Wq.jmp (SD ..) (λ_=>rfl) ?_;refine Sq.take hL h (λhi H1 aI h1=> ?_) (λhi H1 aI h1=> ?_)
   . rw[if_pos hi,mc]at ho;simp only[af,aB (off:=11) (u:=sl) (h1.at_ 1 rfl) BH rfl];refine Sq.call (hp m (bz m)) rfl h1 ho λc k' H2 nx2 _ ho2 h2=> ?_;simp only[af,aB (off:=11) (u:=sl) (h2.at_ 1 rfl) BH rfl,cg];refine Hq.K4 c.cs c.len h2 λx H3 nx3 h3=> ?_;simp only[af,aB (off:=11) (u:=sl) (h3.at_ 2 rfl) BH rfl,cg];refine Hq.acv [_,_] (x:=c) (by omega) hG h3 λsl' G1 H4 nx4 hG1 h4=> ?_;refine Hq.put [_] h4 Wc (by rcases hG1.2 with⟨_,rfl,_⟩ | ⟨b,c,rfl,_⟩<;>rfl) (jv hG1) (by simp) rfl λH5 h5=> ?_;exact Xt hL m (λj hj=>hp j (by omega)) (l++[c]) k' sl' G1 o z x0 x1 nx4 H5 (by rw[aj];simp;omega) hG1 hz ho2 h5
   . rw[if_neg (by rw[hi];simp),jj]at ho;simp only[af,Xh (h1.at_ 1 rfl) rfl];have h5:Hp nx0 H0 (fu bp L k::(x0,z,57)::(G++F)) H1 aI:=(Hp.mv [_] h1).sub (by simp);exact Hq.fin h5 gQ lT uY hz rfl (by simp[jv hG]) (bm.acP hG) (by omega) λH9 nx9 h9=>End.ret ho rfl h9
theorem acQ (hL:L.length<=100000){n:Nat}(hn:n<=90000)(hp:cY 148 L bk.v (ps L n).pat)(he:cY 61 L aO.v (ps L n).exp)(hf:∀j,j<=n->cY 149 L Fn.v (ps L j).fn):cY 105 L vu (ps L (n+1)).bind:=by
 intro nx0 nx H0 H bp F k o ho h;have ho:qU L (ps L n) k=some o:=ho;unfold qU at ho;rw[adL];refine Hq.alloc fO h λx0 H1 aI h1=> ?_;refine Sq.take hL h1 (λhi H2 nx2 h2=> ?_) (λhi H2 nx2 h2=> ?_)
 . rw[if_pos hi]at ho;simp only[af];refine Sq.call hp rfl h2 ho λa k' H3 nx3 _ ho h3=> ?_;refine Hq.afb h3 λH4 nx4 h4=> ?_;refine Sq.ov hL h4 ho λH5 nx5 _ ho h5=> ?_;simp only[af,ldP];refine Sq.call he rfl h5 ho λc k2 H6 nx6 _ ho h6=> ?_;simp only[af,Rh];exact Hq.fin (G:=[]) h6 gQ lT uY rfl rfl rfl bm.acO (by omega) λH9 nx9 h9=>End.ret ho rfl h9
 rw[if_neg (by rw[hi];simp)]at ho;simp only[af];refine Sq.take hL h2 (λhi H3 nx3 h3=> ?_) (λhi H3 nx3 h3=> ?_)
 . rw[if_pos hi]at ho;simp only[af];refine Sq.call (hf n (ax n)) rfl h3 ho λa k' H4 nx4 _ ho h4=> ?_;refine Hq.K4 a.cs a.len h4 λx H5 nx5 h5=> ?_;simp only[af,UZ];refine Hq.alloc fO h5 λx1 H6 nx6 h6=> ?_;refine Hq.set [_] h6 gQ rfl rfl rfl λH7 h7=> ?_
   have h8:Hp nx0 H0 (fu bp L k'::(x1,_,57)::(x0,_,57)::([(x,a.cs,65)]++F)) H7 nx6:=h7.perm (List.Perm.cons _ (List.Perm.cons _ (List.Perm.swap _ _ _)));exact Xt hL (n+1) (λj hj=>hf j (by omega)) [a] k' (mO x 1 1) [(x,a.cs,65)] o _ x0 x1 nx6 H7 (show 1+(n+1)<=90010 by omega) (Gw.vt a.lx) rfl ho h8
 . rw[if_neg (by rw[hi];simp)]at ho;simp only[af];refine Wq.jmp (SE ..) (λ_=>rfl) ?_;exact Hq.fin (G:=[]) h3 gQ lT uY rfl rfl rfl bm.aak (by omega) λH9 nx9 h9=>End.ret ho rfl h9
end
section
variable {nx0 nx nx' bp k:Nat}{H0 H H':T OB}{F A B G G':List Bx}{s:Bx}{R:Go.Ev.Out->T OB->Nat->Prop}{b:Nat}{l:List Value}{e t:TypeId}{L:List Tok}
theorem Hq.acR {z:List Value}{a:bm}{x0:Nat}{kt:Value->Go.Ev.T OB->Nat->Q}(h:Hp nx0 H0 (s::(x0,z,57)::F) H nx)(hz:z.length=17)(hk:∀H' nx',Hp nx0 H0 (s::F) H' nx'->bA P pl X0 (kt a.v H' nx') nx0 H0 R):
 bA P pl X0 (bU (eD P H nx 57 (some (ptr x0)) (some a.v)) λ_ H nx=>aw (aA P H 57 (some (ptr x0))) (λx=>dM P 57 x H nx kt) .bad) nx0 H0 R:=
 Hq.fin (G:=[]) h gQ lT uY hz a.len (a.lx a.v (by simp)).2.1 a.fz (by omega) hk
theorem bm.acS {c:eO}:lE 0 [(4,42),(8,41),(9,42),(10,24),(11,48),(12,49),(14,50),(16,53)] (.agg ⟨[i64 4,i64 0,i64 0,aK [],a_,i64 0,i64 0,aK [],a_,a_,a_,a_,a_,aK [],a_,aK c.s,iB c.arg]⟩) (bm.v (.mk 4 rI sZ [] mB c)) []:=
 bm.qH pj FL pj AX FM FN FO (fZ.row kh) (bm.bX _)
theorem Ri (k:Int)(c:eO):cA P 57 (some [(0,i64 k),(5,c.v)])=some (.agg ⟨[i64 k,i64 0,i64 0,aK [],a_,i64 0,i64 0,aK [],a_,a_,a_,a_,a_,aK [],a_,aK c.s,iB c.arg]⟩):=by
 rw[eO.bX];exact U3 ..
abbrev HB (x:Data):Value:=bm.v (.mk 3 rI sZ [] x rJ)
theorem afc (hL:L.length<=100000){p:PS}(hd:cY 103 L HB p.data)(hc:cY 104 L eO.v p.qm)(hb:cY 105 L vu p.bind):cY 60 L vu (qA L p):=by
 intro nx0 nx H0 H bp F k o ho h;unfold qA at ho;rw[q60];refine Hq.alloc fO h λx0 H1 aI h1=> ?_;refine Sq.take hL h1 (λhi H2 nx2 h2=> ?_) (λhi H2 nx2 h2=> ?_)
 . rw[if_pos hi]at ho;simp only[af];refine Sq.call hd rfl h2 ho λa k' H3 nx3 _ ho h3=> ?_;exact Hq.acR (a:= .mk 3 rI sZ [] a rJ) h3 rfl λH9 nx9 h9=>End.ret ho rfl h9
 rw[if_neg (by rw[hi];simp)]at ho;simp only[af];refine Sq.take hL h2 (λhi H3 nx3 h3=> ?_) (λhi H3 nx3 h3=> ?_)
 . rw[if_pos hi]at ho;simp only[af];refine Sq.call hc rfl h3 ho λa k' H4 nx4 _ ho h4=> ?_;simp only[af,Ri];exact Hq.fin (G:=[]) h4 gQ lT uY rfl rfl rfl bm.acS (by omega) λH9 nx9 h9=>End.ret ho rfl h9
 . rw[if_neg (by rw[hi];simp),<- uA (p.bind k)]at ho;simp only[af];refine Sq.call hb rfl h3 ho λa k' H4 nx4 _ ho h4=> ?_;unfold vu;simp only[af,RU,RV];exact Hq.acR h4 rfl λH9 nx9 h9=>End.ret ho rfl h9
end
section
variable {nx0 nx nx' bp k:Nat}{H0 H H':T OB}{F A B G G':List Bx}{s:Bx}{R:Go.Ev.Out->T OB->Nat->Prop}{b:Nat}{l:List Value}{e t:TypeId}{L:List Tok}
theorem AY (f:Value->Go.Ev.T OB->Nat->(Value->Go.Ev.T OB->Nat->Q)->Q)(v:Value):∀(vs:List Value) (H:Go.Ev.T OB) (nx:Nat) (kt:List Value->Go.Ev.T OB->Nat->Q),oG f (vs++[v]) H nx kt=oG f vs H nx λus H nx=>f v H nx λu H nx=>kt (us++[u]) H nx
 | [],H,nx,kt=>rfl
 | w::vs,H,nx,kt=>by
   show(f w H nx λw H nx=>oG f (vs++[v]) H nx λl H nx=>kt (w::l) H nx)=f w H nx λw H nx=>oG f vs H nx λl H nx=>f v H nx λu H nx=>kt ((w::l)++[u]) H nx;congr 1;funext w H nx;exact AY f v vs H nx _
theorem m6.snoc {n:Nat}{offs:List (Nat×TypeId)}{vs us:List Value}{v u:Value}(h:m6 n offs vs us [])(h1:lE n offs v u []):m6 n offs (vs++[v]) (us++[u]) []:=λd hd nx0 nx H0 H s B k R hh hk=>by
 rw[AY];exact h d hd nx0 nx H0 H s B _ R hh λH' nx' h'=>h1 d hd nx0 nx' H0 H' s B _ R h' hk
theorem Rj (k:Int)(c:aO):cA P 57 (some [(0,i64 k),(2,c.v)])=some (.agg ⟨[i64 k,i64 0,i64 0,aK [],a_,i64 c.k,i64 c.n,aK c.s,fK c.l,cL c.p,cb c.d,a_,a_,aK [],a_,aK [],a_]⟩):=by
 rw[aO.bX];exact U1 ..
theorem bm.acT {c:aO}:lE 0 [(4,42),(8,41),(9,42),(10,24),(11,48),(12,49),(14,50),(16,53)] (.agg ⟨[i64 5,i64 0,i64 0,aK [],a_,i64 c.k,i64 c.n,aK c.s,fK c.l,cL c.p,cb c.d,a_,a_,aK [],a_,aK [],a_]⟩) (bm.v (Mh c)) []:=
 bm.qH pj (fZ.row jU) (fZ.row iN) (fZ.row jT) FM FN FO FP (bm.bX _)
abbrev zp:List (Nat×TypeId):=[(4,42),(8,41),(9,42),(10,24),(11,48),(12,49),(14,50),(16,53)]
theorem Rk {vs:List Value}{ds:List bm}{sl:Value}{kt:Value->Go.Ev.T OB->Nat->Q}(hG:Gw true 17 57 vs sl G)(hL:m6 0 zp vs (ds.map bm.v) [])(hl:vs.length=ds.length)(h:Hp nx0 H0 (s::(G++F)) H nx)(hk:∀H' nx',Hp nx0 H0 (s::F) H' nx'->bA P pl X0 (kt (cb ds) H' nx') nx0 H0 R):bA P pl X0 (dM P 24 sl H nx kt) nx0 H0 R:=by
 have e:dM P 24 sl H nx kt=nA P 100000 24 sl H nx kt:=by
  unfold dM;rcases hG.2 with⟨_,rfl,_⟩ | ⟨b,c,rfl,_⟩<;>rfl
 rw[e];exact(fZ.gw (t:=24) jT gQ lT rfl uY hG hL (λu hu=>by obtain⟨x,_,rfl⟩:=bo.1 hu;exact x.len) (λq=>by rw[q]at hl;have:=d_.1 hl.symm;rw[this];rfl)) 100000 (by omega) nx0 nx H0 H s F kt R h hk
theorem acU (hLL:L.length<=100000):∀(m:Nat),(∀j,j<m->cY 60 L vu (ps L j).dec)->(∀j,j<m->cY 61 L aO.v (ps L j).exp)->∀(ds:List bm) (vs:List Value) (k:Nat) (sl:Value) (G:List Bx) (o:nh (List bm)) (nx:Nat) (H:Go.Ev.T OB),ds.length+m<=90010->Gw true 17 57 vs sl G->m6 0 zp vs (ds.map bm.v) []->vs.length=ds.length->
 (ps L m).iD ds k=some o->Hp nx0 H0 (fu bp L k::(G++F)) H nx->bA P pl X0 (.jump (JK (ptr bp) sl H nx)) nx0 H0 (End nx0 H0 bp L F cb o)
 | 0,_,_,ds,vs,k,sl,G,o,nx,H,hm,hG,hL,hl,ho,h=>by cases ho
 | m+1,hd,he,ds,vs,k,sl,G,o,nx,H,hm,hG,hL,hl,ho,h=>by
   have ho:qV L (ps L m) ds k=some o:=ho;unfold qV at ho;have J14:∀(cs:List Value) (d:bm) (k' x1 nx2:Nat) (H2:Go.Ev.T OB),cs.length=17->cs.all aC=true->lE 0 zp (.agg ⟨cs⟩) d.v []->(ps L m).iD (ds++[d]) (skip L [59] k')=some o->Hp nx0 H0 (fu bp L k'::(x1,cs,57)::(G++F)) H2 nx2->bA P pl X0 (.jump (BW (ptr bp) sl (ptr x1) H2 nx2)) nx0 H0 (End nx0 H0 bp L F cb o):=by
    intro cs d k' x1 nx2 H2 hc h1 hz ho2 h2;refine Wq.jmp (Yp ..) (λ_=>rfl) ?_;simp only[af,Xh (h2.at_ 1 rfl) hc];refine Hq.K5 cs hc h2 λx H3 nx3 h3=> ?_;refine Hq.add [_] (v:= .agg ⟨cs⟩) jT gQ (Xf (by omega)) (by omega) (λv hv=>by rw[aP]at hv;subst hv;exact⟨hc,h1,⟨_,rfl⟩⟩) hG h3 λsl' G' H4 nx4 hG' h4=> ?_;refine Sq.skip hLL (Hp.sY h4) λbb H5 nx5 h5=> ?_;simp only[af];exact acU hLL m (λj hj=>hd j (by omega)) (λj hj=>he j (by omega)) (ds++[d]) (vs++[.agg ⟨cs⟩]) _ sl' G' o nx5 H5 (by rw[aj];simp;omega) hG' (by rw[dI];exact hL.snoc hz) (by simp[hl]) ho2 h5
   refine Wq.jmp (abm ..) (λ_=>rfl) ?_;refine Sq.now h λH1 aI h1=> ?_;simp only[af];refine Wq.bK (λhi=> ?_) (λhi=> ?_)
   . have hne:¬(tk L k).k=0:=by simpa using hi
     rw[if_neg hne]at ho;refine Sq.call (hd m (bz m)) rfl h1 ho λd k' H2 nx2 _ ho h2=> ?_;unfold vu;simp only[af,RU,RV];refine Hq.alloc fO h2 λx1 H3 nx3 h3=> ?_;refine Hq.set [_] h3 gQ rfl (d.getD Mf).len ((d.getD Mf).lx (d.getD Mf).v (by simp)).2.1 λH4 h4=> ?_
     cases d with
     | some d=>
       simp only[af,Option.isSome_some,cM];exact J14 _ d k' x1 _ H4 d.len (d.lx d.v (by simp)).2.1 d.fz ho h4
     | none=>
       simp only[af,Option.isSome_none,fk];refine Sq.call (he m (bz m)) rfl h4 ho λc k2 H5 nx5 _ ho h5=> ?_;simp only[af,Rj];refine Hq.set [_] h5 gQ (Mf.len) rfl rfl λH6 h6=> ?_
       exact J14 _ (Mh c) k2 x1 _ H6 rfl rfl bm.acT ho h6
   . have h0:(tk L k).k=0:=by simpa using hi
     rw[if_pos h0]at ho;exact Rk hG hL hl h1 λH9 nx9 h9=>End.ret ho rfl h9
end
section
variable {nx0 nx nx' bp k:Nat}{H0 H H':T OB}{F A B G G':List Bx}{s:Bx}{R:Go.Ev.Out->T OB->Nat->Prop}{b:Nat}{l:List Value}{e t:TypeId}{L:List Tok}
theorem K9 (w:List UInt8):vl false 1 [aK w]:=λv hv=>by
 rw[aP]at hv;subst hv;exact⟨rfl,rfl,rfl,rfl⟩
theorem Hq.DG (w:List UInt8){kt:Value->Go.Ev.T OB->Nat->Q}(h:Hp nx0 H0 (s::F) H nx)(hk:∀b H' nx',Hp nx0 H0 (s::(b,[aK w],9)::F) H' nx'->bA P pl X0 (kt (mO b 1 1) H' nx') nx0 H0 R):bA P pl X0 (bU (bC P H nx 49 1 (some [(0,aK w)])) kt) nx0 H0 R:=
 Hq.row mI lU sT rfl (ae3 _) h hk
theorem Hq.acV (A:List Bx){l:List (List UInt8)}{w:List UInt8}{sl:Value}{kt:Value->Go.Ev.T OB->Nat->Q}(hl:l.length<=1000000)(hG:Gw false 1 9 (l.map aK) sl G)(h:Hp nx0 H0 (s::(b,[aK w],9)::(A++(G++B))) H nx)
 (hk:∀sl' G' H' nx',Gw false 1 9 ((l++[w]).map aK) sl' G'->Hp nx0 H0 (s::(A++(G'++B))) H' nx'->bA P pl X0 (kt sl' H' nx') nx0 H0 R):bA P pl X0 (bU (fe P H nx [49,49] (some [sl,mO b 1 1])) kt) nx0 H0 R:=
 Hq.add A (v:=aK w) mI lU (ae2 (by rw[aa];omega)) (by rw[aa];omega) (K9 w) hG h λsl' G' H' nx' hG' h'=>hk sl' G' H' nx' (by rw[dI];exact hG') h'
theorem Gw.afd {l:List (List UInt8)}{sl:Value}(hG:Gw false 1 9 (l.map aK) sl G):fZ 1 49 sl (kl l) G:=
 fZ.gw mI lU oT rfl aeS hG (m6.id λv hv=>by obtain⟨x,_,rfl⟩:=bo.1 hv;exact lE.aK _) (λu hu=>by obtain⟨x,_,rfl⟩:=bo.1 hu;rfl) id
theorem Gw.acW (w:List UInt8):Gw false 1 9 ([w].map aK) (mO b 1 1) [(b,[aK w],9)]:=Gw.one (vs:=[aK w]) (K9 w) rfl (by decide)
theorem bm.aal {vs:List (List UInt8)}{w:List UInt8}{cl:List eO}{sv sc:Value}(hv:Gw false 1 9 (vs.map aK) sv G)(hc:Gw true 2 55 (cl.map eO.v) sc G'):
 lE 1 zp (.agg ⟨[i64 3,i64 0,i64 0,aK [],a_,i64 0,i64 0,aK [],a_,a_,a_,a_,sv,aK w,sc,aK [],a_]⟩) (HB ⟨vs,w,cl⟩) (G++G'):=by
 show lE 1 zp _ (bm.v _) _;rw[bm.bX];have:=jJ.cons (p:=(4,42)) (cs:=[i64 3,i64 0,i64 0,aK [],a_,i64 0,i64 0,aK [],a_,a_,a_,a_,sv,aK w,sc,aK [],a_]) rfl (pj (n:=1)) (jJ.cons (p:=(8,41)) rfl FL (jJ.cons (p:=(9,42)) rfl pj (jJ.cons (p:=(10,24)) rfl AX (jJ.cons (p:=(11,48)) rfl FM (jJ.cons (p:=(12,49)) rfl hv.afd (jJ.cons (p:=(14,50)) rfl hc.ae5 (jJ.cons (p:=(16,53)) rfl FP jJ.nil)))))));simp only[bf,cj]at this;exact lE.of this
theorem Xu (hL:L.length<=100000){vs:List (List UInt8)}{w:List UInt8}{sv:Value}(hv:Gw false 1 9 (vs.map aK) sv G'):∀(m:Nat),(∀j,j<m->cY 104 L eO.v (ps L j).qm)->∀(l:List eO) (k:Nat) (sl:Value) (G:List Bx) (o:nh Data) (z:List Value) (x0 x1 nx:Nat) (H:Go.Ev.T OB),l.length+m<=90010->Gw true 2 55 (l.map eO.v) sl G->z.length=17->
 bd ((ps L m).uv l k) (λl k=>yes ⟨vs,w,l⟩ k)=some o->Hp nx0 H0 (fu bp L k::(x1,[sv,aK w,sl],52)::(x0,z,57)::(G'++(G++F))) H nx->
 bA P pl X0 (.jump (sJ (ptr bp) (ptr x0) (ptr x1) H nx)) nx0 H0 (End nx0 H0 bp L F HB o)
 | 0,_,l,k,sl,G,o,z,x0,x1,nx,H,hm,hG,hz,ho,h=>by cases ho
 | m+1,hp,l,k,sl,G,o,z,x0,x1,nx,H,hm,hG,hz,ho,h=>by
   have ho:bd (mC L (ps L m) l k) (λl k=>yes ⟨vs,w,l⟩ k)=some o:=ho;unfold mC at ho;refine Wq.jmp (SC ..) (λ_=>rfl) ?_;refine Sq.take hL h (λhi H1 aI h1=> ?_) (λhi H1 aI h1=> ?_)
   . rw[if_pos hi,mc]at ho;simp only[af,aB (off:=2) (u:=sl) (h1.at_ 1 rfl) GI rfl];refine Sq.call (hp m (bz m)) rfl h1 ho λc k' H2 nx2 _ ho2 h2=> ?_;simp only[af,aB (off:=2) (u:=sl) (h2.at_ 1 rfl) GI rfl,cg];refine Hq.K3 c.cs c.len h2 λx H3 nx3 h3=> ?_;simp only[af,aB (off:=2) (u:=sl) (h3.at_ 2 rfl) GI rfl,cg];refine Hq.acs (_::_::G') (x:=c) (by omega) hG h3 λsl' G1 H4 nx4 hG1 h4=> ?_;refine Hq.put [_] h4 Wd (by rcases hG1.2 with⟨_,rfl,_⟩ | ⟨b,c,rfl,_⟩<;>rfl) (jv hG1) (by simp) rfl λH5 h5=> ?_;exact Xu hL hv m (λj hj=>hp j (by omega)) (l++[c]) k' sl' G1 o z x0 x1 nx4 H5 (by rw[aj];simp;omega) hG1 hz ho2 h5
   . rw[if_neg (by rw[hi];simp),jj]at ho;have hb:cA P 57 (some [(0,i64 3),(4,.agg ⟨[sv,aK w,sl]⟩)])=some (.agg ⟨[i64 3,i64 0,i64 0,aK [],a_,i64 0,i64 0,aK [],a_,a_,a_,a_,sv,aK w,sl,aK [],a_]⟩):=U2 ..;simp only[af,acz (h1.at_ 1 rfl) rfl,hb];have h5:Hp nx0 H0 (fu bp L k::(x0,z,57)::((G'++G)++F)) H1 aI:=by
      rw[bn];exact(Hp.mv [_] h1).sub (by simp)
     exact Hq.fin h5 gQ lT uY hz rfl (by simp[jv hG,jv hv]) (bm.aal hv hG) (by omega) λH9 nx9 h9=>End.ret ho rfl h9
theorem Rm (hL:L.length<=100000){n:Nat}(hn:n<=90000)(hp:∀j,j<=n->cY 104 L eO.v (ps L j).qm){vs:List (List UInt8)}{sv:Value}{z:List Value}{x0 x1:Nat}{o:nh Data}(hv:Gw false 1 9 (vs.map aK) sv G')(hz:z.length=17)
 (ho:gj L 3 k (λt k=>dj L [61] k λk=>bd ((ps L n).qm k) λc k=>bd (mC L (ps L n) [c] k) λl k=>yes (Data.mk vs t.s l) k)=some o) (h:Hp nx0 H0 (fu bp L k::(x1,[sv,aK [],a_],52)::(x0,z,57)::(G'++F)) H nx):
 bA P pl X0 (aX P pl (vL (ptr bp) (ptr x0) (ptr x1) H nx)) nx0 H0 (End nx0 H0 bp L F HB o):=by
 rw[JX];refine Sq.word (by decide) hL h ho λH1 aI _ ho h1=> ?_;simp only[af];refine Hq.put [_] h1 lU rfl rfl (by simp) rfl λH2 h2=> ?_;refine Sq.ov hL h2 ho λH3 nx3 _ ho h3=> ?_;refine Sq.call (hp n (ax n)) rfl h3 ho λc k' H4 nx4 _ ho h4=> ?_;refine Hq.K3 c.cs c.len h4 λx H5 nx5 h5=> ?_;refine Hq.put [_,_] h5 Wd rfl rfl (by simp) rfl λH6 h6=> ?_;have h7:Hp nx0 H0 (fu bp L k'::(x1,[sv,aK (tk L k).s,mO x 1 1],52)::(x0,z,57)::(G'++([(x,c.cs,55)]++F))) H6 nx5:=h6.perm (List.Perm.cons _ ((List.Perm.swap _ _ _).trans (List.Perm.cons _ ((List.Perm.swap _ _ _).trans (List.Perm.cons _ List.perm_middle.symm)))));exact Xu hL hv (n+1) (λj hj=>hp j (by omega)) [c] k' (mO x 1 1) [(x,c.cs,55)] o z x0 x1 nx5 H6 (show 1+(n+1)<=90010 by omega) (Gw.vt c.lx) hz ho h7
theorem Xv (hL:L.length<=100000){n:Nat}(hn:n<=90000)(hp:∀j,j<=n->cY 104 L eO.v (ps L j).qm):∀(m:Nat) (l:List (List UInt8)) (k:Nat) (sl:Value) (G:List Bx) (o:nh Data) (z:List Value) (x0 x1 nx:Nat) (H:Go.Ev.T OB),l.length+m<=90010->Gw false 1 9 (l.map aK) sl G->z.length=17->
 bd ((ps L m).uu l k) (λl k=>dj L [41] k λk=>gj L 3 k λt k=>dj L [61] k λk=>bd ((ps L n).qm k) λc k=>bd (mC L (ps L n) [c] k) λcl k=>yes (Data.mk l t.s cl) k)=some o->Hp nx0 H0 (fu bp L k::(x1,[sl,aK [],a_],52)::(x0,z,57)::(G++F)) H nx->
 bA P pl X0 (.jump (vM (ptr bp) (ptr x0) (ptr x1) H nx)) nx0 H0 (End nx0 H0 bp L F HB o)
 | 0,l,k,sl,G,o,z,x0,x1,nx,H,hm,hG,hz,ho,h=>by cases ho
 | m+1,l,k,sl,G,o,z,x0,x1,nx,H,hm,hG,hz,ho,h=>by
   have ho:bd (j9 L (ps L m) l k) (λl k=>dj L [41] k λk=>gj L 3 k λt k=>dj L [61] k λk=>bd ((ps L n).qm k) λc k=>bd (mC L (ps L n) [c] k) λcl k=>yes (Data.mk l t.s cl) k)=some o:=ho;unfold j9 at ho;refine Wq.jmp (SB ..) (λ_=>rfl) ?_;refine Sq.take hL h (λhi H1 aI h1=> ?_) (λhi H1 aI h1=> ?_)
   . rw[if_pos hi]at ho;have ho:gj L 5 (k+1) (λt k=>bd ((ps L m).uu (l++[t.s]) k) (λl k=>dj L [41] k λk=>gj L 3 k λt k=>dj L [61] k λk=>bd ((ps L n).qm k) λc k=>bd (mC L (ps L n) [c] k) λcl k=>yes (Data.mk l t.s cl) k))=some o:=by
      rw[<- ho];unfold gj;split<;>rfl
     simp only[af,aB (off:=0) (u:=sl) (h1.at_ 1 rfl) BI rfl];refine Sq.word (by decide) hL h1 ho λH2 nx2 _ ho2 h2=> ?_;simp only[af,aB (off:=0) (u:=sl) (h2.at_ 1 rfl) BI rfl,cg];refine Hq.DG (tk L (k+1)).s h2 λx H3 nx3 h3=> ?_;simp only[af,aB (off:=0) (u:=sl) (h3.at_ 2 rfl) BI rfl,cg];refine Hq.acV [_,_] (w:=(tk L (k+1)).s) (by omega) hG h3 λsl' G1 H4 nx4 hG1 h4=> ?_;refine Hq.put [_] h4 NV (by rcases hG1.2 with⟨_,rfl,_⟩ | ⟨b,c,rfl,_⟩<;>rfl) (jv hG1) (by simp) rfl λH5 h5=> ?_;exact Xv hL hn hp m (l++[(tk L (k+1)).s]) (k+1+1) sl' G1 o z x0 x1 nx4 H5 (by rw[aj];simp;omega) hG1 hz ho2 h5
   . rw[if_neg (by rw[hi];simp),jj]at ho;simp only[af];refine Sq.ov hL h1 ho λH2 nx2 _ ho h2=> ?_;have:=Rm hL hn hp hG hz ho h2;rw[JX]at this;exact this
theorem acX (hL:L.length<=100000){n:Nat}(hn:n<=90000)(hp:∀j,j<=n->cY 104 L eO.v (ps L j).qm):cY 103 L HB (ps L (n+1)).data:=by
 intro nx0 nx H0 H bp F k o ho h;have ho:u7 L (ps L n) k=some o:=ho;unfold u7 AL at ho;rw[adJ];refine Hq.alloc fO h λx0 H1 aI h1=> ?_;refine Hq.alloc Su h1 λx1 H2 nx2 h2=> ?_;refine Sq.now h2 λH3 nx3 h3=> ?_;refine Sq.T1 h3 λH4 nx4 h4=> ?_;simp only[af];refine Wq.ite (λhi=> ?_) (λhi=> ?_)
 . rw[if_pos hi,jj]at ho;simp only[af,pk h4,jC hL (kI (show(tk L k).k≠0 by omega))];refine gV h4 λH5 h5=> ?_;refine Hq.DG (tk L k).s h5 λx H6 nx6 h6=> ?_;refine Hq.put [_,_] h6 NV rfl rfl (by simp) rfl λH7 h7=> ?_;exact Wq.jump (λ_=>rfl) (Rm hL hn hp (G':=[(x,[aK (tk L k).s],9)]) (Gw.acW _) rfl ho (Hp.DF h7))
 rw[if_neg hi]at ho;refine Sq.take hL h4 (λhi H5 nx5 h5=> ?_) (λhi H5 nx5 h5=> ?_)
 . rw[if_pos hi]at ho;have ho:gj L 5 (k+1) (λt k=>bd (j9 L (ps L n) [t.s] k) λl k=>dj L [41] k λk=>gj L 3 k λt k=>dj L [61] k λk=>bd ((ps L n).qm k) λc k=>bd (mC L (ps L n) [c] k) λcl k=>yes (Data.mk l t.s cl) k)=some o:=by
    rw[<- ho];unfold gj;split
    . rw[mc];show bd (j9 L (ps L n) [(tk L (k+1)).s] (k+1+1)) _=bd (j9 L (ps L n) [(tk L (k+1)).s] (k+1+1)) _;refine congrArg (bd (j9 L (ps L n) [(tk L (k+1)).s] (k+1+1))) ?_;funext l k;unfold dj;split<;>rfl
    . rfl
   simp only[af];refine Sq.word (by decide) hL h5 ho λH6 nx6 _ ho h6=> ?_;simp only[af];refine Hq.DG (tk L (k+1)).s h6 λx H7 nx7 h7=> ?_;refine Hq.put [_,_] h7 NV rfl rfl (by simp) rfl λH8 h8=> ?_;exact Xv hL hn hp (n+1) [(tk L (k+1)).s] (k+1+1) (mO x 1 1) [(x,[aK (tk L (k+1)).s],9)] o _ x0 x1 nx7 H8 (show 1+(n+1)<=90010 by omega) (Gw.acW _) rfl ho (Hp.DF h8)
 . rw[if_neg (by rw[hi];simp),jj]at ho;simp only[af];exact Wq.jump (λ_=>rfl) (Rm hL hn hp (G':=[]) (Gw.nil _ _ _) rfl ho h5)
end
section
variable {L:List Tok}
structure afe (L:List Tok)(p:PS):Prop where
 exp:cY 61 L aO.v p.exp
 uq:U5 L p.uq
 bin:Rb L p.bin
 un:cY 151 L aO.v p.un
 atom:cY 178 L aO.v p.atom
 lt:cY 188 L aO.v p.lt
 pat:cY 148 L bk.v p.pat
 gR:cY 177 L bk.v p.gR
 ni:cY 147 L bI.v p.ni
 post:cY 175 L bI.v p.post
 qm:cY 104 L eO.v p.qm
 bind:cY 105 L vu p.bind
 fn:cY 149 L Fn.v p.fn
 dec:cY 60 L vu p.dec
 data:cY 103 L HB p.data
theorem cY.none {α:Type}{f:FuncId}{vf:α->Value}:cY f L vf (λ_=> .none):=λnx0 nx H0 H bp F k o ho _=>by cases ho
theorem aam (hL:L.length<=100000):∀n,n<=90001->∀j,j<=n->afe L (ps L j)
 | 0,_,j,hj=>by
   have:j=0:=by omega
   subst this;exact⟨cY.none,λnx0 nx H0 H bp F G k o kk l sl hl hG ho h=>(by cases ho),λlv nx0 nx H0 H bp F k o hl ho h=>(by cases ho),cY.none,cY.none,cY.none,cY.none,cY.none,cY.none,cY.none,cY.none,cY.none,cY.none,cY.none,cY.none⟩
 | n+1,hn,j,hj=>by
   have ih:=aam hL n (by omega)
   by_cases hjn:j<=n
   . exact ih j hjn
   . have:j=n+1:=by omega
     subst this;have i:=ih n (ax n);have hn':n<=90000:=by omega
     exact {
      exp:=ae8 hL i.exp i.uq λnx0 nx H0 H bp F k o=>i.bin 0 nx0 nx H0 H bp F k o (by omega)
      uq:=acH hL hn' (λj hj=>(ih j hj).pat) (λj hj=>(ih j hj).exp)
      bin:=acI hL hn' (λj hj=>(ih j hj).bin) i.un
      un:=acJ hL hn' (λj hj=>(ih j hj).atom) i.un
      atom:=acL hL hn' (λj hj=>(ih j hj).exp) i.lt
      lt:=acM hL hn' (λj hj=>(ih j hj).exp) (λj hj=>(ih j hj).bind)
      pat:=acE hL i.gR i.pat
      gR:=acG hL hn' (λj hj=>(ih j hj).pat)
      ni:=acB hL hn' (λj hj=>(ih j hj).post) i.ni
      post:=acC hL hn' (λj hj=>(ih j hj).ni)
      qm:=acD hL i.ni
      bind:=acQ hL hn' i.pat i.exp (λj hj=>(ih j hj).fn)
      fn:=acN hL hn' (λj hj=>(ih j hj).gR) i.exp
      dec:=afc hL i.data i.qm i.bind
      data:=acX hL hn' (λj hj=>(ih j hj).qm) }
theorem aff (hL:L.length<=100000){n:Nat}(hn:n<=90000):cY 35 L cb ((ps L n).iD []):=by
 intro nx0 nx H0 H bp F k o ho h;rw[q35];exact acU hL n (λj hj=>(aam hL n (by omega) j (by omega)).dec) (λj hj=>(aam hL n (by omega) j (by omega)).exp) [] [] k a_ [] o nx H (by simp;omega) (Gw.nil _ _ _) m6.nil rfl ho h
end
def isTrue (r:Option Rt):Bool:=match r with
 | some ⟨.ret (.bool true),false,_,_⟩=>true
 | _=>false
def pl0:ny:=⟨[],[],[],[],false⟩
theorem MC:Y3 lD .leaf (λH=>isTrue (FD P pl0 (λ_ _=>none) 1000 (.call 11 [] false none H 11)))=true:=by kernel_rfl
section
variable {nx0 nx nx' bp k:Nat}{H0 H H':T OB}{F A B G G':List Bx}{R:Go.Ev.Out->T OB->Nat->Prop}{b:Nat}{l:List Value}{e t:TypeId}{L:List Tok}
theorem Hq.aan (A:List Bx){off:Nat}{u:Value}{l':List Value}(h:Hp nx0 H0 (A++(b,l,e)::B) H nx)(hs:bT P t=some 1)(hc:u.cells.toList=[u])(ho:aC u=true)(hn:off<l.length)(hl:l.set off u=l'):
 ∃H',eD P H nx t (some (.pointer (some ⟨b,off,none⟩))) (some u)= .val undef H' nx/\Hp nx0 H0 (A++(b,l',e)::B) H' nx:=by
 obtain⟨o,H',nx',hA,⟨h1,h2,h3⟩,hr⟩:=Hq.put (R:=λo H2 nx2=>o= .ret undef/\nx2=nx/\Hp nx0 H0 (A++(b,l',e)::B) H2 nx) (k:=λv H nx=> .ret ⟨.ret v,false,H,nx⟩) A h hs hc ho hn hl λH' h'=>Wq.rC h'.ag ⟨rfl,rfl,h'⟩;cases he:eD P H nx t (some (.pointer (some ⟨b,off,none⟩))) (some u)with
 | val v H1 aI=>
   rw[he]at hr;have hr:some (⟨.ret v,false,H1,aI⟩:Rt)=some ⟨o,false,H',nx'⟩:=hr;cases hr;cases h1;cases h2;exact⟨_,rfl,h3⟩
 | _=>rw[he]at hr;cases hr
theorem U9 {sz:Nat}{x:Value}(hz:dD P e=some l)(hs:bT P t=some sz)(hl:l.length=sz)(hx:x.cells.toList.length=sz)(hone:x.cells.toList.all aC=true)(h:Hp nx0 H0 F H nx):
 ∃H',Hp nx0 H0 F H' (nx+1+1)/\∀k:Go.Ev.T OB->Nat->Q,(bU (eN P H nx e) λp H nx=>sx P H nx t (some p) x k)=k H' (nx+1+1):=by
 refine⟨Ev.set (Ev.set H (Ev.bits nx) (some (fR l e))) (Ev.bits nx) (some .dead),h.dZ ((((h.ag.set h.ag.1 _).succ).set h.ag.1 _).succ) (by omega) λb l e hb hi=>(hi.other (by omega) _).other (by omega) _,λk=> ?_⟩;rw[nH hz];have hg:(Ev.set H (Ev.bits nx) (some (fR l e))).get (Ev.bits nx)=some (fR l e):=by rw[Ev.get_at,if_pos rfl]
 show rf ((Ev.set H (Ev.bits nx) (some (fR l e))).get (Ev.bits nx)) (λn _ _=>aw (bT P t) (λs=>bif ay 0 0&&(ay n s&&(ay x.cells.toList.length s&&x.cells.toList.all aC))then
  fQ (Ev.bits nx) (Ev.set H (Ev.bits nx) (some (fR l e))) (some .dead) λH=>Ev.eF (cS (nx+1)) λn=>k H n else .bad) .bad)=_
 rw[hg];show aw (bT P t) (λs=>bif ay 0 0&&(ay l.length s&&(ay x.cells.toList.length s&&x.cells.toList.all aC))then
  fQ (Ev.bits nx) (Ev.set H (Ev.bits nx) (some (fR l e))) (some .dead) λH=>Ev.eF (cS (nx+1)) λn=>k H n else .bad) .bad=_
 rw[hs,aZ,hl,hx,hone,bQ,bW];have e2:ay sz sz=true:=cm sz;rw[e2];rfl
theorem bA.cast {q q':Q}(e:q=q')(h:bA P pl X0 q' nx0 H0 R):bA P pl X0 q nx0 H0 R:=e ▸ h
theorem bA.base {q:Q}{aI:Nat}{H1:T OB}(hA:Ag nx0 H0 aI H1)(h:bA P pl X0 q aI H1 R):bA P pl X0 q nx0 H0 λo H nx=>R o H nx/\Ag aI H1 nx H:=by
 obtain⟨o,H',nx',h1,h2,h3⟩:=h;exact⟨o,H',nx',hA.trans h1,⟨h2,h1⟩,h3⟩
theorem bA.mono {q:Q}{R':Go.Ev.Out->T OB->Nat->Prop}(h:bA P pl X0 q nx0 H0 R)(hR:∀o H nx,Ag nx0 H0 nx H->R o H nx->R' o H nx):bA P pl X0 q nx0 H0 R':=by
 obtain⟨o,H',nx',h1,h2,h3⟩:=h;exact⟨o,H',nx',h1,hR _ _ _ h1 h2,h3⟩
theorem K_ {c:Cg}{tm:T Value}{a1 a2 a3:Value}(h:bA P pl X0 (F_ P pl c tm .ret H nx) nx0 H0 R):bA P pl X0 (rX P pl c tm [(34,[a1,a2,a3])] .ret H nx) nx0 H0 R:=by
 obtain⟨o,H',nx',h1,h2,h3⟩:=h;refine⟨o,H',nx',h1,h2,?_⟩;have e1:Go.Ev.F P pl X0 (.call 34 [a1,a2,a3] true none H nx)=some ⟨.ret (.tuple ⟨[]⟩),false,H,nx⟩:=by
  rw[tS,adF];rfl
 show aw (Go.Ev.F P pl X0 (.call 34 [a1,a2,a3] true none H nx)) (λr=>(bkQ .ret r (rX P pl c tm [])).run (Go.Ev.F P pl X0)) none=_;rw[e1];exact h3
theorem acY (H:T OB)(a:Int):dx P H .neq 20 true (some (.iface 69 (.agg ⟨[i64 a]⟩))) (some .nilIface)=some (.bool true):=by kernel_rfl
theorem acZ (v:Value):lK P (some (.iface 69 v)) 69 true=some (.tuple ⟨[v,.bool true]⟩):=by kernel_rfl
theorem ac0 (H:T OB)(a:Int):aA P H 3 (some (ah (i64 a)))=some (i64 a):=by kernel_rfl
theorem ac1 (a:Int):aq P 69 (some (ah (.agg ⟨[i64 a]⟩))) 0=some (ah (i64 a)):=by kernel_rfl
theorem U_ {c:Cg}{tm:T Value}{x1 x2 x3:Nat}{v1 v2 v3:Value}{a:Int}(hh:Hp nx0 H0 ((x1,[v1],24)::(x2,[v2],3)::(x3,[v3],25)::F) H nx)
 (h:∀H' nx',Hp nx0 H0 ((x1,[a_],24)::(x2,[i64 a],3)::(x3,[i64 80],25)::F) H' nx'->bA P pl X0 (F_ P pl c tm .ret H' nx') nx0 H0 R):bA P pl X0 (rX P pl c tm [(34,[ptr x1,ptr x2,ptr x3])] (.j_ (nQ a)) H nx) nx0 H0 R:=by
 obtain⟨H1,h1,e1⟩:=U9 (x:= .agg ⟨[i64 a]⟩) Sv aa5 rfl rfl rfl hh;obtain⟨H2,e2,h2⟩:=Hq.aan (t:=24) (off:=0) (u:=a_) (l':=[a_]) [] h1 yy rfl rfl (by simp) rfl;obtain⟨H3,e3,h3⟩:=Hq.aan (t:=3) (off:=0) (u:=i64 a) (l':=[i64 a]) [_] h2 oV rfl rfl (by simp) rfl;obtain⟨H4,e4,h4⟩:=Hq.aan (t:=25) (off:=0) (u:=i64 80) (l':=[i64 80]) [_,_] h3 JF rfl rfl (by simp) rfl;obtain⟨o,H',nx',g1,g2,g3⟩:=h H4 _ h4;refine⟨o,H',nx',g1,g2,?_⟩;have e12:Go.Ev.F P pl X0 (GK (ptr x1) (ptr x2) (ptr x3) (ah (.agg ⟨[i64 a]⟩)) H1 (nx+1+1))=some ⟨.ret (.tuple ⟨[]⟩),true,H4,nx+1+1⟩:=by
  rw[tS,Yk];show Q.run (Go.Ev.F P pl X0) _=_;simp only[X_,X9,Yh,ac1,ac0,aZ,e2,e3,e4,bU,cg,aW,nC];rfl
 have e0:Go.Ev.F P pl X0 (.call 34 [ptr x1,ptr x2,ptr x3] true (some (nQ a)) H nx)=some ⟨.ret (.tuple ⟨[]⟩),true,H4,nx+1+1⟩:=by
  rw[tS,adE];show Q.run (Go.Ev.F P pl X0) _=_;simp only[X8,Ya,Yd,Yi,Yb,NY,Yc,Yg,Ye,Yf,acY,acZ,aZ,yo,nC,RU,RV,e1,Bs,cM,xD];exact e12
 show aw (Go.Ev.F P pl X0 (.call 34 [ptr x1,ptr x2,ptr x3] true (some (nQ a)) H nx)) (λr=>(bkQ (.j_ (nQ a)) r (rX P pl c tm [])).run (Go.Ev.F P pl X0)) none=_;rw[e0];exact g3
end
end
end Go.Proofs.YthjhonhhbddhkaaGreatDoor
