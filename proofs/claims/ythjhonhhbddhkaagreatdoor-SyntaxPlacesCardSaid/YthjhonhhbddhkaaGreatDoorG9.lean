/- Texts of this claim, side by side. -/
import Derived.Test.YthjhonhhbddhkaaGreatDoorG8
import Derived.Test.YthjhonhhbddhkaaGreatDoorG7
namespace Go.Proofs.YthjhonhhbddhkaaGreatDoor
open Go.Ev Go.RowKit
noncomputable section
set_option maxRecDepth 100000
set_option linter.unusedVariables false
set_option linter.unusedSimpArgs false
set_option maxHeartbeats 8000000
section
variable {nx0 nx nx':Nat}{H0 H H':T OB}{L:List Tok}{s:List UInt8}
theorem tL:∀{r:List UInt8} {n m:Nat},fU n r=some m->n<=4611686018427387903->m<=4611686018427387903
 | [],n,m,h,hn=>by cases h;exact hn
 | c::r,n,m,h,hn=>by
   rw[fU]at h;split at h
   . rename_i hc;have:=AY hc.1;exact tL h (by omega)
   . cases h
theorem LY:∀{f:Nat} {s:List UInt8} {q:List UInt8×Nat},qt f s=some q->q.1.length<=q.2:=by
 intro f
 induction f with
 | zero=>intro s q h;cases h
 | succ f ih=>
   intro s q h;cases s with
   | nil=>cases h
   | cons c r=>
     rw[lF]at h
     by_cases h1:c.toNat=34
     . rw[if_pos h1]at h;cases h;exact Nat.zero_le _
     rw[if_neg h1]at h
     by_cases h2:(bY (c::r)).2=0
     . rw[if_pos h2]at h;cases h
     rw[if_neg h2]at h;obtain⟨q1,hq,rfl⟩:=Option.map_eq_some_iff.1 h;have:=ih hq;show((bY (c::r)).1::q1.1).length<=(bY (c::r)).2+q1.2;rw[List.length_cons];omega
theorem HV {r:List UInt8}{q:Tok×Nat}(h:m9 r=some q):rg q.1.n/\q.1.s.length<=r.length:=by
 cases r with
 | nil=>cases h
 | cons c u=>
   rw[g8]at h
   by_cases hd:bq c=true
   . rw[if_pos hd]at h;unfold xD at h;cases hN:fU 0 ((c::u).takeWhile bq)with
     | none=>rw[hN]at h;cases h
     | some v=>
       rw[hN]at h;cases h;have:=tL hN (by omega);exact⟨by show rg (v:Int);omega,Nat.zero_le _⟩
   rw[if_neg hd]at h;unfold xC at h
   by_cases h34:c.toNat=34
   . rw[if_pos h34]at h;obtain⟨q1,hq,rfl⟩:=Option.map_eq_some_iff.1 h;have:=A0 hq;have:=LY hq;exact⟨by show rg 0;omega,by show q1.1.length<=_;simp;omega⟩
   rw[if_neg h34]at h
   by_cases hl:(bH c||bC c)=true
   . rw[if_pos hl]at h;have hle:=pK (p:=eZ) u;cases h;exact⟨by show rg 0;omega,by simp;omega⟩
   rw[if_neg hl]at h
   by_cases h39:c.toNat=39/\fW u=true
   . rw[if_pos h39]at h;cases h;exact⟨by show rg 0;omega,by show(List.take _ _).length<=_;rw[List.length_take];omega⟩
   rw[if_neg h39]at h;obtain⟨x,hx,rfl⟩:=Option.map_eq_some_iff.1 h;have hp:=(List.isPrefixOf_iff_prefix.1 (by simpa using List.find?_some hx:x.isPrefixOf (c::u)=true)).length_le;exact⟨by show rg 0;omega,hp⟩
theorem E7 (s:List UInt8):∀(m:Nat) (out:List Tok) (i:Nat),out.length<=1000->(∀t,t∈out->rg t.n/\t.s.length<=s.length)->(fy s m out i).1.length<=1001/\∀t,t∈(fy s m out i).1->rg t.n/\t.s.length<=s.length:=by
 have hnil:([]:List Tok).length<=1001/\∀t,t∈([]:List Tok)->rg t.n/\t.s.length<=s.length:=⟨by decide,λt h=>by simp at h⟩;intro m
 induction m with
 | zero=>intro out i _ _;exact hnil
 | succ m ih=>
   intro out i ho hT;unfold fy;split
   . exact hnil
   split
   . refine⟨by simp;omega,λt ht=> ?_⟩;rcases List.mem_append.1 ht with h | h
     . exact hT t h
     . rw[List.mem_singleton]at h;subst h;exact⟨by show rg 0;omega,Nat.zero_le _⟩
   split
   . exact hnil
   . rename_i q hq;split
     . exact hnil
     . rename_i h1000;refine ih _ _ (by rw[List.length_append,List.length_singleton];omega) λt ht=> ?_;rcases List.mem_append.1 ht with h | h
       . exact hT t h
       . rw[List.mem_singleton]at h;subst h;have:=HV hq;rw[List.length_drop]at this;exact⟨this.1,by have:=this.2;show q.1.s.length<=_;omega⟩
theorem tM (hl:s.length<cY):(scan s).1.length<=1001/\lD (scan s).1/\∀t,t∈(scan s).1->t.s.length<=4096:=by
 unfold scan;split
 . exact⟨by decide,λt h=>(by simp at h),λt h=>(by simp at h)⟩
 . have:=E7 s (s.length+1) [] 0 (by simp) (λt h=>by simp at h);exact⟨this.1,λt ht=>⟨(this.2 t ht).1,by have:=(this.2 t ht).2;show t.s.length<_;omega⟩,λt ht=>by have:=(this.2 t ht).2;omega⟩
theorem Ov (es:List Value)(H:T OB)(nx:Nat)(k:Value->T OB->Nat->Q):fH P 29 (bc 4 es) H nx k=k (bc 4 es) H nx:=by kernel_rfl
theorem HW (hT0:dN nx0 H0)(hL:L.length<=100000)(hT:lD L){n:Nat}(hn:n<=90000){o:gL (List ba)}(ho:(ps L n).bX [] 0=some o)(hA:Ag nx0 H0 nx H):aT P pl X0 (a4 P pl (.call 15 [fQ L] false none H nx)) nx0 H0 (EK (ml L o)):=by
 rw[Od,Ov];exact aT.mono (aT.base hA (QG (hT0.ag hA) hL hT hn ho)) λq H2 nx2 hA2 h2=>h2.1
def parse (s:List UInt8)(o:gL (List ba)):List ba×Int×Int:=if(scan s).2.2=0 then ml (scan s).1 o else([],((scan s).2.1:Int),(scan s).2.2)
theorem xG (s:List UInt8):ar (some (lG (scan s))) 0=some (fQ (scan s).1)/\ar (some (lG (scan s))) 1=some (i64 ((scan s).2.1:Int))/\ar (some (lG (scan s))) 2=some (i64 (scan s).2.2):=⟨rfl,rfl,rfl⟩
theorem Ow (hl:s.length<cY){o:gL (List ba)}(ho:(ps (scan s).1 90000).bX [] 0=some o)(hT0:dN nx0 H0)(hA:Ag nx0 H0 nx H):aT P pl X0 (a4 P pl (.call 12 [aE s] false none H nx)) nx0 H0 (EK (parse s o)):=by
 have hs:=tM hl;obtain⟨x0,x1,x2⟩:=xG s;rw[QJ];refine Wq.po hT0 (On s hl) hA λH1 aJ hA1=> ?_;simp only[af,x0,x1,x2];unfold parse;refine aT.BH (λh=> ?_) (λh=> ?_)
 . rw[if_neg h];exact Wq.kr hA1 ⟨aG,rfl,.inr ⟨rfl,rfl⟩⟩
 . rw[if_pos h];refine Wq.fi rfl (HW hT0 (by omega) hs.2.1 (Nat.le_refl _) ho hA1) (λu H2 nx2 hA2 hR=> ?_) (λu H2 nx2 hA2 hR=>by obtain⟨v,q,_⟩:=hR;cases q);obtain⟨v,q,hv⟩:=hR;cases q;generalize ml (scan s).1 o=r at hv ⊢;obtain⟨ds,a,e⟩:=r;have y0:ar (some (Value.tuple ⟨[v,i64 a,i64 e]⟩)) 0=some v:=rfl;have y1:ar (some (Value.tuple ⟨[v,i64 a,i64 e]⟩)) 1=some (i64 a):=rfl;have y2:ar (some (Value.tuple ⟨[v,i64 a,i64 e]⟩)) 2=some (i64 e):=rfl;simp only[af,y0,y1,y2];exact Wq.kr hA2 ⟨v,rfl,hv⟩
end
section
variable {nx0 nx nx':Nat}{H0 H H':T OB}{L M:List Tok}{s:List UInt8}
theorem BZ (s:List UInt8):∀(m:Nat) (out:List Tok) (i:Nat) (L:List Tok) (a:Nat),i<=s.length->out.Pairwise (λx y=>x.at_<y.at_)->(∀t,t∈out->0<=t.at_/\t.at_<(i:Int))->fy s m out i=(L,a,0)->
 ∃L0,L=L0++[⟨0,[],0,(s.length:Int)⟩]/\L0.Pairwise (λx y=>x.at_<y.at_)/\∀t,t∈L0->0<=t.at_/\t.at_<(s.length:Int):=by
 intro m
 induction m with
 | zero=>intro out i L a _ _ _ h;cases h
 | succ m ih=>
   intro out i L a hi hP hT h;unfold fy at h;split at h
   . cases h
   split at h
   . cases h;exact⟨out,rfl,hP,λt ht=>⟨(hT t ht).1,by have:=(hT t ht).2;omega⟩⟩
   rename_i h1 h2;split at h
   . cases h
   . rename_i q hq;split at h
     . cases h
     . have hp:=pL hq;rw[List.length_drop]at hp;refine ih _ _ L a (by omega) ?_ (λt ht=> ?_) h
       . rw[List.pairwise_append];refine⟨hP,List.pairwise_singleton _ _,λx hx y hy=> ?_⟩;rw[List.mem_singleton]at hy;subst hy;have:=(hT x hx).2;show x.at_<((i+(dF (s.drop i)).1:Nat):Int);omega
       . rcases List.mem_append.1 ht with h | h
         . exact⟨(hT t h).1,by have:=(hT t h).2;omega⟩
         . rw[List.mem_singleton]at h;subst h;exact⟨by show(0:Int)<=((i+(dF (s.drop i)).1:Nat):Int);omega,by show((i+(dF (s.drop i)).1:Nat):Int)<_;omega⟩
theorem E8 {a:Nat}(h:scan s=(L,a,0)):∃L0,L=L0++[⟨0,[],0,(s.length:Int)⟩]/\L0.Pairwise (λx y=>x.at_<y.at_)/\∀t,t∈L0->0<=t.at_/\t.at_<(s.length:Int):=by
 unfold scan at h;split at h
 . cases h
 . exact BZ s _ [] 0 L a (Nat.zero_le _) List.Pairwise.nil (λt ht=>by simp at ht) h
theorem E9 {i:Nat}{t:Tok}(h:L[i]? = some t):tk L i=t:=by unfold tk;rw[h];rfl
theorem places {L0:List Tok}{a:Int}(hL:L=L0++[⟨0,[],0,(s.length:Int)⟩])(hP:L0.Pairwise (λx y=>x.at_<y.at_))(hT:∀t,t∈L0->0<=t.at_/\t.at_<(s.length:Int))(ho:(ps L 90000).bX [] 0=some (.bad a)):
 ∃j t,L[j]? = some t/\t.at_=a/\0<=a/\a<=(s.length:Int)/\(∀(i:Nat) (x:Tok),L[i]? = some x->(x.at_<=a↔i<=j))/\∀M,(ps (L.take (j+1)++M) 90000).bX [] 0=some (.bad a):=by
 have hE:(tk L L0.length).k=0:=by
  rw[E9 (t:=⟨0,[],0,(s.length:Int)⟩) (by rw[hL,List.getElem?_append_right (Nat.le_refl _),Nat.sub_self];rfl)]
 have hPL:L.Pairwise (λx y=>x.at_<y.at_):=by
  rw[hL,List.pairwise_append];refine⟨hP,List.pairwise_singleton _ _,λx hx y hy=> ?_⟩;rw[List.mem_singleton]at hy;subst hy;exact(hT x hx).2
 have hlen:L.length=L0.length+1:=by rw[hL,List.length_append];rfl
 have hlt:∀(i j:Nat) (x y:Tok),L[i]? = some x->L[j]? = some y->i<j->x.at_<y.at_:=λi j x y hi hj hij=>by
  obtain⟨h1,rfl⟩:=List.getElem?_eq_some_iff.1 hi;obtain⟨h2,rfl⟩:=List.getElem?_eq_some_iff.1 hj;exact List.pairwise_iff_getElem.1 hPL i j h1 h2 hij
 have key:∀(L':List Tok) (K:Nat),(∀i,i<=K->tk L' i=tk L i)->∃j,j<=L0.length/\a=(tk L j).at_/\(j<=K->(ps L' 90000).bX [] 0=some (.bad a)):=λL' K hK=>by
  have:=(Ng (L:=L) (L':=L') (E:=L0.length) (K:=K) ⟨hE,hK⟩ 90000).bX [] 0 (Nat.zero_le _);rw[ho]at this;obtain⟨j,_,h2,h3,h4⟩:=this;exact⟨j,h2,h3,h4⟩
 obtain⟨j,hj,ha,_⟩:=key L 0 (λ_ _=>rfl);have hg:L[j]? = some L[j]:=List.getElem?_eq_getElem (by omega);rw[E9 hg]at ha;have uniq:∀(i:Nat) (x:Tok),L[i]? = some x->(x.at_<=a↔i<=j):=λi x hi=>by
  constructor
  . intro h;refine Decidable.byContradiction λq=> ?_;have:=hlt j i _ _ hg hi (by omega);omega
  . intro h
    by_cases q:i=j
    . subst q;rw[hg]at hi;cases hi;omega
    . have:=hlt i j _ _ hi hg (by omega);omega
 have hmem:L[j]∈L0\/L[j]=⟨0,[],0,(s.length:Int)⟩:=by
  have hm:=List.mem_of_getElem? hg;generalize L[j]=x at hm;rw[hL]at hm;rcases List.mem_append.1 hm with h | h
  . exact .inl h
  . exact .inr (List.mem_singleton.1 h)
 refine⟨j,L[j],hg,ha.symm,?_,?_,uniq,λM=> ?_⟩
 . rw[ha];rcases hmem with h | h
   . exact(hT _ h).1
   . rw[h];show(0:Int)<=(s.length:Int);omega
 . rw[ha];rcases hmem with h | h
   . have:=(hT _ h).2;omega
   . rw[h];exact Int.le_refl _
 . obtain⟨j2,h1,h2,h3⟩:=key (L.take (j+1)++M) j λi hi=>by
    unfold tk;rw[List.getElem?_append_left (by rw[List.length_take];omega),List.getElem?_take,if_pos (by omega)]
   refine h3 ?_;have hg2:L[j2]? = some L[j2]:=List.getElem?_eq_getElem (by omega);rw[E9 hg2]at h2;exact(uniq j2 _ hg2).1 (by omega)
end
section
variable {nx0 nx nx':Nat}{H0 H H':T OB}{L M l:List Tok}{s r:List UInt8}
theorem HX {q:Tok×Nat}(h:m9 r=some q):dk q.1=true:=by
 cases r with
 | nil=>cases h
 | cons c u=>
   rw[g8]at h
   by_cases hd:bq c=true
   . rw[if_pos hd]at h;unfold xD at h;cases hN:fU 0 ((c::u).takeWhile bq)with
     | none=>rw[hN]at h;cases h
     | some v=>
       rw[hN]at h;cases h;have:=tL hN (by omega);show(decide (([]:List UInt8)=[])&&(decide ((0:Int)<=(v:Int))&&decide ((v:Int)<=4611686018427387903)))=true;simp;omega
   rw[if_neg hd]at h;unfold xC at h
   by_cases h34:c.toNat=34
   . rw[if_pos h34]at h;obtain⟨q1,hq,rfl⟩:=Option.map_eq_some_iff.1 h;rfl
   rw[if_neg h34]at h
   by_cases hl:(bH c||bC c)=true
   . rw[if_pos hl]at h;cases h;have hw:isWord (c::u.takeWhile eZ)=true:=by
      show((bH c||bC c)&&(u.takeWhile eZ).all eZ)=true;rw[hl,List.all_takeWhile];rfl
     generalize c::u.takeWhile eZ=w at hw;have hk:eK w=4\/eK w=6\/eK w=3:=by
      unfold eK;split
      . exact .inl rfl
      . split
        . exact .inr (.inl rfl)
        . exact .inr (.inr rfl)
     show dk ⟨eK w,w,0,0⟩=true;rcases hk with h | h | h
     . rw[h];simp[dk,hw,h]
     . rw[h];simp[dk,hw,h]
     . rw[h];simp[dk,hw,h]
   rw[if_neg hl]at h
   by_cases h39:c.toNat=39/\fW u=true
   . rw[if_pos h39]at h;cases u with
     | nil=>cases h39.2
     | cons b w=>
       cases h;have e:List.take (2+(((b::w).drop 1).takeWhile mX).length) (c::b::w)=c::b::w.takeWhile mX:=by
        show List.take (2+(w.takeWhile mX).length) _=_;rw[Nat.add_comm,List.take_succ_cons,List.take_succ_cons,jW]
       show(isVar _&&decide ((0:Int)=0))=true;rw[e];show((decide (c.toNat=39)&&(bH b&&(w.takeWhile mX).all mX))&&decide ((0:Int)=0))=true;rw[List.all_takeWhile,show bH b=true from h39.2,decide_eq_true h39.1];rfl
   rw[if_neg h39]at h;obtain⟨x,hx,rfl⟩:=Option.map_eq_some_iff.1 h;have hm:=List.mem_of_find?_eq_some hx;show(decide ((0:Int)=0)&&bk.contains x)=true;rw[List.contains_iff_mem.2 hm];rfl
theorem B0 (s:List UInt8):∀(m:Nat) (out:List Tok) (i:Nat),(∀t,t∈out->dk t=true)->(∀t,t∈(fy s m out i).1->dk t=true)/\((fy s m out i).2.2=0\/(fy s m out i).2.2=70\/(fy s m out i).2.2=3):=by
 have hnil:∀t,t∈([]:List Tok)->dk t=true:=λt h=>by simp at h
 intro m
 induction m with
 | zero=>intro out i _;exact⟨hnil,.inr (.inl rfl)⟩
 | succ m ih=>
   intro out i ho;unfold fy;split
   . exact⟨hnil,.inr (.inl rfl)⟩
   split
   . refine⟨λt ht=> ?_,.inl rfl⟩;rcases List.mem_append.1 ht with h | h
     . exact ho t h
     . rw[List.mem_singleton]at h;subst h;rfl
   split
   . exact⟨hnil,.inr (.inl rfl)⟩
   . rename_i q hq;split
     . exact⟨hnil,.inr (.inr rfl)⟩
     . refine ih _ _ λt ht=> ?_;rcases List.mem_append.1 ht with h | h
       . exact ho t h
       . rw[List.mem_singleton]at h;subst h;exact HX hq
theorem vO (s:List UInt8):(∀t,t∈(scan s).1->dk t=true)/\((scan s).2.2=0\/(scan s).2.2=70\/(scan s).2.2=3):=by
 unfold scan;split
 . exact⟨λt h=>by simp at h,.inr (.inr rfl)⟩
 . exact B0 s _ [] 0 λt h=>by simp at h
theorem HY {l:List Tok}(h:∀t,t∈l->dk t=true):l.all dk=true:=List.all_eq_true.2 h
theorem A6 (l:List Tok):bL (l.map Tok.v)=gW l:=by
 show(l.map Tok.v).flatMap (λv=>v.cells.toList)=l.flatMap Tok.c;rw[List.flatMap_map];rfl
theorem tN:∀(l:List Tok) (i:Nat) (t:Tok),l[i]? = some t->(gW l)[i*4+3]? = some (i64 t.at_)/\(gW l)[i*4+0]? = some (i64 t.k)
 | [],i,t,h=>by simp at h
 | a::l,0,t,h=>by
   obtain rfl:a=t:=by simpa using h
   exact⟨rfl,rfl⟩
 | a::l,i+1,t,h=>by
   have ih:=tN l i t (by simpa using h);have e:gW (a::l)=a.c++gW l:=rfl;rw[e];refine⟨?_,?_⟩
   . rw[List.getElem?_append_right (by show 4<=_;omega)];show(gW l)[(i+1)*4+3-4]? = _;rw[show(i+1)*4+3-4=i*4+3 by omega];exact ih.1
   . rw[List.getElem?_append_right (by show 4<=_;omega)];show(gW l)[(i+1)*4+0-4]? = _;rw[show(i+1)*4+0-4=i*4+0 by omega];exact ih.2
theorem Wq.Qu {R:Go.Ev.Out->T OB->Nat->Prop}{t:Tok}{sl:Value}{k:Value->T OB->Nat->Q}(hsl:TS nx0 H nx l sl)(hsm:l.length<=100000)(h:Ag nx0 H0 nx H)
 (hk:∀H' sl' nx',TS nx0 H' nx' (l++[t]) sl'->Ag nx0 H0 nx' H'->aT P pl X0 (k sl' H' nx') nx0 H0 R):
 aT P pl X0 (ao (aq P H nx 29 1 (some [(0,t.v)])) λv H nx=>ao (bt P H nx [29,29] (some [sl,v])) k) nx0 H0 R:=by
 refine Wq.row eH ch bR rfl (pA _ _ _ _) h λH1 hb1 cA hA1=> ?_;have hx1:kc H1 4 (.slice (some ⟨nx,0,none⟩) 1 1)=some (1,t.c):=oZ (l:=t.c) hb1 rfl;have hn0:=h.1;rcases hsl with⟨rfl,rfl⟩ | ⟨b,hb0,hbx,hb,rfl⟩
 . refine Wq.FK eH ch rfl hx1 (vp (by decide)) hA1 (λq=>by cases q) λH2 _ hb2 keep2 hA2=> ?_;exact hk _ _ _ (.inr ⟨nx+1,by omega,by omega,by simpa using hb2,rfl⟩) hA2
 . refine Wq.app eH ch (cA _ _ _ hbx hb) ch (vo l) rfl hx1 rfl (vp (by omega)) hA1 hb0 (by omega) λH2 hb2 _ hA2=> ?_;refine hk _ _ _ (.inr ⟨nx+1,by omega,by omega,?_,by rw[List.length_append];rfl⟩) hA2;rw[show gW (l++[t])=gW l++t.c by unfold gW;simp];exact hb2
theorem TS.len {sl:Value}(h:TS nx0 H nx l sl):aM P #[29] 3 (some [sl])=some (i64 (l.length:Int)):=by
 rcases h with⟨rfl,rfl⟩ | ⟨b,_,_,_,rfl⟩
 . kernel_rfl
 . exact dM (by kernel_rfl)
theorem vP (s:List UInt8)(o:gL (List ba)):(parse s o).2.2≠80\/((scan s).2.2=0/\(scan s).1.all dk=true/\∃a,o= .bad a/\parse s o=([],a,80)):=by
 unfold parse
 by_cases h:(scan s).2.2=0
 . rw[if_pos h];unfold ml
   by_cases hT:(scan s).1.all dk=true
   . rw[if_pos hT];cases o with
     | ok ds k=>
       refine .inl ?_;show(if 100<fN ds 0 then([],0,81)else(ds,0,0):List ba×Int×Int).2.2≠80;split
       . decide
       . show(0:Int)≠80;decide
     | bad a=>exact .inr ⟨h,hT,a,rfl,rfl⟩
   . rw[if_neg hT];exact .inl (by decide)
 . rw[if_neg h];refine .inl ?_;show(scan s).2.2≠80;rcases(vO s).2 with q | q | q<;>rw[q]<;>decide
theorem HZ {L:List Tok}{j:Nat}(h:L.all dk=true):∀t,t∈L.take (j+1)->dk t=true:=λt ht=>List.all_eq_true.1 h t (List.mem_of_mem_take ht)
theorem Qv (s more:List UInt8)(hl:s.length<cY)(hl2:more.length<cY):PT 8 [aE s,aE more] (.bool true):=PT.of rfl λH nx hT=>by
 have hk:P0 11 [] (.bool true):=Pure.ext rfl;have hbig:cY=1125899906842624:=rfl;have hs:=tM hl;have hs2:=tM hl2;obtain⟨o,ho,_⟩:=(Nd (L:=(scan s).1) 90000).bX [] 0 (by omega);rw[q8];have L6:∀b H1 aJ,Ag nx H aJ H1->Wq P pl X0 (.jump (FQ (aE s) (aE more) b H1 aJ)) nx H (.bool true):=by
  intro b H1 aJ hA1;refine Wq.jmp (OY ..) (λ_=>rfl) ?_;cases b with
  | true=>
    simp only[af];refine Wq.call hk hA1 λH2 nx2 hA2=> ?_;simp only[af];exact Wq.ret hA2
  | false=>
    simp only[af];refine Wq.fi rfl (Ow hl ho hT hA1) (λu H2 nx2 hA2 hR=> ?_) (λu H2 nx2 hA2 hR=>by obtain⟨v,q,_⟩:=hR;cases q);obtain⟨v,q,hv⟩:=hR;cases q;have x1:∀a e:Int,ar (some (Value.tuple ⟨[v,i64 a,i64 e]⟩)) 1=some (i64 a):=λ_ _=>rfl;have x0:∀a e:Int,ar (some (Value.tuple ⟨[v,i64 a,i64 e]⟩)) 0=some v:=λ_ _=>rfl;have x2:∀a e:Int,ar (some (Value.tuple ⟨[v,i64 a,i64 e]⟩)) 2=some (i64 e):=λ_ _=>rfl;simp only[af,x0,x1,x2];refine Wq.po hT (JH s hl) hA2 λH3 nx3 hA3=> ?_;obtain⟨y0,y1,y2⟩:=xG s;simp only[af,y0,y1,y2];refine aT.BH (λh80=> ?_) (λh80=> ?_)
    . refine Wq.call hk hA3 λH4 nx4 hA4=> ?_;simp only[af];exact Wq.ret hA4
    rcases vP s o with h | ⟨he,hTk,a,rfl,hp⟩
    . exact absurd h80 h
    obtain⟨L,b0,e0,hsc⟩:∃L b e,scan s=(L,b,e):=⟨_,_,_,rfl⟩;rw[hsc]at he hTk ho hs;have he:e0=0:=he;subst he;obtain⟨L0,hL,hP,hTt⟩:=E8 hsc;obtain⟨j,t,hg,hat,ha0,has,huniq,hM⟩:=places hL hP hTt ho;have hlen:L.length<=1001:=hs.1;have hjl:j<L.length:=(List.getElem?_eq_some_iff.1 hg).1;rw[hp,hsc];have hT1:=hT.ag hA3;have L32:∀sl H4 nx4,TS nx H4 nx4 (L.take (j+1)) sl->Ag nx H nx4 H4->Wq P pl X0 (.jump (mM (aE more) (i64 a) sl false H4 nx4)) nx H (.bool true):=by
     intro sl H4 nx4 hS hA4;refine Wq.jmp (MI ..) (λ_=>rfl) ?_;have hn:(L.take (j+1)).length=j+1:=by rw[List.length_take];omega
     have hlen2:=hS.len;rw[hn]at hlen2;rcases hS with⟨q,_⟩ | ⟨b,hb0,hbx,hb,rfl⟩
     . rw[q]at hn;cases hn
     rw[hn]at hlen2 ⊢;have hgt:(L.take (j+1))[j]? = some t:=by rw[List.getElem?_take,if_pos (by omega)];exact hg
     obtain⟨_,c0⟩:=tN _ j t hgt;have ld:=ax hb mJ c0;simp only[af,hlen2,show IntKind.i64.wrap (((j+1:Nat):Int)-1)=(j:Int)by rw[a7 (by omega)];omega,iv (P:=P) (t:=29) (s:=4) (b:=b) (off:=0) (len:=j+1) (c:=dP) (i:=j) (by kernel_rfl) (by omega) .i64,CL,Nat.zero_add,ld];refine Wq.ite (λh=> ?_) (λh=> ?_)
     . refine Wq.call hk hA4 λH5 nx5 hA5=> ?_;simp only[af];exact Wq.ret hA5
     refine Wq.fi rfl (aT.base hA4 (R:=λo H nx=>o= .ret (lG (scan more)) ) ?_) (λu H5 nx5 hA5 hR=> ?_) (λu H5 nx5 hA5 hR=>by cases hR.1)
     . obtain⟨H5,nx5,g1,g2⟩:=JH more hl2 H4 nx4 (hT.ag hA4);refine⟨_,H5,nx5,g1,rfl,?_⟩;rw[p5]at g2;exact g2
     obtain⟨hR,hag⟩:=hR;cases hR;have hb5:=hb.ag hag hbx;obtain⟨z0,z1,z2⟩:=xG more;have L44:∀(M:List Tok) (mv:Value) H6 nx6,nx5<=nx6->cm H6 b (gW (L.take (j+1))) 31->kc H6 4 mv=some (M.length,gW M)->isStr mv=false->(gW M).all au=true->M.length<=1001->(∀t,t∈M->rg t.n/\eL t.s)->(∀t,t∈M->dk t=true)->Ag nx H nx6 H6->Wq P pl X0 (.jump (zW (i64 a) (.slice (some ⟨b,0,none⟩) (j+1) dP) mv H6 nx6)) nx H (.bool true):=by
      intro M mv H6 nx6 bM hb6 hxs hstr hone hMl hMT hMo hA6;refine Wq.jmp (MJ ..) (λ_=>rfl) ?_;have hag5:=hag.1;refine Wq.app eH ch hb6 ch (by rw[vo,hn]) hstr hxs hone (vp (by omega)) hA6 hb0 (by omega) λH7 hb7 _ hA7=> ?_;have hlenL:(L.take (j+1)++M).length=j+1+M.length:=by rw[List.length_append,hn]
      rw[<- hlenL];have hTL:lD (L.take (j+1)++M):=λx hx=>by
       rcases List.mem_append.1 hx with h | h
       . exact hs.2.1 x (List.mem_of_mem_take h)
       . exact hMT x h
      refine Wq.fi rfl (LF (c:=dP) (L:=L.take (j+1)++M) (b:=nx6) hT (by omega) hTL (Nat.le_refl 90000) (hM M) hA7 (by rw[A6,show gW (L.take (j+1)++M)=gW (L.take (j+1))++gW M by unfold gW;simp];exact hb7) hA6.1 (Nat.lt_succ_self _) (.inl rfl)) (λu H8 nx8 hA8 hR=> ?_) (λu H8 nx8 hA8 hR=>by obtain⟨⟨v,q,_⟩,_⟩:=hR;cases q);obtain⟨⟨w,q,hw⟩,_,_⟩:=hR;cases q;have hout:ml (L.take (j+1)++M) (.bad a)=([],a,80):=by
       unfold ml;rw[if_pos (HY λx hx=>by
        rcases List.mem_append.1 hx with h | h
        . exact HZ hTk x h
        . exact hMo x h)];rfl
      rw[hout];have w0:ar (some (Value.tuple ⟨[w,i64 a,i64 80]⟩)) 0=some w:=rfl;have w1:ar (some (Value.tuple ⟨[w,i64 a,i64 80]⟩)) 1=some (i64 a):=rfl;have w2:ar (some (Value.tuple ⟨[w,i64 a,i64 80]⟩)) 2=some (i64 80):=rfl;simp only[af,w0,w1,w2];refine Wq.call hk hA8 λH9 nx9 hA9=> ?_;simp only[af];exact Wq.ret hA9
     simp only[af,z0,z1,z2];refine aT.BH (λhz=> ?_) (λhz=> ?_)
     . refine Wq.row eH ch bR rfl (pA (i64 1) (aE []) (i64 3) (i64 0)) hA5 λH6 hb6 cA hA6=> ?_;have hag5:=hag.1;exact L44 [⟨1,[],3,0⟩] _ _ _ (Nat.le_succ _) (cA _ _ _ (by omega) hb5) (oZ hb6 rfl) rfl rfl (by decide) (λt ht=>by rw[List.mem_singleton]at ht;subst ht;exact⟨by decide,by decide⟩) (λt ht=>by rw[List.mem_singleton]at ht;subst ht;rfl) hA6
     . refine L44 (scan more).1 _ _ _ (Nat.le_refl _) hb5 ?_ rfl ?_ hs2.1 hs2.2.1 (vO more).1 hA5
       . have:=CI (H:=H5) 4 ((scan more).1.map Tok.v);rw[List.length_map]at this;rw[<- A6];exact this
       . rw[List.all_eq_true];intro x hx;obtain⟨t,_,ht⟩:=List.mem_flatMap.1 hx;have:∀x∈t.c,au x=true:=λx hx=>by
          have:x=i64 t.k\/x=aE t.s\/x=i64 t.n\/x=i64 t.at_:=by simpa[Tok.c]using hx
          rcases this with rfl | rfl | rfl | rfl<;>rfl
         exact this x ht
    have fin:∀sl H4 nx4,TS nx H4 nx4 (L.take (j+1)) sl->Ag nx H nx4 H4->∀{q:Q},q=(aa (aM P #[29] 3 (some [sl])) (λx13=>
 aa (ah P H4 .eql 3 true (some x13) (some (.int .i64 0))) (λx14=>
 aI x14 (λb15=>bK b15 (.jump (mM (aE more) (i64 a) sl true H4 nx4)) (aa (aM P #[29] 3 (some [sl])) (λx16=>
 aa (ah P H4 .sub 3 true (some x16) (some (.int .i64 1))) (λx17=>
 aa (ay P 29 (some sl) (some x17)) (λx18=>
 aa (ab P 31 (some x18) 3) (λx19=>
 aa (ae P H4 3 (some x19)) (λx20=>
 aa (ah P H4 .neq 3 false (some x20) (some (i64 a))) (λx21=>
 aI x21 (λb22=> .jump (mM (aE more) (i64 a) sl b22 H4 nx4)) .bad) .bad) .bad) .bad) .bad) .bad) .bad)) .bad) .bad) .bad)->Wq P pl X0 q nx H (.bool true):=by
       intro sl H4 nx4 hS hA4 q hq;subst hq;have hn:(L.take (j+1)).length=j+1:=by rw[List.length_take];omega
       have hlen2:=hS.len;rw[hn]at hlen2;have next:=L32 sl H4 nx4 hS hA4
       rcases hS with⟨q,_⟩ | ⟨b,hb0,hbx,hb,rfl⟩
       . rw[q]at hn;cases hn
       rw[hn]at hlen2 next ⊢
       have hgt:(L.take (j+1))[j]? = some t:=by rw[List.getElem?_take,if_pos (by omega)];exact hg
       obtain⟨c3,_⟩:=tN _ j t hgt;have ld:=ax hb mJ c3;rw[hat]at ld;simp only[af,hlen2,Gv,show IntKind.i64.wrap (((j+1:Nat):Int)-1)=(j:Int)by rw[a7 (by omega)];omega,iv (P:=P) (t:=29) (s:=4) (b:=b) (off:=0) (len:=j+1) (c:=dP) (i:=j) (by kernel_rfl) (by omega) .i64,CM,Nat.zero_add,ld];refine Wq.ite (λh=>by omega) (λ_=> ?_);exact next
    have loop:∀d i sl H4 nx4,i+d=j+1->TS nx H4 nx4 (L.take i) sl->Ag nx H nx4 H4->Wq P pl X0 (.jump (zV (aE more) (i64 a) (fQ L) sl (i64 ((i:Nat):Int)) H4 nx4)) nx H (.bool true):=by
     intro d
     induction d with
     | zero=>
       intro i sl H4 nx4 hi hS hA4;obtain rfl:i=j+1:=by omega
       refine Wq.jmp (IL ..) (λ_=>rfl) ?_
       by_cases hend:j+1<L.length
       . have hg2:L[j+1]? = some L[j+1]:=List.getElem?_eq_getElem hend;have hx:(L.map Tok.v)[j+1]? = some (L[j+1]).v:=by simp[hg2]
         have hno:¬(L[j+1]).at_<=a:=λq=>by have:=(huniq _ _ hg2).1 q;omega
         simp only[af,List.length_map,aU hend,zz hx];rw[decide_eq_false hno];simp only[af];exact fin sl H4 nx4 hS hA4 rfl
       . have hlj:L.length=j+1:=by omega
         simp only[af,List.length_map,hlj];rw[decide_eq_false (show ¬((j+1:Nat):Int)<((j+1:Nat):Int)by omega)];simp only[af];exact fin sl H4 nx4 hS hA4 rfl
     | succ d ih=>
       intro i sl H4 nx4 hi hS hA4;have hil:i<L.length:=by omega
       have hg2:L[i]? = some L[i]:=List.getElem?_eq_getElem hil;have hx:(L.map Tok.v)[i]? = some (L[i]).v:=by simp[hg2]
       have hyes:(L[i]).at_<=a:=(huniq _ _ hg2).2 (by omega);refine Wq.jmp (IL ..) (λ_=>rfl) ?_;simp only[af,List.length_map,aU hil,zz hx];rw[decide_eq_true hyes];simp only[af];refine Wq.Qu (t:=L[i]) hS (by rw[List.length_take];omega) hA4 λH5 sl5 nx5 hS5 hA5=> ?_;simp only[af,aL (show i<9223372036854775807 by omega)];refine ih (i+1) sl5 H5 nx5 (by omega) ?_ hA5;rw[List.take_add_one,hg2];exact hS5
    have L18:Wq P pl X0 (.jump (u9 (aE more) (i64 a) (fQ L) false H3 nx3)) nx H (.bool true):=by
     refine Wq.jmp (MH ..) (λ_=>rfl) ?_;simp only[af];exact loop (j+1) 0 _ H3 nx3 (by omega) (.inl ⟨rfl,rfl⟩) hA3
    simp only[af,aF _ aR,aK];refine Wq.ite (λh=>by omega) (λ_=> ?_);rw[decide_eq_false (show ¬(s.length:Int)<a by omega)];exact L18
 simp only[af,aF _ aR,aK];refine Wq.ite (λh=>L6 true _ _ (.refl _ _)) (λh=>L6 _ _ _ (.refl _ _))
end
end
end Go.Proofs.YthjhonhhbddhkaaGreatDoor
