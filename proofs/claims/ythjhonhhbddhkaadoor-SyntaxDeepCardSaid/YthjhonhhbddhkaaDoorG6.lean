/- Texts of this claim, side by side. -/
import Derived.Test.YthjhonhhbddhkaaDoorG5
namespace Go.Proofs.YthjhonhhbddhkaaDoor
open Go.Ev Go.RowKit
noncomputable section
set_option maxRecDepth 100000
set_option linter.unusedVariables false
set_option linter.unusedSimpArgs false
set_option maxHeartbeats 8000000
section
variable {L:List Tok}{k k' m n:Nat}{s w:List UInt8}{t:Tok}
def DE (L:List Tok)(k:Nat):Prop:=WS L k/\bC L k [124]=false/\CE L k
abbrev MD:List UInt8:=[97,110,100]
theorem DE.sg (h:fg (tk L k) (dY [59])):DE L k:=⟨WS.sg h (by decide +kernel),b_ h (by decide),TE.sg h (by decide) (by decide) (by decide),b_ h (by decide)⟩
def Ou (L:List Tok)(d:aJ):Prop:=(d.k=1\/d.k=2)->∀n k k',12*(jP d).length+12<=n->Sg L k (jP d) k'->DE L k'->bC L k' MD=false->(ps L n).bind k=yes (some d) k'
theorem D0 (ds:List aJ):∀(acc:List aJ) (n k:Nat),(∀d,d∈ds->Ou L d/\(d.k=1\/d.k=2))->12*((ds.map jP).flatMap λd=>d++[dY [59]]).length+2<=n->Sg L k (((ds.map jP).flatMap λd=>d++[dY [59]])++[eY [105,110]]) k'->(ps L n).sU acc k=yes (acc++ds) k':=by
 induction ds with
 | nil=>
   intro acc n k _ hn hS;obtain⟨m,rfl⟩:∃m,n=m+1:=⟨n-1,by omega⟩;obtain⟨h1,h2⟩:=hS;cases h2;show oQ L (ps L m) acc k=_;unfold oQ;rw[if_pos (gm h1),List.append_nil]
 | cons d ds ih=>
   intro acc n k hd hn hS;obtain⟨m,rfl⟩:∃m,n=m+1:=⟨n-1,by omega⟩;have eq:(((d::ds).map jP).flatMap λd=>d++[dY [59]])++[eY [105,110]]=jP d++dY [59]::(((ds.map jP).flatMap λd=>d++[dY [59]])++[eY [105,110]]):=by simp
   have el:(((d::ds).map jP).flatMap λd=>d++[dY [59]]).length=(jP d).length+1+((ds.map jP).flatMap λd=>d++[dY [59]]).length:=by rw[List.map_cons,List.flatMap_cons,List.length_append,List.length_append];rfl
   rw[el]at hn;rw[eq,Sg.app]at hS;obtain⟨j,h1,h2,h3⟩:=hS;obtain⟨hB,hk⟩:=hd d (by simp);have hnot:bC L k [105,110]=false:=by
    rw[z9]at h1;rcases hk with q | q
    . rw[if_pos q]at h1;exact cV h1.1 (by decide)
    . rw[if_neg (by omega),if_pos q,FP]at h1;cases hf:d.f with
      | nil=>
        rw[hf]at h1;cases h1;exact b_ h2 (by decide)
      | cons f r=>rw[hf]at h1;exact cV h1.1 (by decide)
   show oQ L (ps L m) acc k=_;unfold oQ;rw[bF hnot,hB hk m k j (by omega) h1 (DE.sg h2) (b_ h2 (by decide)),bN];show(ps L m).sU (acc++[d]) (skip L [59] j)=_;unfold skip;rw[if_pos (fo h2),ih (acc++[d]) m (j+1) (λx hx=>hd x (by simp[hx])) (by omega) h3];simp
theorem kx (e:au)(hr:gB e=true)(hs:jn e=e):(e.k=1->e= .mk 1 e.n [] [] [] [])/\(e.k=2\/e.k=3\/e.k=4->e= .mk e.k 0 e.s [] [] [])/\(e.k=5\/e.k=13\/e.k=6\/e.k=8\/e.k=11->e= .mk e.k 0 [] e.l [] [])/\(e.k=7\/e.k=9\/e.k=12->e= .mk e.k 0 [] e.l e.p [])/\(e.k=14\/e.k=15->e= .mk e.k 0 e.s e.l [] [])/\(e.k=10->e= .mk 10 0 [] e.l [] e.d):=by
 refine⟨λh=> ?_,λh=> ?_,λh=> ?_,λh=> ?_,λh=> ?_,λh=> ?_⟩
 . rw[<- hs];unfold jn;simp[h]<;>first | rfl | exact⟨rfl,rfl⟩ | exact⟨rfl,rfl,rfl⟩
 . rw[<- hs];unfold jn
   rcases h with h | h | h<;>simp[h]<;>first | rfl | exact⟨rfl,rfl⟩ | exact⟨rfl,rfl,rfl⟩
 . rw[<- hs];unfold jn
   rcases h with h | h | h | h | h<;>simp[h]<;>first | rfl | exact⟨rfl,rfl⟩ | exact⟨rfl,rfl,rfl⟩
 . rw[<- hs];unfold jn
   rcases h with h | h | h<;>simp[h]<;>first | rfl | exact⟨rfl,rfl⟩ | exact⟨rfl,rfl,rfl⟩
 . rw[<- hs];unfold jn
   rcases h with h | h<;>simp[h]<;>first | rfl | exact⟨rfl,rfl⟩ | exact⟨rfl,rfl,rfl⟩
 . rw[<- hs];unfold jn;simp[h]<;>first | rfl | exact⟨rfl,rfl⟩ | exact⟨rfl,rfl,rfl⟩
theorem td (w:List UInt8)(hw:w=[44]\/w=[59]){a b:au}{r:List au}(c:Int)(hl:∀x,x∈a::b::r->m9 L x)(hn:12*(dO w ((a::b::r).map aH)).length+12<=n)(hS:Sg L k (dO w ((a::b::r).map aH)) k')(hK:WS L k')(hN:bC L k' w=false):∃j,(ps L n).exp k=yes a j/\fg (tk L j) (dY w)/\kq L (ps L n) w (.mk c 0 [] [a] [] []) j=yes (.mk c 0 [] (a::b::r) [] []) k':=by
 have hst:oV w=true:=by rcases hw with rfl | rfl<;>decide +kernel
 rw[fR]at hn hS;have eq:dD (fx w aH) true (a::b::r)=aH a++dD (fx w aH) false (b::r):=rfl;rw[eq]at hn hS;rw[Sg.app]at hS;obtain⟨j,h1,h2⟩:=hS;rw[List.length_append]at hn;have h3:fg (tk L j) (dY w):=h2.1;refine⟨j,(hl a (by simp)).exp (by omega) h1 (WS.sg h3 hst),h3,?_⟩;have:=Bi (n:=n+1) w hst (b::r) (λx hx=>hl x (by simp at hx ⊢;exact .inr hx)) (.mk c 0 [] [a] [] []) (by omega) h2 hK hN;rw[Bh]at this;exact this
theorem FZ (e:au)(hr:gB e=true)(hB:Ld L e)(hA:l7 e.k=true->Lc L e)(hh:l7 e.k=false->∀k j,Sg L k (fQ e) j->bC L k [41]=false):Lc L e:=by
 cases hk:l7 e.k with
 | true=>exact hA hk
 | false=>
   intro n k k' hn hS;rw[js,hk,if_neg (by decide)]at hn hS;rw[Sg.cons,Sg.app]at hS;obtain⟨h1,j,h2,h3,h4⟩:=hS;cases h4;rw[List.length_cons,List.length_append]at hn;obtain⟨m,rfl⟩:∃m,n=m+1:=⟨n-1,by omega⟩;show eU L (ps L m) k=_;unfold eU;rw[if_neg (cG h1 (by decide)),if_neg (cG h1 (by decide)),if_neg (cG h1 (by decide)),if_neg (cG h1 (by decide)),bF (b_ h1 (by decide)),dB h1,bF (hh hk _ _ h2),hB m _ _ (by simp at hn;omega) h2 (WS.sg h3 (by decide +kernel)) (b_ h3 (by decide)),bN,bF (b_ h3 (by decide)),bF (b_ h3 (by decide)),dB h3]
theorem Ik {a:au}(ha:gB a=true){r:List Tok}{k j:Nat}(h:Sg L k (aH a++r) j):bC L k [41]=false:=by
 obtain⟨t,ts,e1,h1⟩:=oW a ha;rw[e1]at h;exact h1.no h.1 (by decide) (by decide)
def ER (L:List Tok)(e:au):Prop:=gB e=true->(Lc L e/\Ld L e)/\∀a,a∈e.l->m9 L a
def NO (L:List Tok)(d:aJ):Prop:=wM d=true->Ou L d/\(d.k=5->ER L d.e)
theorem ME (e:au)(hr:gB e=true)(ihE:∀c,c∈e.l->ER L c)(ihD:∀d,d∈e.d->NO L d)(hk:l7 e.k=true):Lc L e:=by
 intro n k k' hn hS;obtain⟨hsh,hl,hp,hdd,hd⟩:=gX e hr;obtain⟨sh1,sh2,sh3,sh4,sh5,sh6⟩:=kx e hr hsh;have hE:∀a,a∈e.l->m9 L a:=λa ha=>⟨(ihE a ha (hl a ha)).1.1,hl a ha⟩;have hE2:∀q,q∈e.l->∀a,a∈q.l->m9 L a:=λq hq=>(ihE q hq (hl q hq)).2;rw[js,if_pos hk,m8]at hn hS;unfold l7 at hk;simp only[Bool.or_eq_true,decide_eq_true_eq]at hk;unfold re at hn hS;unfold oM at hd
 by_cases h1:e.k=1
 . rw[if_pos h1]at hn hS;obtain⟨s1,s2⟩:=hS;cases s2;obtain⟨m,rfl⟩:∃m,n=m+1:=⟨n-1,by simp at hn;omega⟩;show eU L (ps L m) k=_;unfold eU;rw[if_pos s1.1,s1.2.2,<- sh1 h1]
 rw[if_neg h1]at hd hn hS
 by_cases h2:e.k=2\/e.k=3\/e.k=4
 . rw[if_pos h2]at hn hS;obtain⟨s1,s2⟩:=hS;cases s2;obtain⟨m,rfl⟩:∃m,n=m+1:=⟨n-1,by simp at hn;omega⟩;show eU L (ps L m) k=_;unfold eU;rw[s1.1,s1.2.1];have q:=sh2 h2;rcases h2 with h | h | h
   . rw[h]at q;rw[if_neg (by show ¬e.k=1;omega),if_pos h];exact congrArg (λx=>yes x (k+1)) q.symm
   . rw[h]at q;rw[if_neg (by show ¬e.k=1;omega),if_neg (by show ¬e.k=2;omega),if_pos h];exact congrArg (λx=>yes x (k+1)) q.symm
   . rw[h]at q;rw[if_neg (by show ¬e.k=1;omega),if_neg (by show ¬e.k=2;omega),if_neg (by show ¬e.k=3;omega),if_pos h];exact congrArg (λx=>yes x (k+1)) q.symm
 rw[if_neg h2]at hn hS;rw[if_neg (by omega),if_neg (by omega),if_neg (by omega)]at hd
 by_cases h5:e.k=5
 . rw[if_pos h5,l8,<- fR]at hn hS;rw[if_pos h5]at hd;rw[Sg.cons,Sg.app]at hS;obtain⟨s1,j,s2,s3,s4⟩:=hS;cases s4;rw[List.length_cons,List.length_append]at hn;obtain⟨m,rfl⟩:∃m,n=m+1:=⟨n-1,by omega⟩;show eU L (ps L m) k=_;unfold eU;rw[if_neg (cG s1 (by decide)),if_neg (cG s1 (by decide)),if_neg (cG s1 (by decide)),if_neg (cG s1 (by decide)),bF (b_ s1 (by decide)),dB s1];have q:=sh3 (.inl h5);rw[h5]at q
   match hel:e.l with
   | []=>
     rw[hel]at s2 q;cases s2;rw[if_pos (fo s3),<- q]
   | [a]=>rw[hel]at hd;cases hd
   | a::b::r=>
     rw[hel]at s2 hn q hE;obtain⟨j1,g1,g2,g3⟩:=td (n:=m) [44] (.inl rfl) 5 hE (by simp at hn ⊢;omega) s2 (WS.sg s3 (by decide +kernel)) (b_ s3 (by decide));have h41:bC L (k+1) [41]=false:=by
      rw[fR]at s2;exact Ik (r:=dD (fx [44] aH) false (b::r)) (hE a (by simp)).2 s2
     rw[bF h41,g1,bN,if_pos (fo g2),g3,bN,dB s3,<- q]
 rw[if_neg h5]at hn hS hd
 by_cases h13:e.k=13
 . rw[if_pos h13,l8,<- fR]at hn hS;rw[if_pos h13,decide_eq_true_eq]at hd;rw[Sg.cons,Sg.app]at hS;obtain⟨s1,j,s2,s3,s4⟩:=hS;cases s4;rw[List.length_cons,List.length_append]at hn;obtain⟨m,rfl⟩:∃m,n=m+1:=⟨n-1,by omega⟩;show eU L (ps L m) k=_;unfold eU;rw[if_neg (cG s1 (by decide)),if_neg (cG s1 (by decide)),if_neg (cG s1 (by decide)),if_neg (cG s1 (by decide)),bF (b_ s1 (by decide)),dB s1];have q:=sh3 (.inr (.inl h13));rw[h13]at q
   match hel:e.l with
   | []=>rw[hel]at hd;simp at hd
   | [a]=>rw[hel]at hd;simp at hd
   | a::b::r=>
     rw[hel]at s2 hn q hE;obtain⟨j1,g1,g2,g3⟩:=td (n:=m) [59] (.inr rfl) 13 hE (by simp at hn ⊢;omega) s2 (WS.sg s3 (by decide +kernel)) (b_ s3 (by decide));have h41:bC L (k+1) [41]=false:=by
      rw[fR]at s2;exact Ik (r:=dD (fx [59] aH) false (b::r)) (hE a (by simp)).2 s2
     rw[bF h41,g1,bN,bF (b_ g2 (by decide)),if_pos (fo g2),g3,bN,dB s3,<- q]
 rw[if_neg h13]at hn hS hd;have h10:e.k=10:=by omega
 rw[if_pos h10]at hn hS;rw[if_neg (by omega),if_neg (by omega),if_neg (by omega),if_neg (by omega),if_neg (by omega),if_neg (by omega),if_neg (by omega),if_pos h10,Bool.and_eq_true,decide_eq_true_eq,List.all_eq_true]at hd;have q:=sh6 h10
 match hel:e.l,hd.2 with
 | [x],_=>
   rw[hel]at hn hS q;have hxl:x∈e.l:=by rw[hel];simp
   have hx:m9 L x:=hE x hxl;simp only[List.map_cons,List.map_nil]at hn hS;have eb:(if x.k=13 then dO [59] (kr x).2 else ez (x.k,kr x))=if x.k=13 then dO [59] (x.l.map aH)else aH x:=by
    rw[show(kr x).2=x.l.map aH by rw[z8 x]];rfl
   rw[eb]at hn hS;rw[List.append_cons]at hS;rw[List.length_cons,List.length_append,List.length_cons,List.length_append]at hn;obtain⟨s1,hS⟩:=hS;rw[Sg.app]at hS;obtain⟨j,s2,hS⟩:=hS;rw[Sg.app]at hS;obtain⟨j1,s3,s4,s5⟩:=hS;cases s5;obtain⟨m,rfl⟩:∃m,n=m+2:=⟨n-2,by omega⟩;show eU L (ps L (m+1)) k=_;unfold eU;rw[if_neg (cG s1 (by decide)),if_neg (cG s1 (by decide)),if_neg (cG s1 (by decide)),if_neg (cG s1 (by decide)),if_pos (gm s1)];show Kh L (ps L m) (k+1)=_;have hlet:oQ L (ps L m) [] (k+1)=yes ([]++e.d) j:=D0 (L:=L) e.d [] (m+1) _ (λd hdm=>⟨(ihD d hdm (hdd d hdm)).1,by simpa using hd.1 d hdm⟩) (by omega) s2;unfold Kh;rw[hlet,bN,List.nil_append]
   by_cases hx13:x.k=13
   . rw[if_pos hx13]at hn s3;obtain⟨xsh,xl,_,_,xd⟩:=gX x hx.2;have xq:=(kx x hx.2 xsh).2.2.1 (.inr (.inl hx13));rw[hx13]at xq;unfold oM at xd;rw[hx13]at xd;have hxx:=hE2 x hxl
     match hxe:x.l with
     | []=>rw[hxe]at xd;cases xd
     | [a]=>rw[hxe]at xd;cases xd
     | a::b::r=>
       rw[hxe]at s3 hn xq hxx;obtain⟨j2,g1,g2,g3⟩:=td (n:=m) [59] (.inr rfl) 13 hxx (by simp at hn ⊢;omega) s3 (WS.ky s4 (by decide +kernel)) (cV s4 (by decide));rw[g1,bN,if_pos (fo g2),g3,bN,iE s4,<- xq,<- q]
   . rw[if_neg hx13]at hn s3;rw[hx.exp (by simp at hn;omega) s3 (WS.ky s4 (by decide +kernel)),bN,bF (cV s4 (by decide)),iE s4,<- q]
end
section
variable {L:List Tok}{k k' m n:Nat}{s w:List UInt8}{t:Tok}
def Ov (t:Tok):Prop:=wW t\/(∃s,dt.contains s=true/\t=DN s)\/t=eY [105,102]\/t=eY [99,97,115,101]\/t=eY [102,110]\/t=eY [114,97,105,115,101]
def vb:List (List UInt8):=[[41],[118,97,108],[102,117,110],[100,97,116,97,116,121,112,101],[101,120,99,101,112,116,105,111,110]]
theorem Ov.no (h:Ov t)(he:fg (tk L k) t)(hw:w∈vb):bC L k w=false:=by
 have key:∀w∈vb,[40]≠w/\wV≠w/\[105,102]≠w/\[99,97,115,101]≠w/\[102,110]≠w/\[114,97,105,115,101]≠w/\∀s∈dt,s≠w:=by decide +kernel
 obtain⟨k1,k2,k3,k4,k5,k6,k7⟩:=key w hw
 rcases h with h | ⟨s,hs,h⟩ | h | h | h | h
 . exact h.no he k1 k2
 . subst h;exact va he (k7 s (by simpa using hs))
 . subst h;exact cV he k3
 . subst h;exact cV he k4
 . subst h;exact cV he k5
 . subst h;exact cV he k6
theorem Ky (e:au)(hr:gB e=true)(hE:∀a,a∈e.l->m9 L a)(hk:l7 e.k=false):Ld L e/\∀k j,Sg L k (fQ e) j->∃t,Ov t/\fg (tk L k) t:=by
 obtain⟨hsh,hl,hp,hdd,hd⟩:=gX e hr;obtain⟨sh1,sh2,sh3,sh4,sh5,sh6⟩:=kx e hr hsh;have hP:∀q,q∈e.p->wU L q/\gz q=true:=λq hq=>⟨(lr q (hp q hq)).1.1,hp q hq⟩;unfold l7 at hk;simp only[Bool.or_eq_false_iff,decide_eq_false_iff_not]at hk;obtain⟨k1,k2,k3,k4,k5,k13,k10⟩:=hk;have hT:=m8 e;unfold re at hT;unfold oM at hd;rw[if_neg k1,if_neg (by omega),if_neg k5,if_neg k13,if_neg k10]at hT;rw[if_neg k1,if_neg k2,if_neg k3,if_neg k4,if_neg k5,if_neg k13]at hd
 by_cases h14:e.k=14
 . rw[if_pos h14]at hT;rw[if_neg (by omega),if_neg (by omega),if_neg (by omega),if_neg (by omega),if_neg (by omega),if_pos h14,Bool.and_eq_true,decide_eq_true_eq]at hd;have q:=sh5 (.inl h14)
   match hel:e.l,hd.1 with
   | [a,b],_=>
     rw[hel]at hT q hE;have eq:fQ e=aH a++DN e.s::aH b:=hT;refine⟨λn k k' hn hS hK hN=> ?_,λk j hS=> ?_⟩
     . rw[eq]at hn hS;rw[Sg.app]at hS;obtain⟨j,s1,s2,s3⟩:=hS;rw[List.length_append,List.length_cons]at hn;rw[FW (hE a (by simp)) (hE b (by simp)) hd.2 (by omega) s1 s2 s3 hK];rw[h14]at q;exact congrArg (λx=>yes x k') q.symm
     . rw[eq]at hS;rw[Sg.app]at hS;obtain⟨j,s1,s2,s3⟩:=hS;obtain⟨t,t1,t2⟩:=(hE a (by simp)).hd s1;exact⟨t,.inl t1,t2⟩
 rw[if_neg h14]at hT
 by_cases h15:e.k=15
 . rw[if_pos h15]at hT;rw[if_neg (by omega),if_neg (by omega),if_neg (by omega),if_neg (by omega),if_neg (by omega),if_neg h14,if_pos h15,Bool.and_eq_true,decide_eq_true_eq]at hd;have q:=sh5 (.inr h15)
   match hel:e.l,hd.1 with
   | [a],_=>
     rw[hel]at hT q hE;have eq:fQ e=DN e.s::aH a:=hT;refine⟨λn k k' hn hS hK hN=> ?_,λk j hS=> ?_⟩
     . rw[eq]at hn hS;obtain⟨s1,s2⟩:=hS;rw[List.length_cons]at hn;rw[FX (hE a (by simp)) hd.2 (by omega) s1 s2 hK];rw[h15]at q;exact congrArg (λx=>yes x k') q.symm
     . rw[eq]at hS;exact⟨_,.inr (.inl ⟨e.s,hd.2,rfl⟩),hS.1⟩
 rw[if_neg h15]at hT
 by_cases h6:e.k=6
 . rw[if_pos h6]at hT;rw[if_pos h6,decide_eq_true_eq]at hd;have q:=sh3 (.inr (.inr (.inl h6)))
   match hel:e.l,hd with
   | [a,b],_=>
     rw[hel]at hT q hE;have eq:fQ e=aH a++(aH b++[]):=hT;rw[List.append_nil]at eq;refine⟨λn k k' hn hS hK hN=> ?_,λk j hS=> ?_⟩
     . rw[eq]at hn hS;rw[Sg.app]at hS;obtain⟨j,s1,s2⟩:=hS;rw[List.length_append]at hn;rw[FY (hE a (by simp)) (hE b (by simp)) (by omega) s1 s2 hK];rw[h6]at q;exact congrArg (λx=>yes x k') q.symm
     . rw[eq]at hS;rw[Sg.app]at hS;obtain⟨j,s1,s2⟩:=hS;obtain⟨t,t1,t2⟩:=(hE a (by simp)).hd s1;exact⟨t,.inl t1,t2⟩
 rw[if_neg h6]at hT hd
 by_cases h8:e.k=8
 . rw[if_pos h8]at hT;rw[if_neg (by omega),if_pos h8,decide_eq_true_eq]at hd;have q:=sh3 (.inr (.inr (.inr (.inl h8))))
   match hel:e.l,hd with
   | [a,b,c],_=>
     rw[hel]at hT q hE;have eq:fQ e=eY [105,102]::(aH a++eY [116,104,101,110]::(aH b++eY [101,108,115,101]::aH c)):=hT;refine⟨λn k k' hn hS hK hN=> ?_,λk j hS=> ?_⟩
     . rw[eq]at hn hS;obtain⟨s0,hS⟩:=hS;rw[Sg.app]at hS;obtain⟨j,s1,s2,hS⟩:=hS;rw[Sg.app]at hS;obtain⟨j2,s3,s4,s5⟩:=hS;simp only[List.length_append,List.length_cons]at hn;obtain⟨m,rfl⟩:∃m,n=m+1:=⟨n-1,by omega⟩;show gC L (ps L m) k=_;unfold gC;rw[if_pos (gm s0),(hE a (by simp)).exp (by omega) s1 (WS.ky s2 (by decide +kernel)),bN,iE s2,(hE b (by simp)).exp (by omega) s3 (WS.ky s4 (by decide +kernel)),bN,iE s4,(hE c (by simp)).exp (by omega) s5 hK,bN];rw[h8]at q;exact congrArg (λx=>yes x k') q.symm
     . rw[eq]at hS;exact⟨_,.inr (.inr (.inl rfl)),hS.1⟩
 rw[if_neg h8]at hT
 by_cases h11:e.k=11
 . rw[if_pos h11,l8,<- fR]at hT;rw[if_neg (by omega),if_neg h8,if_neg (by omega),if_pos h11,decide_eq_true_eq]at hd;have q:=sh3 (.inr (.inr (.inr (.inr h11))))
   match hel:e.l,hd with
   | [a],_=>
     rw[hel]at hT q hE;have eq:fQ e=eY [114,97,105,115,101]::(aH a++[]):=hT;rw[List.append_nil]at eq;refine⟨λn k k' hn hS hK hN=> ?_,λk j hS=> ?_⟩
     . rw[eq]at hn hS;obtain⟨s0,s1⟩:=hS;rw[List.length_cons]at hn;obtain⟨m,rfl⟩:∃m,n=m+1:=⟨n-1,by omega⟩;show gC L (ps L m) k=_;unfold gC;rw[bF (cV s0 (by decide)),bF (cV s0 (by decide)),bF (cV s0 (by decide)),if_pos (gm s0),(hE a (by simp)).exp (by omega) s1 hK,bN];rw[h11]at q;exact congrArg (λx=>yes x k') q.symm
     . rw[eq]at hS;exact⟨_,.inr (.inr (.inr (.inr (.inr rfl)))),hS.1⟩
 rw[if_neg h11]at hT
 by_cases h7:e.k=7
 . rw[if_pos h7,List.map_map]at hT;rw[if_pos h7,Bool.and_eq_true,decide_eq_true_eq,decide_eq_true_eq]at hd;have q:=sh4 (.inl h7);have eq:fQ e=eY [102,110]::gW true (e.p.map bH) (e.l.map aH):=hT;refine⟨λn k k' hn hS hK hN=> ?_,λk j hS=> ?_⟩
   . rw[eq]at hn hS;obtain⟨s0,s1⟩:=hS;rw[List.length_cons]at hn;obtain⟨m,rfl⟩:∃m,n=m+1:=⟨n-1,by omega⟩;show gC L (ps L m) k=_;unfold gC;rw[bF (cV s0 (by decide)),bF (cV s0 (by decide)),if_pos (gm s0),oX hK hN 7 0 [] [] e.p e.l [] [] m (k+1) hd.2 hd.1 hP hE (by omega) s1,List.nil_append,List.nil_append];rw[h7]at q;exact congrArg (λx=>yes x k') q.symm
   . rw[eq]at hS;exact⟨_,.inr (.inr (.inr (.inr (.inl rfl)))),hS.1⟩
 rw[if_neg h7]at hT hd;rw[if_neg h8]at hd
 by_cases h9:e.k=9
 . rw[if_pos h9]at hT;rw[if_pos (.inl h9),Bool.and_eq_true,decide_eq_true_eq,decide_eq_true_eq]at hd;have q:=sh4 (.inr (.inl h9))
   match hel:e.l,hd with
   | a::r,hd=>
     rw[hel]at hT q hE;simp only[List.map_cons,List.map_map]at hT;have eq:fQ e=eY [99,97,115,101]::(aH a++eY [111,102]::gW true (e.p.map bH) (r.map aH)):=hT;rw[List.length_cons]at hd;refine⟨λn k k' hn hS hK hN=> ?_,λk j hS=> ?_⟩
     . rw[eq]at hn hS;obtain⟨s0,hS⟩:=hS;rw[Sg.app]at hS;obtain⟨j,s1,s2,s3⟩:=hS;rw[List.length_cons,List.length_append,List.length_cons]at hn;obtain⟨m,rfl⟩:∃m,n=m+1:=⟨n-1,by omega⟩;show gC L (ps L m) k=_;unfold gC;rw[bF (cV s0 (by decide)),if_pos (gm s0),(hE a (by simp)).exp (by omega) s1 (WS.ky s2 (by decide +kernel)),bN,iE s2,oX hK hN 9 0 [] [] e.p r [a] [] m (j+1) (by omega) (by omega) hP (λx hx=>hE x (by simp[hx])) (by omega) s3,List.nil_append];rw[h9]at q;exact congrArg (λx=>yes x k') q.symm
     . rw[eq]at hS;exact⟨_,.inr (.inr (.inr (.inl rfl))),hS.1⟩
 rw[if_neg h9]at hT
 by_cases h12:e.k=12
 . rw[if_pos h12]at hT;rw[if_pos (.inr h12),Bool.and_eq_true,decide_eq_true_eq,decide_eq_true_eq]at hd;have q:=sh4 (.inr (.inr h12))
   match hel:e.l,hd with
   | a::r,hd=>
     rw[hel]at hT q hE;simp only[List.map_cons,List.map_map]at hT;have eq:fQ e=aH a++eY FT::gW true (e.p.map bH) (r.map aH):=hT;rw[List.length_cons]at hd;have ha:=hE a (by simp);refine⟨λn k k' hn hS hK hN=> ?_,λk j hS=> ?_⟩
     . rw[eq]at hn hS;rw[Sg.app]at hS;obtain⟨j,s1,s2,s3⟩:=hS;rw[List.length_append,List.length_cons]at hn;obtain⟨m,rfl⟩:∃m,n=m+1:=⟨n-1,by omega⟩;obtain⟨t,h1,h2⟩:=ha.hd s1;have hbg:jO L j=false:=tc s2 (.inr (.inl rfl)) (by decide) (by decide);show gC L (ps L m) k=_;unfold gC;rw[bF (h1.no h2 (by decide) (by decide)),bF (h1.no h2 (by decide) (by decide)),bF (h1.no h2 (by decide) (by decide)),bF (h1.no h2 (by decide) (by decide)),gD (N:=12*(aH a).length+1) (λm hm=>ha.un hm s1 hbg) 7 0 rfl (λi _=>z_ s2 (by decide +kernel) i) m (by omega),bN,if_pos (gm s2),oX hK hN 12 0 [] [] e.p r [a] [] m (j+1) (by omega) (by omega) hP (λx hx=>hE x (by simp[hx])) (by omega) s3,List.nil_append];rw[h12]at q;exact congrArg (λx=>yes x k') q.symm
     . rw[eq]at hS;rw[Sg.app]at hS;obtain⟨j,s1,s2,s3⟩:=hS;obtain⟨t,t1,t2⟩:=ha.hd s1;exact⟨t,.inl t1,t2⟩
 rw[if_neg (by omega),if_neg h11,if_neg h14,if_neg h15,if_neg k10]at hd;cases hd
theorem F0 (e:au)(ihE:∀c,c∈e.l->ER L c)(ihD:∀d,d∈e.d->NO L d):ER L e:=λhr=>by
 obtain⟨hsh,hl,hp,hdd,hd⟩:=gX e hr;have hE:∀a,a∈e.l->m9 L a:=λa ha=>⟨(ihE a ha (hl a ha)).1.1,hl a ha⟩;have hA:l7 e.k=true->Lc L e:=ME e hr ihE ihD;cases hk:l7 e.k with
 | true=>
   have ha:=hA hk;have eP:aH e=fQ e:=by rw[js,if_pos hk]
   exact⟨⟨ha,λn k k' hn hS hK hN=>m9.exp ⟨ha,hr⟩ (by rw[eP];omega) (by rw[eP];exact hS) hK⟩,hE⟩
 | false=>
   obtain⟨hB,hh⟩:=Ky e hr hE hk;refine⟨⟨FZ e hr hB hA λ_ k j hS=> ?_,hB⟩,hE⟩;obtain⟨t,h1,h2⟩:=hh k j hS;exact h1.no h2 (by decide)
theorem D1 (l:List aD)(hl:∀a,a∈l->wU L a/\gz a=true):∀(acc:List aD) (n k:Nat),12*(l.flatMap bH).length+1<=n->Sg L k (l.flatMap bH) k'->lf L k'=false->(ps L n).FK acc k=yes (acc++l) k':=by
 induction l with
 | nil=>
   intro acc n k hn hS hN;obtain⟨m,rfl⟩:∃m,n=m+1:=⟨n-1,by omega⟩;cases hS;show oT L (ps L m) acc _=_;unfold oT;rw[bF hN,List.append_nil]
 | cons a l ih=>
   intro acc n k hn hS hN;obtain⟨m,rfl⟩:∃m,n=m+1:=⟨n-1,by omega⟩;rw[List.flatMap_cons,Sg.app]at hS;obtain⟨j,s1,s2⟩:=hS;rw[List.flatMap_cons,List.length_append]at hn;obtain⟨t,ts,e,h1,_⟩:=fT a (hl a (by simp)).2;have h2:fg (tk L k) t:=by rw[e]at s1;exact s1.1
   have h3:1<=(bH a).length:=by rw[e];simp
   show oT L (ps L m) acc k=_;unfold oT;rw[if_pos (h1.NN h2),(hl a (by simp)).1 m k j (by omega) s1,bN,ih (λx hx=>hl x (by simp[hx])) (acc++[a]) m j (by omega) s2 hN];simp
theorem Aa (f:Fn)(hr:Kg f=true)(hb:Ld L f.b)(hn:12*(Lb f).length+12<=n)(hS:Sg L k (Lb f) k')(hK:WS L k')(hN:bC L k' [124]=false):(ps L n).fn k=yes f k':=by
 rw[DI,Bool.and_eq_true,Bool.and_eq_true,Bool.and_eq_true,decide_eq_true_eq,fP]at hr;obtain⟨_,hl0,hR,_⟩:=hr;rw[Kw]at hn hS;obtain⟨s,l,b⟩:=f
 match l,hl0 with
 | q::l,_=>
 have hP:∀x,x∈q::l->wU L x/\gz x=true:=λx hx=>⟨(lr x (ed hR hx)).1.1,ed hR hx⟩;obtain⟨s1,hS⟩:=hS;rw[Sg.app]at hS;obtain⟨j,s2,s3,s4⟩:=hS;have eq:(Fn.mk s (q::l) b).p.flatMap bH=bH q++l.flatMap bH:=rfl;rw[eq,Sg.app]at s2;obtain⟨j1,s5,s6⟩:=s2;rw[eq,List.length_cons,List.length_append,List.length_append,List.length_cons]at hn;obtain⟨m,rfl⟩:∃m,n=m+1:=⟨n-1,by omega⟩;show Ki L (ps L m) k=_;unfold Ki;have hp:oT L (ps L m) [q] j1=yes ([q]++l) j:=D1 l (λx hx=>hP x (by simp[hx])) [q] (m+1) _ (by omega) s6 (tb s3 (by decide) (by decide) (by decide));rw[DU s1.1,(hP q (by simp)).1 m _ _ (by omega) s5,bN,hp,bN,dB s3,hb m _ _ (by show 12*(fQ b).length+12<=m;have:(fQ (Fn.mk s (q::l) b).b)=fQ b:=rfl;rw[this]at hn;omega) s4 hK hN,bN,s1.2.1];rfl
theorem Bj (l:List Fn)(hl:∀f,f∈l->Kg f=true/\Ld L f.b)(hK:WS L k')(hN:bC L k' [124]=false)(hA:bC L k' MD=false):∀(acc:List Fn) (n k:Nat),12*(ku false l).length+1<=n->Sg L k (ku false l) k'->(ps L n).sV acc k=yes (acc++l) k':=by
 induction l with
 | nil=>
   intro acc n k hn hS;obtain⟨m,rfl⟩:∃m,n=m+1:=⟨n-1,by omega⟩;rw[ku]at hS;cases hS;show oS L (ps L m) acc _=_;unfold oS;rw[bF hA,List.append_nil]
 | cons f l ih=>
   intro acc n k hn hS;obtain⟨m,rfl⟩:∃m,n=m+1:=⟨n-1,by omega⟩;rw[ku,if_neg (by decide)]at hn hS;obtain⟨s1,hS⟩:=hS;rw[Sg.app]at hS;obtain⟨j,s2,s3⟩:=hS;rw[List.length_cons,List.length_append]at hn;have hj:WS L j/\bC L j [124]=false:=by
    cases l with
    | nil=>rw[ku]at s3;cases s3;exact⟨hK,hN⟩
    | cons g l=>
      rw[ku,if_neg (by decide)]at s3;exact⟨WS.ky s3.1 (by decide +kernel),cV s3.1 (by decide)⟩
   show oS L (ps L m) acc k=_;unfold oS;rw[if_pos (gm s1),Aa f (hl f (by simp)).1 (hl f (by simp)).2 (by omega) s2 hj.1 hj.2,bN,ih (λx hx=>hl x (by simp[hx])) (acc++[f]) m j (by omega) s3];simp
theorem F2 (d:aJ)(hr:wM d=true)(ihE:ER L d.e)(ihF:∀f,f∈d.f->ER L f.b):Ou L d:=λhk n k k' hn hS hK hA=>by
 have e0:=FI d;rw[hr]at e0;rw[z9]at hn hS;obtain⟨m,rfl⟩:∃m,n=m+1:=⟨n-1,by omega⟩;show lj L (ps L m) k=_;unfold lj;rcases hk with h1 | h2
 . rw[if_pos h1]at e0 hn hS;have e1:=e0.symm;rw[Bool.and_eq_true,Bool.and_eq_true]at e1;obtain⟨s0,hS⟩:=hS;rw[Sg.app]at hS;obtain⟨j,s1,s2,s3⟩:=hS;rw[List.length_cons,List.length_append,List.length_cons]at hn;rw[if_pos (gm s0),(lr d.p e1.2.1).1.2 m _ _ (by omega) s1 (PE.sg s2 (by decide) (by decide) (by decide) (by decide)),bN,dB s2,(ihE e1.2.2).1.2 m _ _ (by omega) s3 hK.1 hK.2.1,bN];have q:gj d=d:=by simpa[uY]using e1.1
   have q2:d= .mk 1 d.p d.e [] gS lg:=by
    conv=>lhs;rw[<- q]
    unfold gj;simp[h1]
   exact congrArg (λx=>yes (some x) k') q2.symm
 . rw[if_neg (by omega)]at e0 hn hS;rw[if_pos h2]at hn hS;rw[if_neg (by omega),if_pos h2]at e0;have e1:=e0.symm;rw[Bool.and_eq_true,Bool.and_eq_true,decide_eq_true_eq,Bf]at e1;obtain⟨hfr,hf0,hq⟩:=e1;have q:gj d=d:=by simpa[uY]using hq
   have q2:d= .mk 2 l6 mK d.f gS lg:=by
    conv=>lhs;rw[<- q]
    unfold gj;simp[h2]
   match hdf:d.f,hf0 with
   | f::l,_=>
     rw[hdf]at hn hS q2 hfr;rw[ku,if_pos rfl]at hn hS;obtain⟨s0,hS⟩:=hS;rw[Sg.app]at hS;obtain⟨j,s1,s2⟩:=hS;rw[List.length_cons,List.length_append]at hn;have hF:∀x,x∈f::l->Kg x=true/\Ld L x.b:=λx hx=>by
      have hx1:=ed hfr hx;have hx2:=hx1;rw[DI,Bool.and_eq_true,Bool.and_eq_true,Bool.and_eq_true]at hx2;exact⟨hx1,(ihF x (by rw[hdf];exact hx) hx2.2.2.2).1.2⟩
     have hj:WS L j/\bC L j [124]=false:=by
      cases l with
      | nil=>rw[ku]at s2;cases s2;exact⟨hK.1,hK.2.1⟩
      | cons g l=>
        rw[ku,if_neg (by decide)]at s2;exact⟨WS.ky s2.1 (by decide +kernel),cV s2.1 (by decide)⟩
     have hp:oS L (ps L m) [f] j=yes ([f]++l) k':=Bj l (λx hx=>hF x (by simp[hx])) hK.1 hK.2.1 hA [f] (m+1) _ (by omega) s2;rw[bF (cV s0 (by decide)),if_pos (gm s0),Aa f (hF f (by simp)).1 (hF f (by simp)).2 (by omega) s1 hj.1 hj.2,bN,hp,bN];exact congrArg (λx=>yes (some x) k') q2.symm
theorem F3 (d:aJ)(ihE:ER L d.e)(ihF:∀f,f∈d.f->ER L f.b):NO L d:=λhr=>⟨F2 d hr ihE ihF,λ_=>ihE⟩
theorem Qc (L:List Tok)(e:au):ER L e:=au.ind (p:=ER L) (q:=NO L) F0 F3 e
end
section
variable {nx0 nx:Nat}{H0 H:T OB}{R:Go.Ev.Out->T OB->Nat->Prop}
theorem D2 (q:Bool)(a b:List UInt8)(h:a.length+b.length<=9223372036854775807):bX P H .add 9 q (some (ar a)) (some (ar b))=some (ar (a++b)):=by
 have e:(⟨⟨a⟩⟩:ByteArray)++⟨⟨b⟩⟩=⟨⟨a++b⟩⟩:=by
  apply ByteArray.ext;simp
 rw[wc _ _ _ _ (by rw[aQ,aQ];exact h),e]
def vc:List Tok->List UInt8
 | []=>[]
 | [t]=>fF t
 | t::ts=>fF t++32::vc ts
theorem lu {t:Tok}{ts:List Tok}(h:ts≠[]):vc (t::ts)=fF t++32::vc ts:=by
 cases ts with
 | nil=>exact absurd rfl h
 | cons a l=>rfl
theorem wY {a b:List Tok}(ha:a≠[])(hb:b≠[]):vc (a++b)=vc a++32::vc b:=by
 induction a with
 | nil=>exact absurd rfl ha
 | cons t a ih=>
   cases a with
   | nil=>exact lu hb
   | cons u a=>
     rw[List.cons_append,lu (t:=t) (ts:=u::a++b) (by simp),ih (by simp),lu (t:=t) (ts:=u::a) (by simp),List.append_assoc,List.cons_append]
theorem Kz (n:Int):BB n≠[]:=by
 intro h;have:=(wT n.natAbs n.natAbs [] (Nat.lt_of_lt_of_le (Nat.lt_pow_self (by omega)) (Nat.pow_le_pow_right (by omega) (by omega)))).2;unfold BB at h;split at h
 . cases h
 . rw[h]at this;simp at this
theorem Ow {n:Nat}(h:n<=1048576):a_ P 9 1 n=true:=by
 have:a_ P 9 1 n=(Nat.ble n 1048576&&true):=by kernel_rfl
 rw[this,Nat.ble_eq_true_of_le h];rfl
theorem Ox (a:ByteArray):Instr.fill (λi=>some (i*1,1)) (bk [Value.string ⟨⟨[]⟩⟩] (1*1)) [(0,.string a)]=some ⟨[.string a]⟩:=by kernel_rfl
end
section
variable {nx0 nx nx' bp k:Nat}{H0 H H':T OB}{F A B G G':List Bx}{s:Bx}{R:Go.Ev.Out->T OB->Nat->Prop}{b:Nat}{l:List Value}{e t:TypeId}{L:List Tok}
abbrev aq:Value:= .slice none 0 0
abbrev gF (b n c:Nat):Value:= .slice (some ⟨b,0,none⟩) n c
theorem F4 (c0 c1 c2 c3 c4 c5:Value)(z:List Value)(hz:bn P 44=some z):Instr.fill (λi=>some (i*6,6)) (bk z (1*6)) [(0,.agg ⟨[c0,c1,c2,c3,c4,c5]⟩)]=some ⟨[c0,c1,c2,c3,c4,c5]⟩:=by
 rw[br]at hz;cases hz;kernel_rfl
theorem Hq.eV (cs:List Value)(hc:cs.length=6){kt:Value->T OB->Nat->Q}(h:Hp nx0 H0 (s::F) H nx)(hk:∀b H' nx',Hp nx0 H0 (s::(b,cs,44)::F) H' nx'->ay P pl X0 (kt (gF b 1 1) H' nx') nx0 H0 R):ay P pl X0 (bf (aF P H nx 42 1 (some [(0,.agg ⟨cs⟩)])) kt) nx0 H0 R:=
 match cs,hc with
 | [c0,c1,c2,c3,c4,c5],_=>Hq.row eg bM br rfl (F4 _ _ _ _ _ _ _ br) h hk
theorem F5 (c0 c1 c2 c3 c4 c5 d0 d1 d2 d3 d4 d5:Value)(z:List Value)(hz:bn P 44=some z):Instr.fill (λi=>some (i*6,6)) (bk z (2*6)) [(0,.agg ⟨[c0,c1,c2,c3,c4,c5]⟩),(1,.agg ⟨[d0,d1,d2,d3,d4,d5]⟩)]=some ⟨[c0,c1,c2,c3,c4,c5,d0,d1,d2,d3,d4,d5]⟩:=by
 rw[br]at hz;cases hz;kernel_rfl
theorem Hq.te (cs ds:List Value)(hc:cs.length=6)(hd:ds.length=6){kt:Value->T OB->Nat->Q}(h:Hp nx0 H0 (s::F) H nx)(hk:∀b H' nx',Hp nx0 H0 (s::(b,cs++ds,44)::F) H' nx'->ay P pl X0 (kt (gF b 2 2) H' nx') nx0 H0 R):ay P pl X0 (bf (aF P H nx 42 2 (some [(0,.agg ⟨cs⟩),(1,.agg ⟨ds⟩)])) kt) nx0 H0 R:=
 match cs,hc,ds,hd with
 | [c0,c1,c2,c3,c4,c5],_,[d0,d1,d2,d3,d4,d5],_=>Hq.row eg bM br rfl (F5 _ _ _ _ _ _ _ _ _ _ _ _ _ br) h hk
theorem F6 (c0 c1 c2 c3 c4 c5 d0 d1 d2 d3 d4 d5 f0 f1 f2 f3 f4 f5:Value)(z:List Value)(hz:bn P 44=some z):Instr.fill (λi=>some (i*6,6)) (bk z (3*6)) [(0,.agg ⟨[c0,c1,c2,c3,c4,c5]⟩),(1,.agg ⟨[d0,d1,d2,d3,d4,d5]⟩),(2,.agg ⟨[f0,f1,f2,f3,f4,f5]⟩)]=some ⟨[c0,c1,c2,c3,c4,c5,d0,d1,d2,d3,d4,d5,f0,f1,f2,f3,f4,f5]⟩:=by
 rw[br]at hz;cases hz;kernel_rfl
theorem Hq.F7 (cs ds fs:List Value)(hc:cs.length=6)(hd:ds.length=6)(hf:fs.length=6){kt:Value->T OB->Nat->Q}(h:Hp nx0 H0 (s::F) H nx)(hk:∀b H' nx',Hp nx0 H0 (s::(b,cs++ds++fs,44)::F) H' nx'->ay P pl X0 (kt (gF b 3 3) H' nx') nx0 H0 R):ay P pl X0 (bf (aF P H nx 42 3 (some [(0,.agg ⟨cs⟩),(1,.agg ⟨ds⟩),(2,.agg ⟨fs⟩)])) kt) nx0 H0 R:=
 match cs,hc,ds,hd,fs,hf with
 | [c0,c1,c2,c3,c4,c5],_,[d0,d1,d2,d3,d4,d5],_,[f0,f1,f2,f3,f4,f5],_=>Hq.row eg bM br rfl (F6 _ _ _ _ _ _ _ _ _ _ _ _ _ _ _ _ _ _ _ br) h hk
theorem MF {n:Nat}(h:n<=1048576):a_ P 44 6 n=true:=by
 have:a_ P 44 6 n=(Nat.ble n 1048576&&true):=by kernel_rfl
 rw[this,Nat.ble_eq_true_of_le h];rfl
theorem au.fA (x:au):mJ true 6 [x.v]:=λv hv=>by
 rw[List.mem_singleton]at hv;subst hv;rw[au.aW];exact⟨rfl,rfl,⟨_,rfl⟩⟩
theorem au.Oy (l:List au):mJ true 6 (l.map au.v):=λv hv=>by
 obtain⟨x,_,rfl⟩:=List.mem_map.1 hv;exact x.fA x.v (by simp)
theorem au.len (x:au):x.v.cells.toList.length=6:=(x.fA x.v (by simp)).1
theorem Hq.D3 (A:List Bx){l:List au}{x:au}{sl:Value}{kt:Value->T OB->Nat->Q}(hl:l.length<=1000000)(hG:Gw true 6 44 (l.map au.v) sl G)(h:Hp nx0 H0 (s::(b,x.v.cells.toList,44)::(A++(G++B))) H nx)
 (hk:∀sl' G' H' nx',Gw true 6 44 ((l++[x]).map au.v) sl' G'->Hp nx0 H0 (s::(A++(G'++B))) H' nx'->ay P pl X0 (kt sl' H' nx') nx0 H0 R):ay P pl X0 (bf (cw P H nx [42,42] (some [sl,gF b 1 1])) kt) nx0 H0 R:=
 Hq.add A eg bM (MF (by rw[List.length_map];omega)) (by rw[List.length_map];omega) x.fA hG h λsl' G' H' nx' hG' h'=>hk sl' G' H' nx' (by rw[List.map_append];exact hG') h'
theorem F8 (c0 c1 c2 c3:Value)(z:List Value)(hz:bn P 41=some z):Instr.fill (λi=>some (i*4,4)) (bk z (1*4)) [(0,.agg ⟨[c0,c1,c2,c3]⟩)]=some ⟨[c0,c1,c2,c3]⟩:=by
 rw[cv]at hz;cases hz;kernel_rfl
theorem Hq.iF (cs:List Value)(hc:cs.length=4){kt:Value->T OB->Nat->Q}(h:Hp nx0 H0 (s::F) H nx)(hk:∀b H' nx',Hp nx0 H0 (s::(b,cs,41)::F) H' nx'->ay P pl X0 (kt (gF b 1 1) H' nx') nx0 H0 R):ay P pl X0 (bf (aF P H nx 39 1 (some [(0,.agg ⟨cs⟩)])) kt) nx0 H0 R:=
 match cs,hc with
 | [c0,c1,c2,c3],_=>Hq.row dr cL cv rfl (F8 _ _ _ _ _ cv) h hk
theorem F9 (c0 c1 c2 c3 d0 d1 d2 d3:Value)(z:List Value)(hz:bn P 41=some z):Instr.fill (λi=>some (i*4,4)) (bk z (2*4)) [(0,.agg ⟨[c0,c1,c2,c3]⟩),(1,.agg ⟨[d0,d1,d2,d3]⟩)]=some ⟨[c0,c1,c2,c3,d0,d1,d2,d3]⟩:=by
 rw[cv]at hz;cases hz;kernel_rfl
theorem Hq.F_ (cs ds:List Value)(hc:cs.length=4)(hd:ds.length=4){kt:Value->T OB->Nat->Q}(h:Hp nx0 H0 (s::F) H nx)(hk:∀b H' nx',Hp nx0 H0 (s::(b,cs++ds,41)::F) H' nx'->ay P pl X0 (kt (gF b 2 2) H' nx') nx0 H0 R):ay P pl X0 (bf (aF P H nx 39 2 (some [(0,.agg ⟨cs⟩),(1,.agg ⟨ds⟩)])) kt) nx0 H0 R:=
 match cs,hc,ds,hd with
 | [c0,c1,c2,c3],_,[d0,d1,d2,d3],_=>Hq.row dr cL cv rfl (F9 _ _ _ _ _ _ _ _ _ cv) h hk
theorem MG {n:Nat}(h:n<=1048576):a_ P 41 4 n=true:=by
 have:a_ P 41 4 n=(Nat.ble n 1048576&&true):=by kernel_rfl
 rw[this,Nat.ble_eq_true_of_le h];rfl
theorem aD.fA (x:aD):mJ true 4 [x.v]:=λv hv=>by
 rw[List.mem_singleton]at hv;subst hv;rw[aD.aW];exact⟨rfl,rfl,⟨_,rfl⟩⟩
theorem aD.len (x:aD):x.v.cells.toList.length=4:=(x.fA x.v (by simp)).1
theorem Hq.D4 (A:List Bx){l:List aD}{x:aD}{sl:Value}{kt:Value->T OB->Nat->Q}(hl:l.length<=1000000)(hG:Gw true 4 41 (l.map aD.v) sl G)(h:Hp nx0 H0 (s::(b,x.v.cells.toList,41)::(A++(G++B))) H nx)
 (hk:∀sl' G' H' nx',Gw true 4 41 ((l++[x]).map aD.v) sl' G'->Hp nx0 H0 (s::(A++(G'++B))) H' nx'->ay P pl X0 (kt sl' H' nx') nx0 H0 R):ay P pl X0 (bf (cw P H nx [39,39] (some [sl,gF b 1 1])) kt) nx0 H0 R:=
 Hq.add A dr cL (MG (by rw[List.length_map];omega)) (by rw[List.length_map];omega) x.fA hG h λsl' G' H' nx' hG' h'=>hk sl' G' H' nx' (by rw[List.map_append];exact hG') h'
theorem Ga (c0 c1 c2:Value)(z:List Value)(hz:bn P 84=some z):Instr.fill (λi=>some (i*3,3)) (bk z (1*3)) [(0,.agg ⟨[c0,c1,c2]⟩)]=some ⟨[c0,c1,c2]⟩:=by
 rw[cN]at hz;cases hz;kernel_rfl
theorem Hq.jG (cs:List Value)(hc:cs.length=3){kt:Value->T OB->Nat->Q}(h:Hp nx0 H0 (s::F) H nx)(hk:∀b H' nx',Hp nx0 H0 (s::(b,cs,84)::F) H' nx'->ay P pl X0 (kt (gF b 1 1) H' nx') nx0 H0 R):ay P pl X0 (bf (aF P H nx 50 1 (some [(0,.agg ⟨cs⟩)])) kt) nx0 H0 R:=
 match cs,hc with
 | [c0,c1,c2],_=>Hq.row eN dz cN rfl (Ga _ _ _ _ cN) h hk
theorem Gb (c0 c1 c2 d0 d1 d2:Value)(z:List Value)(hz:bn P 84=some z):Instr.fill (λi=>some (i*3,3)) (bk z (2*3)) [(0,.agg ⟨[c0,c1,c2]⟩),(1,.agg ⟨[d0,d1,d2]⟩)]=some ⟨[c0,c1,c2,d0,d1,d2]⟩:=by
 rw[cN]at hz;cases hz;kernel_rfl
theorem Hq.Gc (cs ds:List Value)(hc:cs.length=3)(hd:ds.length=3){kt:Value->T OB->Nat->Q}(h:Hp nx0 H0 (s::F) H nx)(hk:∀b H' nx',Hp nx0 H0 (s::(b,cs++ds,84)::F) H' nx'->ay P pl X0 (kt (gF b 2 2) H' nx') nx0 H0 R):ay P pl X0 (bf (aF P H nx 50 2 (some [(0,.agg ⟨cs⟩),(1,.agg ⟨ds⟩)])) kt) nx0 H0 R:=
 match cs,hc,ds,hd with
 | [c0,c1,c2],_,[d0,d1,d2],_=>Hq.row eN dz cN rfl (Gb _ _ _ _ _ _ _ cN) h hk
theorem KA {n:Nat}(h:n<=1048576):a_ P 84 3 n=true:=by
 have:a_ P 84 3 n=(Nat.ble n 1048576&&true):=by kernel_rfl
 rw[this,Nat.ble_eq_true_of_le h];rfl
theorem aY.fA (x:aY):mJ true 3 [x.v]:=λv hv=>by
 rw[List.mem_singleton]at hv;subst hv;rw[aY.aW];exact⟨rfl,rfl,⟨_,rfl⟩⟩
theorem aY.len (x:aY):x.v.cells.toList.length=3:=(x.fA x.v (by simp)).1
theorem Hq.Il (A:List Bx){l:List aY}{x:aY}{sl:Value}{kt:Value->T OB->Nat->Q}(hl:l.length<=1000000)(hG:Gw true 3 84 (l.map aY.v) sl G)(h:Hp nx0 H0 (s::(b,x.v.cells.toList,84)::(A++(G++B))) H nx)
 (hk:∀sl' G' H' nx',Gw true 3 84 ((l++[x]).map aY.v) sl' G'->Hp nx0 H0 (s::(A++(G'++B))) H' nx'->ay P pl X0 (kt sl' H' nx') nx0 H0 R):ay P pl X0 (bf (cw P H nx [50,50] (some [sl,gF b 1 1])) kt) nx0 H0 R:=
 Hq.add A eN dz (KA (by rw[List.length_map];omega)) (by rw[List.length_map];omega) x.fA hG h λsl' G' H' nx' hG' h'=>hk sl' G' H' nx' (by rw[List.map_append];exact hG') h'
theorem Gd (c0 c1:Value)(z:List Value)(hz:bn P 52=some z):Instr.fill (λi=>some (i*2,2)) (bk z (1*2)) [(0,.agg ⟨[c0,c1]⟩)]=some ⟨[c0,c1]⟩:=by
 rw[iq]at hz;cases hz;kernel_rfl
theorem Hq.Ab (cs:List Value)(hc:cs.length=2){kt:Value->T OB->Nat->Q}(h:Hp nx0 H0 (s::F) H nx)(hk:∀b H' nx',Hp nx0 H0 (s::(b,cs,52)::F) H' nx'->ay P pl X0 (kt (gF b 1 1) H' nx') nx0 H0 R):ay P pl X0 (bf (aF P H nx 47 1 (some [(0,.agg ⟨cs⟩)])) kt) nx0 H0 R:=
 match cs,hc with
 | [c0,c1],_=>Hq.row ow k_ iq rfl (Gd _ _ _ iq) h hk
theorem MH {n:Nat}(h:n<=1048576):a_ P 52 2 n=true:=by
 have:a_ P 52 2 n=(Nat.ble n 1048576&&true):=by kernel_rfl
 rw[this,Nat.ble_eq_true_of_le h];rfl
theorem dk.fA (x:dk):mJ true 2 [x.v]:=λv hv=>by
 rw[List.mem_singleton]at hv;subst hv;rw[dk.aW];exact⟨rfl,rfl,⟨_,rfl⟩⟩
theorem dk.len (x:dk):x.v.cells.toList.length=2:=(x.fA x.v (by simp)).1
theorem Hq.MI (A:List Bx){l:List dk}{x:dk}{sl:Value}{kt:Value->T OB->Nat->Q}(hl:l.length<=1000000)(hG:Gw true 2 52 (l.map dk.v) sl G)(h:Hp nx0 H0 (s::(b,x.v.cells.toList,52)::(A++(G++B))) H nx)
 (hk:∀sl' G' H' nx',Gw true 2 52 ((l++[x]).map dk.v) sl' G'->Hp nx0 H0 (s::(A++(G'++B))) H' nx'->ay P pl X0 (kt sl' H' nx') nx0 H0 R):ay P pl X0 (bf (cw P H nx [47,47] (some [sl,gF b 1 1])) kt) nx0 H0 R:=
 Hq.add A ow k_ (MH (by rw[List.length_map];omega)) (by rw[List.length_map];omega) x.fA hG h λsl' G' H' nx' hG' h'=>hk sl' G' H' nx' (by rw[List.map_append];exact hG') h'
theorem Ge (c0 c1 c2 c3 c4 c5 c6 c7:Value)(z:List Value)(hz:bn P 64=some z):Instr.fill (λi=>some (i*8,8)) (bk z (1*8)) [(0,.agg ⟨[c0,c1,c2,c3,c4,c5,c6,c7]⟩)]=some ⟨[c0,c1,c2,c3,c4,c5,c6,c7]⟩:=by
 rw[ir]at hz;cases hz;kernel_rfl
theorem Hq.Ac (cs:List Value)(hc:cs.length=8){kt:Value->T OB->Nat->Q}(h:Hp nx0 H0 (s::F) H nx)(hk:∀b H' nx',Hp nx0 H0 (s::(b,cs,64)::F) H' nx'->ay P pl X0 (kt (gF b 1 1) H' nx') nx0 H0 R):ay P pl X0 (bf (aF P H nx 45 1 (some [(0,.agg ⟨cs⟩)])) kt) nx0 H0 R:=
 match cs,hc with
 | [c0,c1,c2,c3,c4,c5,c6,c7],_=>Hq.row ou mw ir rfl (Ge _ _ _ _ _ _ _ _ _ ir) h hk
theorem MJ {n:Nat}(h:n<=1048576):a_ P 64 8 n=true:=by
 have:a_ P 64 8 n=(Nat.ble n 1048576&&true):=by kernel_rfl
 rw[this,Nat.ble_eq_true_of_le h];rfl
theorem Fn.fA (x:Fn):mJ true 8 [x.v]:=λv hv=>by
 rw[List.mem_singleton]at hv;subst hv;rw[Fn.aW];exact⟨rfl,rfl,⟨_,rfl⟩⟩
theorem Fn.len (x:Fn):x.v.cells.toList.length=8:=(x.fA x.v (by simp)).1
theorem Hq.MK (A:List Bx){l:List Fn}{x:Fn}{sl:Value}{kt:Value->T OB->Nat->Q}(hl:l.length<=1000000)(hG:Gw true 8 64 (l.map Fn.v) sl G)(h:Hp nx0 H0 (s::(b,x.v.cells.toList,64)::(A++(G++B))) H nx)
 (hk:∀sl' G' H' nx',Gw true 8 64 ((l++[x]).map Fn.v) sl' G'->Hp nx0 H0 (s::(A++(G'++B))) H' nx'->ay P pl X0 (kt sl' H' nx') nx0 H0 R):ay P pl X0 (bf (cw P H nx [45,45] (some [sl,gF b 1 1])) kt) nx0 H0 R:=
 Hq.add A ou mw (MJ (by rw[List.length_map];omega)) (by rw[List.length_map];omega) x.fA hG h λsl' G' H' nx' hG' h'=>hk sl' G' H' nx' (by rw[List.map_append];exact hG') h'
theorem Gf (c0 c1 c2 c3 c4 c5 c6 c7 c8 c9 c10 c11 c12 c13 c14 c15 c16:Value)(z:List Value)(hz:bn P 54=some z):Instr.fill (λi=>some (i*17,17)) (bk z (1*17)) [(0,.agg ⟨[c0,c1,c2,c3,c4,c5,c6,c7,c8,c9,c10,c11,c12,c13,c14,c15,c16]⟩)]=some ⟨[c0,c1,c2,c3,c4,c5,c6,c7,c8,c9,c10,c11,c12,c13,c14,c15,c16]⟩:=by
 rw[de]at hz;cases hz;kernel_rfl
theorem Hq.Ad (cs:List Value)(hc:cs.length=17){kt:Value->T OB->Nat->Q}(h:Hp nx0 H0 (s::F) H nx)(hk:∀b H' nx',Hp nx0 H0 (s::(b,cs,54)::F) H' nx'->ay P pl X0 (kt (gF b 1 1) H' nx') nx0 H0 R):ay P pl X0 (bf (aF P H nx 23 1 (some [(0,.agg ⟨cs⟩)])) kt) nx0 H0 R:=
 match cs,hc with
 | [c0,c1,c2,c3,c4,c5,c6,c7,c8,c9,c10,c11,c12,c13,c14,c15,c16],_=>Hq.row fu e6 de rfl (Gf _ _ _ _ _ _ _ _ _ _ _ _ _ _ _ _ _ _ de) h hk
theorem Im {n:Nat}(h:n<=1048576):a_ P 54 17 n=true:=by
 have:a_ P 54 17 n=(Nat.ble n 1048576&&true):=by kernel_rfl
 rw[this,Nat.ble_eq_true_of_le h];rfl
theorem aJ.fA (x:aJ):mJ true 17 [x.v]:=λv hv=>by
 rw[List.mem_singleton]at hv;subst hv;rw[aJ.aW];exact⟨rfl,rfl,⟨_,rfl⟩⟩
theorem aJ.len (x:aJ):x.v.cells.toList.length=17:=(x.fA x.v (by simp)).1
theorem Hq.ML (A:List Bx){l:List aJ}{x:aJ}{sl:Value}{kt:Value->T OB->Nat->Q}(hl:l.length<=1000000)(hG:Gw true 17 54 (l.map aJ.v) sl G)(h:Hp nx0 H0 (s::(b,x.v.cells.toList,54)::(A++(G++B))) H nx)
 (hk:∀sl' G' H' nx',Gw true 17 54 ((l++[x]).map aJ.v) sl' G'->Hp nx0 H0 (s::(A++(G'++B))) H' nx'->ay P pl X0 (kt sl' H' nx') nx0 H0 R):ay P pl X0 (bf (cw P H nx [23,23] (some [sl,gF b 1 1])) kt) nx0 H0 R:=
 Hq.add A fu e6 (Im (by rw[List.length_map];omega)) (by rw[List.length_map];omega) x.fA hG h λsl' G' H' nx' hG' h'=>hk sl' G' H' nx' (by rw[List.map_append];exact hG') h'
theorem au.fz (x:au):fE 0 [(3,42),(4,39),(5,23)] x.v x.v []:=by
 rw[au.aW];exact fE.of (ec.cons rfl (cg.row eg) (ec.cons rfl (cg.row dr) (ec.cons rfl (cg.row fu) (ec.nil))))
theorem aD.fz (x:aD):fE 0 [(3,39)] x.v x.v []:=by
 rw[aD.aW];exact fE.of (ec.cons rfl (cg.row dr) (ec.nil))
theorem aY.fz (x:aY):fE 0 [(2,50)] x.v x.v []:=by
 rw[aY.aW];exact fE.of (ec.cons rfl (cg.row eN) (ec.nil))
theorem dk.fz (x:dk):fE 0 [(1,50)] x.v x.v []:=by
 rw[dk.aW];exact fE.of (ec.cons rfl (cg.row eN) (ec.nil))
theorem Fn.fz (x:Fn):fE 0 [(1,39),(5,42),(6,39),(7,23)] x.v x.v []:=by
 rw[Fn.aW];exact fE.of (ec.cons rfl (cg.row dr) (ec.cons rfl (cg.row eg) (ec.cons rfl (cg.row dr) (ec.cons rfl (cg.row fu) (ec.nil)))))
theorem aJ.fz (x:aJ):fE 0 [(4,39),(8,42),(9,39),(10,23),(11,45),(12,46),(14,47),(16,50)] x.v x.v []:=by
 rw[aJ.aW];exact fE.of (ec.cons rfl (cg.row dr) (ec.cons rfl (cg.row eg) (ec.cons rfl (cg.row dr) (ec.cons rfl (cg.row fu) (ec.cons rfl (cg.row ou) (ec.cons rfl (cg.row ov) (ec.cons rfl (cg.row ow) (ec.cons rfl (cg.row eN) (ec.nil)))))))))
theorem Gw.MM {l:List au}{sl:Value}(hG:Gw true 6 44 (l.map au.v) sl G):cg 1 42 sl (aP 6 (l.map au.v)) G:=
 cg.gw eg bM cS rfl eT hG (gQ.id λv hv=>by obtain⟨x,_,rfl⟩:=List.mem_map.1 hv;exact x.fz) (λu hu=>by obtain⟨x,_,rfl⟩:=List.mem_map.1 hu;exact x.len) id
theorem Gw.KB {l:List aD}{sl:Value}(hG:Gw true 4 41 (l.map aD.v) sl G):cg 1 39 sl (aP 4 (l.map aD.v)) G:=
 cg.gw dr cL eh rfl gk hG (gQ.id λv hv=>by obtain⟨x,_,rfl⟩:=List.mem_map.1 hv;exact x.fz) (λu hu=>by obtain⟨x,_,rfl⟩:=List.mem_map.1 hu;exact x.len) id
theorem Gw.MN {l:List aY}{sl:Value}(hG:Gw true 3 84 (l.map aY.v) sl G):cg 1 50 sl (aP 3 (l.map aY.v)) G:=
 cg.gw eN dz km rfl l5 hG (gQ.id λv hv=>by obtain⟨x,_,rfl⟩:=List.mem_map.1 hv;exact x.fz) (λu hu=>by obtain⟨x,_,rfl⟩:=List.mem_map.1 hu;exact x.len) id
theorem Gw.Oz {l:List dk}{sl:Value}(hG:Gw true 2 52 (l.map dk.v) sl G):cg 1 47 sl (aP 2 (l.map dk.v)) G:=
 cg.gw ow k_ rY rfl DJ hG (gQ.id λv hv=>by obtain⟨x,_,rfl⟩:=List.mem_map.1 hv;exact x.fz) (λu hu=>by obtain⟨x,_,rfl⟩:=List.mem_map.1 hu;exact x.len) id
theorem Gw.OA {l:List Fn}{sl:Value}(hG:Gw true 8 64 (l.map Fn.v) sl G):cg 1 45 sl (aP 8 (l.map Fn.v)) G:=
 cg.gw ou mw wk rfl Ie hG (gQ.id λv hv=>by obtain⟨x,_,rfl⟩:=List.mem_map.1 hv;exact x.fz) (λu hu=>by obtain⟨x,_,rfl⟩:=List.mem_map.1 hu;exact x.len) id
theorem Gw.OC {l:List aJ}{sl:Value}(hG:Gw true 17 54 (l.map aJ.v) sl G):cg 1 23 sl (aP 17 (l.map aJ.v)) G:=
 cg.gw fu e6 iw rfl mA hG (gQ.id λv hv=>by obtain⟨x,_,rfl⟩:=List.mem_map.1 hv;exact x.fz) (λu hu=>by obtain⟨x,_,rfl⟩:=List.mem_map.1 hu;exact x.len) id
theorem fp {cs:List Value}(h:cK H b cs 44)(hc:cs.length=6):aj P H 44 (some (ptr b))=some (.agg ⟨cs⟩):=by
 rw[cI h cS bM (by omega),List.drop_zero,<- hc,List.take_length]
theorem rh {cs:List Value}(h:cK H b cs 41)(hc:cs.length=4):aj P H 41 (some (ptr b))=some (.agg ⟨cs⟩):=by
 rw[cI h eh cL (by omega),List.drop_zero,<- hc,List.take_length]
theorem kz {cs:List Value}(h:cK H b cs 84)(hc:cs.length=3):aj P H 84 (some (ptr b))=some (.agg ⟨cs⟩):=by
 rw[cI h km dz (by omega),List.drop_zero,<- hc,List.take_length]
theorem Io {cs:List Value}(h:cK H b cs 52)(hc:cs.length=2):aj P H 52 (some (ptr b))=some (.agg ⟨cs⟩):=by
 rw[cI h rY k_ (by omega),List.drop_zero,<- hc,List.take_length]
theorem MO {cs:List Value}(h:cK H b cs 49)(hc:cs.length=3):aj P H 49 (some (ptr b))=some (.agg ⟨cs⟩):=by
 rw[cI h Jg LS (by omega),List.drop_zero,<- hc,List.take_length]
theorem MP {cs:List Value}(h:cK H b cs 64)(hc:cs.length=8):aj P H 64 (some (ptr b))=some (.agg ⟨cs⟩):=by
 rw[cI h wk mw (by omega),List.drop_zero,<- hc,List.take_length]
theorem Ip {cs:List Value}(h:cK H b cs 54)(hc:cs.length=17):aj P H 54 (some (ptr b))=some (.agg ⟨cs⟩):=by
 rw[cI h iw e6 (by omega),List.drop_zero,<- hc,List.take_length]
theorem gn (k:Int)(a:Option Addr)(n c:Nat):aO P 44 (some [(0,i64 k),(3,.slice a n c)])=some (.agg ⟨[i64 k,i64 0,ar [],.slice a n c,aq,aq]⟩):=aL br (by kernel_rfl)
theorem tg (k:Int)(w:List UInt8)(a:Option Addr)(n c:Nat):aO P 44 (some [(0,i64 k),(2,ar w),(3,.slice a n c)])=some (.agg ⟨[i64 k,i64 0,ar w,.slice a n c,aq,aq]⟩):=aL br (by kernel_rfl)
theorem Gg (k n:Int):aO P 44 (some [(0,i64 k),(1,i64 n)])=some (.agg ⟨[i64 k,i64 n,ar [],aq,aq,aq]⟩):=aL br (by kernel_rfl)
theorem th (k:Int)(w:List UInt8):aO P 44 (some [(0,i64 k),(2,ar w)])=some (.agg ⟨[i64 k,i64 0,ar w,aq,aq,aq]⟩):=aL br (by kernel_rfl)
theorem Ae (k:Int)(a:Option Addr)(n c:Nat):aO P 41 (some [(0,i64 k),(3,.slice a n c)])=some (.agg ⟨[i64 k,i64 0,ar [],.slice a n c]⟩):=aL cv (by kernel_rfl)
theorem Gh (k:Int)(w:List UInt8)(a:Option Addr)(n c:Nat):aO P 41 (some [(0,i64 k),(2,ar w),(3,.slice a n c)])=some (.agg ⟨[i64 k,i64 0,ar w,.slice a n c]⟩):=aL cv (by kernel_rfl)
theorem Af (k n:Int):aO P 41 (some [(0,i64 k),(1,i64 n)])=some (.agg ⟨[i64 k,i64 n,ar [],aq]⟩):=aL cv (by kernel_rfl)
theorem m_ (k:Int)(w:List UInt8):aO P 41 (some [(0,i64 k),(2,ar w)])=some (.agg ⟨[i64 k,i64 0,ar w,aq]⟩):=aL cv (by kernel_rfl)
theorem vd (k:Int)(w:List UInt8):aO P 84 (some [(0,i64 k),(1,ar w)])=some (.agg ⟨[i64 k,ar w,aq]⟩):=aL cN (by kernel_rfl)
theorem ve (k:Int)(a:Option Addr)(n c:Nat):aO P 84 (some [(0,i64 k),(2,.slice a n c)])=some (.agg ⟨[i64 k,ar [],.slice a n c]⟩):=aL cN (by kernel_rfl)
theorem vh (k:Int)(w:List UInt8)(a:Option Addr)(n c:Nat):aO P 84 (some [(0,i64 k),(1,ar w),(2,.slice a n c)])=some (.agg ⟨[i64 k,ar w,.slice a n c]⟩):=aL cN (by kernel_rfl)
theorem Gi (w:List UInt8):aO P 52 (some [(0,ar w)])=some (.agg ⟨[ar w,aq]⟩):=aL iq (by kernel_rfl)
theorem Gj (w:List UInt8)(a:Option Addr)(n c:Nat):aO P 64 (some [(0,ar w),(1,.slice a n c)])=some (.agg ⟨[ar w,.slice a n c,i64 0,i64 0,ar [],aq,aq,aq]⟩):=aL ir (by kernel_rfl)
theorem Gk (k:Int)(a:Option Addr)(n c:Nat):aO P 54 (some [(0,i64 k),(3,.slice a n c)])=some (.agg ⟨[i64 k,i64 0,i64 0,ar [],aq,i64 0,i64 0,ar [],aq,aq,aq,.slice a n c,aq,ar [],aq,ar [],aq]⟩):=aL de (by kernel_rfl)
theorem Gl (k:Int)(p0 p1 p2 p3 c0 c1 c2 c3 c4 c5:Value):aO P 54 (some [(0,i64 k),(1,.agg ⟨[p0,p1,p2,p3]⟩),(2,.agg ⟨[c0,c1,c2,c3,c4,c5]⟩)])=some (.agg ⟨[i64 k,p0,p1,p2,p3,c0,c1,c2,c3,c4,c5,aq,aq,ar [],aq,ar [],aq]⟩):=aL de (by kernel_rfl)
theorem Gm (k:Int)(c0 c1 c2 c3 c4 c5:Value):aO P 54 (some [(0,i64 k),(2,.agg ⟨[c0,c1,c2,c3,c4,c5]⟩)])=some (.agg ⟨[i64 k,i64 0,i64 0,ar [],aq,c0,c1,c2,c3,c4,c5,aq,aq,ar [],aq,ar [],aq]⟩):=aL de (by kernel_rfl)
theorem Gn (k:Int)(c0 c1 c2:Value):aO P 54 (some [(0,i64 k),(4,.agg ⟨[c0,c1,c2]⟩)])=some (.agg ⟨[i64 k,i64 0,i64 0,ar [],aq,i64 0,i64 0,ar [],aq,aq,aq,aq,c0,c1,c2,ar [],aq]⟩):=aL de (by kernel_rfl)
theorem Gp (k:Int)(c0 c1:Value):aO P 54 (some [(0,i64 k),(5,.agg ⟨[c0,c1]⟩)])=some (.agg ⟨[i64 k,i64 0,i64 0,ar [],aq,i64 0,i64 0,ar [],aq,aq,aq,aq,aq,ar [],aq,c0,c1]⟩):=aL de (by kernel_rfl)
end
section
variable {nx0 nx nx' bp k:Nat}{H0 H H':T OB}{F A B G G':List Bx}{s:Bx}{R:Go.Ev.Out->T OB->Nat->Prop}{b:Nat}{l:List Value}{e t:TypeId}{L:List Tok}
theorem ec.one {n:Nat}{p:Nat×TypeId}{cs:List Value}{v u:Value}(hc:cs[p.1]? = some v)(h1:cg n p.2 v u G):ec n [p] cs (cs.set p.1 u) G:=by
 have:=ec.cons hc h1 (ec.nil (n:=n));rwa[List.append_nil]at this
theorem gQ.one {n:Nat}{offs:List (Nat×TypeId)}{v u:Value}(h1:fE n offs v u G):gQ n offs [v] [u] G:=by
 have:=gQ.cons h1 (gQ.nil (n:=n) (offs:=offs));rwa[List.append_nil]at this
theorem gQ.two {n:Nat}{offs:List (Nat×TypeId)}{v u w:Value}(h1:fE n offs v u G)(h2:fE 0 offs w w []):gQ n offs [v,w] [u,w] G:=by
 have:=gQ.cons h1 (gQ.one (h2.mono (Nat.zero_le n)));rwa[List.append_nil]at this
theorem fU (cs:List Value):bR [.agg ⟨cs⟩]=cs:=List.append_nil cs
theorem kA (cs ds:List Value):bR [.agg ⟨cs⟩,.agg ⟨ds⟩]=cs++ds:=by show cs++(ds++[])=_;rw[List.append_nil]
theorem Gw.mN {a:Bool}{sz:Nat}{cs:List Value}(h:mJ a sz [.agg ⟨cs⟩]):Gw a sz e [.agg ⟨cs⟩] (gF b 1 1) [(b,cs,e)]:=by
 have:=Gw.one (b:=b) (e:=e) (n:=1) h rfl (by decide);rwa[fU]at this
structure lx (n:Nat)(cs:List Value)(a:aY)(G:List Bx):Prop where
 len:cs.length=3
 one:cs.all ah=true
 fz:fE n [(2,50)] (.agg ⟨cs⟩) a.v G
theorem lx.of (a:aY):lx 0 a.cs a []:=⟨a.len,(a.fA a.v (by simp)).2.1,a.fz⟩
theorem lx.fA {n:Nat}{cs:List Value}{a:aY}(h:lx n cs a G):mJ true 3 [.agg ⟨cs⟩]:=λv hv=>by
 rw[List.mem_singleton]at hv;subst hv;exact⟨h.len,h.one,⟨_,rfl⟩⟩
theorem lx.row {k:Int}{w:List UInt8}{sl:Value}{l:List aY}{n:Nat}(h:cg n 50 sl (jM l) G)(ho:ah sl=true):lx n [i64 k,ar w,sl] (.mk k w l) G:=⟨rfl,by simp[ho],by
 rw[aY.aW];exact fE.of (ec.one (p:=(2,50)) (cs:=[i64 k,ar w,sl]) rfl h)⟩
theorem dT {a:Bool}{sz:Nat}{vs:List Value}{sl:Value}(h:Gw a sz e vs sl G):ah sl=true:=by
 rcases h.2 with⟨_,rfl,_⟩ | ⟨b,c,rfl,_⟩<;>rfl
theorem lx.gw {k:Int}{w:List UInt8}{sl:Value}{l:List aY}(h:Gw true 3 84 (l.map aY.v) sl G):lx 1 [i64 k,ar w,sl] (.mk k w l) G:=lx.row h.MN (dT h)
theorem lx.b1 {k:Int}{w:List UInt8}{n:Nat}{cs:List Value}{a:aY}(h:lx n cs a G):lx (n+1) [i64 k,ar w,gF b 1 1] (.mk k w [a]) ((b,cs,84)::G):=by
 have:=cg.di (t:=50) (b:=b) eN dz km rfl l5 h.fA (.inr rfl) (by simp) (gQ.one h.fz) (λu hu=>by rw[List.mem_singleton]at hu;subst hu;exact a.len);rw[fU cs]at this;exact lx.row this rfl
theorem lx.b2 {k:Int}{w:List UInt8}{n:Nat}{cs:List Value}{a c:aY}(h:lx n cs a G):lx (n+1) [i64 k,ar w,gF b 2 2] (.mk k w [a,c]) ((b,cs++c.cs,84)::G):=by
 have:=cg.di (t:=50) (b:=b) (vs:=[.agg ⟨cs⟩,c.v]) eN dz km rfl l5 (λv hv=>by
  rcases List.mem_cons.1 hv with rfl | hv
  . exact h.fA _ (by simp)
  . exact c.fA v hv) (.inr rfl) (by simp) (gQ.two h.fz c.fz) (λu hu=>by
  rcases List.mem_cons.1 hu with rfl | hu
  . exact a.len
  . rw[List.mem_singleton]at hu;subst hu;exact c.len)
 rw[show bR [Value.agg ⟨cs⟩,c.v]=cs++c.cs from kA cs c.cs]at this;exact lx.row this rfl
theorem fW {α β γ:Type}(x:PR α)(f:α->Nat->PR β)(g:β->Nat->PR γ):bd (bd x f) g=bd x λa k=>bd (f a k) g:=by
 cases x with
 | none=>rfl
 | some r=>cases r<;>rfl
theorem dM {α β:Type}(a:α)(k:Nat)(f:α->Nat->PR β):bd (yes a k) f=f a k:=rfl
def Gq (L:List Tok)(T:Nat->PR aY)(a:aY)(k:Nat):PR aY:=if bC L k [45,62]=true then bd (T (k+1)) λb k=>yes (.mk 3 [] [a,b]) k else yes a k
theorem Iq {T:Nat->PR aY}(hT:aR 79 L aY.v T)(hL:L.length<=100000){n:Nat}{cs z:List Value}{a:aY}{x0 x2:Nat}{o:iB aY}(hv:lx n cs a G)(hn:n<=99990)(hz:z.length=3)(ho:Gq L T a k=some o)
 (h:Hp nx0 H0 (bP bp L k::(x2,cs,84)::(x0,z,84)::(G++F)) H nx):ay P pl X0 (aV P pl (wy (ptr bp) (ptr x0) (ptr x2) H nx)) nx0 H0 (End nx0 H0 bp L F aY.v o):=by
 rw[C4];unfold Gq at ho;refine Sq.take hL h (λhi H1 aI h1=> ?_) (λhi H1 aI h1=> ?_)
 . rw[if_pos hi]at ho;simp only[ab,kz (h1.at_ 1 rfl) hv.len];refine Sq.call hT rfl h1 ho λc k' H2 nx2 _ ho2 h2=> ?_;simp only[ab,kz (h2.at_ 1 rfl) hv.len,aM];refine Hq.Gc cs c.cs hv.len c.len h2 λx H3 nx3 h3=> ?_;simp only[ab,ve];have h4:Hp nx0 H0 (bP bp L k'::(x0,z,84)::((x,cs++c.cs,84)::G++F)) H3 nx3:=(Hp.mv [_,_] h3).sub (by simp);exact Hq.fin h4 dz km l5 hz rfl rfl (lx.b2 hv).fz (by omega) λH5 nx5 h5=>End.ret ho2 rfl h5
 . rw[if_neg (by rw[hi];simp)]at ho;simp only[ab,kz (h1.at_ 1 rfl) hv.len];have h4:Hp nx0 H0 (bP bp L k::(x0,z,84)::(G++F)) H1 aI:=(Hp.mv [_] h1).sub (by simp);exact Hq.fin h4 dz km l5 hz hv.len hv.one hv.fz (by omega) λH5 nx5 h5=>End.ret ho rfl h5
theorem Ir {TT:Nat->PR aY}(hT:aR 79 L aY.v TT)(hL:L.length<=100000):∀(m:Nat),(∀j,j<m->aR 90 L aY.v (ps L j).post)->∀(l:List aY) (k:Nat) (sl:Value) (G:List Bx) (o:iB aY) (z:List Value) (x0 x2 nx:Nat) (H:T OB),l.length+m<=90010->Gw true 3 84 (l.map aY.v) sl G->z.length=3->
 bd ((ps L m).mB l k) (λl k=>Gq L TT (.mk 4 [] l) k)=some o->Hp nx0 H0 (bP bp L k::(x2,[i64 4,ar [],sl],84)::(x0,z,84)::(G++F)) H nx->
 ay P pl X0 (.jump (sH (ptr bp) (ptr x0) (ptr x2) H nx)) nx0 H0 (End nx0 H0 bp L F aY.v o)
 | 0,_,l,k,sl,G,o,z,x0,x2,nx,H,hm,hG,hz,ho,h=>by cases ho
 | m+1,hp,l,k,sl,G,o,z,x0,x2,nx,H,hm,hG,hz,ho,h=>by
   have ho:bd (qY L (ps L m) l k) (λl k=>Gq L TT (.mk 4 [] l) k)=some o:=ho;unfold qY at ho;refine Wq.jmp (JO ..) (λ_=>rfl) ?_;refine Sq.take hL h (λhi H1 aI h1=> ?_) (λhi H1 aI h1=> ?_)
   . rw[if_pos hi,fW]at ho;simp only[ab,ak (off:=2) (u:=sl) (h1.at_ 1 rfl) wj rfl];refine Sq.call (hp m (Nat.lt_succ_self m)) rfl h1 ho λc k' H2 nx2 _ ho2 h2=> ?_;simp only[ab,ak (off:=2) (u:=sl) (h2.at_ 1 rfl) wj rfl,aM];refine Hq.jG c.cs c.len h2 λx H3 nx3 h3=> ?_;simp only[ab,ak (off:=2) (u:=sl) (h3.at_ 2 rfl) wj rfl,aM];refine Hq.Il [_,_] (x:=c) (by omega) hG h3 λsl' G' H4 nx4 hG' h4=> ?_;refine Hq.put [_] h4 HG (by rcases hG'.2 with⟨_,rfl,_⟩ | ⟨b,c,rfl,_⟩<;>rfl) (dT hG') (by simp) rfl λH5 h5=> ?_;exact Ir hT hL m (λj hj=>hp j (by omega)) (l++[c]) k' sl' G' o z x0 x2 nx4 H5 (by rw[List.length_append];simp;omega) hG' hz ho2 h5
   . rw[if_neg (by rw[hi];simp)]at ho;have:=Iq hT hL (lx.gw (k:=4) (w:=[]) hG) (by omega) hz ho h1;rw[C4]at this;exact this
theorem ES (a b:Value):bo (some (.tuple ⟨[a,b]⟩)) 0=some a:=rfl
theorem ET (a b:Value):bo (some (.tuple ⟨[a,b]⟩)) 1=some b:=rfl
theorem Hq.set (A:List Bx){sz:Nat}{cs:List Value}{kt:Value->Go.Ev.T OB->Nat->Q}(h:Hp nx0 H0 (A++(b,l,e)::B) H nx)(hs:aE P t=some sz)(hl:l.length=sz)(hc:cs.length=sz)(h1:cs.all ah=true)
 (hk:∀H',Hp nx0 H0 (A++(b,cs,e)::B) H' nx->ay P pl X0 (kt undef H' nx) nx0 H0 R):ay P pl X0 (bf (bY P H nx t (some (ptr b)) (some (.agg ⟨cs⟩))) kt) nx0 H0 R:=
 Hq.store A h hs (by omega) hc h1 λH' h'=>hk H' (by
  rw[show gg l (Value.agg ⟨cs⟩).cells.toList 0=cs from qX (by show cs.length=_;omega)]at h';exact h')
theorem Hp.swap' {x y:Bx}(h:Hp nx0 H0 (s::x::y::F) H nx):Hp nx0 H0 (s::y::x::F) H nx:=h.perm (List.Perm.cons _ (List.Perm.swap _ _ _))
theorem Hp.ti {x y z:Bx}(h:Hp nx0 H0 (s::x::y::z::F) H nx):Hp nx0 H0 (s::y::z::x::F) H nx:=h.perm (List.Perm.cons _ ((List.Perm.swap _ _ _).trans (List.Perm.cons _ (List.Perm.swap _ _ _))))
theorem MQ (hL:L.length<=100000){n:Nat}(hn:n<=90000)(hpost:∀j,j<=n->aR 90 L aY.v (ps L j).post)(htyp:aR 79 L aY.v (ps L n).lB):aR 79 L aY.v (ps L (n+1)).lB:=by
 intro nx0 nx H0 H bp F k o ho h;have ho:DL L (ps L n) k=some o:=ho;unfold DL z4 at ho;rw[fW]at ho;rw[PU];refine Hq.alloc cN h λx0 H1 aI h1=> ?_;refine Sq.call (hpost n (Nat.le_refl n)) rfl h1 ho λa k' H2 nx2 _ ho h2=> ?_;have ha:=lx.of a;refine Hq.alloc cN h2 λx2 H3 nx3 h3=> ?_;refine Hq.set [_] h3 dz rfl ha.len ha.one λH4 h4=> ?_
 refine Sq.is h4 λH5 nx5 h5=> ?_;cases hi:bC L k' [42]with
 | true=>
   rw[hi,if_pos rfl,fW]at ho;simp only[ab,kz (h5.at_ 1 rfl) a.len];refine Hq.jG a.cs a.len h5 λx H6 nx6 h6=> ?_;simp only[ab,ve];refine Hq.set [_,_] h6 dz ha.len rfl rfl λH7 h7=> ?_
   exact Ir htyp hL (n+1) (λj hj=>hpost j (by omega)) [a] k' (gF x 1 1) [(x,a.cs,84)] o _ x0 x2 nx6 H7 (show 1+(n+1)<=90010 by omega) (Gw.mN a.fA) rfl ho (Hp.ti h7)
 | false=>
   rw[hi,if_neg (by simp),dM]at ho;simp only[ab];exact Wq.jump (λ_=>rfl) (Iq htyp hL ha (by omega) rfl ho h5)
theorem D5 (hL:L.length<=100000):∀(m:Nat) (a:aY) (k n:Nat) (cs z:List Value) (G:List Bx) (o:iB aY) (x0 x1 nx:Nat) (H:Go.Ev.T OB),n+m<=90010->lx n cs a G->z.length=3->(ps L m).gT a k=some o->Hp nx0 H0 (bP bp L k::(x1,cs,84)::(x0,z,84)::(G++F)) H nx->
 ay P pl X0 (aV P pl (lW (ptr bp) (ptr x0) (ptr x1) H nx)) nx0 H0 (End nx0 H0 bp L F aY.v o)
 | 0,a,k,n,cs,z,G,o,x0,x1,nx,H,hm,hv,hz,ho,h=>by cases ho
 | m+1,a,k,n,cs,z,G,o,x0,x1,nx,H,hm,hv,hz,ho,h=>by
   have ho:mC L (ps L m) a k=some o:=ho;unfold mC at ho;rw[wA];refine Sq.Oo hL h (λhi H1 aI h1=> ?_) (λhi H1 aI h1=> ?_)
   . rw[if_pos hi]at ho;simp only[ab,ES,ET];refine Wq.jmp (C5 ..) (λ_=>rfl) ?_;simp only[ab,kz (h1.at_ 1 rfl) hv.len];refine Hq.jG cs hv.len h1 λx H2 nx2 h2=> ?_;simp only[ab,vh];refine Hq.set [_,_] h2 dz hv.len rfl rfl λH3 h3=> ?_
     have:=D5 hL m (.mk 2 (tk L k).s [a]) (k+1) (n+1) _ z ((x,cs,84)::G) o x0 x1 nx2 H3 (by omega) (lx.b1 (k:=2) (w:=(tk L k).s) hv) hz ho (Hp.ti h3);rw[wA]at this;exact this
   . rw[if_neg (by rw[hi];simp)]at ho;simp only[ab,ES,ET];refine Wq.jmp (C5 ..) (λ_=>rfl) ?_;simp only[ab,kz (h1.at_ 1 rfl) hv.len];have h4:Hp nx0 H0 (bP bp L k::(x0,z,84)::(G++F)) H1 aI:=(Hp.mv [_] h1).sub (by simp);exact Hq.fin h4 dz km l5 hz hv.len hv.one hv.fz (by omega) λH5 nx5 h5=>End.ret ho rfl h5
theorem wZ (hL:L.length<=100000){m:Nat}{a:aY}{k n:Nat}{cs z:List Value}{G:List Bx}{o:iB aY}{x0 x1 nx:Nat}{H:Go.Ev.T OB}(hm:n+m<=90010)(hv:lx n cs a G)(hz:z.length=3)(ho:(ps L m).gT a k=some o)(h:Hp nx0 H0 (bP bp L k::(x1,cs,84)::(x0,z,84)::(G++F)) H nx):
 ay P pl X0 (.jump (lW (ptr bp) (ptr x0) (ptr x1) H nx)) nx0 H0 (End nx0 H0 bp L F aY.v o):=Wq.jump (λ_=>rfl) (D5 hL m a k n cs z G o x0 x1 nx H hm hv hz ho h)
theorem Is (hL:L.length<=100000){M:Nat}(hM:M<=90005):∀(m:Nat),(∀j,j<m->aR 79 L aY.v (ps L j).lB)->∀(l:List aY) (k:Nat) (sl:Value) (G:List Bx) (o:iB aY) (y z:List Value) (x0 x1 nx:Nat) (H:Go.Ev.T OB),l.length+m<=90010->Gw true 3 84 (l.map aY.v) sl G->y.length=3->z.length=3->
 bd ((ps L m).Ig l k) (λl k=>ba L [41] k λk=>bd (if gR L k=true then yes (aY.mk 2 (tk L k).s l) (k+1)else ld L k) λa k=>(ps L M).gT a k)=some o->Hp nx0 H0 (bP bp L k::(x1,y,84)::(x0,z,84)::(G++F)) H nx->
 ay P pl X0 (.jump (sJ (ptr bp) (ptr x0) (ptr x1) sl H nx)) nx0 H0 (End nx0 H0 bp L F aY.v o)
 | 0,_,l,k,sl,G,o,y,z,x0,x1,nx,H,hm,hG,hy,hz,ho,h=>by cases ho
 | m+1,hp,l,k,sl,G,o,y,z,x0,x1,nx,H,hm,hG,hy,hz,ho,h=>by
   have ho:bd (s9 L (ps L m) l k) (λl k=>ba L [41] k λk=>bd (if gR L k=true then yes (aY.mk 2 (tk L k).s l) (k+1)else ld L k) λa k=>(ps L M).gT a k)=some o:=ho;unfold s9 at ho;refine Wq.jmp (JR ..) (λ_=>rfl) ?_;refine Sq.take hL h (λhi H1 aI h1=> ?_) (λhi H1 aI h1=> ?_)
   . rw[if_pos hi,fW]at ho;simp only[ab];refine Sq.call (hp m (Nat.lt_succ_self m)) rfl h1 ho λc k' H2 nx2 _ ho2 h2=> ?_;refine Hq.jG c.cs c.len h2 λx H3 nx3 h3=> ?_;refine Hq.Il [_,_] (x:=c) (by omega) hG h3 λsl' G' H4 nx4 hG' h4=> ?_;exact Is hL hM m (λj hj=>hp j (by omega)) (l++[c]) k' sl' G' o y z x0 x1 nx4 H4 (by rw[List.length_append];simp;omega) hG' hy hz ho2 h4
   . rw[if_neg (by rw[hi];simp),dM]at ho;simp only[ab];refine Sq.iP hL h1 ho λH2 nx2 _ ho h2=> ?_;refine Sq.Oo hL h2 (λhi H3 nx3 h3=> ?_) (λhi H3 nx3 h3=> ?_)
     . rw[if_pos hi,dM]at ho;simp only[ab,ES,ET];refine Wq.jmp (JS ..) (λ_=>rfl) ?_;have hb:aO P 84 (some [(0,i64 2),(1,ar (tk L (k+1)).s),(2,sl)])=some (.agg ⟨[i64 2,ar (tk L (k+1)).s,sl]⟩):=by
        rcases hG.2 with⟨_,rfl,_⟩ | ⟨b,c,rfl,_⟩<;>exact vh ..
       simp only[ab,hb];refine Hq.set [_] h3 dz hy rfl (by simp[dT hG]) λH4 h4=> ?_
       have:=D5 hL M _ _ 1 _ z G o x0 x1 nx3 H4 (by omega) (lx.gw (k:=2) (w:=(tk L (k+1)).s) hG) hz ho h4;rw[wA]at this;exact this
     . rw[if_neg (by rw[hi];simp)]at ho;simp only[ab,ES,ET];exact Sq.fail (α:=aY) (β:=aY) (o:=o) (by cases ho;rfl) h3
theorem MR (hL:L.length<=100000){n:Nat}(hn:n<=90000)(htyp:∀j,j<=n->aR 79 L aY.v (ps L j).lB):aR 90 L aY.v (ps L (n+1)).post:=by
 intro nx0 nx H0 H bp F k o ho h;have ho:u5 L (ps L n) k=some o:=ho;unfold u5 z5 at ho;have hnm:∀a k,mC L (ps L n) a k=(ps L (n+1)).gT a k:=λ_ _=>rfl;rw[P2];refine Hq.alloc cN h λx0 H1 aI h1=> ?_;refine Hq.alloc cN h1 λx1 H2 nx2 h2=> ?_;refine Sq.now h2 λH3 nx3 h3=> ?_;refine Sq.FN h3 λH4 nx4 h4=> ?_;simp only[ab];refine Wq.ite (λhi=> ?_) (λhi=> ?_)
 . rw[if_pos hi,dM]at ho;simp only[ab,pk h4,dV hL (fO (show(tk L k).k≠0 by omega))];refine cO h4 λH5 h5=> ?_;simp only[ab,vd];refine Hq.set [_] h5 dz rfl rfl rfl λH6 h6=> ?_
   exact wZ hL (m:=n+1) (n:=0) (G:=[]) (by omega) (lx.row (k:=1) (w:=(tk L k).s) (l:=[]) (cg.nil eN dz) rfl) rfl ho h6
 . rw[if_neg hi]at ho;refine Sq.Oo hL h4 (λht H5 nx5 h5=> ?_) (λht H5 nx5 h5=> ?_)
   . rw[if_pos ht,dM]at ho;simp only[ab,ES,ET,vd];refine Hq.set [_] h5 dz rfl rfl rfl λH6 h6=> ?_
     exact wZ hL (m:=n+1) (n:=0) (G:=[]) (by omega) (lx.row (k:=2) (w:=(tk L k).s) (l:=[]) (cg.nil eN dz) rfl) rfl ho h6
   . rw[if_neg (by rw[ht];simp)]at ho;simp only[ab,ES,ET];have ho:ba L [40] k (λk=>bd (bd ((ps L n).lB k) λa k=>if bC L k [44]=true then bd (s9 L (ps L n) [a] k) λl k=>ba L [41] k λk=>if gR L k=true then yes (aY.mk 2 (tk L k).s l) (k+1)else ld L k else ba L [41] k λk=>yes a k) λa k=>mC L (ps L n) a k)=some o:=by
      rw[<- ho];unfold ba;split<;>rfl
     refine Sq.iP hL h5 ho λH6 nx6 _ ho h6=> ?_;rw[fW]at ho;refine Sq.call (htyp n (Nat.le_refl n)) rfl h6 ho λa k' H7 nx7 _ ho h7=> ?_;refine Hq.set [_] h7 dz rfl a.len (lx.of a).one λH8 h8=> ?_
     refine Sq.is h8 λH9 nx9 h9=> ?_;cases hc:bC L k' [44]with
     | true=>
       rw[hc,if_pos rfl,fW]at ho;simp only[ab,kz (h9.at_ 1 rfl) a.len];refine Hq.jG a.cs a.len h9 λx H10 nx10 h10=> ?_;refine Is hL (M:=n+1) (by omega) (n+1) (λj hj=>htyp j (by omega)) [a] k' (gF x 1 1) [(x,a.cs,84)] o _ _ x0 x1 nx10 H10 (show 1+(n+1)<=90010 by omega) (Gw.mN a.fA) a.len rfl ?_ (Hp.ti h10);rw[<- ho];show bd (s9 L (ps L n) [a] k') _=bd (s9 L (ps L n) [a] k') _;congr 1;funext l k;unfold ba;split<;>rfl
     | false=>
       rw[hc,if_neg (by simp)]at ho;simp only[ab];have ho:ba L [41] k' (λk=>(ps L (n+1)).gT a k)=some o:=by
        rw[<- ho];unfold ba;split<;>rfl
       refine Sq.iP hL h9 ho λH10 nx10 _ ho h10=> ?_;exact wZ hL (m:=n+1) (n:=0) (G:=[]) (by omega) (lx.of a) rfl ho h10
theorem MS (hL:L.length<=100000){p:PS}(htyp:aR 79 L aY.v p.lB):aR 60 L dk.v (DM L p):=by
 intro nx0 nx H0 H bp F k o ho h;unfold DM at ho;rw[PH];refine Hq.alloc iq h λx0 H1 aI h1=> ?_;refine Sq.word (by decide) hL h1 ho λH2 nx2 _ ho h2=> ?_;simp only[ab,Gi];refine Hq.alloc iq h2 λx1 H3 nx3 h3=> ?_;refine Hq.set [_] h3 k_ rfl rfl rfl λH4 h4=> ?_
 refine Sq.take hL h4 (λhi H5 nx5 h5=> ?_) (λhi H5 nx5 h5=> ?_)
 . rw[if_pos hi]at ho;simp only[ab];refine Sq.call htyp rfl h5 ho λa k' H6 nx6 _ ho h6=> ?_;refine Hq.jG a.cs a.len h6 λx H7 nx7 h7=> ?_;refine Hq.put [_,_] h7 HG rfl rfl (by simp) rfl λH8 h8=> ?_;refine Wq.jmp (C1 ..) (λ_=>rfl) ?_;simp only[ab,Io (h8.at_ 2 rfl) rfl];have h9:Hp nx0 H0 (bP bp L k'::(x0,[ar [],aq],52)::([(x,a.cs,84)]++F)) H8 nx7:=(Hp.mv [_,_] h8).sub (by simp);refine Hq.fin h9 k_ rY DJ rfl rfl rfl (fE.of (ec.one (p:=(1,50)) rfl (Gw.MN (l:=[a]) (Gw.mN a.fA)))) (by omega) λH10 nx10 h10=>End.ret ho rfl h10
 . rw[if_neg (by rw[hi];simp)]at ho;simp only[ab];refine Wq.jmp (C1 ..) (λ_=>rfl) ?_;simp only[ab,Io (h5.at_ 1 rfl) rfl];have h9:Hp nx0 H0 (bP bp L (k+1)::(x0,[ar [],aq],52)::([]++F)) H5 nx5:=(Hp.mv [_] h5).sub (by simp);refine Hq.fin h9 k_ rY DJ rfl rfl rfl (fE.of (ec.one (p:=(1,50)) rfl (cg.nil eN dz))) (by omega) λH10 nx10 h10=>End.ret ho rfl h10
end
section
variable {nx0 nx nx' bp k:Nat}{H0 H H':T OB}{F A B G G':List Bx}{s:Bx}{R:Go.Ev.Out->T OB->Nat->Prop}{b:Nat}{l:List Value}{e t:TypeId}{L:List Tok}
structure g8 (n:Nat)(cs:List Value)(a:aD)(G:List Bx):Prop where
 len:cs.length=4
 one:cs.all ah=true
 fz:fE n [(3,39)] (.agg ⟨cs⟩) a.v G
theorem g8.of (a:aD):g8 0 a.cs a []:=⟨a.len,(a.fA a.v (by simp)).2.1,a.fz⟩
theorem g8.fA {n:Nat}{cs:List Value}{a:aD}(h:g8 n cs a G):mJ true 4 [.agg ⟨cs⟩]:=λv hv=>by
 rw[List.mem_singleton]at hv;subst hv;exact⟨h.len,h.one,⟨_,rfl⟩⟩
theorem g8.row {k i:Int}{w:List UInt8}{sl:Value}{l:List aD}{n:Nat}(h:cg n 39 sl (cu l) G)(ho:ah sl=true):g8 n [i64 k,i64 i,ar w,sl] (.mk k i w l) G:=⟨rfl,by simp[ho],by
 rw[aD.aW];exact fE.of (ec.one (p:=(3,39)) (cs:=[i64 k,i64 i,ar w,sl]) rfl h)⟩
theorem g8.nil {k i:Int}{w:List UInt8}:g8 0 [i64 k,i64 i,ar w,aq] (.mk k i w []) []:=g8.row (l:=[]) (cg.nil dr cL) rfl
theorem g8.gw {k i:Int}{w:List UInt8}{sl:Value}{l:List aD}(h:Gw true 4 41 (l.map aD.v) sl G):g8 1 [i64 k,i64 i,ar w,sl] (.mk k i w l) G:=g8.row h.KB (dT h)
theorem g8.b1 {k i:Int}{w:List UInt8}{n:Nat}{cs:List Value}{a:aD}(h:g8 n cs a G):g8 (n+1) [i64 k,i64 i,ar w,gF b 1 1] (.mk k i w [a]) ((b,cs,41)::G):=by
 have:=cg.di (t:=39) (b:=b) dr cL eh rfl gk h.fA (.inr rfl) (by simp) (gQ.one h.fz) (λu hu=>by rw[List.mem_singleton]at hu;subst hu;exact a.len);rw[fU cs]at this;exact g8.row this rfl
theorem g8.b2 {k i:Int}{w:List UInt8}{n:Nat}{cs:List Value}{a c:aD}(h:g8 n cs a G):g8 (n+1) [i64 k,i64 i,ar w,gF b 2 2] (.mk k i w [a,c]) ((b,cs++c.cs,41)::G):=by
 have:=cg.di (t:=39) (b:=b) (vs:=[.agg ⟨cs⟩,c.v]) dr cL eh rfl gk (λv hv=>by
  rcases List.mem_cons.1 hv with rfl | hv
  . exact h.fA _ (by simp)
  . exact c.fA v hv) (.inr rfl) (by simp) (gQ.two h.fz c.fz) (λu hu=>by
  rcases List.mem_cons.1 hu with rfl | hu
  . exact a.len
  . rw[List.mem_singleton]at hu;subst hu;exact c.len)
 rw[show bR [Value.agg ⟨cs⟩,c.v]=cs++c.cs from kA cs c.cs]at this;exact g8.row this rfl
def D6 (L:List Tok)(TT:Nat->PR aD)(a:aD)(k:Nat):PR aD:=if bC L k [58,58]=true then bd (TT (k+1)) λb k=>yes (DK a b) k else yes a k
theorem D7 {TT:Nat->PR aD}(hT:aR 80 L aD.v TT)(hL:L.length<=100000){n:Nat}{cs z:List Value}{a:aD}{x0 x1:Nat}{o:iB aD}(hv:g8 n cs a G)(hn:n<=99990)(hz:z.length=4)(ho:D6 L TT a k=some o)
 (h:Hp nx0 H0 (bP bp L k::(x1,cs,41)::(x0,z,41)::(G++F)) H nx):ay P pl X0 (.jump (oF (ptr bp) (ptr x0) (ptr x1) H nx)) nx0 H0 (End nx0 H0 bp L F aD.v o):=by
 refine Wq.jmp (JP ..) (λ_=>rfl) ?_;unfold D6 at ho;refine Sq.take hL h (λhi H1 aI h1=> ?_) (λhi H1 aI h1=> ?_)
 . rw[if_pos hi]at ho;simp only[ab,rh (h1.at_ 1 rfl) hv.len];refine Sq.call hT rfl h1 ho λc k' H2 nx2 _ ho2 h2=> ?_;simp only[ab,rh (h2.at_ 1 rfl) hv.len,aM];refine Hq.F_ cs c.cs hv.len c.len h2 λx H3 nx3 h3=> ?_;simp only[ab,Ae];refine Hq.iF [i64 5,i64 0,ar [],gF x 2 2] rfl h3 λy H4 nx4 h4=> ?_;simp only[ab,Gh];have h5:Hp nx0 H0 (bP bp L k'::(x0,z,41)::((y,[i64 5,i64 0,ar [],gF x 2 2],41)::(x,cs++c.cs,41)::G++F)) H4 nx4:=(Hp.mv [_,_,_] h4).sub (by simp);exact Hq.fin h5 cL eh gk hz rfl rfl (g8.b1 (g8.b2 hv)).fz (by omega) λH5 nx5 h5=>End.ret ho2 rfl h5
 . rw[if_neg (by rw[hi];simp)]at ho;simp only[ab,rh (h1.at_ 1 rfl) hv.len];have h4:Hp nx0 H0 (bP bp L k::(x0,z,41)::(G++F)) H1 aI:=(Hp.mv [_] h1).sub (by simp);exact Hq.fin h4 cL eh gk hz hv.len hv.one hv.fz (by omega) λH5 nx5 h5=>End.ret ho rfl h5
theorem MT (hL:L.length<=100000){p:PS}(hpatom:aR 92 L aD.v p.dA)(hpat:aR 80 L aD.v p.pat):aR 80 L aD.v (sZ L p):=by
 intro nx0 nx H0 H bp F k o ho h;unfold sZ sY at ho;have hc:∀(a:aD) (k:Nat),(if bC L k [58,58]=true then bd (p.pat (k+1)) λb k=>yes (DK a b) k else yes a k)=D6 L p.pat a k:=λ_ _=>rfl;simp only[hc]at ho;rw[PV];refine Hq.alloc cv h λx0 H1 aI h1=> ?_;refine Hq.alloc cv h1 λx1 H2 nx2 h2=> ?_;refine Sq.now h2 λH3 nx3 h3=> ?_;refine Sq.FN h3 λH4 nx4 h4=> ?_;simp only[ab];refine Wq.ite (λhi=> ?_) (λhi=> ?_)
 . rw[if_pos hi]at ho;simp only[ab,pk h4,dV hL (fO (show(tk L k).k≠0 by omega))];refine cO h4 λH5 h5=> ?_;simp only[ab,m_];refine Hq.set [_] h5 cL rfl rfl rfl λH6 h6=> ?_
   refine Sq.MB h6 λH7 nx7 h7=> ?_;cases hb:lf L (k+1)with
   | true=>
     rw[hb,if_pos rfl,fW]at ho;simp only[dM]at ho;simp only[ab];refine Sq.call hpatom rfl h7 ho λa k' H8 nx8 _ ho h8=> ?_;refine Hq.iF a.cs a.len h8 λx H9 nx9 h9=> ?_;refine Hq.put [_,_] h9 zC rfl rfl (by simp) rfl λH10 h10=> ?_;exact D7 (n:=1) (G:=[(x,a.cs,41)]) hpat hL (g8.b1 (g8.of a)) (by omega) rfl ho (Hp.ti h10)
   | false=>
     rw[hb,if_neg (by simp),dM]at ho;simp only[ab];exact D7 (n:=0) (G:=[]) hpat hL g8.nil (by omega) rfl ho h7
 . rw[if_neg hi]at ho;refine Sq.call hpatom rfl h4 ho λa k' H5 nx5 _ ho h5=> ?_;refine Hq.set [_] h5 cL rfl a.len (g8.of a).one λH6 h6=> ?_
   exact D7 (n:=0) (G:=[]) hpat hL (g8.of a) (by omega) rfl ho h6
theorem MU (n:Int):mR P .neg (some (i64 n))=some (i64 (IntKind.i64.wrap (-n))):=by rw[Fw,Int.zero_sub]
theorem It (hL:L.length<=100000):∀(m:Nat),(∀j,j<m->aR 80 L aD.v (ps L j).pat)->∀(l:List aD) (k:Nat) (sl:Value) (G:List Bx) (o:iB aD) (z:List Value) (x0 x1 nx:Nat) (H:Go.Ev.T OB),l.length+m<=90010->Gw true 4 41 (l.map aD.v) sl G->z.length=4->
 bd ((ps L m).pQ l k) (λl k=>ba L [41] k λk=>yes (.mk 5 0 [] l) k)=some o->Hp nx0 H0 (bP bp L k::(x1,[i64 5,i64 0,ar [],sl],41)::(x0,z,41)::(G++F)) H nx->
 ay P pl X0 (.jump (sL (ptr bp) (ptr x0) (ptr x1) H nx)) nx0 H0 (End nx0 H0 bp L F aD.v o)
 | 0,_,l,k,sl,G,o,z,x0,x1,nx,H,hm,hG,hz,ho,h=>by cases ho
 | m+1,hp,l,k,sl,G,o,z,x0,x1,nx,H,hm,hG,hz,ho,h=>by
   have ho:bd (oR L (ps L m) l k) (λl k=>ba L [41] k λk=>yes (.mk 5 0 [] l) k)=some o:=ho;unfold oR at ho;refine Wq.jmp (JU ..) (λ_=>rfl) ?_;refine Sq.take hL h (λhi H1 aI h1=> ?_) (λhi H1 aI h1=> ?_)
   . rw[if_pos hi,fW]at ho;simp only[ab,ak (off:=3) (u:=sl) (h1.at_ 1 rfl) iu rfl];refine Sq.call (hp m (Nat.lt_succ_self m)) rfl h1 ho λc k' H2 nx2 _ ho2 h2=> ?_;simp only[ab,ak (off:=3) (u:=sl) (h2.at_ 1 rfl) iu rfl,aM];refine Hq.iF c.cs c.len h2 λx H3 nx3 h3=> ?_;simp only[ab,ak (off:=3) (u:=sl) (h3.at_ 2 rfl) iu rfl,aM];refine Hq.D4 [_,_] (x:=c) (by omega) hG h3 λsl' G' H4 nx4 hG' h4=> ?_;refine Hq.put [_] h4 zC (by rcases hG'.2 with⟨_,rfl,_⟩ | ⟨b,c,rfl,_⟩<;>rfl) (dT hG') (by simp) rfl λH5 h5=> ?_;exact It hL m (λj hj=>hp j (by omega)) (l++[c]) k' sl' G' o z x0 x1 nx4 H5 (by rw[List.length_append];simp;omega) hG' hz ho2 h5
   . rw[if_neg (by rw[hi];simp),dM]at ho;simp only[ab];refine Sq.iP hL h1 ho λH2 nx2 _ ho h2=> ?_;have hv:g8 1 [i64 5,i64 0,ar [],sl] (.mk 5 0 [] l) G:=g8.gw hG;simp only[ab,rh (h2.at_ 1 rfl) hv.len];have h4:Hp nx0 H0 (bP bp L (k+1)::(x0,z,41)::(G++F)) H2 nx2:=(Hp.mv [_] h2).sub (by simp);exact Hq.fin h4 cL eh gk hz hv.len hv.one hv.fz (by omega) λH5 nx5 h5=>End.ret ho rfl h5
theorem MV (hL:L.length<=100000){n:Nat}(hn:n<=90000)(hpat:∀j,j<=n->aR 80 L aD.v (ps L j).pat):aR 92 L aD.v (ps L (n+1)).dA:=by
 intro nx0 nx H0 H bp F k o ho h;have ho:dh L (ps L n) k=some o:=ho;unfold dh at ho;rw[P4];refine Hq.alloc cv h λx0 H1 aI h1=> ?_;refine Sq.now h1 λH2 nx2 h2=> ?_;refine Sq.FN h2 λH3 nx3 h3=> ?_;simp only[ab];refine Wq.ite (λhi=> ?_) (λhi=> ?_)
 . rw[if_pos hi]at ho;simp only[ab,pk h3,dV hL (fO (show(tk L k).k≠0 by omega))];refine cO h3 λH4 h4=> ?_;simp only[ab,Af];exact Hq.fin (G:=[]) h4 cL eh gk rfl rfl rfl g8.nil.fz (by omega) λH5 nx5 h5=>End.ret ho rfl h5
 rw[if_neg hi]at ho;refine Wq.ite (λhi=> ?_) (λhi=> ?_)
 . rw[if_pos hi]at ho;simp only[ab,pk h3,dV hL (fO (show(tk L k).k≠0 by omega))];refine cO h3 λH4 h4=> ?_;simp only[ab,m_];exact Hq.fin (G:=[]) h4 cL eh gk rfl rfl rfl g8.nil.fz (by omega) λH5 nx5 h5=>End.ret ho rfl h5
 rw[if_neg hi]at ho;refine Wq.ite (λhi=> ?_) (λhi=> ?_)
 . rw[if_pos hi]at ho;simp only[ab,pk h3,dV hL (fO (show(tk L k).k≠0 by omega))];refine cO h3 λH4 h4=> ?_;simp only[ab,m_];exact Hq.fin (G:=[]) h4 cL eh gk rfl rfl rfl g8.nil.fz (by omega) λH5 nx5 h5=>End.ret ho rfl h5
 rw[if_neg hi]at ho;refine Wq.ite (λhi=> ?_) (λhi=> ?_)
 . rw[if_pos hi]at ho;simp only[ab,pk h3,dV hL (fO (show(tk L k).k≠0 by omega))];refine cO h3 λH4 h4=> ?_;simp only[ab,m_];exact Hq.fin (G:=[]) h4 cL eh gk rfl rfl rfl g8.nil.fz (by omega) λH5 nx5 h5=>End.ret ho rfl h5
 rw[if_neg hi]at ho;refine Sq.take hL h3 (λhi H4 nx4 h4=> ?_) (λhi H4 nx4 h4=> ?_)
 . rw[if_pos hi]at ho;simp only[ab];exact Hq.fin (G:=[]) h4 cL eh gk rfl rfl rfl g8.nil.fz (by omega) λH5 nx5 h5=>End.ret ho rfl h5
 rw[if_neg (by rw[hi];simp)]at ho;simp only[ab];refine Sq.take hL h4 (λhi H5 nx5 h5=> ?_) (λhi H5 nx5 h5=> ?_)
 . rw[if_pos hi]at ho;simp only[ab];refine Sq.word (by decide) hL h5 ho λH6 nx6 _ ho h6=> ?_;simp only[ab,MU,Af];exact Hq.fin (G:=[]) h6 cL eh gk rfl rfl rfl g8.nil.fz (by omega) λH7 nx7 h7=>End.ret ho rfl h7
 rw[if_neg (by rw[hi];simp)]at ho;simp only[ab];refine Sq.iP hL h5 ho λH6 nx6 _ ho h6=> ?_;refine Sq.take hL h6 (λhi H7 nx7 h7=> ?_) (λhi H7 nx7 h7=> ?_)
 . rw[if_pos hi]at ho;simp only[ab];exact Hq.fin (G:=[]) h7 cL eh gk rfl rfl rfl g8.nil.fz (by omega) λH8 nx8 h8=>End.ret ho rfl h8
 rw[if_neg (by rw[hi];simp)]at ho;simp only[ab];refine Sq.call (hpat n (Nat.le_refl n)) rfl h7 ho λa k' H8 nx8 _ ho h8=> ?_;refine Hq.alloc cv h8 λx1 H9 nx9 h9=> ?_;refine Hq.set [_] h9 cL rfl a.len (g8.of a).one λH10 h10=> ?_
 refine Sq.is h10 λH11 nx11 h11=> ?_;cases hc:bC L k' [44]with
 | true=>
   rw[hc,if_pos rfl]at ho;simp only[ab,rh (h11.at_ 1 rfl) a.len];refine Hq.iF a.cs a.len h11 λx H12 nx12 h12=> ?_;simp only[ab,Ae];refine Hq.set [_,_] h12 cL a.len rfl rfl λH13 h13=> ?_
   exact It hL (n+1) (λj hj=>hpat j (by omega)) [a] k' (gF x 1 1) [(x,a.cs,41)] o _ x0 x1 nx12 H13 (show 1+(n+1)<=90010 by omega) (Gw.mN a.fA) rfl ho (Hp.ti h13)
 | false=>
   rw[hc,if_neg (by simp)]at ho;simp only[ab];refine Wq.jmp (JV ..) (λ_=>rfl) ?_;refine Sq.iP hL h11 ho λH12 nx12 _ ho h12=> ?_;simp only[ab,rh (h12.at_ 1 rfl) a.len];have h4:Hp nx0 H0 (bP bp L (k'+1)::(x0,[i64 0,i64 0,ar [],aq],41)::([]++F)) H12 nx12:=(Hp.mv [_] h12).sub (by simp);exact Hq.fin h4 cL eh gk rfl a.len (g8.of a).one a.fz (by omega) λH5 nx5 h5=>End.ret ho rfl h5
end
section
variable {nx0 nx nx' bp k:Nat}{H0 H H':T OB}{F A B G G':List Bx}{s:Bx}{R:Go.Ev.Out->T OB->Nat->Prop}{b:Nat}{l:List Value}{e t:TypeId}{L:List Tok}
structure ei (n:Nat)(cs:List Value)(a:au)(G:List Bx):Prop where
 len:cs.length=6
 one:cs.all ah=true
 fz:fE n [(3,42),(4,39),(5,23)] (.agg ⟨cs⟩) a.v G
theorem ei.of (a:au):ei 0 a.cs a []:=⟨a.len,(a.fA a.v (by simp)).2.1,a.fz⟩
theorem ei.fA {n:Nat}{cs:List Value}{a:au}(h:ei n cs a G):mJ true 6 [.agg ⟨cs⟩]:=λv hv=>by
 rw[List.mem_singleton]at hv;subst hv;exact⟨h.len,h.one,⟨_,rfl⟩⟩
theorem ei.row {k i:Int}{w:List UInt8}{sl sp sd:Value}{l:List au}{p:List aD}{d:List aJ}{n:Nat}{G1 G2 G3:List Bx}(h1:cg n 42 sl (fy l) G1)(h2:cg n 39 sp (cu p) G2)(h3:cg n 23 sd (cU d) G3)(o1:ah sl=true)(o2:ah sp=true)(o3:ah sd=true):
 ei n [i64 k,i64 i,ar w,sl,sp,sd] (.mk k i w l p d) (G1++(G2++G3)):=⟨rfl,by simp[o1,o2,o3],by
 rw[au.aW];exact fE.of (ec.cons (p:=(3,42)) (cs:=[i64 k,i64 i,ar w,sl,sp,sd]) rfl h1 (ec.cons (p:=(4,39)) rfl h2 (ec.one (p:=(5,23)) rfl h3)))⟩
theorem jt {n:Nat}:cg n 39 aq (cu []) []:=(cg.nil dr cL).mono (Nat.zero_le n)
theorem ri {n:Nat}:cg n 23 aq (cU []) []:=(cg.nil fu e6).mono (Nat.zero_le n)
theorem vi {n:Nat}:cg n 42 aq (fy []) []:=(cg.nil eg bM).mono (Nat.zero_le n)
theorem ei.ll {k i:Int}{w:List UInt8}{sl:Value}{l:List au}{n:Nat}(h:cg n 42 sl (fy l) G)(ho:ah sl=true):ei n [i64 k,i64 i,ar w,sl,aq,aq] (.mk k i w l [] []) G:=by
 have:=ei.row (k:=k) (i:=i) (w:=w) h (jt (n:=n)) (ri (n:=n)) ho rfl rfl;rwa[List.append_nil,List.append_nil]at this
theorem ei.nil {k i:Int}{w:List UInt8}:ei 0 [i64 k,i64 i,ar w,aq,aq,aq] (.mk k i w [] [] []) []:=ei.ll vi rfl
theorem ei.gw {k i:Int}{w:List UInt8}{sl:Value}{l:List au}(h:Gw true 6 44 (l.map au.v) sl G):ei 1 [i64 k,i64 i,ar w,sl,aq,aq] (.mk k i w l [] []) G:=ei.ll h.MM (dT h)
theorem ei.b1 {k i:Int}{w:List UInt8}{n:Nat}{cs:List Value}{a:au}(h:ei n cs a G):ei (n+1) [i64 k,i64 i,ar w,gF b 1 1,aq,aq] (.mk k i w [a] [] []) ((b,cs,44)::G):=by
 have:=cg.di (t:=42) (b:=b) eg bM cS rfl eT h.fA (.inr rfl) (by simp) (gQ.one h.fz) (λu hu=>by rw[List.mem_singleton]at hu;subst hu;exact a.len);rw[fU cs]at this;exact ei.ll this rfl
theorem ei.b2 {k i:Int}{w:List UInt8}{n:Nat}{cs:List Value}{a c:au}(h:ei n cs a G):ei (n+1) [i64 k,i64 i,ar w,gF b 2 2,aq,aq] (.mk k i w [a,c] [] []) ((b,cs++c.cs,44)::G):=by
 have:=cg.di (t:=42) (b:=b) (vs:=[.agg ⟨cs⟩,c.v]) eg bM cS rfl eT (λv hv=>by
  rcases List.mem_cons.1 hv with rfl | hv
  . exact h.fA _ (by simp)
  . exact c.fA v hv) (.inr rfl) (by simp) (gQ.two h.fz c.fz) (λu hu=>by
  rcases List.mem_cons.1 hu with rfl | hu
  . exact a.len
  . rw[List.mem_singleton]at hu;subst hu;exact c.len)
 rw[show bR [Value.agg ⟨cs⟩,c.v]=cs++c.cs from kA cs c.cs]at this;exact ei.ll this rfl
theorem ei.b3 {k i:Int}{w:List UInt8}{a c d:au}:ei 1 [i64 k,i64 i,ar w,gF b 3 3,aq,aq] (.mk k i w [a,c,d] [] []) [(b,a.cs++c.cs++d.cs,44)]:=by
 have hG:Gw true 6 44 ([a,c,d].map au.v) (gF b 3 3) [(b,bR ([a,c,d].map au.v),44)]:=Gw.one (au.Oy _) rfl (by decide);have e:bR ([a,c,d].map au.v)=a.cs++c.cs++d.cs:=by
  show a.cs++(c.cs++(d.cs++[]))=_;rw[List.append_nil,List.append_assoc]
 rw[e]at hG;exact ei.gw hG
theorem Iu (hL:L.length<=100000):∀(m:Nat),(∀j,j<m->aR 80 L aD.v (ps L j).pat)->(∀j,j<m->aR 47 L au.v (ps L j).exp)->∀(kk:Int) (l:List au) (q:List aD) (k:Nat) (sl sp:Value) (G G':List Bx) (o:iB au) (z:List Value) (x0 x1 nx:Nat) (H:Go.Ev.T OB),l.length+m<=90010->q.length+m<=90010->
 Gw true 6 44 (l.map au.v) sl G->Gw true 4 41 (q.map aD.v) sp G'->z.length=6->(ps L m).oO (.mk kk 0 [] l q []) k=some o->Hp nx0 H0 (bP bp L k::(x1,[i64 kk,i64 0,ar [],sl,sp,aq],44)::(x0,z,44)::(G++(G'++F))) H nx->
 ay P pl X0 (.jump (zJ (ptr bp) (ptr x1) (ptr x0) H nx)) nx0 H0 (End nx0 H0 bp L F au.v o)
 | 0,_,_,kk,l,q,k,sl,sp,G,G',o,z,x0,x1,nx,H,hm,hm',hG,hG',hz,ho,h=>by cases ho
 | m+1,hp,he,kk,l,q,k,sl,sp,G,G',o,z,x0,x1,nx,H,hm,hm',hG,hG',hz,ho,h=>by
   have ho:sX L (ps L m) (.mk kk 0 [] l q []) k=some o:=ho;unfold sX at ho;refine Wq.jmp (Mc ..) (λ_=>rfl) ?_;simp only[ab,ak (off:=4) (u:=sp) (h.at_ 1 rfl) iu rfl];refine Sq.call (hp m (Nat.lt_succ_self m)) rfl h ho λa k' H2 nx2 _ ho h2=> ?_;simp only[ab,ak (off:=4) (u:=sp) (h2.at_ 1 rfl) iu rfl,aM];refine Hq.iF a.cs a.len h2 λx H3 nx3 h3=> ?_;simp only[ab,ak (off:=4) (u:=sp) (h3.at_ 2 rfl) iu rfl,aM];refine Hq.D4 (_::_::G) (x:=a) (by omega) hG' h3 λsp' G2 H4 nx4 hG2 h4=> ?_;refine Hq.put [_] h4 zC (by rcases hG2.2 with⟨_,rfl,_⟩ | ⟨b,c,rfl,_⟩<;>rfl) (dT hG2) (by simp) rfl λH5 h5=> ?_;refine Sq.iP hL h5 ho λH6 nx6 _ ho h6=> ?_;simp only[ab,ak (off:=3) (u:=sl) (h6.at_ 1 rfl) iv rfl];refine Sq.call (he m (Nat.lt_succ_self m)) rfl h6 ho λc k2 H7 nx7 _ ho h7=> ?_;simp only[ab,ak (off:=3) (u:=sl) (h7.at_ 1 rfl) iv rfl,aM];refine Hq.eV c.cs c.len h7 λy H8 nx8 h8=> ?_;simp only[ab,ak (off:=3) (u:=sl) (h8.at_ 2 rfl) iv rfl,aM];refine Hq.D3 [_,_] (x:=c) (by omega) hG h8 λsl' G1 H9 nx9 hG1 h9=> ?_;refine Hq.put [_] h9 zD (by rcases hG1.2 with⟨_,rfl,_⟩ | ⟨b,c,rfl,_⟩<;>rfl) (dT hG1) (by simp) rfl λH10 h10=> ?_;refine Sq.take hL h10 (λhi H11 nx11 h11=> ?_) (λhi H11 nx11 h11=> ?_)
   . rw[if_pos hi]at ho;simp only[ab];exact Iu hL m (λj hj=>hp j (by omega)) (λj hj=>he j (by omega)) kk (l++[c]) (q++[a]) (k2+1) sl' sp' G1 G2 o z x0 x1 nx11 H11 (by rw[List.length_append];simp;omega) (by rw[List.length_append];simp;omega) hG1 hG2 hz ho h11
   . rw[if_neg (by rw[hi];simp)]at ho;have hv:ei 1 [i64 kk,i64 0,ar [],sl',sp',aq] (.mk kk 0 [] (l++[c]) (q++[a]) []) (G1++(G2++[])):=ei.row hG1.MM hG2.KB ri (dT hG1) (dT hG2) rfl;simp only[ab,fp (h11.at_ 1 rfl) hv.len];have h12:Hp nx0 H0 (bP bp L k2::(x0,z,44)::((G1++(G2++[]))++F)) H11 nx11:=by
      rw[List.append_nil,List.append_assoc];exact(Hp.mv [_] h11).sub (by simp)
     exact Hq.fin h12 bM cS eT hz hv.len hv.one hv.fz (by omega) λH5 nx5 h5=>End.ret ho rfl h5
def Gr (L:List Tok)(r:au->Nat->PR au):Prop:=∀(nx0 nx:Nat) (H0 H:Go.Ev.T OB) (bp:Nat) (F G:List Bx) (k:Nat) (o:iB au) (kk:Int) (l:List au) (sl:Value),l.length<=3->Gw true 6 44 (l.map au.v) sl G->r (.mk kk 0 [] l [] []) k=some o->Hp nx0 H0 (bP bp L k::(G++F)) H nx->
 ay P pl X0 (aV P pl (.call 63 [ptr bp,.agg ⟨[i64 kk,i64 0,ar [],sl,aq,aq]⟩] false none H nx)) nx0 H0 (End nx0 H0 bp L F au.v o)
theorem MW (hL:L.length<=100000){n:Nat}(hn:n<=90000)(hp:∀j,j<=n->aR 80 L aD.v (ps L j).pat)(he:∀j,j<=n->aR 47 L au.v (ps L j).exp):Gr L (ps L (n+1)).oO:=by
 intro nx0 nx H0 H bp F G k o kk l sl hl hG ho h;rw[PK];refine Hq.box h λx1 H1 aI h1=> ?_;refine Hq.alloc br h1 λx0 H2 nx2 h2=> ?_;exact Iu hL (n+1) (λj hj=>hp j (by omega)) (λj hj=>he j (by omega)) kk l [] k sl aq G [] o _ x0 x1 nx2 H2 (by omega) (by simp;omega) hG (Gw.nil _ _ _) rfl ho (Hp.swap' h2)
theorem l9 {α:Type}(x:PR α):bd x yes=x:=by
 cases x with
 | none=>rfl
 | some r=>cases r<;>rfl
theorem Sq.D8 {β:Type}{F1:List Bx}{vg:β->Value}{r:au->Nat->PR au}{g:au->Nat->PR β}{o:iB β}{kk:Int}{l:List au}{sl:Value}{kt:Value->Go.Ev.T OB->Nat->Q}(hs:Gr L r)(hl:l.length<=3)(hG:Gw true 6 44 (l.map au.v) sl G)(h:Hp nx0 H0 (bP bp L k::(G++F1)) H nx)
 (ho:bd (r (.mk kk 0 [] l [] []) k) g=some o) (hk:∀a k' H' nx',g a k'=some o->Hp nx0 H0 (bP bp L k'::F1) H' nx'->ay P pl X0 (kt a.v H' nx') nx0 H0 (End nx0 H0 bp L F vg o)):
 ay P pl X0 (cD (.call 63 [ptr bp,.agg ⟨[i64 kk,i64 0,ar [],sl,aq,aq]⟩] false none H nx) kt Ev.h_) nx0 H0 (End nx0 H0 bp L F vg o):=by
 cases hr:r (.mk kk 0 [] l [] []) k with
 | none=>rw[hr]at ho;cases ho
 | some q=>
   refine Wq.fM rfl (hs nx0 nx H0 H bp F1 G k q kk l sl hl hG hr h) (λu H' nx' _ he=> ?_) (λu H' nx' hA he=> ?_)
   . cases q with
     | bad a=>cases he
     | ok a k'=>
       rw[hr,z3]at ho;cases he.1;exact hk a k' H' nx' ho he.2
   . cases q with
     | ok a k'=>cases he.1
     | bad a=>
       rw[hr,sT]at ho;cases ho;cases he;exact Sq.h_ hA
theorem Hq.Gs {a:au}{kt:Go.Ev.T OB->Nat->Q}(h:Hp nx0 H0 F H nx)(hk:∀H' nx',Hp nx0 H0 F H' nx'->ay P pl X0 (kt H' nx') nx0 H0 R):ay P pl X0 (bf (bL P H nx 44) λp H nx=>cW P H nx 44 (some p) a.v kt) nx0 H0 R:=Hq.var br bM rfl a.len (ei.of a).one h hk
theorem NP (a:au):aj P H 44 (some (ae a.v))=some a.v:=by
 rw[au.aW];exact Cq ..
theorem Hq.w0 {z:List Value}{a:au}{x0:Nat}{kt:Value->Go.Ev.T OB->Nat->Q}(h:Hp nx0 H0 (s::(x0,z,44)::F) H nx)(hz:z.length=6)(hk:∀H' nx',Hp nx0 H0 (s::F) H' nx'->ay P pl X0 (kt a.v H' nx') nx0 H0 R):
 ay P pl X0 (bf (bY P H nx 44 (some (ptr x0)) (some a.v)) λ_ H nx=>af (aj P H 44 (some (ptr x0))) (λx=>bw P 44 x H nx kt) .bad) nx0 H0 R:=
 Hq.fin (G:=[]) h bM cS eT hz a.len (ei.of a).one a.fz (by omega) hk
theorem OD (hL:L.length<=100000){p:PS}(hexp:aR 47 L au.v p.exp)(hmat:Gr L p.oO)(hbin:∀nx0 nx H0 H bp F k o,p.bin 0 k=some o->Hp nx0 H0 (bP bp L k::F) H nx->ay P pl X0 (aV P pl (.call 64 [ptr bp,i64 0] false none H nx)) nx0 H0 (End nx0 H0 bp L F au.v o)):aR 47 L au.v (gC L p):=by
 intro nx0 nx H0 H bp F k o ho h;unfold gC at ho;rw[PC];refine Hq.alloc br h λx0 H1 aI h1=> ?_;refine Sq.take hL h1 (λhi H2 nx2 h2=> ?_) (λhi H2 nx2 h2=> ?_)
 . rw[if_pos hi]at ho;simp only[ab];refine Sq.call hexp rfl h2 ho λa k2 H3 nx3 _ ho h3=> ?_;refine Hq.Gs h3 λH4 nx4 h4=> ?_;refine Sq.iP hL h4 ho λH5 nx5 _ ho h5=> ?_;refine Sq.call hexp rfl h5 ho λb k3 H6 nx6 _ ho h6=> ?_;refine Hq.Gs h6 λH7 nx7 h7=> ?_;refine Sq.iP hL h7 ho λH8 nx8 _ ho h8=> ?_;simp only[ab,NP];refine Sq.call hexp rfl h8 ho λc k4 H9 nx9 _ ho h9=> ?_;refine Hq.F7 a.cs b.cs c.cs a.len b.len c.len h9 λx H10 nx10 h10=> ?_;simp only[ab,gn];have h11:Hp nx0 H0 (bP bp L k4::(x0,_,44)::([(x,a.cs++b.cs++c.cs,44)]++F)) H10 nx10:=Hp.swap' h10;exact Hq.fin h11 bM cS eT rfl rfl rfl ei.b3.fz (by omega) λH5 nx5 h5=>End.ret ho rfl h5
 rw[if_neg (by rw[hi];simp)]at ho;simp only[ab];refine Sq.take hL h2 (λhi H3 nx3 h3=> ?_) (λhi H3 nx3 h3=> ?_)
 . rw[if_pos hi]at ho;simp only[ab];refine Sq.call hexp rfl h3 ho λa k2 H4 nx4 _ ho h4=> ?_;refine Hq.Gs h4 λH5 nx5 h5=> ?_;refine Sq.iP hL h5 ho λH6 nx6 _ ho h6=> ?_;simp only[ab,NP];refine Hq.eV a.cs a.len h6 λx H7 nx7 h7=> ?_;simp only[ab,gn];rw[<- l9 (p.oO _ _)]at ho;refine Sq.D8 hmat (l:=[a]) (by simp) (Gw.mN a.fA) h7 ho λc k3 H8 nx8 ho h8=> ?_;exact Hq.w0 h8 rfl λH9 nx9 h9=>End.ret ho rfl h9
 rw[if_neg (by rw[hi];simp)]at ho;simp only[ab];refine Sq.take hL h3 (λhi H4 nx4 h4=> ?_) (λhi H4 nx4 h4=> ?_)
 . rw[if_pos hi]at ho;simp only[ab];rw[<- l9 (p.oO _ _)]at ho;refine Sq.D8 hmat (l:=[]) (G:=[]) (by simp) (Gw.nil _ _ _) h4 ho λc k3 H8 nx8 ho h8=> ?_;exact Hq.w0 h8 rfl λH9 nx9 h9=>End.ret ho rfl h9
 rw[if_neg (by rw[hi];simp)]at ho;simp only[ab];refine Sq.take hL h4 (λhi H5 nx5 h5=> ?_) (λhi H5 nx5 h5=> ?_)
 . rw[if_pos hi]at ho;simp only[ab];refine Sq.call hexp rfl h5 ho λa k2 H6 nx6 _ ho h6=> ?_;refine Hq.eV a.cs a.len h6 λx H7 nx7 h7=> ?_;simp only[ab,gn];have h11:Hp nx0 H0 (bP bp L k2::(x0,_,44)::([(x,a.cs,44)]++F)) H7 nx7:=Hp.swap' h7;exact Hq.fin h11 bM cS eT rfl rfl rfl (ei.b1 (ei.of a)).fz (by omega) λH5 nx5 h5=>End.ret ho rfl h5
 rw[if_neg (by rw[hi];simp)]at ho;simp only[ab];cases hr:p.bin 0 k with
 | none=>rw[hr]at ho;cases ho
 | some q=>
   refine Wq.fM rfl (hbin nx0 nx5 H0 H5 bp _ k q hr h5) (λu H6 nx6 _ he=> ?_) (λu H6 nx6 hA he=> ?_)
   . cases q with
     | bad a=>cases he
     | ok a k2=>
       rw[hr,z3]at ho;obtain⟨he1,h6⟩:=he;cases he1;refine Hq.Gs h6 λH7 nx7 h7=> ?_;refine Sq.take hL h7 (λhi H8 nx8 h8=> ?_) (λhi H8 nx8 h8=> ?_)
       . rw[if_pos hi]at ho;simp only[ab,NP];refine Hq.eV a.cs a.len h8 λx H9 nx9 h9=> ?_;simp only[ab,gn];rw[<- l9 (p.oO _ _)]at ho;refine Sq.D8 hmat (l:=[a]) (by simp) (Gw.mN a.fA) h9 ho λc k3 H10 nx10 ho h10=> ?_;exact Hq.w0 h10 rfl λH9 nx9 h9=>End.ret ho rfl h9
       . rw[if_neg (by rw[hi];simp)]at ho;simp only[ab,NP];exact Hq.w0 h8 rfl λH9 nx9 h9=>End.ret ho rfl h9
   . cases q with
     | ok a k'=>cases he.1
     | bad a=>
       rw[hr,sT]at ho;cases ho;cases he;exact Sq.h_ hA
end
section
variable {nx0 nx nx' bp k:Nat}{H0 H H':T OB}{F A B G G':List Bx}{s:Bx}{R:Go.Ev.Out->T OB->Nat->Prop}{b:Nat}{l:List Value}{e t:TypeId}{L:List Tok}
theorem Gt:∀(i:Nat),i<7->aT P 140 (some (.pointer (some ⟨3,0,none⟩))) (some (i64 (i:Int)))=some (.pointer (some ⟨3,i,none⟩))
 | 0,_=>by kernel_rfl
 | 1,_=>by kernel_rfl
 | 2,_=>by kernel_rfl
 | 3,_=>by kernel_rfl
 | 4,_=>by kernel_rfl
 | 5,_=>by kernel_rfl
 | 6,_=>by kernel_rfl
 | i+7,h=>by omega
theorem Ah {i:Nat}(h:i<7):aC[i]? = some ((aC[i]?).getD [])/\((aC[i]?).getD []).length<ee/\((aC[i]?).getD []).contains []=false/\∀w,((aC[i]?).getD []).contains w=true->(decide (w=[58,61])||decide (w=[58,58]))=decide (i=2\/i=4):=by
 have:∀i,i<7->aC[i]? = some ((aC[i]?).getD [])/\((aC[i]?).getD []).length<100/\((aC[i]?).getD []).contains []=false/\(((aC[i]?).getD []).all λw=>(decide (w=[58,61])||decide (w=[58,58])) == decide (i=2\/i=4))=true:=by decide +kernel
 obtain⟨h1,h2,h3,h4⟩:=this i h;refine⟨h1,Nat.lt_trans h2 (by decide),h3,λw hw=> ?_⟩;have hm:w∈(aC[i]?).getD []:=by simpa using hw
 have:=List.all_eq_true.1 h4 w hm;simpa using this
def D9 (L:List Tok)(r:Nat->Nat->PR au):Prop:=∀(lv nx0 nx:Nat) (H0 H:Go.Ev.T OB) (bp:Nat) (F:List Bx) (k:Nat) (o:iB au),lv<=7->r lv k=some o->Hp nx0 H0 (bP bp L k::F) H nx->ay P pl X0 (aV P pl (.call 64 [ptr bp,i64 (lv:Int)] false none H nx)) nx0 H0 (End nx0 H0 bp L F au.v o)
theorem Sq.qR {β:Type}{F1:List Bx}{vg:β->Value}{lv:Nat}{r:Nat->Nat->PR au}{g:au->Nat->PR β}{o:iB β}{kt:Value->Go.Ev.T OB->Nat->Q}(hs:D9 L r)(hl:lv<=7)(h:Hp nx0 H0 (bP bp L k::F1) H nx)
 (ho:bd (r lv k) g=some o) (hk:∀a k' H' nx',g a k'=some o->Hp nx0 H0 (bP bp L k'::F1) H' nx'->ay P pl X0 (kt a.v H' nx') nx0 H0 (End nx0 H0 bp L F vg o)):
 ay P pl X0 (cD (.call 64 [ptr bp,i64 (lv:Int)] false none H nx) kt Ev.h_) nx0 H0 (End nx0 H0 bp L F vg o):=by
 cases hr:r lv k with
 | none=>rw[hr]at ho;cases ho
 | some q=>
   refine Wq.fM rfl (hs lv nx0 nx H0 H bp F1 k q hl hr h) (λu H' nx' _ he=> ?_) (λu H' nx' hA he=> ?_)
   . cases q with
     | bad a=>cases he
     | ok a k'=>
       rw[hr,z3]at ho;cases he.1;exact hk a k' H' nx' ho he.2
   . cases q with
     | ok a k'=>cases he.1
     | bad a=>
       rw[hr,sT]at ho;cases ho;cases he;exact Sq.h_ hA
theorem Gu {lv k:Nat}(h:lv<7):jN L lv k=(!decide ((if iQ L k=true then(tk L k).s else[])=[])&&((aC[lv]?).getD []).contains (if iQ L k=true then(tk L k).s else[])):=by
 obtain⟨_,_,h3,_⟩:=Ah h;unfold jN;cases iQ L k with
 | false=>simp
 | true=>
   rw[Bool.true_and,if_pos rfl]
   by_cases hs:(tk L k).s=[]
   . rw[hs,h3];simp
   . simp[hs]
theorem D_ {L:List Tok}{k:Nat}(h:iQ L k=true):k<L.length:=fO λq=>by unfold iQ at h;rw[q]at h;simp at h
theorem Iv (hL:L.length<=100000){lv:Nat}(hlv:lv<7):∀(m:Nat),(∀j,j<m->D9 L (ps L j).bin)->∀(a:au) (k n:Nat) (cs z:List Value) (G:List Bx) (o:iB au) (x0 x1 nx:Nat) (H:Go.Ev.T OB),n+m<=90010->ei n cs a G->z.length=6->(ps L m).u2 lv a k=some o->
 Hp nx0 H0 (bP bp L k::(x1,cs,44)::(x0,z,44)::(G++F)) H nx->ay P pl X0 (.jump (sE (ptr bp) (i64 (lv:Int)) (ptr x0) (ptr x1) H nx)) nx0 H0 (End nx0 H0 bp L F au.v o)
 | 0,_,a,k,n,cs,z,G,o,x0,x1,nx,H,hm,hv,hz,ho,h=>by cases ho
 | m+1,hb,a,k,n,cs,z,G,o,x0,x1,nx,H,hm,hv,hz,ho,h=>by
   have ho:lh L (ps L m) lv a k=some o:=ho;unfold lh at ho;obtain⟨hg1,hg2,hg3,hg4⟩:=Ah hlv;refine Wq.jmp (JL ..) (λ_=>rfl) ?_;refine Sq.op h λH1 aI h1=> ?_;have fin:∀(w:Value) H2 nx2,jN L lv k=false->Hp nx0 H0 (bP bp L k::(x1,cs,44)::(x0,z,44)::(G++F)) H2 nx2->ay P pl X0 (.jump (sF (ptr bp) (i64 (lv:Int)) (ptr x0) (ptr x1) w true H2 nx2)) nx0 H0 (End nx0 H0 bp L F au.v o):=by
    intro w H2 nx2 hf h2;rw[if_neg (by rw[hf];simp)]at ho;refine Wq.jmp (C3 ..) (λ_=>rfl) ?_;simp only[ab,fp (h2.at_ 1 rfl) hv.len];have h3:Hp nx0 H0 (bP bp L k::(x0,z,44)::(G++F)) H2 nx2:=(Hp.mv [_] h2).sub (by simp);exact Hq.fin h3 bM cS eT hz hv.len hv.one hv.fz (by omega) λH5 nx5 h5=>End.ret ho rfl h5
   have hop:=Gu (L:=L) (k:=k) hlv;simp only[ab,NM];refine Wq.ite (λhw=> ?_) (λhw=> ?_)
   . exact fin _ H1 aI (by rw[hop,hw];simp) h1
   . simp only[ab,Gt lv hlv,lZ (h1.sQ.ag h1.ag).levels rX (show(aC.map lvl)[lv]? = some (lvl ((aC[lv]?).getD []))by rw[List.getElem?_map,hg1];rfl)];refine Hq.call (Kl _ hg2 _) h1 λH2 nx2 h2=> ?_;simp only[ab];cases hc:((aC[lv]?).getD []).contains (if iQ L k=true then(tk L k).s else[])with
     | false=>exact fin _ H2 nx2 (by rw[hop,hc,Bool.and_false]) h2
     | true=>
       have jW:jN L lv k=true:=by rw[hop,hc];simp[hw]
       have hW:iQ L k=true:=by
        unfold jN at jW;rw[Bool.and_eq_true]at jW;exact jW.1
       rw[if_pos jW]at ho;rw[if_pos hW]at hc ⊢;refine Wq.jmp (C3 ..) (λ_=>rfl) ?_;simp only[ab,pk h2,dV hL (D_ hW)];refine cO h2 λH3 h3=> ?_;refine Hq.call (Ku _) h3 λH4 nx4 h4=> ?_;rw[hg4 _ hc];refine Wq.ite (λhr=> ?_) (λhr=> ?_)
       . rw[if_pos hr]at ho;simp only[ab,fp (h4.at_ 1 rfl) hv.len];refine Sq.qR (hb m (Nat.lt_succ_self m)) (by omega) h4 ho λc k' H5 nx5 ho h5=> ?_;simp only[ab,fp (h5.at_ 1 rfl) hv.len,aM];refine Hq.te cs c.cs hv.len c.len h5 λx H6 nx6 h6=> ?_;simp only[ab,tg];have h7:Hp nx0 H0 (bP bp L k'::(x0,z,44)::((x,cs++c.cs,44)::G++F)) H6 nx6:=(Hp.mv [_,_] h6).sub (by simp);exact Hq.fin h7 bM cS eT hz rfl rfl (ei.b2 hv).fz (by omega) λH5 nx5 h5=>End.ret ho rfl h5
       . rw[if_neg hr]at ho;simp only[ab,fp (h4.at_ 1 rfl) hv.len,aB (show lv<9223372036854775807 by omega)];refine Sq.qR (lv:=lv+1) (hb m (Nat.lt_succ_self m)) (by omega) h4 ho λc k' H5 nx5 ho h5=> ?_;simp only[ab,fp (h5.at_ 1 rfl) hv.len,aM];refine Hq.te cs c.cs hv.len c.len h5 λx H6 nx6 h6=> ?_;simp only[ab,tg];refine Hq.set [_,_] h6 bM hv.len rfl rfl λH7 h7=> ?_
         exact Iv hL hlv m (λj hj=>hb j (by omega)) _ k' (n+1) _ z ((x,cs++c.cs,44)::G) o x0 x1 nx6 H7 (by omega) (ei.b2 hv) hz ho (Hp.ti h7)
theorem MX (hL:L.length<=100000){n:Nat}(hn:n<=90000)(hb:∀j,j<=n->D9 L (ps L j).bin)(hu:aR 83 L au.v (ps L n).un):D9 L (ps L (n+1)).bin:=by
 intro lv nx0 nx H0 H bp F k o hlv ho h;have ho:iC L (ps L n) lv k=some o:=ho;unfold iC at ho;rw[PM];refine Hq.alloc br h λx0 H1 aI h1=> ?_;simp only[ab];refine Wq.ite (λhi=> ?_) (λhi=> ?_)
 . rw[if_pos (by omega),<- l9 ((ps L n).un k)]at ho;refine Sq.call hu rfl h1 ho λa k' H2 nx2 _ ho h2=> ?_;exact Hq.w0 h2 rfl λH9 nx9 h9=>End.ret ho rfl h9
 . rw[if_neg (by omega)]at ho;simp only[ab,aB (show lv<9223372036854775807 by omega)];refine Sq.qR (lv:=lv+1) (hb n (Nat.le_refl n)) (by omega) h1 ho λa k' H2 nx2 ho h2=> ?_;refine Hq.alloc br h2 λx1 H3 nx3 h3=> ?_;refine Hq.set [_] h3 bM rfl a.len (ei.of a).one λH4 h4=> ?_
   exact Iv hL (by omega) (n+1) (λj hj=>hb j (by omega)) a k' 0 _ _ [] o x0 x1 nx3 H4 (by omega) (ei.of a) rfl ho h4
theorem Iw (hL:L.length<=100000):∀(m:Nat),(∀j,j<m->aR 93 L au.v (ps L j).atom)->∀(a:au) (k n:Nat) (cs z:List Value) (G:List Bx) (o:iB au) (x0 x1 nx:Nat) (H:Go.Ev.T OB),n+m<=90010->ei n cs a G->z.length=6->(ps L m).u3 a k=some o->
 Hp nx0 H0 (bP bp L k::(x1,cs,44)::(x0,z,44)::(G++F)) H nx->ay P pl X0 (.jump (sI (ptr bp) (ptr x0) (ptr x1) H nx)) nx0 H0 (End nx0 H0 bp L F au.v o)
 | 0,_,a,k,n,cs,z,G,o,x0,x1,nx,H,hm,hv,hz,ho,h=>by cases ho
 | m+1,ha,a,k,n,cs,z,G,o,x0,x1,nx,H,hm,hv,hz,ho,h=>by
   have ho:oP L (ps L m) a k=some o:=ho;unfold oP at ho;refine Wq.jmp (JQ ..) (λ_=>rfl) ?_;refine Sq.NN h λH1 aI h1=> ?_;cases hb:jO L k with
   | true=>
     rw[if_pos hb]at ho;simp only[ab,fp (h1.at_ 1 rfl) hv.len];refine Sq.call (ha m (Nat.lt_succ_self m)) rfl h1 ho λc k' H5 nx5 _ ho h5=> ?_;simp only[ab,fp (h5.at_ 1 rfl) hv.len,aM];refine Hq.te cs c.cs hv.len c.len h5 λx H6 nx6 h6=> ?_;simp only[ab,gn];refine Hq.set [_,_] h6 bM hv.len rfl rfl λH7 h7=> ?_
     exact Iw hL m (λj hj=>ha j (by omega)) _ k' (n+1) _ z ((x,cs++c.cs,44)::G) o x0 x1 nx6 H7 (by omega) (ei.b2 hv) hz ho (Hp.ti h7)
   | false=>
     rw[if_neg (by rw[hb];simp)]at ho;simp only[ab,fp (h1.at_ 1 rfl) hv.len];have h3:Hp nx0 H0 (bP bp L k::(x0,z,44)::(G++F)) H1 aI:=(Hp.mv [_] h1).sub (by simp);exact Hq.fin h3 bM cS eT hz hv.len hv.one hv.fz (by omega) λH5 nx5 h5=>End.ret ho rfl h5
theorem MY (hL:L.length<=100000){n:Nat}(hn:n<=90000)(ha:∀j,j<=n->aR 93 L au.v (ps L j).atom)(hu:aR 83 L au.v (ps L n).un):aR 83 L au.v (ps L (n+1)).un:=by
 intro nx0 nx H0 H bp F k o ho h;have ho:wN L (ps L n) k=some o:=ho;unfold wN at ho;rw[PY];refine Hq.alloc br h λx0 H1 aI h1=> ?_;refine Sq.op h1 λH2 nx2 h2=> ?_;have J:∀(bb:Bool) H3 nx3,unOp L k=bb->Hp nx0 H0 (bP bp L k::(x0,[i64 0,i64 0,ar [],aq,aq,aq],44)::F) H3 nx3->ay P pl X0 (.jump (zM (ptr bp) (ptr x0) (ar (if iQ L k=true then(tk L k).s else[])) bb H3 nx3)) nx0 H0 (End nx0 H0 bp L F au.v o):=by
  intro bb H3 nx3 hbb h3;refine Wq.jmp (Me ..) (λ_=>rfl) ?_;cases bb with
  | true=>
    rw[if_pos hbb]at ho;have hW:iQ L k=true:=by
     unfold unOp at hbb;rw[Bool.and_eq_true]at hbb;exact hbb.1
    rw[if_pos hW];simp only[ab,pk h3,dV hL (D_ hW)];refine cO h3 λH4 h4=> ?_;refine Sq.call hu rfl h4 ho λa k' H5 nx5 _ ho h5=> ?_;refine Hq.eV a.cs a.len h5 λx H6 nx6 h6=> ?_;simp only[ab,tg];have h7:Hp nx0 H0 (bP bp L k'::(x0,_,44)::([(x,a.cs,44)]++F)) H6 nx6:=Hp.swap' h6;exact Hq.fin h7 bM cS eT rfl rfl rfl (ei.b1 (ei.of a)).fz (by omega) λH5 nx5 h5=>End.ret ho rfl h5
  | false=>
    rw[if_neg (by rw[hbb];simp)]at ho;simp only[ab];refine Sq.call (ha n (Nat.le_refl n)) rfl h3 ho λa k' H5 nx5 _ ho h5=> ?_;refine Hq.alloc br h5 λx1 H6 nx6 h6=> ?_;refine Hq.set [_] h6 bM rfl a.len (ei.of a).one λH7 h7=> ?_
    exact Iw hL (n+1) (λj hj=>ha j (by omega)) a k' 0 _ _ [] o x0 x1 nx6 H7 (by omega) (ei.of a) rfl ho h7
 have hop:unOp L k=(!decide ((if iQ L k=true then(tk L k).s else[])=[])&&dt.contains (if iQ L k=true then(tk L k).s else[])):=by
  unfold unOp;cases iQ L k with
  | false=>simp
  | true=>
    rw[Bool.true_and,if_pos rfl]
    by_cases hs:(tk L k).s=[]
    . rw[hs];decide +kernel
    . simp[hs]
 simp only[ab,NM];refine Wq.bK (λhw=> ?_) (λhw=> ?_)
 . simp only[ab,Km];refine Hq.qT (FM _) h2 λH3 nx3 h3=> ?_;simp only[ab];exact J _ H3 nx3 (by rw[hop,hw,Bool.true_and]) h3
 . exact J false H2 nx2 (by rw[hop,hw,Bool.false_and]) h2
end
section
variable {nx0 nx nx' bp k:Nat}{H0 H H':T OB}{F A B G G':List Bx}{s:Bx}{R:Go.Ev.Out->T OB->Nat->Prop}{b:Nat}{l:List Value}{e t:TypeId}{L:List Tok}
theorem Ea (hL:L.length<=100000){sep:List UInt8}{kd:Int}:∀(m:Nat),(∀j,j<m->aR 47 L au.v (ps L j).exp)->∀(l:List au) (k:Nat) (sl:Value) (G:List Bx) (o:iB au) (y z:List Value) (x0 x1 x2 nx:Nat) (H:Go.Ev.T OB),l.length+m<=90010->Gw true 6 44 (l.map au.v) sl G->y.length=6->z.length=6->
 bd ((ps L m).dO sep (.mk kd 0 [] l [] []) k) (λe k=>ba L [41] k λk=>yes e k)=some o->Hp nx0 H0 (bP bp L k::(x2,[i64 kd,i64 0,ar [],sl,aq,aq],44)::(x1,y,44)::(x0,z,44)::(G++F)) H nx->
 ay P pl X0 (.jump (sN (ptr bp) (ptr x0) (ptr x1) (ae (.agg ⟨[ar sep,i64 kd]⟩)) (ptr x2) H nx)) nx0 H0 (End nx0 H0 bp L F au.v o)
 | 0,_,l,k,sl,G,o,y,z,x0,x1,x2,nx,H,hm,hG,hy,hz,ho,h=>by cases ho
 | m+1,he,l,k,sl,G,o,y,z,x0,x1,x2,nx,H,hm,hG,hy,hz,ho,h=>by
   have ho:bd (kq L (ps L m) sep (.mk kd 0 [] l [] []) k) (λe k=>ba L [41] k λk=>yes e k)=some o:=ho;unfold kq at ho;refine Wq.jmp (JW ..) (λ_=>rfl) ?_;simp only[ab];refine Sq.take hL h (λhi H1 aI h1=> ?_) (λhi H1 aI h1=> ?_)
   . rw[if_pos hi,fW]at ho;simp only[ab,ak (off:=3) (u:=sl) (h1.at_ 1 rfl) iv rfl];refine Sq.call (he m (Nat.lt_succ_self m)) rfl h1 ho λc k' H2 nx2 _ ho2 h2=> ?_;simp only[ab,ak (off:=3) (u:=sl) (h2.at_ 1 rfl) iv rfl,aM];refine Hq.eV c.cs c.len h2 λx H3 nx3 h3=> ?_;simp only[ab,ak (off:=3) (u:=sl) (h3.at_ 2 rfl) iv rfl,aM];refine Hq.D3 [_,_,_] (x:=c) (by omega) hG h3 λsl' G' H4 nx4 hG' h4=> ?_;refine Hq.put [_] h4 zD (by rcases hG'.2 with⟨_,rfl,_⟩ | ⟨b,c,rfl,_⟩<;>rfl) (dT hG') (by simp) rfl λH5 h5=> ?_;exact Ea hL m (λj hj=>he j (by omega)) (l++[c]) k' sl' G' o y z x0 x1 x2 nx4 H5 (by rw[List.length_append];simp;omega) hG' hy hz ho2 h5
   . rw[if_neg (by rw[hi];simp),dM]at ho;have hv:ei 1 [i64 kd,i64 0,ar [],sl,aq,aq] (.mk kd 0 [] l [] []) G:=ei.gw hG;simp only[ab,fp (h1.at_ 1 rfl) hv.len];refine Hq.set [_,_] h1 bM hy hv.len hv.one λH2 h2=> ?_
     refine Sq.iP hL h2 ho λH3 nx3 _ ho h3=> ?_;simp only[ab,fp (h3.at_ 2 rfl) hv.len];have h4:Hp nx0 H0 (bP bp L (k+1)::(x0,z,44)::(G++F)) H3 nx3:=(Hp.mv [_,_] h3).sub (by simp);exact Hq.fin h4 bM cS eT hz hv.len hv.one hv.fz (by omega) λH5 nx5 h5=>End.ret ho rfl h5
theorem Eb:da P 146 (some (.agg ⟨[ar [44],i64 5,ar [59],i64 13]⟩)) (some (i64 0))=some (.agg ⟨[ar [44],i64 5]⟩):=by kernel_rfl
theorem Ec:da P 146 (some (.agg ⟨[ar [44],i64 5,ar [59],i64 13]⟩)) (some (i64 1))=some (.agg ⟨[ar [59],i64 13]⟩):=by kernel_rfl
theorem Hq.Ed {w:List UInt8}{i:Int}{kt:Go.Ev.T OB->Nat->Q}(h:Hp nx0 H0 F H nx)(hk:∀H' nx',Hp nx0 H0 F H' nx'->ay P pl X0 (kt H' nx') nx0 H0 R):ay P pl X0 (bf (bL P H nx 145) λp H nx=>cW P H nx 145 (some p) (.agg ⟨[ar w,i64 i]⟩) kt) nx0 H0 R:=Hq.var CH Ji rfl rfl rfl h hk
theorem MZ (hL:L.length<=100000){n:Nat}(hn:n<=90000)(he:∀j,j<=n->aR 47 L au.v (ps L j).exp){a:au}{z:List Value}{x0 x1:Nat}{o:iB au}(hz:z.length=6)
 (ho:(if bC L k [44]=true then bd (kq L (ps L n) [44] (.mk 5 0 [] [a] [] []) k) λe k=>ba L [41] k λk=>yes e k
 else if bC L k [59]=true then bd (kq L (ps L n) [59] (.mk 13 0 [] [a] [] []) k) λe k=>ba L [41] k λk=>yes e k
 else ba L [41] k λk=>yes a k)=some o) (h:Hp nx0 H0 (bP bp L k::(x1,a.cs,44)::(x0,z,44)::F) H nx):
 ay P pl X0 (.jump (sM (ptr bp) (ptr x0) (ptr x1) (.agg ⟨[ar [44],i64 5,ar [59],i64 13]⟩) (i64 0) H nx)) nx0 H0 (End nx0 H0 bp L F au.v o):=by
 refine Wq.jmp (wB ..) (λ_=>rfl) ?_;simp only[ab,Eb,Int.reduceLT];refine Hq.Ed h λH1 aI h1=> ?_;refine Sq.is h1 λH2 nx2 h2=> ?_;cases hc:bC L k [44]with
 | true=>
   rw[if_pos hc]at ho;simp only[ab,fp (h2.at_ 1 rfl) a.len];refine Hq.eV a.cs a.len h2 λx H3 nx3 h3=> ?_;simp only[ab,gn];refine Hq.alloc br h3 λx2 H4 nx4 h4=> ?_;refine Hq.set [_] h4 bM rfl rfl rfl λH5 h5=> ?_
   have h6:Hp nx0 H0 (bP bp L k::(x2,_,44)::(x1,a.cs,44)::(x0,z,44)::([(x,a.cs,44)]++F)) H5 nx4:=h5.perm (List.Perm.cons _ (List.Perm.cons _ ((List.Perm.swap _ _ _).trans (List.Perm.cons _ (List.Perm.swap _ _ _)))));exact Ea hL (n+1) (λj hj=>he j (by omega)) [a] k (gF x 1 1) [(x,a.cs,44)] o _ z x0 x1 x2 nx4 H5 (show 1+(n+1)<=90010 by omega) (Gw.mN a.fA) a.len hz ho h6
 | false=>
   rw[if_neg (by rw[hc];simp)]at ho;simp only[ab];refine Wq.jmp (C8 ..) (λ_=>rfl) ?_;simp only[ab,Int.reduceAdd,show IntKind.i64.wrap 1=1 from rfl];refine Wq.jmp (wB ..) (λ_=>rfl) ?_;simp only[ab,Ec,Int.reduceLT];refine Hq.Ed h2 λH3 nx3 h3=> ?_;refine Sq.is h3 λH4 nx4 h4=> ?_;cases hc2:bC L k [59]with
   | true=>
     rw[if_pos hc2]at ho;simp only[ab,fp (h4.at_ 1 rfl) a.len];refine Hq.eV a.cs a.len h4 λx H5 nx5 h5=> ?_;simp only[ab,gn];refine Hq.alloc br h5 λx2 H6 nx6 h6=> ?_;refine Hq.set [_] h6 bM rfl rfl rfl λH7 h7=> ?_
     have h8:Hp nx0 H0 (bP bp L k::(x2,_,44)::(x1,a.cs,44)::(x0,z,44)::([(x,a.cs,44)]++F)) H7 nx6:=h7.perm (List.Perm.cons _ (List.Perm.cons _ ((List.Perm.swap _ _ _).trans (List.Perm.cons _ (List.Perm.swap _ _ _)))));exact Ea hL (n+1) (λj hj=>he j (by omega)) [a] k (gF x 1 1) [(x,a.cs,44)] o _ z x0 x1 x2 nx6 H7 (show 1+(n+1)<=90010 by omega) (Gw.mN a.fA) a.len hz ho h8
   | false=>
     rw[if_neg (by rw[hc2];simp)]at ho;simp only[ab];refine Wq.jmp (C8 ..) (λ_=>rfl) ?_;simp only[ab,Int.reduceAdd,show IntKind.i64.wrap 2=2 from rfl];refine Wq.jmp (wB ..) (λ_=>rfl) ?_;simp only[ab,Int.reduceLT];refine Sq.iP hL h4 ho λH5 nx5 _ ho h5=> ?_;simp only[ab,fp (h5.at_ 1 rfl) a.len];exact Hq.w0 (Hp.lb h5) hz λH9 nx9 h9=>End.ret ho rfl h9
theorem M0 (hL:L.length<=100000){n:Nat}(hn:n<=90000)(he:∀j,j<=n->aR 47 L au.v (ps L j).exp)(hlt:aR 96 L au.v (ps L n).lt):aR 93 L au.v (ps L (n+1)).atom:=by
 intro nx0 nx H0 H bp F k o ho h;have ho:eU L (ps L n) k=some o:=ho;unfold eU at ho;rw[P5];refine Hq.alloc br h λx0 H1 aI h1=> ?_;refine Sq.now h1 λH2 nx2 h2=> ?_;refine Sq.FN h2 λH3 nx3 h3=> ?_;simp only[ab];refine Wq.ite (λhi=> ?_) (λhi=> ?_)
 . rw[if_pos hi]at ho;simp only[ab,pk h3,dV hL (fO (show(tk L k).k≠0 by omega))];refine cO h3 λH4 h4=> ?_;simp only[ab,Gg];exact Hq.fin (G:=[]) h4 bM cS eT rfl rfl rfl ei.nil.fz (by omega) λH5 nx5 h5=>End.ret ho rfl h5
 rw[if_neg hi]at ho;refine Wq.ite (λhi=> ?_) (λhi=> ?_)
 . rw[if_pos hi]at ho;simp only[ab,pk h3,dV hL (fO (show(tk L k).k≠0 by omega))];refine cO h3 λH4 h4=> ?_;simp only[ab,th];exact Hq.fin (G:=[]) h4 bM cS eT rfl rfl rfl ei.nil.fz (by omega) λH5 nx5 h5=>End.ret ho rfl h5
 rw[if_neg hi]at ho;refine Wq.ite (λhi=> ?_) (λhi=> ?_)
 . rw[if_pos hi]at ho;simp only[ab,pk h3,dV hL (fO (show(tk L k).k≠0 by omega))];refine cO h3 λH4 h4=> ?_;simp only[ab,th];exact Hq.fin (G:=[]) h4 bM cS eT rfl rfl rfl ei.nil.fz (by omega) λH5 nx5 h5=>End.ret ho rfl h5
 rw[if_neg hi]at ho;refine Wq.ite (λhi=> ?_) (λhi=> ?_)
 . rw[if_pos hi]at ho;simp only[ab,pk h3,dV hL (fO (show(tk L k).k≠0 by omega))];refine cO h3 λH4 h4=> ?_;simp only[ab,th];exact Hq.fin (G:=[]) h4 bM cS eT rfl rfl rfl ei.nil.fz (by omega) λH5 nx5 h5=>End.ret ho rfl h5
 rw[if_neg hi]at ho;refine Sq.take hL h3 (λhi H4 nx4 h4=> ?_) (λhi H4 nx4 h4=> ?_)
 . rw[if_pos hi,<- l9 ((ps L n).lt _)]at ho;simp only[ab];refine Sq.call hlt rfl h4 ho λa k' H5 nx5 _ ho h5=> ?_;exact Hq.w0 h5 rfl λH9 nx9 h9=>End.ret ho rfl h9
 rw[if_neg (by rw[hi];simp)]at ho;simp only[ab];refine Sq.iP hL h4 ho λH6 nx6 _ ho h6=> ?_;refine Sq.take hL h6 (λhi H7 nx7 h7=> ?_) (λhi H7 nx7 h7=> ?_)
 . rw[if_pos hi]at ho;simp only[ab];exact Hq.fin (G:=[]) h7 bM cS eT rfl rfl rfl ei.nil.fz (by omega) λH8 nx8 h8=>End.ret ho rfl h8
 rw[if_neg (by rw[hi];simp)]at ho;simp only[ab];refine Sq.call (he n (Nat.le_refl n)) rfl h7 ho λa k' H8 nx8 _ ho h8=> ?_;refine Hq.alloc br h8 λx1 H9 nx9 h9=> ?_;refine Hq.set [_] h9 bM rfl a.len (ei.of a).one λH10 h10=> ?_
 exact MZ hL hn he rfl ho h10
end
section
variable {nx0 nx nx' bp k:Nat}{H0 H H':T OB}{F A B G G':List Bx}{s:Bx}{R:Go.Ev.Out->T OB->Nat->Prop}{b:Nat}{l:List Value}{e t:TypeId}{L:List Tok}
def mO (d:Option aJ):Value:= .tuple ⟨[(d.getD Be).v,.bool d.isSome]⟩
theorem ei.OE {n:Nat}{cs:List Value}{a:au}{ds:List aJ}{sd:Value}(h:ei n cs a G)(hd:Gw true 17 54 (ds.map aJ.v) sd G'):ei (n+1) [i64 10,i64 0,ar [],gF b 1 1,aq,sd] (.mk 10 0 [] [a] [] ds) ((b,cs,44)::G++G'):=by
 have h1:=cg.di (t:=42) (b:=b) eg bM cS rfl eT h.fA (.inr rfl) (by simp) (gQ.one h.fz) (λu hu=>by rw[List.mem_singleton]at hu;subst hu;exact a.len);rw[fU cs]at h1;exact ei.row h1 jt (hd.OC.mono (by omega)) rfl rfl (dT hd)
theorem Ix (hL:L.length<=100000){n:Nat}{cs z:List Value}{a:au}{ds:List aJ}{sd:Value}{x0 x1 x2:Nat}{o:iB au}(hv:ei n cs a G)(hn:n<=90010)(hd:Gw true 17 54 (ds.map aJ.v) sd G')(hz:z.length=6)(ho:ba L [101,110,100] k (λk=>yes (.mk 10 0 [] [a] [] ds) k)=some o)
 (h:Hp nx0 H0 (bP bp L k::(x2,cs,44)::(x1,[i64 10,i64 0,ar [],aq,aq,sd],44)::(x0,z,44)::(G++(G'++F))) H nx):ay P pl X0 (aV P pl (wD (ptr bp) (ptr x0) (ptr x1) (ptr x2) H nx)) nx0 H0 (End nx0 H0 bp L F au.v o):=by
 rw[C9];refine Sq.iP hL h ho λH1 aI _ ho h1=> ?_;simp only[ab,fp (h1.at_ 1 rfl) hv.len];refine Hq.eV cs hv.len h1 λx H2 nx2 h2=> ?_;refine Hq.put [_,_,_] h2 zD rfl rfl (by simp) rfl λH3 h3=> ?_;simp only[ab,fp (h3.at_ 3 rfl) rfl];have hl:=ei.OE (b:=x) hv hd;have h4:Hp nx0 H0 (bP bp L (k+1)::(x0,z,44)::(((x,cs,44)::G++G')++F)) H3 nx2:=by
  rw[List.cons_append,List.cons_append,List.append_assoc];exact(Hp.mv [_,_,_] h3).sub (by simp)
 exact Hq.fin h4 bM cS eT hz hl.len hl.one hl.fz (by omega) λH5 nx5 h5=>End.ret ho rfl h5
theorem Iy (hL:L.length<=100000){ds:List aJ}{sd:Value}(hd:Gw true 17 54 (ds.map aJ.v) sd G'):∀(m:Nat),(∀j,j<m->aR 47 L au.v (ps L j).exp)->∀(l:List au) (k:Nat) (sl:Value) (G:List Bx) (o:iB au) (z:List Value) (x0 x1 x2 nx:Nat) (H:Go.Ev.T OB),l.length+m<=90010->Gw true 6 44 (l.map au.v) sl G->z.length=6->
 bd ((ps L m).dO [59] (.mk 13 0 [] l [] []) k) (λa k=>ba L [101,110,100] k λk=>yes (.mk 10 0 [] [a] [] ds) k)=some o->Hp nx0 H0 (bP bp L k::(x2,[i64 13,i64 0,ar [],sl,aq,aq],44)::(x1,[i64 10,i64 0,ar [],aq,aq,sd],44)::(x0,z,44)::(G++(G'++F))) H nx->
 ay P pl X0 (.jump (sO (ptr bp) (ptr x0) (ptr x1) (ptr x2) H nx)) nx0 H0 (End nx0 H0 bp L F au.v o)
 | 0,_,l,k,sl,G,o,z,x0,x1,x2,nx,H,hm,hG,hz,ho,h=>by cases ho
 | m+1,he,l,k,sl,G,o,z,x0,x1,x2,nx,H,hm,hG,hz,ho,h=>by
   have ho:bd (kq L (ps L m) [59] (.mk 13 0 [] l [] []) k) (λa k=>ba L [101,110,100] k λk=>yes (.mk 10 0 [] [a] [] ds) k)=some o:=ho;unfold kq at ho;refine Wq.jmp (JZ ..) (λ_=>rfl) ?_;refine Sq.take hL h (λhi H1 aI h1=> ?_) (λhi H1 aI h1=> ?_)
   . rw[if_pos hi,fW]at ho;simp only[ab,ak (off:=3) (u:=sl) (h1.at_ 1 rfl) iv rfl];refine Sq.call (he m (Nat.lt_succ_self m)) rfl h1 ho λc k' H2 nx2 _ ho2 h2=> ?_;simp only[ab,ak (off:=3) (u:=sl) (h2.at_ 1 rfl) iv rfl,aM];refine Hq.eV c.cs c.len h2 λx H3 nx3 h3=> ?_;simp only[ab,ak (off:=3) (u:=sl) (h3.at_ 2 rfl) iv rfl,aM];refine Hq.D3 [_,_,_] (x:=c) (by omega) hG h3 λsl' G1 H4 nx4 hG1 h4=> ?_;refine Hq.put [_] h4 zD (by rcases hG1.2 with⟨_,rfl,_⟩ | ⟨b,c,rfl,_⟩<;>rfl) (dT hG1) (by simp) rfl λH5 h5=> ?_;exact Iy hL hd m (λj hj=>he j (by omega)) (l++[c]) k' sl' G1 o z x0 x1 x2 nx4 H5 (by rw[List.length_append];simp;omega) hG1 hz ho2 h5
   . rw[if_neg (by rw[hi];simp),dM]at ho;simp only[ab];have:=Ix hL (ei.gw (k:=13) (i:=0) (w:=[]) hG) (by omega) hd hz ho h1;rw[C9]at this;exact this
theorem Hq.OF {a:aJ}{kt:Go.Ev.T OB->Nat->Q}(h:Hp nx0 H0 F H nx)(hk:∀H' nx',Hp nx0 H0 F H' nx'->ay P pl X0 (kt H' nx') nx0 H0 R):ay P pl X0 (bf (bL P H nx 54) λp H nx=>cW P H nx 54 (some p) a.v kt) nx0 H0 R:=Hq.var de e6 rfl a.len (a.fA a.v (by simp)).2.1 h hk
theorem Qd (a:aJ):aj P H 54 (some (ae a.v))=some a.v:=by
 rw[aJ.aW];exact Cr ..
theorem Iz (hL:L.length<=100000){n:Nat}(hn:n<=90000)(he:∀j,j<=n->aR 47 L au.v (ps L j).exp):∀(m:Nat),(∀j,j<m->aR 61 L mO (ps L j).bind)->∀(ds:List aJ) (k:Nat) (sd:Value) (G':List Bx) (o:iB au) (z:List Value) (x0 x1 nx:Nat) (H:Go.Ev.T OB),ds.length+m<=90010->Gw true 17 54 (ds.map aJ.v) sd G'->z.length=6->
 bd ((ps L m).sU ds k) (λds k=>bd ((ps L n).exp k) λa k=>
  if bC L k [59]=true then bd (kq L (ps L n) [59] (.mk 13 0 [] [a] [] []) k) λa k=>ba L [101,110,100] k λk=>yes (.mk 10 0 [] [a] [] ds) k
  else ba L [101,110,100] k λk=>yes (.mk 10 0 [] [a] [] ds) k)=some o->Hp nx0 H0 (bP bp L k::(x1,[i64 10,i64 0,ar [],aq,aq,sd],44)::(x0,z,44)::(G'++F)) H nx->
 ay P pl X0 (.jump (zP (ptr bp) (ptr x0) (ptr x1) H nx)) nx0 H0 (End nx0 H0 bp L F au.v o)
 | 0,_,ds,k,sd,G',o,z,x0,x1,nx,H,hm,hd,hz,ho,h=>by cases ho
 | m+1,hb,ds,k,sd,G',o,z,x0,x1,nx,H,hm,hd,hz,ho,h=>by
   have ho:bd (oQ L (ps L m) ds k) (λds k=>bd ((ps L n).exp k) λa k=>
    if bC L k [59]=true then bd (kq L (ps L n) [59] (.mk 13 0 [] [a] [] []) k) λa k=>ba L [101,110,100] k λk=>yes (.mk 10 0 [] [a] [] ds) k
    else ba L [101,110,100] k λk=>yes (.mk 10 0 [] [a] [] ds) k)=some o:=ho
   unfold oQ at ho;refine Wq.jmp (Mh ..) (λ_=>rfl) ?_;refine Sq.take hL h (λhi H1 aI h1=> ?_) (λhi H1 aI h1=> ?_)
   . rw[if_pos hi,dM]at ho;simp only[ab];refine Sq.call (he n (Nat.le_refl n)) rfl h1 ho λa k' H2 nx2 _ ho h2=> ?_;refine Hq.alloc br h2 λx2 H3 nx3 h3=> ?_;refine Hq.set [_] h3 bM rfl a.len (ei.of a).one λH4 h4=> ?_
     refine Sq.is h4 λH5 nx5 h5=> ?_;cases hc:bC L k' [59]with
     | true=>
       rw[if_pos hc]at ho;simp only[ab,fp (h5.at_ 1 rfl) a.len];refine Hq.eV a.cs a.len h5 λx H6 nx6 h6=> ?_;simp only[ab,gn];refine Hq.set [_,_] h6 bM a.len rfl rfl λH7 h7=> ?_
       have h8:Hp nx0 H0 (bP bp L k'::(x2,_,44)::(x1,_,44)::(x0,z,44)::([(x,a.cs,44)]++(G'++F))) H7 nx6:=h7.perm (List.Perm.cons _ ((List.Perm.swap _ _ _).trans (List.Perm.cons _ ((List.Perm.swap _ _ _).trans (List.Perm.cons _ (List.Perm.swap _ _ _))))));exact Iy hL hd (n+1) (λj hj=>he j (by omega)) [a] k' (gF x 1 1) [(x,a.cs,44)] o z x0 x1 x2 nx6 H7 (show 1+(n+1)<=90010 by omega) (Gw.mN a.fA) hz ho h8
     | false=>
       rw[if_neg (by rw[hc];simp)]at ho;simp only[ab];exact Wq.jump (λ_=>rfl) (Ix (n:=0) (G:=[]) hL (ei.of a) (by omega) hd hz ho h5)
   . rw[if_neg (by rw[hi];simp),fW]at ho;simp only[ab];refine Sq.call (hb m (Nat.lt_succ_self m)) rfl h1 ho λd k' H2 nx2 _ ho h2=> ?_;unfold mO;simp only[ab,ES,ET];refine Hq.OF h2 λH3 nx3 h3=> ?_;cases d with
     | none=>
       simp only[ab,Option.isSome_none,Bool.not_false];exact Sq.fail (α:=au) (β:=au) (o:=o) (by cases ho;rfl) h3
     | some d=>
       simp only[ab,Option.isSome_some,Bool.not_true,Option.getD_some];refine Wq.jmp (JY ..) (λ_=>rfl) ?_;simp only[ab,ak (off:=5) (u:=sd) (h3.at_ 1 rfl) kl rfl,Qd];refine Hq.Ad d.cs d.len h3 λx H4 nx4 h4=> ?_;refine Hq.ML [_,_] (x:=d) (by omega) hd h4 λsd' G2 H5 nx5 hd' h5=> ?_;refine Hq.put [_] h5 qM (by rcases hd'.2 with⟨_,rfl,_⟩ | ⟨b,c,rfl,_⟩<;>rfl) (dT hd') (by simp) rfl λH6 h6=> ?_;refine Sq.skip hL h6 λbb H7 nx7 h7=> ?_;simp only[ab];exact Iz hL hn he m (λj hj=>hb j (by omega)) (ds++[d]) _ sd' G2 o z x0 x1 nx7 H7 (by rw[List.length_append];simp;omega) hd' hz ho h7
theorem M1 (hL:L.length<=100000){n:Nat}(hn:n<=90000)(he:∀j,j<=n->aR 47 L au.v (ps L j).exp)(hb:∀j,j<=n->aR 61 L mO (ps L j).bind):aR 96 L au.v (ps L (n+1)).lt:=by
 intro nx0 nx H0 H bp F k o ho h;have ho:Kh L (ps L n) k=some o:=ho;unfold Kh at ho;rw[P8];refine Hq.alloc br h λx0 H1 aI h1=> ?_;refine Hq.alloc br h1 λx1 H2 nx2 h2=> ?_;refine Hq.set [_] h2 bM rfl rfl rfl λH3 h3=> ?_
 exact Iz hL hn he (n+1) (λj hj=>hb j (by omega)) [] k aq [] o _ x0 x1 nx2 H3 (by simp;omega) (Gw.nil _ _ _) rfl ho h3
end
section
variable {nx0 nx nx' bp k:Nat}{H0 H H':T OB}{F A B G G':List Bx}{s:Bx}{R:Go.Ev.Out->T OB->Nat->Prop}{b:Nat}{l:List Value}{e t:TypeId}{L:List Tok}
theorem Fn.jV {w:List UInt8}{q:List aD}{e:au}{sp:Value}(hG:Gw true 4 41 (q.map aD.v) sp G):fE 1 [(1,39),(5,42),(6,39),(7,23)] (.agg ⟨ar w::sp::e.cs⟩) (Fn.v (.mk w q e)) G:=by
 rw[Fn.aW,au.gh];have h1:=hG.KB;have:=ec.cons (p:=(1,39)) (cs:=[ar w,sp,i64 e.k,i64 e.n,ar e.s,fy e.l,cu e.p,cU e.d]) rfl h1 (ec.cons (p:=(5,42)) rfl ((cg.row eg).mono (Nat.zero_le 1)) (ec.cons (p:=(6,39)) rfl ((cg.row dr).mono (Nat.zero_le 1)) (ec.cons (p:=(7,23)) rfl ((cg.row fu).mono (Nat.zero_le 1)) ec.nil)));simp only[List.append_nil]at this;exact fE.of this
theorem IA (hL:L.length<=100000){E:Nat->PR au}(he:aR 47 L au.v E){w:List UInt8}:∀(m:Nat),(∀j,j<m->aR 92 L aD.v (ps L j).dA)->∀(q:List aD) (k:Nat) (sp:Value) (G:List Bx) (o:iB Fn) (z:List Value) (x0 x1 nx:Nat) (H:Go.Ev.T OB),q.length+m<=90010->Gw true 4 41 (q.map aD.v) sp G->z.length=8->
 bd ((ps L m).FK q k) (λl k=>ba L [61] k λk=>bd (E k) λe k=>yes (.mk w l e) k)=some o->Hp nx0 H0 (bP bp L k::(x1,[ar w,sp,i64 0,i64 0,ar [],aq,aq,aq],64)::(x0,z,64)::(G++F)) H nx->
 ay P pl X0 (.jump (zL (ptr bp) (ptr x0) (ptr x1) H nx)) nx0 H0 (End nx0 H0 bp L F Fn.v o)
 | 0,_,q,k,sp,G,o,z,x0,x1,nx,H,hm,hG,hz,ho,h=>by cases ho
 | m+1,hp,q,k,sp,G,o,z,x0,x1,nx,H,hm,hG,hz,ho,h=>by
   have ho:bd (oT L (ps L m) q k) (λl k=>ba L [61] k λk=>bd (E k) λe k=>yes (.mk w l e) k)=some o:=ho;unfold oT at ho;refine Wq.jmp (Md ..) (λ_=>rfl) ?_;refine Sq.MB h λH1 aI h1=> ?_;cases hb:lf L k with
   | true=>
     rw[if_pos hb,fW]at ho;simp only[ab,ak (off:=1) (u:=sp) (h1.at_ 1 rfl) iu rfl];refine Sq.call (hp m (Nat.lt_succ_self m)) rfl h1 ho λc k' H2 nx2 _ ho2 h2=> ?_;simp only[ab,ak (off:=1) (u:=sp) (h2.at_ 1 rfl) iu rfl,aM];refine Hq.iF c.cs c.len h2 λx H3 nx3 h3=> ?_;simp only[ab,ak (off:=1) (u:=sp) (h3.at_ 2 rfl) iu rfl,aM];refine Hq.D4 [_,_] (x:=c) (by omega) hG h3 λsl' G1 H4 nx4 hG1 h4=> ?_;refine Hq.put [_] h4 zC (by rcases hG1.2 with⟨_,rfl,_⟩ | ⟨b,c,rfl,_⟩<;>rfl) (dT hG1) (by simp) rfl λH5 h5=> ?_;exact IA hL he m (λj hj=>hp j (by omega)) (q++[c]) k' sl' G1 o z x0 x1 nx4 H5 (by rw[List.length_append];simp;omega) hG1 hz ho2 h5
   | false=>
     rw[if_neg (by rw[hb];simp),dM]at ho;simp only[ab];refine Sq.iP hL h1 ho λH2 nx2 _ ho h2=> ?_;refine Sq.call he rfl h2 ho λc k' H3 nx3 _ ho h3=> ?_;refine Hq.store [_] h3 bM (by simp) c.len (ei.of c).one λH4 h4=> ?_;have e1:gg [ar w,sp,i64 0,i64 0,ar [],aq,aq,aq] (au.v c).cells.toList 2=ar w::sp::c.cs:=by
      rw[au.aW,au.gh];rfl
     rw[e1]at h4;have hlen:(ar w::sp::c.cs).length=8:=by
      have:=c.len;simp only[List.length_cons];show c.cs.length+1+1=8;have h6:c.cs.length=6:=c.len;omega
     have hone:(ar w::sp::c.cs).all ah=true:=by
      simp only[List.all_cons,jh,dT hG,Bool.true_and];exact(ei.of c).one
     simp only[ab,MP (h4.at_ 1 rfl) hlen];have h5:Hp nx0 H0 (bP bp L k'::(x0,z,64)::(G++F)) H4 nx3:=(Hp.mv [_] h4).sub (by simp);exact Hq.fin h5 mw wk Ie hz hlen hone (Fn.jV hG) (by omega) λH9 nx9 h9=>End.ret ho rfl h9
theorem M3 (hL:L.length<=100000){n:Nat}(hn:n<=90000)(hp:∀j,j<=n->aR 92 L aD.v (ps L j).dA)(he:aR 47 L au.v (ps L n).exp):aR 81 L Fn.v (ps L (n+1)).fn:=by
 intro nx0 nx H0 H bp F k o ho h;have ho:Ki L (ps L n) k=some o:=ho;unfold Ki at ho;rw[PW];refine Hq.alloc ir h λx0 H1 aI h1=> ?_;refine Sq.word (by decide) hL h1 ho λH2 nx2 _ ho h2=> ?_;simp only[ab];refine Sq.call (hp n (Nat.le_refl n)) rfl h2 ho λa k' H3 nx3 _ ho h3=> ?_;refine Hq.iF a.cs a.len h3 λx H4 nx4 h4=> ?_;simp only[ab,Gj];refine Hq.alloc ir h4 λx1 H5 nx5 h5=> ?_;refine Hq.set [_] h5 mw rfl rfl rfl λH6 h6=> ?_
 have h7:Hp nx0 H0 (bP bp L k'::(x1,_,64)::(x0,_,64)::([(x,a.cs,41)]++F)) H6 nx5:=h6.perm (List.Perm.cons _ (List.Perm.cons _ (List.Perm.swap _ _ _)));exact IA hL he (n+1) (λj hj=>hp j (by omega)) [a] k' (gF x 1 1) [(x,a.cs,41)] o _ x0 x1 nx5 H6 (show 1+(n+1)<=90010 by omega) (Gw.mN a.fA) rfl ho h7
end
section
variable {nx0 nx nx' bp k:Nat}{H0 H H':T OB}{F A B G G':List Bx}{s:Bx}{R:Go.Ev.Out->T OB->Nat->Prop}{b:Nat}{l:List Value}{e t:TypeId}{L:List Tok}
theorem vj {n:Nat}:cg n 45 aq (Ba []) []:=(cg.nil ou mw).mono (Nat.zero_le n)
theorem vk {n:Nat}:cg n 46 aq (la []) []:=(cg.nil ov jK).mono (Nat.zero_le n)
theorem vl {n:Nat}:cg n 47 aq (mz []) []:=(cg.nil ow k_).mono (Nat.zero_le n)
theorem vm {n:Nat}:cg n 50 aq (jM []) []:=(cg.nil eN dz).mono (Nat.zero_le n)
theorem aJ.jV {kk:Int}{p0 p1 p2 c0 c1 c2 w1 w2:Value}{s0 s1 s2 s3 s4 s5 s6 s7:Value}{d:aJ}{r0 r1 r2 r3 r4 r5 r6 r7:Value}{n:Nat}{G4:List Bx}
 (h0:cg n 39 s0 r0 []) (h1:cg n 42 s1 r1 []) (h2:cg n 39 s2 r2 []) (h3:cg n 23 s3 r3 []) (h4:cg n 45 s4 r4 G4) (h5:cg n 46 s5 r5 []) (h6:cg n 47 s6 r6 []) (h7:cg n 50 s7 r7 [])
 (hd:d.v= .agg ⟨[i64 kk,p0,p1,p2,r0,c0,c1,c2,r1,r2,r3,r4,r5,w1,r6,w2,r7]⟩):fE n [(4,39),(8,42),(9,39),(10,23),(11,45),(12,46),(14,47),(16,50)] (.agg ⟨[i64 kk,p0,p1,p2,s0,c0,c1,c2,s1,s2,s3,s4,s5,w1,s6,w2,s7]⟩) d.v G4:=by
 rw[hd];have:=ec.cons (p:=(4,39)) (cs:=[i64 kk,p0,p1,p2,s0,c0,c1,c2,s1,s2,s3,s4,s5,w1,s6,w2,s7]) rfl h0 (ec.cons (p:=(8,42)) rfl h1 (ec.cons (p:=(9,39)) rfl h2 (ec.cons (p:=(10,23)) rfl h3 (ec.cons (p:=(11,45)) rfl h4 (ec.cons (p:=(12,46)) rfl h5 (ec.cons (p:=(14,47)) rfl h6 (ec.cons (p:=(16,50)) rfl h7 ec.nil)))))));simp only[List.append_nil,List.nil_append]at this;exact fE.of this
theorem Ee (k:Int)(a:aD)(c:au):aO P 54 (some [(0,i64 k),(1,a.v),(2,c.v)])=some (.agg ⟨[i64 k,i64 a.k,i64 a.n,ar a.s,cu a.l,i64 c.k,i64 c.n,ar c.s,fy c.l,cu c.p,cU c.d,aq,aq,ar [],aq,ar [],aq]⟩):=by
 rw[aD.aW,au.aW];exact Gl ..
theorem Qe (a:aD):aj P H 41 (some (ae a.v))=some a.v:=by
 rw[aD.aW];exact Cp ..
theorem Hq.OG {a:aD}{kt:Go.Ev.T OB->Nat->Q}(h:Hp nx0 H0 F H nx)(hk:∀H' nx',Hp nx0 H0 F H' nx'->ay P pl X0 (kt H' nx') nx0 H0 R):ay P pl X0 (bf (bL P H nx 41) λp H nx=>cW P H nx 41 (some p) a.v kt) nx0 H0 R:=Hq.var cv cL rfl a.len (g8.of a).one h hk
theorem aJ.M4 {a:aD}{c:au}:fE 0 [(4,39),(8,42),(9,39),(10,23),(11,45),(12,46),(14,47),(16,50)] (.agg ⟨[i64 1,i64 a.k,i64 a.n,ar a.s,cu a.l,i64 c.k,i64 c.n,ar c.s,fy c.l,cu c.p,cU c.d,aq,aq,ar [],aq,ar [],aq]⟩) (aJ.v (.mk 1 a c [] gS lg)) []:=
 aJ.jV (cg.row dr) (cg.row eg) (cg.row dr) (cg.row fu) vj vk vl vm (aJ.aW _)
theorem aJ.M5 {l:List Fn}{sl:Value}(hG:Gw true 8 64 (l.map Fn.v) sl G):fE 1 [(4,39),(8,42),(9,39),(10,23),(11,45),(12,46),(14,47),(16,50)] (.agg ⟨[i64 2,i64 0,i64 0,ar [],aq,i64 0,i64 0,ar [],aq,aq,aq,sl,aq,ar [],aq,ar [],aq]⟩) (aJ.v (.mk 2 l6 mK l gS lg)) G:=
 aJ.jV jt vi jt ri hG.OA vk vl vm (aJ.aW _)
theorem aJ.KC:fE 0 [(4,39),(8,42),(9,39),(10,23),(11,45),(12,46),(14,47),(16,50)] (.agg ⟨[i64 0,i64 0,i64 0,ar [],aq,i64 0,i64 0,ar [],aq,aq,aq,aq,aq,ar [],aq,ar [],aq]⟩) Be.v []:=
 aJ.jV jt vi jt ri vj vk vl vm (aJ.aW _)
theorem IB (hL:L.length<=100000):∀(m:Nat),(∀j,j<m->aR 81 L Fn.v (ps L j).fn)->∀(l:List Fn) (k:Nat) (sl:Value) (G:List Bx) (o:iB (Option aJ)) (z:List Value) (x0 x1 nx:Nat) (H:Go.Ev.T OB),l.length+m<=90010->Gw true 8 64 (l.map Fn.v) sl G->z.length=17->
 bd ((ps L m).sV l k) (λl k=>yes (some (.mk 2 l6 mK l gS lg)) k)=some o->Hp nx0 H0 (bP bp L k::(x1,[i64 2,i64 0,i64 0,ar [],aq,i64 0,i64 0,ar [],aq,aq,aq,sl,aq,ar [],aq,ar [],aq],54)::(x0,z,54)::(G++F)) H nx->
 ay P pl X0 (.jump (sD (ptr bp) (ptr x0) (ptr x1) H nx)) nx0 H0 (End nx0 H0 bp L F mO o)
 | 0,_,l,k,sl,G,o,z,x0,x1,nx,H,hm,hG,hz,ho,h=>by cases ho
 | m+1,hp,l,k,sl,G,o,z,x0,x1,nx,H,hm,hG,hz,ho,h=>by
   have ho:bd (oS L (ps L m) l k) (λl k=>yes (some (.mk 2 l6 mK l gS lg)) k)=some o:=ho;unfold oS at ho;refine Wq.jmp (JJ ..) (λ_=>rfl) ?_;refine Sq.take hL h (λhi H1 aI h1=> ?_) (λhi H1 aI h1=> ?_)
   . rw[if_pos hi,fW]at ho;simp only[ab,ak (off:=11) (u:=sl) (h1.at_ 1 rfl) wh rfl];refine Sq.call (hp m (Nat.lt_succ_self m)) rfl h1 ho λc k' H2 nx2 _ ho2 h2=> ?_;simp only[ab,ak (off:=11) (u:=sl) (h2.at_ 1 rfl) wh rfl,aM];refine Hq.Ac c.cs c.len h2 λx H3 nx3 h3=> ?_;simp only[ab,ak (off:=11) (u:=sl) (h3.at_ 2 rfl) wh rfl,aM];refine Hq.MK [_,_] (x:=c) (by omega) hG h3 λsl' G1 H4 nx4 hG1 h4=> ?_;refine Hq.put [_] h4 LQ (by rcases hG1.2 with⟨_,rfl,_⟩ | ⟨b,c,rfl,_⟩<;>rfl) (dT hG1) (by simp) rfl λH5 h5=> ?_;exact IB hL m (λj hj=>hp j (by omega)) (l++[c]) k' sl' G1 o z x0 x1 nx4 H5 (by rw[List.length_append];simp;omega) hG1 hz ho2 h5
   . rw[if_neg (by rw[hi];simp),dM]at ho;simp only[ab,Ip (h1.at_ 1 rfl) rfl];have h5:Hp nx0 H0 (bP bp L k::(x0,z,54)::(G++F)) H1 aI:=(Hp.mv [_] h1).sub (by simp);exact Hq.fin h5 e6 iw mA hz rfl (by simp[dT hG]) (aJ.M5 hG) (by omega) λH9 nx9 h9=>End.ret ho rfl h9
theorem M6 (hL:L.length<=100000){n:Nat}(hn:n<=90000)(hp:aR 80 L aD.v (ps L n).pat)(he:aR 47 L au.v (ps L n).exp)(hf:∀j,j<=n->aR 81 L Fn.v (ps L j).fn):aR 61 L mO (ps L (n+1)).bind:=by
 intro nx0 nx H0 H bp F k o ho h;have ho:lj L (ps L n) k=some o:=ho;unfold lj at ho;rw[PJ];refine Hq.alloc de h λx0 H1 aI h1=> ?_;refine Sq.take hL h1 (λhi H2 nx2 h2=> ?_) (λhi H2 nx2 h2=> ?_)
 . rw[if_pos hi]at ho;simp only[ab];refine Sq.call hp rfl h2 ho λa k' H3 nx3 _ ho h3=> ?_;refine Hq.OG h3 λH4 nx4 h4=> ?_;refine Sq.iP hL h4 ho λH5 nx5 _ ho h5=> ?_;simp only[ab,Qe];refine Sq.call he rfl h5 ho λc k2 H6 nx6 _ ho h6=> ?_;simp only[ab,Ee];exact Hq.fin (G:=[]) h6 e6 iw mA rfl rfl rfl aJ.M4 (by omega) λH9 nx9 h9=>End.ret ho rfl h9
 rw[if_neg (by rw[hi];simp)]at ho;simp only[ab];refine Sq.take hL h2 (λhi H3 nx3 h3=> ?_) (λhi H3 nx3 h3=> ?_)
 . rw[if_pos hi]at ho;simp only[ab];refine Sq.call (hf n (Nat.le_refl n)) rfl h3 ho λa k' H4 nx4 _ ho h4=> ?_;refine Hq.Ac a.cs a.len h4 λx H5 nx5 h5=> ?_;simp only[ab,Gk];refine Hq.alloc de h5 λx1 H6 nx6 h6=> ?_;refine Hq.set [_] h6 e6 rfl rfl rfl λH7 h7=> ?_
   have h8:Hp nx0 H0 (bP bp L k'::(x1,_,54)::(x0,_,54)::([(x,a.cs,64)]++F)) H7 nx6:=h7.perm (List.Perm.cons _ (List.Perm.cons _ (List.Perm.swap _ _ _)));exact IB hL (n+1) (λj hj=>hf j (by omega)) [a] k' (gF x 1 1) [(x,a.cs,64)] o _ x0 x1 nx6 H7 (show 1+(n+1)<=90010 by omega) (Gw.mN a.fA) rfl ho h8
 . rw[if_neg (by rw[hi];simp)]at ho;simp only[ab];refine Wq.jmp (JK ..) (λ_=>rfl) ?_;exact Hq.fin (G:=[]) h3 e6 iw mA rfl rfl rfl aJ.KC (by omega) λH9 nx9 h9=>End.ret ho rfl h9
end
section
variable {nx0 nx nx' bp k:Nat}{H0 H H':T OB}{F A B G G':List Bx}{s:Bx}{R:Go.Ev.Out->T OB->Nat->Prop}{b:Nat}{l:List Value}{e t:TypeId}{L:List Tok}
theorem Hq.M7 {z:List Value}{a:aJ}{x0:Nat}{kt:Value->Go.Ev.T OB->Nat->Q}(h:Hp nx0 H0 (s::(x0,z,54)::F) H nx)(hz:z.length=17)(hk:∀H' nx',Hp nx0 H0 (s::F) H' nx'->ay P pl X0 (kt a.v H' nx') nx0 H0 R):
 ay P pl X0 (bf (bY P H nx 54 (some (ptr x0)) (some a.v)) λ_ H nx=>af (aj P H 54 (some (ptr x0))) (λx=>bw P 54 x H nx kt) .bad) nx0 H0 R:=
 Hq.fin (G:=[]) h e6 iw mA hz a.len (a.fA a.v (by simp)).2.1 a.fz (by omega) hk
theorem aJ.M8 {c:dk}:fE 0 [(4,39),(8,42),(9,39),(10,23),(11,45),(12,46),(14,47),(16,50)] (.agg ⟨[i64 4,i64 0,i64 0,ar [],aq,i64 0,i64 0,ar [],aq,aq,aq,aq,aq,ar [],aq,ar c.s,jM c.arg]⟩) (aJ.v (.mk 4 l6 mK [] gS c)) []:=
 aJ.jV jt vi jt ri vj vk vl (cg.row eN) (aJ.aW _)
theorem Ef (k:Int)(c:dk):aO P 54 (some [(0,i64 k),(5,c.v)])=some (.agg ⟨[i64 k,i64 0,i64 0,ar [],aq,i64 0,i64 0,ar [],aq,aq,aq,aq,aq,ar [],aq,ar c.s,jM c.arg]⟩):=by
 rw[dk.aW];exact Gp ..
abbrev w5 (x:Data):Value:=aJ.v (.mk 3 l6 mK [] x lg)
theorem OH (hL:L.length<=100000){p:PS}(hd:aR 59 L w5 p.data)(hc:aR 60 L dk.v p.lC)(hb:aR 61 L mO p.bind):aR 46 L mO (wO L p):=by
 intro nx0 nx H0 H bp F k o ho h;unfold wO at ho;rw[PB];refine Hq.alloc de h λx0 H1 aI h1=> ?_;refine Sq.take hL h1 (λhi H2 nx2 h2=> ?_) (λhi H2 nx2 h2=> ?_)
 . rw[if_pos hi]at ho;simp only[ab];refine Sq.call hd rfl h2 ho λa k' H3 nx3 _ ho h3=> ?_;exact Hq.M7 (a:= .mk 3 l6 mK [] a lg) h3 rfl λH9 nx9 h9=>End.ret ho rfl h9
 rw[if_neg (by rw[hi];simp)]at ho;simp only[ab];refine Sq.take hL h2 (λhi H3 nx3 h3=> ?_) (λhi H3 nx3 h3=> ?_)
 . rw[if_pos hi]at ho;simp only[ab];refine Sq.call hc rfl h3 ho λa k' H4 nx4 _ ho h4=> ?_;simp only[ab,Ef];exact Hq.fin (G:=[]) h4 e6 iw mA rfl rfl rfl aJ.M8 (by omega) λH9 nx9 h9=>End.ret ho rfl h9
 . rw[if_neg (by rw[hi];simp),<- l9 (p.bind k)]at ho;simp only[ab];refine Sq.call hb rfl h3 ho λa k' H4 nx4 _ ho h4=> ?_;unfold mO;simp only[ab,ES,ET];exact Hq.M7 h4 rfl λH9 nx9 h9=>End.ret ho rfl h9
end
section
variable {nx0 nx nx' bp k:Nat}{H0 H H':T OB}{F A B G G':List Bx}{s:Bx}{R:Go.Ev.Out->T OB->Nat->Prop}{b:Nat}{l:List Value}{e t:TypeId}{L:List Tok}
theorem rj (f:Value->Go.Ev.T OB->Nat->(Value->Go.Ev.T OB->Nat->Q)->Q)(v:Value):∀(vs:List Value) (H:Go.Ev.T OB) (nx:Nat) (kt:List Value->Go.Ev.T OB->Nat->Q),iZ f (vs++[v]) H nx kt=iZ f vs H nx λus H nx=>f v H nx λu H nx=>kt (us++[u]) H nx
 | [],H,nx,kt=>rfl
 | w::vs,H,nx,kt=>by
   show(f w H nx λw H nx=>iZ f (vs++[v]) H nx λl H nx=>kt (w::l) H nx)=f w H nx λw H nx=>iZ f vs H nx λl H nx=>f v H nx λu H nx=>kt ((w::l)++[u]) H nx;congr 1;funext w H nx;exact rj f v vs H nx _
theorem gQ.snoc {n:Nat}{offs:List (Nat×TypeId)}{vs us:List Value}{v u:Value}(h:gQ n offs vs us [])(h1:fE n offs v u []):gQ n offs (vs++[v]) (us++[u]) []:=λd hd nx0 nx H0 H s B k R hh hk=>by
 rw[rj];exact h d hd nx0 nx H0 H s B _ R hh λH' nx' h'=>h1 d hd nx0 nx' H0 H' s B _ R h' hk
theorem Eg (k:Int)(c:au):aO P 54 (some [(0,i64 k),(2,c.v)])=some (.agg ⟨[i64 k,i64 0,i64 0,ar [],aq,i64 c.k,i64 c.n,ar c.s,fy c.l,cu c.p,cU c.d,aq,aq,ar [],aq,ar [],aq]⟩):=by
 rw[au.aW];exact Gm ..
theorem aJ.M9 {c:au}:fE 0 [(4,39),(8,42),(9,39),(10,23),(11,45),(12,46),(14,47),(16,50)] (.agg ⟨[i64 5,i64 0,i64 0,ar [],aq,i64 c.k,i64 c.n,ar c.s,fy c.l,cu c.p,cU c.d,aq,aq,ar [],aq,ar [],aq]⟩) (aJ.v (mL c)) []:=
 aJ.jV jt (cg.row eg) (cg.row dr) (cg.row fu) vj vk vl vm (aJ.aW _)
abbrev oY:List (Nat×TypeId):=[(4,39),(8,42),(9,39),(10,23),(11,45),(12,46),(14,47),(16,50)]
theorem Eh {vs:List Value}{ds:List aJ}{sl:Value}{kt:Value->Go.Ev.T OB->Nat->Q}(hG:Gw true 17 54 vs sl G)(hL:gQ 0 oY vs (ds.map aJ.v) [])(hl:vs.length=ds.length)(h:Hp nx0 H0 (s::(G++F)) H nx)(hk:∀H' nx',Hp nx0 H0 (s::F) H' nx'->ay P pl X0 (kt (cU ds) H' nx') nx0 H0 R):ay P pl X0 (bw P 23 sl H nx kt) nx0 H0 R:=by
 have e:bw P 23 sl H nx kt=hZ P 100000 23 sl H nx kt:=by
  unfold bw;rcases hG.2 with⟨_,rfl,_⟩ | ⟨b,c,rfl,_⟩<;>rfl
 rw[e];exact(cg.gw (t:=23) fu e6 iw rfl mA hG hL (λu hu=>by obtain⟨x,_,rfl⟩:=List.mem_map.1 hu;exact x.len) (λq=>by rw[q]at hl;have:=List.length_eq_zero_iff.1 hl.symm;rw[this];rfl)) 100000 (by omega) nx0 nx H0 H s F kt R h hk
theorem M_ (hLL:L.length<=100000):∀(m:Nat),(∀j,j<m->aR 46 L mO (ps L j).dec)->(∀j,j<m->aR 47 L au.v (ps L j).exp)->∀(ds:List aJ) (vs:List Value) (k:Nat) (sl:Value) (G:List Bx) (o:iB (List aJ)) (nx:Nat) (H:Go.Ev.T OB),ds.length+m<=90010->Gw true 17 54 vs sl G->gQ 0 oY vs (ds.map aJ.v) []->vs.length=ds.length->
 (ps L m).er ds k=some o->Hp nx0 H0 (bP bp L k::(G++F)) H nx->ay P pl X0 (.jump (zE (ptr bp) sl H nx)) nx0 H0 (End nx0 H0 bp L F cU o)
 | 0,_,_,ds,vs,k,sl,G,o,nx,H,hm,hG,hL,hl,ho,h=>by cases ho
 | m+1,hd,he,ds,vs,k,sl,G,o,nx,H,hm,hG,hL,hl,ho,h=>by
   have ho:lk L (ps L m) ds k=some o:=ho;unfold lk at ho;have J14:∀(cs:List Value) (d:aJ) (k' x1 nx2:Nat) (H2:Go.Ev.T OB),cs.length=17->cs.all ah=true->fE 0 oY (.agg ⟨cs⟩) d.v []->(ps L m).er (ds++[d]) (skip L [59] k')=some o->Hp nx0 H0 (bP bp L k'::(x1,cs,54)::(G++F)) H2 nx2->ay P pl X0 (.jump (sw (ptr bp) sl (ptr x1) H2 nx2)) nx0 H0 (End nx0 H0 bp L F cU o):=by
    intro cs d k' x1 nx2 H2 hc h1 hz ho2 h2;refine Wq.jmp (JD ..) (λ_=>rfl) ?_;simp only[ab,Ip (h2.at_ 1 rfl) hc];refine Hq.Ad cs hc h2 λx H3 nx3 h3=> ?_;refine Hq.add [_] (v:= .agg ⟨cs⟩) fu e6 (Im (by omega)) (by omega) (λv hv=>by rw[List.mem_singleton]at hv;subst hv;exact⟨hc,h1,⟨_,rfl⟩⟩) hG h3 λsl' G' H4 nx4 hG' h4=> ?_;refine Sq.skip hLL (Hp.lb h4) λbb H5 nx5 h5=> ?_;simp only[ab];exact M_ hLL m (λj hj=>hd j (by omega)) (λj hj=>he j (by omega)) (ds++[d]) (vs++[.agg ⟨cs⟩]) _ sl' G' o nx5 H5 (by rw[List.length_append];simp;omega) hG' (by rw[List.map_append];exact hL.snoc hz) (by simp[hl]) ho2 h5
   refine Wq.jmp (Ma ..) (λ_=>rfl) ?_;refine Sq.now h λH1 aI h1=> ?_;simp only[ab];refine Wq.bK (λhi=> ?_) (λhi=> ?_)
   . have hne:¬(tk L k).k=0:=by simpa using hi
     rw[if_neg hne]at ho;refine Sq.call (hd m (Nat.lt_succ_self m)) rfl h1 ho λd k' H2 nx2 _ ho h2=> ?_;unfold mO;simp only[ab,ES,ET];refine Hq.alloc de h2 λx1 H3 nx3 h3=> ?_;refine Hq.set [_] h3 e6 rfl (d.getD Be).len ((d.getD Be).fA (d.getD Be).v (by simp)).2.1 λH4 h4=> ?_
     cases d with
     | some d=>
       simp only[ab,Option.isSome_some,Bool.not_true];exact J14 _ d k' x1 _ H4 d.len (d.fA d.v (by simp)).2.1 d.fz ho h4
     | none=>
       simp only[ab,Option.isSome_none,Bool.not_false];refine Sq.call (he m (Nat.lt_succ_self m)) rfl h4 ho λc k2 H5 nx5 _ ho h5=> ?_;simp only[ab,Eg];refine Hq.set [_] h5 e6 (Be.len) rfl rfl λH6 h6=> ?_
       exact J14 _ (mL c) k2 x1 _ H6 rfl rfl aJ.M9 ho h6
   . have h0:(tk L k).k=0:=by simpa using hi
     rw[if_pos h0]at ho;exact Eh hG hL hl h1 λH9 nx9 h9=>End.ret ho rfl h9
end
section
variable {nx0 nx nx' bp k:Nat}{H0 H H':T OB}{F A B G G':List Bx}{s:Bx}{R:Go.Ev.Out->T OB->Nat->Prop}{b:Nat}{l:List Value}{e t:TypeId}{L:List Tok}
theorem Ai (w:List UInt8):mJ false 1 [ar w]:=λv hv=>by
 rw[List.mem_singleton]at hv;subst hv;exact⟨rfl,rfl,rfl,rfl⟩
theorem Hq.tj (w:List UInt8){kt:Value->Go.Ev.T OB->Nat->Q}(h:Hp nx0 H0 (s::F) H nx)(hk:∀b H' nx',Hp nx0 H0 (s::(b,[ar w],9)::F) H' nx'->ay P pl X0 (kt (gF b 1 1) H' nx') nx0 H0 R):ay P pl X0 (bf (aF P H nx 46 1 (some [(0,ar w)])) kt) nx0 H0 R:=
 Hq.row ov jK FF rfl (Ox _) h hk
theorem Hq.Na (A:List Bx){l:List (List UInt8)}{w:List UInt8}{sl:Value}{kt:Value->Go.Ev.T OB->Nat->Q}(hl:l.length<=1000000)(hG:Gw false 1 9 (l.map ar) sl G)(h:Hp nx0 H0 (s::(b,[ar w],9)::(A++(G++B))) H nx)
 (hk:∀sl' G' H' nx',Gw false 1 9 ((l++[w]).map ar) sl' G'->Hp nx0 H0 (s::(A++(G'++B))) H' nx'->ay P pl X0 (kt sl' H' nx') nx0 H0 R):ay P pl X0 (bf (cw P H nx [46,46] (some [sl,gF b 1 1])) kt) nx0 H0 R:=
 Hq.add A (v:=ar w) ov jK (Ow (by rw[List.length_map];omega)) (by rw[List.length_map];omega) (Ai w) hG h λsl' G' H' nx' hG' h'=>hk sl' G' H' nx' (by rw[List.map_append];exact hG') h'
theorem Gw.OI {l:List (List UInt8)}{sl:Value}(hG:Gw false 1 9 (l.map ar) sl G):cg 1 46 sl (la l) G:=
 cg.gw ov jK ox rfl Om hG (gQ.id λv hv=>by obtain⟨x,_,rfl⟩:=List.mem_map.1 hv;exact fE.ar _) (λu hu=>by obtain⟨x,_,rfl⟩:=List.mem_map.1 hu;rfl) id
theorem Gw.Nb (w:List UInt8):Gw false 1 9 ([w].map ar) (gF b 1 1) [(b,[ar w],9)]:=Gw.one (vs:=[ar w]) (Ai w) rfl (by decide)
theorem aJ.KD {vs:List (List UInt8)}{w:List UInt8}{cl:List dk}{sv sc:Value}(hv:Gw false 1 9 (vs.map ar) sv G)(hc:Gw true 2 52 (cl.map dk.v) sc G'):
 fE 1 oY (.agg ⟨[i64 3,i64 0,i64 0,ar [],aq,i64 0,i64 0,ar [],aq,aq,aq,aq,sv,ar w,sc,ar [],aq]⟩) (w5 ⟨vs,w,cl⟩) (G++G'):=by
 show fE 1 oY _ (aJ.v _) _;rw[aJ.aW];have:=ec.cons (p:=(4,39)) (cs:=[i64 3,i64 0,i64 0,ar [],aq,i64 0,i64 0,ar [],aq,aq,aq,aq,sv,ar w,sc,ar [],aq]) rfl (jt (n:=1)) (ec.cons (p:=(8,42)) rfl vi (ec.cons (p:=(9,39)) rfl jt (ec.cons (p:=(10,23)) rfl ri (ec.cons (p:=(11,45)) rfl vj (ec.cons (p:=(12,46)) rfl hv.OI (ec.cons (p:=(14,47)) rfl hc.Oz (ec.cons (p:=(16,50)) rfl vm ec.nil)))))));simp only[List.append_nil,List.nil_append]at this;exact fE.of this
theorem IC (hL:L.length<=100000){vs:List (List UInt8)}{w:List UInt8}{sv:Value}(hv:Gw false 1 9 (vs.map ar) sv G'):∀(m:Nat),(∀j,j<m->aR 60 L dk.v (ps L j).lC)->∀(l:List dk) (k:Nat) (sl:Value) (G:List Bx) (o:iB Data) (z:List Value) (x0 x1 nx:Nat) (H:Go.Ev.T OB),l.length+m<=90010->Gw true 2 52 (l.map dk.v) sl G->z.length=17->
 bd ((ps L m).u4 l k) (λl k=>yes ⟨vs,w,l⟩ k)=some o->Hp nx0 H0 (bP bp L k::(x1,[sv,ar w,sl],49)::(x0,z,54)::(G'++(G++F))) H nx->
 ay P pl X0 (.jump (oE (ptr bp) (ptr x0) (ptr x1) H nx)) nx0 H0 (End nx0 H0 bp L F w5 o)
 | 0,_,l,k,sl,G,o,z,x0,x1,nx,H,hm,hG,hz,ho,h=>by cases ho
 | m+1,hp,l,k,sl,G,o,z,x0,x1,nx,H,hm,hG,hz,ho,h=>by
   have ho:bd (jq L (ps L m) l k) (λl k=>yes ⟨vs,w,l⟩ k)=some o:=ho;unfold jq at ho;refine Wq.jmp (JI ..) (λ_=>rfl) ?_;refine Sq.take hL h (λhi H1 aI h1=> ?_) (λhi H1 aI h1=> ?_)
   . rw[if_pos hi,fW]at ho;simp only[ab,ak (off:=2) (u:=sl) (h1.at_ 1 rfl) wi rfl];refine Sq.call (hp m (Nat.lt_succ_self m)) rfl h1 ho λc k' H2 nx2 _ ho2 h2=> ?_;simp only[ab,ak (off:=2) (u:=sl) (h2.at_ 1 rfl) wi rfl,aM];refine Hq.Ab c.cs c.len h2 λx H3 nx3 h3=> ?_;simp only[ab,ak (off:=2) (u:=sl) (h3.at_ 2 rfl) wi rfl,aM];refine Hq.MI (_::_::G') (x:=c) (by omega) hG h3 λsl' G1 H4 nx4 hG1 h4=> ?_;refine Hq.put [_] h4 HF (by rcases hG1.2 with⟨_,rfl,_⟩ | ⟨b,c,rfl,_⟩<;>rfl) (dT hG1) (by simp) rfl λH5 h5=> ?_;exact IC hL hv m (λj hj=>hp j (by omega)) (l++[c]) k' sl' G1 o z x0 x1 nx4 H5 (by rw[List.length_append];simp;omega) hG1 hz ho2 h5
   . rw[if_neg (by rw[hi];simp),dM]at ho;have hb:aO P 54 (some [(0,i64 3),(4,.agg ⟨[sv,ar w,sl]⟩)])=some (.agg ⟨[i64 3,i64 0,i64 0,ar [],aq,i64 0,i64 0,ar [],aq,aq,aq,aq,sv,ar w,sl,ar [],aq]⟩):=Gn ..;simp only[ab,MO (h1.at_ 1 rfl) rfl,hb];have h5:Hp nx0 H0 (bP bp L k::(x0,z,54)::((G'++G)++F)) H1 aI:=by
      rw[List.append_assoc];exact(Hp.mv [_] h1).sub (by simp)
     exact Hq.fin h5 e6 iw mA hz rfl (by simp[dT hG,dT hv]) (aJ.KD hv hG) (by omega) λH9 nx9 h9=>End.ret ho rfl h9
theorem Ei (hL:L.length<=100000){n:Nat}(hn:n<=90000)(hp:∀j,j<=n->aR 60 L dk.v (ps L j).lC){vs:List (List UInt8)}{sv:Value}{z:List Value}{x0 x1:Nat}{o:iB Data}(hv:Gw false 1 9 (vs.map ar) sv G')(hz:z.length=17)
 (ho:c_ L 3 k (λt k=>ba L [61] k λk=>bd ((ps L n).lC k) λc k=>bd (jq L (ps L n) [c] k) λl k=>yes (Data.mk vs t.s l) k)=some o) (h:Hp nx0 H0 (bP bp L k::(x1,[sv,ar [],aq],49)::(x0,z,54)::(G'++F)) H nx):
 ay P pl X0 (aV P pl (sB (ptr bp) (ptr x0) (ptr x1) H nx)) nx0 H0 (End nx0 H0 bp L F w5 o):=by
 rw[C0];refine Sq.word (by decide) hL h ho λH1 aI _ ho h1=> ?_;simp only[ab];refine Hq.put [_] h1 jK rfl rfl (by simp) rfl λH2 h2=> ?_;refine Sq.iP hL h2 ho λH3 nx3 _ ho h3=> ?_;refine Sq.call (hp n (Nat.le_refl n)) rfl h3 ho λc k' H4 nx4 _ ho h4=> ?_;refine Hq.Ab c.cs c.len h4 λx H5 nx5 h5=> ?_;refine Hq.put [_,_] h5 HF rfl rfl (by simp) rfl λH6 h6=> ?_;have h7:Hp nx0 H0 (bP bp L k'::(x1,[sv,ar (tk L k).s,gF x 1 1],49)::(x0,z,54)::(G'++([(x,c.cs,52)]++F))) H6 nx5:=h6.perm (List.Perm.cons _ ((List.Perm.swap _ _ _).trans (List.Perm.cons _ ((List.Perm.swap _ _ _).trans (List.Perm.cons _ List.perm_middle.symm)))));exact IC hL hv (n+1) (λj hj=>hp j (by omega)) [c] k' (gF x 1 1) [(x,c.cs,52)] o z x0 x1 nx5 H6 (show 1+(n+1)<=90010 by omega) (Gw.mN c.fA) hz ho h7
theorem ID (hL:L.length<=100000){n:Nat}(hn:n<=90000)(hp:∀j,j<=n->aR 60 L dk.v (ps L j).lC):∀(m:Nat) (l:List (List UInt8)) (k:Nat) (sl:Value) (G:List Bx) (o:iB Data) (z:List Value) (x0 x1 nx:Nat) (H:Go.Ev.T OB),l.length+m<=90010->Gw false 1 9 (l.map ar) sl G->z.length=17->
 bd ((ps L m).sW l k) (λl k=>ba L [41] k λk=>c_ L 3 k λt k=>ba L [61] k λk=>bd ((ps L n).lC k) λc k=>bd (jq L (ps L n) [c] k) λcl k=>yes (Data.mk l t.s cl) k)=some o->Hp nx0 H0 (bP bp L k::(x1,[sl,ar [],aq],49)::(x0,z,54)::(G++F)) H nx->
 ay P pl X0 (.jump (sC (ptr bp) (ptr x0) (ptr x1) H nx)) nx0 H0 (End nx0 H0 bp L F w5 o)
 | 0,l,k,sl,G,o,z,x0,x1,nx,H,hm,hG,hz,ho,h=>by cases ho
 | m+1,l,k,sl,G,o,z,x0,x1,nx,H,hm,hG,hz,ho,h=>by
   have ho:bd (pU L (ps L m) l k) (λl k=>ba L [41] k λk=>c_ L 3 k λt k=>ba L [61] k λk=>bd ((ps L n).lC k) λc k=>bd (jq L (ps L n) [c] k) λcl k=>yes (Data.mk l t.s cl) k)=some o:=ho;unfold pU at ho;refine Wq.jmp (JH ..) (λ_=>rfl) ?_;refine Sq.take hL h (λhi H1 aI h1=> ?_) (λhi H1 aI h1=> ?_)
   . rw[if_pos hi]at ho;have ho:c_ L 5 (k+1) (λt k=>bd ((ps L m).sW (l++[t.s]) k) (λl k=>ba L [41] k λk=>c_ L 3 k λt k=>ba L [61] k λk=>bd ((ps L n).lC k) λc k=>bd (jq L (ps L n) [c] k) λcl k=>yes (Data.mk l t.s cl) k))=some o:=by
      rw[<- ho];unfold c_;split<;>rfl
     simp only[ab,ak (off:=0) (u:=sl) (h1.at_ 1 rfl) rX rfl];refine Sq.word (by decide) hL h1 ho λH2 nx2 _ ho2 h2=> ?_;simp only[ab,ak (off:=0) (u:=sl) (h2.at_ 1 rfl) rX rfl,aM];refine Hq.tj (tk L (k+1)).s h2 λx H3 nx3 h3=> ?_;simp only[ab,ak (off:=0) (u:=sl) (h3.at_ 2 rfl) rX rfl,aM];refine Hq.Na [_,_] (w:=(tk L (k+1)).s) (by omega) hG h3 λsl' G1 H4 nx4 hG1 h4=> ?_;refine Hq.put [_] h4 CI (by rcases hG1.2 with⟨_,rfl,_⟩ | ⟨b,c,rfl,_⟩<;>rfl) (dT hG1) (by simp) rfl λH5 h5=> ?_;exact ID hL hn hp m (l++[(tk L (k+1)).s]) (k+1+1) sl' G1 o z x0 x1 nx4 H5 (by rw[List.length_append];simp;omega) hG1 hz ho2 h5
   . rw[if_neg (by rw[hi];simp),dM]at ho;simp only[ab];refine Sq.iP hL h1 ho λH2 nx2 _ ho h2=> ?_;have:=Ei hL hn hp hG hz ho h2;rw[C0]at this;exact this
theorem Nc (hL:L.length<=100000){n:Nat}(hn:n<=90000)(hp:∀j,j<=n->aR 60 L dk.v (ps L j).lC):aR 59 L w5 (ps L (n+1)).data:=by
 intro nx0 nx H0 H bp F k o ho h;have ho:u6 L (ps L n) k=some o:=ho;unfold u6 z6 at ho;rw[PG];refine Hq.alloc de h λx0 H1 aI h1=> ?_;refine Hq.alloc Fq h1 λx1 H2 nx2 h2=> ?_;refine Sq.now h2 λH3 nx3 h3=> ?_;refine Sq.FN h3 λH4 nx4 h4=> ?_;simp only[ab];refine Wq.ite (λhi=> ?_) (λhi=> ?_)
 . rw[if_pos hi,dM]at ho;simp only[ab,pk h4,dV hL (fO (show(tk L k).k≠0 by omega))];refine cO h4 λH5 h5=> ?_;refine Hq.tj (tk L k).s h5 λx H6 nx6 h6=> ?_;refine Hq.put [_,_] h6 CI rfl rfl (by simp) rfl λH7 h7=> ?_;exact Wq.jump (λ_=>rfl) (Ei hL hn hp (G':=[(x,[ar (tk L k).s],9)]) (Gw.Nb _) rfl ho (Hp.ti h7))
 rw[if_neg hi]at ho;refine Sq.take hL h4 (λhi H5 nx5 h5=> ?_) (λhi H5 nx5 h5=> ?_)
 . rw[if_pos hi]at ho;have ho:c_ L 5 (k+1) (λt k=>bd (pU L (ps L n) [t.s] k) λl k=>ba L [41] k λk=>c_ L 3 k λt k=>ba L [61] k λk=>bd ((ps L n).lC k) λc k=>bd (jq L (ps L n) [c] k) λcl k=>yes (Data.mk l t.s cl) k)=some o:=by
    rw[<- ho];unfold c_;split
    . rw[fW];show bd (pU L (ps L n) [(tk L (k+1)).s] (k+1+1)) _=bd (pU L (ps L n) [(tk L (k+1)).s] (k+1+1)) _;refine congrArg (bd (pU L (ps L n) [(tk L (k+1)).s] (k+1+1))) ?_;funext l k;unfold ba;split<;>rfl
    . rfl
   simp only[ab];refine Sq.word (by decide) hL h5 ho λH6 nx6 _ ho h6=> ?_;simp only[ab];refine Hq.tj (tk L (k+1)).s h6 λx H7 nx7 h7=> ?_;refine Hq.put [_,_] h7 CI rfl rfl (by simp) rfl λH8 h8=> ?_;exact ID hL hn hp (n+1) [(tk L (k+1)).s] (k+1+1) (gF x 1 1) [(x,[ar (tk L (k+1)).s],9)] o _ x0 x1 nx7 H8 (show 1+(n+1)<=90010 by omega) (Gw.Nb _) rfl ho (Hp.ti h8)
 . rw[if_neg (by rw[hi];simp),dM]at ho;simp only[ab];exact Wq.jump (λ_=>rfl) (Ei hL hn hp (G':=[]) (Gw.nil _ _ _) rfl ho h5)
end
section
variable {L:List Tok}
structure OJ (L:List Tok)(p:PS):Prop where
 exp:aR 47 L au.v p.exp
 oO:Gr L p.oO
 bin:D9 L p.bin
 un:aR 83 L au.v p.un
 atom:aR 93 L au.v p.atom
 lt:aR 96 L au.v p.lt
 pat:aR 80 L aD.v p.pat
 dA:aR 92 L aD.v p.dA
 lB:aR 79 L aY.v p.lB
 post:aR 90 L aY.v p.post
 lC:aR 60 L dk.v p.lC
 bind:aR 61 L mO p.bind
 fn:aR 81 L Fn.v p.fn
 dec:aR 46 L mO p.dec
 data:aR 59 L w5 p.data
theorem aR.none {α:Type}{f:FuncId}{vf:α->Value}:aR f L vf (λ_=> .none):=λnx0 nx H0 H bp F k o ho _=>by cases ho
theorem KE (hL:L.length<=100000):∀n,n<=90001->∀j,j<=n->OJ L (ps L j)
 | 0,_,j,hj=>by
   have:j=0:=by omega
   subst this;exact⟨aR.none,λnx0 nx H0 H bp F G k o kk l sl hl hG ho h=>(by cases ho),λlv nx0 nx H0 H bp F k o hl ho h=>(by cases ho),aR.none,aR.none,aR.none,aR.none,aR.none,aR.none,aR.none,aR.none,aR.none,aR.none,aR.none,aR.none⟩
 | n+1,hn,j,hj=>by
   have ih:=KE hL n (by omega)
   by_cases hjn:j<=n
   . exact ih j hjn
   . have:j=n+1:=by omega
     subst this;have i:=ih n (Nat.le_refl n);have hn':n<=90000:=by omega
     exact {
      exp:=OD hL i.exp i.oO λnx0 nx H0 H bp F k o=>i.bin 0 nx0 nx H0 H bp F k o (by omega)
      oO:=MW hL hn' (λj hj=>(ih j hj).pat) (λj hj=>(ih j hj).exp)
      bin:=MX hL hn' (λj hj=>(ih j hj).bin) i.un
      un:=MY hL hn' (λj hj=>(ih j hj).atom) i.un
      atom:=M0 hL hn' (λj hj=>(ih j hj).exp) i.lt
      lt:=M1 hL hn' (λj hj=>(ih j hj).exp) (λj hj=>(ih j hj).bind)
      pat:=MT hL i.dA i.pat
      dA:=MV hL hn' (λj hj=>(ih j hj).pat)
      lB:=MQ hL hn' (λj hj=>(ih j hj).post) i.lB
      post:=MR hL hn' (λj hj=>(ih j hj).lB)
      lC:=MS hL i.lB
      bind:=M6 hL hn' i.pat i.exp (λj hj=>(ih j hj).fn)
      fn:=M3 hL hn' (λj hj=>(ih j hj).dA) i.exp
      dec:=OH hL i.data i.lC i.bind
      data:=Nc hL hn' (λj hj=>(ih j hj).lC) }
theorem OK (hL:L.length<=100000){n:Nat}(hn:n<=90000):aR 26 L cU ((ps L n).er []):=by
 intro nx0 nx H0 H bp F k o ho h;rw[Pn];exact M_ hL n (λj hj=>(KE hL n (by omega) j (by omega)).dec) (λj hj=>(KE hL n (by omega) j (by omega)).exp) [] [] k aq [] o nx H (by simp;omega) (Gw.nil _ _ _) gQ.nil rfl ho h
end
def isTrue (r:Option Rt):Bool:=match r with
 | some ⟨.ret (.bool true),false,_,_⟩=>true
 | _=>false
def O_:hY:=⟨[],[],[],[],false⟩
theorem Bk:J2 fD .leaf (λH=>isTrue (FD P O_ (λ_ _=>none) 1000 (.call 7 [] false none H 11)))=true:=by kernel_rfl
section
variable {nx0 nx nx' bp k:Nat}{H0 H H':T OB}{F A B G G':List Bx}{R:Go.Ev.Out->T OB->Nat->Prop}{b:Nat}{l:List Value}{e t:TypeId}{L:List Tok}
theorem Hq.KF (A:List Bx){off:Nat}{u:Value}{l':List Value}(h:Hp nx0 H0 (A++(b,l,e)::B) H nx)(hs:aE P t=some 1)(hc:u.cells.toList=[u])(ho:ah u=true)(hn:off<l.length)(hl:l.set off u=l'):
 ∃H',bY P H nx t (some (.pointer (some ⟨b,off,none⟩))) (some u)= .val undef H' nx/\Hp nx0 H0 (A++(b,l',e)::B) H' nx:=by
 obtain⟨o,H',nx',hA,⟨h1,h2,h3⟩,hr⟩:=Hq.put (R:=λo H2 nx2=>o= .ret undef/\nx2=nx/\Hp nx0 H0 (A++(b,l',e)::B) H2 nx) (k:=λv H nx=> .ret ⟨.ret v,false,H,nx⟩) A h hs hc ho hn hl λH' h'=>Wq.kj h'.ag ⟨rfl,rfl,h'⟩;cases he:bY P H nx t (some (.pointer (some ⟨b,off,none⟩))) (some u)with
 | val v H1 aI=>
   rw[he]at hr;have hr:some (⟨.ret v,false,H1,aI⟩:Rt)=some ⟨o,false,H',nx'⟩:=hr;cases hr;cases h1;cases h2;exact⟨_,rfl,h3⟩
 | _=>rw[he]at hr;cases hr
theorem Gv {sz:Nat}{x:Value}(hz:bn P e=some l)(hs:aE P t=some sz)(hl:l.length=sz)(hx:x.cells.toList.length=sz)(hone:x.cells.toList.all ah=true)(h:Hp nx0 H0 F H nx):
 ∃H',Hp nx0 H0 F H' (nx+1+1)/\∀k:Go.Ev.T OB->Nat->Q,(bf (bL P H nx e) λp H nx=>cW P H nx t (some p) x k)=k H' (nx+1+1):=by
 refine⟨Ev.set (Ev.set H (Ev.bits nx) (some (ca l e))) (Ev.bits nx) (some .dead),h.cX ((((h.ag.set h.ag.1 _).succ).set h.ag.1 _).succ) (by omega) λb l e hb hi=>(hi.other (by omega) _).other (by omega) _,λk=> ?_⟩;rw[ik hz];have hg:(Ev.set H (Ev.bits nx) (some (ca l e))).get (Ev.bits nx)=some (ca l e):=by rw[Ev.get_at,if_pos rfl]
 show j7 ((Ev.set H (Ev.bits nx) (some (ca l e))).get (Ev.bits nx)) (λn _ _=>af (aE P t) (λs=>bif Nat.beq 0 0&&(Nat.beq n s&&(Nat.beq x.cells.toList.length s&&x.cells.toList.all ah))then
  cm (Ev.bits nx) (Ev.set H (Ev.bits nx) (some (ca l e))) (some .dead) λH=>Ev.bD (Nat.succ (nx+1)) λn=>k H n else .bad) .bad)=_
 rw[hg];show af (aE P t) (λs=>bif Nat.beq 0 0&&(Nat.beq l.length s&&(Nat.beq x.cells.toList.length s&&x.cells.toList.all ah))then
  cm (Ev.bits nx) (Ev.set H (Ev.bits nx) (some (ca l e))) (some .dead) λH=>Ev.bD (Nat.succ (nx+1)) λn=>k H n else .bad) .bad=_
 rw[hs,aw,hl,hx,hone,aA,aG];have e2:Nat.beq sz sz=true:=Nat.beq_refl sz;rw[e2];rfl
theorem ay.cast {q q':Q}(e:q=q')(h:ay P pl X0 q' nx0 H0 R):ay P pl X0 q nx0 H0 R:=e ▸ h
theorem ay.base {q:Q}{aI:Nat}{H1:T OB}(hA:Ag nx0 H0 aI H1)(h:ay P pl X0 q aI H1 R):ay P pl X0 q nx0 H0 λo H nx=>R o H nx/\Ag aI H1 nx H:=by
 obtain⟨o,H',nx',h1,h2,h3⟩:=h;exact⟨o,H',nx',hA.trans h1,⟨h2,h1⟩,h3⟩
theorem ay.mono {q:Q}{R':Go.Ev.Out->T OB->Nat->Prop}(h:ay P pl X0 q nx0 H0 R)(hR:∀o H nx,Ag nx0 H0 nx H->R o H nx->R' o H nx):ay P pl X0 q nx0 H0 R':=by
 obtain⟨o,H',nx',h1,h2,h3⟩:=h;exact⟨o,H',nx',h1,hR _ _ _ h1 h2,h3⟩
theorem Aj {c:Cg}{tm:T Value}{a1 a2 a3:Value}(h:ay P pl X0 (vD P pl c tm .ret H nx) nx0 H0 R):ay P pl X0 (kH P pl c tm [(25,[a1,a2,a3])] .ret H nx) nx0 H0 R:=by
 obtain⟨o,H',nx',h1,h2,h3⟩:=h;refine⟨o,H',nx',h1,h2,?_⟩;have e1:Go.Ev.F P pl X0 (.call 25 [a1,a2,a3] true none H nx)=some ⟨.ret (.tuple ⟨[]⟩),false,H,nx⟩:=by
  rw[rT,N8];rfl
 show af (Go.Ev.F P pl X0 (.call 25 [a1,a2,a3] true none H nx)) (λr=>(Lj .ret r (kH P pl c tm [])).run (Go.Ev.F P pl X0)) none=_;rw[e1];exact h3
theorem Nd (H:T OB)(a:Int):bX P H .neq 20 true (some (.iface 75 (.agg ⟨[i64 a]⟩))) (some .nilIface)=some (.bool true):=by kernel_rfl
theorem Nf (v:Value):fH P (some (.iface 75 v)) 75 true=some (.tuple ⟨[v,.bool true]⟩):=by kernel_rfl
theorem Ng (H:T OB)(a:Int):aj P H 3 (some (ae (i64 a)))=some (i64 a):=by kernel_rfl
theorem Nh (a:Int):aa P 75 (some (ae (.agg ⟨[i64 a]⟩))) 0=some (ae (i64 a)):=by kernel_rfl
theorem Gx {c:Cg}{tm:T Value}{x1 x2 x3:Nat}{v1 v2 v3:Value}{a:Int}(hh:Hp nx0 H0 ((x1,[v1],23)::(x2,[v2],3)::(x3,[v3],24)::F) H nx)
 (h:∀H' nx',Hp nx0 H0 ((x1,[aq],23)::(x2,[i64 a],3)::(x3,[i64 80],24)::F) H' nx'->ay P pl X0 (vD P pl c tm .ret H' nx') nx0 H0 R):ay P pl X0 (kH P pl c tm [(25,[ptr x1,ptr x2,ptr x3])] (.eW (iD a)) H nx) nx0 H0 R:=by
 obtain⟨H1,h1,e1⟩:=Gv (x:= .agg ⟨[i64 a]⟩) Fs LU rfl rfl rfl hh;obtain⟨H2,e2,h2⟩:=Hq.KF (t:=23) (off:=0) (u:=aq) (l':=[aq]) [] h1 qM rfl rfl (by simp) rfl;obtain⟨H3,e3,h3⟩:=Hq.KF (t:=3) (off:=0) (u:=i64 a) (l':=[i64 a]) [_] h2 jJ rfl rfl (by simp) rfl;obtain⟨H4,e4,h4⟩:=Hq.KF (t:=24) (off:=0) (u:=i64 80) (l':=[i64 80]) [_,_] h3 zB rfl rfl (by simp) rfl;obtain⟨o,H',nx',g1,g2,g3⟩:=h H4 _ h4;refine⟨o,H',nx',g1,g2,?_⟩;have e12:Go.Ev.F P pl X0 (wo (ptr x1) (ptr x2) (ptr x3) (ae (.agg ⟨[i64 a]⟩)) H1 (nx+1+1))=some ⟨.ret (.tuple ⟨[]⟩),true,H4,nx+1+1⟩:=by
  rw[rT,Js];show Q.run (Go.Ev.F P pl X0) _=_;simp only[Jm,Jl,Jp,Nh,Ng,aw,e2,e3,e4,bf,aM,Bool.and_true,mT];rfl
 have e0:Go.Ev.F P pl X0 (.call 25 [ptr x1,ptr x2,ptr x3] true (some (iD a)) H nx)=some ⟨.ret (.tuple ⟨[]⟩),true,H4,nx+1+1⟩:=by
  rw[rT,N7];show Q.run (Go.Ev.F P pl X0) _=_;simp only[Jj,Jn,Jo,Jq,Nd,Nf,aw,om,mT,ES,ET,e1,rU,Bool.not_true,nF];exact e12
 show af (Go.Ev.F P pl X0 (.call 25 [ptr x1,ptr x2,ptr x3] true (some (iD a)) H nx)) (λr=>(Lj (.eW (iD a)) r (kH P pl c tm [])).run (Go.Ev.F P pl X0)) none=_;rw[e0];exact g3
end
end
end Go.Proofs.YthjhonhhbddhkaaDoor
