/- Texts of this claim, side by side. -/
import Derived.Test.YthjhonhhbddhkaaGreatDoorG6
open List renaming length_map->aa,length_append->aj,mem_of_getElem?->ak,length_cons->ao,getElem?_eq_some_iff->ar,getElem?_eq_getElem->au,length_drop->aD,mem_cons->aG,all_eq_true->aM,append_nil->bf,append_assoc->bn,mem_map->bo,getElem?_eq_none->bt,map_cons->bD,drop_drop->cH,all_cons->cW,length_nil->c_,drop_zero->dq,drop_eq_getElem_cons->dA,map_append->dI,mem_append->dJ,length_singleton->dU,drop_eq_nil_of_le->ez,take_length->fD,mem_map_of_mem->fT,nodup_cons->jS,contains_cons->jX
open Bool renaming true_and->ai,false_and->aE,and_true->aW,or_eq_true->bl,false_or->bG,and_comm->cc,not_true->cM,eq_iff_iff->dk,or_eq_false_iff->dy,not_false->fk,or_true->gK,true_or->gL,and_self->gO
open Nat renaming ble_eq_true_of_le->av,le_refl->ax,beq->ay,zero_le->aN,ble->bj,lt_succ_self->bz,zero_add->bN,blt->bY,beq_refl->cm,succ->cS,le_of_ble_eq_true->dS,mod_lt->dV,add_mul->ic,strongRecOn->iH,le_succ->jl,lt_of_le_of_lt->jY
open UInt8 renaming toNat_inj->bJ,ofNat->dh,toNat_ofNat'->gn
namespace Go.Proofs.YthjhonhhbddhkaaGreatDoor
open Go.Ev Go.RowKit
noncomputable section
set_option maxRecDepth 100000
set_option linter.unusedVariables false
set_option linter.unusedSimpArgs false
set_option maxHeartbeats 8000000
section
variable {nx0:Nat}{H0:T OB}
def Fi:Nat->List UInt8->List UInt8->List UInt8×Bool
 | 0,r,out=>(out,decide (r=[34]))
 | f+1,r,out=>if r.length<=1 then(out,decide (r=[34]))else if(eo r).2=0 then([],false)else Fi f (r.drop (eo r).2) (out++[(eo r).1])
def mL (s:List UInt8):List UInt8×Bool:=if s.length<2\/first s 34=false then([],false)else Fi s.length (s.drop 1) []
abbrev PZ (p:List UInt8×Bool):Value:= .tuple ⟨[aK p.1,.bool p.2]⟩
theorem L5 (s:List UInt8)(h2:2<=s.length)(hl:s.length<=1000000):∀(d i:Nat) (r:List UInt8) (sl:Value) (H:T OB) (nx:Nat),s.length-i<=d->1<=i->i<=s.length->r.length<=i->BS 5 nx0 H nx r sl->Ag nx0 H0 nx H->
 Wq P pl X0 (.jump (vR (aK s) sl (i64 (i:Int)) H nx)) nx0 H0 (PZ (Fi d (s.drop i) r)):=by
 have hw:IntKind.i64.wrap ((s.length:Int)-1)=((s.length-1:Nat):Int):=by rw[aS (by omega)];omega
 have stop:∀(d i:Nat) (r:List UInt8),¬i<s.length-1->Fi d (s.drop i) r=(r,decide (s.drop i=[34])):=by
  intro d i r h;cases d with
  | zero=>rfl
  | succ d=>exact if_pos (by rw[aD];omega)
 intro d
 induction d with
 | zero=>
   intro i r sl H nx hd hi hi2 hr hB hA;rw[stop 0 i r (by omega)];refine Wq.jmp (J1 ..) (λ_=>rfl) ?_;have e1:decide ((i:Int)<((s.length-1:Nat):Int))=false:=by simp;omega
   have e2:decide ((i:Int)=((s.length-1:Nat):Int))=false:=by simp;omega
   simp only[af,aV _ bq,aT,hw,e1,mY dK qN bq C9 hB,e2];have e3:s.drop i=[]:=ez (by omega);rw[e3];exact Wq.ret hA
 | succ d ih=>
   intro i r sl H nx hd hi hi2 hr hB hA;refine Wq.jmp (J1 ..) (λ_=>rfl) ?_
   by_cases hlt:i<s.length-1
   . have e0:Fi (d+1) (s.drop i) r=if(eo (s.drop i)).2=0 then([],false)else Fi d ((s.drop i).drop (eo (s.drop i)).2) (r++[(eo (s.drop i)).1]):=if_neg (by rw[aD];omega);have e1:decide ((i:Int)<((s.length-1:Nat):Int))=true:=by simp;omega
     have hn:=wX (s.drop i);rw[aD]at hn;rw[e0];simp only[af,aV _ bq,aT,hw,e1,gG hi2];refine Wq.gZ (ZG (s.drop i) (by simp;omega) (by rw[aD];exact jY (Nat.sub_le _ _) (jY hl (by decide)))) hA λH1 aI hA1 n1 k1=> ?_;generalize eo (s.drop i)=p at hn ⊢;obtain⟨c,n⟩:=p;have x0:bH (some (PY (c,n))) 0=some (b8 c):=rfl;have x1:bH (some (PY (c,n))) 1=some (i64 (n:Int)):=rfl;simp only[af,x0,x1];refine Wq.ite (λh=> ?_) (λh=> ?_)
     . have h0:n=0:=by omega
       rw[if_pos h0];exact Wq.ret hA1
     have h0:n≠0:=by omega
     have hn:n<=s.length-i:=hn;rw[if_neg h0];have hB':=BS.dZ hB n1 k1;refine Wq.rF (x:=[c]) dK jq ik hB' rfl rfl (Zx c) (λm hm=>j4 (by simp at hm;omega)) hA1 λH2 sl2 nx2 hB2 hA2 _=> ?_;have ew:IntKind.i64.wrap ((i:Int)+(n:Int))=((i+n:Nat):Int):=by rw[aS (by omega)];omega
     simp only[af,ew];rw[cH];exact ih (i+n) (r++[c]) sl2 H2 nx2 (by omega) (by omega) (by omega) (by simp;omega) hB2 hA2
   . rw[stop (d+1) i r hlt];have e1:decide ((i:Int)<((s.length-1:Nat):Int))=false:=by simp;omega
     simp only[af,aV _ bq,aT,hw,e1,mY dK qN bq C9 hB];refine Wq.ite (λh=> ?_) (λh=> ?_)
     . have hi3:i<s.length:=by omega
       have e3:s.drop i=[s[i]]:=by
        rw[dA hi3,ez (by omega)]
       simp only[af,bF bq (au hi3)];rw[e3];have e4:decide ((s[i].toNat:Int)=34)=decide ([s[i]]=[34]):=by
        rw[decide_eq_decide,List.cons.injEq];simp only[and_true];rw[<- bJ];show _↔s[i].toNat=34;omega
       rw[e4];exact Wq.ret hA
     . have e3:s.drop i=[]:=ez (by omega);rw[e3];exact Wq.ret hA
theorem ZH (s:List UInt8)(hl:s.length<=1000000):P0 111 [aK s] (PZ (mL s)):=Pure.of rfl λH nx=>by
 rw[adQ];have hA:=Ag.refl nx H;have L6t:∀H1 aI,Ag nx H aI H1->(s.length<2\/first s 34=false)->Wq P pl X0 (.jump (CF (aK s) true H1 aI)) nx H (PZ (mL s)):=by
  intro H1 aI hA1 hc;refine Wq.jmp (OM ..) (λ_=>rfl) ?_;unfold mL;rw[if_pos hc];exact Wq.ret hA1
 simp only[af,aV _ bq,aT];refine Wq.ite (λh=>L6t _ _ hA (.inl (by omega))) (λh=> ?_);obtain⟨a,r,rfl⟩:∃a r,s=a::r:=by cases s with
  | nil=>simp at h
  | cons a r=>exact⟨a,r,rfl⟩
 simp only[af,TG]
 by_cases h34:a.toNat=34
 . have e:decide ((a.toNat:Int)=34)=true:=by simp;omega
   simp only[af,e,cM];refine Wq.jmp (OM ..) (λ_=>rfl) ?_;have e2:mL (a::r)=Fi (a::r).length ((a::r).drop 1) []:=by
    unfold mL;rw[if_neg];simp only[first,h34,decide_true,not_or];exact⟨by omega,by simp⟩
   rw[e2];have:=L5 (nx0:=nx) (H0:=H) (a::r) (by omega) hl (a::r).length 1 [] (.slice none 0 0) H nx (Nat.sub_le _ _) (by omega) (by omega) (by simp) (.nil _ _ _ _) hA;exact this
 . have e:decide ((a.toNat:Int)=34)=false:=by simp;omega
   simp only[af,e,fk];exact L6t _ _ hA (.inr (by simp[first,h34]))
def m5 (s:List UInt8):Int×Bool:=match js 0 s with
 | some n=>((n:Int),!decide (s=[]))
 | none=>(0,false)
theorem ZI (s:List UInt8):TM s (js 0 s)= .tuple ⟨[i64 (m5 s).1,.bool (m5 s).2]⟩:=by
 unfold m5;cases js 0 s<;>rfl
def qO (s:List UInt8):Tok×Bool:=
 if(mL s).2=true then(⟨2,(mL s).1,0,0⟩,true)else if isWord s=true then(⟨iA s,s,0,0⟩,true)else if isVar s=true then(⟨5,s,0,0⟩,true)else if bB.contains s=true then(⟨7,s,0,0⟩,true)else(⟨0,[],0,0⟩,false)
def dw (s:List UInt8):Tok×Bool:=if(m5 s).2=true then(⟨1,[],(m5 s).1,0⟩,true)else qO s
abbrev Fj (p:Tok×Bool):Value:= .tuple ⟨[p.1.v,.bool p.2]⟩
theorem P1 (s:List UInt8)(hl:s.length<=1000000):P0 63 [aK s] (Fj (dw s)):=Pure.of rfl λH nx=>by
 have hb:s.length<ei:=jY hl (by decide);have hA:=Ag.refl nx H;rw[q63];refine Wq.alloc ek hA λH1 hb1 _ hA1=> ?_;have E:∀(t:Tok) (b:Bool) H2 nx2,dO H2 nx [i64 0,aK [],i64 0,i64 0] 31->Ag nx H nx2 H2->
  Wq P pl X0 (bU (eD P H2 nx2 31 (some (.pointer (some ⟨nx,0,none⟩))) (some t.v)) λ_ H nx'=>aw (aA P H 31 (some (.pointer (some ⟨nx,0,none⟩)))) (λx=> .ret ⟨.ret (.tuple ⟨[x,.bool b]⟩),false,H,nx'⟩) .bad) nx H (Fj (t,b)):=by
  intro t b H2 nx2 hb2 hA2;refine Wq.store hb2 fg (by simp) rfl rfl hA2 (ax _) λH3 hb3 _ hA3=> ?_;have hb3':dO H3 nx t.c 31:=hb3;rw[cR hb3' nI fg (by simp)];exact Wq.ret hA3
 refine Wq.gZ (ZF s hb) hA1 λH2 nx2 hA2 n2 k2=> ?_;replace hb1:=k2 _ _ _ (bz nx) hb1;rw[ZI];have x0:bH (some (Value.tuple ⟨[i64 (m5 s).1,.bool (m5 s).2]⟩)) 0=some (i64 (m5 s).1):=rfl;have x1:bH (some (Value.tuple ⟨[i64 (m5 s).1,.bool (m5 s).2]⟩)) 1=some (.bool (m5 s).2):=rfl;simp only[af,x0,x1];unfold dw;cases hn:(m5 s).2 with
 | true=>
   rw[if_pos rfl];simp only[af,wT];exact E _ true _ _ hb1 hA2
 | false=>
 rw[if_neg (by simp)];unfold qO;simp only[af];refine Wq.gZ (ZH s hl) hA2 λH3 nx3 hA3 n3 k3=> ?_;replace hb1:=k3 _ _ _ (by omega) hb1;have x0:bH (some (PZ (mL s))) 0=some (aK (mL s).1):=rfl;have x1:bH (some (PZ (mL s))) 1=some (.bool (mL s).2):=rfl;simp only[af,x0,x1];cases hq:(mL s).2 with
 | true=>
   rw[if_pos rfl];simp only[af,gH];exact E _ true _ _ hb1 hA3
 | false=>
 rw[if_neg (by simp)];simp only[af];refine Wq.gZ (Zu s hb) hA3 λH4 nx4 hA4 n4 k4=> ?_;replace hb1:=k4 _ _ _ (by omega) hb1;simp only[af];cases hw:isWord s with
 | true=>
   rw[if_pos rfl];simp only[af];obtain⟨a,r,rfl⟩:∃a r,s=a::r:=by cases s with
    | nil=>cases hw
    | cons a r=>exact⟨a,r,rfl⟩
   refine Wq.gZ (Zw a r) hA4 λH5 nx5 hA5 n5 k5=> ?_;replace hb1:=k5 _ _ _ (by omega) hb1;simp only[af,gH];exact E _ true _ _ hb1 hA5
 | false=>
 rw[if_neg (by simp)];simp only[af];refine Wq.gZ (Zv s hb) hA4 λH5 nx5 hA5 n5 k5=> ?_;replace hb1:=k5 _ _ _ (by omega) hb1;simp only[af];cases hv:isVar s with
 | true=>
   rw[if_pos rfl];simp only[af,gH];exact E _ true _ _ hb1 hA5
 | false=>
 rw[if_neg (by simp)];simp only[af];refine Wq.gZ Zr hA5 λH6 nx6 hA6 n6 k6=> ?_;replace hb1:=k6 _ _ _ (by omega) hb1;refine Wq.gZ (G7 bB (by decide) s) hA6 λH7 nx7 hA7 n7 k7=> ?_;replace hb1:=k7 _ _ _ (by omega) hb1;simp only[af];cases bB.contains s with
 | true=>
   rw[if_pos rfl];simp only[af,gH];exact E _ true _ _ hb1 hA7
 | false=>
   rw[if_neg (by simp)];simp only[af];exact E ⟨0,[],0,0⟩ false _ _ hb1 hA7
def KD (t:Tok):Bool:=
 if t.k=0 then decide (t.s=[])&&decide (t.n=0)
 else if t.k=1/\(t.n<0\/4611686018427387903<t.n)then false
 else(dw (ck t)).2&&(decide ((dw (ck t)).1.k=t.k)&&(decide ((dw (ck t)).1.s=t.s)&&decide ((dw (ck t)).1.n=t.n)))
theorem abV (t:Tok)(h0:t.k≠0)(hn:rg t.n)(hl:t.s.length<=200000):P0 64 [t.v] (aK (ck t)):=Pure.of rfl λH nx=>by
 rw[q64];refine Wq.gi (.refl _ _) λhA=> ?_;unfold ck;simp only[af,show decide (t.k=0)=false by simpa]
 by_cases h1:t.k=1
 . rw[if_pos h1];simp only[af,show decide (t.k=1)=true by simpa];refine Wq.call (ZA t.n hn) hA λH1 aI hA1=> ?_;exact Wq.ret hA1
 rw[if_neg h1];simp only[af,show decide (t.k=1)=false by simpa]
 by_cases h2:t.k=2
 . rw[if_pos h2];simp only[af,show decide (t.k=2)=true by simpa];refine Wq.call (ZE t.s (by have:=ui t.s;omega) (by omega)) hA λH1 aI hA1=> ?_;exact Wq.ret hA1
 rw[if_neg h2];simp only[af,show decide (t.k=2)=false by simpa];exact Wq.ret hA
theorem Fk (t:Tok)(hn:rg t.n)(hl:t.s.length<=200000):(ck t).length<=1000000:=by
 unfold ck;split
 . have:=yZ t.n hn;omega
 . split
   . have:=ui t.s;simp[quote];omega
   . omega
theorem abW (t:Tok)(hn:rg t.n)(hl:t.s.length<=200000):P0 36 [t.v] (.bool (KD t)):=Pure.of rfl λH nx=>by
 rw[q36];refine Wq.gi (.refl _ _) λhA=> ?_;unfold KD
 by_cases h0:t.k=0
 . rw[if_pos h0];simp only[af,show decide (t.k=0)=true by simpa,dL];cases decide (t.s=[])with
   | true=>simp only[af];exact Wq.ret hA
   | false=>simp only[af];exact Wq.ret hA
 rw[if_neg h0];simp only[af,show decide (t.k=0)=false by simpa];have L:¬(t.k=1/\(t.n<0\/4611686018427387903<t.n))->∀H1 aI,Ag nx H aI H1->Wq P pl X0 (.jump (tU (ah t.v) false H1 aI)) nx H (.bool ((dw (ck t)).2&&(decide ((dw (ck t)).1.k=t.k)&&(decide ((dw (ck t)).1.s=t.s)&&decide ((dw (ck t)).1.n=t.n))))):=by
  intro _ H1 aI hA1;refine Wq.jmp (N_ ..) (λ_=>rfl) ?_;simp only[af];refine Wq.call (abV t h0 hn hl) hA1 λH2 nx2 hA2=> ?_;refine Wq.call (P1 _ (Fk t hn hl)) hA2 λH3 nx3 hA3=> ?_;generalize dw (ck t)=p;obtain⟨u,b⟩:=p;have x0:bH (some (Fj (u,b))) 0=some u.v:=rfl;have x1:bH (some (Fj (u,b))) 1=some (.bool b):=rfl;simp only[af,x0,x1];refine Wq.var ek fg rfl rfl rfl hA3 λH4 nx4 hA4=> ?_;cases b with
  | false=>exact Wq.ret hA4
  | true=>
    simp only[af,dL];rw[ai];refine Wq.bK (λh1=> ?_) (λh1=> ?_)
    . rw[h1,ai];refine Wq.bK (λh2=> ?_) (λh2=> ?_)
      . rw[h2,ai];exact Wq.ret hA4
      . rw[h2,aE];exact Wq.ret hA4
    . rw[h1,aE];exact Wq.ret hA4
 have T:t.k=1/\(t.n<0\/4611686018427387903<t.n)->Wq P pl X0 (.jump (tU (ah t.v) true H (nx+1))) nx H (.bool false):=by
  intro _;refine Wq.jmp (N_ ..) (λ_=>rfl) ?_;exact Wq.ret hA
 refine Wq.ite (λh1=> ?_) (λh1=> ?_)
 . refine Wq.ite (λh2=> ?_) (λh2=> ?_)
   . rw[if_pos ⟨h1,.inl h2⟩];exact T ⟨h1,.inl h2⟩
   . by_cases h3:4611686018427387903<t.n
     . rw[decide_eq_true h3,if_pos ⟨h1,.inr h3⟩];exact T ⟨h1,.inr h3⟩
     . have:¬(t.k=1/\(t.n<0\/4611686018427387903<t.n)):=by omega
       rw[decide_eq_false h3,if_neg this];exact L this _ _ hA
 . have:¬(t.k=1/\(t.n<0\/4611686018427387903<t.n)):=λq=>h1 q.1;rw[if_neg this];exact L this _ _ hA
end
theorem P2 {u:Nat}(h:u<10):((48+u).toUInt8).toNat=48+u:=by
 show(dh (48+u)).toNat=_;rw[gn];omega
theorem o5 {u:Nat}(h:u<10):cu (48+u).toUInt8=true/\dv (48+u).toUInt8=u:=by
 rw[kO];unfold dv;rw[P2 h];omega
theorem P3:∀(n u:Nat) (s:List UInt8),u<=n->u<=4611686018427387903->js 0 (tx u s)=js u s:=by
 intro n
 induction n with
 | zero=>
   intro u s h1 h2;have:u=0:=by omega
   subst this;rw[tx,if_pos (by omega)];rw[js,if_pos ⟨(o5 (by omega)).1,by rw[(o5 (u:=0) (by omega)).2];omega⟩,(o5 (u:=0) (by omega)).2]
 | succ n ih=>
   intro u s h1 h2;rw[tx]
   by_cases h:u<10
   . rw[if_pos h,js,if_pos ⟨(o5 h).1,aN _⟩,(o5 h).2];congr 1;omega
   . rw[if_neg h,ih (u/10) _ (by omega) (by omega)];have hm:u%10<10:=dV _ (by omega);rw[js,if_pos ⟨(o5 hm).1,by rw[(o5 hm).2];omega⟩,(o5 hm).2];congr 1;omega
theorem ZJ (u:Nat)(s:List UInt8):tx u s≠[]:=by
 induction u using iH generalizing s with
 | _ u ih=>
   rw[tx]
   by_cases h:u<10
   . rw[if_pos h];simp
   . rw[if_neg h];exact ih (u/10) (by omega) _
theorem L7 (n:Int)(h0:0<=n)(h1:n<=4611686018427387903):dw (uh n)=(⟨1,[],n,0⟩,true):=by
 have e:uh n=tx n.natAbs []:=if_neg (by omega);have e2:js 0 (uh n)=some n.natAbs:=by rw[e,P3 n.natAbs n.natAbs [] (ax _) (by omega)];rfl
 have e3:m5 (uh n)=(n,true):=by
  unfold m5;rw[e2];have:decide (uh n=[])=false:=by rw[e];simpa using ZJ _ _
  rw[this];show((n.natAbs:Int),true)=_;congr 1;omega
 unfold dw;rw[e3,if_pos rfl]
theorem KE:∀n,n<16->eR (hx n)=n:=by decide
theorem ZK (c:UInt8)(r:List UInt8):eo (qc c++r)=(c,(qc c).length):=by
 have hc:=c.toNat_lt;unfold qc
 by_cases h1:c.toNat=34\/c.toNat=92
 . rw[if_pos h1];show eo (92::c::r)=(c,2);rw[gB,if_neg (by decide),if_pos (by decide),fp];rcases h1 with h | h
   . rw[if_pos h,show c=34 from bJ.1 h]
   . rw[if_neg (by omega),if_pos h,show c=92 from bJ.1 h]
 rw[if_neg h1]
 by_cases h2:c.toNat=10
 . rw[if_pos h2,show c=10 from bJ.1 h2];rfl
 rw[if_neg h2]
 by_cases h3:c.toNat=9
 . rw[if_pos h3,show c=9 from bJ.1 h3];rfl
 rw[if_neg h3]
 by_cases h4:c.toNat<32\/126<c.toNat
 . rw[if_pos h4];show eo (92::120::hx (c.toNat/16)::hx (c.toNat%16)::r)=(c,4);rw[gB,if_neg (by decide),if_pos (by decide),fp,if_neg (by decide),if_neg (by decide),if_neg (by decide),if_neg (by decide),if_pos (by decide)];show(if 0<=eR (hx (c.toNat/16))/\0<=eR (hx (c.toNat%16))then(dh (16*eR (hx (c.toNat/16))+eR (hx (c.toNat%16))).toNat,4)else(0,0):UInt8×Nat)=_;rw[KE _ (by omega),KE _ (by omega),if_pos ⟨by omega,by omega⟩];congr 1;rw[<- bJ,gn];omega
 rw[if_neg h4];show eo (c::r)=(c,1);rw[gB,if_neg (by omega),if_neg (by omega)]
theorem ZL (c:UInt8):1<=(qc c).length:=by
 unfold qc;split<;>(try split)<;>(try split)<;>(try split)<;>simp
theorem KF:∀(l:List UInt8) (f:Nat) (out:List UInt8),(qs l).length<=f->Fi f (qs l++[34]) out=(out++l,true)
 | [],f,out,h=>by
   rw[bf];cases f with
   | zero=>rfl
   | succ f=>exact if_pos (by simp[qs])
 | c::l,f,out,h=>by
   have e:qs (c::l)=qc c++qs l:=rfl;rw[e,aj]at h;have hp:=ZL c;cases f with
   | zero=>omega
   | succ f=>
     rw[e,bn];have hs:=ZK c (qs l++[34]);show(if(qc c++(qs l++[34])).length<=1 then _ else if(eo (qc c++(qs l++[34]))).2=0 then _ else Fi f ((qc c++(qs l++[34])).drop (eo (qc c++(qs l++[34]))).2) (out++[(eo (qc c++(qs l++[34]))).1]):List UInt8×Bool)=_;rw[if_neg (by simp;omega),hs,if_neg (by show ¬(qc c).length=0;omega)];show Fi f ((qc c++(qs l++[34])).drop (qc c).length) (out++[c])=_;rw[List.drop_left,KF l f _ (by omega),bn];rfl
theorem P4 (l:List UInt8):mL (quote l)=(l,true):=by
 unfold mL quote;rw[if_neg (by simp[first])];show Fi _ (qs l++[34]) []=_;rw[KF l _ [] (by simp;omega)];rfl
theorem ZM (l:List UInt8):m5 (quote l)=(0,false):=by
 unfold m5 quote;rw[js,if_neg (λq=>by have:=q.1;revert this;decide)]
theorem L_ (l:List UInt8):dw (quote l)=(⟨2,l,0,0⟩,true):=by
 unfold dw qO;rw[ZM,if_neg (by simp),P4,if_pos rfl]
theorem sU {s:List UInt8}(h:(m5 s).2=true):jd s=true:=by
 cases s with
 | nil=>revert h;decide
 | cons c r=>
   unfold m5 at h;rw[js]at h
   by_cases hc:cu c=true
   . exact hc
   . rw[if_neg (λq=>hc q.1)]at h;cases h
theorem qi {s:List UInt8}(h:(mL s).2=true):first s 34=true:=by
 unfold mL at h;cases hf:first s 34 with
 | true=>rfl
 | false=>rw[if_pos (.inr hf)]at h;cases h
theorem P5:∀x∈bB,jd x=false/\first x 34=false/\isWord x=false/\isVar x=false:=by decide
theorem qj {s:List UInt8}(h:bB.contains s=true):jd s=false/\first s 34=false/\isWord s=false/\isVar s=false:=P5 s (by simpa using h)
theorem wY {k n a:Int}{s:List UInt8}(h0:k≠0)(h1:k≠1)(h2:k≠2):cP ⟨k,s,n,a⟩=if k=7 then decide (n=0)&&bB.contains s else if k=5 then isVar s&&decide (n=0)else if k=3\/k=4\/k=6 then isWord s&&(decide (n=0)&&decide (iA s=k))else false:=by
 unfold cP;rw[if_neg h0,if_neg h1,if_neg h2]
theorem y6 {k n a:Int}{s:List UInt8}(h0:k≠0)(h1:k≠1)(h2:k≠2)(hs:bB.contains s=false)(hv:isVar s=false)(hw:isWord s=false):cP ⟨k,s,n,a⟩=false:=by
 rw[wY h0 h1 h2,hs,hv,hw];split
 . simp
 . split
   . rfl
   . split<;>rfl
theorem P6 (t:Tok):KD t=cP t:=by
 obtain⟨k,s,n,a⟩:=t;unfold KD
 by_cases h0:k=0
 . subst h0;rfl
 show(if k=0 then _ else if k=1/\(n<0\/4611686018427387903<n)then false else(dw (ck ⟨k,s,n,a⟩)).2&&(decide ((dw (ck ⟨k,s,n,a⟩)).1.k=k)&&(decide ((dw (ck ⟨k,s,n,a⟩)).1.s=s)&&decide ((dw (ck ⟨k,s,n,a⟩)).1.n=n))))=_;rw[if_neg h0]
 by_cases h1:k=1
 . subst h1;have e:cP ⟨1,s,n,a⟩=(decide (s=[])&&(decide (0<=n)&&decide (n<=4611686018427387903))):=rfl
   by_cases hr:n<0\/4611686018427387903<n
   . rw[if_pos ⟨rfl,hr⟩,e];rcases hr with h | h
     . rw[show decide (0<=n)=false by simp;omega];simp
     . rw[show decide (n<=4611686018427387903)=false by simp;omega];simp
   . rw[if_neg (λq=>hr q.2)];have et:ck ⟨1,s,n,a⟩=uh n:=rfl;rw[et,L7 n (by omega) (by omega),e,show decide (0<=n)=true by simp;omega,show decide (n<=4611686018427387903)=true by simp;omega];show(true&&(decide ((1:Int)=1)&&(decide ([]=s)&&decide (n=n))))=_;simp[eq_comm]
 rw[if_neg (λq=>h1 q.1)]
 by_cases h2:k=2
 . subst h2;have et:ck ⟨2,s,n,a⟩=quote s:=rfl;rw[et,L_];show(true&&(decide ((2:Int)=2)&&(decide (s=s)&&decide (0=n))))=decide (n=0);simp[eq_comm]
 have et:ck ⟨k,s,n,a⟩=s:=by
  show(if k=1 then _ else if k=2 then _ else s)=s;rw[if_neg h1,if_neg h2]
 rw[et];unfold dw
 by_cases hn:(m5 s).2=true
 . rw[if_pos hn,y6 h0 h1 h2 (by cases h:bB.contains s with
    | false=>rfl
    | true=>have:=(qj h).1;rw[sU hn]at this;cases this) (by cases h:isVar s with
    | false=>rfl
    | true=>have:=(o4 h).1;rw[sU hn]at this;cases this) (by cases h:isWord s with
    | false=>rfl
    | true=>have:=(nN h).1;rw[sU hn]at this;cases this)]
   show(true&&(decide (1=k)&&_))=false;rw[show decide (1=k)=false by simp;omega];rfl
 rw[if_neg hn];unfold qO
 by_cases hq:(mL s).2=true
 . rw[if_pos hq,y6 h0 h1 h2 (by cases h:bB.contains s with
    | false=>rfl
    | true=>have:=(qj h).2.1;rw[qi hq]at this;cases this) (by cases h:isVar s with
    | false=>rfl
    | true=>have:=(o4 h).2.1;rw[qi hq]at this;cases this) (by cases h:isWord s with
    | false=>rfl
    | true=>have:=(nN h).2.1;rw[qi hq]at this;cases this)]
   show(true&&(decide (2=k)&&_))=false;rw[show decide (2=k)=false by simp;omega];rfl
 rw[if_neg hq];have hk:=PQ s
 by_cases hw:isWord s=true
 . rw[if_pos hw,wY h0 h1 h2];have hs:bB.contains s=false:=by cases h:bB.contains s with
    | false=>rfl
    | true=>have:=(qj h).2.2.1;rw[hw]at this;cases this
   have hv:isVar s=false:=by cases h:isVar s with
    | false=>rfl
    | true=>have:=(o4 h).2.2;rw[(nN hw).2.2]at this;cases this
   show(true&&(decide (iA s=k)&&(decide (s=s)&&decide (0=n))))=_;rw[hs,hv,hw]
   by_cases h7:k=7
   . rw[if_pos h7,show decide (iA s=k)=false by simp;omega];simp
   rw[if_neg h7]
   by_cases h5:k=5
   . rw[if_pos h5,show decide (iA s=k)=false by simp;omega];simp
   rw[if_neg h5]
   by_cases h3:k=3\/k=4\/k=6
   . rw[if_pos h3];simp[eq_comm,cc]
   . rw[if_neg h3,show decide (iA s=k)=false by simp;omega];simp
 rw[if_neg hw];have hw':isWord s=false:=by simpa using hw
 by_cases hv:isVar s=true
 . rw[if_pos hv,wY h0 h1 h2];have hs:bB.contains s=false:=by cases h:bB.contains s with
    | false=>rfl
    | true=>have:=(qj h).2.2.2;rw[hv]at this;cases this
   show(true&&(decide (5=k)&&(decide (s=s)&&decide (0=n))))=_;rw[hs,hv,hw']
   by_cases h7:k=7
   . rw[if_pos h7,show decide (5=k)=false by simp;omega];simp
   rw[if_neg h7]
   by_cases h5:k=5
   . rw[if_pos h5];subst h5;simp[eq_comm]
   rw[if_neg h5,show decide (5=k)=false by simp;omega];split<;>simp
 rw[if_neg hv];have hv':isVar s=false:=by simpa using hv
 by_cases hs:bB.contains s=true
 . rw[if_pos hs,wY h0 h1 h2];show(true&&(decide (7=k)&&(decide (s=s)&&decide (0=n))))=_;rw[hs,hv',hw']
   by_cases h7:k=7
   . rw[if_pos h7];subst h7;simp[eq_comm]
   rw[if_neg h7,show decide (7=k)=false by simp;omega];split
   . simp
   . split<;>simp
 rw[if_neg hs,y6 h0 h1 h2 (by simpa using hs) hv' hw'];rfl
theorem qP (k:Int)(s:List UInt8)(hl:s.length<=200000)(hk:k=3\/k=4\/k=5):P0 88 [i64 k,aK s] (.bool (ee k s)):=Pure.of rfl λH nx=>by
 have h36:=abW ⟨k,s,0,0⟩ (show rg 0 by unfold rg;omega) hl;rw[P6]at h36;rw[q88];simp only[af,gH];refine Wq.call h36 (.refl _ _) λH1 aI hA1=> ?_;simp only[af];exact Wq.ret hA1
section
variable {nx0:Nat}{H0:T OB}
mutual
def bk.z:bk->Nat
 | .mk _ _ s l=>1+s.length/8+dP l
def dP:List bk->Nat
 | []=>0
 | p::l=>p.z+dP l
end
mutual
def bI.z:bI->Nat
 | .mk _ s l=>1+s.length/8+kP l
def kP:List bI->Nat
 | []=>0
 | p::l=>p.z+kP l
end
def eO.z (c:eO):Nat:=1+c.s.length/8+kP c.arg
def l6:List (List UInt8)->Nat
 | []=>0
 | s::l=>1+s.length/8+l6 l
def kG:List eO->Nat
 | []=>0
 | c::l=>c.z+kG l
def Data.z (x:Data):Nat:=l6 x.vars+x.s.length/8+kG x.cons
mutual
def aO.z:aO->Nat
 | .mk _ _ s l p d=>1+s.length/8+eX l+dP p+dF d
def bm.z:bm->Nat
 | .mk _ p e f x c=>1+p.z+e.z+qw f+x.z+c.z
def Fn.z:Fn->Nat
 | .mk s p b=>1+s.length/8+b.z+dP p
def eX:List aO->Nat
 | []=>0
 | e::l=>e.z+eX l
def dF:List bm->Nat
 | []=>0
 | e::l=>e.z+dF l
def qw:List Fn->Nat
 | []=>0
 | e::l=>e.z+qw l
end
theorem bk.hZ (p:bk):p.z=1+p.s.length/8+dP p.l:=by cases p;rw[bk.z];rfl
theorem bI.hZ (p:bI):p.z=1+p.s.length/8+kP p.l:=by cases p;rw[bI.z];rfl
theorem aO.hZ (e:aO):e.z=1+e.s.length/8+eX e.l+dP e.p+dF e.d:=by cases e;rw[aO.z];rfl
theorem bm.hZ (d:bm):d.z=1+d.p.z+d.e.z+qw d.f+d.x.z+d.c.z:=by cases d;rw[bm.z];rfl
theorem Fn.hZ (f:Fn):f.z=1+f.s.length/8+f.b.z+dP f.p:=by cases f;rw[Fn.z];rfl
theorem AH {l:List bk}{c:bk}(h:c∈l):c.z<=dP l:=by
 induction l with
 | nil=>cases h
 | cons a l ih=>
   rw[dP];rcases aG.1 h with rfl | h
   . omega
   . have:=ih h;omega
theorem Ma (l:List bk):l.length<=dP l:=by
 induction l with
 | nil=>simp
 | cons a l ih=>
   rw[dP,ao];have:1<=a.z:=by rw[bk.hZ];omega
   omega
theorem P7 {l:List bI}{c:bI}(h:c∈l):c.z<=kP l:=by
 induction l with
 | nil=>cases h
 | cons a l ih=>
   rw[kP];rcases aG.1 h with rfl | h
   . omega
   . have:=ih h;omega
theorem P8 (l:List bI):l.length<=kP l:=by
 induction l with
 | nil=>simp
 | cons a l ih=>
   rw[kP,ao];have:1<=a.z:=by rw[bI.hZ];omega
   omega
theorem Mb {l:List aO}{c:aO}(h:c∈l):c.z<=eX l:=by
 induction l with
 | nil=>cases h
 | cons a l ih=>
   rw[eX];rcases aG.1 h with rfl | h
   . omega
   . have:=ih h;omega
theorem AI {l:List bm}{c:bm}(h:c∈l):c.z<=dF l:=by
 induction l with
 | nil=>cases h
 | cons a l ih=>
   rw[dF];rcases aG.1 h with rfl | h
   . omega
   . have:=ih h;omega
theorem Fl {l:List Fn}{c:Fn}(h:c∈l):c.z<=qw l:=by
 induction l with
 | nil=>cases h
 | cons a l ih=>
   rw[qw];rcases aG.1 h with rfl | h
   . omega
   . have:=ih h;omega
theorem Mc {l:List eO}{c:eO}(h:c∈l):c.z<=kG l:=by
 induction l with
 | nil=>cases h
 | cons a l ih=>
   rw[kG];rcases aG.1 h with rfl | h
   . omega
   . have:=ih h;omega
theorem Md {l:List (List UInt8)}{c:List UInt8}(h:c∈l):c.length/8<=l6 l:=by
 induction l with
 | nil=>cases h
 | cons a l ih=>
   rw[l6];rcases aG.1 h with rfl | h
   . omega
   . have:=ih h;omega
def o6 (k n:Int)(s:List UInt8)(l:List bk):Bool:=
 (decide (k=3)||decide (n=0))&&(
 if k=1 then decide (s=[])&&decide (l.length=0)
 else if k=2 then ee 3 s&&decide (l.length=0)
 else if k=3 then decide (s=[])&&(decide (l.length=0)&&(decide (-4611686018427387903<=n)&&decide (n<=4611686018427387903)))
 else if k=4 then decide (l.length=0)
 else if k=5 then decide (s=[]) && !decide (l.length=1)
 else if k=6 then if s=[58,58]then(match l with | [q]=>decide (q.k=5)&&decide (q.l.length=2) | _=>false)else ee 4 s&&decide (l.length<=1)
 else false)
mutual
def dN:bk->Bool
 | .mk k n s l=>cK l&&o6 k n s l
def cK:List bk->Bool
 | []=>true
 | p::l=>dN p&&cK l
end
theorem kW (p:bk):dN p=(cK p.l&&o6 p.k p.n p.s p.l):=by cases p;rw[dN];rfl
def Fm (k:Int)(s:List UInt8)(n:Nat):Bool:=
 if k=1 then decide (n=0)&&ee 5 s
 else if k=2 then decide (s=[114,101,102])||ee 3 s
 else if k=3 then decide (n=2)&&decide (s=[])
 else if k=4 then decide (2<=n)&&decide (s=[])else false
mutual
def mN:bI->Bool
 | .mk k s l=>mz l&&Fm k s l.length
def mz:List bI->Bool
 | []=>true
 | p::l=>mN p&&mz l
end
theorem Dd (p:bI):mN p=(mz p.l&&Fm p.k p.s p.l.length):=by cases p;rw[mN];rfl
def nO (c:eO):Bool:=ee 4 c.s&&(decide (c.arg.length<=1)&&mz c.arg)
def lk:List eO->Bool
 | []=>true
 | c::l=>nO c&&lk l
def l7:List (List UInt8)->Bool
 | []=>true
 | s::l=>ee 5 s&&l7 l
def fy (e:aO):aO:= .mk e.k (if e.k=1 then e.n else 0) (if e.k=2\/e.k=3\/e.k=4\/e.k=14\/e.k=15 then e.s else[]) (if e.k=1\/e.k=2\/e.k=3\/e.k=4 then[]else e.l) (if e.k=7\/e.k=9\/e.k=12 then e.p else[]) (if e.k=10 then e.d else[])
abbrev De:bk:= .mk 0 0 [] []
abbrev Fo:aO:= .mk 0 0 [] [] [] []
abbrev sV:Data:=⟨[],[],[]⟩
abbrev Df:eO:=⟨[],[]⟩
def eJ (d:bm):bm:= .mk d.k (if d.k=1 then d.p else De) (if d.k=1\/d.k=5 then d.e else Fo) (if d.k=2 then d.f else[]) (if d.k=3 then d.x else sV) (if d.k=4 then d.c else Df)
def iC (k n:Int)(s:List UInt8)(len np:Nat)(ds:List bm):Bool:=
 if k=1 then decide (0<=n)&&decide (n<=4611686018427387903)
 else if k=2 then true
 else if k=3 then ee 3 s
 else if k=4 then ee 4 s
 else if k=5 then !decide (len=1)
 else if k=13 then decide (1<len)
 else if k=6 then decide (len=2)
 else if k=7 then decide (0<len)&&decide (np=len)
 else if k=8 then decide (len=3)
 else if k=9\/k=12 then decide (1<len)&&decide (np+1=len)
 else if k=11 then decide (len=1)
 else if k=14 then decide (len=2)&&lY.contains s
 else if k=15 then decide (len=1)&&fh.contains s
 else if k=10 then(ds.all λd=>decide (d.k=1)||decide (d.k=2))&&decide (len=1)
 else false
mutual
def dt:aO->Bool
 | .mk k n s l p d=>cD l&&(fo (fy (.mk k n s l p d)) (.mk k n s l p d)&&(cK p&&(eK d&&iC k n s l.length p.length d)))
def jt:bm->Bool
 | .mk k p e f x c=>if k=1 then fo (eJ (.mk k p e f x c)) (.mk k p e f x c)&&(dN p&&dt e)
   else if k=5 then fo (eJ (.mk k p e f x c)) (.mk k p e f x c)&&dt e
   else if k=2 then o7 f&&(decide (0<f.length)&&fo (eJ (.mk k p e f x c)) (.mk k p e f x c))
   else if k=3 then l7 x.vars&&(lk x.cons&&(ee 3 x.s&&(decide (0<x.cons.length)&&fo (eJ (.mk k p e f x c)) (.mk k p e f x c))))
   else if k=4 then nO c&&fo (eJ (.mk k p e f x c)) (.mk k p e f x c)
   else false
def RS:Fn->Bool
 | .mk s p b=>ee 3 s&&(decide (0<p.length)&&(cK p&&dt b))
def cD:List aO->Bool
 | []=>true
 | e::l=>dt e&&cD l
def eK:List bm->Bool
 | []=>true
 | e::l=>jt e&&eK l
def o7:List Fn->Bool
 | []=>true
 | e::l=>RS e&&o7 l
end
theorem Dg (e:aO):dt e=(cD e.l&&(fo (fy e) e&&(cK e.p&&(eK e.d&&iC e.k e.n e.s e.l.length e.p.length e.d)))):=by cases e;rw[dt];rfl
theorem y7 (e:Fn):RS e=(ee 3 e.s&&(decide (0<e.p.length)&&(cK e.p&&dt e.b))):=by cases e;rw[RS];rfl
theorem sW (d:bm):jt d=(if d.k=1 then fo (eJ d) d&&(dN d.p&&dt d.e)
 else if d.k=5 then fo (eJ d) d&&dt d.e
 else if d.k=2 then o7 d.f&&(decide (0<d.f.length)&&fo (eJ d) d)
 else if d.k=3 then l7 d.x.vars&&(lk d.x.cons&&(ee 3 d.x.s&&(decide (0<d.x.cons.length)&&fo (eJ d) d)))
 else if d.k=4 then nO d.c&&fo (eJ d) d else false):=by cases d;rw[jt];rfl
end
section
variable {nx0:Nat}{H0:T OB}
theorem W1 (l:List bk)(hl:l.length<ei)(ih:∀a,a∈l->P0 86 [a.v] (.bool (dN a))):P0 89 [cL l] (.bool (cK l)):=Pure.of rfl λH nx=>by
 rw[q89];refine Wq.each (l) (λi (_:Unit) H nx=> .jump (JS (cL l) (i64 (i:Int)) H nx)) (λt (_:Unit)=> .bool (cK t)) (λs0 H0 nx0 hA0=> ?_) (λi0 a0 t0 s0 H0 nx0 hg0 hlt0 hd0 hA0 ih0=> ?_) (()) _ _ (.refl _ _)
 . refine Wq.jmp (Wy ..) (λ_=>rfl) ?_;simp only[af,aL,aa,aF];exact Wq.ret hA0
 . have hx0:((l).map bk.v)[i0]? = some (bk.v a0):=by simp[hg0]
   have hm0:=ak hg0;refine Wq.jmp (Wy ..) (λ_=>rfl) ?_;simp only[af,aL,aa,aJ hlt0,jI hx0];refine Wq.call (ih a0 hm0) hA0 λH2 nx2 hA2=> ?_;rw[cK];cases dN a0 with
   | false=>simp only[af,aE];exact Wq.ret hA2
   | true=>
     simp only[af,ai,az (show i0<9223372036854775807 by have:=cv hl;omega)];exact ih0 () _ _ hA2
theorem jO (n:Nat):decide ((n:Int)=0)=decide (n=0):=by rw[decide_eq_decide];omega
theorem nat_eq (n:Nat)(m:Nat):decide ((n:Int)=(m:Int))=decide (n=m):=by rw[decide_eq_decide];omega
theorem qk (n:Nat):decide ((n:Int)=1)=decide (n=1):=nat_eq n 1
theorem nP (n:Nat):decide ((n:Int)=2)=decide (n=2):=nat_eq n 2
theorem TN (n:Nat):decide ((n:Int)=3)=decide (n=3):=nat_eq n 3
theorem wZ (n:Nat):decide ((n:Int)<=1)=decide (n<=1):=by rw[decide_eq_decide];omega
theorem KG (n:Nat):decide (2<=(n:Int))=decide (2<=n):=by rw[decide_eq_decide];omega
theorem kX (n:Nat):decide (1<(n:Int))=decide (1<n):=by rw[decide_eq_decide];omega
theorem jP (n:Nat):decide (0<(n:Int))=decide (0<n):=by rw[decide_eq_decide];omega
theorem ZN (p:bk)(hs:p.s.length<=200000)(ih:P0 89 [cL p.l] (.bool (cK p.l))):P0 86 [p.v] (.bool (dN p)):=Pure.of rfl λH nx=>by
 rw[q86,kW];refine Wq.gi (.refl _ _) λhA=> ?_;simp only[af,aL,aa];refine Wq.call ih hA λH1 aI hA1=> ?_;have Lt:∀H1 aI,Ag nx H aI H1->Wq P pl X0 (.jump (AD (ah p.v) true H1 aI)) nx H (.bool false):=by
  intro H1 aI hA1;refine Wq.jmp (Ww ..) (λ_=>rfl) ?_;exact Wq.ret hA1
 cases h0:cK p.l with
 | false=>simp only[af];exact Lt _ _ hA1
 | true=>
 rw[ai];unfold o6;have Lf:(decide (p.k=3)||decide (p.n=0))=true->Wq P pl X0 (.jump (AD (ah p.v) false H1 aI)) nx H (.bool ((decide (p.k=3)||decide (p.n=0))&&(
  if p.k=1 then decide (p.s=[])&&decide (p.l.length=0)
  else if p.k=2 then ee 3 p.s&&decide (p.l.length=0)
  else if p.k=3 then decide (p.s=[])&&(decide (p.l.length=0)&&(decide (-4611686018427387903<=p.n)&&decide (p.n<=4611686018427387903)))
  else if p.k=4 then decide (p.l.length=0)
  else if p.k=5 then decide (p.s=[]) && !decide (p.l.length=1)
  else if p.k=6 then if p.s=[58,58]then(match p.l with | [q]=>decide (q.k=5)&&decide (q.l.length=2) | _=>false)else ee 4 p.s&&decide (p.l.length<=1)
  else false))):=by
  intro h;rw[h,ai];refine Wq.jmp (Ww ..) (λ_=>rfl) ?_;simp only[af,aL,aa,dL,jO,qk,wZ];refine Wq.ite (λg=> ?_) (λg1=> ?_)
  . rw[if_pos g];refine Wq.bK (λh=> ?_) (λh=> ?_)
    . rw[h,ai];exact Wq.ret hA1
    . rw[h,aE];exact Wq.ret hA1
  rw[if_neg g1];refine Wq.ite (λg=> ?_) (λg2=> ?_)
  . rw[if_pos g];refine Wq.call (qP 3 _ hs (by simp)) hA1 λH2 nx2 hA2=> ?_;simp only[af];refine Wq.bK (λh=> ?_) (λh=> ?_)
    . rw[h,ai];exact Wq.ret hA2
    . rw[h,aE];exact Wq.ret hA2
  rw[if_neg g2];refine Wq.ite (λg=> ?_) (λg3=> ?_)
  . rw[if_pos g];refine Wq.bK (λh=> ?_) (λh=> ?_)
    . rw[h,ai];refine Wq.bK (λh=> ?_) (λh=> ?_)
      . rw[h,ai];refine Wq.bK (λh=> ?_) (λh=> ?_)
        . rw[h,ai];exact Wq.ret hA1
        . rw[h,aE];exact Wq.ret hA1
      . rw[h,aE];exact Wq.ret hA1
    . rw[h,aE];exact Wq.ret hA1
  rw[if_neg g3];refine Wq.ite (λg=> ?_) (λg4=> ?_)
  . rw[if_pos g];exact Wq.ret hA1
  rw[if_neg g4];refine Wq.ite (λg=> ?_) (λg5=> ?_)
  . rw[if_pos g];refine Wq.bK (λh=> ?_) (λh=> ?_)
    . rw[h,ai];exact Wq.ret hA1
    . rw[h,aE];exact Wq.ret hA1
  rw[if_neg g5];refine Wq.ite (λg=> ?_) (λg6=> ?_)
  . rw[if_pos g];refine Wq.ite (λg7=> ?_) (λg7=> ?_)
    . rw[if_pos g7]
      match hl:p.l with
      | []=>simp only[af];exact Wq.ret hA1
      | [q]=>
        have hx:(p.l.map bk.v)[0]? = some q.v:=by rw[hl];rfl
        have hx':=jI hx .i64;rw[show((0:Nat):Int)=0 from rfl]at hx';rw[hl]at hx';simp only[af,aL,aa,ao,c_,hx',nP];refine Wq.bK (λh=> ?_) (λh=> ?_)
        . rw[h,ai];exact Wq.ret hA1
        . rw[h,aE];exact Wq.ret hA1
      | q::q'::r=>
        simp only[af,show decide ((q::q'::r).length=1)=false by simp];exact Wq.ret hA1
    . rw[if_neg g7];refine Wq.call (qP 4 _ hs (by simp)) hA1 λH2 nx2 hA2=> ?_;simp only[af];refine Wq.bK (λh=> ?_) (λh=> ?_)
      . rw[h,ai];exact Wq.ret hA2
      . rw[h,aE];exact Wq.ret hA2
  . rw[if_neg g6];exact Wq.ret hA1
 simp only[af];refine Wq.jr (λh3=> ?_) (λh3=>Lf (by simp[h3]))
 by_cases hn:p.n=0
 . have e:decide (p.n=0)=true:=by simp[hn]
   rw[e]at Lf ⊢;simp only[af];exact Lf (by simp)
 . have e:decide (p.n=0)=false:=by simp[hn]
   have e3:decide (p.k=3)=false:=by simp[h3]
   rw[e,e3];simp only[af];exact Lt _ _ hA1
theorem W2 (p:bk)(hp:p.ok)(hz:p.z<=500):P0 86 [p.v] (.bool (dN p)):=by
 refine bk.ind (p:=λp=>p.ok->p.z<=500->P0 86 [p.v] (.bool (dN p))) (λp ih hp hz=> ?_) p hp hz;rw[bk.br]at hp;rw[bk.hZ]at hz;exact ZN p (by omega) (W1 p.l hp.2.2.1 λa ha=>ih a ha (hp.2.2.2 a ha) (by have:=AH ha;omega))
theorem P9 (l:List bk)(hl:l.length<ei)(h:∀a,a∈l->a.ok)(hz:dP l<=500):P0 89 [cL l] (.bool (cK l)):=W1 l hl λa ha=>W2 a (h a ha) (by have:=AH ha;omega)
theorem TO (p:bI)(hs:p.s.length<=200000)(hl:p.l.length<ei)(ih:∀a,a∈p.l->P0 143 [a.v] (.bool (mN a))):P0 143 [p.v] (.bool (mN p)):=Pure.of rfl λH nx=>by
 rw[ad9,Dd];refine Wq.gi (.refl _ _) λhA=> ?_;refine Wq.each (p.l) (λi (_:Unit) H nx=> .jump (CJ (ah p.v) (i64 (i:Int)) H nx)) (λt (_:Unit)=> .bool (mz t&&Fm p.k p.s p.l.length)) (λs0 H0 nx0 hA0=> ?_) (λi0 a0 t0 s0 H0 nx0 hg0 hlt0 hd0 hA0 ih0=> ?_) (()) _ _ hA
 . refine Wq.jmp (OT ..) (λ_=>rfl) ?_;simp only[af,aL,aa,aF];rw[mz,ai];unfold Fm;simp only[af,jO,nP,KG,dL];refine Wq.ite (λg=> ?_) (λg1=> ?_)
   . rw[if_pos g];refine Wq.bK (λh=> ?_) (λh=> ?_)
     . rw[h,ai];refine Wq.call (qP 5 _ hs (by simp)) hA0 λH2 nx2 hA2=> ?_;simp only[af];exact Wq.ret hA2
     . rw[h,aE];exact Wq.ret hA0
   rw[if_neg g1];refine Wq.ite (λg=> ?_) (λg2=> ?_)
   . rw[if_pos g];refine Wq.bK (λh=> ?_) (λh=> ?_)
     . rw[h,gL];exact Wq.ret hA0
     . rw[h,bG];refine Wq.call (qP 3 _ hs (by simp)) hA0 λH2 nx2 hA2=> ?_;simp only[af];exact Wq.ret hA2
   rw[if_neg g2];refine Wq.ite (λg=> ?_) (λg3=> ?_)
   . rw[if_pos g];refine Wq.bK (λh=> ?_) (λh=> ?_)
     . rw[h,ai];exact Wq.ret hA0
     . rw[h,aE];exact Wq.ret hA0
   rw[if_neg g3];refine Wq.ite (λg=> ?_) (λg4=> ?_)
   . rw[if_pos g];refine Wq.bK (λh=> ?_) (λh=> ?_)
     . rw[h,ai];exact Wq.ret hA0
     . rw[h,aE];exact Wq.ret hA0
   . rw[if_neg g4];exact Wq.ret hA0
 . have hx0:((p.l).map bI.v)[i0]? = some (bI.v a0):=by simp[hg0]
   have hm0:=ak hg0;refine Wq.jmp (OT ..) (λ_=>rfl) ?_;simp only[af,aL,aa,aJ hlt0,mr hx0];refine Wq.call (ih a0 hm0) hA0 λH2 nx2 hA2=> ?_;rw[mz];cases mN a0 with
   | false=>simp only[af,aE];exact Wq.ret hA2
   | true=>
     simp only[af,ai,az (show i0<9223372036854775807 by have:=cv hl;omega)];exact ih0 () _ _ hA2
theorem ZO (p:bI)(hp:p.ok)(hz:p.z<=500):P0 143 [p.v] (.bool (mN p)):=by
 refine bI.ind (p:=λp=>p.ok->p.z<=500->P0 143 [p.v] (.bool (mN p))) (λp ih hp hz=> ?_) p hp hz;rw[bI.br]at hp;rw[bI.hZ]at hz;exact TO p (by omega) hp.2.1 λa ha=>ih a ha (hp.2.2 a ha) (by have:=P7 ha;omega)
theorem W3 (c:eO)(hc:c.ok)(hz:c.z<=500):P0 90 [c.v] (.bool (nO c)):=Pure.of rfl λH nx=>by
 unfold eO.z at hz;have hs:c.s.length<=200000:=by omega
 rw[q90];unfold nO;refine Wq.gi (.refl _ _) λhA=> ?_;simp only[af,aL,aa,wZ,jO];refine Wq.call (qP 4 _ hs (by simp)) hA λH2 nx2 hA2=> ?_;simp only[af];refine Wq.bK (λh=> ?_) (λh=> ?_)
 . rw[h,ai]
   match hl:c.arg with
   | []=>simp only[af];exact Wq.ret hA2
   | [t]=>
     have hx:(c.arg.map bI.v)[0]? = some t.v:=by rw[hl];rfl
     have hx':=mr hx .i64;rw[show((0:Nat):Int)=0 from rfl]at hx';rw[hl]at hx';simp only[af,aL,aa,show decide ([t].length<=1)=true by simp,show decide ([t].length=0)=false by simp,hx'];refine Wq.call (ZO t (hc.2.2 t (by rw[hl];simp)) (by rw[hl]at hz;simp only[kP]at hz;omega)) hA2 λH3 nx3 hA3=> ?_;simp only[af];refine Wq.ij ?_ hA3;rw[mz,mz,aW,ai]
   | t::t'::r=>
     simp only[af,show decide ((t::t'::r).length<=1)=false by simp];exact Wq.ret hA2
 . rw[h,aE];exact Wq.ret hA2
end
section
variable {nx0:Nat}{H0:T OB}
theorem abX (k:Int)(l:List Value):cA P 44 (some [(0,i64 k),(3,bM 6 l)])=some (.agg ⟨[i64 k,i64 0,aK [],bM 6 l,.slice none 0 0,.slice none 0 0]⟩):=cf de (by kernel_rfl)
abbrev di:Value:= .slice none 0 0
theorem abY (e:aO)(H:T OB)(nx:Nat)(hA:Ag nx0 H0 nx H):e8 P pl X0 (aX P pl (.call 141 [e.v] false none H nx)) nx0 H0 (λv _ _=>vk (fy e) v):=by
 rw[ad7];refine Wq.gi hA λhA=> ?_;refine Wq.alloc de hA λH1 hb0 _ hA1=> ?_;simp only[af,aL,aa,abX];refine Wq.alloc de hA1 λH2 hb6 k2 hA2=> ?_;replace hb0:=k2 _ _ _ (by omega) hb0;refine Wq.store hb6 dE (by simp) rfl rfl hA2 (by have:=hA.1;omega) λH3 hb6 k3 hA3=> ?_;replace hb0:=k3 _ _ _ (by omega) hb0;replace hb6:dO H3 (nx+1+1) [i64 e.k,i64 0,aK [],fK e.l,di,di] 44:=hb6;clear k2 k3 hA1 hA2;have hn0:nx0<=nx+1:=hA.1;have E:∀(a b c d f g:Value) H' nx',dO H' (nx+1+1) [a,b,c,d,f,g] 44->dO H' (nx+1) [i64 0,i64 0,aK [],di,di,di] 44->aC a=true->aC b=true->aC c=true->aC d=true->aC f=true->aC g=true->Ag nx0 H0 nx' H'->vk (fy e) (.agg ⟨[a,b,c,d,f,g]⟩)->
  e8 P pl X0 (aw (aA P H' 44 (some (.pointer (some ⟨nx+1+1,0,none⟩)))) (λx=>bU (eD P H' nx' 44 (some (.pointer (some ⟨nx+1,0,none⟩))) (some x)) (λ_ H nx''=>aw (aA P H 44 (some (.pointer (some ⟨nx+1,0,none⟩)))) (λx=> .ret ⟨.ret x,false,H,nx''⟩) .bad)) .bad) nx0 H0 (λv _ _=>vk (fy e) v):=by
  intro a b c d f g H' nx' h6 h0 oa ob oc od of og hA' hV;rw[cR h6 fY dE (by simp)];refine Wq.store h0 dE (by simp) rfl (by simp[Value.cells,oa,ob,oc,od,of,og]) hA' hn0 λH4 hb _ hA4=> ?_;have hb':dO H4 (nx+1) [a,b,c,d,f,g] 44:=hb;rw[cR hb' fY dE (by simp)];exact Wq.mf hA4 hV
 refine Wq.ite (λg1=> ?_) (λg1=> ?_)
 . simp only[af,vE];refine Wq.put hb6 Sx rfl rfl (by simp) rfl hA3 (by omega) λH4 hb6 k4 hA4=> ?_;replace hb0:=k4 _ _ _ (by omega) hb0;refine Wq.put hb6 Ay rfl rfl (by simp) rfl hA4 (by omega) λH5 hb6 k5 hA5=> ?_;replace hb0:=k5 _ _ _ (by omega) hb0;refine Wq.jmp (SZ ..) (λ_=>rfl) ?_;refine E _ _ _ _ _ _ _ _ hb6 hb0 rfl rfl rfl rfl rfl rfl hA5 ?_;unfold fy;simp only[g1];exact⟨_,_,_,rfl,ka.nil 6,ka.nil 4,ka.nil 17⟩
 have L36:∀(b:Bool),b=(decide (e.k=7)||(decide (e.k=9)||decide (e.k=12)))->e.k≠2->e.k≠3->e.k≠4->e.k≠14->e.k≠15->e8 P pl X0 (.jump (sN (ah e.v) (.pointer (some ⟨nx+1,0,none⟩)) (.pointer (some ⟨nx+1+1,0,none⟩)) (i64 e.k) b H3 (nx+1+1+1))) nx0 H0 (λv _ _=>vk (fy e) v):=by
  intro b hb h2 h3 h4 h14 h15;refine Wq.jmp (S2 ..) (λ_=>rfl) ?_;cases b with
  | true=>
    simp only[af,aL,aa,vG];refine Wq.put hb6 EV rfl rfl (by simp) rfl hA3 (by omega) λH4 hb6 k4 hA4=> ?_;replace hb0:=k4 _ _ _ (by omega) hb0;refine E _ _ _ _ _ _ _ _ hb6 hb0 rfl rfl rfl rfl rfl rfl hA4 ?_;have hk:e.k=7\/e.k=9\/e.k=12:=by
     simp only[Bool.true_eq,bl,decide_eq_true_eq]at hb;exact hb
    refine⟨_,_,_,?_,(show ka 6 ((fy e).l.map aO.v) (fK e.l)from ?_),(show ka 4 ((fy e).p.map bk.v) (cL e.p)from ?_),(show ka 17 ((fy e).d.map bm.v) di from ?_)⟩
    . show _=Value.agg ⟨[i64 e.k,i64 (if e.k=1 then e.n else 0),aK (if e.k=2\/e.k=3\/e.k=4\/e.k=14\/e.k=15 then e.s else[]),_,_,_]⟩;rw[if_neg g1,if_neg (by omega)]
    . show ka 6 ((if e.k=1\/e.k=2\/e.k=3\/e.k=4 then[]else e.l).map aO.v) _;rw[if_neg (by omega)];exact .row _ _
    . show ka 4 ((if e.k=7\/e.k=9\/e.k=12 then e.p else[]).map bk.v) _;rw[if_pos hk];exact .row _ _
    . show ka 17 ((if e.k=10 then e.d else[]).map bm.v) _;rw[if_neg (by omega)];exact .nil _
  | false=>
    have hk:¬(e.k=7\/e.k=9\/e.k=12):=by
     simp only[Bool.false_eq,dy,decide_eq_false_iff_not]at hb;omega
    simp only[af,aL,aa,vH];refine Wq.ite (λg10=> ?_) (λg10=> ?_)
    . refine Wq.put hb6 yy rfl rfl (by simp) rfl hA3 (by omega) λH4 hb6 k4 hA4=> ?_;replace hb0:=k4 _ _ _ (by omega) hb0;refine E _ _ _ _ _ _ _ _ hb6 hb0 rfl rfl rfl rfl rfl rfl hA4 ?_;refine⟨_,_,_,?_,(show ka 6 ((fy e).l.map aO.v) (fK e.l)from ?_),(show ka 4 ((fy e).p.map bk.v) di from ?_),(show ka 17 ((fy e).d.map bm.v) (cb e.d)from ?_)⟩
      . show _=Value.agg ⟨[i64 e.k,i64 (if e.k=1 then e.n else 0),aK (if e.k=2\/e.k=3\/e.k=4\/e.k=14\/e.k=15 then e.s else[]),_,_,_]⟩;rw[if_neg g1,if_neg (by omega)]
      . show ka 6 ((if e.k=1\/e.k=2\/e.k=3\/e.k=4 then[]else e.l).map aO.v) _;rw[if_neg (by omega)];exact .row _ _
      . show ka 4 ((if e.k=7\/e.k=9\/e.k=12 then e.p else[]).map bk.v) _;rw[if_neg hk];exact .nil _
      . show ka 17 ((if e.k=10 then e.d else[]).map bm.v) _;rw[if_pos g10];exact .row _ _
    . refine E _ _ _ _ _ _ _ _ hb6 hb0 rfl rfl rfl rfl rfl rfl hA3 ?_;refine⟨_,_,_,?_,(show ka 6 ((fy e).l.map aO.v) (fK e.l)from ?_),(show ka 4 ((fy e).p.map bk.v) di from ?_),(show ka 17 ((fy e).d.map bm.v) di from ?_)⟩
      . show _=Value.agg ⟨[i64 e.k,i64 (if e.k=1 then e.n else 0),aK (if e.k=2\/e.k=3\/e.k=4\/e.k=14\/e.k=15 then e.s else[]),_,_,_]⟩;rw[if_neg g1,if_neg (by omega)]
      . show ka 6 ((if e.k=1\/e.k=2\/e.k=3\/e.k=4 then[]else e.l).map aO.v) _;rw[if_neg (by omega)];exact .row _ _
      . show ka 4 ((if e.k=7\/e.k=9\/e.k=12 then e.p else[]).map bk.v) _;rw[if_neg hk];exact .nil _
      . show ka 17 ((if e.k=10 then e.d else[]).map bm.v) _;rw[if_neg (by omega)];exact .nil _
 have L28:∀(b:Bool),b=(decide (e.k=14)||decide (e.k=15))->e.k≠2->e.k≠3->e.k≠4->e8 P pl X0 (.jump (wi (ah e.v) (.pointer (some ⟨nx+1,0,none⟩)) (.pointer (some ⟨nx+1+1,0,none⟩)) (i64 e.k) b H3 (nx+1+1+1))) nx0 H0 (λv _ _=>vk (fy e) v):=by
  intro b hb h2 h3 h4;refine Wq.jmp (S1 ..) (λ_=>rfl) ?_;cases b with
  | true=>
    have hk:e.k=14\/e.k=15:=by
     simp only[Bool.true_eq,bl,decide_eq_true_eq]at hb;exact hb
    simp only[af,aL,aa,sC];refine Wq.put hb6 lU rfl rfl (by simp) rfl hA3 (by omega) λH4 hb6 k4 hA4=> ?_;replace hb0:=k4 _ _ _ (by omega) hb0;refine E _ _ _ _ _ _ _ _ hb6 hb0 rfl rfl rfl rfl rfl rfl hA4 ?_;refine⟨_,_,_,?_,(show ka 6 ((fy e).l.map aO.v) (fK e.l)from ?_),(show ka 4 ((fy e).p.map bk.v) di from ?_),(show ka 17 ((fy e).d.map bm.v) di from ?_)⟩
    . show _=Value.agg ⟨[i64 e.k,i64 (if e.k=1 then e.n else 0),aK (if e.k=2\/e.k=3\/e.k=4\/e.k=14\/e.k=15 then e.s else[]),_,_,_]⟩;rw[if_neg g1,if_pos (by omega)]
    . show ka 6 ((if e.k=1\/e.k=2\/e.k=3\/e.k=4 then[]else e.l).map aO.v) _;rw[if_neg (by omega)];exact .row _ _
    . show ka 4 ((if e.k=7\/e.k=9\/e.k=12 then e.p else[]).map bk.v) _;rw[if_neg (by omega)];exact .nil _
    . show ka 17 ((if e.k=10 then e.d else[]).map bm.v) _;rw[if_neg (by omega)];exact .nil _
  | false=>
    have hk:e.k≠14/\e.k≠15:=by
     simp only[Bool.false_eq,dy,decide_eq_false_iff_not]at hb;exact hb
    simp only[af];refine Wq.ite (λg=>L36 _ (by simp[g]) h2 h3 h4 hk.1 hk.2) (λg7=> ?_);refine Wq.ite (λg=>L36 _ (by simp[g]) h2 h3 h4 hk.1 hk.2) (λg9=> ?_);exact L36 _ (by simp[g7,g9]) h2 h3 h4 hk.1 hk.2
 have L20:∀(b:Bool),b=(decide (e.k=2)||(decide (e.k=3)||decide (e.k=4)))->e8 P pl X0 (.jump (sM (ah e.v) (.pointer (some ⟨nx+1,0,none⟩)) (.pointer (some ⟨nx+1+1,0,none⟩)) (i64 e.k) b H3 (nx+1+1+1))) nx0 H0 (λv _ _=>vk (fy e) v):=by
  intro b hb;refine Wq.jmp (S0 ..) (λ_=>rfl) ?_;cases b with
  | true=>
    have hk:e.k=2\/e.k=3\/e.k=4:=by
     simp only[Bool.true_eq,bl,decide_eq_true_eq]at hb;exact hb
    simp only[af,aL,aa,sC,vF];refine Wq.put hb6 lU rfl rfl (by simp) rfl hA3 (by omega) λH4 hb6 k4 hA4=> ?_;replace hb0:=k4 _ _ _ (by omega) hb0;refine Wq.put hb6 Ay rfl rfl (by simp) rfl hA4 (by omega) λH5 hb6 k5 hA5=> ?_;replace hb0:=k5 _ _ _ (by omega) hb0;refine E _ _ _ _ _ _ _ _ hb6 hb0 rfl rfl rfl rfl rfl rfl hA5 ?_;refine⟨_,_,_,?_,(show ka 6 ((fy e).l.map aO.v) di from ?_),(show ka 4 ((fy e).p.map bk.v) di from ?_),(show ka 17 ((fy e).d.map bm.v) di from ?_)⟩
    . show _=Value.agg ⟨[i64 e.k,i64 (if e.k=1 then e.n else 0),aK (if e.k=2\/e.k=3\/e.k=4\/e.k=14\/e.k=15 then e.s else[]),_,_,_]⟩;rw[if_neg g1,if_pos (by omega)]
    . show ka 6 ((if e.k=1\/e.k=2\/e.k=3\/e.k=4 then[]else e.l).map aO.v) _;rw[if_pos (by omega)];exact .nil _
    . show ka 4 ((if e.k=7\/e.k=9\/e.k=12 then e.p else[]).map bk.v) _;rw[if_neg (by omega)];exact .nil _
    . show ka 17 ((if e.k=10 then e.d else[]).map bm.v) _;rw[if_neg (by omega)];exact .nil _
  | false=>
    have hk:e.k≠2/\e.k≠3/\e.k≠4:=by
     simp only[Bool.false_eq,dy,decide_eq_false_iff_not]at hb;exact hb
    simp only[af];refine Wq.ite (λg=>L28 _ (by simp[g]) hk.1 hk.2.1 hk.2.2) (λg14=> ?_);exact L28 _ (by simp[g14]) hk.1 hk.2.1 hk.2.2
 refine Wq.ite (λg=>L20 _ (by simp[g])) (λg2=> ?_);refine Wq.ite (λg=>L20 _ (by simp[g])) (λg3=> ?_);exact L20 _ (by simp[g2,g3])
end
section
variable {nx0:Nat}{H0:T OB}
theorem ZP (l:List (List UInt8))(hl:l.length<ei)(s:List UInt8)(b n:Nat)(hn:l.length=n)(H:T OB)(nx:Nat)(hb:dO H b (l.map aK) 9)(hbn:nx0<=b)(hA:Ag nx0 H0 nx H):Wq P pl X0 (aX P pl (.call 115 [.slice (some ⟨b,0,none⟩) n n,aK s] false none H nx)) nx0 H0 (.bool (l.contains s)):=by
 rw[abp];refine Wq.XB hb hn hA hbn λH2 _ hA2=> ?_;exact WZ l hl s l 0 H2 _ rfl (aN _) hA2
theorem ZQ (a:Nat)(b:Nat):decide ((a:Int)<(b:Int))=decide (a<b):=by rw[decide_eq_decide];omega
theorem P_ (a b:Nat)(hb:b<ei)(h:1<b):decide ((a:Int)=IntKind.i64.wrap ((b:Int)-1))=decide (a+1=b):=by
 have:b<1125899906842624:=hb;rw[decide_eq_decide,aS (by omega)];omega
theorem TP (e:aO)(h:e.ok)(hs:e.s.length<=200000)(H:T OB)(nx:Nat)(hA:Ag nx0 H0 nx H):Wq P pl X0 (.jump (t_ (ah e.v) false H nx)) nx0 H0 (.bool (iC e.k e.n e.s e.l.length e.p.length e.d)):=by
 rw[aO.br]at h;obtain⟨hr,hs',⟨hl,hl'⟩,⟨hp,hp'⟩,hd,hd'⟩:=h;have L62:∀(b:Bool),b=(decide (e.k=9)||decide (e.k=12))->e.k≠1->e.k≠2->e.k≠3->e.k≠4->e.k≠5->e.k≠13->e.k≠6->e.k≠7->e.k≠8->Wq P pl X0 (.jump (Cu (ah e.v) (i64 (e.l.length:Int)) (i64 e.k) b H nx)) nx0 H0 (.bool (iC e.k e.n e.s e.l.length e.p.length e.d)):=by
  intro b hb h1 h2 h3 h4 h5 h13 h6 h7 h8;unfold iC;rw[if_neg h1,if_neg h2,if_neg h3,if_neg h4,if_neg h5,if_neg h13,if_neg h6,if_neg h7,if_neg h8];refine Wq.jmp (YL ..) (λ_=>rfl) ?_;cases b with
  | true=>
    have hk:e.k=9\/e.k=12:=by
     simp only[Bool.true_eq,bl,decide_eq_true_eq]at hb;exact hb
    rw[if_pos hk];simp only[af,aL,aa,kX];refine Wq.ite (λh=> ?_) (λh=> ?_)
    . rw[P_ _ _ hl h,decide_eq_true h,ai];exact Wq.ret hA
    . rw[decide_eq_false h,aE];exact Wq.ret hA
  | false=>
    have hk:¬(e.k=9\/e.k=12):=by
     simp only[Bool.false_eq,dy,decide_eq_false_iff_not]at hb;omega
    rw[if_neg hk];simp only[af,aL,aa,qk,nP];refine Wq.ite (λg=> ?_) (λg11=> ?_)
    . rw[if_pos g];exact Wq.ret hA
    rw[if_neg g11];refine Wq.ite (λg=> ?_) (λg14=> ?_)
    . rw[if_pos g];refine Wq.bK (λh=> ?_) (λh=> ?_)
      . rw[h,ai];refine Wq.row mI lU sT rfl TF hA λH1 hb1 _ hA1=> ?_;refine Wq.Bu rfl (ZP lY (by decide) e.s nx 16 rfl H1 _ hb1 hA.1 hA1) λH2 nx2 hA2=> ?_;simp only[af];exact Wq.ret hA2
      . rw[h,aE];exact Wq.ret hA
    rw[if_neg g14];refine Wq.ite (λg=> ?_) (λg15=> ?_)
    . rw[if_pos g];refine Wq.bK (λh=> ?_) (λh=> ?_)
      . rw[h,ai];refine Wq.call Zt hA λH1 aI hA1=> ?_;refine Wq.call (G7 fh (by decide) e.s) hA1 λH2 nx2 hA2=> ?_;simp only[af];exact Wq.ret hA2
      . rw[h,aE];exact Wq.ret hA
    rw[if_neg g15];refine Wq.ite (λg=> ?_) (λg10=> ?_)
    . rw[if_pos g];refine Wq.each (e.d) (λi (_:Unit) H nx=> .jump (Cv (ah e.v) (i64 (e.l.length:Int)) (i64 (i:Int)) H nx)) (λt (_:Unit)=> .bool ((t.all λd=>decide (d.k=1)||decide (d.k=2))&&decide (e.l.length=1))) (λs0 H0' nx0' hA0=> ?_) (λi0 a0 t0 s0 H0' nx0' hg0 hlt0 hd0 hA0 ih0=> ?_) (()) _ _ hA
      . refine Wq.jmp (OF ..) (λ_=>rfl) ?_;simp only[af,aL,aa,aF];simp only[af,qk];exact Wq.ret hA0
      . have hx0:((e.d).map bm.v)[i0]? = some (bm.v a0):=by simp[hg0]
        have hm0:=ak hg0;refine Wq.jmp (OF ..) (λ_=>rfl) ?_;simp only[af,aL,aa,aJ hlt0,sG hx0];have L86:∀(b:Bool),b= !(decide (a0.k=1)||decide (a0.k=2))->Wq P pl X0 (.jump (Cw (ah e.v) (i64 (e.l.length:Int)) (i64 (i0:Int)) b H0' nx0')) nx0 H0 (.bool (((a0::t0).all λd=>decide (d.k=1)||decide (d.k=2))&&decide (e.l.length=1))):=by
         intro b hb;refine Wq.jmp (YM ..) (λ_=>rfl) ?_;rw[cW];cases hx:(decide (a0.k=1)||decide (a0.k=2))with
         | false=>rw[hx]at hb;rw[hb,aE];exact Wq.ret hA0
         | true=>
           rw[hx]at hb;rw[hb,ai];simp only[af,az (show i0<9223372036854775807 by have:=cv hd;omega)];exact ih0 () _ _ hA0
        refine Wq.jr (λh=> ?_) (λh=>L86 _ (by simp[h]));exact L86 _ (by simp[h])
    . rw[if_neg g10];exact Wq.ret hA
 refine Wq.jmp (OE ..) (λ_=>rfl) ?_;simp only[af,aL,aa,qk,nP,TN,kX,jP,nat_eq];unfold iC at L62 ⊢;refine Wq.ite (λg=> ?_) (λg1=> ?_)
 . rw[if_pos g];refine Wq.bK (λh=> ?_) (λh=> ?_)
   . rw[h,ai];exact Wq.ret hA
   . rw[h,aE];exact Wq.ret hA
 rw[if_neg g1];rw[if_neg g1]at L62;refine Wq.ite (λg=> ?_) (λg2=> ?_)
 . rw[if_pos g];exact Wq.ret hA
 rw[if_neg g2];rw[if_neg g2]at L62;refine Wq.ite (λg=> ?_) (λg3=> ?_)
 . rw[if_pos g];refine Wq.call (qP 3 _ hs (by simp)) hA λH1 aI hA1=> ?_;simp only[af];exact Wq.ret hA1
 rw[if_neg g3];rw[if_neg g3]at L62;refine Wq.ite (λg=> ?_) (λg4=> ?_)
 . rw[if_pos g];refine Wq.call (qP 4 _ hs (by simp)) hA λH1 aI hA1=> ?_;simp only[af];exact Wq.ret hA1
 rw[if_neg g4];rw[if_neg g4]at L62;refine Wq.ite (λg=> ?_) (λg5=> ?_)
 . rw[if_pos g];exact Wq.ret hA
 rw[if_neg g5];rw[if_neg g5]at L62;refine Wq.ite (λg=> ?_) (λg13=> ?_)
 . rw[if_pos g];exact Wq.ret hA
 rw[if_neg g13];rw[if_neg g13]at L62;refine Wq.ite (λg=> ?_) (λg6=> ?_)
 . rw[if_pos g];exact Wq.ret hA
 rw[if_neg g6];rw[if_neg g6]at L62;refine Wq.ite (λg=> ?_) (λg7=> ?_)
 . rw[if_pos g];refine Wq.bK (λh=> ?_) (λh=> ?_)
   . rw[h,ai];exact Wq.ret hA
   . rw[h,aE];exact Wq.ret hA
 rw[if_neg g7];rw[if_neg g7]at L62;refine Wq.ite (λg=> ?_) (λg8=> ?_)
 . rw[if_pos g];exact Wq.ret hA
 rw[if_neg g8];rw[if_neg g8]at L62;refine Wq.ite (λg=>L62 _ (by simp[g]) g1 g2 g3 g4 g5 g13 g6 g7 g8) (λg9=> ?_);exact L62 _ (by simp[g9]) g1 g2 g3 g4 g5 g13 g6 g7 g8
theorem Qa {e:aO}(h:e.ok):(fy e).ok:=by
 rw[aO.br]at h ⊢;obtain⟨hr,hs',⟨hl,hl'⟩,⟨hp,hp'⟩,hd,hd'⟩:=h;have b0:(0:Nat)<ei:=by decide
 refine⟨?_,?_,⟨?_,?_⟩,⟨?_,?_⟩,?_,?_⟩
 . show rg (if e.k=1 then e.n else 0);split
   . exact hr
   . unfold rg;omega
 . show oy (if e.k=2\/e.k=3\/e.k=4\/e.k=14\/e.k=15 then e.s else[]);split
   . exact hs'
   . show([]:List UInt8).length<_;simp
 . show(if e.k=1\/e.k=2\/e.k=3\/e.k=4 then[]else e.l).length<ei;split
   . exact b0
   . exact hl
 . show ∀c,c∈(if e.k=1\/e.k=2\/e.k=3\/e.k=4 then[]else e.l)->c.ok;split
   . intro c hc;cases hc
   . exact hl'
 . show(if e.k=7\/e.k=9\/e.k=12 then e.p else[]).length<ei;split
   . exact hp
   . exact b0
 . show ∀c,c∈(if e.k=7\/e.k=9\/e.k=12 then e.p else[])->c.ok;split
   . exact hp'
   . intro c hc;cases hc
 . show(if e.k=10 then e.d else[]).length<ei;split
   . exact hd
   . exact b0
 . show ∀c,c∈(if e.k=10 then e.d else[])->c.ok;split
   . exact hd'
   . intro c hc;cases hc
theorem ZR (e:aO)(h:e.ok)(hz:e.z<=500)(hE:∀c,c∈e.l->P0 87 [c.v] (.bool (dt c)))(hD:P0 21 [cb e.d] (.bool (eK e.d))):P0 87 [e.v] (.bool (dt e)):=Pure.of rfl λH nx=>by
 have h':=(aO.br e).1 h;obtain⟨hr,hs',⟨hl,hl'⟩,⟨hp,hp'⟩,hd,hd'⟩:=h';have hz':=hz;rw[aO.hZ]at hz';have hs:e.s.length<=200000:=by omega
 rw[q87,Dg];refine Wq.gi (.refl _ _) λhA=> ?_;have L16:∀H1 aI,Ag nx H aI H1->Wq P pl X0 (.jump (t_ (ah e.v) true H1 aI)) nx H (.bool false):=by
  intro H1 aI hA1;refine Wq.jmp (OE ..) (λ_=>rfl) ?_;exact Wq.ret hA1
 refine Wq.each (e.l) (λi (_:Unit) H nx=> .jump (JR (ah e.v) (i64 (i:Int)) H nx)) (λt (_:Unit)=> .bool (cD t&&(fo (fy e) e&&(cK e.p&&(eK e.d&&iC e.k e.n e.s e.l.length e.p.length e.d))))) (λs0 H0 nx0 hA0=> ?_) (λi0 a0 t0 s0 H0 nx0 hg0 hlt0 hd0 hA0 ih0=> ?_) (()) _ _ hA
 . refine Wq.jmp (Wx ..) (λ_=>rfl) ?_;simp only[af,aL,aa,aF];rw[cD,ai];refine Wq.qL rfl (abY e H0 nx0 hA0) λu H1 aI hA1 hu=> ?_;refine Wq.call (wS.1 (fy e) (Qa h) e u hu) hA1 λH2 nx2 hA2=> ?_;cases fo (fy e) e with
   | false=>simp only[af];exact L16 _ _ hA2
   | true=>
   rw[ai];simp only[af];refine Wq.call (P9 e.p hp hp' (by omega)) hA2 λH3 nx3 hA3=> ?_;cases cK e.p with
   | false=>simp only[af];exact L16 _ _ hA3
   | true=>
   rw[ai];simp only[af];refine Wq.call hD hA3 λH4 nx4 hA4=> ?_;cases eK e.d with
   | false=>simp only[af];exact L16 _ _ hA4
   | true=>
   rw[ai];simp only[af];exact TP e h hs _ _ hA4
 . have hx0:((e.l).map aO.v)[i0]? = some (aO.v a0):=by simp[hg0]
   have hm0:=ak hg0;refine Wq.jmp (Wx ..) (λ_=>rfl) ?_;simp only[af,aL,aa,aJ hlt0,kE hx0];refine Wq.call (hE a0 hm0) hA0 λH2 nx2 hA2=> ?_;rw[cD];cases dt a0 with
   | false=>simp only[af,aE];exact Wq.ret hA2
   | true=>
     simp only[af,ai,az (show i0<9223372036854775807 by have:=cv hl;omega)];exact ih0 () _ _ hA2
end
section
variable {nx0:Nat}{H0:T OB}
theorem W4 (c0 c1 c2 c3 c4 c5 c6 c7 c8 c9 c10 c11 c12 c13 c14 c15 c16:Value):Instr.fill (λi=>some (i*17,17)) (cI [Value.int .i64 0,Value.int .i64 0,Value.int .i64 0,Value.string ⟨⟨[]⟩⟩,Value.slice none 0 0,Value.int .i64 0,Value.int .i64 0,Value.string ⟨⟨[]⟩⟩,Value.slice none 0 0,Value.slice none 0 0,Value.slice none 0 0,Value.slice none 0 0,Value.slice none 0 0,Value.string ⟨⟨[]⟩⟩,Value.slice none 0 0,Value.string ⟨⟨[]⟩⟩,Value.slice none 0 0] (1*17)) [(0,.agg ⟨[c0,c1,c2,c3,c4,c5,c6,c7,c8,c9,c10,c11,c12,c13,c14,c15,c16]⟩)]=some ⟨[c0,c1,c2,c3,c4,c5,c6,c7,c8,c9,c10,c11,c12,c13,c14,c15,c16]⟩:=by kernel_rfl
theorem ZS (d:bm):Instr.fill (λi=>some (i*17,17)) (cI [Value.int .i64 0,Value.int .i64 0,Value.int .i64 0,Value.string ⟨⟨[]⟩⟩,Value.slice none 0 0,Value.int .i64 0,Value.int .i64 0,Value.string ⟨⟨[]⟩⟩,Value.slice none 0 0,Value.slice none 0 0,Value.slice none 0 0,Value.slice none 0 0,Value.slice none 0 0,Value.string ⟨⟨[]⟩⟩,Value.slice none 0 0,Value.string ⟨⟨[]⟩⟩,Value.slice none 0 0] (1*17)) [(0,d.v)]=some ⟨d.cs⟩:=by
 rw[bm.bX,bm.ia];exact W4 _ _ _ _ _ _ _ _ _ _ _ _ _ _ _ _ _
theorem sX:dD P 57=some [Value.int .i64 0,Value.int .i64 0,Value.int .i64 0,Value.string ⟨⟨[]⟩⟩,Value.slice none 0 0,Value.int .i64 0,Value.int .i64 0,Value.string ⟨⟨[]⟩⟩,Value.slice none 0 0,Value.slice none 0 0,Value.slice none 0 0,Value.slice none 0 0,Value.slice none 0 0,Value.string ⟨⟨[]⟩⟩,Value.slice none 0 0,Value.string ⟨⟨[]⟩⟩,Value.slice none 0 0]:=by kernel_rfl
theorem abZ (k:Int):cA P 57 (some [(0,i64 k)])=some (.agg ⟨[i64 k,i64 0,i64 0,aK [],di,i64 0,i64 0,aK [],di,di,di,di,di,aK [],di,aK [],di]⟩):=cf sX (by kernel_rfl)
theorem TR:De.ok:=by rw[bk.br];exact⟨by show rg 0;unfold rg;omega,by show([]:List UInt8).length<_;simp,by show 0<ei;decide,λc hc=>nomatch hc⟩
theorem TU:Fo.ok:=by
 rw[aO.br];exact⟨by show rg 0;unfold rg;omega,by show([]:List UInt8).length<_;simp,⟨by show 0<ei;decide,λc hc=>nomatch hc⟩,⟨by show 0<ei;decide,λc hc=>nomatch hc⟩,by show 0<ei;decide,λc hc=>nomatch hc⟩
theorem Qb:sV.ok:=⟨⟨by show 0<ei;decide,λc hc=>nomatch hc⟩,by show([]:List UInt8).length<_;simp,by show 0<ei;decide,λc hc=>nomatch hc⟩
theorem TV:Df.ok:=⟨by show([]:List UInt8).length<_;simp,by show 0<ei;decide,λc hc=>nomatch hc⟩
theorem Qc {d:bm}(h:d.ok):(eJ d).ok:=by
 rw[bm.br]at h ⊢;obtain⟨h1,h2,h3,h4,h5⟩:=h;refine⟨?_,?_,?_,?_,?_⟩
 . show(if d.k=1 then d.p else De).ok;split
   . exact h1
   . exact TR
 . show(if d.k=1\/d.k=5 then d.e else Fo).ok;split
   . exact h2
   . exact TU
 . show(if d.k=2 then d.f else[]).length<ei/\∀c,c∈(if d.k=2 then d.f else[])->c.ok;split
   . exact h3
   . exact⟨by show 0<ei;decide,λc hc=>nomatch hc⟩
 . show(if d.k=3 then d.x else sV).ok;split
   . exact h4
   . exact Qb
 . show(if d.k=4 then d.c else Df).ok;split
   . exact h5
   . exact TV
theorem Wq.same {d:bm}(hd:d.ok){bb:Nat}{c0 c1 c2 c3 c4 c5 c6 c7 c8 c9 c10 c11 c12 c13 c14 c15 c16:Value}{H:T OB}{nx:Nat}{R:Value->T OB->Nat->Prop}{k p:Value->T OB->Nat->Q}(hb:dO H bb [c0,c1,c2,c3,c4,c5,c6,c7,c8,c9,c10,c11,c12,c13,c14,c15,c16] 57)(hV:zN (eJ d) (.agg ⟨[c0,c1,c2,c3,c4,c5,c6,c7,c8,c9,c10,c11,c12,c13,c14,c15,c16]⟩))(hA:Ag nx0 H0 nx H)
 (hk:∀H' nx',Ag nx0 H0 nx' H'->e8 P pl X0 (k (.bool (fo (eJ d) d)) H' nx') nx0 H0 R):
 e8 P pl X0 (aw (aA P H 57 (some (.pointer (some ⟨bb,0,none⟩)))) (λx=>bU (bC P H nx 24 1 (some [(0,x)])) (λy H nx=>bU (bC P H nx 24 1 (some [(0,d.v)])) (λz H nx=>dm (.call 14 [y,z] false none H nx) k p))) .bad) nx0 H0 R:=by
 rw[cR hb lT gQ (by simp)];refine Wq.row jT gQ sX rfl (W4 _ _ _ _ _ _ _ _ _ _ _ _ _ _ _ _ _) hA λH1 h1 k1 hA1=> ?_;refine Wq.row jT gQ sX rfl (ZS d) hA1 λH2 h2 k2 hA2=> ?_;refine Wq.Bu rfl (abQ (eJ d) d (Qc hd) _ hV nx (nx+1) (by omega) H2 _ (k2 _ _ _ (by omega) h1) h2 hA.1 (by have:=hA.1;omega) hA2) hk
theorem ZT (d:bm)(hd:d.ok)(hz:d.z<=500)(hE:P0 87 [d.e.v] (.bool (dt d.e)))(hF:∀f,f∈d.f->P0 87 [f.b.v] (.bool (dt f.b))):P0 45 [d.v] (.bool (jt d)):=Pure.of rfl λH nx=>by
 have hd':=(bm.br d).1 hd;obtain⟨hp,he,⟨hfl,hf⟩,hx,hc⟩:=hd';rw[bm.hZ]at hz;rw[q45,sW];refine Wq.gi (.refl _ _) λhA=> ?_;simp only[af,aL,aa,abZ];refine Wq.alloc sX hA λH1 hb _ hA1=> ?_;refine Wq.store hb gQ (by simp) rfl rfl hA1 (by omega) λH2 hb _ hA2=> ?_;replace hb:dO H2 (nx+1) [i64 d.k,i64 0,i64 0,aK [],di,i64 0,i64 0,aK [],di,di,di,di,di,aK [],di,aK [],di] 57:=hb;clear hA1;refine Wq.ite (λg=> ?_) (λg1=> ?_)
 . rw[if_pos g];refine Wq.store hb fJ (by simp) (GZ _) (G0 _) hA2 (by omega) λH3 hb _ hA3=> ?_;rw[bk.bX]at hb;replace hb:dO H3 (nx+1) [i64 d.k,i64 d.p.k,i64 d.p.n,aK d.p.s,cL d.p.l,i64 0,i64 0,aK [],di,di,di,di,di,aK [],di,aK [],di] 57:=hb;simp only[af,aL,aa,vJ];refine Wq.store hb dE (by simp) (LZ _) (L0 _) hA3 (by omega) λH4 hb _ hA4=> ?_;rw[aO.bX]at hb;replace hb:dO H4 (nx+1) [i64 d.k,i64 d.p.k,i64 d.p.n,aK d.p.s,cL d.p.l,i64 d.e.k,i64 d.e.n,aK d.e.s,fK d.e.l,cL d.e.p,cb d.e.d,di,di,aK [],di,aK [],di] 57:=hb;have hV:zN (eJ d) (.agg ⟨[i64 d.k,i64 d.p.k,i64 d.p.n,aK d.p.s,cL d.p.l,i64 d.e.k,i64 d.e.n,aK d.e.s,fK d.e.l,cL d.e.p,cb d.e.d,di,di,aK [],di,aK [],di]⟩):=by
    have e:eJ d= .mk d.k d.p d.e [] sV Df:=by unfold eJ;simp[g]
    rw[e];exact⟨_,_,_,_,_,_,_,_,rfl,.row _ _,.row _ _,.row _ _,.row _ _,.nil _,.nil _,.nil _,.nil _⟩
   refine Wq.same hd hb hV hA4 λH5 nx5 hA5=> ?_;simp only[af];refine Wq.bK (λh=> ?_) (λh=>by rw[h,aE];exact Wq.ret hA5);rw[h,ai];refine Wq.call (W2 d.p hp (by omega)) hA5 λH6 nx6 hA6=> ?_;simp only[af];refine Wq.bK (λh=> ?_) (λh=>by rw[h,aE];exact Wq.ret hA6);rw[h,ai];refine Wq.call hE hA6 λH7 nx7 hA7=> ?_;simp only[af];exact Wq.ret hA7
 rw[if_neg g1];refine Wq.ite (λg=> ?_) (λg5=> ?_)
 . rw[if_pos g];refine Wq.store hb dE (by simp) (LZ _) (L0 _) hA2 (by omega) λH4 hb _ hA4=> ?_;rw[aO.bX]at hb;replace hb:dO H4 (nx+1) [i64 d.k,i64 0,i64 0,aK [],di,i64 d.e.k,i64 d.e.n,aK d.e.s,fK d.e.l,cL d.e.p,cb d.e.d,di,di,aK [],di,aK [],di] 57:=hb;have hV:zN (eJ d) (.agg ⟨[i64 d.k,i64 0,i64 0,aK [],di,i64 d.e.k,i64 d.e.n,aK d.e.s,fK d.e.l,cL d.e.p,cb d.e.d,di,di,aK [],di,aK [],di]⟩):=by
    have e:eJ d= .mk d.k De d.e [] sV Df:=by unfold eJ;simp[g]
    rw[e];exact⟨_,_,_,_,_,_,_,_,rfl,.nil _,.row _ _,.row _ _,.row _ _,.nil _,.nil _,.nil _,.nil _⟩
   refine Wq.same hd hb hV hA4 λH5 nx5 hA5=> ?_;simp only[af];refine Wq.bK (λh=> ?_) (λh=>by rw[h,aE];exact Wq.ret hA5);rw[h,ai];refine Wq.call hE hA5 λH7 nx7 hA7=> ?_;simp only[af];exact Wq.ret hA7
 rw[if_neg g5];refine Wq.ite (λg=> ?_) (λg2=> ?_)
 . rw[if_pos g];refine Wq.put hb Wc rfl rfl (by simp) rfl hA2 (by omega) λH3 hb _ hA3=> ?_;have hV:zN (eJ d) (.agg ⟨[i64 d.k,i64 0,i64 0,aK [],di,i64 0,i64 0,aK [],di,di,di,vj d.f,di,aK [],di,aK [],di]⟩):=by
    have e:eJ d= .mk d.k De Fo d.f sV Df:=by unfold eJ;simp[g]
    rw[e];exact⟨_,_,_,_,_,_,_,_,rfl,.nil _,.nil _,.nil _,.nil _,.row _ _,.nil _,.nil _,.nil _⟩
   refine Wq.base hA3 ?_;refine Wq.each (d.f) (λi (_:Unit) Hq nq=> .jump (BZ (ah d.v) (.pointer (some ⟨nx+1,0,none⟩)) (i64 (i:Int)) Hq nq)) (λt (_:Unit)=> .bool (o7 t&&(decide (0<d.f.length)&&fo (eJ d) d))) (λs0 H0' nx0' hA0=> ?_) (λi0 a0 t0 s0 H0' nx0' hg0 hlt0 hd0 hA0 ih0=> ?_) (()) _ _ (.refl _ _)
   . refine Wq.jmp (Of ..) (λ_=>rfl) ?_;simp only[af,aL,aa,aF];rw[o7,ai];simp only[af,jP];refine Wq.bK (λh=> ?_) (λh=>by rw[h,aE];exact Wq.ret hA0);rw[h,ai];refine Wq.same hd (hb.ag hA0 (by omega)) hV hA0 λH5 nx5 hA5=> ?_;simp only[af];exact Wq.ret hA5
   . have hx0:((d.f).map Fn.v)[i0]? = some (Fn.v a0):=by simp[hg0]
     have hm0:=ak hg0;refine Wq.jmp (Of ..) (λ_=>rfl) ?_;simp only[af,aL,aa,aJ hlt0,oS hx0];refine Wq.var ki oh rfl (nFn _) (oFn _) hA0 λH4 nx4 hA4=> ?_;have hfa:=(Fn.br a0).1 (hf a0 hm0);have hza:=Fl hm0;have hzb:=a0.hZ;have L36:∀(b:Bool) H1 aI,Ag (nx+1+1) H3 aI H1->b= !RS a0->Wq P pl X0 (.jump (tW (ah d.v) (.pointer (some ⟨nx+1,0,none⟩)) (i64 (i0:Int)) b H1 aI)) (nx+1+1) H3 (.bool (o7 (a0::t0)&&(decide (0<d.f.length)&&fo (eJ d) d))):=by
      intro b H1 aI hA1 hb;refine Wq.jmp (Yt ..) (λ_=>rfl) ?_;rw[o7];cases hx:RS a0 with
      | false=>rw[hx]at hb;rw[hb,aE];exact Wq.ret hA1
      | true=>
        rw[hx]at hb;rw[hb,ai];simp only[af,az (show i0<9223372036854775807 by have:=cv hfl;omega)];exact ih0 () _ _ hA1
     rw[y7]at L36;refine Wq.call (qP 3 _ (by omega) (by simp)) hA4 λH5 nx5 hA5=> ?_;cases h1:ee 3 a0.s with
     | false=>rw[h1]at L36;simp only[af];exact L36 _ _ _ hA5 rfl
     | true=>
     rw[h1,ai]at L36;simp only[af,aL,aa,jO];refine Wq.ite (λh=>L36 _ _ _ hA5 (by simp[h])) (λh=> ?_);rw[show decide (0<a0.p.length)=true by simp;omega,ai]at L36;refine Wq.call (P9 a0.p hfa.2.1.1 hfa.2.1.2 (by omega)) hA5 λH6 nx6 hA6=> ?_;cases h2:cK a0.p with
     | false=>rw[h2]at L36;simp only[af];exact L36 _ _ _ hA6 rfl
     | true=>
     rw[h2,ai]at L36;simp only[af];refine Wq.call (hF a0 hm0) hA6 λH7 nx7 hA7=> ?_;simp only[af];exact L36 _ _ _ hA7 rfl
 rw[if_neg g2];refine Wq.ite (λg=> ?_) (λg3=> ?_)
 . rw[if_pos g];refine Wq.store hb NW (by simp) (abw _) (abx _) hA2 (by omega) λH3 hb _ hA3=> ?_;rw[Data.bX]at hb;replace hb:dO H3 (nx+1) [i64 d.k,i64 0,i64 0,aK [],di,i64 0,i64 0,aK [],di,di,di,di,kl d.x.vars,aK d.x.s,mZ d.x.cons,aK [],di] 57:=hb;have hV:zN (eJ d) (.agg ⟨[i64 d.k,i64 0,i64 0,aK [],di,i64 0,i64 0,aK [],di,di,di,di,kl d.x.vars,aK d.x.s,mZ d.x.cons,aK [],di]⟩):=by
    have e:eJ d= .mk d.k De Fo [] d.x Df:=by unfold eJ;simp[g]
    rw[e];exact⟨_,_,_,_,_,_,_,_,rfl,.nil _,.nil _,.nil _,.nil _,.nil _,.row _ _,.row _ _,.nil _⟩
   have hzx:=hz;unfold Data.z at hzx;refine Wq.base hA3 ?_;refine Wq.each (d.x.vars) (λi (_:Unit) Hq nq=> .jump (B0 (ah d.v) (.pointer (some ⟨nx+1,0,none⟩)) (i64 (i:Int)) Hq nq)) (λt (_:Unit)=> .bool (l7 t&&(lk d.x.cons&&(ee 3 d.x.s&&(decide (0<d.x.cons.length)&&fo (eJ d) d))))) (λs0 H0' nx0' hA0=> ?_) (λi0 a0 t0 s0 H0' nx0' hg0 hlt0 hd0 hA0 ih0=> ?_) (()) _ _ (.refl _ _)
   . refine Wq.jmp (Og ..) (λ_=>rfl) ?_;simp only[af,aL,aa,aF];rw[l7,ai];refine Wq.each (d.x.cons) (λi (_:Unit) Hq nq=> .jump (B1 (ah d.v) (.pointer (some ⟨nx+1,0,none⟩)) (i64 (i:Int)) Hq nq)) (λt (_:Unit)=> .bool (lk t&&(ee 3 d.x.s&&(decide (0<d.x.cons.length)&&fo (eJ d) d)))) (λs8 H8 nx8 hA8=> ?_) (λi8 a8 t8 s8 H8 nx8 hg8 hlt8 hd8 hA8 ih8=> ?_) (()) _ _ hA0
     . refine Wq.jmp (Oh ..) (λ_=>rfl) ?_;simp only[af,aL,aa,aF];rw[lk,ai];refine Wq.call (qP 3 _ (by omega) (by simp)) hA8 λH5 nx5 hA5=> ?_;simp only[af,aL,aa,jP];refine Wq.bK (λh=> ?_) (λh=>by rw[h,aE];exact Wq.ret hA5);rw[h,ai];refine Wq.bK (λh=> ?_) (λh=>by rw[h,aE];exact Wq.ret hA5);rw[h,ai];refine Wq.same hd (hb.ag hA5 (by omega)) hV hA5 λH6 nx6 hA6=> ?_;simp only[af];exact Wq.ret hA6
     . have hx8:((d.x.cons).map eO.v)[i8]? = some (eO.v a8):=by simp[hg8]
       have hm8:=ak hg8;refine Wq.jmp (Oh ..) (λ_=>rfl) ?_;simp only[af,aL,aa,aJ hlt8,uT hx8];refine Wq.call (W3 a8 (hx.2.2.2 a8 hm8) (by have:=Mc hm8;omega)) hA8 λH2 nx2 hA2=> ?_;rw[lk];cases nO a8 with
       | false=>simp only[af,aE];exact Wq.ret hA2
       | true=>
         simp only[af,ai,az (show i8<9223372036854775807 by have:=cv hx.2.2.1;omega)];exact ih8 () _ _ hA2
   . have hx0:((d.x.vars).map aK)[i0]? = some (aK a0):=by simp[hg0]
     have hm0:=ak hg0;refine Wq.jmp (Og ..) (λ_=>rfl) ?_;simp only[af,aL,aa,aJ hlt0,yr hx0];refine Wq.call (qP 5 _ (by have:=Md hm0;omega) (by simp)) hA0 λH2 nx2 hA2=> ?_;rw[l7];cases ee 5 a0 with
     | false=>simp only[af,aE];exact Wq.ret hA2
     | true=>
       simp only[af,ai,az (show i0<9223372036854775807 by have:=cv hx.1.1;omega)];exact ih0 () _ _ hA2
 rw[if_neg g3];refine Wq.ite (λg=> ?_) (λg4=> ?_)
 . rw[if_pos g];refine Wq.store hb mX (by simp) (Y6 _) (Y7 _) hA2 (by omega) λH3 hb _ hA3=> ?_;rw[eO.bX]at hb;replace hb:dO H3 (nx+1) [i64 d.k,i64 0,i64 0,aK [],di,i64 0,i64 0,aK [],di,di,di,di,di,aK [],di,aK d.c.s,iB d.c.arg] 57:=hb;have hV:zN (eJ d) (.agg ⟨[i64 d.k,i64 0,i64 0,aK [],di,i64 0,i64 0,aK [],di,di,di,di,di,aK [],di,aK d.c.s,iB d.c.arg]⟩):=by
    have e:eJ d= .mk d.k De Fo [] sV d.c:=by unfold eJ;simp[g]
    rw[e];exact⟨_,_,_,_,_,_,_,_,rfl,.nil _,.nil _,.nil _,.nil _,.nil _,.nil _,.nil _,.row _ _⟩
   refine Wq.gZ (W3 d.c hc (by omega)) hA3 λH4 nx4 hA4 n4 k4=> ?_;replace hb:=k4 _ _ _ (by omega) hb;simp only[af];refine Wq.bK (λh=> ?_) (λh=>by rw[h,aE];exact Wq.ret hA4);rw[h,ai];refine Wq.same hd hb hV hA4 λH5 nx5 hA5=> ?_;simp only[af];exact Wq.ret hA5
 . rw[if_neg g4];refine Wq.jmp (Ys ..) (λ_=>rfl) ?_;exact Wq.ret hA2
theorem W5 (l:List bm)(hl:l.length<ei)(ih:∀d,d∈l->P0 45 [d.v] (.bool (jt d))):P0 21 [cb l] (.bool (eK l)):=Pure.of rfl λH nx=>by
 rw[q21];refine Wq.each (l) (λi (_:Unit) H nx=> .jump (JH (cb l) (i64 (i:Int)) H nx)) (λt (_:Unit)=> .bool (eK t)) (λs0 H0 nx0 hA0=> ?_) (λi0 a0 t0 s0 H0 nx0 hg0 hlt0 hd0 hA0 ih0=> ?_) (()) _ _ (.refl _ _)
 . refine Wq.jmp (Wg ..) (λ_=>rfl) ?_;simp only[af,aL,aa,aF];exact Wq.ret hA0
 . have hx0:((l).map bm.v)[i0]? = some (bm.v a0):=by simp[hg0]
   have hm0:=ak hg0;refine Wq.jmp (Wg ..) (λ_=>rfl) ?_;simp only[af,aL,aa,aJ hlt0,sG hx0];refine Wq.call (ih a0 hm0) hA0 λH2 nx2 hA2=> ?_;rw[eK];cases jt a0 with
   | false=>simp only[af,aE];exact Wq.ret hA2
   | true=>
     simp only[af,ai,az (show i0<9223372036854775807 by have:=cv hl;omega)];exact ih0 () _ _ hA2
theorem TW:(∀e:aO,e.ok->e.z<=500->P0 87 [e.v] (.bool (dt e)))/\∀d:bm,d.ok->d.z<=500->P0 45 [d.v] (.bool (jt d)):=by
 have A:∀e:aO,(∀c,c∈e.l->c.ok->c.z<=500->P0 87 [c.v] (.bool (dt c)))->(∀c,c∈e.d->c.ok->c.z<=500->P0 45 [c.v] (.bool (jt c)))->e.ok->e.z<=500->P0 87 [e.v] (.bool (dt e)):=λe h1 h2 h hz=>by
  have h':=(aO.br e).1 h;have hz':=hz;rw[aO.hZ]at hz';exact ZR e h hz (λc hc=>h1 c hc (h'.2.2.1.2 c hc) (by have:=Mb hc;omega)) (W5 e.d h'.2.2.2.2.1 λd hd=>h2 d hd (h'.2.2.2.2.2 d hd) (by have:=AI hd;omega))
 have B:∀d:bm,(d.e.ok->d.e.z<=500->P0 87 [d.e.v] (.bool (dt d.e)))->(∀f,f∈d.f->f.b.ok->f.b.z<=500->P0 87 [f.b.v] (.bool (dt f.b)))->d.ok->d.z<=500->P0 45 [d.v] (.bool (jt d)):=λd h1 h2 h hz=>by
  have h':=(bm.br d).1 h;have hz':=hz;rw[bm.hZ]at hz';exact ZT d h hz (h1 h'.2.1 (by omega)) λf hf=>h2 f hf ((Fn.br f).1 (h'.2.2.1.2 f hf)).2.2 (by have:=Fl hf;have:=f.hZ;omega)
 exact⟨aO.ind A B,bm.ind A B⟩
theorem ZU (l:List bm)(hl:l.length<ei)(h:∀d,d∈l->d.ok)(hz:dF l<=500):P0 21 [cb l] (.bool (eK l)):=W5 l hl λd hd=>TW.2 d (h d hd) (by have:=AI hd;omega)
end
section
variable {nx0:Nat}{H0:T OB}
theorem Wq.qQ {α σ:Type}{R:Value->T OB->Nat->Prop}(l:List α)(I:List α->σ->Prop)(q:Nat->σ->T OB->Nat->Q)(hend:∀s H1 aI,I [] s->Ag nx0 H0 aI H1->e8 P pl X0 (q l.length s H1 aI) nx0 H0 R)
 (hstep:∀i a t s H1 aI,l[i]? = some a->i<l.length->I (a::t) s->Ag nx0 H0 aI H1->(∀s H2 nx2,I t s->Ag nx0 H0 nx2 H2->e8 P pl X0 (q (i+1) s H2 nx2) nx0 H0 R)->e8 P pl X0 (q i s H1 aI) nx0 H0 R)
 (s:σ) (H1:T OB) (aI:Nat) (hI:I l s) (hA:Ag nx0 H0 aI H1):e8 P pl X0 (q 0 s H1 aI) nx0 H0 R:=by
 have key:∀(t:List α) (i:Nat),l.drop i=t->i<=l.length->∀s H1 aI,I t s->Ag nx0 H0 aI H1->e8 P pl X0 (q i s H1 aI) nx0 H0 R:=by
  intro t
  induction t with
  | nil=>
    intro i hd hi s H1 aI hI hA;have hil:=drop_nil hd hi;subst hil;exact hend s H1 aI hI hA
  | cons a t ih=>
    intro i hd hi s H1 aI hI hA;obtain⟨hg,hlt,hd'⟩:=drop_cons hd;exact hstep i a t s H1 aI hg hlt hI hA λs H2 nx2 h1 h2=>ih (i+1) hd' (by omega) s H2 nx2 h1 h2
 exact key l 0 rfl (aN _) s H1 aI hI hA
abbrev rgm (m:Int):Prop:= -2305843009213693952<=m/\m<=500
abbrev rgd (m:Int):Prop:= -4611686018427387904<=m/\m<=500
abbrev TX (m r:Int)(k:Int):Prop:=(0<=m->r<=k*35184372088832+2251799813685248*m)/\(m<0->r<=k*35184372088832)
def Sz (m:Int)(z:Nat)(r:Int):Prop:=1<=r/\TX m r 1/\(r<=m->r=z)
def Sd (m:Int)(z:Nat)(r:Int):Prop:=0<=r/\TX m r 8/\(m<0->r=0)/\(r<=m->r=z)
abbrev SzR (m:Int)(z:Nat):Value->T OB->Nat->Prop:=λv _ _=>∃r,v=i64 r/\Sz m z r
abbrev SdR (m:Int)(z:Nat):Value->T OB->Nat->Prop:=λv _ _=>∃r,v=i64 r/\Sd m z r
def uj (f:FuncId)(v:Value)(z:Nat):Prop:=∀(m:Int),rgm m->∀nx0 H0 H nx,Ag nx0 H0 nx H->e8 P pl X0 (aX P pl (.call f [v,i64 m] false none H nx)) nx0 H0 (SzR m z)
theorem Wq.DP {f:FuncId}{v:Value}{z:Nat}(h:uj f v z){m:Int}(hx:X0 f [v,i64 m]=none)(hm:rgm m){H:T OB}{nx:Nat}{R:Value->T OB->Nat->Prop}{k p:Value->T OB->Nat->Q}(hA:Ag nx0 H0 nx H)
 (hk:∀r H' nx',Ag nx0 H0 nx' H'->Sz m z r->e8 P pl X0 (k (i64 r) H' nx') nx0 H0 R):e8 P pl X0 (dm (.call f [v,i64 m] false none H nx) k p) nx0 H0 R:=
 Wq.qL hx (h m hm nx0 H0 H nx hA) λu H' nx' hA' ⟨r,hu,hs⟩=>by subst hu;exact hk r H' nx' hA' hs
theorem Fp (H:T OB)(n:Nat)(h:n<140737488355328):dx P H .quo 3 true (some (i64 (n:Int))) (some (i64 8))=some (i64 ((n/8:Nat):Int)):=by
 rw[lG _ _ _ _ _ (by decide)];have e1:((n:Int).tdiv 8)=((n/8:Nat):Int):=by rw[Int.tdiv_eq_ediv_of_nonneg (by omega)];omega
 rw[e1,aS (by omega)]
theorem Qd (p:bk)(hs:oy p.s)(hl:p.l.length<ei)(ih:∀a,a∈p.l->uj 72 a.v a.z):uj 72 p.v p.z:=λm hm nx0 H0 H nx hA=>by
 have hs':p.s.length<140737488355328:=hs;rw[q72];refine Wq.gi hA λhA=> ?_;simp only[af,aL,aa,aT,Fp _ _ hs',show IntKind.i64.wrap (1+((p.s.length/8:Nat):Int))=1+((p.s.length/8:Nat):Int)from aS (by omega)];have hz:=p.hZ;refine Wq.qQ (p.l) (λt (n:Int)=>1<=n/\TX m n 1/\(n<=m->n+(dP t:Int)=(p.z:Int))) (λi n H nx=> .jump (JO (i64 m) (ah p.v) (i64 n) (i64 (i:Int)) H nx)) (λn0 H0' nx0' hI0 hA0=> ?_) (λi0 a0 t0 n0 H0' nx0' hg0 hlt0 hI0 hA0 ih0=> ?_) (1+((p.s.length/8:Nat):Int)) _ _ ?_ hA
 . refine Wq.jmp (Wr ..) (λ_=>rfl) ?_;simp only[af,aL,aa,aF];exact Wq.mf hA0 ⟨_,rfl,hI0.1,hI0.2.1,λh=>by have:=hI0.2.2 h;simpa[dP]using this⟩
 . have hx0:((p.l).map bk.v)[i0]? = some (bk.v a0):=by simp[hg0]
   have hm0:=ak hg0;obtain⟨g1,g2,g3⟩:=hI0;refine Wq.jmp (Wr ..) (λ_=>rfl) ?_;simp only[af,aL,aa,aJ hlt0,jI hx0];refine Wq.ite (λhle=> ?_) (λhle=> ?_)
   . rw[show IntKind.i64.wrap (m-n0)=m-n0 from aS (by omega)];refine Wq.DP (ih a0 hm0) rfl ⟨by omega,by omega⟩ hA0 λr H2 nx2 hA2 hs=> ?_;obtain⟨k1,k2,k3⟩:=hs;have hn:=g2.1 (by omega);have hr:=k2.1 (by omega);simp only[af,show IntKind.i64.wrap (n0+r)=n0+r from aS (by omega),az (show i0<9223372036854775807 by have:=cv hl;omega)];refine ih0 (n0+r) H2 nx2 ⟨by omega,⟨λ_=>by omega,λ_=>by omega⟩,λhle2=> ?_⟩ hA2;have e1:=k3 (by omega);have e2:=g3 hle;rw[dP,Int.natCast_add]at e2;omega
   . exact Wq.mf hA0 ⟨_,rfl,g1,g2,λh=>absurd h hle⟩
 . refine⟨by omega,⟨λ_=>by omega,λ_=>by omega⟩,λ_=>by omega⟩
theorem G_ (p:bk)(h:p.ok):uj 72 p.v p.z:=by
 refine bk.ind (p:=λp=>p.ok->uj 72 p.v p.z) (λp ih h=> ?_) p h;rw[bk.br]at h;exact Qd p h.2.1 h.2.2.1 λa ha=>ih a ha (h.2.2.2 a ha)
theorem Me (p:bI)(hs:oy p.s)(hl:p.l.length<ei)(ih:∀a,a∈p.l->uj 126 a.v a.z):uj 126 p.v p.z:=λm hm nx0 H0 H nx hA=>by
 have hs':p.s.length<140737488355328:=hs;rw[adX];refine Wq.gi hA λhA=> ?_;simp only[af,aL,aa,aT,Fp _ _ hs',show IntKind.i64.wrap (1+((p.s.length/8:Nat):Int))=1+((p.s.length/8:Nat):Int)from aS (by omega)];have hz:=p.hZ;refine Wq.qQ (p.l) (λt (n:Int)=>1<=n/\TX m n 1/\(n<=m->n+(kP t:Int)=(p.z:Int))) (λi n H nx=> .jump (CH (i64 m) (ah p.v) (i64 n) (i64 (i:Int)) H nx)) (λn0 H0' nx0' hI0 hA0=> ?_) (λi0 a0 t0 n0 H0' nx0' hg0 hlt0 hI0 hA0 ih0=> ?_) (1+((p.s.length/8:Nat):Int)) _ _ ?_ hA
 . refine Wq.jmp (OS ..) (λ_=>rfl) ?_;simp only[af,aL,aa,aF];exact Wq.mf hA0 ⟨_,rfl,hI0.1,hI0.2.1,λh=>by have:=hI0.2.2 h;simpa[kP]using this⟩
 . have hx0:((p.l).map bI.v)[i0]? = some (bI.v a0):=by simp[hg0]
   have hm0:=ak hg0;obtain⟨g1,g2,g3⟩:=hI0;refine Wq.jmp (OS ..) (λ_=>rfl) ?_;simp only[af,aL,aa,aJ hlt0,mr hx0];refine Wq.ite (λhle=> ?_) (λhle=> ?_)
   . rw[show IntKind.i64.wrap (m-n0)=m-n0 from aS (by omega)];refine Wq.DP (ih a0 hm0) rfl ⟨by omega,by omega⟩ hA0 λr H2 nx2 hA2 hs=> ?_;obtain⟨k1,k2,k3⟩:=hs;have hn:=g2.1 (by omega);have hr:=k2.1 (by omega);simp only[af,show IntKind.i64.wrap (n0+r)=n0+r from aS (by omega),az (show i0<9223372036854775807 by have:=cv hl;omega)];refine ih0 (n0+r) H2 nx2 ⟨by omega,⟨λ_=>by omega,λ_=>by omega⟩,λhle2=> ?_⟩ hA2;have e1:=k3 (by omega);have e2:=g3 hle;rw[kP,Int.natCast_add]at e2;omega
   . exact Wq.mf hA0 ⟨_,rfl,g1,g2,λh=>absurd h hle⟩
 . refine⟨by omega,⟨λ_=>by omega,λ_=>by omega⟩,λ_=>by omega⟩
theorem TY (p:bI)(h:p.ok):uj 126 p.v p.z:=by
 refine bI.ind (p:=λp=>p.ok->uj 126 p.v p.z) (λp ih h=> ?_) p h;rw[bI.br]at h;exact Me p h.1 h.2.1 λa ha=>ih a ha (h.2.2 a ha)
theorem Qe (p:eO)(hs:oy p.s)(hl:p.arg.length<ei)(ih:∀a,a∈p.arg->uj 126 a.v a.z):uj 74 p.v p.z:=λm hm nx0 H0 H nx hA=>by
 have hs':p.s.length<140737488355328:=hs;rw[q74];refine Wq.gi hA λhA=> ?_;simp only[af,aL,aa,aT,Fp _ _ hs',show IntKind.i64.wrap (1+((p.s.length/8:Nat):Int))=1+((p.s.length/8:Nat):Int)from aS (by omega)];have hz:=show p.z=1+p.s.length/8+kP p.arg from rfl;refine Wq.qQ (p.arg) (λt (n:Int)=>1<=n/\TX m n 1/\(n<=m->n+(kP t:Int)=(p.z:Int))) (λi n H nx=> .jump (JQ (i64 m) (ah p.v) (i64 n) (i64 (i:Int)) H nx)) (λn0 H0' nx0' hI0 hA0=> ?_) (λi0 a0 t0 n0 H0' nx0' hg0 hlt0 hI0 hA0 ih0=> ?_) (1+((p.s.length/8:Nat):Int)) _ _ ?_ hA
 . refine Wq.jmp (Wu ..) (λ_=>rfl) ?_;simp only[af,aL,aa,aF];exact Wq.mf hA0 ⟨_,rfl,hI0.1,hI0.2.1,λh=>by have:=hI0.2.2 h;simpa[kP]using this⟩
 . have hx0:((p.arg).map bI.v)[i0]? = some (bI.v a0):=by simp[hg0]
   have hm0:=ak hg0;obtain⟨g1,g2,g3⟩:=hI0;refine Wq.jmp (Wu ..) (λ_=>rfl) ?_;simp only[af,aL,aa,aJ hlt0,mr hx0];refine Wq.ite (λhle=> ?_) (λhle=> ?_)
   . rw[show IntKind.i64.wrap (m-n0)=m-n0 from aS (by omega)];refine Wq.DP (ih a0 hm0) rfl ⟨by omega,by omega⟩ hA0 λr H2 nx2 hA2 hs=> ?_;obtain⟨k1,k2,k3⟩:=hs;have hn:=g2.1 (by omega);have hr:=k2.1 (by omega);simp only[af,show IntKind.i64.wrap (n0+r)=n0+r from aS (by omega),az (show i0<9223372036854775807 by have:=cv hl;omega)];refine ih0 (n0+r) H2 nx2 ⟨by omega,⟨λ_=>by omega,λ_=>by omega⟩,λhle2=> ?_⟩ hA2;have e1:=k3 (by omega);have e2:=g3 hle;rw[kP,Int.natCast_add]at e2;omega
   . exact Wq.mf hA0 ⟨_,rfl,g1,g2,λh=>absurd h hle⟩
 . refine⟨by omega,⟨λ_=>by omega,λ_=>by omega⟩,λ_=>by omega⟩
theorem Qf (p:eO)(h:p.ok):uj 74 p.v p.z:=Qe p h.1 h.2.1 λa ha=>TY a (h.2.2 a ha)
def ZV (v:Value)(z:Nat):Prop:=∀(m:Int),rgd m->∀nx0 H0 H nx,Ag nx0 H0 nx H->e8 P pl X0 (aX P pl (.call 41 [v,i64 m] false none H nx)) nx0 H0 (SdR m z)
theorem Qg (e:aO)(h:e.ok)(hE:∀a,a∈e.l->uj 73 a.v a.z)(hD:ZV (cb e.d) (dF e.d)):uj 73 e.v e.z:=λm hm nx0 H0 H nx hA=>by
 rw[aO.br]at h;obtain⟨hr,hs',⟨hl,hl'⟩,⟨hp,hp'⟩,hd,hd'⟩:=h;have hs':e.s.length<140737488355328:=hs';have hz:=e.hZ;rw[q73];refine Wq.gi hA λhA=> ?_;simp only[af,aL,aa,aT,Fp _ _ hs',show IntKind.i64.wrap (1+((e.s.length/8:Nat):Int))=1+((e.s.length/8:Nat):Int)from aS (by omega)];have LE:∀(n:Int) H1 aI,1<=n->TX m n 1->(n<=m->n+(dF e.d:Int)=(e.z:Int))->Ag nx0 H0 aI H1->
  e8 P pl X0 (dm (.call 41 [cb e.d,i64 (IntKind.i64.wrap (m-n))] false none H1 aI) (λx H nx=>aw (dx P H .add 3 false (some (i64 n)) (some x)) (λy=> .ret ⟨.ret y,false,H,nx⟩) .bad) jy) nx0 H0 (SzR m e.z):=by
  intro n H1 aI g1 g2 g3 hA1;have hnb:n<=1200000000000000000:=by
   by_cases h0:0<=m
   . have:=g2.1 h0;omega
   . have:=g2.2 (by omega);omega
  rw[show IntKind.i64.wrap (m-n)=m-n from aS (by omega)];refine Wq.qL rfl (hD (m-n) ⟨by omega,by omega⟩ nx0 H0 H1 aI hA1) λu H2 nx2 hA2 hu=> ?_;obtain⟨r,rfl,k1,k2,k3,k4⟩:=hu;have hrb:r<=1200000000000000000:=by
   by_cases h0:0<=m-n
   . have:=k2.1 h0;omega
   . have:=k2.2 (by omega);omega
  simp only[af,show IntKind.i64.wrap (n+r)=n+r from aS (by omega)];refine Wq.mf hA2 ⟨n+r,rfl,by omega,⟨λh0=> ?_,λh0=> ?_⟩,λhle=> ?_⟩
  . by_cases h1:n<=m
    . have:=k2.1 (by omega);omega
    . have:=k3 (by omega);have:=g2.1 h0;omega
  . have:=k3 (by omega);have:=g2.2 h0;omega
  . have:=k4 (by omega);have:=g3 (by omega);omega
 have L17:∀(n:Int) H1 aI,1<=n->TX m n 1->(n<=m->n+((dP e.p:Int)+(dF e.d:Int))=(e.z:Int))->Ag nx0 H0 aI H1->e8 P pl X0 (.jump (tZ (i64 m) (ah e.v) (i64 n) (i64 ((0:Nat):Int)) H1 aI)) nx0 H0 (SzR m e.z):=by
  intro n H1 aI g1 g2 g3 hA1;refine Wq.qQ (e.p) (λt (n:Int)=>1<=n/\TX m n 1/\(n<=m->n+((dP t:Int)+(dF e.d:Int))=(e.z:Int))) (λi n H nx=> .jump (tZ (i64 m) (ah e.v) (i64 n) (i64 (i:Int)) H nx)) (λn0 H0' nx0' hI0 hA0=> ?_) (λi0 a0 t0 n0 H0' nx0' hg0 hlt0 hI0 hA0 ih0=> ?_) (n) _ _ ?_ hA1
  . refine Wq.jmp (Oz ..) (λ_=>rfl) ?_;simp only[af,aL,aa,aF];exact LE n0 _ _ hI0.1 hI0.2.1 (λh=>by have:=hI0.2.2 h;rw[dP]at this;omega) hA0
  . have hx0:((e.p).map bk.v)[i0]? = some (bk.v a0):=by simp[hg0]
    have hm0:=ak hg0;obtain⟨g1,g2,g3⟩:=hI0;refine Wq.jmp (Oz ..) (λ_=>rfl) ?_;simp only[af,aL,aa,aJ hlt0,jI hx0];refine Wq.ite (λhle=> ?_) (λhle=> ?_)
    . rw[show IntKind.i64.wrap (m-n0)=m-n0 from aS (by omega)];refine Wq.DP (G_ a0 (hp' a0 hm0)) rfl ⟨by omega,by omega⟩ hA0 λr H2 nx2 hA2 hs=> ?_;obtain⟨k1,k2,k3⟩:=hs;have hn:=g2.1 (by omega);have hr:=k2.1 (by omega);simp only[af,show IntKind.i64.wrap (n0+r)=n0+r from aS (by omega),az (show i0<9223372036854775807 by have:=cv hp;omega)];refine ih0 (n0+r) H2 nx2 ⟨by omega,⟨λ_=>by omega,λ_=>by omega⟩,λhle2=> ?_⟩ hA2;have e1:=k3 (by omega);have e2:=g3 hle;rw[dP,Int.natCast_add]at e2;omega
    . exact LE n0 _ _ g1 g2 (λh=>absurd h hle) hA0
  . exact⟨g1,g2,g3⟩
 refine Wq.qQ (e.l) (λt (n:Int)=>1<=n/\TX m n 1/\(n<=m->n+((eX t:Int)+((dP e.p:Int)+(dF e.d:Int)))=(e.z:Int))) (λi n H nx=> .jump (JP (i64 m) (ah e.v) (i64 n) (i64 (i:Int)) H nx)) (λn0 H0' nx0' hI0 hA0=> ?_) (λi0 a0 t0 n0 H0' nx0' hg0 hlt0 hI0 hA0 ih0=> ?_) (1+((e.s.length/8:Nat):Int)) _ _ ?_ hA
 . refine Wq.jmp (Ws ..) (λ_=>rfl) ?_;simp only[af,aL,aa,aF];exact L17 n0 _ _ hI0.1 hI0.2.1 (λh=>by have:=hI0.2.2 h;rw[eX]at this;omega) hA0
 . have hx0:((e.l).map aO.v)[i0]? = some (aO.v a0):=by simp[hg0]
   have hm0:=ak hg0;obtain⟨g1,g2,g3⟩:=hI0;refine Wq.jmp (Ws ..) (λ_=>rfl) ?_;simp only[af,aL,aa,aJ hlt0,kE hx0];refine Wq.ite (λhle=> ?_) (λhle=> ?_)
   . rw[show IntKind.i64.wrap (m-n0)=m-n0 from aS (by omega)];refine Wq.DP (hE a0 hm0) rfl ⟨by omega,by omega⟩ hA0 λr H2 nx2 hA2 hs=> ?_;obtain⟨k1,k2,k3⟩:=hs;have hn:=g2.1 (by omega);have hr:=k2.1 (by omega);simp only[af,show IntKind.i64.wrap (n0+r)=n0+r from aS (by omega),az (show i0<9223372036854775807 by have:=cv hl;omega)];refine ih0 (n0+r) H2 nx2 ⟨by omega,⟨λ_=>by omega,λ_=>by omega⟩,λhle2=> ?_⟩ hA2;have e1:=k3 (by omega);have e2:=g3 hle;rw[eX,Int.natCast_add]at e2;omega
   . exact L17 n0 _ _ g1 g2 (λh=>absurd h hle) hA0
 . refine⟨by omega,⟨λ_=>by omega,λ_=>by omega⟩,λ_=>by omega⟩
end
section
variable {nx0:Nat}{H0:T OB}
theorem KH (l:List bm)(hl:l.length<ei)(hok:∀d,d∈l->d.ok)(hE:∀d,d∈l->uj 73 d.e.v d.e.z)(hF:∀d,d∈l->∀f,f∈d.f->uj 73 f.b.v f.b.z):ZV (cb l) (dF l):=λm hm nx0 H0 H nx hA=>by
 rw[q41]
 by_cases hm0:m<0
 . cases l with
   | nil=>
     refine Wq.jmp (JL ..) (λ_=>rfl) ?_;simp only[af,aL,aa];exact Wq.mf hA ⟨0,rfl,by omega,⟨λh=>by omega,λh=>by omega⟩,λ_=>rfl,λh=>by omega⟩
   | cons d l=>
     have e1:decide ((0:Int)<((d::l).length:Int))=true:=by simp
     have e2:decide ((0:Int)<=m)=false:=by simp;omega
     refine Wq.jmp (JL ..) (λ_=>rfl) ?_;simp only[af,aL,aa,e1,e2];exact Wq.mf hA ⟨0,rfl,by omega,⟨λh=>by omega,λh=>by omega⟩,λ_=>rfl,λh=>by omega⟩
 have hm5:=hm.2;refine Wq.qQ (l) (λt (n:Int)=>0<=n/\n<=8*35184372088832+2251799813685248*m/\(n<=m->n+(dF t:Int)=(dF l:Int))) (λi n H nx=> .jump (Az (cb l) (i64 m) (i64 n) (i64 (i:Int)) H nx)) (λn0 H0' nx0' hI0 hA0=> ?_) (λi0 a0 t0 n0 H0' nx0' hg0 hlt0 hI0 hA0 ih0=> ?_) (0) _ _ ?_ hA
 . refine Wq.jmp (JL ..) (λ_=>rfl) ?_;simp only[af,aL,aa,aF];exact Wq.mf hA0 ⟨n0,rfl,hI0.1,⟨λh=>by have:=hI0.2.1;omega,λh=>by omega⟩,λh=>by omega,λh=>by have:=hI0.2.2 h;rw[dF]at this;omega⟩
 . have hx0:((l).map bm.v)[i0]? = some (bm.v a0):=by simp[hg0]
   have hm0':=ak hg0;obtain⟨g1,g2,g3⟩:=hI0;refine Wq.jmp (JL ..) (λ_=>rfl) ?_;simp only[af,aL,aa,aJ hlt0,sG hx0];refine Wq.ite (λhle=> ?_) (λhle=> ?_)
   . have hok0:=(bm.br a0).1 (hok a0 hm0');obtain⟨hp,he,⟨hfl,hf⟩,hx,hc⟩:=hok0;have hzd:=a0.hZ;have hzx:a0.x.z=l6 a0.x.vars+a0.x.s.length/8+kG a0.x.cons:=rfl;refine Wq.var fO gQ rfl (Pe _) (Pf _) hA0 λH2 nx2 hA2=> ?_;rw[show IntKind.i64.wrap (n0+1)=n0+1 from aS (by omega),show IntKind.i64.wrap (m-n0)=m-n0 from aS (by omega)];refine Wq.DP (G_ a0.p hp) rfl ⟨by omega,by omega⟩ hA2 λr1 H3 nx3 hA3 hs1=> ?_;obtain⟨k1,k2,k3⟩:=hs1;have hr1:=k2.1 (by omega);simp only[af,aL,aa,show IntKind.i64.wrap (n0+1+r1)=n0+1+r1 from aS (by omega)];rw[show IntKind.i64.wrap (m-(n0+1+r1))=m-(n0+1+r1)from aS (by omega)];refine Wq.DP (hE a0 hm0') rfl ⟨by omega,by omega⟩ hA3 λr2 H4 nx4 hA4 hs2=> ?_;obtain⟨j1,j2,j3⟩:=hs2;have hr2:r2<=35184372088832+2251799813685248*500:=by
      by_cases h0:0<=m-(n0+1+r1)
      . have:=j2.1 h0;omega
      . have:=j2.2 (by omega);omega
     have hb2:n0+1+r1+r2<=3*35184372088832+2251799813685248*m:=by
      by_cases h0:0<=m-(n0+1+r1)
      . have:=j2.1 h0;omega
      . have:=j2.2 (by omega);omega
     simp only[af,show IntKind.i64.wrap (n0+1+r1+r2)=n0+1+r1+r2 from aS (by omega)];have hz2:n0+1+r1+r2<=m->n0+1+r1+r2+((qw a0.f:Int)+((a0.x.z:Int)+((a0.c.z:Int)+(dF t0:Int))))=(dF l:Int):=by
      intro h;have e1:=k3 (by omega);have e2:=j3 (by omega);have e3:=g3 (by omega);rw[dF]at e3;omega
     have L9:∀(n:Int) H1 aI,0<=n->n<=8*35184372088832+2251799813685248*m->(n<=m->n+(dF t0:Int)=(dF l:Int))->Ag nx0 H0 aI H1->e8 P pl X0 (.jump (Az (cb l) (i64 m) (i64 n) (i64 (IntKind.i64.wrap ((i0:Int)+1))) H1 aI)) nx0 H0 (SdR m (dF l)):=by
      intro n H1 aI q1 q2 q3 hA1;rw[az (show i0<9223372036854775807 by have:=cv hl;omega)];exact ih0 n H1 aI ⟨q1,q2,q3⟩ hA1
     have L47:∀(n:Int) H1 aI,0<=n->n<=5*35184372088832+2251799813685248*m->(n<=m->n+((kG a0.x.cons:Int)+(dF t0:Int))=(dF l:Int))->Ag nx0 H0 aI H1->e8 P pl X0 (.jump (rD (cb l) (i64 m) (i64 n) (i64 (i0:Int)) (ah a0.v) (i64 ((0:Nat):Int)) H1 aI)) nx0 H0 (SdR m (dF l)):=by
      intro n H1 aI q1 q2 q3 hA1;refine Wq.qQ (a0.x.cons) (λt (n:Int)=>0<=n/\n<=5*35184372088832+2251799813685248*m/\(n<=m->n+((kG t:Int)+(dF t0:Int))=(dF l:Int))) (λi n H nx=> .jump (rD (cb l) (i64 m) (i64 n) (i64 (i0:Int)) (ah a0.v) (i64 (i:Int)) H nx)) (λn8 H8' nx8' hI8 hA8=> ?_) (λi8 a8 t8 n8 H8' nx8' hg8 hlt8 hI8 hA8 ih8=> ?_) (n) _ _ ?_ hA1
      . refine Wq.jmp (Od ..) (λ_=>rfl) ?_;simp only[af,aL,aa,aF];exact L9 n8 _ _ hI8.1 (by omega) (λh=>by have:=hI8.2.2 h;rw[kG]at this;omega) hA8
      . have hx8:((a0.x.cons).map eO.v)[i8]? = some (eO.v a8):=by simp[hg8]
        have hm8:=ak hg8;obtain⟨p1,p2,p3⟩:=hI8;refine Wq.jmp (Od ..) (λ_=>rfl) ?_;simp only[af,aL,aa,aJ hlt8,uT hx8];refine Wq.ite (λhle=> ?_) (λhle=> ?_)
        . rw[show IntKind.i64.wrap (m-n8)=m-n8 from aS (by omega)];refine Wq.DP (Qf a8 (hx.2.2.2 a8 hm8)) rfl ⟨by omega,by omega⟩ hA8 λr H5 nx5 hA5 hs=> ?_;obtain⟨k1,k2,k3⟩:=hs;have hr:=k2.1 (by omega);simp only[af,show IntKind.i64.wrap (n8+r)=n8+r from aS (by omega),az (show i8<9223372036854775807 by have:=cv hx.2.2.1;omega)];refine ih8 (n8+r) H5 nx5 ⟨by omega,by omega,λhle2=> ?_⟩ hA5;have e1:=k3 (by omega);have e2:=p3 hle;rw[kG,Int.natCast_add]at e2;omega
        . exact L9 n8 _ _ p1 (by omega) (λh=>absurd h hle) hA8
      . exact⟨q1,q2,q3⟩
     have L37e:∀(n:Int) H1 aI,0<=n->n<=3*35184372088832+2251799813685248*m->(n<=m->n+(((a0.x.s.length/8:Nat):Int)+((kG a0.x.cons:Int)+((a0.c.z:Int)+(dF t0:Int))))=(dF l:Int))->Ag nx0 H0 aI H1->
      e8 P pl X0 (dm (.call 74 [a0.c.v,i64 (IntKind.i64.wrap (m-n))] false none H1 aI) (λx H nx=>aw (dx P H .add 3 false (some (i64 (IntKind.i64.wrap (n+((a0.x.s.length/8:Nat):Int))))) (some x)) (λy=> .jump (rD (cb l) (i64 m) y (i64 (i0:Int)) (ah a0.v) (i64 ((0:Nat):Int)) H nx)) .bad) jy) nx0 H0 (SdR m (dF l)):=by
      intro n H1 aI q1 q2 q3 hA1;have hxs:a0.x.s.length<140737488355328:=hx.2.1;rw[show IntKind.i64.wrap (m-n)=m-n from aS (by omega),show IntKind.i64.wrap (n+((a0.x.s.length/8:Nat):Int))=n+((a0.x.s.length/8:Nat):Int)from aS (by omega)];refine Wq.DP (Qf a0.c hc) rfl ⟨by omega,by omega⟩ hA1 λr H5 nx5 hA5 hs=> ?_;obtain⟨k1,k2,k3⟩:=hs;have hrb:r<=35184372088832+2251799813685248*500:=by
       by_cases h0:0<=m-n
       . have:=k2.1 h0;omega
       . have:=k2.2 (by omega);omega
      simp only[af,show IntKind.i64.wrap (n+((a0.x.s.length/8:Nat):Int)+r)=n+((a0.x.s.length/8:Nat):Int)+r from aS (by omega)];refine L47 _ _ _ (by omega) ?_ (λh=> ?_) hA5
      . by_cases h0:0<=m-n
        . have:=k2.1 h0;omega
        . have:=k2.2 (by omega);omega
      . have e1:=k3 (by omega);have e2:=q3 (by omega);omega
     have L37:∀(n:Int) H1 aI,0<=n->n<=3*35184372088832+2251799813685248*m->(n<=m->n+((a0.x.z:Int)+((a0.c.z:Int)+(dF t0:Int)))=(dF l:Int))->Ag nx0 H0 aI H1->e8 P pl X0 (.jump (tV (cb l) (i64 m) (i64 n) (i64 (i0:Int)) (ah a0.v) (i64 ((0:Nat):Int)) H1 aI)) nx0 H0 (SdR m (dF l)):=by
      intro n H1 aI q1 q2 q3 hA1;have hxs:a0.x.s.length<140737488355328:=hx.2.1;refine Wq.qQ (a0.x.vars) (λt (n:Int)=>0<=n/\n<=3*35184372088832+2251799813685248*m/\(n<=m->n+((l6 t:Int)+(((a0.x.s.length/8:Nat):Int)+((kG a0.x.cons:Int)+((a0.c.z:Int)+(dF t0:Int)))))=(dF l:Int))) (λi n H nx=> .jump (tV (cb l) (i64 m) (i64 n) (i64 (i0:Int)) (ah a0.v) (i64 (i:Int)) H nx)) (λn8 H8' nx8' hI8 hA8=> ?_) (λi8 a8 t8 n8 H8' nx8' hg8 hlt8 hI8 hA8 ih8=> ?_) (n) _ _ ?_ hA1
      . refine Wq.jmp (Oc ..) (λ_=>rfl) ?_;simp only[af,aL,aa,aF,aT,Fp _ _ hxs,cg,gO,nC];exact L37e n8 _ _ hI8.1 hI8.2.1 (λh=>by have:=hI8.2.2 h;rw[l6]at this;omega) hA8
      . have hx8:((a0.x.vars).map aK)[i8]? = some (aK a8):=by simp[hg8]
        have hm8:=ak hg8;obtain⟨p1,p2,p3⟩:=hI8;refine Wq.jmp (Oc ..) (λ_=>rfl) ?_;simp only[af,aL,aa,aJ hlt8,yr hx8,aT,Fp _ _ hxs,cg,gO,nC];refine Wq.ite (λhle=> ?_) (λhle=> ?_)
        . have h7:=hx.1.2 a8 hm8;have h8:a8.length<140737488355328:=h7;simp only[af,aT,Fp _ _ h8];rw[show IntKind.i64.wrap (n8+1)=n8+1 from aS (by omega)];rw[show IntKind.i64.wrap (n8+1+((a8.length/8:Nat):Int))=n8+1+((a8.length/8:Nat):Int)from aS (by omega),az (show i8<9223372036854775807 by have:=cv hx.1.1;omega)];refine ih8 _ _ _ ⟨by omega,by omega,λhle2=> ?_⟩ hA8;have e2:=p3 hle;rw[l6]at e2;omega
        . exact L37e n8 _ _ p1 p2 (λh=>absurd h hle) hA8
      . exact⟨q1,q2,λh=>by have:=q3 h;omega⟩
     refine Wq.qQ (a0.f) (λt (n:Int)=>0<=n/\n<=3*35184372088832+2251799813685248*m/\(n<=m->n+((qw t:Int)+((a0.x.z:Int)+((a0.c.z:Int)+(dF t0:Int))))=(dF l:Int))) (λi n H nx=> .jump (yE (cb l) (i64 m) (i64 n) (i64 (i0:Int)) (ah a0.v) (i64 (i:Int)) H nx)) (λn8 H8' nx8' hI8 hA8=> ?_) (λi8 a8 t8 n8 H8' nx8' hg8 hlt8 hI8 hA8 ih8=> ?_) (n0+1+r1+r2) _ _ ?_ hA4
     . refine Wq.jmp (Oa ..) (λ_=>rfl) ?_;simp only[af,aL,aa,aF];exact L37 n8 _ _ hI8.1 hI8.2.1 (λh=>by have:=hI8.2.2 h;rw[qw]at this;omega) hA8
     . have hx8:((a0.f).map Fn.v)[i8]? = some (Fn.v a8):=by simp[hg8]
       have hm8:=ak hg8;obtain⟨p1,p2,p3⟩:=hI8;refine Wq.jmp (Oa ..) (λ_=>rfl) ?_;simp only[af,aL,aa,aJ hlt8,oS hx8];refine Wq.ite (λhle=> ?_) (λhle=> ?_)
       . have hfa:=(Fn.br a8).1 (hf a8 hm8);have h8:a8.s.length<140737488355328:=hfa.1;have hzf:=a8.hZ;simp only[af,aT,Fp _ _ h8];rw[show IntKind.i64.wrap (n8+1)=n8+1 from aS (by omega),show IntKind.i64.wrap (m-n8)=m-n8 from aS (by omega)];rw[show IntKind.i64.wrap (n8+1+((a8.s.length/8:Nat):Int))=n8+1+((a8.s.length/8:Nat):Int)from aS (by omega)];refine Wq.DP (hF a0 hm0' a8 hm8) rfl ⟨by omega,by omega⟩ hA8 λr H5 nx5 hA5 hs=> ?_;obtain⟨k1,k2,k3⟩:=hs;have hr:=k2.1 (by omega);simp only[af,show IntKind.i64.wrap (n8+1+((a8.s.length/8:Nat):Int)+r)=n8+1+((a8.s.length/8:Nat):Int)+r from aS (by omega),cg,gO,nC];have hz8:n8+1+((a8.s.length/8:Nat):Int)+r<=m->n8+1+((a8.s.length/8:Nat):Int)+r+((dP a8.p:Int)+((qw t8:Int)+((a0.x.z:Int)+((a0.c.z:Int)+(dF t0:Int)))))=(dF l:Int):=by
          intro h;have e1:=k3 (by omega);have e2:=p3 hle;rw[qw]at e2;omega
         refine Wq.qQ (a8.p) (λt (n:Int)=>0<=n/\n<=3*35184372088832+2251799813685248*m/\(n<=m->n+((dP t:Int)+((qw t8:Int)+((a0.x.z:Int)+((a0.c.z:Int)+(dF t0:Int)))))=(dF l:Int))) (λi n H nx=> .jump (BX (cb l) (i64 m) (i64 n) (i64 (i0:Int)) (ah a0.v) (i64 (i8:Int)) (i64 (i:Int)) H nx)) (λn9 H9' nx9' hI9 hA9=> ?_) (λi9 a9 t9 n9 H9' nx9' hg9 hlt9 hI9 hA9 ih9=> ?_) (n8+1+((a8.s.length/8:Nat):Int)+r) _ _ ?_ hA5
         . refine Wq.jmp (Ob ..) (λ_=>rfl) ?_;simp only[af,aL,aa,aF,oS hx8];simp only[af,az (show i8<9223372036854775807 by have:=cv hfl;omega)];exact ih8 n9 _ _ ⟨hI9.1,hI9.2.1,λh=>by have:=hI9.2.2 h;rw[dP]at this;omega⟩ hA9
         . have hx9:((a8.p).map bk.v)[i9]? = some (bk.v a9):=by simp[hg9]
           have hm9:=ak hg9;obtain⟨o1,o2,o3⟩:=hI9;refine Wq.jmp (Ob ..) (λ_=>rfl) ?_;simp only[af,aL,aa,aJ hlt9,jI hx9,oS hx8];refine Wq.ite (λhle=> ?_) (λhle=> ?_)
           . rw[show IntKind.i64.wrap (m-n9)=m-n9 from aS (by omega)];refine Wq.DP (G_ a9 (hfa.2.1.2 a9 hm9)) rfl ⟨by omega,by omega⟩ hA9 λr H6 nx6 hA6 hs=> ?_;obtain⟨k1,k2,k3⟩:=hs;have hr:=k2.1 (by omega);simp only[af,show IntKind.i64.wrap (n9+r)=n9+r from aS (by omega),az (show i9<9223372036854775807 by have:=cv hfa.2.1.1;omega)];refine ih9 (n9+r) H6 nx6 ⟨by omega,by omega,λhle2=> ?_⟩ hA6;have e1:=k3 (by omega);have e2:=o3 hle;rw[dP,Int.natCast_add]at e2;omega
           . simp only[af,az (show i8<9223372036854775807 by have:=cv hfl;omega)];exact ih8 n9 _ _ ⟨o1,o2,λh=>absurd h hle⟩ hA9
         . exact⟨by omega,by omega,hz8⟩
       . exact L37 n8 _ _ p1 p2 (λh=>absurd h hle) hA8
     . exact⟨by omega,hb2,hz2⟩
   . exact Wq.mf hA0 ⟨n0,rfl,by omega,⟨λh=>by omega,λh=>by omega⟩,λh=>by omega,λh=>by omega⟩
 . exact⟨by omega,by omega,λ_=>by omega⟩
theorem KI:(∀e:aO,e.ok->uj 73 e.v e.z)/\∀d:bm,d.ok->uj 73 d.e.v d.e.z/\∀f,f∈d.f->uj 73 f.b.v f.b.z:=by
 have A:∀e:aO,(∀c,c∈e.l->c.ok->uj 73 c.v c.z)->(∀d,d∈e.d->d.ok->uj 73 d.e.v d.e.z/\∀f,f∈d.f->uj 73 f.b.v f.b.z)->e.ok->uj 73 e.v e.z:=λe h1 h2 h=>by
  have h':=(aO.br e).1 h;exact Qg e h (λa ha=>h1 a ha (h'.2.2.1.2 a ha)) (KH e.d h'.2.2.2.2.1 h'.2.2.2.2.2 (λd hd=>(h2 d hd (h'.2.2.2.2.2 d hd)).1) λd hd=>(h2 d hd (h'.2.2.2.2.2 d hd)).2)
 have B:∀d:bm,(d.e.ok->uj 73 d.e.v d.e.z)->(∀f,f∈d.f->f.b.ok->uj 73 f.b.v f.b.z)->d.ok->uj 73 d.e.v d.e.z/\∀f,f∈d.f->uj 73 f.b.v f.b.z:=λd h1 h2 h=>by
  have h':=(bm.br d).1 h;exact⟨h1 h'.2.1,λf hf=>h2 f hf ((Fn.br f).1 (h'.2.2.1.2 f hf)).2.2⟩
 exact⟨aO.ind A B,bm.ind A B⟩
theorem aeQ (l:List bm)(hl:l.length<ei)(h:∀d,d∈l->d.ok):ZV (cb l) (dF l):=KH l hl h (λd hd=>(KI.2 d (h d hd)).1) λd hd=>(KI.2 d (h d hd)).2
end
section
variable {nx0:Nat}{H0:T OB}
abbrev ptr (b:Nat):Value:= .pointer (some ⟨b,0,none⟩)
abbrev Fq (l:List Tok):List Value:=l.flatMap Tok.c
theorem Fs (l:List Tok):(Fq l).length=l.length*4:=by
 induction l with
 | nil=>rfl
 | cons a l ih=>
   show(a.c++Fq l).length=_;rw[aj,ih,ao];show 4+l.length*4=(l.length+1)*4;omega
def TS (nx0:Nat)(H:T OB)(nx:Nat)(l:List Tok)(sl:Value):Prop:=(l=[]/\sl= .slice none 0 0)\/∃b,nx0<=b/\b<nx/\dO H b (Fq l) 31/\sl= .slice (some ⟨b,0,none⟩) l.length iw
def Out (fr:Nat->List Value->TypeId->Prop)(bp nx0:Nat)(H:T OB)(nx:Nat)(l:List Tok)(b:Bool):Prop:=nx0<=bp/\bp<nx/\∃sl,dO H bp [sl,.bool b] 116/\TS nx0 H nx l sl/\(∀c o n u,sl= .slice (some ⟨c,o,none⟩) n u->c≠bp)/\∀x l e,fr x l e->x<nx/\dO H x l e/\x≠bp/\∀c o n u,sl= .slice (some ⟨c,o,none⟩) n u->c≠x
theorem Out.dZ {fr:Nat->List Value->TypeId->Prop}{bp nx nx':Nat}{H H':T OB}{l:List Tok}{b:Bool}(h:Out fr bp nx0 H nx l b)(hn:nx<=nx')(hk:∀b l e,b<nx->dO H b l e->dO H' b l e):Out fr bp nx0 H' nx' l b:=by
 obtain⟨h1,h2,sl,h3,h4,h5,h6⟩:=h;refine⟨h1,by omega,sl,hk _ _ _ h2 h3,?_,h5,λx l e hx=>by
  obtain⟨a,b,c⟩:=h6 x l e hx;exact⟨by omega,hk _ _ _ a b,c⟩⟩
 rcases h4 with h | ⟨c,q1,q2,q3,q4⟩
 . exact .inl h
 . exact .inr ⟨c,q1,by omega,hk _ _ _ q2 q3,q4⟩
def Go (l0:List Tok)(b0:Bool)(ok:Bool)(ts:List Tok)(n:Nat)(l:List Tok)(b:Bool):Prop:=b=(b0 || !ok)/\(b=false->l=l0++ts)/\l.length<=l0.length+n
theorem Go.start (l:List Tok)(b:Bool):Go l b true [] 0 l b:=⟨by simp,λ_=>by simp,by omega⟩
theorem Go.trans {l0 l1 l2 ts1 ts2:List Tok}{b0 b1 b2 ok1 ok2:Bool}{n1 n2:Nat}(h1:Go l0 b0 ok1 ts1 n1 l1 b1)(h2:Go l1 b1 ok2 ts2 n2 l2 b2):Go l0 b0 (ok1&&ok2) (ts1++ts2) (n1+n2) l2 b2:=by
 obtain⟨a1,a2,a3⟩:=h1;obtain⟨c1,c2,c3⟩:=h2;refine⟨by rw[c1,a1];cases b0<;>cases ok1<;>cases ok2<;>rfl,λh=> ?_,by omega⟩;rw[c2 h];have:b1=false:=by rw[h]at c1;cases b1 with
  | false=>rfl
  | true=>simp at c1
 rw[a2 this,bn]
def St (fr:Nat->List Value->TypeId->Prop)(bp nx0:Nat)(H0:T OB)(l0:List Tok)(b0:Bool)(ok:Bool)(ts:List Tok)(n:Nat)(H:T OB)(nx:Nat):Prop:=g_ nx0 H0/\Ag nx0 H0 nx H/\∃l b,Out fr bp nx0 H nx l b/\Go l0 b0 ok ts n l b
variable {fr:Nat->List Value->TypeId->Prop}{bp:Nat}{l0:List Tok}{b0:Bool}
theorem St.dZ {ok:Bool}{ts:List Tok}{n nx nx':Nat}{H H':T OB}(h:St fr bp nx0 H0 l0 b0 ok ts n H nx)(hA:Ag nx H nx' H'):St fr bp nx0 H0 l0 b0 ok ts n H' nx':=by
 obtain⟨h0,h1,l,b,h2,h3⟩:=h;exact⟨h0,h1.trans hA,l,b,h2.dZ hA.1 λb l e hb hi=>hi.ag hA hb,h3⟩
theorem St.Qh {ok:Bool}{ts:List Tok}{n nx nx':Nat}{H H':T OB}(h:St fr bp nx0 H0 l0 b0 ok ts n H nx)(hA:Ag nx0 H0 nx' H')(hn:nx<=nx')(hk:∀b l e,b<nx->dO H b l e->dO H' b l e):St fr bp nx0 H0 l0 b0 ok ts n H' nx':=by
 obtain⟨h0,h1,l,b,h2,h3⟩:=h;exact⟨h0,hA,l,b,h2.dZ hn hk,h3⟩
theorem St.mono {ok ok':Bool}{ts ts':List Tok}{n n' nx:Nat}{H:T OB}(h:St fr bp nx0 H0 l0 b0 ok ts n H nx)(e:ok=ok')(et:ok'=true->ts=ts')(en:n<=n'):St fr bp nx0 H0 l0 b0 ok' ts' n' H nx:=by
 obtain⟨h0,h1,l,b,h2,h3,h4,h5⟩:=h;refine⟨h0,h1,l,b,h2,by rw[h3,e],λq=> ?_,by omega⟩;have:ok'=true:=by
  rw[q,e]at h3;cases ok' with
  | true=>rfl
  | false=>cases b0<;>cases h3
 rw[h4 q,et this]
abbrev gN (fr:Nat->List Value->TypeId->Prop)(bp nx0:Nat)(H0:T OB)(l0:List Tok)(b0:Bool)(ok:Bool)(ts:List Tok)(n:Nat):Value->T OB->Nat->Prop:=λu H nx=>u= .tuple ⟨[]⟩/\St fr bp nx0 H0 l0 b0 ok ts n H nx
theorem Wq.done {ok ok':Bool}{ts ts':List Tok}{n n' nx:Nat}{H:T OB}(h:St fr bp nx0 H0 l0 b0 ok ts n H nx)(e:ok=ok')(et:ok'=true->ts=ts')(en:n<=n'):e8 P pl X0 (.ret ⟨.ret (.tuple ⟨[]⟩),false,H,nx⟩) nx0 H0 (gN fr bp nx0 H0 l0 b0 ok' ts' n'):=Wq.mf h.2.1 ⟨rfl,h.mono e et en⟩
def kn (f:FuncId)(args:List Value)(ok:Bool)(ts:List Tok)(n:Nat):Prop:=∀fr bp nx0 H0 l0 b0 H nx,l0.length+n<=100000->St fr bp nx0 H0 l0 b0 true [] 0 H nx->e8 P pl X0 (aX P pl (.call f (ptr bp::args) false none H nx)) nx0 H0 (gN fr bp nx0 H0 l0 b0 ok ts n)
variable {ok:Bool}{ts:List Tok}{n nx:Nat}{H:T OB}{R:Value->T OB->Nat->Prop}
theorem Wq.cG {f:FuncId}{args:List Value}{ok':Bool}{ts':List Tok}{n':Nat}{k p:Value->T OB->Nat->Q}(h:kn f args ok' ts' n')(hx:X0 f (ptr bp::args)=none)(hS:St fr bp nx0 H0 l0 b0 ok ts n H nx)(hl:l0.length+(n+n')<=100000)
 (hk:∀u H' nx',St fr bp nx0 H0 l0 b0 (ok&&ok') (ts++ts') (n+n') H' nx'->e8 P pl X0 (k u H' nx') nx0 H0 R):e8 P pl X0 (dm (.call f (ptr bp::args) false none H nx) k p) nx0 H0 R:=by
 obtain⟨h0,h1,l,b,h2,h3⟩:=hS;refine Wq.qL hx (h fr bp nx0 H0 l b H nx (by have:=h3.2.2;omega) ⟨h0,h1,l,b,h2,.start l b⟩) λu H' nx' hA hu=> ?_;obtain⟨_,q0,q1,l',b',q2,q3⟩:=hu;exact hk u H' nx' ⟨q0,q1,l',b',q2,h3.trans q3⟩
theorem Wq.qR {f:FuncId}{args:List Value}{u:Value}{k p:Value->T OB->Nat->Q}(h:P0 f args u)(hS:St fr bp nx0 H0 l0 b0 ok ts n H nx)(hk:∀H' nx',St fr bp nx0 H0 l0 b0 ok ts n H' nx'->e8 P pl X0 (k u H' nx') nx0 H0 R):e8 P pl X0 (dm (.call f args false none H nx) k p) nx0 H0 R:=
 Wq.gZ h hS.2.1 λH' nx' hA hn hkp=>hk H' nx' (hS.Qh hA hn hkp)
theorem Wq.Ha {f:FuncId}{args:List Value}{u:Value}{k p:Value->T OB->Nat->Q}(h:PT f args u)(hS:St fr bp nx0 H0 l0 b0 ok ts n H nx)(hk:∀H' nx',St fr bp nx0 H0 l0 b0 ok ts n H' nx'->e8 P pl X0 (k u H' nx') nx0 H0 R):e8 P pl X0 (dm (.call f args false none H nx) k p) nx0 H0 R:=by
 obtain⟨H1,aI,h1,h2⟩:=h H nx (hS.1.ag hS.2.1);obtain⟨v,H2,nx2,h3,hR,h4⟩:=hk H1 aI (hS.dZ h1);refine⟨v,H2,nx2,h3,hR,?_⟩;show aw (F P pl X0 (.call f args false none H nx)) (λr=>(match r.o with | .ret v=>k v r.H r.nx | .j_ v=>p v r.H r.nx:Q).run (F P pl X0)) none=_;rw[h2];exact h4
theorem St.succ (h:St fr bp nx0 H0 l0 b0 ok ts n H nx):St fr bp nx0 H0 l0 b0 ok ts n H (nx+1):=h.dZ (Ag.refl nx H).succ
theorem Wq.uk {k:Nat->Q}(h:St fr bp nx0 H0 l0 b0 ok ts n H nx)(hk:St fr bp nx0 H0 l0 b0 ok ts n H (nx+1)->e8 P pl X0 (k (nx+1)) nx0 H0 R):e8 P pl X0 (Ev.eF (cS nx) k) nx0 H0 R:=Wq.eF (hk h.succ)
theorem Wq.j9 {e t:TypeId}{l:List Value}{s:Nat}{x:Value}{k:T OB->Nat->Q}(hz:dD P e=some l)(hs:bT P t=some s)(hl:l.length=s)(hx:x.cells.toList.length=s)(hone:x.cells.toList.all aC=true)
 (h:St fr bp nx0 H0 l0 b0 ok ts n H nx) (hk:∀H' nx',St fr bp nx0 H0 l0 b0 ok ts n H' nx'->e8 P pl X0 (k H' nx') nx0 H0 R):e8 P pl X0 (bU (eN P H nx e) λp H nx=>sx P H nx t (some p) x k) nx0 H0 R:=
 Wq.NC hz hs hl hx hone h.2.1 λH' nx' hA hn hkp=>hk H' nx' (h.Qh hA hn hkp)
theorem St.bad (h:St fr bp nx0 H0 l0 b0 ok ts n H nx):aA P H 4 (some (.pointer (some ⟨bp,1,none⟩)))=some (.bool (b0 || !ok)):=by
 obtain⟨_,_,l,b,⟨_,_,sl,h1,_,_⟩,h3,_⟩:=h;rw[aB h1 Wa rfl,h3]
theorem KJ {n:Nat}(h:n<=1048576):da P 31 4 n=true:=by
 have:da P 31 4 n=(bj n 1048576&&true):=by kernel_rfl
 rw[this,av h];rfl
theorem AJ (a b c d:Value):Instr.fill (λi=>some (i*4,4)) (cI [Value.int .i64 0,Value.string ⟨⟨[]⟩⟩,Value.int .i64 0,Value.int .i64 0] (1*4)) [(0,.agg ⟨[a,b,c,d]⟩)]=some ⟨[a,b,c,d]⟩:=by kernel_rfl
theorem Out.mark {l:List Tok}{b:Bool}(h:Out fr bp nx0 H nx l b)(hA:Ag nx0 H0 nx H)(c:Bool){k:Value->T OB->Nat->Q}(hk:∀H',Out fr bp nx0 H' nx l c->Ag nx0 H0 nx H'->e8 P pl X0 (k undef H' nx) nx0 H0 R):
 e8 P pl X0 (bU (eD P H nx 4 (some (.pointer (some ⟨bp,1,none⟩))) (some (.bool c))) k) nx0 H0 R:=by
 obtain⟨h1,h2,sl,h3,h4,h5,h6⟩:=h;refine Wq.put h3 adD rfl rfl (by simp) rfl hA h1 λH' hb dZ hA'=>hk H' ⟨h1,h2,sl,hb,?_,h5,λx l e hx=>by
  obtain⟨p,q,r,t⟩:=h6 x l e hx;exact⟨p,dZ _ _ _ r q,r,t⟩⟩ hA'
 rcases h4 with h | ⟨c,q1,q2,q3,q4⟩
 . exact .inl h
 . exact .inr ⟨c,q1,q2,dZ _ _ _ (h5 _ _ _ _ q4) q3,q4⟩
theorem Wq.tok (t:Tok){k p:Value->T OB->Nat->Q}(hS:St fr bp nx0 H0 l0 b0 ok ts n H nx)(hl:l0.length+(n+1)<=100000)(hk:∀u H' nx',St fr bp nx0 H0 l0 b0 ok (ts++[t]) (n+1) H' nx'->e8 P pl X0 (k u H' nx') nx0 H0 R):
 e8 P pl X0 (bU (bC P H nx 29 1 (some [(0,t.v)])) λv H nx=>dm (.call 76 [ptr bp,v] false none H nx) k p) nx0 H0 R:=by
 obtain⟨h0,hA,l,b,hO,hG⟩:=hS;obtain⟨h1,h2,sl,h3,h4,h5,h6⟩:=hO;have hn0:=hA.1;have hlen:=hG.2.2;refine Wq.row kL fg ek rfl (AJ _ _ _ _) hA λH1 hb1 keep1 hA1=> ?_;refine Wq.qL (R1:=λu H' nx'=>Out fr bp nx0 H' nx' (l++[t]) b) rfl ?_ λu H2 nx2 hA2 hu=>hk u H2 nx2 ⟨h0,hA2,l++[t],b,hu,hG.1,λq=>by rw[hG.2.1 q,bn],by rw[aj,dU];omega⟩;rw[q76];have hch:chunk true 4 1 [i64 t.k,aK t.s,i64 t.n,i64 t.at_]=some [t.v]:=lR 4 [[i64 t.k,aK t.s,i64 t.n,i64 t.at_]] (by simp);refine Wq.VU kL fg nI rfl hb1 rfl (by rw[av (ax _),gK]) hch rfl hA1 hA.1 λH2 keep2 hA2=> ?_;have h3':=keep2 _ _ _ (show bp≠nx by omega) (keep1 _ _ _ h2 h3);simp only[af,sF];rw[aB h3' GH (off:=0) (u:=sl) rfl];simp only[af];have hxs:qv H2 4 (bM 4 [t.v])=some (1,t.c):=EF 4 [t.v];rcases h4 with⟨rfl,rfl⟩ | ⟨c,q1,q2,q3,rfl⟩
 . refine Wq.Nz kL fg rfl hxs (KJ (by decide)) hA2 (λq=>by cases q) λH3 _ hb3 keep3 hA3=> ?_;have h3'':=keep3 _ _ _ (by omega) h3';refine Wq.put h3'' Wb rfl rfl (by simp) rfl hA3 h1 λH4 hb4 keep4 hA4=> ?_;exact Wq.mf hA4 ⟨h1,by omega,_,hb4,.inr ⟨nx+1+1,by omega,by omega,keep4 _ _ _ (by omega) (by simpa using hb3),rfl⟩,λc o n u q=>by cases q;omega,λx l e hx=>by
    obtain⟨p,q,r,t⟩:=h6 x l e hx;exact⟨by omega,keep4 _ _ _ r (keep3 _ _ _ (by omega) (keep2 _ _ _ (by omega) (keep1 _ _ _ p q))),r,λc o n u q=>by cases q;omega⟩⟩
 . have hcb:=h5 _ _ _ _ rfl;have q3':=keep2 _ _ _ (show c≠nx by omega) (keep1 _ _ _ q2 q3);refine Wq.app kL fg q3' fg (Fs l) rfl hxs rfl (KJ (by omega)) hA2 q1 (by omega) λH3 hb3 keep3 hA3=> ?_;have h3'':=keep3 _ _ _ (λq=>hcb q.symm) (by omega) h3';refine Wq.put h3'' Wb rfl rfl (by simp) rfl hA3 h1 λH4 hb4 keep4 hA4=> ?_;refine Wq.mf hA4 ⟨h1,by omega,_,hb4,.inr ⟨nx+1+1,by omega,by omega,keep4 _ _ _ (by omega) ?_,by rw[aj];rfl⟩,λc o n u q=>by cases q;omega,λx l e hx=>by
    obtain⟨p,q,r,t⟩:=h6 x l e hx;exact⟨by omega,keep4 _ _ _ r (keep3 _ _ _ (λq=>t _ _ _ _ rfl q.symm) (by omega) (keep2 _ _ _ (by omega) (keep1 _ _ _ p q))),r,λc o n u q=>by cases q;omega⟩⟩
   have e:Fq (l++[t])=Fq l++t.c:=by simp[Fq]
   rw[e];exact hb3
end
section
abbrev Bx:=Nat×List Value×TypeId
structure Hp (nx0:Nat)(H0:T OB)(F:List Bx)(H:T OB)(nx:Nat):Prop where
 Dh:g_ nx0 H0
 ag:Ag nx0 H0 nx H
 Di:(F.map Prod.fst).Nodup
 all:∀x∈F,nx0<=x.1/\x.1<nx/\dO H x.1 x.2.1 x.2.2
variable {nx0 nx nx':Nat}{H0 H H':T OB}{F A B G:List Bx}{s:Bx}{R:Go.Ev.Out->T OB->Nat->Prop}{b:Nat}{l:List Value}{e t:TypeId}
theorem Hp.mem (h:Hp nx0 H0 F H nx){x:Bx}(hx:x∈F):dO H x.1 x.2.1 x.2.2:=(h.all x hx).2.2
theorem Hp.at_ (h:Hp nx0 H0 F H nx)(i:Nat)(hi:F[i]? = some (b,l,e)):dO H b l e:=h.mem (ak hi)
theorem Hp.dZ (h:Hp nx0 H0 F H nx)(hA:Ag nx0 H0 nx' H')(hn:nx<=nx')(hk:∀b l e,b<nx->dO H b l e->dO H' b l e):Hp nx0 H0 F H' nx':=
 ⟨h.Dh,hA,h.Di,λx hx=>by obtain⟨h1,h2,h3⟩:=h.all x hx;exact⟨h1,by omega,hk _ _ _ h2 h3⟩⟩
theorem Hp.new (h:Hp nx0 H0 F H nx)(hb:dO H' nx l e)(hk:∀b l e,b<nx->dO H b l e->dO H' b l e)(hA:Ag nx0 H0 (nx+1) H'):Hp nx0 H0 ((nx,l,e)::F) H' (nx+1):=by
 have h':=h.dZ hA (jl _) hk;refine⟨h.Dh,hA,?_,λx hx=> ?_⟩
 . rw[bD,jS];refine⟨λq=> ?_,h.Di⟩;obtain⟨y,hy,e⟩:=bo.1 q;have:=(h.all y hy).2.1;omega
 . rcases aG.1 hx with rfl | hx
   . exact⟨h.ag.1,bz _,hb⟩
   . exact h'.all x hx
theorem Hp.perm {F':List Bx}(h:Hp nx0 H0 F H nx)(hp:F.Perm F'):Hp nx0 H0 F' H nx:=⟨h.Dh,h.ag,(hp.map _).nodup_iff.1 h.Di,λx hx=>h.all x (hp.mem_iff.2 hx)⟩
theorem Hp.sub {F':List Bx}(h:Hp nx0 H0 F H nx)(hp:F'.Sublist F):Hp nx0 H0 F' H nx:=⟨h.Dh,h.ag,(hp.map _).nodup h.Di,λx hx=>h.all x (hp.subset hx)⟩
theorem Hp.swap {x y:Bx}(h:Hp nx0 H0 (x::y::F) H nx):Hp nx0 H0 (y::x::F) H nx:=h.perm (List.Perm.swap y x F)
theorem Hp.sY {x y:Bx}(h:Hp nx0 H0 (x::y::F) H nx):Hp nx0 H0 (x::F) H nx:=h.sub (by simp)
theorem Hp.rS {l':List Value}(h:Hp nx0 H0 (A++(b,l,e)::B) H nx)(hb:dO H' b l' e)(hk:∀c l e,c≠b->dO H c l e->dO H' c l e)(hA:Ag nx0 H0 nx H'):Hp nx0 H0 (A++(b,l',e)::B) H' nx:=by
 have hd:=h.Di;refine⟨h.Dh,hA,by simpa using hd,λx hx=> ?_⟩;simp only[dI,bD]at hd;rw[List.nodup_append]at hd;obtain⟨h1,h2,h3⟩:=hd;rw[jS]at h2;have hm:=h.all (b,l,e) (by simp);rcases dJ.1 hx with hx | hx
 . obtain⟨g1,g2,g3⟩:=h.all x (by simp[hx]);exact⟨g1,g2,hk _ _ _ (λq=>h3 x.1 (fT hx) b (by simp) q) g3⟩
 . rcases aG.1 hx with rfl | hx
   . exact⟨hm.1,hm.2.1,hb⟩
   . obtain⟨g1,g2,g3⟩:=h.all x (by simp[hx]);exact⟨g1,g2,hk _ _ _ (λq=>h2.1 (q ▸ fT hx)) g3⟩
theorem Hp.kill (h:Hp nx0 H0 (A++(b,l,e)::B) H nx)(hk:∀c l e,c≠b->dO H c l e->dO H' c l e)(hA:Ag nx0 H0 nx' H')(hn:nx<=nx'):Hp nx0 H0 (A++B) H' nx':=by
 have hd:=h.Di;simp only[dI,bD]at hd;rw[List.nodup_append]at hd;obtain⟨h1,h2,h3⟩:=hd;rw[jS]at h2;have h':=h.sub (F':=A++B) (by simp);refine⟨h.Dh,hA,h'.Di,λx hx=> ?_⟩;obtain⟨g1,g2,g3⟩:=h'.all x hx;refine⟨g1,by omega,hk _ _ _ (λq=> ?_) g3⟩;rcases dJ.1 hx with hx | hx
 . exact h3 x.1 (fT hx) b (by simp) q
 . exact h2.1 (q ▸ fT hx)
theorem Hq.alloc {k:Value->T OB->Nat->Q}(hz:dD P e=some l)(h:Hp nx0 H0 (s::F) H nx)(hk:∀b H' nx',Hp nx0 H0 (s::(b,l,e)::F) H' nx'->bA P pl X0 (k (ptr b) H' nx') nx0 H0 R):bA P pl X0 (bU (eN P H nx e) k) nx0 H0 R:=
 Wq.alloc hz h.ag λH' hb dZ hA=>hk nx H' _ (h.new hb dZ hA).swap
theorem Hq.box {u:Value}{k:Value->T OB->Nat->Q}(h:Hp nx0 H0 (s::F) H nx)(hk:∀b H' nx',Hp nx0 H0 (s::(b,u.cells.toList,e)::F) H' nx'->bA P pl X0 (k (ptr b) H' nx') nx0 H0 R):bA P pl X0 (bU (mi H nx e (some u)) k) nx0 H0 R:=
 Wq.box h.ag λH' hb dZ hA=>hk nx H' _ (h.new hb dZ hA).swap
theorem Hq.var {sz:Nat}{x:Value}{k:T OB->Nat->Q}(hz:dD P e=some l)(hs:bT P t=some sz)(hl:l.length=sz)(hx:x.cells.toList.length=sz)(hone:x.cells.toList.all aC=true)
 (h:Hp nx0 H0 F H nx) (hk:∀H' nx',Hp nx0 H0 F H' nx'->bA P pl X0 (k H' nx') nx0 H0 R):bA P pl X0 (bU (eN P H nx e) λp H nx=>sx P H nx t (some p) x k) nx0 H0 R:=
 Wq.NC hz hs hl hx hone h.ag λH' nx' hA hn dZ=>hk H' nx' (h.dZ hA hn dZ)
theorem Hq.call {f:FuncId}{args:List Value}{u:Value}{k p:Value->T OB->Nat->Q}(hp:P0 f args u)(h:Hp nx0 H0 F H nx)(hk:∀H' nx',Hp nx0 H0 F H' nx'->bA P pl X0 (k u H' nx') nx0 H0 R):bA P pl X0 (dm (.call f args false none H nx) k p) nx0 H0 R:=
 Wq.gZ hp h.ag λH' nx' hA hn dZ=>hk H' nx' (h.dZ hA hn dZ)
theorem Hq.uW {f:FuncId}{args:List Value}{u:Value}{k p:Value->T OB->Nat->Q}(hp:PT f args u)(h:Hp nx0 H0 F H nx)(hk:∀H' nx',Hp nx0 H0 F H' nx'->bA P pl X0 (k u H' nx') nx0 H0 R):bA P pl X0 (dm (.call f args false none H nx) k p) nx0 H0 R:=by
 obtain⟨H1,aI,h1,h2⟩:=hp H nx (h.Dh.ag h.ag);obtain⟨v,H2,nx2,h3,hR,h4⟩:=hk H1 aI (h.dZ (h.ag.trans h1) h1.1 λb l e hb hi=>hi.ag h1 hb);refine⟨v,H2,nx2,h3,hR,?_⟩;show aw (Go.Ev.F P pl X0 (.call f args false none H nx)) (λr=>(match r.o with | .ret v=>k v r.H r.nx | .j_ v=>p v r.H r.nx:Q).run (Go.Ev.F P pl X0)) none=_;rw[h2];exact h4
theorem Hq.row {sz n:Nat}{vs:List (Nat×Value)}{z:List Value}{k:Value->T OB->Nat->Q}(hu:P.underlying t=some (.slice e))(hs:bT P e=some sz)(hz:dD P e=some z)
 (hg:(bj (n*sz) 16777216&&bY 0 (n*sz)&&bY 0 z.length)=true) (hf:Instr.fill (λi=>some (i*sz,sz)) (cI z (n*sz)) vs=some ⟨l⟩) (h:Hp nx0 H0 (s::F) H nx)
 (hk:∀b H' nx',Hp nx0 H0 (s::(b,l,e)::F) H' nx'->bA P pl X0 (k (.slice (some ⟨b,0,none⟩) n n) H' nx') nx0 H0 R):bA P pl X0 (bU (bC P H nx t n (some vs)) k) nx0 H0 R:=
 Wq.row hu hs hz hg hf h.ag λH' hb dZ hA=>hk nx H' _ (h.new hb dZ hA).swap
theorem Hq.store (A:List Bx){off sz:Nat}{u:Value}{k:Value->T OB->Nat->Q}(h:Hp nx0 H0 (A++(b,l,e)::B) H nx)(hs:bT P t=some sz)(hn:off+sz<=l.length)(hl:u.cells.toList.length=sz)(hone:u.cells.toList.all aC=true)
 (hk:∀H',Hp nx0 H0 (A++(b,mn l u.cells.toList off,e)::B) H' nx->bA P pl X0 (k undef H' nx) nx0 H0 R):bA P pl X0 (bU (eD P H nx t (some (.pointer (some ⟨b,off,none⟩))) (some u)) k) nx0 H0 R:=by
 have hm:=h.all (b,l,e) (by simp);exact Wq.store hm.2.2 hs hn hl hone h.ag hm.1 λH' hb dZ hA=>hk H' (h.rS hb dZ hA)
theorem Hq.put (A:List Bx){off:Nat}{u:Value}{l':List Value}{k:Value->T OB->Nat->Q}(h:Hp nx0 H0 (A++(b,l,e)::B) H nx)(hs:bT P t=some 1)(hc:u.cells.toList=[u])(ho:aC u=true)(hn:off<l.length)(hl:l.set off u=l')
 (hk:∀H',Hp nx0 H0 (A++(b,l',e)::B) H' nx->bA P pl X0 (k undef H' nx) nx0 H0 R):bA P pl X0 (bU (eD P H nx t (some (.pointer (some ⟨b,off,none⟩))) (some u)) k) nx0 H0 R:=by
 have hm:=h.all (b,l,e) (by simp);exact Wq.put hm.2.2 hs hc ho hn hl h.ag hm.1 λH' hb dZ hA=>hk H' (h.rS hb dZ hA)
def fi (vs:List Value):List Value:=vs.flatMap λv=>v.cells.toList
def vl (a:Bool)(sz:Nat)(vs:List Value):Prop:=∀v∈vs,v.cells.toList.length=sz/\v.cells.toList.all aC=true/\(if a then ∃cs,v= .agg ⟨cs⟩else sz=1/\v.cells.toList=[v])
theorem rH {a:Bool}{sz:Nat}:∀{vs:List Value},vl a sz vs->(fi vs).length=vs.length*sz
 | [],_=>by simp[fi]
 | v::vs,h=>by
   have ih:=rH (vs:=vs) λx hx=>h x (by simp[hx]);show(v.cells.toList++fi vs).length=_;rw[aj,ih,(h v (by simp)).1,ao,ic];omega
theorem vl.chunk {a:Bool}{sz:Nat}{vs:List Value}(h:vl a sz vs):chunk a sz vs.length (fi vs)=some vs:=by
 cases a with
 | true=>
   have:∀vs:List Value,vl true sz vs->∃es:List (List Value),vs=es.map (λx=> .agg ⟨x⟩)/\(∀x∈es,x.length=sz)/\fi vs=es.flatten:=by
    intro vs
    induction vs with
    | nil=>exact λ_=>⟨[],rfl,by simp,rfl⟩
    | cons v vs ih=>
      intro h;obtain⟨es,e1,e2,e3⟩:=ih λx hx=>h x (by simp[hx]);obtain⟨h1,h2,h3⟩:=h v (by simp);rw[if_pos rfl]at h3;obtain⟨cs,rfl⟩:=h3;refine⟨cs::es,by rw[e1];rfl,λx hx=> ?_,?_⟩
      . rcases aG.1 hx with rfl | hx
        . exact h1
        . exact e2 x hx
      . rw[List.flatten_cons,<- e3];rfl
   obtain⟨es,e1,e2,e3⟩:=this vs h;rw[e3,e1,aa];exact lR sz es e2
 | false=>
   have e:sz=1\/vs=[]:=by
    cases vs with
    | nil=>exact .inr rfl
    | cons v vs=>exact .inl (h v (by simp)).2.2.1
   have e2:fi vs=vs:=by
    clear e
    induction vs with
    | nil=>rfl
    | cons v vs ih=>
      show v.cells.toList++fi vs=_;rw[ih λx hx=>h x (by simp[hx]),(h v (by simp)).2.2.2];rfl
   rw[e2];rcases e with rfl | rfl
   . exact mo vs
   . rfl
theorem vl.cons {a:Bool}{sz:Nat}{v:Value}{vs:List Value}(h:vl a sz [v])(hs:vl a sz vs):vl a sz (vs++[v]):=λx hx=>by
 rcases dJ.1 hx with hx | hx
 . exact hs x hx
 . exact h x hx
def Gw (a:Bool)(sz:Nat)(e:TypeId)(vs:List Value)(sl:Value)(G:List Bx):Prop:=vl a sz vs/\((vs=[]/\sl= .slice none 0 0/\G=[])\/∃b c,sl= .slice (some ⟨b,0,none⟩) vs.length c/\(c=iw\/c=vs.length)/\0<vs.length/\G=[(b,fi vs,e)])
theorem Gw.nil (a:Bool)(sz:Nat)(e:TypeId):Gw a sz e [] (.slice none 0 0) []:=⟨λv hv=>by simp at hv,.inl ⟨rfl,rfl,rfl⟩⟩
theorem Gw.one {a:Bool}{sz:Nat}{vs:List Value}{n:Nat}(h:vl a sz vs)(hn:vs.length=n)(h0:0<n):Gw a sz e vs (.slice (some ⟨b,0,none⟩) n n) [(b,fi vs,e)]:=⟨h,.inr ⟨b,n,by rw[hn],.inr hn.symm,by omega,rfl⟩⟩
theorem Hq.VU (A:List Bx){a:Bool}{sz:Nat}{vs:List Value}{sl:Value}{k:Value->T OB->Nat->Q}(hu:P.underlying t=some (.slice e))(hs:bT P e=some sz)(ha:gf P e=some a)(hpos:(bY 0 sz&&(a||ay sz 1))=true)
 (hG:Gw a sz e vs sl G) (h:Hp nx0 H0 (A++(G++B)) H nx) (hk:∀H' nx',Hp nx0 H0 (A++B) H' nx'->bA P pl X0 (k (bM sz vs) H' nx') nx0 H0 R):bA P pl X0 (gD P t sl H nx k) nx0 H0 R:=by
 obtain⟨hE,⟨rfl,rfl,rfl⟩ | ⟨b,c,rfl,hc,h0,rfl⟩⟩:=hG
 . have e1:gD P t (.slice none 0 0) H nx k=k (bM sz []) H nx:=by
    unfold gD;rw[hu];show jw P t (.slice none 0 0) H nx k=_;unfold jw;rw[hu];show(bif ay 0 0&&ay 0 0 then aw (bT P e) (λs=>k (bM s []) H nx) .bad else .bad)=_;rw[hs];rfl
   rw[e1];exact hk H nx h
 . have hm:=h.all (b,fi vs,e) (by simp);refine Wq.VU hu hs ha hpos hm.2.2 (rH hE) ?_ hE.chunk ?_ h.ag hm.1 λH' dZ hA=>hk H' _ (h.kill dZ hA (jl _))
   . rcases hc with rfl | rfl
     . rfl
     . rw[av (ax _),gK]
   . rw[aM];intro v hv;obtain⟨_,h2,h3⟩:=hE v hv;cases a with
     | true=>rfl
     | false=>
       rw[if_neg (by simp)]at h3;rw[h3.2]at h2;simpa using h2
theorem Wq.aeR {e':TypeId}{sz n m:Nat}{x:Value}{xs:List Value}{k:Value->T OB->Nat->Q}(hu:P.underlying t=some (.slice e))(hs:bT P e=some sz)(hb:dO H b l e')(hl:l.length=n*sz)(hx:isStr x=false)(hxs:qv H sz x=some (m,xs))(hm:0<m)(hn:n<iw)
 (hsm:da P e sz (n+m)=true) (h:Ag nx0 H0 nx H)
 (hk:∀H',dO H' nx (l++xs) e->(∀c l e,c<nx->dO H c l e->dO H' c l e)->Ag nx0 H0 (nx+1) H'->bA P pl X0 (k (.slice (some ⟨nx,0,none⟩) (n+m) iw) H' (nx+1)) nx0 H0 R):
 bA P pl X0 (bU (fe P H nx [t,t] (some [.slice (some ⟨b,0,none⟩) n n,x])) k) nx0 H0 R:=by
 rw[p4 hx];unfold fU;rw[hu];simp only[hs,aZ,hxs,hsm,cond_true];obtain⟨tr,h1,h2⟩:=hb;have e1:rU P H nx e sz (some ⟨b,0,none⟩) n n m xs=kD H nx e (n+m) (l++xs):=by
  show zD P H nx e sz b 0 n n m xs=_;unfold zD;rw[h1];have eu:ay n iw=false:=by
   cases hq:ay n iw with
   | false=>rfl
   | true=>have:=Nat.eq_of_beq_eq_true hq;omega
  have ev:bj (n+m) n=false:=by
   cases hq:bj (n+m) n with
   | false=>rfl
   | true=>have:=dS hq;omega
  simp only[gM,eu,ev,cond_false];unfold uH;have:vd tr (n*sz) 0=some l:=by rw[<- hl,mH h2 _ _ (by omega)];simp
  rw[this,bN,hl,av (ax _)];have e0:bY 0 m=true:=av hm;rw[e0];rfl
 rw[e1,kU];exact Wq.new (q:=λH n'=>k (.slice (some ⟨nx,0,none⟩) (n+m) iw) H n') h λH' ha hb hc=>hk H' ha hb hc
theorem TZ:(1048576:Nat)<iw:=by decide +kernel
theorem Hq.add (A:List Bx){a:Bool}{sz:Nat}{v:Value}{vs:List Value}{sl:Value}{k:Value->T OB->Nat->Q}(hu:P.underlying t=some (.slice e))(hs:bT P e=some sz)(hsm:da P e sz (vs.length+1)=true)(hsmall:vs.length+1<=1048576)(hv:vl a sz [v])
 (hG:Gw a sz e vs sl G) (h:Hp nx0 H0 (s::(b,v.cells.toList,e)::(A++(G++B))) H nx)
 (hk:∀sl' G' H' nx',Gw a sz e (vs++[v]) sl' G'->Hp nx0 H0 (s::(A++(G'++B))) H' nx'->bA P pl X0 (k sl' H' nx') nx0 H0 R):
 bA P pl X0 (bU (fe P H nx [t,t] (some [sl,.slice (some ⟨b,0,none⟩) 1 1])) k) nx0 H0 R:=by
 have hv1:=(hv v (by simp)).1;have hxs:qv H sz (.slice (some ⟨b,0,none⟩) 1 1)=some (1,v.cells.toList):=Bt (h.at_ 1 rfl) (by rw[hv1,Nat.one_mul]);have hone:v.cells.toList.all aC=true:=(hv v (by simp)).2.1;have hd:=h.sY;obtain⟨hE,hG⟩:=hG;have ecl:fi vs++v.cells.toList=fi (vs++[v]):=by simp[fi]
 have hnew:∀aI,Gw a sz e (vs++[v]) (.slice (some ⟨aI,0,none⟩) (vs.length+1) iw) [(aI,fi (vs++[v]),e)]:=λaI=>⟨hv.cons hE,.inr ⟨aI,iw,by rw[aj];rfl,.inl rfl,by simp,rfl⟩⟩;have ins:∀{H':T OB} {x:Bx},Hp nx0 H0 (x::s::(A++B)) H' (nx+1)->Hp nx0 H0 (s::(A++([x]++B))) H' (nx+1):=λh=>h.perm (by
  refine(List.Perm.swap _ _ _).trans (List.Perm.cons _ ?_);exact(List.perm_middle (l₁:=A) (l₂:=B)).symm)
 rcases hG with⟨rfl,rfl,rfl⟩ | ⟨b',c,rfl,hc,h0,rfl⟩
 . refine Wq.Nz hu hs rfl hxs (by simpa using hsm) h.ag (λq=>by cases q) λH' _ hb dZ hA=> ?_;have hb':dO H' nx (fi ([]++[v])) e:=by rw[<- ecl];simpa[fi]using hb
   exact hk _ _ _ _ (hnew nx) (ins (hd.new hb' dZ hA))
 . have hcl:=rH hE;have hm:=h.all (b',fi vs,e) (by simp);rcases hc with rfl | rfl
   . refine Wq.app hu hs hm.2.2 hs hcl rfl hxs hone hsm h.ag hm.1 hm.2.1 λH' hb dZ hA=> ?_;rw[ecl]at hb;have hk':Hp nx0 H0 (s::(A++B)) H nx:=hd.sub (by simp);have hne:∀x∈s::(A++B),x.1≠b':=by
      have hdd:=hd.Di;have:((s::A++(b',fi vs,e)::B).map Prod.fst).Nodup:=hdd;simp only[dI,bD]at this;rw[List.nodup_append]at this;obtain⟨_,g2,g3⟩:=this;rw[jS]at g2;intro x hx q;rcases dJ.1 (show x∈(s::A)++B from hx)with hx | hx
      . exact g3 x.1 (fT (f:=Prod.fst) hx) b' (by simp) q
      . exact g2.1 (q ▸ fT hx)
     refine hk _ _ _ _ (hnew nx) (ins ⟨h.Dh,hA,?_,λx hx=> ?_⟩)
     . rw[bD,jS];refine⟨λq=> ?_,hk'.Di⟩;obtain⟨y,hy,e⟩:=bo.1 q;have:=(hk'.all y hy).2.1;have e':y.1=nx:=e;omega
     . rcases aG.1 hx with rfl | hx
       . exact⟨h.ag.1,bz _,hb⟩
       . obtain⟨g1,g2,g3⟩:=hk'.all x hx;exact⟨g1,by omega,dZ _ _ _ (hne x hx) g2 g3⟩
   . refine Wq.aeR hu hs hm.2.2 hcl rfl hxs (by decide) (by have:=TZ;omega) hsm h.ag λH' hb dZ hA=> ?_;rw[ecl]at hb;have hk':Hp nx0 H0 (s::(A++B)) H nx:=hd.sub (by simp);exact hk _ _ _ _ (hnew nx) (ins (hk'.new hb dZ hA))
end
section
variable {nx0 nx nx':Nat}{H0 H H':T OB}{F A B G G':List Bx}{s:Bx}{R:Go.Ev.Out->T OB->Nat->Prop}{b:Nat}{l:List Value}{e t:TypeId}
def fZ (n:Nat)(t:TypeId)(v u:Value)(G:List Bx):Prop:=∀(d:Nat),n<=d->∀(nx0 nx:Nat) (H0 H:T OB) (s:Bx) (B:List Bx) (k:Value->T OB->Nat->Q) (R:Go.Ev.Out->T OB->Nat->Prop),Hp nx0 H0 (s::(G++B)) H nx->
 (∀H' nx',Hp nx0 H0 (s::B) H' nx'->bA P pl X0 (k u H' nx') nx0 H0 R)->bA P pl X0 (nA P d t v H nx k) nx0 H0 R
def jJ (n:Nat)(offs:List (Nat×TypeId))(cs us:List Value)(G:List Bx):Prop:=∀(d:Nat),n<=d->∀(nx0 nx:Nat) (H0 H:T OB) (s:Bx) (B:List Bx) (k:List Value->T OB->Nat->Q) (R:Go.Ev.Out->T OB->Nat->Prop),Hp nx0 H0 (s::(G++B)) H nx->
 (∀H' nx',Hp nx0 H0 (s::B) H' nx'->bA P pl X0 (k us H' nx') nx0 H0 R)->bA P pl X0 (Ls (nA P d) offs cs H nx k) nx0 H0 R
def lE (n:Nat)(offs:List (Nat×TypeId))(v u:Value)(G:List Bx):Prop:=∀(d:Nat),n<=d->∀(nx0 nx:Nat) (H0 H:T OB) (s:Bx) (B:List Bx) (k:Value->T OB->Nat->Q) (R:Go.Ev.Out->T OB->Nat->Prop),Hp nx0 H0 (s::(G++B)) H nx->
 (∀H' nx',Hp nx0 H0 (s::B) H' nx'->bA P pl X0 (k u H' nx') nx0 H0 R)->bA P pl X0 (oF (nA P d) offs v H nx k) nx0 H0 R
def m6 (n:Nat)(offs:List (Nat×TypeId))(vs us:List Value)(G:List Bx):Prop:=∀(d:Nat),n<=d->∀(nx0 nx:Nat) (H0 H:T OB) (s:Bx) (B:List Bx) (k:List Value->T OB->Nat->Q) (R:Go.Ev.Out->T OB->Nat->Prop),Hp nx0 H0 (s::(G++B)) H nx->
 (∀H' nx',Hp nx0 H0 (s::B) H' nx'->bA P pl X0 (k us H' nx') nx0 H0 R)->bA P pl X0 (oG (oF (nA P d) offs) vs H nx k) nx0 H0 R
theorem fZ.mono {n m:Nat}{v u:Value}(h:fZ n t v u G)(hm:n<=m):fZ m t v u G:=λd hd=>h d (by omega)
theorem lE.mono {n m:Nat}{offs:List (Nat×TypeId)}{v u:Value}(h:lE n offs v u G)(hm:n<=m):lE m offs v u G:=λd hd=>h d (by omega)
theorem jJ.nil {n:Nat}{cs:List Value}:jJ n [] cs cs []:=λd hd nx0 nx H0 H s B k R h hk=>hk H nx h
theorem jJ.cons {n:Nat}{p:Nat×TypeId}{offs:List (Nat×TypeId)}{cs us:List Value}{v u:Value}(hc:cs[p.1]? = some v)(h1:fZ n p.2 v u G)(h2:jJ n offs (cs.set p.1 u) us G'):jJ n (p::offs) cs us (G++G'):=λd hd nx0 nx H0 H s B k R h hk=>by
 show bA P pl X0 (aw cs[p.1]? (λv=>nA P d p.2 v H nx λv H nx=>Ls (nA P d) offs (cs.set p.1 v) H nx k) .bad) nx0 H0 R;rw[hc,aZ];rw[bn]at h;exact h1 d hd nx0 nx H0 H s (G'++B) _ R h λH' nx' h'=>h2 d hd nx0 nx' H0 H' s B k R h' hk
theorem lE.of {n:Nat}{offs:List (Nat×TypeId)}{cs us:List Value}(h:jJ n offs cs us G):lE n offs (.agg ⟨cs⟩) (.agg ⟨us⟩) G:=λd hd nx0 nx H0 H s B k R h1 hk=>h d hd nx0 nx H0 H s B _ R h1 hk
theorem lE.aK {n:Nat}{offs:List (Nat×TypeId)}(a:ByteArray):lE n offs (.string a) (.string a) []:=λd hd nx0 nx H0 H s B k R h1 hk=>hk H nx h1
theorem m6.nil {n:Nat}{offs:List (Nat×TypeId)}:m6 n offs [] [] []:=λd hd nx0 nx H0 H s B k R h hk=>hk H nx h
theorem m6.cons {n:Nat}{offs:List (Nat×TypeId)}{v u:Value}{vs us:List Value}(h1:lE n offs v u G)(h2:m6 n offs vs us G'):m6 n offs (v::vs) (u::us) (G++G'):=λd hd nx0 nx H0 H s B k R h hk=>by
 rw[bn]at h;exact h1 d hd nx0 nx H0 H s (G'++B) _ R h λH' nx' h'=>h2 d hd nx0 nx' H0 H' s B _ R h' hk
theorem m6.id {n:Nat}{offs:List (Nat×TypeId)}:∀{vs:List Value},(∀v∈vs,lE n offs v v [])->m6 n offs vs vs []
 | [],_=>m6.nil
 | v::vs,h=>m6.cons (h v (by simp)) (m6.id λx hx=>h x (by simp[hx]))
theorem Dj {d sz:Nat}{v:Value}{k:Value->T OB->Nat->Q}(hu:P.underlying t=some (.slice e)):nA P (d+1) t v H nx k=jw P t v H nx λu H nx=>bif DZ v then kZ u (λs es=>oG (oF (nA P d) (gY P 4 e)) es H nx λes H nx=>bif es.all λx=>ay x.cells.toList.length s then k (bM s es) H nx else .bad) .bad else k u H nx:=by
 show(jw P t v H nx λu H nx=>bif DZ v then(match P.underlying t with | some (.slice e)=>kZ u (λs es=>oG (oF (nA P d) (gY P 4 e)) es H nx λes H nx=>bif es.all λx=>ay x.cells.toList.length s then k (bM s es) H nx else .bad) .bad | _=>k u H nx)else k u H nx)=_;rw[hu]
theorem Ft {sz:Nat}{k:Value->T OB->Nat->Q}(hu:P.underlying t=some (.slice e))(hs:bT P e=some sz):jw P t (.slice none 0 0) H nx k=k (bM sz []) H nx:=by
 unfold jw;rw[hu];show(bif ay 0 0&&ay 0 0 then aw (bT P e) (λs=>k (bM s []) H nx) .bad else .bad)=_;rw[hs];rfl
theorem Fu {sz:Nat}{es:List Value}{k:Value->T OB->Nat->Q}(hu:P.underlying t=some (.slice e)):jw P t (bM sz es) H nx k=k (bM sz es) H nx:=by
 unfold jw;rw[hu];rfl
theorem fZ.nil {sz:Nat}(hu:P.underlying t=some (.slice e))(hs:bT P e=some sz):fZ 0 t (.slice none 0 0) (bM sz []) []:=λd hd nx0 nx H0 H s B k R h hk=>by
 cases d with
 | zero=>
   show bA P pl X0 (jw P t (.slice none 0 0) H nx k) nx0 H0 R;rw[Ft hu hs];exact hk H nx h
 | succ d=>
   rw[Dj (sz:=sz) hu,Ft hu hs];exact hk H nx h
theorem fZ.row {sz:Nat}{es:List Value}(hu:P.underlying t=some (.slice e)):fZ 0 t (bM sz es) (bM sz es) []:=λd hd nx0 nx H0 H s B k R h hk=>by
 cases d with
 | zero=>
   show bA P pl X0 (jw P t (bM sz es) H nx k) nx0 H0 R;rw[Fu hu];exact hk H nx h
 | succ d=>
   rw[Dj (sz:=sz) hu,Fu hu];exact hk H nx h
theorem fZ.gr {a:Bool}{sz n c:Nat}{vs us:List Value}{offs:List (Nat×TypeId)}(hu:P.underlying t=some (.slice e))(hs:bT P e=some sz)(ha:gf P e=some a)(hpos:(bY 0 sz&&(a||ay sz 1))=true)(ho:gY P 4 e=offs)(hE:vl a sz vs)(hc:c=iw\/c=vs.length)(h0:0<vs.length)
 (hL:m6 n offs vs us G) (hus:∀u∈us,u.cells.toList.length=sz):fZ (n+1) t (.slice (some ⟨b,0,none⟩) vs.length c) (bM sz us) ((b,fi vs,e)::G):=λd hd nx0 nx H0 H s B k R h hk=>by
 cases d with
 | zero=>omega
 | succ d=>
   rw[Dj (sz:=sz) hu,X2 hu];refine Hq.VU [s] (B:=G++B) hu hs ha hpos (G:=[(b,fi vs,e)]) ⟨hE,.inr ⟨b,c,rfl,hc,h0,rfl⟩⟩ h λH' nx' h'=> ?_;show bA P pl X0 (oG (oF (nA P d) (gY P 4 e)) vs H' nx' λes H nx=>bif es.all λx=>ay x.cells.toList.length sz then k (bM sz es) H nx else .bad) nx0 H0 R;rw[ho];refine hL d (by omega) nx0 nx' H0 H' s B _ R h' λH2 nx2 h2=> ?_;have e:(us.all λx=>ay x.cells.toList.length sz)=true:=by
    rw[aM];intro x hx;rw[hus x hx,cm]
   rw[e];exact hk H2 nx2 h2
theorem fZ.gw {a:Bool}{sz n:Nat}{vs us:List Value}{sl:Value}{offs:List (Nat×TypeId)}(hu:P.underlying t=some (.slice e))(hs:bT P e=some sz)(ha:gf P e=some a)(hpos:(bY 0 sz&&(a||ay sz 1))=true)(ho:gY P 4 e=offs)(hG:Gw a sz e vs sl G)
 (hL:m6 n offs vs us []) (hus:∀u∈us,u.cells.toList.length=sz) (h0:vs=[]->us=[]):fZ (n+1) t sl (bM sz us) G:=by
 obtain⟨hE,⟨rfl,rfl,rfl⟩ | ⟨b,c,rfl,hc,h1,rfl⟩⟩:=hG
 . rw[h0 rfl];exact(fZ.nil hu hs).mono (aN _)
 . exact fZ.gr hu hs ha hpos ho hE hc h1 hL hus
theorem Hp.mv (A:List Bx){x:Bx}(h:Hp nx0 H0 (s::(A++x::B)) H nx):Hp nx0 H0 (s::x::(A++B)) H nx:=h.perm (List.Perm.cons _ List.perm_middle)
theorem AK {l c:List Value}(h:c.length=l.length):mn l c 0=c:=by
 unfold mn;simp[h]
theorem Hq.fin {n sz:Nat}{cs:List Value}{u:Value}{offs:List (Nat×TypeId)}{k:Value->T OB->Nat->Q}(h:Hp nx0 H0 (s::(b,l,e)::(G++B)) H nx)(hs:bT P t=some sz)(hag:gf P t=some true)(ho:gY P 4 t=offs)(hl:l.length=sz)(hc:cs.length=sz)(h1:cs.all aC=true)
 (hz:lE n offs (.agg ⟨cs⟩) u G) (hn:n<=100000) (hk:∀H' nx',Hp nx0 H0 (s::B) H' nx'->bA P pl X0 (k u H' nx') nx0 H0 R):
 bA P pl X0 (bU (eD P H nx t (some (.pointer (some ⟨b,0,none⟩))) (some (.agg ⟨cs⟩))) λ_ H nx=>aw (aA P H t (some (.pointer (some ⟨b,0,none⟩)))) (λx=>dM P t x H nx k) .bad) nx0 H0 R:=by
 refine Hq.store [s] h hs (by omega) hc h1 λH' h'=> ?_;rw[show mn l (Value.agg ⟨cs⟩).cells.toList 0=cs from AK (by show cs.length=_;omega)]at h';have hb:dO H' b cs e:=h'.at_ 1 rfl;rw[cR hb hag hs (by omega)];have e2:((cs.drop 0).take sz)=cs:=by rw[dq,<- hc,fD]
 rw[e2,aZ];unfold dM;show bA P pl X0 (oF (nA P 100000) (gY P 4 t) (.agg ⟨cs⟩) H' nx k) nx0 H0 R;rw[ho];exact hz 100000 hn nx0 nx H0 H' s B k R (Hp.sY h') hk
theorem ko:gY P 4 44=[(3,41),(4,42),(5,24)]:=by kernel_rfl
theorem mA:gY P 4 47=[(3,42)]:=by kernel_rfl
theorem um:gY P 4 138=[(2,53)]:=by kernel_rfl
theorem Qi:gY P 4 55=[(1,53)]:=by kernel_rfl
theorem W6:gY P 4 65=[(1,42),(5,41),(6,42),(7,24)]:=by kernel_rfl
theorem uY:gY P 4 57=[(4,42),(8,41),(9,42),(10,24),(11,48),(12,49),(14,50),(16,53)]:=by kernel_rfl
theorem aeS:gY P 4 9=[]:=by kernel_rfl
end
section
inductive nh (α:Type) where
 | ok (a:α) (k:Nat)
 | bad (at_:Int)
abbrev PR (α:Type):=Option (nh α)
def bd {α β:Type}(x:PR α)(f:α->Nat->PR β):PR β:=match x with
 | none=>none
 | some (.bad a)=>some (.bad a)
 | some (.ok a k)=>f a k
theorem KK {α β:Type}{a:α}{k:Nat}{f:α->Nat->PR β}:bd (some (.ok a k)) f=f a k:=rfl
theorem Dk {α β:Type}{a:Int}{f:α->Nat->PR β}:bd (some (.bad a)) f=some (.bad a):=rfl
variable (L:List Tok)
def tk (k:Nat):Tok:=(L[k]?).getD ⟨0,[],0,0⟩
def o8 (k:Nat):Bool:=decide ((tk L k).k=7)||decide ((tk L k).k=6)
def eM (k:Nat)(s:List UInt8):Bool:=o8 L k&&decide ((tk L k).s=s)
def qS {α:Type}(k:Nat):PR α:=some (.bad (tk L k).at_)
def yes {α:Type}(a:α)(k:Nat):PR α:=some (.ok a k)
def dj {α:Type}(s:List UInt8)(k:Nat)(f:Nat->PR α):PR α:=if eM L k s=true then f (k+1)else qS L k
def gj {α:Type}(c:Int)(k:Nat)(f:Tok->Nat->PR α):PR α:=if(tk L k).k=c then f (tk L k) (k+1)else qS L k
def skip (s:List UInt8)(k:Nat):Nat:=if eM L k s=true then k+1 else k
def om (lvl k:Nat):Bool:=o8 L k&&((bx[lvl]?).getD []).contains (tk L k).s
def unOp (k:Nat):Bool:=o8 L k&&fh.contains (tk L k).s
def uo (k:Nat):Bool:=decide ((tk L k).k=1)||(decide ((tk L k).k=2)||(decide ((tk L k).k=3)||decide ((tk L k).k=4)))
def o9 (k:Nat):Bool:=uo L k||(eM L k [40]||eM L k [108,101,116])
def qy (k:Nat):Bool:=uo L k||(eM L k [40]||(eM L k [95]||eM L k [126]))
def kC (k:Nat):Bool:=decide ((tk L k).k=3)||eM L k [114,101,102]
def aO.add:aO->aO->aO
 | .mk k n s l p d,b=> .mk k n s (l++[b]) p d
def aO.zO:aO->bk->aO->aO
 | .mk k n s l p d,q,b=> .mk k n s (l++[b]) (p++[q]) d
abbrev two (op:List UInt8)(a b:aO):aO:= .mk 14 0 op [a,b] [] []
abbrev sZ:aO:= .mk 0 0 [] [] [] []
abbrev rI:bk:= .mk 0 0 [] []
abbrev mB:Data:=⟨[],[],[]⟩
abbrev rJ:eO:=⟨[],[]⟩
abbrev Mf:bm:= .mk 0 rI sZ [] mB rJ
abbrev Qj (a b:bk):bk:= .mk 6 0 [58,58] [.mk 5 0 [] [a,b]]
structure PS where
 exp:Nat->PR aO
 uq:aO->Nat->PR aO
 bin:Nat->Nat->PR aO
 zP:Nat->aO->Nat->PR aO
 un:Nat->PR aO
 y8:aO->Nat->PR aO
 atom:Nat->PR aO
 gu:List UInt8->aO->Nat->PR aO
 lt:Nat->PR aO
 vm:List bm->Nat->PR (List bm)
 pat:Nat->PR bk
 gR:Nat->PR bk
 ur:List bk->Nat->PR (List bk)
 ni:Nat->PR bI
 m7:List bI->Nat->PR (List bI)
 post:Nat->PR bI
 Mg:List bI->Nat->PR (List bI)
 lr:bI->Nat->PR bI
 qm:Nat->PR eO
 bind:Nat->PR (Option bm)
 vn:List Fn->Nat->PR (List Fn)
 fn:Nat->PR Fn
 MM:List bk->Nat->PR (List bk)
 dec:Nat->PR (Option bm)
 data:Nat->PR Data
 uu:List (List UInt8)->Nat->PR (List (List UInt8))
 uv:List eO->Nat->PR (List eO)
 iD:List bm->Nat->PR (List bm)
def PS.none:PS:=⟨λ_=> .none,λ_ _=> .none,λ_ _=> .none,λ_ _ _=> .none,λ_=> .none,λ_ _=> .none,λ_=> .none,λ_ _ _=> .none,λ_=> .none,λ_ _=> .none,λ_=> .none,λ_=> .none,λ_ _=> .none,λ_=> .none,λ_ _=> .none,λ_=> .none,λ_ _=> .none,λ_ _=> .none,
 λ_=> .none,λ_=> .none,λ_ _=> .none,λ_=> .none,λ_ _=> .none,λ_=> .none,λ_=> .none,λ_ _=> .none,λ_ _=> .none,λ_ _=> .none⟩
variable (p:PS)
def Fv (e:aO)(k:Nat):PR aO:=bd (p.pat k) λq k=>dj L [61,62] k λk=>bd (p.exp k) λx k=>if eM L k [124]=true then p.uq (e.zO q x) (k+1)else yes (e.zO q x) k
def oo (k:Nat):PR aO:=
 if eM L k [105,102]=true then bd (p.exp (k+1)) λa k=>dj L [116,104,101,110] k λk=>bd (p.exp k) λb k=>dj L [101,108,115,101] k λk=>bd (p.exp k) λc k=>yes (.mk 8 0 [] [a,b,c] [] []) k
 else if eM L k [99,97,115,101]=true then bd (p.exp (k+1)) λa k=>dj L [111,102] k λk=>p.uq (.mk 9 0 [] [a] [] []) k
 else if eM L k [102,110]=true then p.uq (.mk 7 0 [] [] [] []) (k+1)
 else if eM L k [114,97,105,115,101]=true then bd (p.exp (k+1)) λa k=>yes (.mk 11 0 [] [a] [] []) k
 else bd (p.bin 0 k) λa k=>if eM L k [104,97,110,100,108,101]=true then p.uq (.mk 12 0 [] [a] [] []) (k+1)else yes a k
def vo (lvl:Nat)(a:aO)(k:Nat):PR aO:=
 if om L lvl k=true then(if lvl=2\/lvl=4 then bd (p.bin lvl (k+1)) λb k'=>yes (two (tk L k).s a b) k' else bd (p.bin (lvl+1) (k+1)) λb k'=>p.zP lvl (two (tk L k).s a b) k')else yes a k
def s9 (lvl k:Nat):PR aO:=if lvl=7 then p.un k else bd (p.bin (lvl+1) k) λa k=>vo L p lvl a k
def y9 (a:aO)(k:Nat):PR aO:=if o9 L k=true then bd (p.atom k) λb k=>p.y8 (.mk 6 0 [] [a,b] [] []) k else yes a k
def MN (k:Nat):PR aO:=if unOp L k=true then bd (p.un (k+1)) λa k'=>yes (.mk 15 0 (tk L k).s [a] [] []) k' else bd (p.atom k) λa k=>y9 L p a k
def qz (s:List UInt8)(e:aO)(k:Nat):PR aO:=if eM L k s=true then bd (p.exp (k+1)) λb k=>p.gu s (e.add b) k else yes e k
def kH (k:Nat):PR aO:=
 if(tk L k).k=1 then yes (.mk 1 (tk L k).n [] [] [] []) (k+1)
 else if(tk L k).k=2 then yes (.mk 2 0 (tk L k).s [] [] []) (k+1)
 else if(tk L k).k=3 then yes (.mk 3 0 (tk L k).s [] [] []) (k+1)
 else if(tk L k).k=4 then yes (.mk 4 0 (tk L k).s [] [] []) (k+1)
 else if eM L k [108,101,116]=true then p.lt (k+1)
 else dj L [40] k λk=>if eM L k [41]=true then yes (.mk 5 0 [] [] [] []) (k+1)else bd (p.exp k) λa k=>
  if eM L k [44]=true then bd (qz L p [44] (.mk 5 0 [] [a] [] []) k) λe k=>dj L [41] k λk=>yes e k
  else if eM L k [59]=true then bd (qz L p [59] (.mk 13 0 [] [a] [] []) k) λe k=>dj L [41] k λk=>yes e k
  else dj L [41] k λk=>yes a k
def vp (ds:List bm)(k:Nat):PR (List bm):=if eM L k [105,110]=true then yes ds (k+1)else bd (p.bind k) λd k=>match d with
 | some d=>p.vm (ds++[d]) (skip L [59] k)
 | none=>qS L k
def W7 (k:Nat):PR aO:=bd (vp L p [] k) λds k=>bd (p.exp k) λa k=>
 if eM L k [59]=true then bd (qz L p [59] (.mk 13 0 [] [a] [] []) k) λa k=>dj L [101,110,100] k λk=>yes (.mk 10 0 [] [a] [] ds) k
 else dj L [101,110,100] k λk=>yes (.mk 10 0 [] [a] [] ds) k
def zQ (k:Nat):PR bk:=if(tk L k).k=4 then(if qy L (k+1)=true then bd (p.gR (k+1)) λb k'=>yes (.mk 6 0 (tk L k).s [b]) k' else yes (.mk 6 0 (tk L k).s []) (k+1))else p.gR k
def zR (k:Nat):PR bk:=bd (zQ L p k) λa k=>if eM L k [58,58]=true then bd (p.pat (k+1)) λb k=>yes (Qj a b) k else yes a k
def uZ (l:List bk)(k:Nat):PR (List bk):=if eM L k [44]=true then bd (p.pat (k+1)) λb k=>p.ur (l++[b]) k else yes l k
def hJ (k:Nat):PR bk:=
 if(tk L k).k=1 then yes (.mk 3 (tk L k).n [] []) (k+1)
 else if(tk L k).k=2 then yes (.mk 4 0 (tk L k).s []) (k+1)
 else if(tk L k).k=3 then yes (.mk 2 0 (tk L k).s []) (k+1)
 else if(tk L k).k=4 then yes (.mk 6 0 (tk L k).s []) (k+1)
 else if eM L k [95]=true then yes (.mk 1 0 [] []) (k+1)
 else if eM L k [126]=true then gj L 1 (k+1) λt k=>yes (.mk 3 (IntKind.i64.wrap (-t.n)) [] []) k
 else dj L [40] k λk=>if eM L k [41]=true then yes (.mk 5 0 [] []) (k+1)else bd (p.pat k) λa k=>
  if eM L k [44]=true then bd (uZ L p [a] k) λl k=>dj L [41] k λk=>yes (.mk 5 0 [] l) k else dj L [41] k λk=>yes a k
def u6 (l:List bI)(k:Nat):PR (List bI):=if eM L k [42]=true then bd (p.post (k+1)) λb k=>p.m7 (l++[b]) k else yes l k
def s_ (k:Nat):PR bI:=bd (p.post k) λa k=>if eM L k [42]=true then bd (u6 L p [a] k) λl k=>yes (.mk 4 [] l) k else yes a k
def ta (k:Nat):PR bI:=bd (s_ L p k) λa k=>if eM L k [45,62]=true then bd (p.ni (k+1)) λb k=>yes (.mk 3 [] [a,b]) k else yes a k
def y_ (l:List bI)(k:Nat):PR (List bI):=if eM L k [44]=true then bd (p.ni (k+1)) λb k=>p.Mg (l++[b]) k else yes l k
def l8 (a:bI)(k:Nat):PR bI:=if kC L k=true then p.lr (.mk 2 (tk L k).s [a]) (k+1)else yes a k
def o_ (k:Nat):PR bI:=
 if(tk L k).k=5 then yes (.mk 1 (tk L k).s []) (k+1)
 else if kC L k=true then yes (.mk 2 (tk L k).s []) (k+1)
 else dj L [40] k λk=>bd (p.ni k) λa k=>
  if eM L k [44]=true then bd (y_ L p [a] k) λl k=>dj L [41] k λk=>if kC L k=true then yes (.mk 2 (tk L k).s l) (k+1)else qS L k
  else dj L [41] k λk=>yes a k
def qT (k:Nat):PR bI:=bd (o_ L p k) λa k=>l8 L p a k
def Fw (k:Nat):PR eO:=gj L 4 k λt k=>if eM L k [111,102]=true then bd (p.ni (k+1)) λa k=>yes ⟨t.s,[a]⟩ k else yes ⟨t.s,[]⟩ k
def vq (l:List Fn)(k:Nat):PR (List Fn):=if eM L k [97,110,100]=true then bd (p.fn (k+1)) λf k=>p.vn (l++[f]) k else yes l k
def qU (k:Nat):PR (Option bm):=
 if eM L k [118,97,108]=true then bd (p.pat (k+1)) λa k=>dj L [61] k λk=>bd (p.exp k) λe k=>yes (some (.mk 1 a e [] mB rJ)) k
 else if eM L k [102,117,110]=true then bd (p.fn (k+1)) λf k=>bd (vq L p [f] k) λl k=>yes (some (.mk 2 rI sZ l mB rJ)) k
 else yes none k
def vr (l:List bk)(k:Nat):PR (List bk):=if qy L k=true then bd (p.gR k) λq k=>p.MM (l++[q]) k else yes l k
def W8 (k:Nat):PR Fn:=gj L 3 k λt k=>bd (p.gR k) λq k=>bd (vr L p [q] k) λl k=>dj L [61] k λk=>bd (p.exp k) λe k=>yes (.mk t.s l e) k
def j9 (l:List (List UInt8))(k:Nat):PR (List (List UInt8)):=if eM L k [44]=true then gj L 5 (k+1) λt k=>p.uu (l++[t.s]) k else yes l k
def mC (l:List eO)(k:Nat):PR (List eO):=if eM L k [124]=true then bd (p.qm (k+1)) λc k=>p.uv (l++[c]) k else yes l k
def AL (k:Nat):PR (List (List UInt8)):=
 if(tk L k).k=5 then yes [(tk L k).s] (k+1)
 else if eM L k [40]=true then gj L 5 (k+1) λt k=>bd (j9 L p [t.s] k) λl k=>dj L [41] k λk=>yes l k
 else yes [] k
def u7 (k:Nat):PR Data:=bd (AL L p k) λvs k=>gj L 3 k λt k=>dj L [61] k λk=>bd (p.qm k) λc k=>bd (mC L p [c] k) λl k=>yes ⟨vs,t.s,l⟩ k
def qA (k:Nat):PR (Option bm):=
 if eM L k [100,97,116,97,116,121,112,101]=true then bd (p.data (k+1)) λx k=>yes (some (.mk 3 rI sZ [] x rJ)) k
 else if eM L k [101,120,99,101,112,116,105,111,110]=true then bd (p.qm (k+1)) λc k=>yes (some (.mk 4 rI sZ [] mB c)) k
 else p.bind k
abbrev Mh (e:aO):bm:= .mk 5 rI e [] mB rJ
def qV (ds:List bm)(k:Nat):PR (List bm):=
 if(tk L k).k=0 then yes ds k else bd (p.dec k) λd k=>match d with
  | some d=>p.iD (ds++[d]) (skip L [59] k)
  | none=>bd (p.exp k) λe k=>p.iD (ds++[Mh e]) (skip L [59] k)
def Hb:PS where
 exp:=oo L p
 uq:=Fv L p
 bin:=s9 L p
 zP:=vo L p
 un:=MN L p
 y8:=y9 L p
 atom:=kH L p
 gu:=qz L p
 lt:=W7 L p
 vm:=vp L p
 pat:=zR L p
 gR:=hJ L p
 ur:=uZ L p
 ni:=ta L p
 m7:=u6 L p
 post:=qT L p
 Mg:=y_ L p
 lr:=l8 L p
 qm:=Fw L p
 bind:=qU L p
 vn:=vq L p
 fn:=W8 L p
 MM:=vr L p
 dec:=qA L p
 data:=u7 L p
 uu:=j9 L p
 uv:=mC L p
 iD:=qV L p
def ps:Nat->PS
 | 0=>PS.none
 | n+1=>Hb L (ps n)
end
section
variable {nx0:Nat}{H0:T OB}
variable {fr:Nat->List Value->TypeId->Prop}{bp:Nat}{l0:List Tok}{b0:Bool}{ok:Bool}{ts:List Tok}{n nx:Nat}{H:T OB}{R:Value->T OB->Nat->Prop}
abbrev ft (s:List UInt8):Tok:=⟨7,s,0,0⟩
abbrev gU (s:List UInt8):Tok:=⟨6,s,0,0⟩
theorem Qk (f:FuncId)(k:Int)(s:List UInt8)(hf:X0 f [aK s]=none)(hq:∀H nx,aX P pl (.call f [aK s] false none H nx)=bU (eN P H nx 31) (λx0 H nx=>aw (cA P 31 (some [(0,i64 k),(1,aK s)])) (λx1=>bU (eD P H nx 31 (some x0) (some x1)) (λx2 H nx=>aw (aA P H 31 (some x0)) (λx3=> .ret ⟨.ret x3,false,H,nx⟩) .bad)) .bad)):
 P0 f [aK s] (Tok.v ⟨k,s,0,0⟩):=Pure.of hf λH nx=>by
 rw[hq];refine Wq.alloc ek (.refl _ _) λH1 hb _ hA1=> ?_;simp only[af,gH];refine Wq.store hb fg (by simp) rfl rfl hA1 (by omega) λH2 hb _ hA2=> ?_;have hb':dO H2 nx (Tok.c ⟨k,s,0,0⟩) 31:=hb;rw[cR hb' nI fg (by simp)];exact Wq.ret hA2
theorem W9 (s:List UInt8):P0 77 [aK s] (Tok.v (ft s)):=Qk 77 7 s rfl λH nx=>q77 ..
theorem Ql (s:List UInt8):P0 129 [aK s] (Tok.v (gU s)):=Qk 129 6 s rfl λH nx=>ad0 ..
theorem Wq.my (s:List UInt8){k p p':Value->T OB->Nat->Q}(hS:St fr bp nx0 H0 l0 b0 ok ts n H nx)(hl:l0.length+(n+1)<=100000)(hk:∀u H' nx',St fr bp nx0 H0 l0 b0 ok (ts++[ft s]) (n+1) H' nx'->e8 P pl X0 (k u H' nx') nx0 H0 R):
 e8 P pl X0 (dm (.call 77 [aK s] false none H nx) (λx H nx=>bU (bC P H nx 29 1 (some [(0,x)])) λv H nx=>dm (.call 76 [ptr bp,v] false none H nx) k p) p') nx0 H0 R:=
 Wq.qR (W9 s) hS λH1 aI hS1=>Wq.tok (ft s) hS1 hl hk
theorem Wq.key (s:List UInt8){k p p':Value->T OB->Nat->Q}(hS:St fr bp nx0 H0 l0 b0 ok ts n H nx)(hl:l0.length+(n+1)<=100000)(hk:∀u H' nx',St fr bp nx0 H0 l0 b0 ok (ts++[gU s]) (n+1) H' nx'->e8 P pl X0 (k u H' nx') nx0 H0 R):
 e8 P pl X0 (dm (.call 129 [aK s] false none H nx) (λx H nx=>bU (bC P H nx 29 1 (some [(0,x)])) λv H nx=>dm (.call 76 [ptr bp,v] false none H nx) k p) p') nx0 H0 R:=
 Wq.qR (Ql s) hS λH1 aI hS1=>Wq.tok (gU s) hS1 hl hk
theorem er (c:Bool):kn 127 [.bool c] c [] 0:=λfr bp nx0 H0 l0 b0 H nx hl hS=>by
 obtain⟨h0,hA,l,b,hO,hG⟩:=hS;rw[adY];have hb:=St.bad (⟨h0,hA,l,b,hO,hG⟩:St fr bp nx0 H0 l0 b0 true [] 0 H nx);simp only[af,jb,hb,Bool.or_false];have e0:b=b0:=by rw[hG.1];simp
 cases b0 with
 | true=>
   simp only[af];refine hO.mark hA true λH1 hO1 hA1=> ?_;exact Wq.mf hA1 ⟨rfl,h0,hA1,l,true,hO1,by simp,nofun,hG.2.2⟩
 | false=>
   simp only[af];refine hO.mark hA (!c) λH1 hO1 hA1=> ?_;exact Wq.mf hA1 ⟨rfl,h0,hA1,l,!c,hO1,by simp,λq=>hG.2.1 e0,hG.2.2⟩
theorem Wq.bad {k:Value->T OB->Nat->Q}(hS:St fr bp nx0 H0 l0 b0 ok ts n H nx)(hk:∀H',St fr bp nx0 H0 l0 b0 false ts n H' nx->e8 P pl X0 (k undef H' nx) nx0 H0 R):e8 P pl X0 (bU (eD P H nx 4 (some (.pointer (some ⟨bp,1,none⟩))) (some (.bool true))) k) nx0 H0 R:=by
 obtain⟨h0,hA,l,b,hO,hG⟩:=hS;refine hO.mark hA true λH1 hO1 hA1=>hk H1 ⟨h0,hA1,l,true,hO1,by simp,nofun,hG.2.2⟩
theorem St.ab0 {ok ok':Bool}{ts ts':List Tok}{n n' nx:Nat}{H:T OB}(h:St fr bp nx0 H0 l0 b0 ok ts n H nx)(hb:(b0 || !ok)=true)(e:b0=false->ok=false->ok'=false)(en:n<=n'):St fr bp nx0 H0 l0 b0 ok' ts' n' H nx:=by
 obtain⟨h0,h1,l,b,h2,h3,h4,h5⟩:=h;refine⟨h0,h1,l,b,h2,?_,λq=> ?_,by omega⟩
 . rw[h3,hb];cases b0 with
   | true=>rfl
   | false=>rw[e rfl (by simpa using hb)];rfl
 . rw[h3,hb]at q;cases q
theorem Wq.skip {ok':Bool}{ts':List Tok}{n':Nat}(h:St fr bp nx0 H0 l0 b0 ok ts n H nx)(hb:(b0 || !ok)=true)(e:b0=false->ok=false->ok'=false)(en:n<=n'):e8 P pl X0 (.ret ⟨.ret (.tuple ⟨[]⟩),false,H,nx⟩) nx0 H0 (gN fr bp nx0 H0 l0 b0 ok' ts' n'):=Wq.mf h.2.1 ⟨rfl,h.ab0 hb e en⟩
theorem il (t:Tok)(hl:t.s.length<9223372036854775807):kn 132 [t.v] (cP t) [t] 1:=λfr bp nx0 H0 l0 b0 H nx hn hS=>by
 rw[ad3];refine Wq.uk hS λhS=> ?_;simp only[af];refine Wq.Ha (O0 t hl) hS λH1 aI hS1=> ?_;simp only[af];refine Wq.cG (er _) rfl hS1 (by omega) λu H2 nx2 hS2=> ?_;refine Wq.tok t hS2 (by omega) λu H3 nx3 hS3=> ?_;exact Wq.done hS3 (by simp) (λ_=>by simp) (by omega)
def ot (k:Int):Bool:=decide (k=1)||(decide (k=2)||(decide (k=3)||(decide (k=4)||(decide (k=5)||(decide (k=13)||decide (k=10))))))
theorem ZW (e:aO):P0 183 [e.v] (.bool (ot e.k)):=Pure.of rfl λH nx=>by
 rw[aeE];refine Wq.gi (.refl _ _) λhA=> ?_;have L:∀b,b=ot e.k->Wq P pl X0 (.jump (lC b H (nx+1))) nx H (.bool (ot e.k)):=by
  intro b hb;refine Wq.jmp (Tt ..) (λ_=>rfl) ?_;rw[<- hb];cases b<;>exact Wq.ret hA
 simp only[af,aL,aa];unfold ot at L ⊢;refine Wq.ite (λg=>L _ (by simp[g])) (λg1=> ?_);refine Wq.ite (λg=>L _ (by simp[g])) (λg2=> ?_);refine Wq.ite (λg=>L _ (by simp[g])) (λg3=> ?_);refine Wq.ite (λg=>L _ (by simp[g])) (λg4=> ?_);refine Wq.ite (λg=>L _ (by simp[g])) (λg5=> ?_);refine Wq.ite (λg=>L _ (by simp[g])) (λg6=> ?_);exact L _ (by simp[g1,g2,g3,g4,g5,g6])
def za (s:List UInt8):Tok:=if(match s with | []=>false | c::_=>cV c)=true then gU s else ft s
theorem Qm (a:UInt8)(r:List UInt8):P0 169 [aK (a::r)] (za (a::r)).v:=Pure.of rfl λH nx=>by
 rw[aeu];refine Wq.alloc ek (.refl _ _) λH1 hb _ hA1=> ?_;have e1:decide (97<=(a.toNat:Int))=decide (97<=a.toNat):=by rw[decide_eq_decide];omega
 have e2:decide ((a.toNat:Int)<=122)=decide (a.toNat<=122):=by rw[decide_eq_decide];omega
 have L:∀b,b=cV a->Wq P pl X0 (.jump (CU (aK (a::r)) (.pointer (some ⟨nx,0,none⟩)) b H1 (nx+1))) nx H (za (a::r)).v:=by
  intro b hb0;refine Wq.jmp (YX ..) (λ_=>rfl) ?_;unfold za;show Wq P pl X0 _ nx H (if cV a=true then gU (a::r)else ft (a::r)).v;rw[<- hb0];cases b with
  | true=>
    refine Wq.bK (λ_=> ?_) (λh=>by cases h);refine Wq.gZ (Ql _) hA1 λH2 nx2 hA2 n2 k2=> ?_;refine Wq.store (k2 _ _ _ (by omega) hb) fg (by simp) rfl rfl hA2 (by omega) λH3 hb3 _ hA3=> ?_;have hb':dO H3 nx (Tok.c (gU (a::r))) 31:=hb3;rw[X7,cR hb' nI fg (by simp)];exact Wq.ret hA3
  | false=>
    refine Wq.bK (λh=>by cases h) (λ_=> ?_);refine Wq.gZ (W9 _) hA1 λH2 nx2 hA2 n2 k2=> ?_;refine Wq.store (k2 _ _ _ (by omega) hb) fg (by simp) rfl rfl hA2 (by omega) λH3 hb3 _ hA3=> ?_;have hb':dO H3 nx (Tok.c (ft (a::r))) 31:=hb3;rw[X7,cR hb' nI fg (by simp)];exact Wq.ret hA3
 unfold cV at L;simp only[af,TG,e1,e2];refine Wq.bK (λh=>L _ (by rw[h,ai])) (λh=>L _ (by rw[h,aE]))
theorem ZX (l:List (List UInt8))(hl:l.length<ei)(s:List UInt8):∀(r:List (List UInt8)) (i:Nat) (H:T OB) (nx:Nat),l.drop i=r->i<=l.length->Ag nx0 H0 nx H->Wq P pl X0 (.jump (yP (aK s) (kl l) (i64 (l.length:Int)) (i64 (i:Int)) H nx)) nx0 H0 (.bool (r.contains s)):=by
 intro r
 induction r with
 | nil=>
   intro i H nx hd hi hA;have hil:=drop_nil hd hi;refine Wq.jmp (CP ..) (λ_=>rfl) ?_;simp only[af,aL,aa,hil,aF];exact Wq.ret hA
 | cons x r ih=>
   intro i H nx hd hi hA;obtain⟨hg,hlt,hd'⟩:=drop_cons hd;have hg':(l.map aK)[i]? = some (aK x):=by simp[hg]
   refine Wq.jmp (CP ..) (λ_=>rfl) ?_;simp only[af,aL,aa,aJ hlt,yr hg',dL,az (show i<9223372036854775807 by have:=cv hl;omega)];refine Wq.ite (λh=> ?_) (λh=> ?_)
   . exact Wq.ij (by subst h;simp) hA
   . have:((x::r).contains s)=r.contains s:=by rw[jX,show(s == x)=false from by simp;exact λq=>h q.symm,bG]
     rw[this];exact ih (i+1) H nx hd' (by omega) hA
theorem Qn (l:List (List UInt8))(hl:l.length<ei)(s:List UInt8):P0 153 [kl l,aK s] (.bool (l.contains s)):=Pure.of rfl λH nx=>by
 rw[abq];simp only[af,aL,aa];exact ZX l hl s l 0 H nx rfl (aN _) (.refl _ _)
theorem T0 (b:Nat)(l:List (List UInt8))(s:List UInt8)(hb:vi H0 b (l.map aK))(hbx:b<nx0)(hl:l.length<1000000)(cp:Nat):∀(r:List (List UInt8)) (i:Nat) (H:T OB) (nx:Nat),l.drop i=r->i<=l.length->Ag nx0 H0 nx H->
 Wq P pl X0 (.jump (yP (aK s) (.slice (some ⟨b,0,none⟩) l.length cp) (i64 (l.length:Int)) (i64 (i:Int)) H nx)) nx0 H0 (.bool (r.contains s)):=by
 intro r
 induction r with
 | nil=>
   intro i H nx hd hi hA;have hil:=drop_nil hd hi;refine Wq.jmp (CP ..) (λ_=>rfl) ?_;simp only[af,hil,aF];exact Wq.ret hA
 | cons x r ih=>
   intro i H nx hd hi hA;obtain⟨hg,hlt,hd'⟩:=drop_cons hd;have hg':(l.map aK)[0+i*1]? = some (aK x):=by simp[hg]
   refine Wq.jmp (CP ..) (λ_=>rfl) ?_;simp only[af,aJ hlt,NL hlt,ug (hb.ag hA hbx) oT hg',az (show i<9223372036854775807 by omega),dL];refine Wq.ite (λh=> ?_) (λh=> ?_)
   . exact Wq.ij (by subst h;simp) hA
   . have:((x::r).contains s)=r.contains s:=by rw[jX,show(s == x)=false from by simp;exact λq=>h q.symm,bG]
     rw[this];exact ih (i+1) H nx hd' (by omega) hA
theorem Hc (H:T OB):cw P H 188 (some (.pointer (some ⟨3,0,none⟩))) (some none) (some none) (some none)=some (.slice (some ⟨3,0,none⟩) 8 8):=o0 (len:=8) (e:=9) (by kernel_rfl) lU (by omega) (by omega)
theorem KL (s:List UInt8):PT 153 [.slice (some ⟨3,0,none⟩) 8 8,aK s] (.bool (fh.contains s)):=PT.of rfl λH nx hT=>by
 rw[abq];simp only[af];exact T0 3 fh s hT.words (by have:=hT.1;omega) (by decide) 8 fh 0 H nx rfl (aN _) (.refl _ _)
theorem zc {b s:Nat}{l:List Value}{t:TypeId}{H:T OB}(h:vi H b l)(ha:gf P t=some true)(hs:bT P t=some s)(hl:l.length=s):aA P H t (some (.pointer (some ⟨b,0,none⟩)))=some (.agg ⟨l⟩):=by
 obtain⟨tr,h1,h2⟩:=h;show nX P H t b 0=_;unfold nX;rw[h1];show oz P l.length tr t 0=_;unfold oz;rw[ha,aZ];show xh P l.length tr t 0=_;unfold xh;rw[hs,aZ,mH h2 s 0 (by omega),av (show 0+s<=l.length by omega)];simp[<- hl]
theorem Qo:eB P 182 (some (.agg ⟨bx.map lvl⟩)) (some (i64 0))=some (lvl [[111,114,101,108,115,101]]):=by kernel_rfl
theorem Qp:eB P 182 (some (.agg ⟨bx.map lvl⟩)) (some (i64 1))=some (lvl [[97,110,100,97,108,115,111]]):=by kernel_rfl
theorem Qq:eB P 182 (some (.agg ⟨bx.map lvl⟩)) (some (i64 2))=some (lvl [[58,61]]):=by kernel_rfl
theorem Qr:eB P 182 (some (.agg ⟨bx.map lvl⟩)) (some (i64 3))=some (lvl [[61],[60,62],[60],[60,61],[62],[62,61]]):=by kernel_rfl
theorem Qs:eB P 182 (some (.agg ⟨bx.map lvl⟩)) (some (i64 4))=some (lvl [[58,58]]):=by kernel_rfl
theorem Qt:eB P 182 (some (.agg ⟨bx.map lvl⟩)) (some (i64 5))=some (lvl [[43],[45],[94]]):=by kernel_rfl
theorem Qu:eB P 182 (some (.agg ⟨bx.map lvl⟩)) (some (i64 6))=some (lvl [[42],[100,105,118],[109,111,100]]):=by kernel_rfl
theorem ZY (i:Nat)(x:List (List UInt8))(h:bx[i]? = some x):eB P 182 (some (.agg ⟨bx.map lvl⟩)) (some (i64 (i:Int)))=some (lvl x):=by
 match i,h with
 | 0,h=>exact(Option.some.inj (show some ([[111,114,101,108,115,101]]:List (List UInt8))=some x from h)) ▸ Qo
 | 1,h=>exact(Option.some.inj (show some ([[97,110,100,97,108,115,111]]:List (List UInt8))=some x from h)) ▸ Qp
 | 2,h=>exact(Option.some.inj (show some ([[58,61]]:List (List UInt8))=some x from h)) ▸ Qq
 | 3,h=>exact(Option.some.inj (show some ([[61],[60,62],[60],[60,61],[62],[62,61]]:List (List UInt8))=some x from h)) ▸ Qr
 | 4,h=>exact(Option.some.inj (show some ([[58,58]]:List (List UInt8))=some x from h)) ▸ Qs
 | 5,h=>exact(Option.some.inj (show some ([[43],[45],[94]]:List (List UInt8))=some x from h)) ▸ Qt
 | 6,h=>exact(Option.some.inj (show some ([[42],[100,105,118],[109,111,100]]:List (List UInt8))=some x from h)) ▸ Qu
 | i+7,h=>exact absurd h (by simp[bx])
theorem ZZ (s:List UInt8):PT 167 [aK s] (.bool (lY.contains s)):=PT.of rfl λH nx hT=>by
 rw[aes,X7,zc hT.levels Sw X5 rfl];simp only[af];have e:lY.contains s=bx.any λl=>l.contains s:=by
  have:lY=bx.flatten:=by decide
  rw[this,dk];simp
 rw[e];refine Wq.each bx (λi (_:Unit) H nx=> .jump (CT (aK s) (.agg ⟨bx.map lvl⟩) (i64 (i:Int)) H nx)) (λt (_:Unit)=> .bool (t.any λl=>l.contains s)) (λ_ H1 aI hA1=> ?_) (λi a t _ H1 aI hg hlt hd hA1 ih=> ?_) () _ _ (.refl _ _)
 . refine Wq.jmp (OW ..) (λ_=>rfl) ?_;simp only[af,show decide ((bx.length:Int)<7)=false from by decide];exact Wq.ret hA1
 . refine Wq.jmp (OW ..) (λ_=>rfl) ?_;have hlt':i<7:=hlt;simp only[af,show decide ((i:Int)<7)=true from by simp;omega,ZY i a hg];have hal:a.length<ei:=by
    have:∀x∈bx,x.length<10:=by decide
    exact Nat.lt_trans (this a (ak hg)) (by decide)
   refine Wq.call (Qn a hal s) hA1 λH2 nx2 hA2=> ?_;rw[List.any_cons];cases a.contains s with
   | true=>exact Wq.ret hA2
   | false=>
     simp only[af,az (show i<9223372036854775807 by omega),bG];exact ih () _ _ hA2
def dG (e:aO)(m:Int)(a b c d:Bool):Bool:=(decide (m<0)||decide ((e.l.length:Int)=m))&&((a||decide (e.s=[]))&&((b||decide (e.n=0))&&((c||decide (e.p.length=0))&&(d||decide (e.d.length=0)))))
theorem iT (e:aO)(m:Int)(a b c d:Bool):kn 164 [e.v,i64 m,.bool a,.bool b,.bool c,.bool d] (dG e m a b c d) [] 0:=λfr bp nx0 H0 l0 b0 H nx hn hS=>by
 rw[aep];refine Wq.uk hS λhS=> ?_;have L:∀r,r=dG e m a b c d->e8 P pl X0 (dm (.call 127 [ptr bp,.bool r] false none H (nx+1)) (λx H nx=> .ret ⟨.ret (.tuple ⟨[]⟩),false,H,nx⟩) jy) nx0 H0 (gN fr bp nx0 H0 l0 b0 (dG e m a b c d) [] 0):=by
  intro r hr;subst hr;refine Wq.cG (er _) rfl hS (by omega) λu H2 nx2 hS2=> ?_;exact Wq.done hS2 (by simp) (λ_=>rfl) (by omega)
 simp only[af,aL,aa,dL,jO];unfold dG at L ⊢;generalize decide (m<0)=x1 at*;generalize decide ((e.l.length:Int)=m)=x2 at*;generalize decide (e.s=[])=x3 at*;generalize decide (e.n=0)=x4 at*;generalize decide (e.p.length=0)=x5 at*;generalize decide (e.d.length=0)=x6 at*;cases x1<;>cases a<;>cases b<;>cases c<;>cases d<;>cases x2<;>cases x3<;>cases x4<;>cases x5<;>first | exact L _ rfl | (cases x6<;>exact L _ rfl)
end
section
variable {nx0 nx nx' bp k:Nat}{H0 H H':T OB}{F A B G G':List Bx}{s:Bx}{R:Go.Ev.Out->T OB->Nat->Prop}{b:Nat}{l:List Value}{e t:TypeId}{L:List Tok}
abbrev l9 (L:List Tok):Value:=bM 4 (L.map Tok.v)
abbrev fu (bp:Nat)(L:List Tok)(k:Nat):Bx:=(bp,[l9 L,i64 (k:Int)],73)
theorem Sq.pc {f:FuncId}{args:List Value}{u:Value}{kt p:Value->T OB->Nat->Q}{F':List Bx}(hx:X0 f args=none)(h:bA P pl X0 (aX P pl (.call f args false none H nx)) nx0 H0 (λo H nx=>o= .ret u/\Hp nx0 H0 F' H nx))
 (hk:∀H' nx',Hp nx0 H0 F' H' nx'->bA P pl X0 (kt u H' nx') nx0 H0 R):bA P pl X0 (dm (.call f args false none H nx) kt p) nx0 H0 R:=
 Wq.lS hx h (λv H' nx' _ q=>by
  obtain⟨q1,q2⟩:=q;cases q1;exact hk H' nx' q2) (λv H' nx' _ q=>by cases q.1)
theorem ou {u:Value}{F':List Bx}(h:Hp nx0 H0 F' H nx):bA P pl X0 (.ret ⟨.ret u,false,H,nx⟩) nx0 H0 (λo H nx=>o= .ret u/\Hp nx0 H0 F' H nx):=Wq.rC h.ag ⟨rfl,h⟩
theorem AM {u v:Value}{F':List Bx}(e:u=v)(h:Hp nx0 H0 F' H nx):bA P pl X0 (.ret ⟨.ret u,false,H,nx⟩) nx0 H0 (λo H nx=>o= .ret v/\Hp nx0 H0 F' H nx):=by subst e;exact ou h
theorem kI {L:List Tok}{k:Nat}(h:(tk L k).k≠0):k<L.length:=by
 unfold tk at h;cases hk:L[k]? with
 | none=>rw[hk]at h;exact absurd rfl h
 | some t=>exact(ar.1 hk).1
theorem pe {L:List Tok}{k:Nat}{w:List UInt8}(h:eM L k w=true):k<L.length:=by
 refine kI λq=> ?_;unfold eM o8 at h;rw[q]at h;simp at h
theorem pk (h:Hp nx0 H0 (fu bp L k::F) H nx):aA P H 3 (some (.pointer (some ⟨bp,1,none⟩)))=some (i64 (k:Int)):=aB (h.at_ 0 rfl) sH rfl
theorem plk (h:Hp nx0 H0 (fu bp L k::F) H nx):aA P H 29 (some (.pointer (some ⟨bp,0,none⟩)))=some (l9 L):=aB (h.at_ 0 rfl) GH rfl
theorem Mi {c0 c1 c2 c3:Value}(h:dO H b [c0,c1,c2,c3] 31):aA P H 31 (some (.pointer (some ⟨b,0,none⟩)))=some (.agg ⟨[c0,c1,c2,c3]⟩):=by
 rw[cR h nI fg (by simp)];rfl
theorem ab1 (h:Hp nx0 H0 (fu bp L k::F) H nx):bA P pl X0 (aX P pl (.call 59 [ptr bp] false none H nx)) nx0 H0 (λo H nx=>o= .ret (tk L k).v/\Hp nx0 H0 (fu bp L k::F) H nx):=by
 rw[q59];refine Hq.alloc ek h λx0 H1 aI h1=> ?_;simp only[af,pk h1,plk h1,aa];refine Wq.ite (λhlt=> ?_) (λhge=> ?_)
 . have hlt':k<L.length:=by omega
   have hg:L[k]? = some L[k]:=au hlt';have hx:(L.map Tok.v)[k]? = some L[k].v:=by simp[hg]
   simp only[af,NK hx];refine Hq.store [fu bp L k] h1 fg (by simp) rfl rfl λH2 h2=> ?_;simp only[af,Mi (h2.at_ 1 rfl)];refine AM ?_ h2.sY;show _=(tk L k).v;unfold tk;rw[hg];rfl
 . refine Hq.store [fu bp L k] h1 fg (by simp) rfl rfl λH2 h2=> ?_;simp only[af,Mi (h2.at_ 1 rfl)];refine AM ?_ h2.sY;show _=(tk L k).v;unfold tk;rw[bt (by omega)];rfl
theorem Sq.now {kt p:Value->T OB->Nat->Q}(h:Hp nx0 H0 (fu bp L k::F) H nx)(hk:∀H' nx',Hp nx0 H0 (fu bp L k::F) H' nx'->bA P pl X0 (kt (tk L k).v H' nx') nx0 H0 R):bA P pl X0 (dm (.call 59 [ptr bp] false none H nx) kt p) nx0 H0 R:=Sq.pc rfl (ab1 h) hk
theorem Sq.T1 {kt:T OB->Nat->Q}(h:Hp nx0 H0 F H nx)(hk:∀H' nx',Hp nx0 H0 F H' nx'->bA P pl X0 (kt H' nx') nx0 H0 R):bA P pl X0 (bU (eN P H nx 31) λp H nx=>sx P H nx 31 (some p) (tk L k).v kt) nx0 H0 R:=Hq.var ek fg rfl rfl rfl h hk
theorem ab2 {a b:Bool}{x y:Q}(h:(a||b)=true->bA P pl X0 x nx0 H0 R)(h':(a||b)=false->bA P pl X0 y nx0 H0 R):bA P pl X0 (Ev.bK a x (Ev.bK b x y)) nx0 H0 R:=by
 cases a with
 | true=>exact h rfl
 | false=>
   cases b with
   | true=>exact h rfl
   | false=>exact h' rfl
theorem dtx (a b:List UInt8):decide ((⟨⟨a⟩⟩:ByteArray)=⟨⟨b⟩⟩)=decide (a=b):=by rw[decide_eq_decide];simp
theorem Z0 (w:List UInt8)(h:Hp nx0 H0 (fu bp L k::F) H nx):bA P pl X0 (aX P pl (.call 109 [ptr bp,aK w] false none H nx)) nx0 H0 (λo H nx=>o= .ret (.bool (eM L k w))/\Hp nx0 H0 (fu bp L k::F) H nx):=by
 rw[adO];refine Sq.now h λH1 aI h1=> ?_;refine Sq.T1 h1 λH2 nx2 h2=> ?_;simp only[af];refine ab2 (λhw=> ?_) (λhw=> ?_)
 . refine AM ?_ h2;unfold eM o8;rw[hw,ai,dtx]
 . refine AM ?_ h2;unfold eM o8;rw[hw,aE]
theorem Sq.is {w:List UInt8}{kt p:Value->T OB->Nat->Q}(h:Hp nx0 H0 (fu bp L k::F) H nx)(hk:∀H' nx',Hp nx0 H0 (fu bp L k::F) H' nx'->bA P pl X0 (kt (.bool (eM L k w)) H' nx') nx0 H0 R):bA P pl X0 (dm (.call 109 [ptr bp,aK w] false none H nx) kt p) nx0 H0 R:=Sq.pc rfl (Z0 w h) hk
theorem ab3:bT P 3=some 1:=by kernel_rfl
theorem gV (h:Hp nx0 H0 (fu bp L k::F) H nx){kt:Value->T OB->Nat->Q}(hk:∀H',Hp nx0 H0 (fu bp L (k+1)::F) H' nx->bA P pl X0 (kt undef H' nx) nx0 H0 R):bA P pl X0 (bU (eD P H nx 3 (some (.pointer (some ⟨bp,1,none⟩))) (some (i64 ((k:Int)+1)))) kt) nx0 H0 R:=
 Hq.put [] h ab3 rfl rfl (show 1<2 by omega) rfl λH' h'=>hk H' h'
theorem jC (hL:L.length<=100000)(hlt:k<L.length):IntKind.i64.wrap ((k:Int)+1)=(k:Int)+1:=by rw[az (by omega)];rfl
theorem W_ (w:List UInt8)(hL:L.length<=100000)(h:Hp nx0 H0 (fu bp L k::F) H nx):bA P pl X0 (aX P pl (.call 62 [ptr bp,aK w] false none H nx)) nx0 H0 (λo H nx=>o= .ret (.bool (eM L k w))/\Hp nx0 H0 (fu bp L (if eM L k w=true then k+1 else k)::F) H nx):=by
 rw[q62];refine Sq.is h λH1 aI h1=> ?_;cases hi:eM L k w with
 | false=>
   simp only[af];exact ou h1
 | true=>
   simp only[af,pk h1,jC hL (pe hi)];exact gV h1 λH2 h2=>ou h2
theorem Sq.take {w:List UInt8}{kt p:Value->T OB->Nat->Q}(hL:L.length<=100000)(h:Hp nx0 H0 (fu bp L k::F) H nx)(ht:eM L k w=true->∀H' nx',Hp nx0 H0 (fu bp L (k+1)::F) H' nx'->bA P pl X0 (kt (.bool true) H' nx') nx0 H0 R)
 (hf:eM L k w=false->∀H' nx',Hp nx0 H0 (fu bp L k::F) H' nx'->bA P pl X0 (kt (.bool false) H' nx') nx0 H0 R):bA P pl X0 (dm (.call 62 [ptr bp,aK w] false none H nx) kt p) nx0 H0 R:=
 Sq.pc rfl (W_ w hL h) λH' nx' h'=>by
  cases hi:eM L k w with
  | true=>rw[hi]at h';exact ht hi H' nx' h'
  | false=>rw[hi]at h';exact hf hi H' nx' h'
theorem Sq.skip {w:List UInt8}{kt p:Value->T OB->Nat->Q}(hL:L.length<=100000)(h:Hp nx0 H0 (fu bp L k::F) H nx)(hk:∀b H' nx',Hp nx0 H0 (fu bp L (skip L w k)::F) H' nx'->bA P pl X0 (kt (.bool b) H' nx') nx0 H0 R):bA P pl X0 (dm (.call 62 [ptr bp,aK w] false none H nx) kt p) nx0 H0 R:=
 Sq.pc rfl (W_ w hL h) λH' nx' h'=>hk _ H' nx' h'
abbrev nQ (a:Int):Value:= .iface 69 (.agg ⟨[i64 a]⟩)
def End {α:Type}(nx0:Nat)(H0:T OB)(bp:Nat)(L:List Tok)(F:List Bx)(vf:α->Value):nh α->Go.Ev.Out->T OB->Nat->Prop
 | .ok a k=>λo H nx=>o= .ret (vf a)/\Hp nx0 H0 (fu bp L k::F) H nx
 | .bad a=>λo H nx=>o= .j_ (nQ a)
def cY {α:Type}(f:FuncId)(L:List Tok)(vf:α->Value)(r:Nat->PR α):Prop:=∀nx0 nx H0 H bp F k o,r k=some o->Hp nx0 H0 (fu bp L k::F) H nx->bA P pl X0 (aX P pl (.call f [ptr bp] false none H nx)) nx0 H0 (End nx0 H0 bp L F vf o)
theorem End.ret {α:Type}{vf:α->Value}{a:α}{u:Value}{o:nh α}(ho:yes a k=some o)(e:u=vf a)(h:Hp nx0 H0 (fu bp L k::F) H nx):bA P pl X0 (.ret ⟨.ret u,false,H,nx⟩) nx0 H0 (End nx0 H0 bp L F vf o):=by
 cases ho;exact Wq.rC h.ag ⟨by rw[e],h⟩
theorem Sq.jy {α:Type}{vf:α->Value}{a:Int}(hA:Ag nx0 H0 nx H):bA P pl X0 (jy (nQ a) H nx) nx0 H0 (End nx0 H0 bp L F vf (.bad a)):=Wq.rC hA rfl
theorem ab4 (x:Value):nr P 69 (some (.agg ⟨[x]⟩))=some (.iface 69 (.agg ⟨[x]⟩)):=by kernel_rfl
theorem ab5 (x:Int):cA P 69 (some [(0,i64 x)])=some (.agg ⟨[i64 x]⟩):=cf (z:=[.int .i64 0]) (by kernel_rfl) (by kernel_rfl)
theorem Hd (h:Hp nx0 H0 (fu bp L k::F) H nx):bA P pl X0 (aX P pl (.call 150 [ptr bp] false none H nx)) nx0 H0 (λo _ _=>o= .j_ (nQ (tk L k).at_)):=by
 rw[aeg];refine Sq.now h λH1 aI h1=> ?_;simp only[af,ab5,ab4];exact Wq.rC (R:=λo _ _=>o= .j_ (nQ (tk L k).at_)) h1.ag rfl
theorem Sq.fail {α β:Type}{vf:α->Value}{o:nh α}{kt:Value->T OB->Nat->Q}(ho:qS L k=some o)(h:Hp nx0 H0 (fu bp L k::G) H nx):bA P pl X0 (dm (.call 150 [ptr bp] false none H nx) kt Ev.jy) nx0 H0 (End nx0 H0 bp L F vf o):=by
 cases ho;exact Wq.lS rfl (Hd h) (λu H' nx' _ q=>by cases q) λu H' nx' hA q=>by cases q;exact Sq.jy hA
theorem Sq.call {α β:Type}{f:FuncId}{vf:α->Value}{vg:β->Value}{r:Nat->PR α}{g:α->Nat->PR β}{o:nh β}{kt:Value->T OB->Nat->Q}(hs:cY f L vf r)(hx:X0 f [ptr bp]=none)(h:Hp nx0 H0 (fu bp L k::G) H nx)(ho:bd (r k) g=some o)
 (hk:∀a k' H' nx',r k=some (.ok a k')->g a k'=some o->Hp nx0 H0 (fu bp L k'::G) H' nx'->bA P pl X0 (kt (vf a) H' nx') nx0 H0 (End nx0 H0 bp L F vg o)):bA P pl X0 (dm (.call f [ptr bp] false none H nx) kt Ev.jy) nx0 H0 (End nx0 H0 bp L F vg o):=by
 cases hr:r k with
 | none=>rw[hr]at ho;cases ho
 | some q=>
   refine Wq.lS hx (hs nx0 nx H0 H bp G k q hr h) (λu H' nx' _ he=> ?_) (λu H' nx' hA he=> ?_)
   . cases q with
     | bad a=>cases he
     | ok a k'=>
       rw[hr,KK]at ho;cases he.1;exact hk a k' H' nx' hr ho he.2
   . cases q with
     | ok a k'=>cases he.1
     | bad a=>
       rw[hr,Dk]at ho;cases ho;cases he;exact Sq.jy hA
theorem Sq.ov {β:Type}{w:List UInt8}{vg:β->Value}{g:Nat->PR β}{o:nh β}{kt:Value->T OB->Nat->Q}(hL:L.length<=100000)(h:Hp nx0 H0 (fu bp L k::G) H nx)(ho:dj L w k g=some o)
 (hk:∀H' nx',eM L k w=true->g (k+1)=some o->Hp nx0 H0 (fu bp L (k+1)::G) H' nx'->bA P pl X0 (kt (.tuple ⟨[]⟩) H' nx') nx0 H0 (End nx0 H0 bp L F vg o)):bA P pl X0 (dm (.call 106 [ptr bp,aK w] false none H nx) kt Ev.jy) nx0 H0 (End nx0 H0 bp L F vg o):=by
 unfold dj at ho;cases hi:eM L k w with
 | true=>
   rw[hi,if_pos rfl]at ho;refine Sq.pc rfl ?_ λH' nx' h'=>hk H' nx' hi ho h';rw[abo];refine Sq.take hL h (λ_ H1 aI h1=> ?_) (λq=>by rw[q]at hi;cases hi);simp only[af];exact ou h1
 | false=>
   rw[hi,if_neg (by simp)]at ho;cases ho;refine Wq.lS (R1:=λo _ _=>o= .j_ (nQ (tk L k).at_)) rfl ?_ (λu H' nx' _ q=>by cases q) λu H' nx' hA q=>by cases q;exact Sq.jy hA
   rw[abo];refine Sq.take hL h (λq=>by rw[q]at hi;cases hi) (λ_ H1 aI h1=> ?_);simp only[af];exact Wq.lS rfl (Hd h1) (λu H' nx' _ q=>by cases q) λu H' nx' hA q=>by cases q;exact Wq.rC hA rfl
theorem Z1 (c:Int)(hL:L.length<=100000)(hc:c≠0)(h:Hp nx0 H0 (fu bp L k::F) H nx):bA P pl X0 (aX P pl (.call 146 [ptr bp,i64 c] false none H nx)) nx0 H0 (End nx0 H0 bp L F Tok.v (if(tk L k).k=c then .ok (tk L k) (k+1)else .bad (tk L k).at_)):=by
 rw[aec];refine Hq.alloc ek h λx0 H1 aI h1=> ?_;refine Sq.now h1 λH2 nx2 h2=> ?_;refine Sq.T1 h2 λH3 nx3 h3=> ?_;simp only[af];refine Wq.bK (λq=> ?_) (λq=> ?_)
 . have hne:¬(tk L k).k=c:=by simpa using q
   rw[if_neg hne];exact Wq.lS rfl (Hd h3) (λu H' nx' _ q=>by cases q) λu H' nx' hA q=>by cases q;exact Sq.jy hA
 . have he:(tk L k).k=c:=by simpa using q
   rw[if_pos he];have hlt:k<L.length:=kI (by rw[he];exact hc);refine Wq.jmp (S4 ..) (λ_=>rfl) ?_;simp only[af,pk h3,jC hL hlt];refine gV h3 λH4 h4=> ?_;refine Hq.store [fu bp L (k+1)] h4 fg (by simp) rfl rfl λH5 h5=> ?_;simp only[af,Mi (h5.at_ 1 rfl)];exact Wq.rC h5.ag ⟨rfl,h5.sY⟩
theorem Sq.word {β:Type}{c:Int}{vg:β->Value}{g:Tok->Nat->PR β}{o:nh β}{kt:Value->T OB->Nat->Q}(hc:c≠0)(hL:L.length<=100000)(h:Hp nx0 H0 (fu bp L k::G) H nx)(ho:gj L c k g=some o)
 (hk:∀H' nx',(tk L k).k=c->g (tk L k) (k+1)=some o->Hp nx0 H0 (fu bp L (k+1)::G) H' nx'->bA P pl X0 (kt (tk L k).v H' nx') nx0 H0 (End nx0 H0 bp L F vg o)):bA P pl X0 (dm (.call 146 [ptr bp,i64 c] false none H nx) kt Ev.jy) nx0 H0 (End nx0 H0 bp L F vg o):=by
 unfold gj at ho;have h1:=Z1 c hL hc h
 by_cases hi:(tk L k).k=c
 . rw[if_pos hi]at ho h1;refine Wq.lS rfl h1 (λu H' nx' _ q=> ?_) (λu H' nx' hA q=>by cases q.1);cases q.1;exact hk H' nx' hi ho q.2
 . rw[if_neg hi]at ho h1;cases ho;exact Wq.lS rfl h1 (λu H' nx' _ q=>by cases q) λu H' nx' hA q=>by cases q;exact Sq.jy hA
theorem Z2 (h:Hp nx0 H0 (fu bp L k::F) H nx):bA P pl X0 (aX P pl (.call 152 [ptr bp] false none H nx)) nx0 H0 (λo H nx=>o= .ret (aK (if o8 L k=true then(tk L k).s else[]))/\Hp nx0 H0 (fu bp L k::F) H nx):=by
 rw[aei];refine Sq.now h λH1 aI h1=> ?_;refine Sq.T1 h1 λH2 nx2 h2=> ?_;have J:∀b,o8 L k=b->bA P pl X0 (.jump (CO (ah (tk L k).v) b H2 nx2)) nx0 H0 (λo H nx=>o= .ret (aK (if o8 L k=true then(tk L k).s else[]))/\Hp nx0 H0 (fu bp L k::F) H nx):=by
  intro b hb;refine Wq.jmp (YU ..) (λ_=>rfl) ?_;cases b with
  | true=>simp only[af];exact AM (by rw[hb,if_pos rfl]) h2
  | false=>simp only[af];exact AM (by rw[hb,if_neg (by simp)]) h2
 simp only[af];refine Wq.ite (λq=>J true (by unfold o8;simp[q])) (λq=>J _ (by unfold o8;simp[q]))
theorem Sq.op {kt p:Value->T OB->Nat->Q}(h:Hp nx0 H0 (fu bp L k::F) H nx)(hk:∀H' nx',Hp nx0 H0 (fu bp L k::F) H' nx'->bA P pl X0 (kt (aK (if o8 L k=true then(tk L k).s else[])) H' nx') nx0 H0 R):bA P pl X0 (dm (.call 152 [ptr bp] false none H nx) kt p) nx0 H0 R:=Sq.pc rfl (Z2 h) hk
theorem Z3 (h:Hp nx0 H0 (fu bp L k::F) H nx):bA P pl X0 (aX P pl (.call 179 [ptr bp] false none H nx)) nx0 H0 (λo H nx=>o= .ret (.bool (o9 L k))/\Hp nx0 H0 (fu bp L k::F) H nx):=by
 rw[aeC];refine Sq.now h λH1 aI h1=> ?_;have J:∀b,uo L k=b->bA P pl X0 (.jump (qf (ptr bp) b H1 aI)) nx0 H0 (λo H nx=>o= .ret (.bool (o9 L k))/\Hp nx0 H0 (fu bp L k::F) H nx):=by
  intro b hb;refine Wq.jmp (Ts ..) (λ_=>rfl) ?_;unfold o9;rw[hb];cases b with
  | true=>simp only[af];exact ou h1
  | false=>
    simp only[af];refine Sq.is h1 λH2 nx2 h2=> ?_;cases eM L k [40]with
    | true=>simp only[af];exact ou h2
    | false=>
      simp only[af];refine Sq.is h2 λH3 nx3 h3=> ?_;simp only[af];exact ou h3
 have e:uo L k=(decide ((tk L k).k=1)||(decide ((tk L k).k=2)||(decide ((tk L k).k=3)||decide ((tk L k).k=4)))):=rfl
 revert e J
 simp only[af];generalize decide ((tk L k).k=1)=c1;generalize decide ((tk L k).k=2)=c2;generalize decide ((tk L k).k=3)=c3;generalize decide ((tk L k).k=4)=c4;intro J e;cases c1 with
 | true=>exact J true e
 | false=>
   cases c2 with
   | true=>exact J true e
   | false=>
     cases c3 with
     | true=>exact J true e
     | false=>exact J c4 e
theorem Sq.beg {kt p:Value->T OB->Nat->Q}(h:Hp nx0 H0 (fu bp L k::F) H nx)(hk:∀H' nx',Hp nx0 H0 (fu bp L k::F) H' nx'->bA P pl X0 (kt (.bool (o9 L k)) H' nx') nx0 H0 R):bA P pl X0 (dm (.call 179 [ptr bp] false none H nx) kt p) nx0 H0 R:=Sq.pc rfl (Z3 h) hk
theorem Z4 (h:Hp nx0 H0 (fu bp L k::F) H nx):bA P pl X0 (aX P pl (.call 176 [ptr bp] false none H nx)) nx0 H0 (λo H nx=>o= .ret (.bool (qy L k))/\Hp nx0 H0 (fu bp L k::F) H nx):=by
 rw[aez];refine Sq.now h λH1 aI h1=> ?_;have J:∀b,uo L k=b->bA P pl X0 (.jump (qe (ptr bp) b H1 aI)) nx0 H0 (λo H nx=>o= .ret (.bool (qy L k))/\Hp nx0 H0 (fu bp L k::F) H nx):=by
  intro b hb;refine Wq.jmp (To ..) (λ_=>rfl) ?_;unfold qy;rw[hb];cases b with
  | true=>simp only[af];exact ou h1
  | false=>
    simp only[af];refine Sq.is h1 λH2 nx2 h2=> ?_;cases eM L k [40]with
    | true=>simp only[af];exact ou h2
    | false=>
      simp only[af];refine Sq.is h2 λH3 nx3 h3=> ?_;cases eM L k [95]with
      | true=>simp only[af];exact ou h3
      | false=>
        simp only[af];refine Sq.is h3 λH4 nx4 h4=> ?_;simp only[af];exact ou h4
 have e:uo L k=(decide ((tk L k).k=1)||(decide ((tk L k).k=2)||(decide ((tk L k).k=3)||decide ((tk L k).k=4)))):=rfl
 revert e J
 simp only[af];generalize decide ((tk L k).k=1)=c1;generalize decide ((tk L k).k=2)=c2;generalize decide ((tk L k).k=3)=c3;generalize decide ((tk L k).k=4)=c4;intro J e;cases c1 with
 | true=>exact J true e
 | false=>
   cases c2 with
   | true=>exact J true e
   | false=>
     cases c3 with
     | true=>exact J true e
     | false=>exact J c4 e
theorem Sq.ab6 {kt p:Value->T OB->Nat->Q}(h:Hp nx0 H0 (fu bp L k::F) H nx)(hk:∀H' nx',Hp nx0 H0 (fu bp L k::F) H' nx'->bA P pl X0 (kt (.bool (qy L k)) H' nx') nx0 H0 R):bA P pl X0 (dm (.call 176 [ptr bp] false none H nx) kt p) nx0 H0 R:=Sq.pc rfl (Z4 h) hk
theorem Dl {L:List Tok}{k:Nat}(h:kC L k=true):k<L.length:=by
 unfold kC at h;rw[bl]at h
 rcases h with h | h
 . exact kI (by have:(tk L k).k=3:=by simpa using h
                omega)
 . exact pe h
theorem Z5 (hL:L.length<=100000)(h:Hp nx0 H0 (fu bp L k::F) H nx):bA P pl X0 (aX P pl (.call 187 [ptr bp] false none H nx)) nx0 H0 (λo H nx=>o= .ret (if kC L k=true then .tuple ⟨[aK (tk L k).s,.bool true]⟩else .tuple ⟨[aK [],.bool false]⟩)/\Hp nx0 H0 (fu bp L (if kC L k=true then k+1 else k)::F) H nx):=by
 rw[aeI];refine Sq.now h λH1 aI h1=> ?_;refine Sq.T1 h1 λH2 nx2 h2=> ?_;have J:∀b H3 nx3,kC L k=b->Hp nx0 H0 (fu bp L k::F) H3 nx3->bA P pl X0 (.jump (C0 (ptr bp) (ah (tk L k).v) b H3 nx3)) nx0 H0 (λo H nx=>o= .ret (if kC L k=true then .tuple ⟨[aK (tk L k).s,.bool true]⟩else .tuple ⟨[aK [],.bool false]⟩)/\Hp nx0 H0 (fu bp L (if kC L k=true then k+1 else k)::F) H nx):=by
  intro b H3 nx3 hb h3;refine Wq.jmp (Y0 ..) (λ_=>rfl) ?_;cases b with
  | true=>
    simp only[af,pk h3,jC hL (Dl hb)];refine gV h3 λH4 h4=> ?_;rw[hb,if_pos rfl,if_pos rfl];exact ou h4
  | false=>
    simp only[af];rw[hb,if_neg (by simp),if_neg (by simp)];exact ou h3
 simp only[af];refine Wq.ite (λq=>J true H2 nx2 (by unfold kC;simp[q]) h2) (λq=> ?_);refine Sq.is h2 λH3 nx3 h3=> ?_;simp only[af];exact J _ H3 nx3 (by unfold kC;simp[q]) h3
theorem Sq.tyn {kt p:Value->T OB->Nat->Q}(hL:L.length<=100000)(h:Hp nx0 H0 (fu bp L k::F) H nx)(ht:kC L k=true->∀H' nx',Hp nx0 H0 (fu bp L (k+1)::F) H' nx'->bA P pl X0 (kt (.tuple ⟨[aK (tk L k).s,.bool true]⟩) H' nx') nx0 H0 R)
 (hf:kC L k=false->∀H' nx',Hp nx0 H0 (fu bp L k::F) H' nx'->bA P pl X0 (kt (.tuple ⟨[aK [],.bool false]⟩) H' nx') nx0 H0 R):bA P pl X0 (dm (.call 187 [ptr bp] false none H nx) kt p) nx0 H0 R:=
 Sq.pc rfl (Z5 hL h) λH' nx' h'=>by
  cases hi:kC L k with
  | true=>rw[hi,if_pos rfl]at h';rw[if_pos rfl];exact ht hi H' nx' h'
  | false=>rw[hi,if_neg (by simp)]at h';rw[if_neg (by simp)];exact hf hi H' nx' h'
theorem Z6 (w:List UInt8):P0 154 [aK w] (.bool (decide (w=[58,61])||decide (w=[58,58]))):=Pure.of rfl λH nx=>by
 rw[aej];simp only[af,dtx];cases decide (w=[58,61])with
 | true=>simp only[af];exact Wq.ret (.refl _ _)
 | false=>simp only[af];exact Wq.ret (.refl _ _)
end
end
end Go.Proofs.YthjhonhhbddhkaaGreatDoor
