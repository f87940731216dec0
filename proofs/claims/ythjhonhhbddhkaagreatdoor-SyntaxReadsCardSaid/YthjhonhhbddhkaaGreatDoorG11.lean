/- Texts of this claim, side by side. -/
import Derived.Test.YthjhonhhbddhkaaGreatDoorG10
namespace Go.Proofs.YthjhonhhbddhkaaGreatDoor
open Go.Ev Go.RowKit
noncomputable section
set_option maxRecDepth 100000
set_option linter.unusedVariables false
set_option linter.unusedSimpArgs false
set_option maxHeartbeats 8000000
section
variable {nx0 nx nx':Nat}{H0 H H':T OB}{F G:List Bx}{b:Nat}{s:List UInt8}
def nQ (s:List UInt8):Nat->List Tok->Nat->List Tok×Nat×Int
 | 0,_,i=>([],i,70)
 | m+1,out,i=>if(e8 (s.drop i)).2=false then([],i+(e8 (s.drop i)).1,70)
   else if s.length<=i+(e8 (s.drop i)).1 then(out++[⟨0,[],0,(s.length:Int)⟩],0,0)
   else match tj (s.drop (i+(e8 (s.drop i)).1))with
    | none=>([],i+(e8 (s.drop i)).1,70)
    | some q=>if 1000<=out.length then([],i+(e8 (s.drop i)).1,3)
      else nQ s m (out++[⟨q.1.k,q.1.s,q.1.n,((i+(e8 (s.drop i)).1:Nat):Int)⟩]) (i+(e8 (s.drop i)).1+q.2)
def scan (s:List UInt8):List Tok×Nat×Int:=if 4096<s.length then([],0,3)else nQ s (s.length+1) [] 0
abbrev px (q:List Tok×Nat×Int):Value:= .tuple ⟨[fK q.1,i64 (q.2.1:Int),i64 q.2.2]⟩
theorem Ab {r:List UInt8}{q:Tok×Nat}(h:tj r=some q):0<q.2/\q.2<=r.length:=by
 cases r with
 | nil=>cases h
 | cons c u=>
   rw[lM]at h
   by_cases hd:bH c=true
   . rw[if_pos hd]at h;have e:(c::u).takeWhile bH=c::u.takeWhile bH:=by rw[List.takeWhile_cons,hd];rfl
     rw[e]at h;unfold Gl at h;have hle:=tl (p:=bH) u;cases hN:gf 0 (c::u.takeWhile bH)with
     | none=>rw[hN]at h;cases h
     | some v=>rw[hN]at h;cases h;simp;omega
   rw[if_neg hd]at h;unfold Gk at h
   by_cases h34:c.toNat=34
   . rw[if_pos h34]at h;obtain⟨q1,hq,rfl⟩:=Option.map_eq_some_iff.1 h;have:=Fl hq;simp;omega
   rw[if_neg h34]at h
   by_cases hl:(cb c||bS c)=true
   . rw[if_pos hl]at h;have hle:=tl (p:=gN) u;cases h;simp;omega
   rw[if_neg hl]at h
   by_cases h39:c.toNat=39/\jv u=true
   . rw[if_pos h39]at h;cases u with
     | nil=>cases h39.2
     | cons d w=>
       have hle:=tl (p:=tQ) w;cases h;simp only[List.drop_succ_cons,List.drop_zero,List.length_cons];omega
   rw[if_neg h39]at h;obtain⟨x,hx,rfl⟩:=Option.map_eq_some_iff.1 h;have hp:=(List.isPrefixOf_iff_prefix.1 (by simpa using List.find?_some hx:x.isPrefixOf (c::u)=true)).length_le;have hm:=Fm _ (List.mem_of_find?_eq_some hx);refine⟨?_,hp⟩;cases x with
   | nil=>exact absurd rfl hm.2
   | cons a x=>simp
theorem Vq:dR P 4 31=[]:=by kernel_rfl
theorem Fo (t:Tok):pa true 4 [t.v]:=λv hv=>by
 rw[List.mem_singleton]at hv;subst hv;exact⟨rfl,rfl,⟨_,rfl⟩⟩
theorem oN {x:Bx}{out:List Tok}{sl:Value}{kt:Value->T OB->Nat->Q}{R:Go.Ev.Out->T OB->Nat->Prop}(hG:Gw true 4 31 (out.map Tok.v) sl G)(h:Hp nx0 H0 (x::(G++F)) H nx)(hk:∀H' nx',Hp nx0 H0 (x::F) H' nx'->aO P pl X0 (kt (fK out) H' nx') nx0 H0 R):aO P pl X0 (aX P 29 sl H nx kt) nx0 H0 R:=by
 have e:aX P 29 sl H nx kt=jG P 100000 29 sl H nx kt:=by
  unfold aX;rcases hG.2 with⟨_,rfl,_⟩ | ⟨b,c,rfl,_⟩<;>rfl
 rw[e];exact(db.gw (t:=29) (n:=0) kK dy si rfl Vq hG (iN.id λv hv=>by
  obtain⟨t,_,rfl⟩:=List.mem_map.1 hv;exact gB.of eW.nil) (λu hu=>by obtain⟨x,_,rfl⟩:=List.mem_map.1 hu;rfl) id) 100000 (by omega) nx0 nx H0 H x F kt R h hk
theorem fL (H:T OB)(nx:Nat)(k:Value->T OB->Nat->Q):aX P 29 aC H nx k=k (fK []) H nx:=by kernel_rfl
theorem Fp (n:Int):az P 31 (some [(0,i64 0),(3,i64 n)])=some (Tok.v ⟨0,[],0,n⟩):=bt cB (by kernel_rfl)
theorem Hq.Fq (A:List Bx){B:List Bx}{x:Bx}{c:Nat}{l:List Tok}{t:Tok}{sl:Value}{kt:Value->T OB->Nat->Q}{R:Go.Ev.Out->T OB->Nat->Prop}(hl:l.length<=1000000)(hG:Gw true 4 31 (l.map Tok.v) sl G)(h:Hp nx0 H0 (x::(c,t.c,31)::(A++(G++B))) H nx)
 (hk:∀sl' G' H' nx',Gw true 4 31 ((l++[t]).map Tok.v) sl' G'->Hp nx0 H0 (x::(A++(G'++B))) H' nx'->aO P pl X0 (kt sl' H' nx') nx0 H0 R):aO P pl X0 (ao (ba P H nx [29,29] (some [sl,.slice (some ⟨c,0,none⟩) 1 1])) kt) nx0 H0 R:=
 Hq.add A kK dy (OJ (by rw[List.length_map];omega)) (by rw[List.length_map];omega) (Fo t) hG h λsl' G' H' nx' hG' h'=>hk sl' G' H' nx' (by rw[List.map_append];exact hG') h'
theorem Gw.Vr {l:List Tok}{sl:Value}(hG:Gw true 4 31 (l.map Tok.v) sl G):aN P #[29] 3 (some [sl])=some (i64 (l.length:Int)):=by
 rcases hG.2 with⟨h0,rfl,_⟩ | ⟨b,c,rfl,_⟩
 . rw[List.map_eq_nil_iff.1 h0];kernel_rfl
 . rw[List.length_map];exact dW (by kernel_rfl)
theorem XQ (hl:s.length<=4096):∀(m i:Nat) (out:List Tok) (sl:Value) (G:List Bx) (H:T OB) (nx:Nat),s.length-i<m->i<=s.length->out.length<=1000->Gw true 4 31 (out.map Tok.v) sl G->Hp nx0 H0 (yg b s i::([]++(G++[]))) H nx->
 Wq P pl X0 (.jump (vL (aD s) (ptr b) sl H nx)) nx0 H0 (px (nQ s m out i)):=by
 have hbig:cX=1125899906842624:=rfl;intro m
 induction m with
 | zero=>intro i out sl G H nx hm;omega
 | succ m ih=>
   intro i out sl G H nx hm hi ho hG h;refine Wq.jmp (P1 ..) (λ_=>rfl) ?_;refine Sq.dO rfl (Vn (by omega) hi h) λH1 aE h1=> ?_;have hle:=x_ (s.drop i);rw[List.length_drop]at hle;unfold nQ;generalize hp:e8 (s.drop i)=p at h1 hle ⊢;obtain⟨n,ok⟩:=p;simp only at h1 hle ⊢;cases ok with
   | false=>
     rw[if_pos rfl];simp only[af,gD h1];rw[fL];exact Wq.ret h1.ag
   | true=>
     rw[if_neg (by decide)];simp only[af,gD h1,aK _ aV,aP];refine Wq.ite (λhge=> ?_) (λhge=> ?_)
     . rw[if_pos (by omega)];simp only[af,Fp];refine Hq.row kK dy cB rfl (zK _ _ _ _) h1 λc H2 nx2 h2=> ?_;refine Hq.Fq [] (t:=⟨0,[],0,(s.length:Int)⟩) (by omega) hG h2 λsl' G' H3 nx3 hG' h3=> ?_;refine oN hG' h3 λH4 nx4 h4=> ?_;exact Wq.ret h4.ag
     . have hlt:i+n<s.length:=by omega
       rw[if_neg (by omega)];refine Wq.gM rfl (Vp (by omega) hlt h1) (λv H2 nx2 hA2 hR=> ?_) (λv H2 nx2 hA2 hR=>by obtain⟨t,k,q,_⟩:=hR;cases q);obtain⟨t,k,q,hT,h2⟩:=hR;cases q;refine Hq.var (x:=t.v) cB dy rfl rfl rfl h2 λH3 nx3 h3=> ?_;unfold XP at hT;cases hx:tj (s.drop (i+n))with
       | none=>
         rw[hx]at hT;subst hT;simp only[af,gD h3];rw[fL];exact Wq.ret h3.ag
       | some q=>
         rw[hx]at hT;obtain⟨rfl,rfl⟩:=hT;have hpos:=Ab hx;rw[List.length_drop]at hpos;simp only[af,show decide ((q.2:Int)=0)=false by simp;omega,hG.Vr];refine Wq.ite (λh1000=> ?_) (λh1000=> ?_)
         . rw[if_pos (by omega)];simp only[af,gD h3];rw[fL];exact Wq.ret h3.ag
         . rw[if_neg (by omega)];refine Hq.row kK dy cB rfl (zK _ _ _ _) h3 λc H4 nx4 h4=> ?_;refine Hq.Fq [] (t:=⟨q.1.k,q.1.s,q.1.n,((i+n:Nat):Int)⟩) (by omega) hG h4 λsl' G' H5 nx5 hG' h5=> ?_;have ew:IntKind.i64.wrap (((i+n:Nat):Int)+(q.2:Int))=((i+n+q.2:Nat):Int):=by rw[bk (by omega)];omega
           simp only[af,gD h5,ew];refine Hq.put [] h5 jk rfl rfl (by simp) rfl λH6 h6=> ?_;exact ih (i+n+q.2) _ sl' G' H6 nx5 (by omega) (by omega) (by rw[List.length_append,List.length_singleton];omega) hG' h6
theorem Vs (s:List UInt8)(hl:s.length<cX):PT 28 [aD s] (px (scan s)):=PT.of rfl λH nx hT=>by
 rw[Yl];unfold scan;simp only[af,aK _ aV,aP];refine Wq.ite (λh=> ?_) (λh=> ?_)
 . rw[if_pos (by omega),fL];exact Wq.ret (.refl _ _)
 . rw[if_neg (by omega)];have e:az P 95 (some [(0,aD s)])=some (.agg ⟨[aD s,i64 0]⟩):=bt (show bX P 95=some [aD [],i64 0]by kernel_rfl) (by kernel_rfl);simp only[af,e];refine Wq.box (.refl _ _) λH1 hb dx hA=> ?_;have h0:Hp nx H [] H nx:=⟨hT,Ag.refl nx H,by simp,λx hx=>by simp at hx⟩;exact XQ (by omega) (s.length+1) 0 [] aC [] H1 (nx+1) (by omega) (Nat.zero_le _) (by simp) (Gw.nil _ _ _) (h0.new hb dx hA)
end
section
variable {nx0:Nat}{H0:T OB}
theorem nR {H:T OB}{l:List UInt8}{hi:Nat}(h1:hi<=l.length):bA P H 9 (some (aD l)) (some none) (some (some (i64 (hi:Int)))) (some none)=some (aD (l.take hi)):=by
 show nU P 9 (aD l) (some none) (some (some (i64 (hi:Int)))) (some none)=_;show fV P (Instr.sliceAt 9 (aD l) none (some (i64 (hi:Int))) none)=_;have e0:(⟨⟨l⟩⟩:ByteArray).extract 0 hi=⟨⟨l.take hi⟩⟩:=by
  apply ByteArray.ext;rw[ByteArray.data_extract];apply Array.ext';simp
 have e1:b_ P (Instr.sliceAt 9 (aD l) none (some (i64 (hi:Int))) none)=some (aD (l.take hi)):=by
  unfold Instr.sliceAt;simp only[bx,cI aV,Option.bind_some];unfold Instr.slice;simp only[bx,cI aV,Option.bind_some];unfold Instr.sliceBounds Instr.sliceBound;simp only[bx,asIntOf,Option.isSome];have pp:∀{α:Type} (a:α),b_ P (pure a:Sem α)=some a:=λ_=>rfl;rw[if_neg (by decide)];simp only[bx,pp,Option.bind_some];have c1:(0:Int)<=(hi:Int)/\(hi:Int)<=((⟨⟨l⟩⟩:ByteArray).size:Int):=⟨by omega,by rw[aP];omega⟩;rw[if_pos c1];simp only[pp,Option.bind_some,Int.toNat_natCast,e0]
 exact oD e1 rfl
theorem SZ (s:List UInt8)(hl:s.length<cX):∀(r:List UInt8) (i:Nat) (H:T OB) (nx:Nat),s.drop i=r->i<=s.length->Ag nx0 H0 nx H->
 Wq P pl X0 (.jump (DS (aD s) (i64 (i:Int)) H nx)) nx0 H0 (i64 ((i+(r.takeWhile bH).length:Nat):Int)):=by
 intro r
 induction r with
 | nil=>
   intro i H nx hd hi hA;have hil:=drop_nil hd hi;refine Wq.jmp (Of ..) (λ_=>rfl) ?_;simp only[af,aK _ aV,aP,hil,aR];exact Wq.ret hA
 | cons c r ih=>
   intro i H nx hd hi hA;obtain⟨hg,hlt,hd'⟩:=drop_cons hd;refine Wq.jmp (Of ..) (λ_=>rfl) ?_;simp only[af,aK _ aV,aP,aU hlt,a9 aV hg .i64];refine Wq.call (xj c) hA λH1 aE hA1=> ?_;rw[List.takeWhile_cons];cases bH c with
   | false=>
     simp only[af];exact Wq.ret hA1
   | true=>
     simp only[af,aG (show i<9223372036854775807 by have:=cU hl;omega)];rw[if_pos trivial,List.length_cons,show i+((r.takeWhile bH).length+1)=i+1+(r.takeWhile bH).length by omega];exact ih (i+1) H1 aE hd' (by omega) hA1
theorem Vt (s:List UInt8)(hl:s.length<cX):P0 92 [aD s] (i64 ((s.takeWhile bH).length:Int)):=Pure.of rfl λH nx=>by
 rw[YX];have:=SZ (nx0:=nx) (H0:=H) s hl s 0 H nx rfl (Nat.zero_le _) (.refl _ _);rwa[Nat.zero_add]at this
def NB:Option (Tok×Nat)->Value
 | some q=> .tuple ⟨[q.1.v,i64 (q.2:Int)]⟩
 | none=> .tuple ⟨[Tok.v ⟨0,[],0,0⟩,i64 0]⟩
theorem Fs (t:Tok)(n:Int){b:Nat}{nx:Nat}{H:T OB}{l:List Value}(hl:l.length=4)(hb:cR H b l 31)(hbn:nx0<=b)(hA:Ag nx0 H0 nx H):
 Wq P pl X0 (ao (ah P H nx 31 (some (ptr b)) (some t.v)) λ_ H nx'=>aa (ae P H 31 (some (ptr b))) (λx=> .ret ⟨.ret (.tuple ⟨[x,i64 n]⟩),false,H,nx'⟩) .bad) nx0 H0 (.tuple ⟨[t.v,i64 n]⟩):=by
 obtain⟨a0,a1,a2,a3,rfl⟩:∃a0 a1 a2 a3,l=[a0,a1,a2,a3]:=by
  match l with
  | [a0,a1,a2,a3]=>exact⟨a0,a1,a2,a3,rfl⟩
 refine Wq.store hb dy (by simp) rfl rfl hA hbn λH3 hb3 _ hA3=> ?_;have hb3':cR H3 b t.c 31:=hb3;rw[bY hb3' si dy (by simp)];exact Wq.ret hA3
theorem NC (s:List UInt8)(hl:s.length<=1000000){b:Nat}(hbn:nx0<=b){l:List Value}(hl4:l.length=4):∀(n:Nat) (H:T OB) (nx:Nat),n<=s.length->b<nx->cR H b l 31->Ag nx0 H0 nx H->
 Wq P pl X0 (.jump (vU (aD s) (ptr b) (i64 (n:Int)) H nx)) nx0 H0 (NB (pw s n)):=by
 intro n
 induction n with
 | zero=>
   intro H nx hn hbx hb hA;refine Wq.jmp (HW ..) (λ_=>rfl) ?_;simp only[af];exact Fs ⟨0,[],0,0⟩ 0 hl4 hb hbn hA
 | succ n ih=>
   intro H nx hn hbx hb hA;refine Wq.jmp (HW ..) (λ_=>rfl) ?_;simp only[af,show decide (0<(((n+1:Nat)):Int))=true by simp,nR hn];refine Wq.eQ (Kd (s.take (n+1)) (by rw[List.length_take];omega)) hA λH1 aE hA1 n1 k1=> ?_;have hb1:=k1 _ _ _ hbx hb;rw[pw];generalize bT (s.take (n+1))=p;obtain⟨t,ok⟩:=p;have x0:av (some (z6 (t,ok))) 0=some t.v:=rfl;have x1:av (some (z6 (t,ok))) 1=some (.bool ok):=rfl;simp only[af,x0,x1];refine Wq.PM (x:=t.v) cB dy rfl rfl rfl hA1 λH2 nx2 hA2 n2 k2=> ?_;have hb2:=k2 _ _ _ (by omega) hb1;cases ok with
   | true=>
     rw[if_pos rfl];simp only[af];exact Fs t _ hl4 hb2 hbn hA2
   | false=>
     rw[if_neg (by decide)];simp only[af,show IntKind.i64.wrap (((n+1:Nat):Int)-1)=(n:Int)from by rw[bk (by omega)];omega];exact ih H2 nx2 (by omega) (by omega) hb2 hA2
theorem Vu (s:List UInt8)(hl:s.length<=1000000):P0 47 [aD s] (NB (Nw s)):=Pure.of rfl λH nx=>by
 have hbig:cX=1125899906842624:=rfl;rw[Yy];refine Wq.alloc cB (.refl _ _) λH1 hb1 _ hA1=> ?_;refine Wq.eQ (Vt s (by omega)) hA1 λH2 nx2 hA2 n2 k2=> ?_;replace hb1:=k2 _ _ _ (Nat.lt_succ_self nx) hb1;have hle:=tl (p:=bH) s;unfold Nw;simp only[af];refine Wq.ite (λh0=> ?_) (λh0=> ?_)
 . rw[if_pos (by omega)];simp only[af,nR hle];refine Wq.eQ (Kd (s.take (s.takeWhile bH).length) (by rw[List.length_take];omega)) hA2 λH3 nx3 hA3 n3 k3=> ?_;have hb3:=k3 _ _ _ (by omega) hb1;generalize bT (s.take (s.takeWhile bH).length)=p;obtain⟨t,ok⟩:=p;have x0:av (some (z6 (t,ok))) 0=some t.v:=rfl;have x1:av (some (z6 (t,ok))) 1=some (.bool ok):=rfl;simp only[af,x0,x1];refine Wq.PM (x:=t.v) cB dy rfl rfl rfl hA3 λH4 nx4 hA4 n4 k4=> ?_;have hb4:=k4 _ _ _ (by omega) hb3;cases ok with
   | true=>
     rw[if_pos rfl];simp only[af];exact Fs t _ rfl hb4 (Nat.le_refl _) hA4
   | false=>
     rw[if_neg (by decide)];simp only[af];exact Fs ⟨0,[],0,0⟩ 0 rfl hb4 (Nat.le_refl _) hA4
 . rw[if_neg (by omega)];simp only[af,aK _ aV,aP];exact NC s hl (Nat.le_refl _) rfl s.length H2 nx2 (Nat.le_refl _) (by omega) hb1 hA2
def gh (s:List UInt8)(i:Nat):Nat:=match gg 1 (s.drop i)with
 | none=>0
 | some n=>i+n
theorem ye (s:List UInt8)(hl:s.length<cX){i:Nat}{c:UInt8}{r:List UInt8}(h:s.drop i=c::r)(x y:UInt8){k:Bool->Q}{H:T OB}{R:Go.Ev.Out->T OB->Nat->Prop}
 (hk:aO P pl X0 (k (decide (c=x/\r.head? = some y))) nx0 H0 R):
 aO P pl X0 (bK (decide (((i+1:Nat):Int)<(s.length:Int))) (bK (decide ((c.toNat:Int)=(x.toNat:Int))) (aa (aL P 9 (some (aD s)) (some (i64 ((i+1:Nat):Int)))) (λx11=>aa (ai P H .eql 5 true (some x11) (some (.int .u8 (y.toNat:Int)))) (λx12=>aB x12 (λb13=>k b13) .bad) .bad) .bad) (k false)) (k false)) nx0 H0 R:=by
 obtain⟨hg,hlt,hd'⟩:=drop_cons h;have hrl:r.length=s.length-(i+1):=by rw[<- hd',List.length_drop]
 cases r with
 | nil=>
   simp at hrl;rw[show decide (((i+1:Nat):Int)<(s.length:Int))=false by simp;omega];simpa using hk
 | cons e t=>
   simp at hrl;rw[show decide (((i+1:Nat):Int)<(s.length:Int))=true by simp;omega];have hg2:=(drop_cons hd').1
   by_cases hc:c=x
   . subst hc;rw[show decide ((c.toNat:Int)=(c.toNat:Int))=true by simp];simp only[af,a9 aV hg2 .i64];have e1:decide ((e.toNat:Int)=(y.toNat:Int))=decide (c=c/\(e::t).head? = some y):=by
      rw[decide_eq_decide];simp only[true_and,List.head?_cons,Option.some.injEq,<- UInt8.toNat_inj];omega
     rw[e1];exact hk
   . rw[show decide ((c.toNat:Int)=(x.toNat:Int))=false by rw[decide_eq_false_iff_not];intro q;exact hc (UInt8.toNat_inj.1 (by omega))];rw[decide_eq_false (λq=>hc q.1)]at hk;exact hk
theorem Vv:∀(m:Nat) (s:List UInt8),s.length<=m->s.length<cX->P0 91 [aD s] (i64 ((gh s 2:Nat):Int)):=by
 have hbig:cX=1125899906842624:=rfl;intro m
 induction m with
 | zero=>
   intro s hm hl;obtain rfl:s=[]:=List.length_eq_zero_iff.1 (by omega);refine Pure.of rfl λH nx=> ?_;rw[X1];refine Wq.jmp (Iq ..) (λ_=>rfl) ?_;simp only[af,aK _ aV,aP,List.length_nil];exact Wq.ret (.refl _ _)
 | succ m ihm=>
   intro s hm hl;refine Pure.of rfl λH nx=> ?_;rw[X1];have main:∀(d i:Nat) (H1:T OB) (aE:Nat),s.length-i<=d->2<=i->Ag nx H aE H1->Wq P pl X0 (.jump (zx (aD s) (i64 (i:Int)) H1 aE)) nx H (i64 ((gh s i:Nat):Int)):=by
    intro d
    induction d with
    | zero=>
      intro i H1 aE hd hi hA;refine Wq.jmp (Iq ..) (λ_=>rfl) ?_;simp only[af,aK _ aV,aP,show decide ((i:Int)<(s.length:Int))=false by simp;omega];have:gh s i=0:=by unfold gh;rw[List.drop_eq_nil_of_le (by omega)];simp[gg]
      rw[this];exact Wq.ret hA
    | succ d ih=>
      intro i H1 aE hd hi hA
      by_cases hlt:i<s.length
      case neg=>exact ih i H1 aE (by omega) hi hA
      obtain⟨c,r,hdr⟩:∃c r,s.drop i=c::r:=by
       cases hq:s.drop i with
       | nil=>have:=drop_nil hq (by omega);omega
       | cons c r=>exact⟨c,r,rfl⟩
      obtain⟨hg,_,hd'⟩:=drop_cons hdr;have hw1:=aG (show i<9223372036854775807 by omega);have L12:∀x:Bool,x=decide (c=42/\r.head? = some 41)->Wq P pl X0 (.jump (oz (aD s) (i64 (i:Int)) x H1 aE)) nx H (i64 ((gh s i:Nat):Int)):=by
       intro x hx;refine Wq.jmp (Qn ..) (λ_=>rfl) ?_;cases x with
       | true=>
         have e:=of_decide_eq_true hx.symm;obtain⟨t,ht⟩:=nN e.2;have e2:IntKind.i64.wrap ((i:Int)+2)=((i+2:Nat):Int):=by rw[bk (by omega)];omega
         simp only[af,e2];have:gh s i=i+2:=by unfold gh;rw[hdr,e.1,ht,uU];rfl
         rw[this];exact Wq.ret hA
       | false=>
         have e:¬(c=42/\r.head? = some 41):=of_decide_eq_false hx.symm;have L16:∀y:Bool,y=decide (c=40/\r.head? = some 42)->Wq P pl X0 (.jump (oA (aD s) (i64 (i:Int)) y H1 aE)) nx H (i64 ((gh s i:Nat):Int)):=by
          intro y hy;refine Wq.jmp (Qo ..) (λ_=>rfl) ?_;cases y with
          | true=>
            have a:=of_decide_eq_true hy.symm;obtain⟨t,ht⟩:=nN a.2;rw[a.1,ht]at hdr;have ht2:s.drop (i+2)=t:=by rw[<- List.drop_drop,hdr];rfl
            simp only[af,dL (show i<=s.length by omega)];refine Wq.call (ihm (s.drop i) (by rw[List.length_drop];omega) (by rw[List.length_drop];omega)) hA λH2 nx2 hA2=> ?_;have hs1:gh (s.drop i) 2=match gg 1 t with | none=>0 | some n=>2+n:=by
             unfold gh;rw[List.drop_drop,ht2]
            have hc:=ld t 0;have hs2:gh s i=match(gg 2 t).map (· + 2)with | none=>0 | some n=>i+n:=by
             unfold gh;rw[hdr,Aa]
            rw[hs1,hs2,show 2=0+2 from rfl,hc];cases hcm:gg 1 t with
            | none=>
              simp only[af];exact Wq.ret hA2
            | some n=>
              have hn:=oL 1 t n hcm;have hlen:t.length=s.length-(i+2):=by rw[<- ht2,List.length_drop]
              have e3:gh s (i+2+n)=match((gg (0+1) (t.drop n)).map (n+ ·)).map (· + 2)with | none=>0 | some n=>i+n:=by
               unfold gh;rw[<- List.drop_drop,ht2,show(0+1:Nat)=1 from rfl];cases gg 1 (t.drop n)with
               | none=>rfl
               | some m=>show i+2+n+m=i+(n+m+2);omega
              simp only[Option.bind_some];rw[<- e3];have ew:IntKind.i64.wrap ((i:Int)+((0+2+n:Nat):Int))=((i+2+n:Nat):Int):=by rw[bk (by omega)];omega
              simp only[af,show decide (((0+2+n:Nat):Int)=0)=false by simp;omega,ew];exact ih (i+2+n) H2 nx2 (by omega) (by omega) hA2
          | false=>
            have a:=of_decide_eq_false hy.symm;simp only[af,hw1];have e4:gh s i=gh s (i+1):=by
             unfold gh;rw[hdr,hd',uV a e];cases gg 1 r with
             | none=>rfl
             | some n=>simp only[Option.map_some];omega
            rw[e4];exact ih (i+1) H1 aE (by omega) (by omega) hA
         simp only[af,hw1,aK _ aV,aP,a9 aV hg .i64];exact ye s hl hdr 40 42 (k:=λx=> .jump (oA (aD s) (i64 (i:Int)) x H1 aE)) (L16 _ rfl)
      refine Wq.jmp (Iq ..) (λ_=>rfl) ?_;simp only[af,hw1,aK _ aV,aP,aU hlt,a9 aV hg .i64];exact ye s hl hdr 42 41 (k:=λx=> .jump (oz (aD s) (i64 (i:Int)) x H1 aE)) (L12 _ rfl)
   exact main s.length 2 H nx (Nat.sub_le _ _) (Nat.le_refl _) (.refl _ _)
end
section
variable {nx0 nx nx':Nat}{H0 H H':T OB}{F G:List Bx}{b:Nat}{s:List UInt8}
abbrev Gq (q:Nat×Bool):Value:= .tuple ⟨[i64 (q.1:Int),.bool q.2]⟩
theorem S0 (hl:s.length<cX):∀(d i:Nat) (H1:T OB) (aE:Nat),s.length-i<=d->i<=s.length->Ag nx0 H0 aE H1->
 Wq P pl X0 (.jump (zw (aD s) (i64 (i:Int)) H1 aE)) nx0 H0 (Gq (i+(e8 (s.drop i)).1,(e8 (s.drop i)).2)):=by
 have hbig:cX=1125899906842624:=rfl;intro d
 induction d with
 | zero=>
   intro i H1 aE hd hi hA;refine Wq.jmp (Ob ..) (λ_=>rfl) ?_;simp only[af,aK _ aV,aP,show decide ((i:Int)<(s.length:Int))=false by simp;omega];rw[List.drop_eq_nil_of_le (show s.length<=i by omega),show e8 []=(0,true)by simp[e8]];exact Wq.ret hA
 | succ d ih=>
   intro i H1 aE hd hi hA
   by_cases hlt:i<s.length
   case neg=>exact ih i H1 aE (by omega) hi hA
   obtain⟨c,r,hdr⟩:∃c r,s.drop i=c::r:=by
    cases hq:s.drop i with
    | nil=>have:=drop_nil hq hi;omega
    | cons c r=>exact⟨c,r,rfl⟩
   obtain⟨hg,_,hd'⟩:=drop_cons hdr;have hw1:=aG (show i<9223372036854775807 by omega);have hu:∀n:Nat,n<256->(decide ((c.toNat:Int)=(n:Int))=decide (c=UInt8.ofNat n)):=λn hn=>by
    rw[decide_eq_decide,<- UInt8.toNat_inj,UInt8.toNat_ofNat',Nat.mod_eq_of_lt hn];omega
   have L12:∀x:Bool,x=ws c->Wq P pl X0 (.jump (ox (aD s) (i64 (i:Int)) x H1 aE)) nx0 H0 (Gq (i+(e8 (s.drop i)).1,(e8 (s.drop i)).2)):=by
    intro x hx;refine Wq.jmp (P5 ..) (λ_=>rfl) ?_;cases x with
    | true=>
      simp only[af,hw1];rw[hdr,Kk hx.symm,<- hd'];have:=ih (i+1) H1 aE (by omega) hlt hA;rw[show i+1+(e8 (s.drop (i+1))).1=i+((e8 (s.drop (i+1))).1+1)by omega]at this;exact this
    | false=>
      have hw:¬ws c=true:=by rw[<- hx];decide
      have L16:∀y:Bool,y=decide (c=40/\r.head? = some 42)->Wq P pl X0 (.jump (oy (aD s) (i64 (i:Int)) y H1 aE)) nx0 H0 (Gq (i+(e8 (s.drop i)).1,(e8 (s.drop i)).2)):=by
       intro y hy;refine Wq.jmp (P6 ..) (λ_=>rfl) ?_;cases y with
       | true=>
         have a:=of_decide_eq_true hy.symm;obtain⟨t,ht⟩:=nN a.2;rw[a.1,ht]at hdr;have ht2:s.drop (i+2)=t:=by rw[<- List.drop_drop,hdr];rfl
         simp only[af,dL (show i<=s.length by omega)];refine Wq.call (Vv _ (s.drop i) (Nat.le_refl _) (by rw[List.length_drop];omega)) hA λH2 nx2 hA2=> ?_;have hs1:gh (s.drop i) 2=match gg 1 t with | none=>0 | some n=>2+n:=by
          unfold gh;rw[List.drop_drop,ht2]<;>
           (cases gg 1 t<;>rfl)
         rw[hs1,hdr,z9];cases hcm:gg 1 t with
         | none=>
           simp only[af];exact Wq.ret hA2
         | some n=>
           have hn:=oL 1 t n hcm;have hlen:t.length=s.length-(i+2):=by rw[<- ht2,List.length_drop]
           have ew:IntKind.i64.wrap ((i:Int)+((2+n:Nat):Int))=((i+2+n:Nat):Int):=by rw[bk (by omega)];omega
           simp only[af,show decide (((2+n:Nat):Int)=0)=false by simp;omega,ew];have:=ih (i+2+n) H2 nx2 (by omega) (by omega) hA2;rw[<- List.drop_drop,ht2,show i+2+n+(e8 (t.drop n)).1=i+((e8 (t.drop n)).1+(n+2))by omega]at this;exact this
       | false=>
         have a:=of_decide_eq_false hy.symm;rw[hdr,z_ hw a];simp only[af];exact Wq.ret hA
      simp only[af,hw1,aK _ aV,aP,a9 aV hg .i64];exact ye s hl hdr 40 42 (k:=λx=> .jump (oy (aD s) (i64 (i:Int)) x H1 aE)) (L16 _ rfl)
   refine Wq.jmp (Ob ..) (λ_=>rfl) ?_;simp only[af,aK _ aV,aP,aU hlt,a9 aV hg .i64];have hws:ws c=(decide (c=9)||(decide (c=10)||(decide (c=13)||decide (c=32)))):=by
    unfold ws;rw[Bool.or_assoc,Bool.or_assoc];rfl
   have h9:decide ((c.toNat:Int)=9)=decide (c=9):=hu 9 (by decide);have h10:decide ((c.toNat:Int)=10)=decide (c=10):=hu 10 (by decide);have h13:decide ((c.toNat:Int)=13)=decide (c=13):=hu 13 (by decide);have h32:decide ((c.toNat:Int)=32)=decide (c=32):=hu 32 (by decide);rw[h9,h10,h13,h32];refine Wq.ite (λq=>L12 _ (by rw[hws,decide_eq_true q];simp)) (λq1=> ?_);refine Wq.ite (λq=>L12 _ (by rw[hws,decide_eq_true q];simp)) (λq2=> ?_);refine Wq.ite (λq=>L12 _ (by rw[hws,decide_eq_true q];simp)) (λq3=> ?_);exact L12 _ (by rw[hws,decide_eq_false q1,decide_eq_false q2,decide_eq_false q3];simp)
theorem Vw (s:List UInt8)(hl:s.length<cX):P0 46 [aD s] (Gq (e8 s)):=Pure.of rfl λH nx=>by
 rw[Yx];have:=S0 (nx0:=nx) (H0:=H) hl s.length 0 H nx (Nat.sub_le _ _) (Nat.zero_le _) (.refl _ _);rwa[Nat.zero_add]at this
theorem Hq.Kx {e:TypeId}{l:List Value}{k:Value->T OB->Nat->Q}{R:Go.Ev.Out->T OB->Nat->Prop}(hz:bX P e=some l)(h:Hp nx0 H0 F H nx)(hk:∀b H' nx',Hp nx0 H0 ((b,l,e)::F) H' nx'->aO P pl X0 (k (ptr b) H' nx') nx0 H0 R):aO P pl X0 (ao (au P H nx e) k) nx0 H0 R:=
 Wq.alloc hz h.ag λH' hb dx hA=>hk nx H' _ (h.new hb dx hA)
theorem S1 {out:List Tok}{sl:Value}{D:List Bx}{i:Nat}(t:Tok)(ho:out.length<=1000)(hG:Gw true 4 31 (out.map Tok.v) sl G)(hD:D=[]->out=[])(h:Hp nx0 H0 (D++(G++[])) H nx):
 Wq P pl X0 (ao (aq P H nx 29 1 (some [(0,t.v)])) λx13 H nx=>ao (ba P H nx [29,29] (some [sl,x13])) λx14 H nx=>aX P 29 x14 H nx λx15 H nx=> .ret ⟨.ret (.tuple ⟨[x15,i64 0,i64 0]⟩),false,H,nx⟩) nx0 H0 (px (out++[t],0,0)):=by
 cases D with
 | cons x D=>
   refine Hq.row kK dy cB rfl (zK _ _ _ _) h λc H2 nx2 h2=> ?_;refine Hq.Fq D (t:=t) (by omega) hG h2 λsl' G' H3 nx3 hG' h3=> ?_;have h3':Hp nx0 H0 (x::(G'++D)) H3 nx3:=by
    rw[List.append_nil]at h3;exact h3.perm (List.Perm.cons _ List.perm_append_comm)
   refine oN hG' h3' λH4 nx4 h4=> ?_;exact Wq.ret h4.ag
 | nil=>
   obtain rfl:=hD rfl;obtain⟨_,⟨_,rfl,rfl⟩ | ⟨b,c,_,_,h0,_⟩⟩:=hG
   . refine Wq.row kK dy cB rfl (zK _ _ _ _) h.ag λH2 hb dx hA=> ?_;have h2:Hp nx0 H0 [(nx,t.c,31)] H2 (nx+1):=h.new hb dx hA;have hxs:pz H2 4 (.slice (some ⟨nx,0,none⟩) 1 1)=some (1,t.c):=AS hb rfl;refine Wq.PJ kK dy rfl hxs (OJ (by decide)) hA (λq=>by cases q) λH3 _ hb3 keep3 hA3=> ?_;have hb3':cR H3 (nx+1) (cj [t.v]) 31:=by
      show cR H3 (nx+1) t.c 31;simpa using hb3
     have h3:=h2.new hb3' keep3 hA3;have hG':Gw true 4 31 ([t].map Tok.v) (.slice (some ⟨nx+1,0,none⟩) 1 fe) [(nx+1,cj [t.v],31)]:=⟨Fo t,.inr ⟨nx+1,fe,rfl,.inl rfl,by simp,rfl⟩⟩;refine oN (F:=[]) hG' h3.swap λH4 nx4 h4=> ?_;exact Wq.ret h4.ag
   . simp at h0
theorem XR (hl:s.length<=4096):∀(m i:Nat) (out:List Tok) (sl:Value) (D G:List Bx) (H:T OB) (nx:Nat),s.length-i<m->i<=s.length->out.length<=1000->Gw true 4 31 (out.map Tok.v) sl G->(D=[]->out=[])->Hp nx0 H0 (D++(G++[])) H nx->
 Wq P pl X0 (.jump (vJ (aD s) sl (i64 (i:Int)) H nx)) nx0 H0 (px (nQ s m out i)):=by
 have hbig:cX=1125899906842624:=rfl;intro m
 induction m with
 | zero=>intro i out sl D G H nx hm;omega
 | succ m ih=>
   intro i out sl D G H nx hm hi ho hG hD h;refine Wq.jmp (PZ ..) (λ_=>rfl) ?_;simp only[af,dL hi];refine Hq.call (Vw (s.drop i) (by rw[List.length_drop];omega)) h λH1 aE h1=> ?_;have hle:=x_ (s.drop i);rw[List.length_drop]at hle;unfold nQ;generalize hp:e8 (s.drop i)=p at hle ⊢;obtain⟨n,ok⟩:=p;simp only at hle ⊢;have x0:av (some (Gq (n,ok))) 0=some (i64 (n:Int)):=rfl;have x1:av (some (Gq (n,ok))) 1=some (.bool ok):=rfl;have ew:IntKind.i64.wrap ((i:Int)+(n:Int))=((i+n:Nat):Int):=by rw[bk (by omega)];omega
   simp only[af,x0,x1,ew];cases ok with
   | false=>
     rw[if_pos rfl];simp only[af];rw[fL];exact Wq.ret h1.ag
   | true=>
     rw[if_neg (by decide)];simp only[af,aK _ aV,aP];refine Wq.ite (λhge=> ?_) (λhge=> ?_)
     . rw[if_pos (by omega)];have hin:i+n=s.length:=by omega
       simp only[af,Fp];rw[hin];exact S1 (i:=i) ⟨0,[],0,(s.length:Int)⟩ ho hG hD h1
     . have hlt:i+n<s.length:=by omega
       rw[if_neg (by omega)];simp only[af,dL (show i+n<=s.length by omega)];refine Hq.call (Vu (s.drop (i+n)) (by rw[List.length_drop];omega)) h1 λH2 nx2 h2=> ?_;rw[SW];cases hx:tj (s.drop (i+n))with
       | none=>
         unfold NB;simp only[af];refine Hq.Kx cB h2 λc H3 nx3 h3=> ?_;refine Hq.store [] h3 dy (by simp) rfl rfl λH4 h4=> ?_;simp only[af];rw[fL];exact Wq.ret h4.ag
       | some q=>
         have hpos:=Ab hx;rw[List.length_drop]at hpos;unfold NB;simp only[af];refine Hq.Kx cB h2 λc H3 nx3 h3=> ?_;refine Hq.store [] h3 dy (by simp) rfl rfl λH4 h4=> ?_;simp only[af,show decide ((q.2:Int)=0)=false by simp;omega,hG.Vr];refine Wq.ite (λh1000=> ?_) (λh1000=> ?_)
         . rw[if_pos (by omega)];rw[fL];exact Wq.ret h4.ag
         . rw[if_neg (by omega)];replace h4:Hp nx0 H0 ((c,q.1.c,31)::(D++(G++[]))) H4 nx3:=h4;refine Hq.put [] h4 jk rfl rfl (by simp) rfl λH5 h5=> ?_;replace h5:Hp nx0 H0 ((c,[i64 q.1.k,aD q.1.s,i64 q.1.n,i64 ((i+n:Nat):Int)],31)::(D++(G++[]))) H5 nx3:=h5;simp only[af,zQ (h5.at_ 0 rfl)];refine Hq.row kK dy cB rfl (zK _ _ _ _) h5 λc2 H6 nx6 h6=> ?_;refine Hq.Fq D (t:=⟨q.1.k,q.1.s,q.1.n,((i+n:Nat):Int)⟩) (by omega) hG h6 λsl' G' H7 nx7 hG' h7=> ?_;have ew2:IntKind.i64.wrap (((i+n:Nat):Int)+(q.2:Int))=((i+n+q.2:Nat):Int):=by rw[bk (by omega)];omega
           simp only[af,ew2];exact ih (i+n+q.2) _ sl' (_::D) G' H7 nx7 (by omega) (by omega) (by rw[List.length_append,List.length_singleton];omega) hG' (λq=>by cases q) h7
theorem Vx (s:List UInt8)(hl:s.length<cX):PT 22 [aD s] (px (scan s)):=PT.of rfl λH nx hT=>by
 rw[Yi];unfold scan;simp only[af,aK _ aV,aP];refine Wq.ite (λh=> ?_) (λh=> ?_)
 . rw[if_pos (by omega),fL];exact Wq.ret (.refl _ _)
 . rw[if_neg (by omega)];have h0:Hp nx H [] H nx:=⟨hT,Ag.refl nx H,by simp,λx hx=>by simp at hx⟩;exact XR (by omega) (s.length+1) 0 [] aC [] [] H nx (by omega) (Nat.zero_le _) (by simp) (Gw.nil _ _ _) (λ_=>rfl) h0
end
section
variable {nx0 nx nx':Nat}{H0 H H':T OB}{L:List Tok}{s:List UInt8}
theorem Ft:∀{r:List UInt8} {n m:Nat},gf n r=some m->n<=4611686018427387903->m<=4611686018427387903
 | [],n,m,h,hn=>by cases h;exact hn
 | c::r,n,m,h,hn=>by
   rw[gf]at h;split at h
   . rename_i hc;have:=Fh hc.1;exact Ft h (by omega)
   . cases h
theorem S2:∀{f:Nat} {s:List UInt8} {q:List UInt8×Nat},qt f s=some q->q.1.length<=q.2:=by
 intro f
 induction f with
 | zero=>intro s q h;cases h
 | succ f ih=>
   intro s q h;cases s with
   | nil=>cases h
   | cons c r=>
     rw[nO]at h
     by_cases h1:c.toNat=34
     . rw[if_pos h1]at h;cases h;exact Nat.zero_le _
     rw[if_neg h1]at h
     by_cases h2:(cA (c::r)).2=0
     . rw[if_pos h2]at h;cases h
     rw[if_neg h2]at h;obtain⟨q1,hq,rfl⟩:=Option.map_eq_some_iff.1 h;have:=ih hq;show((cA (c::r)).1::q1.1).length<=(cA (c::r)).2+q1.2;rw[List.length_cons];omega
theorem ND {r:List UInt8}{q:Tok×Nat}(h:tj r=some q):rg q.1.n/\q.1.s.length<=r.length:=by
 cases r with
 | nil=>cases h
 | cons c u=>
   rw[lM]at h
   by_cases hd:bH c=true
   . rw[if_pos hd]at h;unfold Gl at h;cases hN:gf 0 ((c::u).takeWhile bH)with
     | none=>rw[hN]at h;cases h
     | some v=>
       rw[hN]at h;cases h;have:=Ft hN (by omega);exact⟨by show rg (v:Int);omega,Nat.zero_le _⟩
   rw[if_neg hd]at h;unfold Gk at h
   by_cases h34:c.toNat=34
   . rw[if_pos h34]at h;obtain⟨q1,hq,rfl⟩:=Option.map_eq_some_iff.1 h;have:=Fl hq;have:=S2 hq;exact⟨by show rg 0;omega,by show q1.1.length<=_;simp;omega⟩
   rw[if_neg h34]at h
   by_cases hl:(cb c||bS c)=true
   . rw[if_pos hl]at h;have hle:=tl (p:=gN) u;cases h;exact⟨by show rg 0;omega,by simp;omega⟩
   rw[if_neg hl]at h
   by_cases h39:c.toNat=39/\jv u=true
   . rw[if_pos h39]at h;cases h;exact⟨by show rg 0;omega,by show(List.take _ _).length<=_;rw[List.length_take];omega⟩
   rw[if_neg h39]at h;obtain⟨x,hx,rfl⟩:=Option.map_eq_some_iff.1 h;have hp:=(List.isPrefixOf_iff_prefix.1 (by simpa using List.find?_some hx:x.isPrefixOf (c::u)=true)).length_le;exact⟨by show rg 0;omega,hp⟩
theorem Ky (s:List UInt8):∀(m:Nat) (out:List Tok) (i:Nat),out.length<=1000->(∀t,t∈out->rg t.n/\t.s.length<=s.length)->(nQ s m out i).1.length<=1001/\∀t,t∈(nQ s m out i).1->rg t.n/\t.s.length<=s.length:=by
 have hnil:([]:List Tok).length<=1001/\∀t,t∈([]:List Tok)->rg t.n/\t.s.length<=s.length:=⟨by decide,λt h=>by simp at h⟩;intro m
 induction m with
 | zero=>intro out i _ _;exact hnil
 | succ m ih=>
   intro out i ho hT;unfold nQ;split
   . exact hnil
   split
   . refine⟨by simp;omega,λt ht=> ?_⟩;rcases List.mem_append.1 ht with h | h
     . exact hT t h
     . rw[List.mem_singleton]at h;subst h;exact⟨by show rg 0;omega,Nat.zero_le _⟩
   split
   . exact hnil
   . rename_i q hq;split
     . exact hnil
     . rename_i h1000;refine ih _ _ (by rw[List.length_append,List.length_singleton];omega) λt ht=> ?_;rcases List.mem_append.1 ht with h | h
       . exact hT t h
       . rw[List.mem_singleton]at h;subst h;have:=ND hq;rw[List.length_drop]at this;exact⟨this.1,by have:=this.2;show q.1.s.length<=_;omega⟩
theorem yf (hl:s.length<cX):(scan s).1.length<=1001/\pn (scan s).1/\∀t,t∈(scan s).1->t.s.length<=4096:=by
 unfold scan;split
 . exact⟨by decide,λt h=>(by simp at h),λt h=>(by simp at h)⟩
 . have:=Ky s (s.length+1) [] 0 (by simp) (λt h=>by simp at h);exact⟨this.1,λt ht=>⟨(this.2 t ht).1,by have:=(this.2 t ht).2;show t.s.length<_;omega⟩,λt ht=>by have:=(this.2 t ht).2;omega⟩
theorem Vy (es:List Value)(H:T OB)(nx:Nat)(k:Value->T OB->Nat->Q):eg P 29 (bn 4 es) H nx k=k (bn 4 es) H nx:=by kernel_rfl
theorem NF (hT0:eG nx0 H0)(hL:L.length<=100000)(hT:pn L){n:Nat}(hn:n<=90000){o:iZ (List a_)}(ho:(ps L n).bW [] 0=some o)(hA:Ag nx0 H0 nx H):aO P pl X0 (aQ P pl (.call 15 [fK L] false none H nx)) nx0 H0 (J7 (mB L o)):=by
 rw[XJ,Vy];exact aO.mono (aO.base hA (Zd (hT0.ag hA) hL hT hn ho)) λq H2 nx2 hA2 h2=>h2.1
def parse (s:List UInt8)(o:iZ (List a_)):List a_×Int×Int:=if(scan s).2.2=0 then mB (scan s).1 o else([],((scan s).2.1:Int),(scan s).2.2)
theorem Kz (s:List UInt8):av (some (px (scan s))) 0=some (fK (scan s).1)/\av (some (px (scan s))) 1=some (i64 ((scan s).2.1:Int))/\av (some (px (scan s))) 2=some (i64 (scan s).2.2):=⟨rfl,rfl,rfl⟩
theorem Vz (hl:s.length<cX){o:iZ (List a_)}(ho:(ps (scan s).1 90000).bW [] 0=some o)(hT0:eG nx0 H0)(hA:Ag nx0 H0 nx H):aO P pl X0 (aQ P pl (.call 12 [aD s] false none H nx)) nx0 H0 (J7 (parse s o)):=by
 have hs:=yf hl;obtain⟨x0,x1,x2⟩:=Kz s;rw[Ye];refine Wq.sJ hT0 (Vs s hl) hA λH1 aE hA1=> ?_;simp only[af,x0,x1,x2];unfold parse;refine aO.iT (λh=> ?_) (λh=> ?_)
 . rw[if_neg h];exact Wq.ic hA1 ⟨aC,rfl,.inr ⟨rfl,rfl⟩⟩
 . rw[if_pos h];refine Wq.gM rfl (NF hT0 (by omega) hs.2.1 (Nat.le_refl _) ho hA1) (λu H2 nx2 hA2 hR=> ?_) (λu H2 nx2 hA2 hR=>by obtain⟨v,q,_⟩:=hR;cases q);obtain⟨v,q,hv⟩:=hR;cases q;generalize mB (scan s).1 o=r at hv ⊢;obtain⟨ds,a,e⟩:=r;have y0:av (some (Value.tuple ⟨[v,i64 a,i64 e]⟩)) 0=some v:=rfl;have y1:av (some (Value.tuple ⟨[v,i64 a,i64 e]⟩)) 1=some (i64 a):=rfl;have y2:av (some (Value.tuple ⟨[v,i64 a,i64 e]⟩)) 2=some (i64 e):=rfl;simp only[af,y0,y1,y2];exact Wq.ic hA2 ⟨v,rfl,hv⟩
theorem VA (hl:s.length<cX){o:iZ (List a_)}{o2:List a_×bJ}(ho2:(rp (scan s).1 90016).bW [] (0,none)=some o2)(he:BM o2=Gd o)(hok:o2.2.2=none->o2.1.length<cX/\∀d,d∈o2.1->d.ok)(hT0:eG nx0 H0)(hA:Ag nx0 H0 nx H):aO P pl X0 (aQ P pl (.call 13 [aD s] false none H nx)) nx0 H0 (J7 (parse s o)):=by
 have hs:=yf hl;obtain⟨x0,x1,x2⟩:=Kz s;rw[Yf];refine Wq.sJ hT0 (Vx s hl) hA λH1 aE hA1=> ?_;simp only[af,x0,x1,x2];unfold parse;refine aO.iT (λh=> ?_) (λh=> ?_)
 . rw[if_neg h];exact Wq.ic hA1 ⟨aC,rfl,.inr ⟨rfl,rfl⟩⟩
 . rw[if_pos h];have h16:aO P pl X0 (aQ P pl (.call 16 [fK (scan s).1] false none H1 aE)) nx0 H0 (te (mB (scan s).1 o)):=by
    rw[Yh];have:=Ya (nx0:=nx0) (H0:=H0) (L:=(scan s).1) (by omega) (λt ht=>by
     rw[<- Ki];exact Vj t (hs.2.1 t ht).1 (by have:=hs.2.2 t ht;omega)) (n:=90016) (by omega) ho2 hok hT0 (scan s).1.length 0 aE H1 (by omega) rfl hA1
    rw[he]at this;exact this
   refine Wq.gM rfl h16 (λu H2 nx2 hA2 hR=> ?_) (λu H2 nx2 hA2 hR=>by cases hR);cases hR;generalize mB (scan s).1 o=r;obtain⟨ds,a,e⟩:=r;have y0:av (some (Value.tuple ⟨[bQ ds,i64 a,i64 e]⟩)) 0=some (bQ ds):=rfl;have y1:av (some (Value.tuple ⟨[bQ ds,i64 a,i64 e]⟩)) 1=some (i64 a):=rfl;have y2:av (some (Value.tuple ⟨[bQ ds,i64 a,i64 e]⟩)) 2=some (i64 e):=rfl;simp only[af,y0,y1,y2];exact Wq.ic hA2 ⟨bQ ds,rfl,.inl rfl⟩
theorem KA (l:List a_)(v w:Value)(hv:DV l v)(hw:DV l w)(hl:l.length<cX)(hok:∀d,d∈l->d.ok):P0 14 [v,w] (.bool true):=by
 have h:=Ns l v hv hl hok;rcases hw with rfl | ⟨rfl,rfl⟩
 . exact h
 . intro H nx;obtain⟨H1,aE,h1,h2⟩:=h H nx;refine⟨H1,aE,h1,?_⟩;rw[<- h2,ov,ov];have e1:aQ P pl (.call 14 [v,aC] false none H nx)=aQ P pl (.call 14 [v,bQ []] false none H nx):=by
    rw[TM,TM];rcases hv with rfl | ⟨_,rfl⟩
    . rw[sP,sP];rfl
    . rfl
   rw[e1];rfl
theorem VB (hl:s.length<cX):P0 10 [aD s] (.bool (decide (1200<s.length/\s.length<=4096))):=Pure.of rfl λH nx=>by
 rw[Yd];simp only[af,aK _ aV,aP];refine Wq.ite (λh=> ?_) (λh=> ?_)
 . exact Wq.e7 (by congr 1;rw[decide_eq_decide];omega) (.refl _ _)
 . exact Wq.e7 (by rw[decide_eq_false (by omega)]) (.refl _ _)
theorem XS (hl:s.length<cX):PT 3 [aD s] (.bool true):=PT.of rfl λH nx hT=>by
 have hk:P0 11 [] (.bool true):=Pure.ext rfl;have hs:=yf hl;obtain⟨o,o2,ho,ho2,he,hok2,hok⟩:=BP hs.2.1 (by omega);have hok:(parse s o).1.length<cX/\∀d,d∈(parse s o).1->d.ok:=by
  unfold parse;split
  . exact hok
  . exact⟨by show 0<cX;decide,λd hd=>by simp at hd⟩
 rw[q3];refine Wq.call (VB hl) (.refl _ _) λH1 aE hA1=> ?_;simp only[af];refine Wq.ite (λh=> ?_) (λh=> ?_)
 . refine Wq.call hk hA1 λH2 nx2 hA2=> ?_;simp only[af];exact Wq.ret hA2
 . refine Wq.gM rfl (Vz hl ho hT hA1) (λu H2 nx2 hA2 hR=> ?_) (λu H2 nx2 hA2 hR=>by obtain⟨v,q,_⟩:=hR;cases q);obtain⟨v,q,hv⟩:=hR;cases q;have h13:=λH nx (hA:Ag _ _ nx H)=>VA (H:=H) (nx:=nx) hl ho2 he hok2 hT hA;generalize parse s o=r at hv hok h13 ⊢;obtain⟨ds,a,e⟩:=r;have y0:∀v,av (some (Value.tuple ⟨[v,i64 a,i64 e]⟩)) 0=some v:=λ_=>rfl;have y1:∀v,av (some (Value.tuple ⟨[v,i64 a,i64 e]⟩)) 1=some (i64 a):=λ_=>rfl;have y2:∀v,av (some (Value.tuple ⟨[v,i64 a,i64 e]⟩)) 2=some (i64 e):=λ_=>rfl;simp only[af,y0,y1,y2];refine Wq.gM rfl (h13 H2 nx2 hA2) (λu H3 nx3 hA3 hR=> ?_) (λu H2 nx2 hA2 hR=>by obtain⟨v,q,_⟩:=hR;cases q);obtain⟨w,q,hw⟩:=hR;cases q;simp only[af,y0,y1,y2];refine Wq.call (KA ds v w hv hw hok.1 hok.2) hA3 λH4 nx4 hA4=> ?_;simp only[af];refine Wq.call hk hA4 λH5 nx5 hA5=> ?_;simp only[af];exact Wq.ret hA5
end
end
end Go.Proofs.YthjhonhhbddhkaaGreatDoor
