/- Texts of this claim, side by side. -/
import Derived.Test.YthjhonhhbddhkaaGreatDoorG7
namespace Go.Proofs.YthjhonhhbddhkaaGreatDoor
open Go.Ev Go.RowKit
noncomputable section
set_option maxRecDepth 100000
set_option linter.unusedVariables false
set_option linter.unusedSimpArgs false
set_option maxHeartbeats 8000000
section
variable {nx0 nx nx' bp k:Nat}{H0 H H':T OB}{F A B G G':List Bx}{s:Bx}{R:Go.Ev.Out->T OB->Nat->Prop}{b:Nat}{l:List Value}{e t:TypeId}{L:List Tok}
abbrev dm (L:List Tok):Value:=bc 4 (L.map Tok.v)
abbrev cD (bp:Nat)(L:List Tok)(k:Nat):Bx:=(bp,[dm L,i64 (k:Int)],73)
theorem Sq.dP {f:FuncId}{args:List Value}{u:Value}{kt p:Value->T OB->Nat->Q}{F':List Bx}(hx:X0 f args=none)(h:aK P pl X0 (aN P pl (.call f args false none H nx)) nx0 H0 (λo H nx=>o= .ret u/\Hp nx0 H0 F' H nx))
 (hk:∀H' nx',Hp nx0 H0 F' H' nx'->aK P pl X0 (kt u H' nx') nx0 H0 R):aK P pl X0 (ah (.call f args false none H nx) kt p) nx0 H0 R:=
 Wq.gB hx h (λv H' nx' _ q=>by
  obtain⟨q1,q2⟩:=q
  cases q1
  exact hk H' nx' q2) (λv H' nx' _ q=>by cases q.1)
theorem gD {u:Value}{F':List Bx}(h:Hp nx0 H0 F' H nx):aK P pl X0 (.ret ⟨.ret u,false,H,nx⟩) nx0 H0 (λo H nx=>o= .ret u/\Hp nx0 H0 F' H nx):=Wq.jM h.ag ⟨rfl,h⟩
theorem dn {u v:Value}{F':List Bx}(e:u=v)(h:Hp nx0 H0 F' H nx):aK P pl X0 (.ret ⟨.ret u,false,H,nx⟩) nx0 H0 (λo H nx=>o= .ret v/\Hp nx0 H0 F' H nx):=by subst e;exact gD h
theorem fP {L:List Tok}{k:Nat}(h:(tk L k).k≠0):k<L.length:=by
 unfold tk at h
 cases hk:L[k]? with
 | none=>rw[hk]at h;exact absurd rfl h
 | some t=>exact(List.getElem?_eq_some_iff.1 hk).1
theorem jw {L:List Tok}{k:Nat}{w:List UInt8}(h:dD L k w=true):k<L.length:=by
 refine fP λq=> ?_
 unfold dD jr at h
 rw[q]at h
 simp at h
theorem pk (h:Hp nx0 H0 (cD bp L k::F) H nx):ae P H 3 (some (.pointer (some ⟨bp,1,none⟩)))=some (i64 (k:Int)):=av (h.at_ 0 rfl) od rfl
theorem We (h:Hp nx0 H0 (cD bp L k::F) H nx):ae P H 29 (some (.pointer (some ⟨bp,0,none⟩)))=some (dm L):=av (h.at_ 0 rfl) FL rfl
theorem zN {c0 c1 c2 c3:Value}(h:cG H b [c0,c1,c2,c3] 31):ae P H 31 (some (.pointer (some ⟨b,0,none⟩)))=some (.agg ⟨[c0,c1,c2,c3]⟩):=by
 rw[bV h q7 fT (by simp)]
 rfl
theorem RJ (h:Hp nx0 H0 (cD bp L k::F) H nx):aK P pl X0 (aN P pl (.call 59 [ptr bp] false none H nx)) nx0 H0 (λo H nx=>o= .ret (tk L k).v/\Hp nx0 H0 (cD bp L k::F) H nx):=by
 rw[VS]
 refine Hq.alloc e8 h λx0 H1 aC h1=> ?_
 simp only[af,pk h1,We h1,List.length_map]
 refine Wq.ite (λhlt=> ?_) (λhge=> ?_)
 . have hlt':k<L.length:=by omega
   have hg:L[k]? = some L[k]:=List.getElem?_eq_getElem hlt'
   have hx:(L.map Tok.v)[k]? = some L[k].v:=by simp[hg]
   simp only[af,tq hx]
   refine Hq.store [cD bp L k] h1 fT (by simp) rfl rfl λH2 h2=> ?_
   simp only[af,zN (h2.at_ 1 rfl)]
   refine dn ?_ h2.ko
   show _=(tk L k).v
   unfold tk
   rw[hg]
   rfl
 . refine Hq.store [cD bp L k] h1 fT (by simp) rfl rfl λH2 h2=> ?_
   simp only[af,zN (h2.at_ 1 rfl)]
   refine dn ?_ h2.ko
   show _=(tk L k).v
   unfold tk
   rw[List.getElem?_eq_none (by omega)]
   rfl
theorem Sq.now {kt p:Value->T OB->Nat->Q}(h:Hp nx0 H0 (cD bp L k::F) H nx)(hk:∀H' nx',Hp nx0 H0 (cD bp L k::F) H' nx'->aK P pl X0 (kt (tk L k).v H' nx') nx0 H0 R):aK P pl X0 (ah (.call 59 [ptr bp] false none H nx) kt p) nx0 H0 R:=Sq.dP rfl (RJ h) hk
theorem Sq.CS {kt:T OB->Nat->Q}(h:Hp nx0 H0 F H nx)(hk:∀H' nx',Hp nx0 H0 F H' nx'->aK P pl X0 (kt H' nx') nx0 H0 R):aK P pl X0 (ak (aq P H nx 31) λp H nx=>bC P H nx 31 (some p) (tk L k).v kt) nx0 H0 R:=Hq.var e8 fT rfl rfl rfl h hk
theorem RK {a b:Bool}{x y:Q}(h:(a||b)=true->aK P pl X0 x nx0 H0 R)(h':(a||b)=false->aK P pl X0 y nx0 H0 R):aK P pl X0 (Ev.bK a x (Ev.bK b x y)) nx0 H0 R:=by
 cases a with
 | true=>exact h rfl
 | false=>
   cases b with
   | true=>exact h rfl
   | false=>exact h' rfl
theorem CT (a b:List UInt8):decide ((⟨⟨a⟩⟩:ByteArray)=⟨⟨b⟩⟩)=decide (a=b):=by rw[decide_eq_decide];simp
theorem OO (w:List UInt8)(h:Hp nx0 H0 (cD bp L k::F) H nx):aK P pl X0 (aN P pl (.call 109 [ptr bp,aE w] false none H nx)) nx0 H0 (λo H nx=>o= .ret (.bool (dD L k w))/\Hp nx0 H0 (cD bp L k::F) H nx):=by
 rw[Tu]
 refine Sq.now h λH1 aC h1=> ?_
 refine Sq.CS h1 λH2 nx2 h2=> ?_
 simp only[af]
 refine RK (λhw=> ?_) (λhw=> ?_)
 . refine dn ?_ h2
   unfold dD jr
   rw[hw,Bool.true_and,CT]
 . refine dn ?_ h2
   unfold dD jr
   rw[hw,Bool.false_and]
theorem Sq.is {w:List UInt8}{kt p:Value->T OB->Nat->Q}(h:Hp nx0 H0 (cD bp L k::F) H nx)(hk:∀H' nx',Hp nx0 H0 (cD bp L k::F) H' nx'->aK P pl X0 (kt (.bool (dD L k w)) H' nx') nx0 H0 R):aK P pl X0 (ah (.call 109 [ptr bp,aE w] false none H nx) kt p) nx0 H0 R:=Sq.dP rfl (OO w h) hk
theorem RL:bh P 3=some 1:=by kernel_rfl
theorem dI (h:Hp nx0 H0 (cD bp L k::F) H nx){kt:Value->T OB->Nat->Q}(hk:∀H',Hp nx0 H0 (cD bp L (k+1)::F) H' nx->aK P pl X0 (kt undef H' nx) nx0 H0 R):aK P pl X0 (ak (ai P H nx 3 (some (.pointer (some ⟨bp,1,none⟩))) (some (i64 ((k:Int)+1)))) kt) nx0 H0 R:=
 Hq.put [] h RL rfl rfl (show 1<2 by omega) rfl λH' h'=>hk H' h'
theorem dq (hL:L.length<=100000)(hlt:k<L.length):IntKind.i64.wrap ((k:Int)+1)=(k:Int)+1:=by rw[aI (by omega)];rfl
theorem Mr (w:List UInt8)(hL:L.length<=100000)(h:Hp nx0 H0 (cD bp L k::F) H nx):aK P pl X0 (aN P pl (.call 62 [ptr bp,aE w] false none H nx)) nx0 H0 (λo H nx=>o= .ret (.bool (dD L k w))/\Hp nx0 H0 (cD bp L (if dD L k w=true then k+1 else k)::F) H nx):=by
 rw[VV]
 refine Sq.is h λH1 aC h1=> ?_
 cases hi:dD L k w with
 | false=>
   simp only[af]
   exact gD h1
 | true=>
   simp only[af,pk h1,dq hL (jw hi)]
   exact dI h1 λH2 h2=>gD h2
theorem Sq.take {w:List UInt8}{kt p:Value->T OB->Nat->Q}(hL:L.length<=100000)(h:Hp nx0 H0 (cD bp L k::F) H nx)(ht:dD L k w=true->∀H' nx',Hp nx0 H0 (cD bp L (k+1)::F) H' nx'->aK P pl X0 (kt (.bool true) H' nx') nx0 H0 R)
 (hf:dD L k w=false->∀H' nx',Hp nx0 H0 (cD bp L k::F) H' nx'->aK P pl X0 (kt (.bool false) H' nx') nx0 H0 R):aK P pl X0 (ah (.call 62 [ptr bp,aE w] false none H nx) kt p) nx0 H0 R:=
 Sq.dP rfl (Mr w hL h) λH' nx' h'=>by
  cases hi:dD L k w with
  | true=>rw[hi]at h';exact ht hi H' nx' h'
  | false=>rw[hi]at h';exact hf hi H' nx' h'
theorem Sq.skip {w:List UInt8}{kt p:Value->T OB->Nat->Q}(hL:L.length<=100000)(h:Hp nx0 H0 (cD bp L k::F) H nx)(hk:∀b H' nx',Hp nx0 H0 (cD bp L (skip L w k)::F) H' nx'->aK P pl X0 (kt (.bool b) H' nx') nx0 H0 R):aK P pl X0 (ah (.call 62 [ptr bp,aE w] false none H nx) kt p) nx0 H0 R:=
 Sq.dP rfl (Mr w hL h) λH' nx' h'=>hk _ H' nx' h'
abbrev jy (a:Int):Value:= .iface 69 (.agg ⟨[i64 a]⟩)
def End {α:Type}(nx0:Nat)(H0:T OB)(bp:Nat)(L:List Tok)(F:List Bx)(vf:α->Value):iY α->Go.Ev.Out->T OB->Nat->Prop
 | .ok a k=>λo H nx=>o= .ret (vf a)/\Hp nx0 H0 (cD bp L k::F) H nx
 | .bad a=>λo H nx=>o= .fR (jy a)
def bw {α:Type}(f:FuncId)(L:List Tok)(vf:α->Value)(r:Nat->PR α):Prop:=∀nx0 nx H0 H bp F k o,r k=some o->Hp nx0 H0 (cD bp L k::F) H nx->aK P pl X0 (aN P pl (.call f [ptr bp] false none H nx)) nx0 H0 (End nx0 H0 bp L F vf o)
theorem End.ret {α:Type}{vf:α->Value}{a:α}{u:Value}{o:iY α}(ho:yes a k=some o)(e:u=vf a)(h:Hp nx0 H0 (cD bp L k::F) H nx):aK P pl X0 (.ret ⟨.ret u,false,H,nx⟩) nx0 H0 (End nx0 H0 bp L F vf o):=by
 cases ho
 exact Wq.jM h.ag ⟨by rw[e],h⟩
theorem Sq.ar {α:Type}{vf:α->Value}{a:Int}(hA:Ag nx0 H0 nx H):aK P pl X0 (ar (jy a) H nx) nx0 H0 (End nx0 H0 bp L F vf (.bad a)):=Wq.jM hA rfl
theorem RM (x:Value):jb P 69 (some (.agg ⟨[x]⟩))=some (.iface 69 (.agg ⟨[x]⟩)):=by kernel_rfl
theorem RN (x:Int):aw P 69 (some [(0,i64 x)])=some (.agg ⟨[i64 x]⟩):=bn (z:=[.int .i64 0]) (by kernel_rfl) (by kernel_rfl)
theorem zO (h:Hp nx0 H0 (cD bp L k::F) H nx):aK P pl X0 (aN P pl (.call 150 [ptr bp] false none H nx)) nx0 H0 (λo _ _=>o= .fR (jy (tk L k).at_)):=by
 rw[TU]
 refine Sq.now h λH1 aC h1=> ?_
 simp only[af,RN,RM]
 exact Wq.jM (R:=λo _ _=>o= .fR (jy (tk L k).at_)) h1.ag rfl
theorem Sq.fail {α β:Type}{vf:α->Value}{o:iY α}{kt:Value->T OB->Nat->Q}(ho:kp L k=some o)(h:Hp nx0 H0 (cD bp L k::G) H nx):aK P pl X0 (ah (.call 150 [ptr bp] false none H nx) kt Ev.ar) nx0 H0 (End nx0 H0 bp L F vf o):=by
 cases ho
 exact Wq.gB rfl (zO h) (λu H' nx' _ q=>by cases q) λu H' nx' hA q=>by cases q;exact Sq.ar hA
theorem Sq.call {α β:Type}{f:FuncId}{vf:α->Value}{vg:β->Value}{r:Nat->PR α}{g:α->Nat->PR β}{o:iY β}{kt:Value->T OB->Nat->Q}(hs:bw f L vf r)(hx:X0 f [ptr bp]=none)(h:Hp nx0 H0 (cD bp L k::G) H nx)(ho:bd (r k) g=some o)
 (hk:∀a k' H' nx',r k=some (.ok a k')->g a k'=some o->Hp nx0 H0 (cD bp L k'::G) H' nx'->aK P pl X0 (kt (vf a) H' nx') nx0 H0 (End nx0 H0 bp L F vg o)):aK P pl X0 (ah (.call f [ptr bp] false none H nx) kt Ev.ar) nx0 H0 (End nx0 H0 bp L F vg o):=by
 cases hr:r k with
 | none=>rw[hr]at ho;cases ho
 | some q=>
   refine Wq.gB hx (hs nx0 nx H0 H bp G k q hr h) (λu H' nx' _ he=> ?_) (λu H' nx' hA he=> ?_)
   . cases q with
     | bad a=>cases he
     | ok a k'=>
       rw[hr,CR]at ho
       cases he.1
       exact hk a k' H' nx' hr ho he.2
   . cases q with
     | ok a k'=>cases he.1
     | bad a=>
       rw[hr,vV]at ho
       cases ho
       cases he
       exact Sq.ar hA
theorem Sq.jQ {β:Type}{w:List UInt8}{vg:β->Value}{g:Nat->PR β}{o:iY β}{kt:Value->T OB->Nat->Q}(hL:L.length<=100000)(h:Hp nx0 H0 (cD bp L k::G) H nx)(ho:aS L w k g=some o)
 (hk:∀H' nx',dD L k w=true->g (k+1)=some o->Hp nx0 H0 (cD bp L (k+1)::G) H' nx'->aK P pl X0 (kt (.tuple ⟨[]⟩) H' nx') nx0 H0 (End nx0 H0 bp L F vg o)):aK P pl X0 (ah (.call 106 [ptr bp,aE w] false none H nx) kt Ev.ar) nx0 H0 (End nx0 H0 bp L F vg o):=by
 unfold aS at ho
 cases hi:dD L k w with
 | true=>
   rw[hi,if_pos rfl]at ho
   refine Sq.dP rfl ?_ λH' nx' h'=>hk H' nx' hi ho h'
   rw[Q9]
   refine Sq.take hL h (λ_ H1 aC h1=> ?_) (λq=>by rw[q]at hi;cases hi)
   simp only[af]
   exact gD h1
 | false=>
   rw[hi,if_neg (by simp)]at ho
   cases ho
   refine Wq.gB (R1:=λo _ _=>o= .fR (jy (tk L k).at_)) rfl ?_ (λu H' nx' _ q=>by cases q) λu H' nx' hA q=>by cases q;exact Sq.ar hA
   rw[Q9]
   refine Sq.take hL h (λq=>by rw[q]at hi;cases hi) (λ_ H1 aC h1=> ?_)
   simp only[af]
   exact Wq.gB rfl (zO h1) (λu H' nx' _ q=>by cases q) λu H' nx' hA q=>by cases q;exact Wq.jM hA rfl
theorem OP (c:Int)(hL:L.length<=100000)(hc:c≠0)(h:Hp nx0 H0 (cD bp L k::F) H nx):aK P pl X0 (aN P pl (.call 146 [ptr bp,i64 c] false none H nx)) nx0 H0 (End nx0 H0 bp L F Tok.v (if(tk L k).k=c then .ok (tk L k) (k+1)else .bad (tk L k).at_)):=by
 rw[TO]
 refine Hq.alloc e8 h λx0 H1 aC h1=> ?_
 refine Sq.now h1 λH2 nx2 h2=> ?_
 refine Sq.CS h2 λH3 nx3 h3=> ?_
 simp only[af]
 refine Wq.bK (λq=> ?_) (λq=> ?_)
 . have hne:¬(tk L k).k=c:=by simpa using q
   rw[if_neg hne]
   exact Wq.gB rfl (zO h3) (λu H' nx' _ q=>by cases q) λu H' nx' hA q=>by cases q;exact Sq.ar hA
 . have he:(tk L k).k=c:=by simpa using q
   rw[if_pos he]
   have hlt:k<L.length:=fP (by rw[he];exact hc)
   refine Wq.jmp (Jj ..) (λ_=>rfl) ?_
   simp only[af,pk h3,dq hL hlt]
   refine dI h3 λH4 h4=> ?_
   refine Hq.store [cD bp L (k+1)] h4 fT (by simp) rfl rfl λH5 h5=> ?_
   simp only[af,zN (h5.at_ 1 rfl)]
   exact Wq.jM h5.ag ⟨rfl,h5.ko⟩
theorem Sq.word {β:Type}{c:Int}{vg:β->Value}{g:Tok->Nat->PR β}{o:iY β}{kt:Value->T OB->Nat->Q}(hc:c≠0)(hL:L.length<=100000)(h:Hp nx0 H0 (cD bp L k::G) H nx)(ho:bo L c k g=some o)
 (hk:∀H' nx',(tk L k).k=c->g (tk L k) (k+1)=some o->Hp nx0 H0 (cD bp L (k+1)::G) H' nx'->aK P pl X0 (kt (tk L k).v H' nx') nx0 H0 (End nx0 H0 bp L F vg o)):aK P pl X0 (ah (.call 146 [ptr bp,i64 c] false none H nx) kt Ev.ar) nx0 H0 (End nx0 H0 bp L F vg o):=by
 unfold bo at ho
 have h1:=OP c hL hc h
 by_cases hi:(tk L k).k=c
 . rw[if_pos hi]at ho h1
   refine Wq.gB rfl h1 (λu H' nx' _ q=> ?_) (λu H' nx' hA q=>by cases q.1)
   cases q.1
   exact hk H' nx' hi ho q.2
 . rw[if_neg hi]at ho h1
   cases ho
   exact Wq.gB rfl h1 (λu H' nx' _ q=>by cases q) λu H' nx' hA q=>by cases q;exact Sq.ar hA
theorem OQ (h:Hp nx0 H0 (cD bp L k::F) H nx):aK P pl X0 (aN P pl (.call 152 [ptr bp] false none H nx)) nx0 H0 (λo H nx=>o= .ret (aE (if jr L k=true then(tk L k).s else[]))/\Hp nx0 H0 (cD bp L k::F) H nx):=by
 rw[TW]
 refine Sq.now h λH1 aC h1=> ?_
 refine Sq.CS h1 λH2 nx2 h2=> ?_
 have J:∀b,jr L k=b->aK P pl X0 (.jump (vq (aj (tk L k).v) b H2 nx2)) nx0 H0 (λo H nx=>o= .ret (aE (if jr L k=true then(tk L k).s else[]))/\Hp nx0 H0 (cD bp L k::F) H nx):=by
  intro b hb
  refine Wq.jmp (NV ..) (λ_=>rfl) ?_
  cases b with
  | true=>simp only[af];exact dn (by rw[hb,if_pos rfl]) h2
  | false=>simp only[af];exact dn (by rw[hb,if_neg (by simp)]) h2
 simp only[af]
 refine Wq.ite (λq=>J true (by unfold jr;simp[q])) (λq=>J _ (by unfold jr;simp[q]))
theorem Sq.op {kt p:Value->T OB->Nat->Q}(h:Hp nx0 H0 (cD bp L k::F) H nx)(hk:∀H' nx',Hp nx0 H0 (cD bp L k::F) H' nx'->aK P pl X0 (kt (aE (if jr L k=true then(tk L k).s else[])) H' nx') nx0 H0 R):aK P pl X0 (ah (.call 152 [ptr bp] false none H nx) kt p) nx0 H0 R:=Sq.dP rfl (OQ h) hk
theorem OR (h:Hp nx0 H0 (cD bp L k::F) H nx):aK P pl X0 (aN P pl (.call 179 [ptr bp] false none H nx)) nx0 H0 (λo H nx=>o= .ret (.bool (lb L k))/\Hp nx0 H0 (cD bp L k::F) H nx):=by
 rw[T9]
 refine Sq.now h λH1 aC h1=> ?_
 have J:∀b,js L k=b->aK P pl X0 (.jump (kT (ptr bp) b H1 aC)) nx0 H0 (λo H nx=>o= .ret (.bool (lb L k))/\Hp nx0 H0 (cD bp L k::F) H nx):=by
  intro b hb
  refine Wq.jmp (Jx ..) (λ_=>rfl) ?_
  unfold lb
  rw[hb]
  cases b with
  | true=>simp only[af];exact gD h1
  | false=>
    simp only[af]
    refine Sq.is h1 λH2 nx2 h2=> ?_
    cases dD L k [40]with
    | true=>simp only[af];exact gD h2
    | false=>
      simp only[af]
      refine Sq.is h2 λH3 nx3 h3=> ?_
      simp only[af]
      exact gD h3
 have e:js L k=(decide ((tk L k).k=1)||(decide ((tk L k).k=2)||(decide ((tk L k).k=3)||decide ((tk L k).k=4)))):=rfl
 revert e J
 simp only[af]
 generalize decide ((tk L k).k=1)=c1
 generalize decide ((tk L k).k=2)=c2
 generalize decide ((tk L k).k=3)=c3
 generalize decide ((tk L k).k=4)=c4
 intro J e
 cases c1 with
 | true=>exact J true e
 | false=>
   cases c2 with
   | true=>exact J true e
   | false=>
     cases c3 with
     | true=>exact J true e
     | false=>exact J c4 e
theorem Sq.UH {kt p:Value->T OB->Nat->Q}(h:Hp nx0 H0 (cD bp L k::F) H nx)(hk:∀H' nx',Hp nx0 H0 (cD bp L k::F) H' nx'->aK P pl X0 (kt (.bool (lb L k)) H' nx') nx0 H0 R):aK P pl X0 (ah (.call 179 [ptr bp] false none H nx) kt p) nx0 H0 R:=Sq.dP rfl (OR h) hk
theorem OS (h:Hp nx0 H0 (cD bp L k::F) H nx):aK P pl X0 (aN P pl (.call 176 [ptr bp] false none H nx)) nx0 H0 (λo H nx=>o= .ret (.bool (kq L k))/\Hp nx0 H0 (cD bp L k::F) H nx):=by
 rw[T6]
 refine Sq.now h λH1 aC h1=> ?_
 have J:∀b,js L k=b->aK P pl X0 (.jump (kS (ptr bp) b H1 aC)) nx0 H0 (λo H nx=>o= .ret (.bool (kq L k))/\Hp nx0 H0 (cD bp L k::F) H nx):=by
  intro b hb
  refine Wq.jmp (Jt ..) (λ_=>rfl) ?_
  unfold kq
  rw[hb]
  cases b with
  | true=>simp only[af];exact gD h1
  | false=>
    simp only[af]
    refine Sq.is h1 λH2 nx2 h2=> ?_
    cases dD L k [40]with
    | true=>simp only[af];exact gD h2
    | false=>
      simp only[af]
      refine Sq.is h2 λH3 nx3 h3=> ?_
      cases dD L k [95]with
      | true=>simp only[af];exact gD h3
      | false=>
        simp only[af]
        refine Sq.is h3 λH4 nx4 h4=> ?_
        simp only[af]
        exact gD h4
 have e:js L k=(decide ((tk L k).k=1)||(decide ((tk L k).k=2)||(decide ((tk L k).k=3)||decide ((tk L k).k=4)))):=rfl
 revert e J
 simp only[af]
 generalize decide ((tk L k).k=1)=c1
 generalize decide ((tk L k).k=2)=c2
 generalize decide ((tk L k).k=3)=c3
 generalize decide ((tk L k).k=4)=c4
 intro J e
 cases c1 with
 | true=>exact J true e
 | false=>
   cases c2 with
   | true=>exact J true e
   | false=>
     cases c3 with
     | true=>exact J true e
     | false=>exact J c4 e
theorem Sq.Ho {kt p:Value->T OB->Nat->Q}(h:Hp nx0 H0 (cD bp L k::F) H nx)(hk:∀H' nx',Hp nx0 H0 (cD bp L k::F) H' nx'->aK P pl X0 (kt (.bool (kq L k)) H' nx') nx0 H0 R):aK P pl X0 (ah (.call 176 [ptr bp] false none H nx) kt p) nx0 H0 R:=Sq.dP rfl (OS h) hk
theorem pB {L:List Tok}{k:Nat}(h:iC L k=true):k<L.length:=by
 unfold iC at h
 rw[Bool.or_eq_true]at h
 rcases h with h | h
 . exact fP (by have:(tk L k).k=3:=by simpa using h
                omega)
 . exact jw h
theorem OT (hL:L.length<=100000)(h:Hp nx0 H0 (cD bp L k::F) H nx):aK P pl X0 (aN P pl (.call 187 [ptr bp] false none H nx)) nx0 H0 (λo H nx=>o= .ret (if iC L k=true then .tuple ⟨[aE (tk L k).s,.bool true]⟩else .tuple ⟨[aE [],.bool false]⟩)/\Hp nx0 H0 (cD bp L (if iC L k=true then k+1 else k)::F) H nx):=by
 rw[Uc]
 refine Sq.now h λH1 aC h1=> ?_
 refine Sq.CS h1 λH2 nx2 h2=> ?_
 have J:∀b H3 nx3,iC L k=b->Hp nx0 H0 (cD bp L k::F) H3 nx3->aK P pl X0 (.jump (vz (ptr bp) (aj (tk L k).v) b H3 nx3)) nx0 H0 (λo H nx=>o= .ret (if iC L k=true then .tuple ⟨[aE (tk L k).s,.bool true]⟩else .tuple ⟨[aE [],.bool false]⟩)/\Hp nx0 H0 (cD bp L (if iC L k=true then k+1 else k)::F) H nx):=by
  intro b H3 nx3 hb h3
  refine Wq.jmp (NZ ..) (λ_=>rfl) ?_
  cases b with
  | true=>
    simp only[af,pk h3,dq hL (pB hb)]
    refine dI h3 λH4 h4=> ?_
    rw[hb,if_pos rfl,if_pos rfl]
    exact gD h4
  | false=>
    simp only[af]
    rw[hb,if_neg (by simp),if_neg (by simp)]
    exact gD h3
 simp only[af]
 refine Wq.ite (λq=>J true H2 nx2 (by unfold iC;simp[q]) h2) (λq=> ?_)
 refine Sq.is h2 λH3 nx3 h3=> ?_
 simp only[af]
 exact J _ H3 nx3 (by unfold iC;simp[q]) h3
theorem Sq.OU {kt p:Value->T OB->Nat->Q}(hL:L.length<=100000)(h:Hp nx0 H0 (cD bp L k::F) H nx)(ht:iC L k=true->∀H' nx',Hp nx0 H0 (cD bp L (k+1)::F) H' nx'->aK P pl X0 (kt (.tuple ⟨[aE (tk L k).s,.bool true]⟩) H' nx') nx0 H0 R)
 (hf:iC L k=false->∀H' nx',Hp nx0 H0 (cD bp L k::F) H' nx'->aK P pl X0 (kt (.tuple ⟨[aE [],.bool false]⟩) H' nx') nx0 H0 R):aK P pl X0 (ah (.call 187 [ptr bp] false none H nx) kt p) nx0 H0 R:=
 Sq.dP rfl (OT hL h) λH' nx' h'=>by
  cases hi:iC L k with
  | true=>rw[hi,if_pos rfl]at h';rw[if_pos rfl];exact ht hi H' nx' h'
  | false=>rw[hi,if_neg (by simp)]at h';rw[if_neg (by simp)];exact hf hi H' nx' h'
theorem OV (w:List UInt8):P0 154 [aE w] (.bool (decide (w=[58,61])||decide (w=[58,58]))):=Pure.of rfl λH nx=>by
 rw[TX]
 simp only[af,CT]
 cases decide (w=[58,61])with
 | true=>simp only[af];exact Wq.ret (.refl _ _)
 | false=>simp only[af];exact Wq.ret (.refl _ _)
end
section
variable {L:List Tok}
def Tm {α:Type}(L:List Tok)(x:PR α)(m:Nat)(s:α->Nat):Prop:=∃r,x=some r/\∀a k',r=iY.ok a k'->L.length-k'+s a<=m
variable {α β:Type}{m m' k:Nat}{s:β->Nat}{s1:α->Nat}
theorem Tm.bd {x:PR α}{f:α->Nat->PR β}(h:Tm L x m' s1)(hf:∀a k',L.length-k'+s1 a<=m'->Tm L (f a k') m s):Tm L (bd x f) m s:=by
 obtain⟨r,rfl,h2⟩:=h
 cases r with
 | bad a=>exact⟨.bad a,rfl,λa k' q=>by cases q⟩
 | ok a k'=>exact hf a k' (h2 a k' rfl)
theorem Tm.tail {x:PR β}{s':β->Nat}(h:Tm L x m' s')(hf:∀a k',L.length-k'+s' a<=m'->L.length-k'+s a<=m):Tm L x m s:=by
 obtain⟨r,rfl,h2⟩:=h
 exact⟨r,rfl,λa k' q=>hf a k' (h2 a k' q)⟩
theorem Tm.fail:Tm L (kp L k:PR β) m s:=⟨_,rfl,λa k' q=>by cases q⟩
theorem Tm.yes {a:β}(h:L.length-k+s a<=m):Tm L (yes a k) m s:=⟨_,rfl,λa' k' q=>by cases q;exact h⟩
theorem Tm.e7 {w:List UInt8}{x y:PR β}(hx:k<L.length->Tm L x m s)(hy:Tm L y m s):Tm L (if dD L k w=true then x else y) m s:=by
 by_cases hi:dD L k w=true
 . rw[if_pos hi];exact hx (jw hi)
 . rw[if_neg hi];exact hy
theorem Tm.eR {c:Int}{x y:PR β}(hc:c≠0)(hx:k<L.length->Tm L x m s)(hy:Tm L y m s):Tm L (if(tk L k).k=c then x else y) m s:=by
 by_cases hi:(tk L k).k=c
 . rw[if_pos hi];exact hx (fP (by rw[hi];exact hc))
 . rw[if_neg hi];exact hy
theorem Tm.aS {w:List UInt8}{f:Nat->PR β}(hf:k<L.length->Tm L (f (k+1)) m s):Tm L (aS L w k f) m s:=by
 unfold Go.Proofs.YthjhonhhbddhkaaGreatDoor.aS
 exact Tm.e7 hf Tm.fail
theorem Tm.bo {c:Int}{f:Tok->Nat->PR β}(hc:c≠0)(hf:k<L.length->Tm L (f (tk L k) (k+1)) m s):Tm L (bo L c k f) m s:=by
 unfold Go.Proofs.YthjhonhhbddhkaaGreatDoor.bo
 exact Tm.eR hc hf Tm.fail
theorem Tm.ch {b:Bool}{x y:PR β}(hb:b=true->k<L.length)(hx:k<L.length->Tm L x m s)(hy:Tm L y m s):Tm L (if b=true then x else y) m s:=by
 by_cases hi:b=true
 . rw[if_pos hi];exact hx (hb hi)
 . rw[if_neg hi];exact hy
theorem pC (h:js L k=true):k<L.length:=by
 refine fP λq=> ?_
 unfold js at h
 rw[q]at h
 simp at h
theorem CU (h:jr L k=true):k<L.length:=by
 refine fP λq=> ?_
 unfold jr at h
 rw[q]at h
 simp at h
theorem JY {lv:Nat}(h:oK L lv k=true):k<L.length:=by
 unfold oK at h
 rw[Bool.and_eq_true]at h
 exact CU h.1
theorem JZ {lv:Nat}(h:oK L lv k=true):lv<=6:=by
 unfold oK at h
 rw[Bool.and_eq_true]at h
 refine Nat.le_of_lt_succ (Decidable.byContradiction λq=> ?_)
 have:br[lv]? = none:=List.getElem?_eq_none (by simpa[br]using Nat.le_of_not_lt q)
 rw[this]at h
 simp at h
theorem J0 (h:unOp L k=true):k<L.length:=by
 unfold unOp at h
 rw[Bool.and_eq_true]at h
 exact CU h.1
theorem J1 (h:lb L k=true):k<L.length:=by
 unfold lb at h
 rw[Bool.or_eq_true,Bool.or_eq_true]at h
 rcases h with h | h | h
 . exact pC h
 . exact jw h
 . exact jw h
theorem CV (h:kq L k=true):k<L.length:=by
 unfold kq at h
 rw[Bool.or_eq_true,Bool.or_eq_true,Bool.or_eq_true]at h
 rcases h with h | h | h | h
 . exact pC h
 . exact jw h
 . exact jw h
 . exact jw h
theorem v9 {w:List UInt8}:L.length-skip L w k<=L.length-k:=by
 unfold skip
 by_cases hi:dD L k w=true
 . rw[if_pos hi];omega
 . rw[if_neg hi];exact Nat.le_refl _
structure eT (L:List Tok)(n:Nat)(p:PS):Prop where
 exp:∀k,12*(L.length-k)+10<n->Tm L (p.exp k) (L.length-k) (λ_=>1)
 fA:∀e k,12*(L.length-k)+2<n->Tm L (p.fA e k) (L.length-k) (λ_=>1)
 bin:∀lv k,lv<=7->12*(L.length-k)+(9-lv)<n->Tm L (p.bin lv k) (L.length-k) (λ_=>1)
 fh:∀lv a k,12*(L.length-k)<n->Tm L (p.fh lv a k) (L.length-k) (λ_=>0)
 un:∀k,12*(L.length-k)+1<n->Tm L (p.un k) (L.length-k) (λ_=>1)
 fB:∀e k,12*(L.length-k)+1<n->Tm L (p.fB e k) (L.length-k) (λ_=>0)
 atom:∀k,12*(L.length-k)+0<n->Tm L (p.atom k) (L.length-k) (λ_=>1)
 dF:∀w e k,12*(L.length-k)+0<n->Tm L (p.dF w e k) (L.length-k) (λ_=>0)
 lt:∀k,12*(L.length-k)+1<n->Tm L (p.lt k) (L.length-k) (λ_=>1)
 fO:∀e k,12*(L.length-k)+1<n->Tm L (p.fO e k) (L.length-k) (λ_=>1)
 pat:∀k,12*(L.length-k)+1<n->Tm L (p.pat k) (L.length-k) (λ_=>1)
 bl:∀k,12*(L.length-k)+0<n->Tm L (p.bl k) (L.length-k) (λ_=>1)
 fC:∀e k,12*(L.length-k)+0<n->Tm L (p.fC e k) (L.length-k) (λ_=>0)
 dH:∀k,12*(L.length-k)+1<n->Tm L (p.dH k) (L.length-k) (λ_=>1)
 dk:∀e k,12*(L.length-k)+0<n->Tm L (p.dk e k) (L.length-k) (λ_=>0)
 post:∀k,12*(L.length-k)+0<n->Tm L (p.post k) (L.length-k) (λ_=>1)
 lX:∀e k,12*(L.length-k)+0<n->Tm L (p.lX e k) (L.length-k) (λ_=>0)
 cB:∀e k,12*(L.length-k)+0<n->Tm L (p.cB e k) (L.length-k) (λ_=>0)
 dS:∀k,12*(L.length-k)+0<n->Tm L (p.dS k) (L.length-k) (λ_=>1)
 bind:∀k,12*(L.length-k)+0<n->Tm L (p.bind k) (L.length-k) (λd=>if Option.isSome d=true then 1 else 0)
 fi:∀e k,12*(L.length-k)+0<n->Tm L (p.fi e k) (L.length-k) (λ_=>0)
 fn:∀k,12*(L.length-k)+0<n->Tm L (p.fn k) (L.length-k) (λ_=>1)
 lY:∀e k,12*(L.length-k)+1<n->Tm L (p.lY e k) (L.length-k) (λ_=>0)
 dec:∀k,12*(L.length-k)+1<n->Tm L (p.dec k) (L.length-k) (λd=>if Option.isSome d=true then 1 else 0)
 data:∀k,12*(L.length-k)+0<n->Tm L (p.data k) (L.length-k) (λ_=>1)
 fj:∀e k,12*(L.length-k)+0<n->Tm L (p.fj e k) (L.length-k) (λ_=>0)
 fk:∀e k,12*(L.length-k)+0<n->Tm L (p.fk e k) (L.length-k) (λ_=>0)
 bM:∀e k,12*(L.length-k)+11<n->Tm L (p.bM e k) (L.length-k) (λ_=>0)
variable {n:Nat}{p:PS}
theorem OW (h:eT L n p):∀k,12*(L.length-k)+10<n+1->Tm L (vX L p k) (L.length-k) (λ_=>1):=by
 intro k hn
 unfold vX
 repeat' (first
  | with_reducible refine Tm.e7 (λhk=> ?_) ?_
  | refine Tm.aS (λhk=> ?_)
  | refine Tm.bd (h.exp _ (by omega)) (λa k1 hk=> ?_)
  | refine Tm.bd (h.fA _ _ (by omega)) (λa k1 hk=> ?_)
  | refine Tm.bd (h.bin _ _ (by omega) (by omega)) (λa k1 hk=> ?_)
  | exact Tm.tail (h.exp _ (by omega)) (λa k1 hk=>by omega)
  | exact Tm.tail (h.fA _ _ (by omega)) (λa k1 hk=>by omega)
  | exact Tm.tail (h.bin _ _ (by omega) (by omega)) (λa k1 hk=>by omega)
  | exact Tm.yes (by omega)
  | exact Tm.fail)
theorem OX (h:eT L n p):∀e k,12*(L.length-k)+2<n+1->Tm L (vW L p e k) (L.length-k) (λ_=>1):=by
 intro e k hn
 unfold vW
 repeat' (first
  | with_reducible refine Tm.e7 (λhk=> ?_) ?_
  | refine Tm.aS (λhk=> ?_)
  | refine Tm.bd (h.exp _ (by omega)) (λa k1 hk=> ?_)
  | refine Tm.bd (h.fA _ _ (by omega)) (λa k1 hk=> ?_)
  | refine Tm.bd (h.pat _ (by omega)) (λa k1 hk=> ?_)
  | exact Tm.tail (h.exp _ (by omega)) (λa k1 hk=>by omega)
  | exact Tm.tail (h.fA _ _ (by omega)) (λa k1 hk=>by omega)
  | exact Tm.tail (h.pat _ (by omega)) (λa k1 hk=>by omega)
  | exact Tm.yes (by omega)
  | exact Tm.fail)
theorem Hr (h:eT L n p):∀lv a k,12*(L.length-k)<n+1->Tm L (sA L p lv a k) (L.length-k) (λ_=>0):=by
 intro lv a k hn
 unfold sA
 by_cases hi:oK L lv k=true
 . rw[if_pos hi]
   have h1:=JY hi
   have h2:=JZ hi
   by_cases h3:lv=2\/lv=4
   . rw[if_pos h3]
     exact Tm.bd (h.bin lv (k+1) (by omega) (by omega)) λb k1 hk=>Tm.yes (by omega)
   . rw[if_neg h3]
     exact Tm.bd (h.bin (lv+1) (k+1) (by omega) (by omega)) λb k1 hk=>Tm.tail (h.fh lv _ k1 (by omega)) λb k2 hk2=>by omega
 . rw[if_neg hi]
   exact Tm.yes (by omega)
theorem OY (h:eT L n p):∀lv k,lv<=7->12*(L.length-k)+(9-lv)<n+1->Tm L (vY L p lv k) (L.length-k) (λ_=>1):=by
 intro lv k hl hn
 unfold vY
 by_cases h7:lv=7
 . rw[if_pos h7]
   exact Tm.tail (h.un k (by omega)) (λa k1 hk=>hk)
 . rw[if_neg h7]
   exact Tm.bd (h.bin (lv+1) k (by omega) (by omega)) λa k1 hk=>Tm.tail (Hr h lv a k1 (by omega)) λb k2 hk2=>by omega
theorem zP (h:eT L n p):∀e k,12*(L.length-k)+1<n+1->Tm L (sB L p e k) (L.length-k) (λ_=>0):=by
 intro e k hn
 unfold sB
 repeat' (first
  | with_reducible refine Tm.e7 (λhk=> ?_) ?_
  | refine Tm.ch (λhb=>J1 hb) (λhk=> ?_) ?_
  | refine Tm.bd (h.fB _ _ (by omega)) (λa k1 hk=> ?_)
  | refine Tm.bd (h.atom _ (by omega)) (λa k1 hk=> ?_)
  | exact Tm.tail (h.fB _ _ (by omega)) (λa k1 hk=>by omega)
  | exact Tm.tail (h.atom _ (by omega)) (λa k1 hk=>by omega)
  | exact Tm.yes (by omega)
  | exact Tm.fail)
theorem RO (h:eT L n p):∀k,12*(L.length-k)+1<n+1->Tm L (JV L p k) (L.length-k) (λ_=>1):=by
 intro k hn
 unfold JV
 repeat' (first
  | with_reducible refine Tm.e7 (λhk=> ?_) ?_
  | refine Tm.ch (λhb=>J0 hb) (λhk=> ?_) ?_
  | refine Tm.bd (h.un _ (by omega)) (λa k1 hk=> ?_)
  | refine Tm.bd (h.atom _ (by omega)) (λa k1 hk=> ?_)
  | refine Tm.bd (zP h _ _ (by omega)) (λa k1 hk=> ?_)
  | exact Tm.tail (h.un _ (by omega)) (λa k1 hk=>by omega)
  | exact Tm.tail (h.atom _ (by omega)) (λa k1 hk=>by omega)
  | exact Tm.tail (zP h _ _ (by omega)) (λa k1 hk=>by omega)
  | exact Tm.yes (by omega)
  | exact Tm.fail)
theorem rK (h:eT L n p):∀w e k,12*(L.length-k)+0<n+1->Tm L (jP L p w e k) (L.length-k) (λ_=>0):=by
 intro w e k hn
 unfold jP
 repeat' (first
  | with_reducible refine Tm.e7 (λhk=> ?_) ?_
  | refine Tm.bd (h.exp _ (by omega)) (λa k1 hk=> ?_)
  | refine Tm.bd (h.dF _ _ _ (by omega)) (λa k1 hk=> ?_)
  | exact Tm.tail (h.exp _ (by omega)) (λa k1 hk=>by omega)
  | exact Tm.tail (h.dF _ _ _ (by omega)) (λa k1 hk=>by omega)
  | exact Tm.yes (by omega)
  | exact Tm.fail)
theorem J2 (h:eT L n p):∀k,12*(L.length-k)+0<n+1->Tm L (mI L p k) (L.length-k) (λ_=>1):=by
 intro k hn
 unfold mI
 repeat' (first
  | with_reducible refine Tm.e7 (λhk=> ?_) ?_
  | refine Tm.eR (by decide) (λhk=> ?_) ?_
  | refine Tm.aS (λhk=> ?_)
  | refine Tm.bd (h.exp _ (by omega)) (λa k1 hk=> ?_)
  | refine Tm.bd (h.lt _ (by omega)) (λa k1 hk=> ?_)
  | refine Tm.bd (rK h _ _ _ (by omega)) (λa k1 hk=> ?_)
  | exact Tm.tail (h.exp _ (by omega)) (λa k1 hk=>by omega)
  | exact Tm.tail (h.lt _ (by omega)) (λa k1 hk=>by omega)
  | exact Tm.tail (rK h _ _ _ (by omega)) (λa k1 hk=>by omega)
  | exact Tm.yes (by omega)
  | exact Tm.fail)
theorem zQ (h:eT L n p):∀e k,12*(L.length-k)+1<n+1->Tm L (sC L p e k) (L.length-k) (λ_=>1):=by
 intro e k hn
 unfold sC
 refine Tm.e7 (λhk=>Tm.yes (by omega)) ?_
 refine Tm.bd (h.bind _ (by omega)) λd k1 hk=> ?_
 cases d with
 | none=>exact Tm.fail
 | some d=>
   have hk:L.length-k1+1<=L.length-k:=hk
   have:=@v9 L k1 [59]
   exact Tm.tail (h.fO _ _ (by omega)) λb k2 hk2=>by omega
theorem RQ (h:eT L n p):∀k,12*(L.length-k)+1<n+1->Tm L (JW L p k) (L.length-k) (λ_=>1):=by
 intro k hn
 unfold JW
 repeat' (first
  | with_reducible refine Tm.e7 (λhk=> ?_) ?_
  | refine Tm.aS (λhk=> ?_)
  | refine Tm.bd (h.exp _ (by omega)) (λa k1 hk=> ?_)
  | refine Tm.bd (zQ h _ _ (by omega)) (λa k1 hk=> ?_)
  | refine Tm.bd (rK h _ _ _ (by omega)) (λa k1 hk=> ?_)
  | exact Tm.tail (h.exp _ (by omega)) (λa k1 hk=>by omega)
  | exact Tm.tail (zQ h _ _ (by omega)) (λa k1 hk=>by omega)
  | exact Tm.tail (rK h _ _ _ (by omega)) (λa k1 hk=>by omega)
  | exact Tm.yes (by omega)
  | exact Tm.fail)
theorem Hs (h:eT L n p):∀k,12*(L.length-k)+1<n+1->Tm L (yu L p k) (L.length-k) (λ_=>1):=by
 intro k hn
 unfold yu
 repeat' (first
  | with_reducible refine Tm.e7 (λhk=> ?_) ?_
  | refine Tm.eR (by decide) (λhk=> ?_) ?_
  | refine Tm.ch (λhb=>CV hb) (λhk=> ?_) ?_
  | refine Tm.bd (h.bl _ (by omega)) (λa k1 hk=> ?_)
  | exact Tm.tail (h.bl _ (by omega)) (λa k1 hk=>by omega)
  | exact Tm.yes (by omega)
  | exact Tm.fail)
theorem OZ (h:eT L n p):∀k,12*(L.length-k)+1<n+1->Tm L (vZ L p k) (L.length-k) (λ_=>1):=by
 intro k hn
 unfold vZ
 repeat' (first
  | with_reducible refine Tm.e7 (λhk=> ?_) ?_
  | refine Tm.bd (h.pat _ (by omega)) (λa k1 hk=> ?_)
  | refine Tm.bd (Hs h _ (by omega)) (λa k1 hk=> ?_)
  | exact Tm.tail (h.pat _ (by omega)) (λa k1 hk=>by omega)
  | exact Tm.tail (Hs h _ (by omega)) (λa k1 hk=>by omega)
  | exact Tm.yes (by omega)
  | exact Tm.fail)
theorem v_ (h:eT L n p):∀e k,12*(L.length-k)+0<n+1->Tm L (ly L p e k) (L.length-k) (λ_=>0):=by
 intro e k hn
 unfold ly
 repeat' (first
  | with_reducible refine Tm.e7 (λhk=> ?_) ?_
  | refine Tm.bd (h.pat _ (by omega)) (λa k1 hk=> ?_)
  | refine Tm.bd (h.fC _ _ (by omega)) (λa k1 hk=> ?_)
  | exact Tm.tail (h.pat _ (by omega)) (λa k1 hk=>by omega)
  | exact Tm.tail (h.fC _ _ (by omega)) (λa k1 hk=>by omega)
  | exact Tm.yes (by omega)
  | exact Tm.fail)
theorem Ht (h:eT L n p):∀k,12*(L.length-k)+0<n+1->Tm L (jv L p k) (L.length-k) (λ_=>1):=by
 intro k hn
 unfold jv
 repeat' (first
  | with_reducible refine Tm.e7 (λhk=> ?_) ?_
  | refine Tm.eR (by decide) (λhk=> ?_) ?_
  | refine Tm.aS (λhk=> ?_)
  | refine Tm.bo (by decide) (λhk=> ?_)
  | refine Tm.bd (h.pat _ (by omega)) (λa k1 hk=> ?_)
  | refine Tm.bd (v_ h _ _ (by omega)) (λa k1 hk=> ?_)
  | exact Tm.tail (h.pat _ (by omega)) (λa k1 hk=>by omega)
  | exact Tm.tail (v_ h _ _ (by omega)) (λa k1 hk=>by omega)
  | exact Tm.yes (by omega)
  | exact Tm.fail)
theorem wa (h:eT L n p):∀e k,12*(L.length-k)+0<n+1->Tm L (lz L p e k) (L.length-k) (λ_=>0):=by
 intro e k hn
 unfold lz
 repeat' (first
  | with_reducible refine Tm.e7 (λhk=> ?_) ?_
  | refine Tm.bd (h.dk _ _ (by omega)) (λa k1 hk=> ?_)
  | refine Tm.bd (h.post _ (by omega)) (λa k1 hk=> ?_)
  | exact Tm.tail (h.dk _ _ (by omega)) (λa k1 hk=>by omega)
  | exact Tm.tail (h.post _ (by omega)) (λa k1 hk=>by omega)
  | exact Tm.yes (by omega)
  | exact Tm.fail)
theorem CW (h:eT L n p):∀k,12*(L.length-k)+1<n+1->Tm L (ou L p k) (L.length-k) (λ_=>1):=by
 intro k hn
 unfold ou
 repeat' (first
  | with_reducible refine Tm.e7 (λhk=> ?_) ?_
  | refine Tm.bd (h.post _ (by omega)) (λa k1 hk=> ?_)
  | refine Tm.bd (wa h _ _ (by omega)) (λa k1 hk=> ?_)
  | exact Tm.tail (h.post _ (by omega)) (λa k1 hk=>by omega)
  | exact Tm.tail (wa h _ _ (by omega)) (λa k1 hk=>by omega)
  | exact Tm.yes (by omega)
  | exact Tm.fail)
theorem O0 (h:eT L n p):∀k,12*(L.length-k)+1<n+1->Tm L (v5 L p k) (L.length-k) (λ_=>1):=by
 intro k hn
 unfold v5
 repeat' (first
  | with_reducible refine Tm.e7 (λhk=> ?_) ?_
  | refine Tm.bd (h.dH _ (by omega)) (λa k1 hk=> ?_)
  | refine Tm.bd (CW h _ (by omega)) (λa k1 hk=> ?_)
  | exact Tm.tail (h.dH _ (by omega)) (λa k1 hk=>by omega)
  | exact Tm.tail (CW h _ (by omega)) (λa k1 hk=>by omega)
  | exact Tm.yes (by omega)
  | exact Tm.fail)
theorem zR (h:eT L n p):∀e k,12*(L.length-k)+0<n+1->Tm L (nF L p e k) (L.length-k) (λ_=>0):=by
 intro e k hn
 unfold nF
 repeat' (first
  | with_reducible refine Tm.e7 (λhk=> ?_) ?_
  | refine Tm.bd (h.dH _ (by omega)) (λa k1 hk=> ?_)
  | refine Tm.bd (h.lX _ _ (by omega)) (λa k1 hk=> ?_)
  | exact Tm.tail (h.dH _ (by omega)) (λa k1 hk=>by omega)
  | exact Tm.tail (h.lX _ _ (by omega)) (λa k1 hk=>by omega)
  | exact Tm.yes (by omega)
  | exact Tm.fail)
theorem CX (h:eT L n p):∀k,12*(L.length-k)+0<n+1->Tm L (ov L p k) (L.length-k) (λ_=>1):=by
 intro k hn
 unfold ov
 repeat' (first
  | with_reducible refine Tm.e7 (λhk=> ?_) ?_
  | refine Tm.eR (by decide) (λhk=> ?_) ?_
  | refine Tm.ch (λhb=>pB hb) (λhk=> ?_) ?_
  | refine Tm.aS (λhk=> ?_)
  | refine Tm.bd (h.dH _ (by omega)) (λa k1 hk=> ?_)
  | refine Tm.bd (zR h _ _ (by omega)) (λa k1 hk=> ?_)
  | exact Tm.tail (h.dH _ (by omega)) (λa k1 hk=>by omega)
  | exact Tm.tail (zR h _ _ (by omega)) (λa k1 hk=>by omega)
  | exact Tm.yes (by omega)
  | exact Tm.fail)
theorem wb (h:eT L n p):∀e k,12*(L.length-k)+0<n+1->Tm L (jJ L p e k) (L.length-k) (λ_=>0):=by
 intro e k hn
 unfold jJ
 repeat' (first
  | with_reducible refine Tm.e7 (λhk=> ?_) ?_
  | refine Tm.ch (λhb=>pB hb) (λhk=> ?_) ?_
  | refine Tm.bd (h.cB _ _ (by omega)) (λa k1 hk=> ?_)
  | exact Tm.tail (h.cB _ _ (by omega)) (λa k1 hk=>by omega)
  | exact Tm.yes (by omega)
  | exact Tm.fail)
theorem J3 (h:eT L n p):∀k,12*(L.length-k)+0<n+1->Tm L (mJ L p k) (L.length-k) (λ_=>1):=by
 intro k hn
 unfold mJ
 repeat' (first
  | with_reducible refine Tm.e7 (λhk=> ?_) ?_
  | refine Tm.bd (CX h _ (by omega)) (λa k1 hk=> ?_)
  | refine Tm.bd (wb h _ _ (by omega)) (λa k1 hk=> ?_)
  | exact Tm.tail (CX h _ (by omega)) (λa k1 hk=>by omega)
  | exact Tm.tail (wb h _ _ (by omega)) (λa k1 hk=>by omega)
  | exact Tm.yes (by omega)
  | exact Tm.fail)
theorem O1 (h:eT L n p):∀k,12*(L.length-k)+0<n+1->Tm L (v7 L p k) (L.length-k) (λ_=>1):=by
 intro k hn
 unfold v7
 repeat' (first
  | with_reducible refine Tm.e7 (λhk=> ?_) ?_
  | refine Tm.bo (by decide) (λhk=> ?_)
  | refine Tm.bd (h.dH _ (by omega)) (λa k1 hk=> ?_)
  | exact Tm.tail (h.dH _ (by omega)) (λa k1 hk=>by omega)
  | exact Tm.yes (by omega)
  | exact Tm.fail)
theorem Hu (h:eT L n p):∀e k,12*(L.length-k)+0<n+1->Tm L (sD L p e k) (L.length-k) (λ_=>0):=by
 intro e k hn
 unfold sD
 repeat' (first
  | with_reducible refine Tm.e7 (λhk=> ?_) ?_
  | refine Tm.bd (h.fi _ _ (by omega)) (λa k1 hk=> ?_)
  | refine Tm.bd (h.fn _ (by omega)) (λa k1 hk=> ?_)
  | exact Tm.tail (h.fi _ _ (by omega)) (λa k1 hk=>by omega)
  | exact Tm.tail (h.fn _ (by omega)) (λa k1 hk=>by omega)
  | exact Tm.yes (by omega)
  | exact Tm.fail)
theorem J4 (h:eT L n p):∀k,12*(L.length-k)+0<n+1->Tm L (mK L p k) (L.length-k) (λd=>if Option.isSome d=true then 1 else 0):=by
 intro k hn
 unfold mK
 refine Tm.e7 (λhk=> ?_) (Tm.e7 (λhk=> ?_) (Tm.yes (Nat.le_refl _)))
 . refine Tm.bd (h.pat _ (by omega)) λa k1 hk1=>Tm.aS λhk2=>Tm.bd (h.exp _ (by omega)) λb k2 hk3=>Tm.yes ?_
   show L.length-k2+1<=_
   omega
 . refine Tm.bd (h.fn _ (by omega)) λa k1 hk1=>Tm.bd (Hu h _ _ (by omega)) λb k2 hk3=>Tm.yes ?_
   show L.length-k2+1<=_
   omega
theorem zS (h:eT L n p):∀e k,12*(L.length-k)+1<n+1->Tm L (sE L p e k) (L.length-k) (λ_=>0):=by
 intro e k hn
 unfold sE
 repeat' (first
  | with_reducible refine Tm.e7 (λhk=> ?_) ?_
  | refine Tm.ch (λhb=>CV hb) (λhk=> ?_) ?_
  | refine Tm.bd (h.bl _ (by omega)) (λa k1 hk=> ?_)
  | refine Tm.bd (h.lY _ _ (by omega)) (λa k1 hk=> ?_)
  | exact Tm.tail (h.bl _ (by omega)) (λa k1 hk=>by omega)
  | exact Tm.tail (h.lY _ _ (by omega)) (λa k1 hk=>by omega)
  | exact Tm.yes (by omega)
  | exact Tm.fail)
theorem RS (h:eT L n p):∀k,12*(L.length-k)+0<n+1->Tm L (JX L p k) (L.length-k) (λ_=>1):=by
 intro k hn
 unfold JX
 repeat' (first
  | with_reducible refine Tm.e7 (λhk=> ?_) ?_
  | refine Tm.aS (λhk=> ?_)
  | refine Tm.bo (by decide) (λhk=> ?_)
  | refine Tm.bd (h.exp _ (by omega)) (λa k1 hk=> ?_)
  | refine Tm.bd (h.bl _ (by omega)) (λa k1 hk=> ?_)
  | refine Tm.bd (zS h _ _ (by omega)) (λa k1 hk=> ?_)
  | exact Tm.tail (h.exp _ (by omega)) (λa k1 hk=>by omega)
  | exact Tm.tail (h.bl _ (by omega)) (λa k1 hk=>by omega)
  | exact Tm.tail (zS h _ _ (by omega)) (λa k1 hk=>by omega)
  | exact Tm.yes (by omega)
  | exact Tm.fail)
theorem O2 (h:eT L n p):∀k,12*(L.length-k)+1<n+1->Tm L (v8 L p k) (L.length-k) (λd=>if Option.isSome d=true then 1 else 0):=by
 intro k hn
 unfold v8
 refine Tm.e7 (λhk=> ?_) (Tm.e7 (λhk=> ?_) ?_)
 . refine Tm.bd (h.data _ (by omega)) λa k1 hk1=>Tm.yes ?_
   show L.length-k1+1<=_
   omega
 . refine Tm.bd (h.dS _ (by omega)) λa k1 hk1=>Tm.yes ?_
   show L.length-k1+1<=_
   omega
 . exact Tm.tail (h.bind _ (by omega)) λa k1 hk1=>hk1
theorem zT (h:eT L n p):∀e k,12*(L.length-k)+0<n+1->Tm L (mL L p e k) (L.length-k) (λ_=>0):=by
 intro e k hn
 unfold mL
 repeat' (first
  | with_reducible refine Tm.e7 (λhk=> ?_) ?_
  | refine Tm.bo (by decide) (λhk=> ?_)
  | refine Tm.bd (h.fj _ _ (by omega)) (λa k1 hk=> ?_)
  | exact Tm.tail (h.fj _ _ (by omega)) (λa k1 hk=>by omega)
  | exact Tm.yes (by omega)
  | exact Tm.fail)
theorem CY (h:eT L n p):∀k,12*(L.length-k)+0<n+1->Tm L (ow L p k) (L.length-k) (λ_=>0):=by
 intro k hn
 unfold ow
 repeat' (first
  | with_reducible refine Tm.e7 (λhk=> ?_) ?_
  | refine Tm.eR (by decide) (λhk=> ?_) ?_
  | refine Tm.aS (λhk=> ?_)
  | refine Tm.bo (by decide) (λhk=> ?_)
  | refine Tm.bd (zT h _ _ (by omega)) (λa k1 hk=> ?_)
  | exact Tm.tail (zT h _ _ (by omega)) (λa k1 hk=>by omega)
  | exact Tm.yes (by omega)
  | exact Tm.fail)
theorem wc (h:eT L n p):∀e k,12*(L.length-k)+0<n+1->Tm L (g_ L p e k) (L.length-k) (λ_=>0):=by
 intro e k hn
 unfold g_
 repeat' (first
  | with_reducible refine Tm.e7 (λhk=> ?_) ?_
  | refine Tm.bd (h.dS _ (by omega)) (λa k1 hk=> ?_)
  | refine Tm.bd (h.fk _ _ (by omega)) (λa k1 hk=> ?_)
  | exact Tm.tail (h.dS _ (by omega)) (λa k1 hk=>by omega)
  | exact Tm.tail (h.fk _ _ (by omega)) (λa k1 hk=>by omega)
  | exact Tm.yes (by omega)
  | exact Tm.fail)
theorem J5 (h:eT L n p):∀k,12*(L.length-k)+0<n+1->Tm L (mM L p k) (L.length-k) (λ_=>1):=by
 intro k hn
 unfold mM
 repeat' (first
  | with_reducible refine Tm.e7 (λhk=> ?_) ?_
  | refine Tm.aS (λhk=> ?_)
  | refine Tm.bo (by decide) (λhk=> ?_)
  | refine Tm.bd (h.dS _ (by omega)) (λa k1 hk=> ?_)
  | refine Tm.bd (CY h _ (by omega)) (λa k1 hk=> ?_)
  | refine Tm.bd (wc h _ _ (by omega)) (λa k1 hk=> ?_)
  | exact Tm.tail (h.dS _ (by omega)) (λa k1 hk=>by omega)
  | exact Tm.tail (CY h _ (by omega)) (λa k1 hk=>by omega)
  | exact Tm.tail (wc h _ _ (by omega)) (λa k1 hk=>by omega)
  | exact Tm.yes (by omega)
  | exact Tm.fail)
theorem J6 (h:eT L n p):∀e k,12*(L.length-k)+11<n+1->Tm L (mN L p e k) (L.length-k) (λ_=>0):=by
 intro e k hn
 unfold mN
 by_cases hi:(tk L k).k=0
 . rw[if_pos hi]
   exact Tm.yes (by omega)
 . rw[if_neg hi]
   refine Tm.bd (h.dec _ (by omega)) λd k1 hk=> ?_
   cases d with
   | none=>
     have hk:L.length-k1+0<=L.length-k:=hk
     refine Tm.bd (h.exp _ (by omega)) λd k2 hk2=> ?_
     have:=@v9 L k2 [59]
     exact Tm.tail (h.bM _ _ (by omega)) λb k3 hk3=>by omega
   | some d=>
     have hk:L.length-k1+1<=L.length-k:=hk
     have:=@v9 L k1 [59]
     exact Tm.tail (h.bM _ _ (by omega)) λb k2 hk2=>by omega
theorem RT:∀n,eT L n (ps L n)
 | 0=>by constructor<;>intros<;>omega
 | n+1=>by
   have h:=RT n
   exact {
    exp:=OW h
    fA:=OX h
    bin:=OY h
    fh:=Hr h
    un:=RO h
    fB:=zP h
    atom:=J2 h
    dF:=rK h
    lt:=RQ h
    fO:=zQ h
    pat:=OZ h
    bl:=Ht h
    fC:=v_ h
    dH:=O0 h
    dk:=wa h
    post:=J3 h
    lX:=zR h
    cB:=wb h
    dS:=O1 h
    bind:=J4 h
    fi:=Hu h
    fn:=RS h
    lY:=zS h
    dec:=O2 h
    data:=J5 h
    fj:=zT h
    fk:=wc h
    bM:=J6 h }
end
section
abbrev bx:=Nat×Option Int
abbrev RR (α:Type):=Option (α×bx)
def rb {α β:Type}(x:RR α)(f:α->bx->RR β):RR β:=match x with
 | none=>none
 | some (a,s)=>f a s
abbrev ry {α:Type}(a:α)(s:bx):RR α:=some (a,s)
section
variable (L:List Tok)
def cu (w:List UInt8)(s:bx):Bool:=s.2.isNone&&dD L s.1 w
def aC (s:bx):bx:=(s.1+1,s.2)
def mO (s:bx):bx:=if s.2.isNone=true then(s.1,some (tk L s.1).at_)else s
def iS (w:List UInt8)(s:bx):bx:=if cu L w s=true then aC s else s
def dT (w:List UInt8)(s:bx):bx:=if cu L w s=true then aC s else mO L s
def cc (c:Int)(s:bx):Bool:=s.2.isNone&&decide ((tk L s.1).k=c)
def rn {α:Type}(w:List UInt8)(s:bx)(f:bx->RR α):RR α:=f (dT L w s)
def rk {α:Type}(c:Int)(s:bx)(f:List UInt8->bx->RR α):RR α:=f (if cc L c s=true then(tk L s.1).s else[]) (if cc L c s=true then aC s else mO L s)
abbrev O3:bg:= .mk 0 [] []
structure RP where
 exp:bx->RR aF
 fA:aF->bx->RR aF
 bin:Nat->bx->RR aF
 fh:Nat->aF->bx->RR aF
 un:bx->RR aF
 fB:aF->bx->RR aF
 atom:bx->RR aF
 dF:List UInt8->aF->bx->RR aF
 lt:bx->RR aF
 fO:List aT->bx->RR (List aT)
 pat:bx->RR aZ
 bl:bx->RR aZ
 fC:List aZ->bx->RR (List aZ)
 dH:bx->RR bg
 dk:List bg->bx->RR (List bg)
 post:bx->RR bg
 lX:List bg->bx->RR (List bg)
 cB:bg->bx->RR bg
 dS:bx->RR cM
 bind:bx->RR (Option aT)
 fi:List Fn->bx->RR (List Fn)
 fn:bx->RR Fn
 lY:List aZ->bx->RR (List aZ)
 dec:bx->RR (Option aT)
 data:bx->RR Data
 fj:List (List UInt8)->bx->RR (List (List UInt8))
 fk:List cM->bx->RR (List cM)
 bM:List aT->bx->RR (List aT)
def RP.none:RP:=⟨λ_=> .none,λ_ _=> .none,λ_ _=> .none,λ_ _ _=> .none,λ_=> .none,λ_ _=> .none,λ_=> .none,λ_ _ _=> .none,λ_=> .none,λ_ _=> .none,λ_=> .none,λ_=> .none,λ_ _=> .none,λ_=> .none,λ_ _=> .none,λ_=> .none,λ_ _=> .none,λ_ _=> .none,
 λ_=> .none,λ_=> .none,λ_ _=> .none,λ_=> .none,λ_ _=> .none,λ_=> .none,λ_=> .none,λ_ _=> .none,λ_ _=> .none,λ_ _=> .none⟩
variable (p:RP)
def zU (e:aF)(s:bx):RR aF:=if s.2.isSome=true then ry e s else rb (p.pat s) λq s=>rn L [61,62] s λs=>rb (p.exp s) λx s=>if cu L [124] s=true then p.fA (e.jN q x) (aC s)else ry (e.jN q x) s
def zV (s:bx):RR aF:=
 if cu L [105,102] s=true then rb (p.exp (aC s)) λa s=>rn L [116,104,101,110] s λs=>rb (p.exp s) λb s=>rn L [101,108,115,101] s λs=>rb (p.exp s) λc s=>ry (.mk 8 0 [] [a,b,c] [] []) s
 else if cu L [99,97,115,101] s=true then rb (p.exp (aC s)) λa s=>rn L [111,102] s λs=>p.fA (.mk 9 0 [] [a] [] []) s
 else if cu L [102,110] s=true then p.fA (.mk 7 0 [] [] [] []) (aC s)
 else if cu L [114,97,105,115,101] s=true then rb (p.exp (aC s)) λa s=>ry (.mk 11 0 [] [a] [] []) s
 else rb (p.bin 0 s) λa s=>if cu L [104,97,110,100,108,101] s=true then p.fA (.mk 12 0 [] [a] [] []) (aC s)else ry a s
def Ms (lvl:Nat)(s:bx):Bool:=s.2.isNone&&oK L lvl s.1
def fZ (lvl:Nat)(a:aF)(s:bx):RR aF:=
 if Ms L lvl s=true then(if lvl=2\/lvl=4 then rb (p.bin lvl (aC s)) λb s'=>ry (two (tk L s.1).s a b) s' else rb (p.bin (lvl+1) (aC s)) λb s'=>p.fh lvl (two (tk L s.1).s a b) s')else ry a s
def iD (lvl:Nat)(s:bx):RR aF:=if lvl=7 then p.un s else rb (p.bin (lvl+1) s) λa s=>fZ L p lvl a s
def Hv (s:bx):Bool:=s.2.isNone&&lb L s.1
def yw (a:aF)(s:bx):RR aF:=if Hv L s=true then rb (p.atom s) λb s=>p.fB (.mk 6 0 [] [a,b] [] []) s else ry a s
def UI (s:bx):Bool:=s.2.isNone&&unOp L s.1
def O4 (s:bx):RR aF:=if UI L s=true then rb (p.un (aC s)) λa s'=>ry (.mk 15 0 (tk L s.1).s [a] [] []) s' else rb (p.atom s) λa s=>yw L p a s
def jR (w:List UInt8)(e:aF)(s:bx):RR aF:=if cu L w s=true then rb (p.exp (aC s)) λb s=>p.dF w (e.add b) s else ry e s
def rL (s:bx):RR aF:=
 if cc L 1 s=true then ry (.mk 1 (tk L s.1).n [] [] [] []) (aC s)
 else if cc L 2 s=true then ry (.mk 2 0 (tk L s.1).s [] [] []) (aC s)
 else if cc L 3 s=true then ry (.mk 3 0 (tk L s.1).s [] [] []) (aC s)
 else if cc L 4 s=true then ry (.mk 4 0 (tk L s.1).s [] [] []) (aC s)
 else if cu L [108,101,116] s=true then p.lt (aC s)
 else rn L [40] s λs=>if s.2.isSome=true then ry (.mk 5 0 [] [] [] []) s else if cu L [41] s=true then ry (.mk 5 0 [] [] [] []) (aC s)else rb (p.exp s) λa s=>
  if cu L [44] s=true then rb (jR L p [44] (.mk 5 0 [] [a] [] []) s) λe s=>rn L [41] s λs=>ry e s
  else if cu L [59] s=true then rb (jR L p [59] (.mk 13 0 [] [a] [] []) s) λe s=>rn L [41] s λs=>ry e s
  else rn L [41] s λs=>ry a s
def zW (ds:List aT)(s:bx):RR (List aT):=if s.2.isSome=true then ry ds s else if cu L [105,110] s=true then ry ds (aC s)else rb (p.bind s) λd s=>p.fO (ds++[d.getD kr]) (iS L [59] (if d.isSome=true then s else mO L s))
def O5 (s:bx):RR aF:=rb (zW L p [] s) λds s=>rb (p.exp s) λa s=>
 if cu L [59] s=true then rb (jR L p [59] (.mk 13 0 [] [a] [] []) s) λa s=>rn L [101,110,100] s λs=>ry (.mk 10 0 [] [a] [] ds) s
 else rn L [101,110,100] s λs=>ry (.mk 10 0 [] [a] [] ds) s
def ox (s:bx):Bool:=s.2.isNone&&kq L s.1
def tD (s:bx):RR aZ:=if cc L 4 s=true then(if ox L (aC s)=true then rb (p.bl (aC s)) λb s'=>ry (.mk 6 0 (tk L s.1).s [b]) s' else ry (.mk 6 0 (tk L s.1).s []) (aC s))else p.bl s
def zX (s:bx):RR aZ:=rb (tD L p s) λa s=>if cu L [58,58] s=true then rb (p.pat (aC s)) λb s=>ry (tC a b) s else ry a s
def oy (l:List aZ)(s:bx):RR (List aZ):=if cu L [44] s=true then rb (p.pat (aC s)) λb s=>p.fC (l++[b]) s else ry l s
def lU (s:bx):RR aZ:=
 if cc L 1 s=true then ry (.mk 3 (tk L s.1).n [] []) (aC s)
 else if cc L 2 s=true then ry (.mk 4 0 (tk L s.1).s []) (aC s)
 else if cc L 3 s=true then ry (.mk 2 0 (tk L s.1).s []) (aC s)
 else if cc L 4 s=true then ry (.mk 6 0 (tk L s.1).s []) (aC s)
 else if cu L [95] s=true then ry (.mk 1 0 [] []) (aC s)
 else if cu L [126] s=true then rk L 1 (aC s) λ_ s'=>ry (.mk 3 (IntKind.i64.wrap (-(tk L (s.1+1)).n)) [] []) s'
 else rn L [40] s λs=>if s.2.isSome=true then ry (.mk 5 0 [] []) s else if cu L [41] s=true then ry (.mk 5 0 [] []) (aC s)else rb (p.pat s) λa s=>
  if cu L [44] s=true then rb (oy L p [a] s) λl s=>rn L [41] s λs=>ry (.mk 5 0 [] l) s else rn L [41] s λs=>ry a s
def ku (l:List bg)(s:bx):RR (List bg):=if cu L [42] s=true then rb (p.post (aC s)) λb s=>p.dk (l++[b]) s else ry l s
def kx (s:bx):RR bg:=rb (p.post s) λa s=>if cu L [42] s=true then rb (ku L p [a] s) λl s=>ry (.mk 4 [] l) s else ry a s
def zY (s:bx):RR bg:=rb (kx L p s) λa s=>if cu L [45,62] s=true then rb (p.dH (aC s)) λb s=>ry (.mk 3 [] [a,b]) s else ry a s
def sF (l:List bg)(s:bx):RR (List bg):=if cu L [44] s=true then rb (p.dH (aC s)) λb s=>p.lX (l++[b]) s else ry l s
def jS (s:bx):Bool:=s.2.isNone&&iC L s.1
def iT (a:bg)(s:bx):RR bg:=if jS L s=true then p.cB (.mk 2 (tk L s.1).s [a]) (aC s)else ry a s
def nG (s:bx):RR bg:=
 if(tk L s.1).k=5 then rk L 5 s λt s=>ry (.mk 1 t []) s
 else if jS L s=true then ry (.mk 2 (tk L s.1).s []) (aC s)
 else rn L [40] s λs=>if s.2.isSome=true then ry O3 s else rb (p.dH s) λa s=>
  if cu L [44] s=true then rb (sF L p [a] s) λl s=>rn L [41] s λs=>ry (.mk 2 (if jS L s=true then(tk L s.1).s else[]) l) (if jS L s=true then aC s else mO L s)
  else rn L [41] s λs=>ry a s
def rM (s:bx):RR bg:=rb (nG L p s) λa s=>iT L p a s
def zZ (s:bx):RR cM:=rk L 4 s λt s=>if cu L [111,102] s=true then rb (p.dH (aC s)) λa s=>ry ⟨t,[a]⟩ s else ry ⟨t,[]⟩ s
def yx (l:List Fn)(s:bx):RR (List Fn):=if cu L [97,110,100] s=true then rb (p.fn (aC s)) λf s=>p.fi (l++[f]) s else ry l s
def rN (s:bx):RR (Option aT):=
 if cu L [118,97,108] s=true then rb (p.pat (aC s)) λa s=>rn L [61] s λs=>rb (p.exp s) λe s=>ry (some (.mk 1 a e [] gC ju)) s
 else if cu L [102,117,110] s=true then rb (p.fn (aC s)) λf s=>rb (yx L p [f] s) λl s=>ry (some (.mk 2 jt jO l gC ju)) s
 else ry none s
def we (l:List aZ)(s:bx):RR (List aZ):=if ox L s=true then rb (p.bl s) λq s=>p.lY (l++[q]) s else ry l s
def O6 (s:bx):RR Fn:=rk L 3 s λt s=>rb (p.bl s) λq s=>rb (we L p [q] s) λl s=>rn L [61] s λs=>rb (p.exp s) λe s=>ry (.mk t l e) s
def oz (l:List (List UInt8))(s:bx):RR (List (List UInt8)):=if cu L [44] s=true then rk L 5 (aC s) λt s=>p.fj (l++[t]) s else ry l s
def kz (l:List cM)(s:bx):RR (List cM):=if cu L [124] s=true then rb (p.dS (aC s)) λc s=>p.fk (l++[c]) s else ry l s
def tE (s:bx):RR (List (List UInt8)):=
 if(tk L s.1).k=5 then rk L 5 s λt s=>ry [t] s
 else if cu L [40] s=true then rk L 5 (aC s) λt s=>rb (oz L p [t] s) λl s=>rn L [41] s λs=>ry l s
 else ry [] s
def rO (s:bx):RR Data:=rb (tE L p s) λvs s=>rk L 3 s λt s=>rn L [61] s λs=>rb (p.dS s) λc s=>rb (kz L p [c] s) λl s=>ry ⟨vs,t,l⟩ s
def z1 (s:bx):RR (Option aT):=
 if cu L [100,97,116,97,116,121,112,101] s=true then rb (p.data (aC s)) λx s=>ry (some (.mk 3 jt jO [] x ju)) s
 else if cu L [101,120,99,101,112,116,105,111,110] s=true then rb (p.dS (aC s)) λc s=>ry (some (.mk 4 jt jO [] gC c)) s
 else p.bind s
def rP (ds:List aT)(s:bx):RR (List aT):=
 if s.2.isSome=true then ry ds s else if(tk L s.1).k=0 then ry ds s else rb (p.dec s) λd s=>match d with
  | some d=>p.bM (ds++[d]) (iS L [59] s)
  | none=>rb (p.exp s) λe s=>p.bM (ds++[yv e]) (iS L [59] s)
def O7:RP where
 exp:=zV L p
 fA:=zU L p
 bin:=iD L p
 fh:=fZ L p
 un:=O4 L p
 fB:=yw L p
 atom:=rL L p
 dF:=jR L p
 lt:=O5 L p
 fO:=zW L p
 pat:=zX L p
 bl:=lU L p
 fC:=oy L p
 dH:=zY L p
 dk:=ku L p
 post:=rM L p
 lX:=sF L p
 cB:=iT L p
 dS:=zZ L p
 bind:=rN L p
 fi:=yx L p
 fn:=O6 L p
 lY:=we L p
 dec:=z1 L p
 data:=rO L p
 fj:=oz L p
 fk:=kz L p
 bM:=rP L p
def rp:Nat->RP
 | 0=>RP.none
 | n+1=>O7 L (rp n)
end
variable {L:List Tok}{α β:Type}{t:Int}
def Jk (t:Int)(y:RR α):Prop:=∃a k,y=some (a,(k,some t))
theorem Jk.rb {x:RR α}{g:α->bx->RR β}(h:Jk t x)(hg:∀a k,Jk t (g a (k,some t))):Jk t (rb x g):=by
 obtain⟨a,k,rfl⟩:=h
 exact hg a k
theorem Jk.ry {a:α}{k:Nat}:Jk t (ry a (k,some t)):=⟨a,k,rfl⟩
theorem Jk.rn {w:List UInt8}{k:Nat}{g:bx->RR β}(hg:Jk t (g (k,some t))):Jk t (rn L w (k,some t) g):=hg
theorem Jk.rk {c:Int}{k:Nat}{g:List UInt8->bx->RR β}(hg:Jk t (g [] (k,some t))):Jk t (rk L c (k,some t) g):=hg
theorem Jk.is {w:List UInt8}{k:Nat}{x y:RR β}(h:Jk t y):Jk t (if cu L w (k,some t)=true then x else y):=h
theorem Jk.kd {c:Int}{k:Nat}{x y:RR β}(h:Jk t y):Jk t (if cc L c (k,some t)=true then x else y):=h
theorem Jk.op {lv:Nat}{k:Nat}{x y:RR β}(h:Jk t y):Jk t (if Ms L lv (k,some t)=true then x else y):=h
theorem Jk.lb {k:Nat}{x y:RR β}(h:Jk t y):Jk t (if Hv L (k,some t)=true then x else y):=h
theorem Jk.kq {k:Nat}{x y:RR β}(h:Jk t y):Jk t (if ox L (k,some t)=true then x else y):=h
theorem Jk.un {k:Nat}{x y:RR β}(h:Jk t y):Jk t (if UI L (k,some t)=true then x else y):=h
theorem Jk.UJ {k:Nat}{x y:RR β}(h:Jk t y):Jk t (if jS L (k,some t)=true then x else y):=h
theorem Jk.bad {k:Nat}{x y:RR β}(h:Jk t x):Jk t (if(((k,some t):bx).2.isSome)=true then x else y):=h
theorem Jk.ite {c:Prop}[Decidable c]{x y:RR β}(h:Jk t x)(h':Jk t y):Jk t (if c then x else y):=by
 by_cases hc:c
 . rw[if_pos hc];exact h
 . rw[if_neg hc];exact h'
structure bY (n:Nat)(p:RP):Prop where
 exp:∀  k t,10<n->Jk t (p.exp  (k,some t))
 fA:∀e k t,0<n->Jk t (p.fA e (k,some t))
 bin:∀lv k t,lv<=7->9-lv<n->Jk t (p.bin lv (k,some t))
 fh:∀lv a k t,0<n->Jk t (p.fh lv a (k,some t))
 un:∀  k t,1<n->Jk t (p.un  (k,some t))
 fB:∀e k t,0<n->Jk t (p.fB e (k,some t))
 atom:∀  k t,0<n->Jk t (p.atom  (k,some t))
 dF:∀w e k t,0<n->Jk t (p.dF w e (k,some t))
 lt:∀  k t,11<n->Jk t (p.lt  (k,some t))
 fO:∀e k t,0<n->Jk t (p.fO e (k,some t))
 pat:∀  k t,1<n->Jk t (p.pat  (k,some t))
 bl:∀  k t,0<n->Jk t (p.bl  (k,some t))
 fC:∀e k t,0<n->Jk t (p.fC e (k,some t))
 dH:∀  k t,1<n->Jk t (p.dH  (k,some t))
 dk:∀e k t,0<n->Jk t (p.dk e (k,some t))
 post:∀  k t,0<n->Jk t (p.post  (k,some t))
 lX:∀e k t,0<n->Jk t (p.lX e (k,some t))
 cB:∀e k t,0<n->Jk t (p.cB e (k,some t))
 dS:∀  k t,0<n->Jk t (p.dS  (k,some t))
 bind:∀  k t,0<n->Jk t (p.bind  (k,some t))
 fi:∀e k t,0<n->Jk t (p.fi e (k,some t))
 fn:∀  k t,11<n->Jk t (p.fn  (k,some t))
 lY:∀e k t,0<n->Jk t (p.lY e (k,some t))
 dec:∀  k t,1<n->Jk t (p.dec  (k,some t))
 data:∀  k t,1<n->Jk t (p.data  (k,some t))
 fj:∀e k t,0<n->Jk t (p.fj e (k,some t))
 fk:∀e k t,0<n->Jk t (p.fk e (k,some t))
 bM:∀e k t,0<n->Jk t (p.bM e (k,some t))
variable {n:Nat}{p:RP}
theorem O8 (h:bY n p):∀  k t,10<n+1->Jk t (zV L p  (k,some t)):=by
 intro  k t hn
 unfold zV
 repeat' (first
 | exact Jk.ry
 | with_reducible refine Jk.is ?_
 | refine Jk.rn ?_
 | with_reducible exact h.exp _ _ (by omega)
 | with_reducible refine Jk.rb (h.exp _ _ (by omega)) (λa k1=> ?_)
 | with_reducible exact h.fA _ _ _ (by omega)
 | with_reducible refine Jk.rb (h.fA _ _ _ (by omega)) (λa k1=> ?_)
 | with_reducible exact h.bin _ _ _ (by omega) (by omega)
 | with_reducible refine Jk.rb (h.bin _ _ _ (by omega) (by omega)) (λa k1=> ?_))
theorem O9 (h:bY n p):∀e k t,0<n+1->Jk t (zU L p e (k,some t)):=by
 intro e k t hn
 unfold zU
 repeat' (first
 | exact Jk.ry
 | with_reducible refine Jk.is ?_
 | with_reducible refine Jk.bad ?_
 | refine Jk.rn ?_
 | with_reducible exact h.exp _ _ (by omega)
 | with_reducible refine Jk.rb (h.exp _ _ (by omega)) (λa k1=> ?_)
 | with_reducible exact h.fA _ _ _ (by omega)
 | with_reducible refine Jk.rb (h.fA _ _ _ (by omega)) (λa k1=> ?_)
 | with_reducible exact h.pat _ _ (by omega)
 | with_reducible refine Jk.rb (h.pat _ _ (by omega)) (λa k1=> ?_))
theorem wg (h:bY n p):∀lv a k t,0<n+1->Jk t (fZ L p lv a (k,some t)):=by
 intro lv a k t hn
 unfold fZ
 repeat' (first
 | exact Jk.ry
 | with_reducible refine Jk.op ?_
 | with_reducible exact h.bin _ _ _ (by omega) (by omega)
 | with_reducible refine Jk.rb (h.bin _ _ _ (by omega) (by omega)) (λa k1=> ?_)
 | with_reducible exact h.fh _ _ _ _ (by omega)
 | with_reducible refine Jk.rb (h.fh _ _ _ _ (by omega)) (λa k1=> ?_)
 | with_reducible refine Jk.ite ?_ ?_)
theorem O_ (h:bY n p):∀lv k t,lv<=7->9-lv<n+1->Jk t (iD L p lv (k,some t)):=by
 intro lv k t hl hn
 unfold iD
 by_cases h7:lv=7
 . rw[if_pos h7];exact h.un _ _ (by omega)
 . rw[if_neg h7];exact Jk.rb (h.bin (lv+1) k t (by omega) (by omega)) λa k1=>wg h _ _ _ _ (by omega)
theorem rQ (h:bY n p):∀e k t,0<n+1->Jk t (yw L p e (k,some t)):=by
 intro e k t hn
 unfold yw
 repeat' (first
 | exact Jk.ry
 | with_reducible refine Jk.lb ?_
 | with_reducible exact h.fB _ _ _ (by omega)
 | with_reducible refine Jk.rb (h.fB _ _ _ (by omega)) (λa k1=> ?_)
 | with_reducible exact h.atom _ _ (by omega)
 | with_reducible refine Jk.rb (h.atom _ _ (by omega)) (λa k1=> ?_))
theorem RU (h:bY n p):∀  k t,1<n+1->Jk t (O4 L p  (k,some t)):=by
 intro  k t hn
 unfold O4
 repeat' (first
 | exact Jk.ry
 | with_reducible refine Jk.un ?_
 | with_reducible exact h.un _ _ (by omega)
 | with_reducible refine Jk.rb (h.un _ _ (by omega)) (λa k1=> ?_)
 | with_reducible exact h.atom _ _ (by omega)
 | with_reducible refine Jk.rb (h.atom _ _ (by omega)) (λa k1=> ?_)
 | with_reducible exact rQ h _ _ _ (by omega)
 | with_reducible refine Jk.rb (rQ h _ _ _ (by omega)) (λa k1=> ?_))
theorem jz (h:bY n p):∀w e k t,0<n+1->Jk t (jR L p w e (k,some t)):=by
 intro w e k t hn
 unfold jR
 repeat' (first
 | exact Jk.ry
 | with_reducible refine Jk.is ?_
 | with_reducible exact h.exp _ _ (by omega)
 | with_reducible refine Jk.rb (h.exp _ _ (by omega)) (λa k1=> ?_)
 | with_reducible exact h.dF _ _ _ _ (by omega)
 | with_reducible refine Jk.rb (h.dF _ _ _ _ (by omega)) (λa k1=> ?_))
theorem J7 (h:bY n p):∀  k t,0<n+1->Jk t (rL L p  (k,some t)):=by
 intro  k t hn
 unfold rL
 repeat' (first
 | exact Jk.ry
 | with_reducible refine Jk.is ?_
 | with_reducible refine Jk.kd ?_
 | with_reducible refine Jk.bad ?_
 | refine Jk.rn ?_
 | with_reducible exact h.exp _ _ (by omega)
 | with_reducible refine Jk.rb (h.exp _ _ (by omega)) (λa k1=> ?_)
 | with_reducible exact h.lt _ _ (by omega)
 | with_reducible refine Jk.rb (h.lt _ _ (by omega)) (λa k1=> ?_)
 | with_reducible exact jz h _ _ _ _ (by omega)
 | with_reducible refine Jk.rb (jz h _ _ _ _ (by omega)) (λa k1=> ?_))
theorem rR (h:bY n p):∀e k t,0<n+1->Jk t (zW L p e (k,some t)):=by
 intro e k t hn
 exact Jk.ry
theorem RV (h:bY n p):∀  k t,11<n+1->Jk t (O5 L p  (k,some t)):=by
 intro  k t hn
 unfold O5
 repeat' (first
 | exact Jk.ry
 | with_reducible refine Jk.is ?_
 | refine Jk.rn ?_
 | with_reducible exact h.exp _ _ (by omega)
 | with_reducible refine Jk.rb (h.exp _ _ (by omega)) (λa k1=> ?_)
 | with_reducible exact rR h _ _ _ (by omega)
 | with_reducible refine Jk.rb (rR h _ _ _ (by omega)) (λa k1=> ?_)
 | with_reducible exact jz h _ _ _ _ (by omega)
 | with_reducible refine Jk.rb (jz h _ _ _ _ (by omega)) (λa k1=> ?_))
theorem pD (h:bY n p):∀k t,1<n+1->Jk t (tD L p (k,some t)):=by
 intro k t hn
 unfold tD
 repeat' (first
 | exact Jk.ry
 | with_reducible refine Jk.kd ?_
 | with_reducible refine Jk.kq ?_
 | with_reducible exact h.bl _ _ (by omega)
 | with_reducible refine Jk.rb (h.bl _ _ (by omega)) (λa k1=> ?_))
theorem Pa (h:bY n p):∀  k t,1<n+1->Jk t (zX L p  (k,some t)):=by
 intro  k t hn
 unfold zX
 repeat' (first
 | exact Jk.ry
 | with_reducible refine Jk.is ?_
 | with_reducible exact h.pat _ _ (by omega)
 | with_reducible refine Jk.rb (h.pat _ _ (by omega)) (λa k1=> ?_)
 | with_reducible exact pD h _ _ (by omega)
 | with_reducible refine Jk.rb (pD h _ _ (by omega)) (λa k1=> ?_))
theorem mP (h:bY n p):∀e k t,0<n+1->Jk t (oy L p e (k,some t)):=by
 intro e k t hn
 unfold oy
 repeat' (first
 | exact Jk.ry
 | with_reducible refine Jk.is ?_
 | with_reducible exact h.pat _ _ (by omega)
 | with_reducible refine Jk.rb (h.pat _ _ (by omega)) (λa k1=> ?_)
 | with_reducible exact h.fC _ _ _ (by omega)
 | with_reducible refine Jk.rb (h.fC _ _ _ (by omega)) (λa k1=> ?_))
theorem Hw (h:bY n p):∀  k t,0<n+1->Jk t (lU L p  (k,some t)):=by
 intro  k t hn
 unfold lU
 repeat' (first
 | exact Jk.ry
 | with_reducible refine Jk.is ?_
 | with_reducible refine Jk.kd ?_
 | with_reducible refine Jk.bad ?_
 | refine Jk.rn ?_
 | refine Jk.rk ?_
 | with_reducible exact h.pat _ _ (by omega)
 | with_reducible refine Jk.rb (h.pat _ _ (by omega)) (λa k1=> ?_)
 | with_reducible exact mP h _ _ _ (by omega)
 | with_reducible refine Jk.rb (mP h _ _ _ (by omega)) (λa k1=> ?_))
theorem kA (h:bY n p):∀e k t,0<n+1->Jk t (ku L p e (k,some t)):=by
 intro e k t hn
 unfold ku
 repeat' (first
 | exact Jk.ry
 | with_reducible refine Jk.is ?_
 | with_reducible exact h.dk _ _ _ (by omega)
 | with_reducible refine Jk.rb (h.dk _ _ _ (by omega)) (λa k1=> ?_)
 | with_reducible exact h.post _ _ (by omega)
 | with_reducible refine Jk.rb (h.post _ _ (by omega)) (λa k1=> ?_))
theorem mQ (h:bY n p):∀k t,1<n+1->Jk t (kx L p (k,some t)):=by
 intro k t hn
 unfold kx
 repeat' (first
 | exact Jk.ry
 | with_reducible refine Jk.is ?_
 | with_reducible exact h.post _ _ (by omega)
 | with_reducible refine Jk.rb (h.post _ _ (by omega)) (λa k1=> ?_)
 | with_reducible exact kA h _ _ _ (by omega)
 | with_reducible refine Jk.rb (kA h _ _ _ (by omega)) (λa k1=> ?_))
theorem Pb (h:bY n p):∀  k t,1<n+1->Jk t (zY L p  (k,some t)):=by
 intro  k t hn
 unfold zY
 repeat' (first
 | exact Jk.ry
 | with_reducible refine Jk.is ?_
 | with_reducible exact h.dH _ _ (by omega)
 | with_reducible refine Jk.rb (h.dH _ _ (by omega)) (λa k1=> ?_)
 | with_reducible exact mQ h _ _ (by omega)
 | with_reducible refine Jk.rb (mQ h _ _ (by omega)) (λa k1=> ?_))
theorem z2 (h:bY n p):∀e k t,0<n+1->Jk t (sF L p e (k,some t)):=by
 intro e k t hn
 unfold sF
 repeat' (first
 | exact Jk.ry
 | with_reducible refine Jk.is ?_
 | with_reducible exact h.dH _ _ (by omega)
 | with_reducible refine Jk.rb (h.dH _ _ (by omega)) (λa k1=> ?_)
 | with_reducible exact h.lX _ _ _ (by omega)
 | with_reducible refine Jk.rb (h.lX _ _ _ (by omega)) (λa k1=> ?_))
theorem mR (h:bY n p):∀k t,0<n+1->Jk t (nG L p (k,some t)):=by
 intro k t hn
 unfold nG
 repeat' (first
 | exact Jk.ry
 | with_reducible refine Jk.is ?_
 | with_reducible refine Jk.UJ ?_
 | with_reducible refine Jk.bad ?_
 | refine Jk.rn ?_
 | refine Jk.rk ?_
 | with_reducible exact h.dH _ _ (by omega)
 | with_reducible refine Jk.rb (h.dH _ _ (by omega)) (λa k1=> ?_)
 | with_reducible exact z2 h _ _ _ (by omega)
 | with_reducible refine Jk.rb (z2 h _ _ _ (by omega)) (λa k1=> ?_)
 | with_reducible refine Jk.ite ?_ ?_)
theorem mS (h:bY n p):∀e k t,0<n+1->Jk t (iT L p e (k,some t)):=by
 intro e k t hn
 unfold iT
 repeat' (first
 | exact Jk.ry
 | with_reducible refine Jk.UJ ?_
 | with_reducible exact h.cB _ _ _ (by omega)
 | with_reducible refine Jk.rb (h.cB _ _ _ (by omega)) (λa k1=> ?_))
theorem J8 (h:bY n p):∀  k t,0<n+1->Jk t (rM L p  (k,some t)):=by
 intro  k t hn
 unfold rM
 repeat' (first
 | exact Jk.ry
 | with_reducible exact mR h _ _ (by omega)
 | with_reducible refine Jk.rb (mR h _ _ (by omega)) (λa k1=> ?_)
 | with_reducible exact mS h _ _ _ (by omega)
 | with_reducible refine Jk.rb (mS h _ _ _ (by omega)) (λa k1=> ?_))
theorem Pc (h:bY n p):∀  k t,0<n+1->Jk t (zZ L p  (k,some t)):=by
 intro  k t hn
 unfold zZ
 repeat' (first
 | exact Jk.ry
 | with_reducible refine Jk.is ?_
 | refine Jk.rk ?_
 | with_reducible exact h.dH _ _ (by omega)
 | with_reducible refine Jk.rb (h.dH _ _ (by omega)) (λa k1=> ?_))
theorem rS (h:bY n p):∀e k t,0<n+1->Jk t (yx L p e (k,some t)):=by
 intro e k t hn
 unfold yx
 repeat' (first
 | exact Jk.ry
 | with_reducible refine Jk.is ?_
 | with_reducible exact h.fi _ _ _ (by omega)
 | with_reducible refine Jk.rb (h.fi _ _ _ (by omega)) (λa k1=> ?_)
 | with_reducible exact h.fn _ _ (by omega)
 | with_reducible refine Jk.rb (h.fn _ _ (by omega)) (λa k1=> ?_))
theorem J9 (h:bY n p):∀  k t,0<n+1->Jk t (rN L p  (k,some t)):=by
 intro  k t hn
 unfold rN
 repeat' (first
 | exact Jk.ry
 | with_reducible refine Jk.is ?_
 | refine Jk.rn ?_
 | with_reducible exact h.exp _ _ (by omega)
 | with_reducible refine Jk.rb (h.exp _ _ (by omega)) (λa k1=> ?_)
 | with_reducible exact h.pat _ _ (by omega)
 | with_reducible refine Jk.rb (h.pat _ _ (by omega)) (λa k1=> ?_)
 | with_reducible exact h.fn _ _ (by omega)
 | with_reducible refine Jk.rb (h.fn _ _ (by omega)) (λa k1=> ?_)
 | with_reducible exact rS h _ _ _ (by omega)
 | with_reducible refine Jk.rb (rS h _ _ _ (by omega)) (λa k1=> ?_))
theorem rT (h:bY n p):∀e k t,0<n+1->Jk t (we L p e (k,some t)):=by
 intro e k t hn
 unfold we
 repeat' (first
 | exact Jk.ry
 | with_reducible refine Jk.kq ?_
 | with_reducible exact h.bl _ _ (by omega)
 | with_reducible refine Jk.rb (h.bl _ _ (by omega)) (λa k1=> ?_)
 | with_reducible exact h.lY _ _ _ (by omega)
 | with_reducible refine Jk.rb (h.lY _ _ _ (by omega)) (λa k1=> ?_))
theorem RW (h:bY n p):∀  k t,11<n+1->Jk t (O6 L p  (k,some t)):=by
 intro  k t hn
 unfold O6
 repeat' (first
 | exact Jk.ry
 | refine Jk.rn ?_
 | refine Jk.rk ?_
 | with_reducible exact h.exp _ _ (by omega)
 | with_reducible refine Jk.rb (h.exp _ _ (by omega)) (λa k1=> ?_)
 | with_reducible exact h.bl _ _ (by omega)
 | with_reducible refine Jk.rb (h.bl _ _ (by omega)) (λa k1=> ?_)
 | with_reducible exact rT h _ _ _ (by omega)
 | with_reducible refine Jk.rb (rT h _ _ _ (by omega)) (λa k1=> ?_))
theorem Pd (h:bY n p):∀  k t,1<n+1->Jk t (z1 L p  (k,some t)):=by
 intro  k t hn
 unfold z1
 repeat' (first
 | exact Jk.ry
 | with_reducible refine Jk.is ?_
 | with_reducible exact h.dS _ _ (by omega)
 | with_reducible refine Jk.rb (h.dS _ _ (by omega)) (λa k1=> ?_)
 | with_reducible exact h.bind _ _ (by omega)
 | with_reducible refine Jk.rb (h.bind _ _ (by omega)) (λa k1=> ?_)
 | with_reducible exact h.data _ _ (by omega)
 | with_reducible refine Jk.rb (h.data _ _ (by omega)) (λa k1=> ?_))
theorem wh (h:bY n p):∀e k t,0<n+1->Jk t (oz L p e (k,some t)):=by
 intro e k t hn
 unfold oz
 repeat' (first
 | exact Jk.ry
 | with_reducible refine Jk.is ?_
 | refine Jk.rk ?_
 | with_reducible exact h.fj _ _ _ (by omega)
 | with_reducible refine Jk.rb (h.fj _ _ _ (by omega)) (λa k1=> ?_))
theorem pE (h:bY n p):∀k t,0<n+1->Jk t (tE L p (k,some t)):=by
 intro k t hn
 unfold tE
 repeat' (first
 | exact Jk.ry
 | with_reducible refine Jk.is ?_
 | refine Jk.rn ?_
 | refine Jk.rk ?_
 | with_reducible exact wh h _ _ _ (by omega)
 | with_reducible refine Jk.rb (wh h _ _ _ (by omega)) (λa k1=> ?_)
 | with_reducible refine Jk.ite ?_ ?_)
theorem mT (h:bY n p):∀e k t,0<n+1->Jk t (kz L p e (k,some t)):=by
 intro e k t hn
 unfold kz
 repeat' (first
 | exact Jk.ry
 | with_reducible refine Jk.is ?_
 | with_reducible exact h.dS _ _ (by omega)
 | with_reducible refine Jk.rb (h.dS _ _ (by omega)) (λa k1=> ?_)
 | with_reducible exact h.fk _ _ _ (by omega)
 | with_reducible refine Jk.rb (h.fk _ _ _ (by omega)) (λa k1=> ?_))
theorem J_ (h:bY n p):∀  k t,1<n+1->Jk t (rO L p  (k,some t)):=by
 intro  k t hn
 unfold rO
 repeat' (first
 | exact Jk.ry
 | refine Jk.rn ?_
 | refine Jk.rk ?_
 | with_reducible exact h.dS _ _ (by omega)
 | with_reducible refine Jk.rb (h.dS _ _ (by omega)) (λa k1=> ?_)
 | with_reducible exact pE h _ _ (by omega)
 | with_reducible refine Jk.rb (pE h _ _ (by omega)) (λa k1=> ?_)
 | with_reducible exact mT h _ _ _ (by omega)
 | with_reducible refine Jk.rb (mT h _ _ _ (by omega)) (λa k1=> ?_))
theorem Ka (h:bY n p):∀e k t,0<n+1->Jk t (rP L p e (k,some t)):=by
 intro e k t hn
 unfold rP
 repeat' (first
 | exact Jk.ry
 | with_reducible refine Jk.bad ?_
 | with_reducible exact h.exp _ _ (by omega)
 | with_reducible refine Jk.rb (h.exp _ _ (by omega)) (λa k1=> ?_)
 | with_reducible exact h.dec _ _ (by omega)
 | with_reducible refine Jk.rb (h.dec _ _ (by omega)) (λa k1=> ?_)
 | with_reducible exact h.bM _ _ _ (by omega)
 | with_reducible refine Jk.rb (h.bM _ _ _ (by omega)) (λa k1=> ?_)
 | with_reducible refine Jk.ite ?_ ?_)
theorem RX:∀n,bY n (rp L n)
 | 0=>by constructor<;>intros<;>omega
 | n+1=>by
   have h:=RX n
   exact {
    exp:=O8 (L:=L) h
    fA:=O9 (L:=L) h
    bin:=O_ (L:=L) h
    fh:=wg (L:=L) h
    un:=RU (L:=L) h
    fB:=rQ (L:=L) h
    atom:=J7 (L:=L) h
    dF:=jz (L:=L) h
    lt:=RV (L:=L) h
    fO:=rR (L:=L) h
    pat:=Pa (L:=L) h
    bl:=Hw (L:=L) h
    fC:=mP (L:=L) h
    dH:=Pb (L:=L) h
    dk:=kA (L:=L) h
    post:=J8 (L:=L) h
    lX:=z2 (L:=L) h
    cB:=mS (L:=L) h
    dS:=Pc (L:=L) h
    bind:=J9 (L:=L) h
    fi:=rS (L:=L) h
    fn:=RW (L:=L) h
    lY:=rT (L:=L) h
    dec:=Pd (L:=L) h
    data:=J_ (L:=L) h
    fj:=wh (L:=L) h
    fk:=mT (L:=L) h
    bM:=Ka (L:=L) h }
def Rl (x:PR α)(y:RR α):Prop:=match x with
 | none=>True
 | some (.ok a k)=>y=some (a,(k,none))
 | some (.bad t)=>Jk t y
theorem Rl.bd {x:PR α}{y:RR α}{f:α->Nat->PR β}{g:α->bx->RR β}(h:Rl x y)(hf:∀a k,Rl (f a k) (g a (k,none)))(hg:∀a k t,Jk t (g a (k,some t))):Rl (bd x f) (rb y g):=by
 cases x with
 | none=>trivial
 | some r=>
   cases r with
   | ok a k=>
     have h:y=some (a,(k,none)):=h
     subst h
     exact hf a k
   | bad t=>exact Jk.rb h λa k=>hg a k t
theorem Rl.yes {a:α}{k:Nat}:Rl (yes a k) (ry a (k,none)):=rfl
theorem Rl.fail {k:Nat}{a:α}:Rl (kp L k) (ry a (mO L (k,none))):=⟨a,k,rfl⟩
theorem Rl.aS {w:List UInt8}{k:Nat}{f:Nat->PR β}{g:bx->RR β}(hf:Rl (f (k+1)) (g (k+1,none)))(hg:∀t,Jk t (g (k,some t))):Rl (aS L w k f) (rn L w (k,none) g):=by
 unfold Go.Proofs.YthjhonhhbddhkaaGreatDoor.aS Go.Proofs.YthjhonhhbddhkaaGreatDoor.rn dT
 by_cases hi:dD L k w=true
 . rw[if_pos hi,if_pos (show cu L w (k,none)=true from hi)];exact hf
 . rw[if_neg hi,if_neg (show ¬cu L w (k,none)=true from hi)];exact hg _
theorem Rl.bo {c:Int}{k:Nat}{f:Tok->Nat->PR β}{g:List UInt8->bx->RR β}(hf:Rl (f (tk L k) (k+1)) (g (tk L k).s (k+1,none)))(hg:∀t,Jk t (g [] (k,some t))):Rl (bo L c k f) (rk L c (k,none) g):=by
 unfold Go.Proofs.YthjhonhhbddhkaaGreatDoor.bo Go.Proofs.YthjhonhhbddhkaaGreatDoor.rk
 by_cases hi:(tk L k).k=c
 . have h2:cc L c (k,none)=true:=decide_eq_true hi
   rw[if_pos hi,if_pos h2,if_pos h2];exact hf
 . have h2:¬cc L c (k,none)=true:=λq=>hi (of_decide_eq_true q)
   rw[if_neg hi,if_neg h2,if_neg h2];exact hg _
theorem Rl.ch {b b':Bool}{x y:PR β}{x' y':RR β}(e:b'=b)(h:b=true->Rl x x')(h':Rl y y'):Rl (if b=true then x else y) (if b'=true then x' else y'):=by
 subst e
 by_cases hi:b'=true
 . rw[if_pos hi,if_pos hi];exact h hi
 . rw[if_neg hi,if_neg hi];exact h'
theorem Rl.eR {c:Int}{k:Nat}{x y:PR β}{x' y':RR β}(h:(tk L k).k=c->Rl x x')(h':Rl y y'):Rl (if(tk L k).k=c then x else y) (if cc L c (k,none)=true then x' else y'):=by
 by_cases hi:(tk L k).k=c
 . rw[if_pos hi,if_pos (show cc L c (k,none)=true from decide_eq_true hi)];exact h hi
 . rw[if_neg hi,if_neg (λq:cc L c (k,none)=true=>hi (of_decide_eq_true q))];exact h'
theorem Rl.Pe {c:Prop}[Decidable c]{x y:PR β}{x' y':RR β}(h:c->Rl x x')(h':¬c->Rl y y'):Rl (if c then x else y) (if c then x' else y'):=by
 by_cases hi:c
 . rw[if_pos hi,if_pos hi];exact h hi
 . rw[if_neg hi,if_neg hi];exact h' hi
theorem Rl.fQ {k:Nat}{x:PR β}{x' y':RR β}(h:Rl x y'):Rl x (if(((k,none):bx).2.isSome)=true then x' else y'):=h
theorem lV {w:List UInt8}{k:Nat}:iS L w (k,none)=(skip L w k,none):=by
 unfold iS skip
 by_cases hi:dD L k w=true
 . rw[if_pos (show cu L w (k,none)=true from hi),if_pos hi];rfl
 . rw[if_neg (show ¬cu L w (k,none)=true from hi),if_neg hi]
structure eU (q:PS)(p:RP):Prop where
 exp:∀  k,Rl (q.exp  k) (p.exp  (k,none))
 fA:∀e k,Rl (q.fA e k) (p.fA e (k,none))
 bin:∀lv k,Rl (q.bin lv k) (p.bin lv (k,none))
 fh:∀lv a k,Rl (q.fh lv a k) (p.fh lv a (k,none))
 un:∀  k,Rl (q.un  k) (p.un  (k,none))
 fB:∀e k,Rl (q.fB e k) (p.fB e (k,none))
 atom:∀  k,Rl (q.atom  k) (p.atom  (k,none))
 dF:∀w e k,Rl (q.dF w e k) (p.dF w e (k,none))
 lt:∀  k,Rl (q.lt  k) (p.lt  (k,none))
 fO:∀e k,Rl (q.fO e k) (p.fO e (k,none))
 pat:∀  k,Rl (q.pat  k) (p.pat  (k,none))
 bl:∀  k,Rl (q.bl  k) (p.bl  (k,none))
 fC:∀e k,Rl (q.fC e k) (p.fC e (k,none))
 dH:∀  k,Rl (q.dH  k) (p.dH  (k,none))
 dk:∀e k,Rl (q.dk e k) (p.dk e (k,none))
 post:∀  k,Rl (q.post  k) (p.post  (k,none))
 lX:∀e k,Rl (q.lX e k) (p.lX e (k,none))
 cB:∀e k,Rl (q.cB e k) (p.cB e (k,none))
 dS:∀  k,Rl (q.dS  k) (p.dS  (k,none))
 bind:∀  k,Rl (q.bind  k) (p.bind  (k,none))
 fi:∀e k,Rl (q.fi e k) (p.fi e (k,none))
 fn:∀  k,Rl (q.fn  k) (p.fn  (k,none))
 lY:∀e k,Rl (q.lY e k) (p.lY e (k,none))
 dec:∀  k,Rl (q.dec  k) (p.dec  (k,none))
 data:∀  k,Rl (q.data  k) (p.data  (k,none))
 fj:∀e k,Rl (q.fj e k) (p.fj e (k,none))
 fk:∀e k,Rl (q.fk e k) (p.fk e (k,none))
 bM:∀e k,Rl (q.bM e k) (p.bM e (k,none))
variable {q:PS}
theorem Pf (h:eU q p)(hj:bY (n+15) p):∀  k,Rl (vX L q  k) (zV L p  (k,none)):=by
 intro  k
 unfold vX zV
 repeat' (first
 | exact Rl.yes
 | with_reducible refine Rl.fQ ?_
 | with_reducible refine Rl.ch (b':=cu L _ _) rfl (λhi=> ?_) ?_
 | with_reducible refine Rl.eR (λhi=> ?_) ?_
 | with_reducible refine Rl.ch rfl (λhi=> ?_) ?_
 | refine Rl.aS ?_ (λt=> ?_)
 | refine Rl.bo ?_ (λt=> ?_)
 | exact h.exp _
 | with_reducible refine Rl.bd (h.exp _) (λa k1=> ?_) (λa k1 t=> ?_)
 | exact h.fA _ _
 | with_reducible refine Rl.bd (h.fA _ _) (λa k1=> ?_) (λa k1 t=> ?_)
 | exact h.bin _ _
 | with_reducible refine Rl.bd (h.bin _ _) (λa k1=> ?_) (λa k1 t=> ?_)
 | exact Jk.ry
 | with_reducible refine Jk.is ?_
 | refine Jk.rn ?_
 | with_reducible exact hj.exp _ _ (by omega)
 | with_reducible refine Jk.rb (hj.exp _ _ (by omega)) (λa k1=> ?_)
 | with_reducible exact hj.fA _ _ _ (by omega)
 | with_reducible refine Jk.rb (hj.fA _ _ _ (by omega)) (λa k1=> ?_)
 | with_reducible exact hj.bin _ _ _ (by omega) (by omega)
 | with_reducible refine Jk.rb (hj.bin _ _ _ (by omega) (by omega)) (λa k1=> ?_))
theorem Pg (h:eU q p)(hj:bY (n+15) p):∀e k,Rl (vW L q e k) (zU L p e (k,none)):=by
 intro e k
 unfold vW zU
 repeat' (first
 | exact Rl.yes
 | with_reducible refine Rl.fQ ?_
 | with_reducible refine Rl.ch (b':=cu L _ _) rfl (λhi=> ?_) ?_
 | with_reducible refine Rl.eR (λhi=> ?_) ?_
 | with_reducible refine Rl.ch rfl (λhi=> ?_) ?_
 | refine Rl.aS ?_ (λt=> ?_)
 | refine Rl.bo ?_ (λt=> ?_)
 | exact h.exp _
 | with_reducible refine Rl.bd (h.exp _) (λa k1=> ?_) (λa k1 t=> ?_)
 | exact h.fA _ _
 | with_reducible refine Rl.bd (h.fA _ _) (λa k1=> ?_) (λa k1 t=> ?_)
 | exact h.pat _
 | with_reducible refine Rl.bd (h.pat _) (λa k1=> ?_) (λa k1 t=> ?_)
 | exact Jk.ry
 | with_reducible refine Jk.is ?_
 | with_reducible refine Jk.bad ?_
 | refine Jk.rn ?_
 | with_reducible exact hj.exp _ _ (by omega)
 | with_reducible refine Jk.rb (hj.exp _ _ (by omega)) (λa k1=> ?_)
 | with_reducible exact hj.fA _ _ _ (by omega)
 | with_reducible refine Jk.rb (hj.fA _ _ _ (by omega)) (λa k1=> ?_)
 | with_reducible exact hj.pat _ _ (by omega)
 | with_reducible refine Jk.rb (hj.pat _ _ (by omega)) (λa k1=> ?_))
theorem Hx (h:eU q p)(hj:bY (n+15) p):∀lv a k,Rl (sA L q lv a k) (fZ L p lv a (k,none)):=by
 intro lv a k
 unfold sA fZ
 refine Rl.ch rfl (λhi=> ?_) Rl.yes
 refine Rl.Pe (λh2=>Rl.bd (h.bin _ _) (λb k1=>Rl.yes) λb k1 t=>Jk.ry) (λh2=>Rl.bd (h.bin _ _) (λb k1=>h.fh _ _ _) λb k1 t=>hj.fh _ _ _ _ (by omega))
theorem Ph (h:eU q p)(hj:bY (n+15) p):∀lv k,Rl (vY L q lv k) (iD L p lv (k,none)):=by
 intro lv k
 unfold vY iD
 refine Rl.Pe (λh7=>h.un k) (λh7=>Rl.bd (h.bin _ _) (λa k1=>Hx h hj _ _ _) λa k1 t=>wg hj _ _ _ _ (by omega))
theorem z3 (h:eU q p)(hj:bY (n+15) p):∀e k,Rl (sB L q e k) (yw L p e (k,none)):=by
 intro e k
 unfold sB yw
 repeat' (first
 | exact Rl.yes
 | with_reducible refine Rl.fQ ?_
 | with_reducible refine Rl.ch (b':=cu L _ _) rfl (λhi=> ?_) ?_
 | with_reducible refine Rl.eR (λhi=> ?_) ?_
 | with_reducible refine Rl.ch rfl (λhi=> ?_) ?_
 | refine Rl.aS ?_ (λt=> ?_)
 | refine Rl.bo ?_ (λt=> ?_)
 | exact h.fB _ _
 | with_reducible refine Rl.bd (h.fB _ _) (λa k1=> ?_) (λa k1 t=> ?_)
 | exact h.atom _
 | with_reducible refine Rl.bd (h.atom _) (λa k1=> ?_) (λa k1 t=> ?_)
 | exact Jk.ry
 | with_reducible refine Jk.lb ?_
 | with_reducible exact hj.fB _ _ _ (by omega)
 | with_reducible refine Jk.rb (hj.fB _ _ _ (by omega)) (λa k1=> ?_)
 | with_reducible exact hj.atom _ _ (by omega)
 | with_reducible refine Jk.rb (hj.atom _ _ (by omega)) (λa k1=> ?_))
theorem RY (h:eU q p)(hj:bY (n+15) p):∀  k,Rl (JV L q  k) (O4 L p  (k,none)):=by
 intro  k
 unfold JV O4
 repeat' (first
 | exact Rl.yes
 | with_reducible refine Rl.fQ ?_
 | with_reducible refine Rl.ch (b':=cu L _ _) rfl (λhi=> ?_) ?_
 | with_reducible refine Rl.eR (λhi=> ?_) ?_
 | with_reducible refine Rl.ch rfl (λhi=> ?_) ?_
 | refine Rl.aS ?_ (λt=> ?_)
 | refine Rl.bo ?_ (λt=> ?_)
 | exact h.un _
 | with_reducible refine Rl.bd (h.un _) (λa k1=> ?_) (λa k1 t=> ?_)
 | exact h.atom _
 | with_reducible refine Rl.bd (h.atom _) (λa k1=> ?_) (λa k1 t=> ?_)
 | exact z3 h hj _ _
 | with_reducible refine Rl.bd (z3 h hj _ _) (λa k1=> ?_) (λa k1 t=> ?_)
 | exact Jk.ry
 | with_reducible refine Jk.un ?_
 | with_reducible exact hj.un _ _ (by omega)
 | with_reducible refine Jk.rb (hj.un _ _ (by omega)) (λa k1=> ?_)
 | with_reducible exact hj.atom _ _ (by omega)
 | with_reducible refine Jk.rb (hj.atom _ _ (by omega)) (λa k1=> ?_)
 | with_reducible exact rQ hj _ _ _ (by omega)
 | with_reducible refine Jk.rb (rQ hj _ _ _ (by omega)) (λa k1=> ?_))
theorem rU (h:eU q p)(hj:bY (n+15) p):∀w e k,Rl (jP L q w e k) (jR L p w e (k,none)):=by
 intro w e k
 unfold jP jR
 repeat' (first
 | exact Rl.yes
 | with_reducible refine Rl.fQ ?_
 | with_reducible refine Rl.ch (b':=cu L _ _) rfl (λhi=> ?_) ?_
 | with_reducible refine Rl.eR (λhi=> ?_) ?_
 | with_reducible refine Rl.ch rfl (λhi=> ?_) ?_
 | refine Rl.aS ?_ (λt=> ?_)
 | refine Rl.bo ?_ (λt=> ?_)
 | exact h.exp _
 | with_reducible refine Rl.bd (h.exp _) (λa k1=> ?_) (λa k1 t=> ?_)
 | exact h.dF _ _ _
 | with_reducible refine Rl.bd (h.dF _ _ _) (λa k1=> ?_) (λa k1 t=> ?_)
 | exact Jk.ry
 | with_reducible refine Jk.is ?_
 | with_reducible exact hj.exp _ _ (by omega)
 | with_reducible refine Jk.rb (hj.exp _ _ (by omega)) (λa k1=> ?_)
 | with_reducible exact hj.dF _ _ _ _ (by omega)
 | with_reducible refine Jk.rb (hj.dF _ _ _ _ (by omega)) (λa k1=> ?_))
theorem Kb (h:eU q p)(hj:bY (n+15) p):∀  k,Rl (mI L q  k) (rL L p  (k,none)):=by
 intro  k
 unfold mI rL
 repeat' (first
 | exact Rl.yes
 | with_reducible refine Rl.fQ ?_
 | with_reducible refine Rl.ch (b':=cu L _ _) rfl (λhi=> ?_) ?_
 | with_reducible refine Rl.eR (λhi=> ?_) ?_
 | with_reducible refine Rl.ch rfl (λhi=> ?_) ?_
 | refine Rl.aS ?_ (λt=> ?_)
 | refine Rl.bo ?_ (λt=> ?_)
 | exact h.exp _
 | with_reducible refine Rl.bd (h.exp _) (λa k1=> ?_) (λa k1 t=> ?_)
 | exact h.lt _
 | with_reducible refine Rl.bd (h.lt _) (λa k1=> ?_) (λa k1 t=> ?_)
 | exact rU h hj _ _ _
 | with_reducible refine Rl.bd (rU h hj _ _ _) (λa k1=> ?_) (λa k1 t=> ?_)
 | exact Jk.ry
 | with_reducible refine Jk.is ?_
 | with_reducible refine Jk.kd ?_
 | with_reducible refine Jk.bad ?_
 | refine Jk.rn ?_
 | with_reducible exact hj.exp _ _ (by omega)
 | with_reducible refine Jk.rb (hj.exp _ _ (by omega)) (λa k1=> ?_)
 | with_reducible exact hj.lt _ _ (by omega)
 | with_reducible refine Jk.rb (hj.lt _ _ (by omega)) (λa k1=> ?_)
 | with_reducible exact jz hj _ _ _ _ (by omega)
 | with_reducible refine Jk.rb (jz hj _ _ _ _ (by omega)) (λa k1=> ?_))
theorem z4 (h:eU q p)(hj:bY (n+15) p):∀e k,Rl (sC L q e k) (zW L p e (k,none)):=by
 intro e k
 unfold sC zW
 refine Rl.fQ (Rl.ch rfl (λhi=>Rl.yes) (Rl.bd (h.bind _) (λd k1=> ?_) λd k1 t=> ?_))
 . cases d with
   | some d=>
     show Rl (q.fO (e++[d]) (skip L [59] k1)) (p.fO (e++[d]) (iS L [59] (k1,none)))
     rw[lV]
     exact h.fO _ _
   | none=>exact hj.fO _ _ _ (by omega)
 . cases d with
   | some d=>exact hj.fO _ _ _ (by omega)
   | none=>exact hj.fO _ _ _ (by omega)
theorem RZ (h:eU q p)(hj:bY (n+15) p):∀  k,Rl (JW L q  k) (O5 L p  (k,none)):=by
 intro  k
 unfold JW O5
 repeat' (first
 | exact Rl.yes
 | with_reducible refine Rl.fQ ?_
 | with_reducible refine Rl.ch (b':=cu L _ _) rfl (λhi=> ?_) ?_
 | with_reducible refine Rl.eR (λhi=> ?_) ?_
 | with_reducible refine Rl.ch rfl (λhi=> ?_) ?_
 | refine Rl.aS ?_ (λt=> ?_)
 | refine Rl.bo ?_ (λt=> ?_)
 | exact h.exp _
 | with_reducible refine Rl.bd (h.exp _) (λa k1=> ?_) (λa k1 t=> ?_)
 | exact z4 h hj _ _
 | with_reducible refine Rl.bd (z4 h hj _ _) (λa k1=> ?_) (λa k1 t=> ?_)
 | exact rU h hj _ _ _
 | with_reducible refine Rl.bd (rU h hj _ _ _) (λa k1=> ?_) (λa k1 t=> ?_)
 | exact Jk.ry
 | with_reducible refine Jk.is ?_
 | refine Jk.rn ?_
 | with_reducible exact hj.exp _ _ (by omega)
 | with_reducible refine Jk.rb (hj.exp _ _ (by omega)) (λa k1=> ?_)
 | with_reducible exact rR hj _ _ _ (by omega)
 | with_reducible refine Jk.rb (rR hj _ _ _ (by omega)) (λa k1=> ?_)
 | with_reducible exact jz hj _ _ _ _ (by omega)
 | with_reducible refine Jk.rb (jz hj _ _ _ _ (by omega)) (λa k1=> ?_))
theorem Hy (h:eU q p)(hj:bY (n+15) p):∀k,Rl (yu L q k) (tD L p (k,none)):=by
 intro k
 unfold yu tD
 repeat' (first
 | exact Rl.yes
 | with_reducible refine Rl.fQ ?_
 | with_reducible refine Rl.ch (b':=cu L _ _) rfl (λhi=> ?_) ?_
 | with_reducible refine Rl.eR (λhi=> ?_) ?_
 | with_reducible refine Rl.ch rfl (λhi=> ?_) ?_
 | refine Rl.aS ?_ (λt=> ?_)
 | refine Rl.bo ?_ (λt=> ?_)
 | exact h.bl _
 | with_reducible refine Rl.bd (h.bl _) (λa k1=> ?_) (λa k1 t=> ?_)
 | exact Jk.ry
 | with_reducible refine Jk.kd ?_
 | with_reducible refine Jk.kq ?_
 | with_reducible exact hj.bl _ _ (by omega)
 | with_reducible refine Jk.rb (hj.bl _ _ (by omega)) (λa k1=> ?_))
theorem Pj (h:eU q p)(hj:bY (n+15) p):∀  k,Rl (vZ L q  k) (zX L p  (k,none)):=by
 intro  k
 unfold vZ zX
 repeat' (first
 | exact Rl.yes
 | with_reducible refine Rl.fQ ?_
 | with_reducible refine Rl.ch (b':=cu L _ _) rfl (λhi=> ?_) ?_
 | with_reducible refine Rl.eR (λhi=> ?_) ?_
 | with_reducible refine Rl.ch rfl (λhi=> ?_) ?_
 | refine Rl.aS ?_ (λt=> ?_)
 | refine Rl.bo ?_ (λt=> ?_)
 | exact h.pat _
 | with_reducible refine Rl.bd (h.pat _) (λa k1=> ?_) (λa k1 t=> ?_)
 | exact Hy h hj _
 | with_reducible refine Rl.bd (Hy h hj _) (λa k1=> ?_) (λa k1 t=> ?_)
 | exact Jk.ry
 | with_reducible refine Jk.is ?_
 | with_reducible exact hj.pat _ _ (by omega)
 | with_reducible refine Jk.rb (hj.pat _ _ (by omega)) (λa k1=> ?_)
 | with_reducible exact pD hj _ _ (by omega)
 | with_reducible refine Jk.rb (pD hj _ _ (by omega)) (λa k1=> ?_))
theorem wi (h:eU q p)(hj:bY (n+15) p):∀e k,Rl (ly L q e k) (oy L p e (k,none)):=by
 intro e k
 unfold ly oy
 repeat' (first
 | exact Rl.yes
 | with_reducible refine Rl.fQ ?_
 | with_reducible refine Rl.ch (b':=cu L _ _) rfl (λhi=> ?_) ?_
 | with_reducible refine Rl.eR (λhi=> ?_) ?_
 | with_reducible refine Rl.ch rfl (λhi=> ?_) ?_
 | refine Rl.aS ?_ (λt=> ?_)
 | refine Rl.bo ?_ (λt=> ?_)
 | exact h.pat _
 | with_reducible refine Rl.bd (h.pat _) (λa k1=> ?_) (λa k1 t=> ?_)
 | exact h.fC _ _
 | with_reducible refine Rl.bd (h.fC _ _) (λa k1=> ?_) (λa k1 t=> ?_)
 | exact Jk.ry
 | with_reducible refine Jk.is ?_
 | with_reducible exact hj.pat _ _ (by omega)
 | with_reducible refine Jk.rb (hj.pat _ _ (by omega)) (λa k1=> ?_)
 | with_reducible exact hj.fC _ _ _ (by omega)
 | with_reducible refine Jk.rb (hj.fC _ _ _ (by omega)) (λa k1=> ?_))
theorem HA (h:eU q p)(hj:bY (n+15) p):∀  k,Rl (jv L q  k) (lU L p  (k,none)):=by
 intro  k
 unfold jv lU
 repeat' (first
 | exact Rl.yes
 | with_reducible refine Rl.fQ ?_
 | with_reducible refine Rl.ch (b':=cu L _ _) rfl (λhi=> ?_) ?_
 | with_reducible refine Rl.eR (λhi=> ?_) ?_
 | with_reducible refine Rl.ch rfl (λhi=> ?_) ?_
 | refine Rl.aS ?_ (λt=> ?_)
 | refine Rl.bo ?_ (λt=> ?_)
 | exact h.pat _
 | with_reducible refine Rl.bd (h.pat _) (λa k1=> ?_) (λa k1 t=> ?_)
 | exact wi h hj _ _
 | with_reducible refine Rl.bd (wi h hj _ _) (λa k1=> ?_) (λa k1 t=> ?_)
 | exact Jk.ry
 | with_reducible refine Jk.is ?_
 | with_reducible refine Jk.kd ?_
 | with_reducible refine Jk.bad ?_
 | refine Jk.rn ?_
 | refine Jk.rk ?_
 | with_reducible exact hj.pat _ _ (by omega)
 | with_reducible refine Jk.rb (hj.pat _ _ (by omega)) (λa k1=> ?_)
 | with_reducible exact mP hj _ _ _ (by omega)
 | with_reducible refine Jk.rb (mP hj _ _ _ (by omega)) (λa k1=> ?_))
theorem wj (h:eU q p)(hj:bY (n+15) p):∀e k,Rl (lz L q e k) (ku L p e (k,none)):=by
 intro e k
 unfold lz ku
 repeat' (first
 | exact Rl.yes
 | with_reducible refine Rl.fQ ?_
 | with_reducible refine Rl.ch (b':=cu L _ _) rfl (λhi=> ?_) ?_
 | with_reducible refine Rl.eR (λhi=> ?_) ?_
 | with_reducible refine Rl.ch rfl (λhi=> ?_) ?_
 | refine Rl.aS ?_ (λt=> ?_)
 | refine Rl.bo ?_ (λt=> ?_)
 | exact h.dk _ _
 | with_reducible refine Rl.bd (h.dk _ _) (λa k1=> ?_) (λa k1 t=> ?_)
 | exact h.post _
 | with_reducible refine Rl.bd (h.post _) (λa k1=> ?_) (λa k1 t=> ?_)
 | exact Jk.ry
 | with_reducible refine Jk.is ?_
 | with_reducible exact hj.dk _ _ _ (by omega)
 | with_reducible refine Jk.rb (hj.dk _ _ _ (by omega)) (λa k1=> ?_)
 | with_reducible exact hj.post _ _ (by omega)
 | with_reducible refine Jk.rb (hj.post _ _ (by omega)) (λa k1=> ?_))
theorem CZ (h:eU q p)(hj:bY (n+15) p):∀k,Rl (ou L q k) (kx L p (k,none)):=by
 intro k
 unfold ou kx
 repeat' (first
 | exact Rl.yes
 | with_reducible refine Rl.fQ ?_
 | with_reducible refine Rl.ch (b':=cu L _ _) rfl (λhi=> ?_) ?_
 | with_reducible refine Rl.eR (λhi=> ?_) ?_
 | with_reducible refine Rl.ch rfl (λhi=> ?_) ?_
 | refine Rl.aS ?_ (λt=> ?_)
 | refine Rl.bo ?_ (λt=> ?_)
 | exact h.post _
 | with_reducible refine Rl.bd (h.post _) (λa k1=> ?_) (λa k1 t=> ?_)
 | exact wj h hj _ _
 | with_reducible refine Rl.bd (wj h hj _ _) (λa k1=> ?_) (λa k1 t=> ?_)
 | exact Jk.ry
 | with_reducible refine Jk.is ?_
 | with_reducible exact hj.post _ _ (by omega)
 | with_reducible refine Jk.rb (hj.post _ _ (by omega)) (λa k1=> ?_)
 | with_reducible exact kA hj _ _ _ (by omega)
 | with_reducible refine Jk.rb (kA hj _ _ _ (by omega)) (λa k1=> ?_))
theorem Pk (h:eU q p)(hj:bY (n+15) p):∀  k,Rl (v5 L q  k) (zY L p  (k,none)):=by
 intro  k
 unfold v5 zY
 repeat' (first
 | exact Rl.yes
 | with_reducible refine Rl.fQ ?_
 | with_reducible refine Rl.ch (b':=cu L _ _) rfl (λhi=> ?_) ?_
 | with_reducible refine Rl.eR (λhi=> ?_) ?_
 | with_reducible refine Rl.ch rfl (λhi=> ?_) ?_
 | refine Rl.aS ?_ (λt=> ?_)
 | refine Rl.bo ?_ (λt=> ?_)
 | exact h.dH _
 | with_reducible refine Rl.bd (h.dH _) (λa k1=> ?_) (λa k1 t=> ?_)
 | exact CZ h hj _
 | with_reducible refine Rl.bd (CZ h hj _) (λa k1=> ?_) (λa k1 t=> ?_)
 | exact Jk.ry
 | with_reducible refine Jk.is ?_
 | with_reducible exact hj.dH _ _ (by omega)
 | with_reducible refine Jk.rb (hj.dH _ _ (by omega)) (λa k1=> ?_)
 | with_reducible exact mQ hj _ _ (by omega)
 | with_reducible refine Jk.rb (mQ hj _ _ (by omega)) (λa k1=> ?_))
theorem HB (h:eU q p)(hj:bY (n+15) p):∀e k,Rl (nF L q e k) (sF L p e (k,none)):=by
 intro e k
 unfold nF sF
 repeat' (first
 | exact Rl.yes
 | with_reducible refine Rl.fQ ?_
 | with_reducible refine Rl.ch (b':=cu L _ _) rfl (λhi=> ?_) ?_
 | with_reducible refine Rl.eR (λhi=> ?_) ?_
 | with_reducible refine Rl.ch rfl (λhi=> ?_) ?_
 | refine Rl.aS ?_ (λt=> ?_)
 | refine Rl.bo ?_ (λt=> ?_)
 | exact h.dH _
 | with_reducible refine Rl.bd (h.dH _) (λa k1=> ?_) (λa k1 t=> ?_)
 | exact h.lX _ _
 | with_reducible refine Rl.bd (h.lX _ _) (λa k1=> ?_) (λa k1 t=> ?_)
 | exact Jk.ry
 | with_reducible refine Jk.is ?_
 | with_reducible exact hj.dH _ _ (by omega)
 | with_reducible refine Jk.rb (hj.dH _ _ (by omega)) (λa k1=> ?_)
 | with_reducible exact hj.lX _ _ _ (by omega)
 | with_reducible refine Jk.rb (hj.lX _ _ _ (by omega)) (λa k1=> ?_))
theorem C0 (h:eU q p)(hj:bY (n+15) p):∀k,Rl (ov L q k) (nG L p (k,none)):=by
 intro k
 unfold ov nG
 by_cases h5:(tk L k).k=5
 . rw[if_pos h5,if_pos (show(tk L ((k,none):bx).1).k=5 from h5)]
   show _=_
   unfold rk
   have h2:cc L 5 (k,none)=true:=decide_eq_true h5
   rw[if_pos h2,if_pos h2]
   rfl
 . rw[if_neg h5,if_neg (show ¬(tk L ((k,none):bx).1).k=5 from h5)]
   refine Rl.ch rfl (λhi=>Rl.yes) (Rl.aS (Rl.fQ (Rl.bd (h.dH _) (λa k1=>Rl.ch (b':=cu L _ _) rfl (λhi=>Rl.bd (HB h hj _ _) (λl k2=>Rl.aS ?_ λt=> ?_) λl k2 t=> ?_) (Rl.aS Rl.yes λt=>Jk.ry)) (λa k1 t=> ?_))) λt=>Jk.ry)
   . by_cases ht:iC L (k2+1)=true
     . have h2:jS L (k2+1,none)=true:=ht
       rw[if_pos ht,if_pos h2,if_pos h2]
       exact Rl.yes
     . have h2:¬jS L (k2+1,none)=true:=ht
       rw[if_neg ht,if_neg h2,if_neg h2]
       exact Rl.fail
   . exact Jk.ry
   . exact Jk.ry
   . exact Jk.ry
theorem wk (h:eU q p)(hj:bY (n+15) p):∀e k,Rl (jJ L q e k) (iT L p e (k,none)):=by
 intro e k
 unfold jJ iT
 repeat' (first
 | exact Rl.yes
 | with_reducible refine Rl.fQ ?_
 | with_reducible refine Rl.ch (b':=cu L _ _) rfl (λhi=> ?_) ?_
 | with_reducible refine Rl.eR (λhi=> ?_) ?_
 | with_reducible refine Rl.ch rfl (λhi=> ?_) ?_
 | refine Rl.aS ?_ (λt=> ?_)
 | refine Rl.bo ?_ (λt=> ?_)
 | exact h.cB _ _
 | with_reducible refine Rl.bd (h.cB _ _) (λa k1=> ?_) (λa k1 t=> ?_)
 | exact Jk.ry
 | with_reducible refine Jk.UJ ?_
 | with_reducible exact hj.cB _ _ _ (by omega)
 | with_reducible refine Jk.rb (hj.cB _ _ _ (by omega)) (λa k1=> ?_))
theorem Kc (h:eU q p)(hj:bY (n+15) p):∀  k,Rl (mJ L q  k) (rM L p  (k,none)):=by
 intro  k
 unfold mJ rM
 repeat' (first
 | exact Rl.yes
 | with_reducible refine Rl.fQ ?_
 | with_reducible refine Rl.ch (b':=cu L _ _) rfl (λhi=> ?_) ?_
 | with_reducible refine Rl.eR (λhi=> ?_) ?_
 | with_reducible refine Rl.ch rfl (λhi=> ?_) ?_
 | refine Rl.aS ?_ (λt=> ?_)
 | refine Rl.bo ?_ (λt=> ?_)
 | exact C0 h hj _
 | with_reducible refine Rl.bd (C0 h hj _) (λa k1=> ?_) (λa k1 t=> ?_)
 | exact wk h hj _ _
 | with_reducible refine Rl.bd (wk h hj _ _) (λa k1=> ?_) (λa k1 t=> ?_)
 | exact Jk.ry
 | with_reducible exact mR hj _ _ (by omega)
 | with_reducible refine Jk.rb (mR hj _ _ (by omega)) (λa k1=> ?_)
 | with_reducible exact mS hj _ _ _ (by omega)
 | with_reducible refine Jk.rb (mS hj _ _ _ (by omega)) (λa k1=> ?_))
theorem Pl (h:eU q p)(hj:bY (n+15) p):∀  k,Rl (v7 L q  k) (zZ L p  (k,none)):=by
 intro  k
 unfold v7 zZ
 repeat' (first
 | exact Rl.yes
 | with_reducible refine Rl.fQ ?_
 | with_reducible refine Rl.ch (b':=cu L _ _) rfl (λhi=> ?_) ?_
 | with_reducible refine Rl.eR (λhi=> ?_) ?_
 | with_reducible refine Rl.ch rfl (λhi=> ?_) ?_
 | refine Rl.aS ?_ (λt=> ?_)
 | refine Rl.bo ?_ (λt=> ?_)
 | exact h.dH _
 | with_reducible refine Rl.bd (h.dH _) (λa k1=> ?_) (λa k1 t=> ?_)
 | exact Jk.ry
 | with_reducible refine Jk.is ?_
 | refine Jk.rk ?_
 | with_reducible exact hj.dH _ _ (by omega)
 | with_reducible refine Jk.rb (hj.dH _ _ (by omega)) (λa k1=> ?_))
theorem z5 (h:eU q p)(hj:bY (n+15) p):∀e k,Rl (sD L q e k) (yx L p e (k,none)):=by
 intro e k
 unfold sD yx
 repeat' (first
 | exact Rl.yes
 | with_reducible refine Rl.fQ ?_
 | with_reducible refine Rl.ch (b':=cu L _ _) rfl (λhi=> ?_) ?_
 | with_reducible refine Rl.eR (λhi=> ?_) ?_
 | with_reducible refine Rl.ch rfl (λhi=> ?_) ?_
 | refine Rl.aS ?_ (λt=> ?_)
 | refine Rl.bo ?_ (λt=> ?_)
 | exact h.fi _ _
 | with_reducible refine Rl.bd (h.fi _ _) (λa k1=> ?_) (λa k1 t=> ?_)
 | exact h.fn _
 | with_reducible refine Rl.bd (h.fn _) (λa k1=> ?_) (λa k1 t=> ?_)
 | exact Jk.ry
 | with_reducible refine Jk.is ?_
 | with_reducible exact hj.fi _ _ _ (by omega)
 | with_reducible refine Jk.rb (hj.fi _ _ _ (by omega)) (λa k1=> ?_)
 | with_reducible exact hj.fn _ _ (by omega)
 | with_reducible refine Jk.rb (hj.fn _ _ (by omega)) (λa k1=> ?_))
theorem Kd (h:eU q p)(hj:bY (n+15) p):∀  k,Rl (mK L q  k) (rN L p  (k,none)):=by
 intro  k
 unfold mK rN
 repeat' (first
 | exact Rl.yes
 | with_reducible refine Rl.fQ ?_
 | with_reducible refine Rl.ch (b':=cu L _ _) rfl (λhi=> ?_) ?_
 | with_reducible refine Rl.eR (λhi=> ?_) ?_
 | with_reducible refine Rl.ch rfl (λhi=> ?_) ?_
 | refine Rl.aS ?_ (λt=> ?_)
 | refine Rl.bo ?_ (λt=> ?_)
 | exact h.exp _
 | with_reducible refine Rl.bd (h.exp _) (λa k1=> ?_) (λa k1 t=> ?_)
 | exact h.pat _
 | with_reducible refine Rl.bd (h.pat _) (λa k1=> ?_) (λa k1 t=> ?_)
 | exact h.fn _
 | with_reducible refine Rl.bd (h.fn _) (λa k1=> ?_) (λa k1 t=> ?_)
 | exact z5 h hj _ _
 | with_reducible refine Rl.bd (z5 h hj _ _) (λa k1=> ?_) (λa k1 t=> ?_)
 | exact Jk.ry
 | with_reducible refine Jk.is ?_
 | refine Jk.rn ?_
 | with_reducible exact hj.exp _ _ (by omega)
 | with_reducible refine Jk.rb (hj.exp _ _ (by omega)) (λa k1=> ?_)
 | with_reducible exact hj.pat _ _ (by omega)
 | with_reducible refine Jk.rb (hj.pat _ _ (by omega)) (λa k1=> ?_)
 | with_reducible exact hj.fn _ _ (by omega)
 | with_reducible refine Jk.rb (hj.fn _ _ (by omega)) (λa k1=> ?_)
 | with_reducible exact rS hj _ _ _ (by omega)
 | with_reducible refine Jk.rb (rS hj _ _ _ (by omega)) (λa k1=> ?_))
theorem z6 (h:eU q p)(hj:bY (n+15) p):∀e k,Rl (sE L q e k) (we L p e (k,none)):=by
 intro e k
 unfold sE we
 repeat' (first
 | exact Rl.yes
 | with_reducible refine Rl.fQ ?_
 | with_reducible refine Rl.ch (b':=cu L _ _) rfl (λhi=> ?_) ?_
 | with_reducible refine Rl.eR (λhi=> ?_) ?_
 | with_reducible refine Rl.ch rfl (λhi=> ?_) ?_
 | refine Rl.aS ?_ (λt=> ?_)
 | refine Rl.bo ?_ (λt=> ?_)
 | exact h.bl _
 | with_reducible refine Rl.bd (h.bl _) (λa k1=> ?_) (λa k1 t=> ?_)
 | exact h.lY _ _
 | with_reducible refine Rl.bd (h.lY _ _) (λa k1=> ?_) (λa k1 t=> ?_)
 | exact Jk.ry
 | with_reducible refine Jk.kq ?_
 | with_reducible exact hj.bl _ _ (by omega)
 | with_reducible refine Jk.rb (hj.bl _ _ (by omega)) (λa k1=> ?_)
 | with_reducible exact hj.lY _ _ _ (by omega)
 | with_reducible refine Jk.rb (hj.lY _ _ _ (by omega)) (λa k1=> ?_))
theorem R0 (h:eU q p)(hj:bY (n+15) p):∀  k,Rl (JX L q  k) (O6 L p  (k,none)):=by
 intro  k
 unfold JX O6
 repeat' (first
 | exact Rl.yes
 | with_reducible refine Rl.fQ ?_
 | with_reducible refine Rl.ch (b':=cu L _ _) rfl (λhi=> ?_) ?_
 | with_reducible refine Rl.eR (λhi=> ?_) ?_
 | with_reducible refine Rl.ch rfl (λhi=> ?_) ?_
 | refine Rl.aS ?_ (λt=> ?_)
 | refine Rl.bo ?_ (λt=> ?_)
 | exact h.exp _
 | with_reducible refine Rl.bd (h.exp _) (λa k1=> ?_) (λa k1 t=> ?_)
 | exact h.bl _
 | with_reducible refine Rl.bd (h.bl _) (λa k1=> ?_) (λa k1 t=> ?_)
 | exact z6 h hj _ _
 | with_reducible refine Rl.bd (z6 h hj _ _) (λa k1=> ?_) (λa k1 t=> ?_)
 | exact Jk.ry
 | refine Jk.rn ?_
 | refine Jk.rk ?_
 | with_reducible exact hj.exp _ _ (by omega)
 | with_reducible refine Jk.rb (hj.exp _ _ (by omega)) (λa k1=> ?_)
 | with_reducible exact hj.bl _ _ (by omega)
 | with_reducible refine Jk.rb (hj.bl _ _ (by omega)) (λa k1=> ?_)
 | with_reducible exact rT hj _ _ _ (by omega)
 | with_reducible refine Jk.rb (rT hj _ _ _ (by omega)) (λa k1=> ?_))
theorem Pm (h:eU q p)(hj:bY (n+15) p):∀  k,Rl (v8 L q  k) (z1 L p  (k,none)):=by
 intro  k
 unfold v8 z1
 repeat' (first
 | exact Rl.yes
 | with_reducible refine Rl.fQ ?_
 | with_reducible refine Rl.ch (b':=cu L _ _) rfl (λhi=> ?_) ?_
 | with_reducible refine Rl.eR (λhi=> ?_) ?_
 | with_reducible refine Rl.ch rfl (λhi=> ?_) ?_
 | refine Rl.aS ?_ (λt=> ?_)
 | refine Rl.bo ?_ (λt=> ?_)
 | exact h.dS _
 | with_reducible refine Rl.bd (h.dS _) (λa k1=> ?_) (λa k1 t=> ?_)
 | exact h.bind _
 | with_reducible refine Rl.bd (h.bind _) (λa k1=> ?_) (λa k1 t=> ?_)
 | exact h.data _
 | with_reducible refine Rl.bd (h.data _) (λa k1=> ?_) (λa k1 t=> ?_)
 | exact Jk.ry
 | with_reducible refine Jk.is ?_
 | with_reducible exact hj.dS _ _ (by omega)
 | with_reducible refine Jk.rb (hj.dS _ _ (by omega)) (λa k1=> ?_)
 | with_reducible exact hj.bind _ _ (by omega)
 | with_reducible refine Jk.rb (hj.bind _ _ (by omega)) (λa k1=> ?_)
 | with_reducible exact hj.data _ _ (by omega)
 | with_reducible refine Jk.rb (hj.data _ _ (by omega)) (λa k1=> ?_))
theorem HC (h:eU q p)(hj:bY (n+15) p):∀e k,Rl (mL L q e k) (oz L p e (k,none)):=by
 intro e k
 unfold mL oz
 repeat' (first
 | exact Rl.yes
 | with_reducible refine Rl.fQ ?_
 | with_reducible refine Rl.ch (b':=cu L _ _) rfl (λhi=> ?_) ?_
 | with_reducible refine Rl.eR (λhi=> ?_) ?_
 | with_reducible refine Rl.ch rfl (λhi=> ?_) ?_
 | refine Rl.aS ?_ (λt=> ?_)
 | refine Rl.bo ?_ (λt=> ?_)
 | exact h.fj _ _
 | with_reducible refine Rl.bd (h.fj _ _) (λa k1=> ?_) (λa k1 t=> ?_)
 | exact Jk.ry
 | with_reducible refine Jk.is ?_
 | refine Jk.rk ?_
 | with_reducible exact hj.fj _ _ _ (by omega)
 | with_reducible refine Jk.rb (hj.fj _ _ _ (by omega)) (λa k1=> ?_))
theorem C1 (h:eU q p)(hj:bY (n+15) p):∀k,Rl (ow L q k) (tE L p (k,none)):=by
 intro k
 unfold ow tE
 by_cases h5:(tk L k).k=5
 . rw[if_pos h5,if_pos (show(tk L ((k,none):bx).1).k=5 from h5)]
   show _=_
   unfold rk
   have h2:cc L 5 (k,none)=true:=decide_eq_true h5
   rw[if_pos h2,if_pos h2]
   rfl
 . rw[if_neg h5,if_neg (show ¬(tk L ((k,none):bx).1).k=5 from h5)]
   refine Rl.ch rfl (λhi=> ?_) Rl.yes
   exact Rl.bo (Rl.bd (HC h hj _ _) (λl k1=>Rl.aS Rl.yes λt=>Jk.ry) λl k1 t=>Jk.ry) λt=>Jk.ry
theorem wm (h:eU q p)(hj:bY (n+15) p):∀e k,Rl (g_ L q e k) (kz L p e (k,none)):=by
 intro e k
 unfold g_ kz
 repeat' (first
 | exact Rl.yes
 | with_reducible refine Rl.fQ ?_
 | with_reducible refine Rl.ch (b':=cu L _ _) rfl (λhi=> ?_) ?_
 | with_reducible refine Rl.eR (λhi=> ?_) ?_
 | with_reducible refine Rl.ch rfl (λhi=> ?_) ?_
 | refine Rl.aS ?_ (λt=> ?_)
 | refine Rl.bo ?_ (λt=> ?_)
 | exact h.dS _
 | with_reducible refine Rl.bd (h.dS _) (λa k1=> ?_) (λa k1 t=> ?_)
 | exact h.fk _ _
 | with_reducible refine Rl.bd (h.fk _ _) (λa k1=> ?_) (λa k1 t=> ?_)
 | exact Jk.ry
 | with_reducible refine Jk.is ?_
 | with_reducible exact hj.dS _ _ (by omega)
 | with_reducible refine Jk.rb (hj.dS _ _ (by omega)) (λa k1=> ?_)
 | with_reducible exact hj.fk _ _ _ (by omega)
 | with_reducible refine Jk.rb (hj.fk _ _ _ (by omega)) (λa k1=> ?_))
theorem Ke (h:eU q p)(hj:bY (n+15) p):∀  k,Rl (mM L q  k) (rO L p  (k,none)):=by
 intro  k
 unfold mM rO
 repeat' (first
 | exact Rl.yes
 | with_reducible refine Rl.fQ ?_
 | with_reducible refine Rl.ch (b':=cu L _ _) rfl (λhi=> ?_) ?_
 | with_reducible refine Rl.eR (λhi=> ?_) ?_
 | with_reducible refine Rl.ch rfl (λhi=> ?_) ?_
 | refine Rl.aS ?_ (λt=> ?_)
 | refine Rl.bo ?_ (λt=> ?_)
 | exact h.dS _
 | with_reducible refine Rl.bd (h.dS _) (λa k1=> ?_) (λa k1 t=> ?_)
 | exact C1 h hj _
 | with_reducible refine Rl.bd (C1 h hj _) (λa k1=> ?_) (λa k1 t=> ?_)
 | exact wm h hj _ _
 | with_reducible refine Rl.bd (wm h hj _ _) (λa k1=> ?_) (λa k1 t=> ?_)
 | exact Jk.ry
 | refine Jk.rn ?_
 | refine Jk.rk ?_
 | with_reducible exact hj.dS _ _ (by omega)
 | with_reducible refine Jk.rb (hj.dS _ _ (by omega)) (λa k1=> ?_)
 | with_reducible exact pE hj _ _ (by omega)
 | with_reducible refine Jk.rb (pE hj _ _ (by omega)) (λa k1=> ?_)
 | with_reducible exact mT hj _ _ _ (by omega)
 | with_reducible refine Jk.rb (mT hj _ _ _ (by omega)) (λa k1=> ?_))
theorem Kf (h:eU q p)(hj:bY (n+15) p):∀e k,Rl (mN L q e k) (rP L p e (k,none)):=by
 intro e k
 unfold mN rP
 refine Rl.fQ (Rl.Pe (λhi=>Rl.yes) (λhi=>Rl.bd (h.dec _) (λd k1=> ?_) λd k1 t=> ?_))
 . cases d with
   | some d=>
     show Rl (q.bM (e++[d]) (skip L [59] k1)) (p.bM (e++[d]) (iS L [59] (k1,none)))
     rw[lV]
     exact h.bM _ _
   | none=>
     refine Rl.bd (h.exp _) (λx k2=> ?_) λx k2 t=>hj.bM _ _ _ (by omega)
     rw[lV]
     exact h.bM _ _
 . cases d with
   | some d=>exact hj.bM _ _ _ (by omega)
   | none=>exact Jk.rb (hj.exp _ _ (by omega)) λx k2=>hj.bM _ _ _ (by omega)
theorem R2:∀n,eU (ps L n) (rp L (n+16))
 | 0=>by constructor<;>intros<;>trivial
 | n+1=>by
   have h:=R2 n
   have hj:bY (n+1+15) (rp L (n+16)):=RX (n+16)
   exact {
    exp:=Pf (L:=L) h hj
    fA:=Pg (L:=L) h hj
    bin:=Ph (L:=L) h hj
    fh:=Hx (L:=L) h hj
    un:=RY (L:=L) h hj
    fB:=z3 (L:=L) h hj
    atom:=Kb (L:=L) h hj
    dF:=rU (L:=L) h hj
    lt:=RZ (L:=L) h hj
    fO:=z4 (L:=L) h hj
    pat:=Pj (L:=L) h hj
    bl:=HA (L:=L) h hj
    fC:=wi (L:=L) h hj
    dH:=Pk (L:=L) h hj
    dk:=wj (L:=L) h hj
    post:=Kc (L:=L) h hj
    lX:=HB (L:=L) h hj
    cB:=wk (L:=L) h hj
    dS:=Pl (L:=L) h hj
    bind:=Kd (L:=L) h hj
    fi:=z5 (L:=L) h hj
    fn:=R0 (L:=L) h hj
    lY:=z6 (L:=L) h hj
    dec:=Pm (L:=L) h hj
    data:=Ke (L:=L) h hj
    fj:=HC (L:=L) h hj
    fk:=wm (L:=L) h hj
    bM:=Kf (L:=L) h hj }
end
section
variable {nx0 nx nx' bp k:Nat}{H0 H H':T OB}{F A B G G':List Bx}{s:Bx}{R:Go.Ev.Out->T OB->Nat->Prop}{b:Nat}{l:List Value}{e t:TypeId}{L:List Tok}
abbrev az:Value:= .slice none 0 0
abbrev gq (b n c:Nat):Value:= .slice (some ⟨b,0,none⟩) n c
theorem Kg (c0 c1 c2 c3 c4 c5:Value)(z:List Value)(hz:bS P 44=some z):Instr.fill (λi=>some (i*6,6)) (bA z (1*6)) [(0,.agg ⟨[c0,c1,c2,c3,c4,c5]⟩)]=some ⟨[c0,c1,c2,c3,c4,c5]⟩:=by
 rw[aV]at hz
 cases hz
 kernel_rfl
theorem Hq.cZ (cs:List Value)(hc:cs.length=6){kt:Value->T OB->Nat->Q}(h:Hp nx0 H0 (s::F) H nx)(hk:∀b H' nx',Hp nx0 H0 (s::(b,cs,44)::F) H' nx'->aK P pl X0 (kt (gq b 1 1) H' nx') nx0 H0 R):aK P pl X0 (ak (ao P H nx 41 1 (some [(0,.agg ⟨cs⟩)])) kt) nx0 H0 R:=
 match cs,hc with
 | [c0,c1,c2,c3,c4,c5],_=>Hq.row fc bu aV rfl (Kg _ _ _ _ _ _ _ aV) h hk
theorem Kh (c0 c1 c2 c3 c4 c5 d0 d1 d2 d3 d4 d5:Value)(z:List Value)(hz:bS P 44=some z):Instr.fill (λi=>some (i*6,6)) (bA z (2*6)) [(0,.agg ⟨[c0,c1,c2,c3,c4,c5]⟩),(1,.agg ⟨[d0,d1,d2,d3,d4,d5]⟩)]=some ⟨[c0,c1,c2,c3,c4,c5,d0,d1,d2,d3,d4,d5]⟩:=by
 rw[aV]at hz
 cases hz
 kernel_rfl
theorem Hq.mU (cs ds:List Value)(hc:cs.length=6)(hd:ds.length=6){kt:Value->T OB->Nat->Q}(h:Hp nx0 H0 (s::F) H nx)(hk:∀b H' nx',Hp nx0 H0 (s::(b,cs++ds,44)::F) H' nx'->aK P pl X0 (kt (gq b 2 2) H' nx') nx0 H0 R):aK P pl X0 (ak (ao P H nx 41 2 (some [(0,.agg ⟨cs⟩),(1,.agg ⟨ds⟩)])) kt) nx0 H0 R:=
 match cs,hc,ds,hd with
 | [c0,c1,c2,c3,c4,c5],_,[d0,d1,d2,d3,d4,d5],_=>Hq.row fc bu aV rfl (Kh _ _ _ _ _ _ _ _ _ _ _ _ _ aV) h hk
theorem Ki (c0 c1 c2 c3 c4 c5 d0 d1 d2 d3 d4 d5 f0 f1 f2 f3 f4 f5:Value)(z:List Value)(hz:bS P 44=some z):Instr.fill (λi=>some (i*6,6)) (bA z (3*6)) [(0,.agg ⟨[c0,c1,c2,c3,c4,c5]⟩),(1,.agg ⟨[d0,d1,d2,d3,d4,d5]⟩),(2,.agg ⟨[f0,f1,f2,f3,f4,f5]⟩)]=some ⟨[c0,c1,c2,c3,c4,c5,d0,d1,d2,d3,d4,d5,f0,f1,f2,f3,f4,f5]⟩:=by
 rw[aV]at hz
 cases hz
 kernel_rfl
theorem Hq.C2 (cs ds fs:List Value)(hc:cs.length=6)(hd:ds.length=6)(hf:fs.length=6){kt:Value->T OB->Nat->Q}(h:Hp nx0 H0 (s::F) H nx)(hk:∀b H' nx',Hp nx0 H0 (s::(b,cs++ds++fs,44)::F) H' nx'->aK P pl X0 (kt (gq b 3 3) H' nx') nx0 H0 R):aK P pl X0 (ak (ao P H nx 41 3 (some [(0,.agg ⟨cs⟩),(1,.agg ⟨ds⟩),(2,.agg ⟨fs⟩)])) kt) nx0 H0 R:=
 match cs,hc,ds,hd,fs,hf with
 | [c0,c1,c2,c3,c4,c5],_,[d0,d1,d2,d3,d4,d5],_,[f0,f1,f2,f3,f4,f5],_=>Hq.row fc bu aV rfl (Ki _ _ _ _ _ _ _ _ _ _ _ _ _ _ _ _ _ _ _ aV) h hk
theorem R3 {n:Nat}(h:n<=1048576):bL P 44 6 n=true:=by
 have:bL P 44 6 n=(Nat.ble n 1048576&&true):=by kernel_rfl
 rw[this,Nat.ble_eq_true_of_le h];rfl
theorem aF.fD (x:aF):ot true 6 [x.v]:=λv hv=>by
 rw[List.mem_singleton]at hv
 subst hv
 rw[aF.bk]
 exact⟨rfl,rfl,⟨_,rfl⟩⟩
theorem aF.UK (l:List aF):ot true 6 (l.map aF.v):=λv hv=>by
 obtain⟨x,_,rfl⟩:=List.mem_map.1 hv
 exact x.fD x.v (by simp)
theorem aF.len (x:aF):x.v.cells.toList.length=6:=(x.fD x.v (by simp)).1
theorem Hq.yy (A:List Bx){l:List aF}{x:aF}{sl:Value}{kt:Value->T OB->Nat->Q}(hl:l.length<=1000000)(hG:Gw true 6 44 (l.map aF.v) sl G)(h:Hp nx0 H0 (s::(b,x.v.cells.toList,44)::(A++(G++B))) H nx)
 (hk:∀sl' G' H' nx',Gw true 6 44 ((l++[x]).map aF.v) sl' G'->Hp nx0 H0 (s::(A++(G'++B))) H' nx'->aK P pl X0 (kt sl' H' nx') nx0 H0 R):aK P pl X0 (ak (a9 P H nx [41,41] (some [sl,gq b 1 1])) kt) nx0 H0 R:=
 Hq.add A fc bu (R3 (by rw[List.length_map];omega)) (by rw[List.length_map];omega) x.fD hG h λsl' G' H' nx' hG' h'=>hk sl' G' H' nx' (by rw[List.map_append];exact hG') h'
theorem Kj (c0 c1 c2 c3:Value)(z:List Value)(hz:bS P 47=some z):Instr.fill (λi=>some (i*4,4)) (bA z (1*4)) [(0,.agg ⟨[c0,c1,c2,c3]⟩)]=some ⟨[c0,c1,c2,c3]⟩:=by
 rw[cE]at hz
 cases hz
 kernel_rfl
theorem Hq.dW (cs:List Value)(hc:cs.length=4){kt:Value->T OB->Nat->Q}(h:Hp nx0 H0 (s::F) H nx)(hk:∀b H' nx',Hp nx0 H0 (s::(b,cs,47)::F) H' nx'->aK P pl X0 (kt (gq b 1 1) H' nx') nx0 H0 R):aK P pl X0 (ak (ao P H nx 42 1 (some [(0,.agg ⟨cs⟩)])) kt) nx0 H0 R:=
 match cs,hc with
 | [c0,c1,c2,c3],_=>Hq.row ed bT cE rfl (Kj _ _ _ _ _ cE) h hk
theorem Kk (c0 c1 c2 c3 d0 d1 d2 d3:Value)(z:List Value)(hz:bS P 47=some z):Instr.fill (λi=>some (i*4,4)) (bA z (2*4)) [(0,.agg ⟨[c0,c1,c2,c3]⟩),(1,.agg ⟨[d0,d1,d2,d3]⟩)]=some ⟨[c0,c1,c2,c3,d0,d1,d2,d3]⟩:=by
 rw[cE]at hz
 cases hz
 kernel_rfl
theorem Hq.pF (cs ds:List Value)(hc:cs.length=4)(hd:ds.length=4){kt:Value->T OB->Nat->Q}(h:Hp nx0 H0 (s::F) H nx)(hk:∀b H' nx',Hp nx0 H0 (s::(b,cs++ds,47)::F) H' nx'->aK P pl X0 (kt (gq b 2 2) H' nx') nx0 H0 R):aK P pl X0 (ak (ao P H nx 42 2 (some [(0,.agg ⟨cs⟩),(1,.agg ⟨ds⟩)])) kt) nx0 H0 R:=
 match cs,hc,ds,hd with
 | [c0,c1,c2,c3],_,[d0,d1,d2,d3],_=>Hq.row ed bT cE rfl (Kk _ _ _ _ _ _ _ _ _ cE) h hk
theorem R4 {n:Nat}(h:n<=1048576):bL P 47 4 n=true:=by
 have:bL P 47 4 n=(Nat.ble n 1048576&&true):=by kernel_rfl
 rw[this,Nat.ble_eq_true_of_le h];rfl
theorem aZ.fD (x:aZ):ot true 4 [x.v]:=λv hv=>by
 rw[List.mem_singleton]at hv
 subst hv
 rw[aZ.bk]
 exact⟨rfl,rfl,⟨_,rfl⟩⟩
theorem aZ.len (x:aZ):x.v.cells.toList.length=4:=(x.fD x.v (by simp)).1
theorem Hq.tF (A:List Bx){l:List aZ}{x:aZ}{sl:Value}{kt:Value->T OB->Nat->Q}(hl:l.length<=1000000)(hG:Gw true 4 47 (l.map aZ.v) sl G)(h:Hp nx0 H0 (s::(b,x.v.cells.toList,47)::(A++(G++B))) H nx)
 (hk:∀sl' G' H' nx',Gw true 4 47 ((l++[x]).map aZ.v) sl' G'->Hp nx0 H0 (s::(A++(G'++B))) H' nx'->aK P pl X0 (kt sl' H' nx') nx0 H0 R):aK P pl X0 (ak (a9 P H nx [42,42] (some [sl,gq b 1 1])) kt) nx0 H0 R:=
 Hq.add A ed bT (R4 (by rw[List.length_map];omega)) (by rw[List.length_map];omega) x.fD hG h λsl' G' H' nx' hG' h'=>hk sl' G' H' nx' (by rw[List.map_append];exact hG') h'
theorem Kl (c0 c1 c2:Value)(z:List Value)(hz:bS P 138=some z):Instr.fill (λi=>some (i*3,3)) (bA z (1*3)) [(0,.agg ⟨[c0,c1,c2]⟩)]=some ⟨[c0,c1,c2]⟩:=by
 rw[cb]at hz
 cases hz
 kernel_rfl
theorem Hq.eM (cs:List Value)(hc:cs.length=3){kt:Value->T OB->Nat->Q}(h:Hp nx0 H0 (s::F) H nx)(hk:∀b H' nx',Hp nx0 H0 (s::(b,cs,138)::F) H' nx'->aK P pl X0 (kt (gq b 1 1) H' nx') nx0 H0 R):aK P pl X0 (ak (ao P H nx 53 1 (some [(0,.agg ⟨cs⟩)])) kt) nx0 H0 R:=
 match cs,hc with
 | [c0,c1,c2],_=>Hq.row ee bI cb rfl (Kl _ _ _ _ cb) h hk
theorem Km (c0 c1 c2 d0 d1 d2:Value)(z:List Value)(hz:bS P 138=some z):Instr.fill (λi=>some (i*3,3)) (bA z (2*3)) [(0,.agg ⟨[c0,c1,c2]⟩),(1,.agg ⟨[d0,d1,d2]⟩)]=some ⟨[c0,c1,c2,d0,d1,d2]⟩:=by
 rw[cb]at hz
 cases hz
 kernel_rfl
theorem Hq.C3 (cs ds:List Value)(hc:cs.length=3)(hd:ds.length=3){kt:Value->T OB->Nat->Q}(h:Hp nx0 H0 (s::F) H nx)(hk:∀b H' nx',Hp nx0 H0 (s::(b,cs++ds,138)::F) H' nx'->aK P pl X0 (kt (gq b 2 2) H' nx') nx0 H0 R):aK P pl X0 (ak (ao P H nx 53 2 (some [(0,.agg ⟨cs⟩),(1,.agg ⟨ds⟩)])) kt) nx0 H0 R:=
 match cs,hc,ds,hd with
 | [c0,c1,c2],_,[d0,d1,d2],_=>Hq.row ee bI cb rfl (Km _ _ _ _ _ _ _ cb) h hk
theorem Pn {n:Nat}(h:n<=1048576):bL P 138 3 n=true:=by
 have:bL P 138 3 n=(Nat.ble n 1048576&&true):=by kernel_rfl
 rw[this,Nat.ble_eq_true_of_le h];rfl
theorem bg.fD (x:bg):ot true 3 [x.v]:=λv hv=>by
 rw[List.mem_singleton]at hv
 subst hv
 rw[bg.bk]
 exact⟨rfl,rfl,⟨_,rfl⟩⟩
theorem bg.len (x:bg):x.v.cells.toList.length=3:=(x.fD x.v (by simp)).1
theorem Hq.yz (A:List Bx){l:List bg}{x:bg}{sl:Value}{kt:Value->T OB->Nat->Q}(hl:l.length<=1000000)(hG:Gw true 3 138 (l.map bg.v) sl G)(h:Hp nx0 H0 (s::(b,x.v.cells.toList,138)::(A++(G++B))) H nx)
 (hk:∀sl' G' H' nx',Gw true 3 138 ((l++[x]).map bg.v) sl' G'->Hp nx0 H0 (s::(A++(G'++B))) H' nx'->aK P pl X0 (kt sl' H' nx') nx0 H0 R):aK P pl X0 (ak (a9 P H nx [53,53] (some [sl,gq b 1 1])) kt) nx0 H0 R:=
 Hq.add A ee bI (Pn (by rw[List.length_map];omega)) (by rw[List.length_map];omega) x.fD hG h λsl' G' H' nx' hG' h'=>hk sl' G' H' nx' (by rw[List.map_append];exact hG') h'
theorem Kn (c0 c1:Value)(z:List Value)(hz:bS P 55=some z):Instr.fill (λi=>some (i*2,2)) (bA z (1*2)) [(0,.agg ⟨[c0,c1]⟩)]=some ⟨[c0,c1]⟩:=by
 rw[fL]at hz
 cases hz
 kernel_rfl
theorem Hq.wo (cs:List Value)(hc:cs.length=2){kt:Value->T OB->Nat->Q}(h:Hp nx0 H0 (s::F) H nx)(hk:∀b H' nx',Hp nx0 H0 (s::(b,cs,55)::F) H' nx'->aK P pl X0 (kt (gq b 1 1) H' nx') nx0 H0 R):aK P pl X0 (ak (ao P H nx 50 1 (some [(0,.agg ⟨cs⟩)])) kt) nx0 H0 R:=
 match cs,hc with
 | [c0,c1],_=>Hq.row lO gZ fL rfl (Kn _ _ _ fL) h hk
theorem R5 {n:Nat}(h:n<=1048576):bL P 55 2 n=true:=by
 have:bL P 55 2 n=(Nat.ble n 1048576&&true):=by kernel_rfl
 rw[this,Nat.ble_eq_true_of_le h];rfl
theorem cM.fD (x:cM):ot true 2 [x.v]:=λv hv=>by
 rw[List.mem_singleton]at hv
 subst hv
 rw[cM.bk]
 exact⟨rfl,rfl,⟨_,rfl⟩⟩
theorem cM.len (x:cM):x.v.cells.toList.length=2:=(x.fD x.v (by simp)).1
theorem Hq.Mt (A:List Bx){l:List cM}{x:cM}{sl:Value}{kt:Value->T OB->Nat->Q}(hl:l.length<=1000000)(hG:Gw true 2 55 (l.map cM.v) sl G)(h:Hp nx0 H0 (s::(b,x.v.cells.toList,55)::(A++(G++B))) H nx)
 (hk:∀sl' G' H' nx',Gw true 2 55 ((l++[x]).map cM.v) sl' G'->Hp nx0 H0 (s::(A++(G'++B))) H' nx'->aK P pl X0 (kt sl' H' nx') nx0 H0 R):aK P pl X0 (ak (a9 P H nx [50,50] (some [sl,gq b 1 1])) kt) nx0 H0 R:=
 Hq.add A lO gZ (R5 (by rw[List.length_map];omega)) (by rw[List.length_map];omega) x.fD hG h λsl' G' H' nx' hG' h'=>hk sl' G' H' nx' (by rw[List.map_append];exact hG') h'
theorem Ko (c0 c1 c2 c3 c4 c5 c6 c7:Value)(z:List Value)(hz:bS P 65=some z):Instr.fill (λi=>some (i*8,8)) (bA z (1*8)) [(0,.agg ⟨[c0,c1,c2,c3,c4,c5,c6,c7]⟩)]=some ⟨[c0,c1,c2,c3,c4,c5,c6,c7]⟩:=by
 rw[eK]at hz
 cases hz
 kernel_rfl
theorem Hq.wq (cs:List Value)(hc:cs.length=8){kt:Value->T OB->Nat->Q}(h:Hp nx0 H0 (s::F) H nx)(hk:∀b H' nx',Hp nx0 H0 (s::(b,cs,65)::F) H' nx'->aK P pl X0 (kt (gq b 1 1) H' nx') nx0 H0 R):aK P pl X0 (ak (ao P H nx 48 1 (some [(0,.agg ⟨cs⟩)])) kt) nx0 H0 R:=
 match cs,hc with
 | [c0,c1,c2,c3,c4,c5,c6,c7],_=>Hq.row q6 iP eK rfl (Ko _ _ _ _ _ _ _ _ _ eK) h hk
theorem R6 {n:Nat}(h:n<=1048576):bL P 65 8 n=true:=by
 have:bL P 65 8 n=(Nat.ble n 1048576&&true):=by kernel_rfl
 rw[this,Nat.ble_eq_true_of_le h];rfl
theorem Fn.fD (x:Fn):ot true 8 [x.v]:=λv hv=>by
 rw[List.mem_singleton]at hv
 subst hv
 rw[Fn.bk]
 exact⟨rfl,rfl,⟨_,rfl⟩⟩
theorem Fn.len (x:Fn):x.v.cells.toList.length=8:=(x.fD x.v (by simp)).1
theorem Hq.Mu (A:List Bx){l:List Fn}{x:Fn}{sl:Value}{kt:Value->T OB->Nat->Q}(hl:l.length<=1000000)(hG:Gw true 8 65 (l.map Fn.v) sl G)(h:Hp nx0 H0 (s::(b,x.v.cells.toList,65)::(A++(G++B))) H nx)
 (hk:∀sl' G' H' nx',Gw true 8 65 ((l++[x]).map Fn.v) sl' G'->Hp nx0 H0 (s::(A++(G'++B))) H' nx'->aK P pl X0 (kt sl' H' nx') nx0 H0 R):aK P pl X0 (ak (a9 P H nx [48,48] (some [sl,gq b 1 1])) kt) nx0 H0 R:=
 Hq.add A q6 iP (R6 (by rw[List.length_map];omega)) (by rw[List.length_map];omega) x.fD hG h λsl' G' H' nx' hG' h'=>hk sl' G' H' nx' (by rw[List.map_append];exact hG') h'
theorem Kp (c0 c1 c2 c3 c4 c5 c6 c7 c8 c9 c10 c11 c12 c13 c14 c15 c16:Value)(z:List Value)(hz:bS P 57=some z):Instr.fill (λi=>some (i*17,17)) (bA z (1*17)) [(0,.agg ⟨[c0,c1,c2,c3,c4,c5,c6,c7,c8,c9,c10,c11,c12,c13,c14,c15,c16]⟩)]=some ⟨[c0,c1,c2,c3,c4,c5,c6,c7,c8,c9,c10,c11,c12,c13,c14,c15,c16]⟩:=by
 rw[cJ]at hz
 cases hz
 kernel_rfl
theorem Hq.pG (cs:List Value)(hc:cs.length=17){kt:Value->T OB->Nat->Q}(h:Hp nx0 H0 (s::F) H nx)(hk:∀b H' nx',Hp nx0 H0 (s::(b,cs,57)::F) H' nx'->aK P pl X0 (kt (gq b 1 1) H' nx') nx0 H0 R):aK P pl X0 (ak (ao P H nx 24 1 (some [(0,.agg ⟨cs⟩)])) kt) nx0 H0 R:=
 match cs,hc with
 | [c0,c1,c2,c3,c4,c5,c6,c7,c8,c9,c10,c11,c12,c13,c14,c15,c16],_=>Hq.row gd di cJ rfl (Kp _ _ _ _ _ _ _ _ _ _ _ _ _ _ _ _ _ _ cJ) h hk
theorem HD {n:Nat}(h:n<=1048576):bL P 57 17 n=true:=by
 have:bL P 57 17 n=(Nat.ble n 1048576&&true):=by kernel_rfl
 rw[this,Nat.ble_eq_true_of_le h];rfl
theorem aT.fD (x:aT):ot true 17 [x.v]:=λv hv=>by
 rw[List.mem_singleton]at hv
 subst hv
 rw[aT.bk]
 exact⟨rfl,rfl,⟨_,rfl⟩⟩
theorem aT.len (x:aT):x.v.cells.toList.length=17:=(x.fD x.v (by simp)).1
theorem Hq.Mv (A:List Bx){l:List aT}{x:aT}{sl:Value}{kt:Value->T OB->Nat->Q}(hl:l.length<=1000000)(hG:Gw true 17 57 (l.map aT.v) sl G)(h:Hp nx0 H0 (s::(b,x.v.cells.toList,57)::(A++(G++B))) H nx)
 (hk:∀sl' G' H' nx',Gw true 17 57 ((l++[x]).map aT.v) sl' G'->Hp nx0 H0 (s::(A++(G'++B))) H' nx'->aK P pl X0 (kt sl' H' nx') nx0 H0 R):aK P pl X0 (ak (a9 P H nx [24,24] (some [sl,gq b 1 1])) kt) nx0 H0 R:=
 Hq.add A gd di (HD (by rw[List.length_map];omega)) (by rw[List.length_map];omega) x.fD hG h λsl' G' H' nx' hG' h'=>hk sl' G' H' nx' (by rw[List.map_append];exact hG') h'
theorem aF.fz (x:aF):gp 0 [(3,41),(4,42),(5,24)] x.v x.v []:=by
 rw[aF.bk]
 exact gp.of (eL.cons rfl (cP.row fc) (eL.cons rfl (cP.row ed) (eL.cons rfl (cP.row gd) (eL.nil))))
theorem aZ.fz (x:aZ):gp 0 [(3,42)] x.v x.v []:=by
 rw[aZ.bk]
 exact gp.of (eL.cons rfl (cP.row ed) (eL.nil))
theorem bg.fz (x:bg):gp 0 [(2,53)] x.v x.v []:=by
 rw[bg.bk]
 exact gp.of (eL.cons rfl (cP.row ee) (eL.nil))
theorem cM.fz (x:cM):gp 0 [(1,53)] x.v x.v []:=by
 rw[cM.bk]
 exact gp.of (eL.cons rfl (cP.row ee) (eL.nil))
theorem Fn.fz (x:Fn):gp 0 [(1,42),(5,41),(6,42),(7,24)] x.v x.v []:=by
 rw[Fn.bk]
 exact gp.of (eL.cons rfl (cP.row ed) (eL.cons rfl (cP.row fc) (eL.cons rfl (cP.row ed) (eL.cons rfl (cP.row gd) (eL.nil)))))
theorem aT.fz (x:aT):gp 0 [(4,42),(8,41),(9,42),(10,24),(11,48),(12,49),(14,50),(16,53)] x.v x.v []:=by
 rw[aT.bk]
 exact gp.of (eL.cons rfl (cP.row ed) (eL.cons rfl (cP.row fc) (eL.cons rfl (cP.row ed) (eL.cons rfl (cP.row gd) (eL.cons rfl (cP.row q6) (eL.cons rfl (cP.row fK) (eL.cons rfl (cP.row lO) (eL.cons rfl (cP.row ee) (eL.nil)))))))))
theorem Gw.Kq {l:List aF}{sl:Value}(hG:Gw true 6 44 (l.map aF.v) sl G):cP 1 41 sl (bc 6 (l.map aF.v)) G:=
 cP.gw fc bu bN rfl cQ hG (iB.id λv hv=>by obtain⟨x,_,rfl⟩:=List.mem_map.1 hv;exact x.fz) (λu hu=>by obtain⟨x,_,rfl⟩:=List.mem_map.1 hu;exact x.len) id
theorem Gw.HE {l:List aZ}{sl:Value}(hG:Gw true 4 47 (l.map aZ.v) sl G):cP 1 42 sl (bc 4 (l.map aZ.v)) G:=
 cP.gw ed bT cm rfl dC hG (iB.id λv hv=>by obtain⟨x,_,rfl⟩:=List.mem_map.1 hv;exact x.fz) (λu hu=>by obtain⟨x,_,rfl⟩:=List.mem_map.1 hu;exact x.len) id
theorem Gw.Po {l:List bg}{sl:Value}(hG:Gw true 3 138 (l.map bg.v) sl G):cP 1 53 sl (bc 3 (l.map bg.v)) G:=
 cP.gw ee bI e_ rfl g9 hG (iB.id λv hv=>by obtain⟨x,_,rfl⟩:=List.mem_map.1 hv;exact x.fz) (λu hu=>by obtain⟨x,_,rfl⟩:=List.mem_map.1 hu;exact x.len) id
theorem Gw.R7 {l:List cM}{sl:Value}(hG:Gw true 2 55 (l.map cM.v) sl G):cP 1 50 sl (bc 2 (l.map cM.v)) G:=
 cP.gw lO gZ lP rfl yr hG (iB.id λv hv=>by obtain⟨x,_,rfl⟩:=List.mem_map.1 hv;exact x.fz) (λu hu=>by obtain⟨x,_,rfl⟩:=List.mem_map.1 hu;exact x.len) id
theorem Gw.UL {l:List Fn}{sl:Value}(hG:Gw true 8 65 (l.map Fn.v) sl G):cP 1 48 sl (bc 8 (l.map Fn.v)) G:=
 cP.gw q6 iP uD rfl Hn hG (iB.id λv hv=>by obtain⟨x,_,rfl⟩:=List.mem_map.1 hv;exact x.fz) (λu hu=>by obtain⟨x,_,rfl⟩:=List.mem_map.1 hu;exact x.len) id
theorem Gw.UM {l:List aT}{sl:Value}(hG:Gw true 17 57 (l.map aT.v) sl G):cP 1 24 sl (bc 17 (l.map aT.v)) G:=
 cP.gw gd di fe rfl iR hG (iB.id λv hv=>by obtain⟨x,_,rfl⟩:=List.mem_map.1 hv;exact x.fz) (λu hu=>by obtain⟨x,_,rfl⟩:=List.mem_map.1 hu;exact x.len) id
theorem dU {cs:List Value}(h:cG H b cs 44)(hc:cs.length=6):ae P H 44 (some (ptr b))=some (.agg ⟨cs⟩):=by
 rw[bV h bN bu (by omega),List.drop_zero,<- hc,List.take_length]
theorem hJ {cs:List Value}(h:cG H b cs 47)(hc:cs.length=4):ae P H 47 (some (ptr b))=some (.agg ⟨cs⟩):=by
 rw[bV h cm bT (by omega),List.drop_zero,<- hc,List.take_length]
theorem gG {cs:List Value}(h:cG H b cs 138)(hc:cs.length=3):ae P H 138 (some (ptr b))=some (.agg ⟨cs⟩):=by
 rw[bV h e_ bI (by omega),List.drop_zero,<- hc,List.take_length]
theorem C4 {cs:List Value}(h:cG H b cs 55)(hc:cs.length=2):ae P H 55 (some (ptr b))=some (.agg ⟨cs⟩):=by
 rw[bV h lP gZ (by omega),List.drop_zero,<- hc,List.take_length]
theorem Mw {cs:List Value}(h:cG H b cs 52)(hc:cs.length=3):ae P H 52 (some (ptr b))=some (.agg ⟨cs⟩):=by
 rw[bV h zt x_ (by omega),List.drop_zero,<- hc,List.take_length]
theorem Mx {cs:List Value}(h:cG H b cs 65)(hc:cs.length=8):ae P H 65 (some (ptr b))=some (.agg ⟨cs⟩):=by
 rw[bV h uD iP (by omega),List.drop_zero,<- hc,List.take_length]
theorem C5 {cs:List Value}(h:cG H b cs 57)(hc:cs.length=17):ae P H 57 (some (ptr b))=some (.agg ⟨cs⟩):=by
 rw[bV h fe di (by omega),List.drop_zero,<- hc,List.take_length]
theorem er (k:Int)(a:Option Addr)(n c:Nat):aw P 44 (some [(0,i64 k),(3,.slice a n c)])=some (.agg ⟨[i64 k,i64 0,aE [],.slice a n c,az,az]⟩):=bn aV (by kernel_rfl)
theorem mV (k:Int)(w:List UInt8)(a:Option Addr)(n c:Nat):aw P 44 (some [(0,i64 k),(2,aE w),(3,.slice a n c)])=some (.agg ⟨[i64 k,i64 0,aE w,.slice a n c,az,az]⟩):=bn aV (by kernel_rfl)
theorem C6 (k n:Int):aw P 44 (some [(0,i64 k),(1,i64 n)])=some (.agg ⟨[i64 k,i64 n,aE [],az,az,az]⟩):=bn aV (by kernel_rfl)
theorem kZ (k:Int)(w:List UInt8):aw P 44 (some [(0,i64 k),(2,aE w)])=some (.agg ⟨[i64 k,i64 0,aE w,az,az,az]⟩):=bn aV (by kernel_rfl)
theorem k0 (k:Int)(a:Option Addr)(n c:Nat):aw P 47 (some [(0,i64 k),(3,.slice a n c)])=some (.agg ⟨[i64 k,i64 0,aE [],.slice a n c]⟩):=bn cE (by kernel_rfl)
theorem pH (k:Int)(w:List UInt8)(a:Option Addr)(n c:Nat):aw P 47 (some [(0,i64 k),(2,aE w),(3,.slice a n c)])=some (.agg ⟨[i64 k,i64 0,aE w,.slice a n c]⟩):=bn cE (by kernel_rfl)
theorem pI (k n:Int):aw P 47 (some [(0,i64 k),(1,i64 n)])=some (.agg ⟨[i64 k,i64 n,aE [],az]⟩):=bn cE (by kernel_rfl)
theorem iu (k:Int)(w:List UInt8):aw P 47 (some [(0,i64 k),(2,aE w)])=some (.agg ⟨[i64 k,i64 0,aE w,az]⟩):=bn cE (by kernel_rfl)
theorem mW (k:Int)(w:List UInt8):aw P 138 (some [(0,i64 k),(1,aE w)])=some (.agg ⟨[i64 k,aE w,az]⟩):=bn cb (by kernel_rfl)
theorem mX (k:Int)(a:Option Addr)(n c:Nat):aw P 138 (some [(0,i64 k),(2,.slice a n c)])=some (.agg ⟨[i64 k,aE [],.slice a n c]⟩):=bn cb (by kernel_rfl)
theorem mY (k:Int)(w:List UInt8)(a:Option Addr)(n c:Nat):aw P 138 (some [(0,i64 k),(1,aE w),(2,.slice a n c)])=some (.agg ⟨[i64 k,aE w,.slice a n c]⟩):=bn cb (by kernel_rfl)
theorem C7 (w:List UInt8):aw P 55 (some [(0,aE w)])=some (.agg ⟨[aE w,az]⟩):=bn fL (by kernel_rfl)
theorem Kr (w:List UInt8)(a:Option Addr)(n c:Nat):aw P 65 (some [(0,aE w),(1,.slice a n c)])=some (.agg ⟨[aE w,.slice a n c,i64 0,i64 0,aE [],az,az,az]⟩):=bn eK (by kernel_rfl)
theorem Ks (k:Int)(a:Option Addr)(n c:Nat):aw P 57 (some [(0,i64 k),(3,.slice a n c)])=some (.agg ⟨[i64 k,i64 0,i64 0,aE [],az,i64 0,i64 0,aE [],az,az,az,.slice a n c,az,aE [],az,aE [],az]⟩):=bn cJ (by kernel_rfl)
theorem Ku (k:Int)(p0 p1 p2 p3 c0 c1 c2 c3 c4 c5:Value):aw P 57 (some [(0,i64 k),(1,.agg ⟨[p0,p1,p2,p3]⟩),(2,.agg ⟨[c0,c1,c2,c3,c4,c5]⟩)])=some (.agg ⟨[i64 k,p0,p1,p2,p3,c0,c1,c2,c3,c4,c5,az,az,aE [],az,aE [],az]⟩):=bn cJ (by kernel_rfl)
theorem Kv (k:Int)(c0 c1 c2 c3 c4 c5:Value):aw P 57 (some [(0,i64 k),(2,.agg ⟨[c0,c1,c2,c3,c4,c5]⟩)])=some (.agg ⟨[i64 k,i64 0,i64 0,aE [],az,c0,c1,c2,c3,c4,c5,az,az,aE [],az,aE [],az]⟩):=bn cJ (by kernel_rfl)
theorem C8 (k:Int)(c0 c1 c2:Value):aw P 57 (some [(0,i64 k),(4,.agg ⟨[c0,c1,c2]⟩)])=some (.agg ⟨[i64 k,i64 0,i64 0,aE [],az,i64 0,i64 0,aE [],az,az,az,az,c0,c1,c2,aE [],az]⟩):=bn cJ (by kernel_rfl)
theorem Kw (k:Int)(c0 c1:Value):aw P 57 (some [(0,i64 k),(5,.agg ⟨[c0,c1]⟩)])=some (.agg ⟨[i64 k,i64 0,i64 0,aE [],az,i64 0,i64 0,aE [],az,az,az,az,az,aE [],az,c0,c1]⟩):=bn cJ (by kernel_rfl)
end
section
variable {nx0 nx nx' bp k:Nat}{H0 H H':T OB}{F A B G G':List Bx}{s:Bx}{R:Go.Ev.Out->T OB->Nat->Prop}{b:Nat}{l:List Value}{e t:TypeId}{L:List Tok}
theorem eL.one {n:Nat}{p:Nat×TypeId}{cs:List Value}{v u:Value}(hc:cs[p.1]? = some v)(h1:cP n p.2 v u G):eL n [p] cs (cs.set p.1 u) G:=by
 have:=eL.cons hc h1 (eL.nil (n:=n))
 rwa[List.append_nil]at this
theorem iB.one {n:Nat}{offs:List (Nat×TypeId)}{v u:Value}(h1:gp n offs v u G):iB n offs [v] [u] G:=by
 have:=iB.cons h1 (iB.nil (n:=n) (offs:=offs))
 rwa[List.append_nil]at this
theorem iB.two {n:Nat}{offs:List (Nat×TypeId)}{v u w:Value}(h1:gp n offs v u G)(h2:gp 0 offs w w []):iB n offs [v,w] [u,w] G:=by
 have:=iB.cons h1 (iB.one (h2.mono (Nat.zero_le n)))
 rwa[List.append_nil]at this
theorem hN (cs:List Value):bR [.agg ⟨cs⟩]=cs:=List.append_nil cs
theorem lW (cs ds:List Value):bR [.agg ⟨cs⟩,.agg ⟨ds⟩]=cs++ds:=by show cs++(ds++[])=_;rw[List.append_nil]
theorem Gw.jA {a:Bool}{sz:Nat}{cs:List Value}(h:ot a sz [.agg ⟨cs⟩]):Gw a sz e [.agg ⟨cs⟩] (gq b 1 1) [(b,cs,e)]:=by
 have:=Gw.one (b:=b) (e:=e) (n:=1) h rfl (by decide)
 rwa[hN]at this
structure iE (n:Nat)(cs:List Value)(a:bg)(G:List Bx):Prop where
 len:cs.length=3
 one:cs.all ax=true
 fz:gp n [(2,53)] (.agg ⟨cs⟩) a.v G
theorem iE.of (a:bg):iE 0 a.cs a []:=⟨a.len,(a.fD a.v (by simp)).2.1,a.fz⟩
theorem iE.fD {n:Nat}{cs:List Value}{a:bg}(h:iE n cs a G):ot true 3 [.agg ⟨cs⟩]:=λv hv=>by
 rw[List.mem_singleton]at hv
 subst hv
 exact⟨h.len,h.one,⟨_,rfl⟩⟩
theorem iE.row {k:Int}{w:List UInt8}{sl:Value}{l:List bg}{n:Nat}(h:cP n 53 sl (fg l) G)(ho:ax sl=true):iE n [i64 k,aE w,sl] (.mk k w l) G:=⟨rfl,by simp[ho],by
 rw[bg.bk]
 exact gp.of (eL.one (p:=(2,53)) (cs:=[i64 k,aE w,sl]) rfl h)⟩
theorem ck {a:Bool}{sz:Nat}{vs:List Value}{sl:Value}(h:Gw a sz e vs sl G):ax sl=true:=by
 rcases h.2 with⟨_,rfl,_⟩ | ⟨b,c,rfl,_⟩<;>rfl
theorem iE.gw {k:Int}{w:List UInt8}{sl:Value}{l:List bg}(h:Gw true 3 138 (l.map bg.v) sl G):iE 1 [i64 k,aE w,sl] (.mk k w l) G:=iE.row h.Po (ck h)
theorem iE.b1 {k:Int}{w:List UInt8}{n:Nat}{cs:List Value}{a:bg}(h:iE n cs a G):iE (n+1) [i64 k,aE w,gq b 1 1] (.mk k w [a]) ((b,cs,138)::G):=by
 have:=cP.Mp (t:=53) (b:=b) ee bI e_ rfl g9 h.fD (.inr rfl) (by simp) (iB.one h.fz) (λu hu=>by rw[List.mem_singleton]at hu;subst hu;exact a.len)
 rw[hN cs]at this
 exact iE.row this rfl
theorem iE.b2 {k:Int}{w:List UInt8}{n:Nat}{cs:List Value}{a c:bg}(h:iE n cs a G):iE (n+1) [i64 k,aE w,gq b 2 2] (.mk k w [a,c]) ((b,cs++c.cs,138)::G):=by
 have:=cP.Mp (t:=53) (b:=b) (vs:=[.agg ⟨cs⟩,c.v]) ee bI e_ rfl g9 (λv hv=>by
  rcases List.mem_cons.1 hv with rfl | hv
  . exact h.fD _ (by simp)
  . exact c.fD v hv) (.inr rfl) (by simp) (iB.two h.fz c.fz) (λu hu=>by
  rcases List.mem_cons.1 hu with rfl | hu
  . exact a.len
  . rw[List.mem_singleton]at hu;subst hu;exact c.len)
 rw[show bR [Value.agg ⟨cs⟩,c.v]=cs++c.cs from lW cs c.cs]at this
 exact iE.row this rfl
theorem hP {α β γ:Type}(x:PR α)(f:α->Nat->PR β)(g:β->Nat->PR γ):bd (bd x f) g=bd x λa k=>bd (f a k) g:=by
 cases x with
 | none=>rfl
 | some r=>cases r<;>rfl
theorem eG {α β:Type}(a:α)(k:Nat)(f:α->Nat->PR β):bd (yes a k) f=f a k:=rfl
def Kx (L:List Tok)(T:Nat->PR bg)(a:bg)(k:Nat):PR bg:=if dD L k [45,62]=true then bd (T (k+1)) λb k=>yes (.mk 3 [] [a,b]) k else yes a k
theorem My {T:Nat->PR bg}(hT:bw 147 L bg.v T)(hL:L.length<=100000){n:Nat}{cs z:List Value}{a:bg}{x0 x2:Nat}{o:iY bg}(hv:iE n cs a G)(hn:n<=99990)(hz:z.length=3)(ho:Kx L T a k=some o)
 (h:Hp nx0 H0 (cD bp L k::(x2,cs,138)::(x0,z,138)::(G++F)) H nx):aK P pl X0 (aN P pl (vn (ptr bp) (ptr x0) (ptr x2) H nx)) nx0 H0 (End nx0 H0 bp L F bg.v o):=by
 rw[Cr]
 unfold Kx at ho
 refine Sq.take hL h (λhi H1 aC h1=> ?_) (λhi H1 aC h1=> ?_)
 . rw[if_pos hi]at ho
   simp only[af,gG (h1.at_ 1 rfl) hv.len]
   refine Sq.call hT rfl h1 ho λc k' H2 nx2 _ ho2 h2=> ?_
   simp only[af,gG (h2.at_ 1 rfl) hv.len,bj]
   refine Hq.C3 cs c.cs hv.len c.len h2 λx H3 nx3 h3=> ?_
   simp only[af,mX]
   have h4:Hp nx0 H0 (cD bp L k'::(x0,z,138)::((x,cs++c.cs,138)::G++F)) H3 nx3:=(Hp.mv [_,_] h3).sub (by simp)
   exact Hq.fin h4 bI e_ g9 hz rfl rfl (iE.b2 hv).fz (by omega) λH5 nx5 h5=>End.ret ho2 rfl h5
 . rw[if_neg (by rw[hi];simp)]at ho
   simp only[af,gG (h1.at_ 1 rfl) hv.len]
   have h4:Hp nx0 H0 (cD bp L k::(x0,z,138)::(G++F)) H1 aC:=(Hp.mv [_] h1).sub (by simp)
   exact Hq.fin h4 bI e_ g9 hz hv.len hv.one hv.fz (by omega) λH5 nx5 h5=>End.ret ho rfl h5
theorem Mz {TT:Nat->PR bg}(hT:bw 147 L bg.v TT)(hL:L.length<=100000):∀(m:Nat),(∀j,j<m->bw 175 L bg.v (ps L j).post)->∀(l:List bg) (k:Nat) (sl:Value) (G:List Bx) (o:iY bg) (z:List Value) (x0 x2 nx:Nat) (H:T OB),l.length+m<=90010->Gw true 3 138 (l.map bg.v) sl G->z.length=3->
 bd ((ps L m).dk l k) (λl k=>Kx L TT (.mk 4 [] l) k)=some o->Hp nx0 H0 (cD bp L k::(x2,[i64 4,aE [],sl],138)::(x0,z,138)::(G++F)) H nx->
 aK P pl X0 (.jump (o_ (ptr bp) (ptr x0) (ptr x2) H nx)) nx0 H0 (End nx0 H0 bp L F bg.v o)
 | 0,_,l,k,sl,G,o,z,x0,x2,nx,H,hm,hG,hz,ho,h=>by cases ho
 | m+1,hp,l,k,sl,G,o,z,x0,x2,nx,H,hm,hG,hz,ho,h=>by
   have ho:bd (lz L (ps L m) l k) (λl k=>Kx L TT (.mk 4 [] l) k)=some o:=ho
   unfold lz at ho
   refine Wq.jmp (Jl ..) (λ_=>rfl) ?_
   refine Sq.take hL h (λhi H1 aC h1=> ?_) (λhi H1 aC h1=> ?_)
   . rw[if_pos hi,hP]at ho
     simp only[af,av (off:=2) (u:=sl) (h1.at_ 1 rfl) uC rfl]
     refine Sq.call (hp m (Nat.lt_succ_self m)) rfl h1 ho λc k' H2 nx2 _ ho2 h2=> ?_
     simp only[af,av (off:=2) (u:=sl) (h2.at_ 1 rfl) uC rfl,bj]
     refine Hq.eM c.cs c.len h2 λx H3 nx3 h3=> ?_
     simp only[af,av (off:=2) (u:=sl) (h3.at_ 2 rfl) uC rfl,bj]
     refine Hq.yz [_,_] (x:=c) (by omega) hG h3 λsl' G' H4 nx4 hG' h4=> ?_
     refine Hq.put [_] h4 FO (by rcases hG'.2 with⟨_,rfl,_⟩ | ⟨b,c,rfl,_⟩<;>rfl) (ck hG') (by simp) rfl λH5 h5=> ?_
     exact Mz hT hL m (λj hj=>hp j (by omega)) (l++[c]) k' sl' G' o z x0 x2 nx4 H5 (by rw[List.length_append];simp;omega) hG' hz ho2 h5
   . rw[if_neg (by rw[hi];simp)]at ho
     have:=My hT hL (iE.gw (k:=4) (w:=[]) hG) (by omega) hz ho h1
     rw[Cr]at this
     exact this
theorem Ej (a b:Value):aA (some (.tuple ⟨[a,b]⟩)) 0=some a:=rfl
theorem Ek (a b:Value):aA (some (.tuple ⟨[a,b]⟩)) 1=some b:=rfl
theorem Hq.set (A:List Bx){sz:Nat}{cs:List Value}{kt:Value->Go.Ev.T OB->Nat->Q}(h:Hp nx0 H0 (A++(b,l,e)::B) H nx)(hs:bh P t=some sz)(hl:l.length=sz)(hc:cs.length=sz)(h1:cs.all ax=true)
 (hk:∀H',Hp nx0 H0 (A++(b,cs,e)::B) H' nx->aK P pl X0 (kt undef H' nx) nx0 H0 R):aK P pl X0 (ak (ai P H nx t (some (ptr b)) (some (.agg ⟨cs⟩))) kt) nx0 H0 R:=
 Hq.store A h hs (by omega) hc h1 λH' h'=>hk H' (by
  rw[show il l (Value.agg ⟨cs⟩).cells.toList 0=cs from tB (by show cs.length=_;omega)]at h'
  exact h')
theorem Hp.swap' {x y:Bx}(h:Hp nx0 H0 (s::x::y::F) H nx):Hp nx0 H0 (s::y::x::F) H nx:=h.perm (List.Perm.cons _ (List.Perm.swap _ _ _))
theorem Hp.mZ {x y z:Bx}(h:Hp nx0 H0 (s::x::y::z::F) H nx):Hp nx0 H0 (s::y::z::x::F) H nx:=h.perm (List.Perm.cons _ ((List.Perm.swap _ _ _).trans (List.Perm.cons _ (List.Perm.swap _ _ _))))
theorem R8 (hL:L.length<=100000){n:Nat}(hn:n<=90000)(hpost:∀j,j<=n->bw 175 L bg.v (ps L j).post)(htyp:bw 147 L bg.v (ps L n).dH):bw 147 L bg.v (ps L (n+1)).dH:=by
 intro nx0 nx H0 H bp F k o ho h
 have ho:v5 L (ps L n) k=some o:=ho
 unfold v5 ou at ho
 rw[hP]at ho
 rw[TP]
 refine Hq.alloc cb h λx0 H1 aC h1=> ?_
 refine Sq.call (hpost n (Nat.le_refl n)) rfl h1 ho λa k' H2 nx2 _ ho h2=> ?_
 have ha:=iE.of a
 refine Hq.alloc cb h2 λx2 H3 nx3 h3=> ?_
 refine Hq.set [_] h3 bI rfl ha.len ha.one λH4 h4=> ?_
 refine Sq.is h4 λH5 nx5 h5=> ?_
 cases hi:dD L k' [42]with
 | true=>
   rw[hi,if_pos rfl,hP]at ho
   simp only[af,gG (h5.at_ 1 rfl) a.len]
   refine Hq.eM a.cs a.len h5 λx H6 nx6 h6=> ?_
   simp only[af,mX]
   refine Hq.set [_,_] h6 bI ha.len rfl rfl λH7 h7=> ?_
   exact Mz htyp hL (n+1) (λj hj=>hpost j (by omega)) [a] k' (gq x 1 1) [(x,a.cs,138)] o _ x0 x2 nx6 H7 (show 1+(n+1)<=90010 by omega) (Gw.jA a.fD) rfl ho (Hp.mZ h7)
 | false=>
   rw[hi,if_neg (by simp),eG]at ho
   simp only[af]
   exact Wq.jump (λ_=>rfl) (My htyp hL ha (by omega) rfl ho h5)
theorem HF (hL:L.length<=100000):∀(m:Nat) (a:bg) (k n:Nat) (cs z:List Value) (G:List Bx) (o:iY bg) (x0 x1 nx:Nat) (H:Go.Ev.T OB),n+m<=90010->iE n cs a G->z.length=3->(ps L m).cB a k=some o->Hp nx0 H0 (cD bp L k::(x1,cs,138)::(x0,z,138)::(G++F)) H nx->
 aK P pl X0 (aN P pl (kR (ptr bp) (ptr x0) (ptr x1) H nx)) nx0 H0 (End nx0 H0 bp L F bg.v o)
 | 0,a,k,n,cs,z,G,o,x0,x1,nx,H,hm,hv,hz,ho,h=>by cases ho
 | m+1,a,k,n,cs,z,G,o,x0,x1,nx,H,hm,hv,hz,ho,h=>by
   have ho:jJ L (ps L m) a k=some o:=ho
   unfold jJ at ho
   rw[vu]
   refine Sq.OU hL h (λhi H1 aC h1=> ?_) (λhi H1 aC h1=> ?_)
   . rw[if_pos hi]at ho
     simp only[af,Ej,Ek]
     refine Wq.jmp (Cv ..) (λ_=>rfl) ?_
     simp only[af,gG (h1.at_ 1 rfl) hv.len]
     refine Hq.eM cs hv.len h1 λx H2 nx2 h2=> ?_
     simp only[af,mY]
     refine Hq.set [_,_] h2 bI hv.len rfl rfl λH3 h3=> ?_
     have:=HF hL m (.mk 2 (tk L k).s [a]) (k+1) (n+1) _ z ((x,cs,138)::G) o x0 x1 nx2 H3 (by omega) (iE.b1 (k:=2) (w:=(tk L k).s) hv) hz ho (Hp.mZ h3)
     rw[vu]at this
     exact this
   . rw[if_neg (by rw[hi];simp)]at ho
     simp only[af,Ej,Ek]
     refine Wq.jmp (Cv ..) (λ_=>rfl) ?_
     simp only[af,gG (h1.at_ 1 rfl) hv.len]
     have h4:Hp nx0 H0 (cD bp L k::(x0,z,138)::(G++F)) H1 aC:=(Hp.mv [_] h1).sub (by simp)
     exact Hq.fin h4 bI e_ g9 hz hv.len hv.one hv.fz (by omega) λH5 nx5 h5=>End.ret ho rfl h5
theorem z7 (hL:L.length<=100000){m:Nat}{a:bg}{k n:Nat}{cs z:List Value}{G:List Bx}{o:iY bg}{x0 x1 nx:Nat}{H:Go.Ev.T OB}(hm:n+m<=90010)(hv:iE n cs a G)(hz:z.length=3)(ho:(ps L m).cB a k=some o)(h:Hp nx0 H0 (cD bp L k::(x1,cs,138)::(x0,z,138)::(G++F)) H nx):
 aK P pl X0 (.jump (kR (ptr bp) (ptr x0) (ptr x1) H nx)) nx0 H0 (End nx0 H0 bp L F bg.v o):=Wq.jump (λ_=>rfl) (HF hL m a k n cs z G o x0 x1 nx H hm hv hz ho h)
theorem MA (hL:L.length<=100000){M:Nat}(hM:M<=90005):∀(m:Nat),(∀j,j<m->bw 147 L bg.v (ps L j).dH)->∀(l:List bg) (k:Nat) (sl:Value) (G:List Bx) (o:iY bg) (y z:List Value) (x0 x1 nx:Nat) (H:Go.Ev.T OB),l.length+m<=90010->Gw true 3 138 (l.map bg.v) sl G->y.length=3->z.length=3->
 bd ((ps L m).lX l k) (λl k=>aS L [41] k λk=>bd (if iC L k=true then yes (bg.mk 2 (tk L k).s l) (k+1)else kp L k) λa k=>(ps L M).cB a k)=some o->Hp nx0 H0 (cD bp L k::(x1,y,138)::(x0,z,138)::(G++F)) H nx->
 aK P pl X0 (.jump (pf (ptr bp) (ptr x0) (ptr x1) sl H nx)) nx0 H0 (End nx0 H0 bp L F bg.v o)
 | 0,_,l,k,sl,G,o,y,z,x0,x1,nx,H,hm,hG,hy,hz,ho,h=>by cases ho
 | m+1,hp,l,k,sl,G,o,y,z,x0,x1,nx,H,hm,hG,hy,hz,ho,h=>by
   have ho:bd (nF L (ps L m) l k) (λl k=>aS L [41] k λk=>bd (if iC L k=true then yes (bg.mk 2 (tk L k).s l) (k+1)else kp L k) λa k=>(ps L M).cB a k)=some o:=ho
   unfold nF at ho
   refine Wq.jmp (Jr ..) (λ_=>rfl) ?_
   refine Sq.take hL h (λhi H1 aC h1=> ?_) (λhi H1 aC h1=> ?_)
   . rw[if_pos hi,hP]at ho
     simp only[af]
     refine Sq.call (hp m (Nat.lt_succ_self m)) rfl h1 ho λc k' H2 nx2 _ ho2 h2=> ?_
     refine Hq.eM c.cs c.len h2 λx H3 nx3 h3=> ?_
     refine Hq.yz [_,_] (x:=c) (by omega) hG h3 λsl' G' H4 nx4 hG' h4=> ?_
     exact MA hL hM m (λj hj=>hp j (by omega)) (l++[c]) k' sl' G' o y z x0 x1 nx4 H4 (by rw[List.length_append];simp;omega) hG' hy hz ho2 h4
   . rw[if_neg (by rw[hi];simp),eG]at ho
     simp only[af]
     refine Sq.jQ hL h1 ho λH2 nx2 _ ho h2=> ?_
     refine Sq.OU hL h2 (λhi H3 nx3 h3=> ?_) (λhi H3 nx3 h3=> ?_)
     . rw[if_pos hi,eG]at ho
       simp only[af,Ej,Ek]
       refine Wq.jmp (Js ..) (λ_=>rfl) ?_
       have hb:aw P 138 (some [(0,i64 2),(1,aE (tk L (k+1)).s),(2,sl)])=some (.agg ⟨[i64 2,aE (tk L (k+1)).s,sl]⟩):=by
        rcases hG.2 with⟨_,rfl,_⟩ | ⟨b,c,rfl,_⟩<;>exact mY ..
       simp only[af,hb]
       refine Hq.set [_] h3 bI hy rfl (by simp[ck hG]) λH4 h4=> ?_
       have:=HF hL M _ _ 1 _ z G o x0 x1 nx3 H4 (by omega) (iE.gw (k:=2) (w:=(tk L (k+1)).s) hG) hz ho h4
       rw[vu]at this
       exact this
     . rw[if_neg (by rw[hi];simp)]at ho
       simp only[af,Ej,Ek]
       exact Sq.fail (α:=bg) (β:=bg) (o:=o) (by cases ho;rfl) h3
theorem R9 (hL:L.length<=100000){n:Nat}(hn:n<=90000)(htyp:∀j,j<=n->bw 147 L bg.v (ps L j).dH):bw 175 L bg.v (ps L (n+1)).post:=by
 intro nx0 nx H0 H bp F k o ho h
 have ho:mJ L (ps L n) k=some o:=ho
 unfold mJ ov at ho
 have hnm:∀a k,jJ L (ps L n) a k=(ps L (n+1)).cB a k:=λ_ _=>rfl
 rw[T5]
 refine Hq.alloc cb h λx0 H1 aC h1=> ?_
 refine Hq.alloc cb h1 λx1 H2 nx2 h2=> ?_
 refine Sq.now h2 λH3 nx3 h3=> ?_
 refine Sq.CS h3 λH4 nx4 h4=> ?_
 simp only[af]
 refine Wq.ite (λhi=> ?_) (λhi=> ?_)
 . rw[if_pos hi,eG]at ho
   simp only[af,pk h4,dq hL (fP (show(tk L k).k≠0 by omega))]
   refine dI h4 λH5 h5=> ?_
   simp only[af,mW]
   refine Hq.set [_] h5 bI rfl rfl rfl λH6 h6=> ?_
   exact z7 hL (m:=n+1) (n:=0) (G:=[]) (by omega) (iE.row (k:=1) (w:=(tk L k).s) (l:=[]) (cP.nil ee bI) rfl) rfl ho h6
 . rw[if_neg hi]at ho
   refine Sq.OU hL h4 (λht H5 nx5 h5=> ?_) (λht H5 nx5 h5=> ?_)
   . rw[if_pos ht,eG]at ho
     simp only[af,Ej,Ek,mW]
     refine Hq.set [_] h5 bI rfl rfl rfl λH6 h6=> ?_
     exact z7 hL (m:=n+1) (n:=0) (G:=[]) (by omega) (iE.row (k:=2) (w:=(tk L k).s) (l:=[]) (cP.nil ee bI) rfl) rfl ho h6
   . rw[if_neg (by rw[ht];simp)]at ho
     simp only[af,Ej,Ek]
     have ho:aS L [40] k (λk=>bd (bd ((ps L n).dH k) λa k=>if dD L k [44]=true then bd (nF L (ps L n) [a] k) λl k=>aS L [41] k λk=>if iC L k=true then yes (bg.mk 2 (tk L k).s l) (k+1)else kp L k else aS L [41] k λk=>yes a k) λa k=>jJ L (ps L n) a k)=some o:=by
      rw[<- ho]
      unfold aS
      split<;>rfl
     refine Sq.jQ hL h5 ho λH6 nx6 _ ho h6=> ?_
     rw[hP]at ho
     refine Sq.call (htyp n (Nat.le_refl n)) rfl h6 ho λa k' H7 nx7 _ ho h7=> ?_
     refine Hq.set [_] h7 bI rfl a.len (iE.of a).one λH8 h8=> ?_
     refine Sq.is h8 λH9 nx9 h9=> ?_
     cases hc:dD L k' [44]with
     | true=>
       rw[hc,if_pos rfl,hP]at ho
       simp only[af,gG (h9.at_ 1 rfl) a.len]
       refine Hq.eM a.cs a.len h9 λx H10 nx10 h10=> ?_
       refine MA hL (M:=n+1) (by omega) (n+1) (λj hj=>htyp j (by omega)) [a] k' (gq x 1 1) [(x,a.cs,138)] o _ _ x0 x1 nx10 H10 (show 1+(n+1)<=90010 by omega) (Gw.jA a.fD) a.len rfl ?_ (Hp.mZ h10)
       rw[<- ho]
       show bd (nF L (ps L n) [a] k') _=bd (nF L (ps L n) [a] k') _
       congr 1
       funext l k
       unfold aS
       split<;>rfl
     | false=>
       rw[hc,if_neg (by simp)]at ho
       simp only[af]
       have ho:aS L [41] k' (λk=>(ps L (n+1)).cB a k)=some o:=by
        rw[<- ho]
        unfold aS
        split<;>rfl
       refine Sq.jQ hL h9 ho λH10 nx10 _ ho h10=> ?_
       exact z7 hL (m:=n+1) (n:=0) (G:=[]) (by omega) (iE.of a) rfl ho h10
theorem R_ (hL:L.length<=100000){p:PS}(htyp:bw 147 L bg.v p.dH):bw 104 L cM.v (v7 L p):=by
 intro nx0 nx H0 H bp F k o ho h
 unfold v7 at ho
 rw[Tq]
 refine Hq.alloc fL h λx0 H1 aC h1=> ?_
 refine Sq.word (by decide) hL h1 ho λH2 nx2 _ ho h2=> ?_
 simp only[af,C7]
 refine Hq.alloc fL h2 λx1 H3 nx3 h3=> ?_
 refine Hq.set [_] h3 gZ rfl rfl rfl λH4 h4=> ?_
 refine Sq.take hL h4 (λhi H5 nx5 h5=> ?_) (λhi H5 nx5 h5=> ?_)
 . rw[if_pos hi]at ho
   simp only[af]
   refine Sq.call htyp rfl h5 ho λa k' H6 nx6 _ ho h6=> ?_
   refine Hq.eM a.cs a.len h6 λx H7 nx7 h7=> ?_
   refine Hq.put [_,_] h7 FO rfl rfl (by simp) rfl λH8 h8=> ?_
   refine Wq.jmp (Cl ..) (λ_=>rfl) ?_
   simp only[af,C4 (h8.at_ 2 rfl) rfl]
   have h9:Hp nx0 H0 (cD bp L k'::(x0,[aE [],az],55)::([(x,a.cs,138)]++F)) H8 nx7:=(Hp.mv [_,_] h8).sub (by simp)
   refine Hq.fin h9 gZ lP yr rfl rfl rfl (gp.of (eL.one (p:=(1,53)) rfl (Gw.Po (l:=[a]) (Gw.jA a.fD)))) (by omega) λH10 nx10 h10=>End.ret ho rfl h10
 . rw[if_neg (by rw[hi];simp)]at ho
   simp only[af]
   refine Wq.jmp (Cl ..) (λ_=>rfl) ?_
   simp only[af,C4 (h5.at_ 1 rfl) rfl]
   have h9:Hp nx0 H0 (cD bp L (k+1)::(x0,[aE [],az],55)::([]++F)) H5 nx5:=(Hp.mv [_] h5).sub (by simp)
   refine Hq.fin h9 gZ lP yr rfl rfl rfl (gp.of (eL.one (p:=(1,53)) rfl (cP.nil ee bI))) (by omega) λH10 nx10 h10=>End.ret ho rfl h10
end
section
variable {nx0 nx nx' bp k:Nat}{H0 H H':T OB}{F A B G G':List Bx}{s:Bx}{R:Go.Ev.Out->T OB->Nat->Prop}{b:Nat}{l:List Value}{e t:TypeId}{L:List Tok}
structure fl (n:Nat)(cs:List Value)(a:aZ)(G:List Bx):Prop where
 len:cs.length=4
 one:cs.all ax=true
 fz:gp n [(3,42)] (.agg ⟨cs⟩) a.v G
theorem fl.of (a:aZ):fl 0 a.cs a []:=⟨a.len,(a.fD a.v (by simp)).2.1,a.fz⟩
theorem fl.fD {n:Nat}{cs:List Value}{a:aZ}(h:fl n cs a G):ot true 4 [.agg ⟨cs⟩]:=λv hv=>by
 rw[List.mem_singleton]at hv
 subst hv
 exact⟨h.len,h.one,⟨_,rfl⟩⟩
theorem fl.row {k i:Int}{w:List UInt8}{sl:Value}{l:List aZ}{n:Nat}(h:cP n 42 sl (cj l) G)(ho:ax sl=true):fl n [i64 k,i64 i,aE w,sl] (.mk k i w l) G:=⟨rfl,by simp[ho],by
 rw[aZ.bk]
 exact gp.of (eL.one (p:=(3,42)) (cs:=[i64 k,i64 i,aE w,sl]) rfl h)⟩
theorem fl.nil {k i:Int}{w:List UInt8}:fl 0 [i64 k,i64 i,aE w,az] (.mk k i w []) []:=fl.row (l:=[]) (cP.nil ed bT) rfl
theorem fl.gw {k i:Int}{w:List UInt8}{sl:Value}{l:List aZ}(h:Gw true 4 47 (l.map aZ.v) sl G):fl 1 [i64 k,i64 i,aE w,sl] (.mk k i w l) G:=fl.row h.HE (ck h)
theorem fl.b1 {k i:Int}{w:List UInt8}{n:Nat}{cs:List Value}{a:aZ}(h:fl n cs a G):fl (n+1) [i64 k,i64 i,aE w,gq b 1 1] (.mk k i w [a]) ((b,cs,47)::G):=by
 have:=cP.Mp (t:=42) (b:=b) ed bT cm rfl dC h.fD (.inr rfl) (by simp) (iB.one h.fz) (λu hu=>by rw[List.mem_singleton]at hu;subst hu;exact a.len)
 rw[hN cs]at this
 exact fl.row this rfl
theorem fl.b2 {k i:Int}{w:List UInt8}{n:Nat}{cs:List Value}{a c:aZ}(h:fl n cs a G):fl (n+1) [i64 k,i64 i,aE w,gq b 2 2] (.mk k i w [a,c]) ((b,cs++c.cs,47)::G):=by
 have:=cP.Mp (t:=42) (b:=b) (vs:=[.agg ⟨cs⟩,c.v]) ed bT cm rfl dC (λv hv=>by
  rcases List.mem_cons.1 hv with rfl | hv
  . exact h.fD _ (by simp)
  . exact c.fD v hv) (.inr rfl) (by simp) (iB.two h.fz c.fz) (λu hu=>by
  rcases List.mem_cons.1 hu with rfl | hu
  . exact a.len
  . rw[List.mem_singleton]at hu;subst hu;exact c.len)
 rw[show bR [Value.agg ⟨cs⟩,c.v]=cs++c.cs from lW cs c.cs]at this
 exact fl.row this rfl
def HG (L:List Tok)(TT:Nat->PR aZ)(a:aZ)(k:Nat):PR aZ:=if dD L k [58,58]=true then bd (TT (k+1)) λb k=>yes (tC a b) k else yes a k
theorem HH {TT:Nat->PR aZ}(hT:bw 148 L aZ.v TT)(hL:L.length<=100000){n:Nat}{cs z:List Value}{a:aZ}{x0 x1:Nat}{o:iY aZ}(hv:fl n cs a G)(hn:n<=99990)(hz:z.length=4)(ho:HG L TT a k=some o)
 (h:Hp nx0 H0 (cD bp L k::(x1,cs,47)::(x0,z,47)::(G++F)) H nx):aK P pl X0 (.jump (mD (ptr bp) (ptr x0) (ptr x1) H nx)) nx0 H0 (End nx0 H0 bp L F aZ.v o):=by
 refine Wq.jmp (Jm ..) (λ_=>rfl) ?_
 unfold HG at ho
 refine Sq.take hL h (λhi H1 aC h1=> ?_) (λhi H1 aC h1=> ?_)
 . rw[if_pos hi]at ho
   simp only[af,hJ (h1.at_ 1 rfl) hv.len]
   refine Sq.call hT rfl h1 ho λc k' H2 nx2 _ ho2 h2=> ?_
   simp only[af,hJ (h2.at_ 1 rfl) hv.len,bj]
   refine Hq.pF cs c.cs hv.len c.len h2 λx H3 nx3 h3=> ?_
   simp only[af,k0]
   refine Hq.dW [i64 5,i64 0,aE [],gq x 2 2] rfl h3 λy H4 nx4 h4=> ?_
   simp only[af,pH]
   have h5:Hp nx0 H0 (cD bp L k'::(x0,z,47)::((y,[i64 5,i64 0,aE [],gq x 2 2],47)::(x,cs++c.cs,47)::G++F)) H4 nx4:=(Hp.mv [_,_,_] h4).sub (by simp)
   exact Hq.fin h5 bT cm dC hz rfl rfl (fl.b1 (fl.b2 hv)).fz (by omega) λH5 nx5 h5=>End.ret ho2 rfl h5
 . rw[if_neg (by rw[hi];simp)]at ho
   simp only[af,hJ (h1.at_ 1 rfl) hv.len]
   have h4:Hp nx0 H0 (cD bp L k::(x0,z,47)::(G++F)) H1 aC:=(Hp.mv [_] h1).sub (by simp)
   exact Hq.fin h4 bT cm dC hz hv.len hv.one hv.fz (by omega) λH5 nx5 h5=>End.ret ho rfl h5
theorem Sa (hL:L.length<=100000){p:PS}(hpatom:bw 177 L aZ.v p.bl)(hpat:bw 148 L aZ.v p.pat):bw 148 L aZ.v (vZ L p):=by
 intro nx0 nx H0 H bp F k o ho h
 unfold vZ yu at ho
 have hc:∀(a:aZ) (k:Nat),(if dD L k [58,58]=true then bd (p.pat (k+1)) λb k=>yes (tC a b) k else yes a k)=HG L p.pat a k:=λ_ _=>rfl
 simp only[hc]at ho
 rw[TQ]
 refine Hq.alloc cE h λx0 H1 aC h1=> ?_
 refine Hq.alloc cE h1 λx1 H2 nx2 h2=> ?_
 refine Sq.now h2 λH3 nx3 h3=> ?_
 refine Sq.CS h3 λH4 nx4 h4=> ?_
 simp only[af]
 refine Wq.ite (λhi=> ?_) (λhi=> ?_)
 . rw[if_pos hi]at ho
   simp only[af,pk h4,dq hL (fP (show(tk L k).k≠0 by omega))]
   refine dI h4 λH5 h5=> ?_
   simp only[af,iu]
   refine Hq.set [_] h5 bT rfl rfl rfl λH6 h6=> ?_
   refine Sq.Ho h6 λH7 nx7 h7=> ?_
   cases hb:kq L (k+1)with
   | true=>
     rw[hb,if_pos rfl,hP]at ho
     simp only[eG]at ho
     simp only[af]
     refine Sq.call hpatom rfl h7 ho λa k' H8 nx8 _ ho h8=> ?_
     refine Hq.dW a.cs a.len h8 λx H9 nx9 h9=> ?_
     refine Hq.put [_,_] h9 oe rfl rfl (by simp) rfl λH10 h10=> ?_
     exact HH (n:=1) (G:=[(x,a.cs,47)]) hpat hL (fl.b1 (fl.of a)) (by omega) rfl ho (Hp.mZ h10)
   | false=>
     rw[hb,if_neg (by simp),eG]at ho
     simp only[af]
     exact HH (n:=0) (G:=[]) hpat hL fl.nil (by omega) rfl ho h7
 . rw[if_neg hi]at ho
   refine Sq.call hpatom rfl h4 ho λa k' H5 nx5 _ ho h5=> ?_
   refine Hq.set [_] h5 bT rfl a.len (fl.of a).one λH6 h6=> ?_
   exact HH (n:=0) (G:=[]) hpat hL (fl.of a) (by omega) rfl ho h6
theorem MB (n:Int):eO P .neg (some (i64 n))=some (i64 (IntKind.i64.wrap (-n))):=by rw[vJ,Int.zero_sub]
theorem MC (hL:L.length<=100000):∀(m:Nat),(∀j,j<m->bw 148 L aZ.v (ps L j).pat)->∀(l:List aZ) (k:Nat) (sl:Value) (G:List Bx) (o:iY aZ) (z:List Value) (x0 x1 nx:Nat) (H:Go.Ev.T OB),l.length+m<=90010->Gw true 4 47 (l.map aZ.v) sl G->z.length=4->
 bd ((ps L m).fC l k) (λl k=>aS L [41] k λk=>yes (.mk 5 0 [] l) k)=some o->Hp nx0 H0 (cD bp L k::(x1,[i64 5,i64 0,aE [],sl],47)::(x0,z,47)::(G++F)) H nx->
 aK P pl X0 (.jump (ph (ptr bp) (ptr x0) (ptr x1) H nx)) nx0 H0 (End nx0 H0 bp L F aZ.v o)
 | 0,_,l,k,sl,G,o,z,x0,x1,nx,H,hm,hG,hz,ho,h=>by cases ho
 | m+1,hp,l,k,sl,G,o,z,x0,x1,nx,H,hm,hG,hz,ho,h=>by
   have ho:bd (ly L (ps L m) l k) (λl k=>aS L [41] k λk=>yes (.mk 5 0 [] l) k)=some o:=ho
   unfold ly at ho
   refine Wq.jmp (Ju ..) (λ_=>rfl) ?_
   refine Sq.take hL h (λhi H1 aC h1=> ?_) (λhi H1 aC h1=> ?_)
   . rw[if_pos hi,hP]at ho
     simp only[af,av (off:=3) (u:=sl) (h1.at_ 1 rfl) gf rfl]
     refine Sq.call (hp m (Nat.lt_succ_self m)) rfl h1 ho λc k' H2 nx2 _ ho2 h2=> ?_
     simp only[af,av (off:=3) (u:=sl) (h2.at_ 1 rfl) gf rfl,bj]
     refine Hq.dW c.cs c.len h2 λx H3 nx3 h3=> ?_
     simp only[af,av (off:=3) (u:=sl) (h3.at_ 2 rfl) gf rfl,bj]
     refine Hq.tF [_,_] (x:=c) (by omega) hG h3 λsl' G' H4 nx4 hG' h4=> ?_
     refine Hq.put [_] h4 oe (by rcases hG'.2 with⟨_,rfl,_⟩ | ⟨b,c,rfl,_⟩<;>rfl) (ck hG') (by simp) rfl λH5 h5=> ?_
     exact MC hL m (λj hj=>hp j (by omega)) (l++[c]) k' sl' G' o z x0 x1 nx4 H5 (by rw[List.length_append];simp;omega) hG' hz ho2 h5
   . rw[if_neg (by rw[hi];simp),eG]at ho
     simp only[af]
     refine Sq.jQ hL h1 ho λH2 nx2 _ ho h2=> ?_
     have hv:fl 1 [i64 5,i64 0,aE [],sl] (.mk 5 0 [] l) G:=fl.gw hG
     simp only[af,hJ (h2.at_ 1 rfl) hv.len]
     have h4:Hp nx0 H0 (cD bp L (k+1)::(x0,z,47)::(G++F)) H2 nx2:=(Hp.mv [_] h2).sub (by simp)
     exact Hq.fin h4 bT cm dC hz hv.len hv.one hv.fz (by omega) λH5 nx5 h5=>End.ret ho rfl h5
theorem Sb (hL:L.length<=100000){n:Nat}(hn:n<=90000)(hpat:∀j,j<=n->bw 148 L aZ.v (ps L j).pat):bw 177 L aZ.v (ps L (n+1)).bl:=by
 intro nx0 nx H0 H bp F k o ho h
 have ho:jv L (ps L n) k=some o:=ho
 unfold jv at ho
 rw[T7]
 refine Hq.alloc cE h λx0 H1 aC h1=> ?_
 refine Sq.now h1 λH2 nx2 h2=> ?_
 refine Sq.CS h2 λH3 nx3 h3=> ?_
 simp only[af]
 refine Wq.ite (λhi=> ?_) (λhi=> ?_)
 . rw[if_pos hi]at ho
   simp only[af,pk h3,dq hL (fP (show(tk L k).k≠0 by omega))]
   refine dI h3 λH4 h4=> ?_
   simp only[af,pI]
   exact Hq.fin (G:=[]) h4 bT cm dC rfl rfl rfl fl.nil.fz (by omega) λH5 nx5 h5=>End.ret ho rfl h5
 rw[if_neg hi]at ho
 refine Wq.ite (λhi=> ?_) (λhi=> ?_)
 . rw[if_pos hi]at ho
   simp only[af,pk h3,dq hL (fP (show(tk L k).k≠0 by omega))]
   refine dI h3 λH4 h4=> ?_
   simp only[af,iu]
   exact Hq.fin (G:=[]) h4 bT cm dC rfl rfl rfl fl.nil.fz (by omega) λH5 nx5 h5=>End.ret ho rfl h5
 rw[if_neg hi]at ho
 refine Wq.ite (λhi=> ?_) (λhi=> ?_)
 . rw[if_pos hi]at ho
   simp only[af,pk h3,dq hL (fP (show(tk L k).k≠0 by omega))]
   refine dI h3 λH4 h4=> ?_
   simp only[af,iu]
   exact Hq.fin (G:=[]) h4 bT cm dC rfl rfl rfl fl.nil.fz (by omega) λH5 nx5 h5=>End.ret ho rfl h5
 rw[if_neg hi]at ho
 refine Wq.ite (λhi=> ?_) (λhi=> ?_)
 . rw[if_pos hi]at ho
   simp only[af,pk h3,dq hL (fP (show(tk L k).k≠0 by omega))]
   refine dI h3 λH4 h4=> ?_
   simp only[af,iu]
   exact Hq.fin (G:=[]) h4 bT cm dC rfl rfl rfl fl.nil.fz (by omega) λH5 nx5 h5=>End.ret ho rfl h5
 rw[if_neg hi]at ho
 refine Sq.take hL h3 (λhi H4 nx4 h4=> ?_) (λhi H4 nx4 h4=> ?_)
 . rw[if_pos hi]at ho
   simp only[af]
   exact Hq.fin (G:=[]) h4 bT cm dC rfl rfl rfl fl.nil.fz (by omega) λH5 nx5 h5=>End.ret ho rfl h5
 rw[if_neg (by rw[hi];simp)]at ho
 simp only[af]
 refine Sq.take hL h4 (λhi H5 nx5 h5=> ?_) (λhi H5 nx5 h5=> ?_)
 . rw[if_pos hi]at ho
   simp only[af]
   refine Sq.word (by decide) hL h5 ho λH6 nx6 _ ho h6=> ?_
   simp only[af,MB,pI]
   exact Hq.fin (G:=[]) h6 bT cm dC rfl rfl rfl fl.nil.fz (by omega) λH7 nx7 h7=>End.ret ho rfl h7
 rw[if_neg (by rw[hi];simp)]at ho
 simp only[af]
 refine Sq.jQ hL h5 ho λH6 nx6 _ ho h6=> ?_
 refine Sq.take hL h6 (λhi H7 nx7 h7=> ?_) (λhi H7 nx7 h7=> ?_)
 . rw[if_pos hi]at ho
   simp only[af]
   exact Hq.fin (G:=[]) h7 bT cm dC rfl rfl rfl fl.nil.fz (by omega) λH8 nx8 h8=>End.ret ho rfl h8
 rw[if_neg (by rw[hi];simp)]at ho
 simp only[af]
 refine Sq.call (hpat n (Nat.le_refl n)) rfl h7 ho λa k' H8 nx8 _ ho h8=> ?_
 refine Hq.alloc cE h8 λx1 H9 nx9 h9=> ?_
 refine Hq.set [_] h9 bT rfl a.len (fl.of a).one λH10 h10=> ?_
 refine Sq.is h10 λH11 nx11 h11=> ?_
 cases hc:dD L k' [44]with
 | true=>
   rw[hc,if_pos rfl]at ho
   simp only[af,hJ (h11.at_ 1 rfl) a.len]
   refine Hq.dW a.cs a.len h11 λx H12 nx12 h12=> ?_
   simp only[af,k0]
   refine Hq.set [_,_] h12 bT a.len rfl rfl λH13 h13=> ?_
   exact MC hL (n+1) (λj hj=>hpat j (by omega)) [a] k' (gq x 1 1) [(x,a.cs,47)] o _ x0 x1 nx12 H13 (show 1+(n+1)<=90010 by omega) (Gw.jA a.fD) rfl ho (Hp.mZ h13)
 | false=>
   rw[hc,if_neg (by simp)]at ho
   simp only[af]
   refine Wq.jmp (Jv ..) (λ_=>rfl) ?_
   refine Sq.jQ hL h11 ho λH12 nx12 _ ho h12=> ?_
   simp only[af,hJ (h12.at_ 1 rfl) a.len]
   have h4:Hp nx0 H0 (cD bp L (k'+1)::(x0,[i64 0,i64 0,aE [],az],47)::([]++F)) H12 nx12:=(Hp.mv [_] h12).sub (by simp)
   exact Hq.fin h4 bT cm dC rfl a.len (fl.of a).one a.fz (by omega) λH5 nx5 h5=>End.ret ho rfl h5
end
section
variable {nx0 nx nx' bp k:Nat}{H0 H H':T OB}{F A B G G':List Bx}{s:Bx}{R:Go.Ev.Out->T OB->Nat->Prop}{b:Nat}{l:List Value}{e t:TypeId}{L:List Tok}
structure dE (n:Nat)(cs:List Value)(a:aF)(G:List Bx):Prop where
 len:cs.length=6
 one:cs.all ax=true
 fz:gp n [(3,41),(4,42),(5,24)] (.agg ⟨cs⟩) a.v G
theorem dE.of (a:aF):dE 0 a.cs a []:=⟨a.len,(a.fD a.v (by simp)).2.1,a.fz⟩
theorem dE.fD {n:Nat}{cs:List Value}{a:aF}(h:dE n cs a G):ot true 6 [.agg ⟨cs⟩]:=λv hv=>by
 rw[List.mem_singleton]at hv
 subst hv
 exact⟨h.len,h.one,⟨_,rfl⟩⟩
theorem dE.row {k i:Int}{w:List UInt8}{sl sp sd:Value}{l:List aF}{p:List aZ}{d:List aT}{n:Nat}{G1 G2 G3:List Bx}(h1:cP n 41 sl (fX l) G1)(h2:cP n 42 sp (cj p) G2)(h3:cP n 24 sd (bP d) G3)(o1:ax sl=true)(o2:ax sp=true)(o3:ax sd=true):
 dE n [i64 k,i64 i,aE w,sl,sp,sd] (.mk k i w l p d) (G1++(G2++G3)):=⟨rfl,by simp[o1,o2,o3],by
 rw[aF.bk]
 exact gp.of (eL.cons (p:=(3,41)) (cs:=[i64 k,i64 i,aE w,sl,sp,sd]) rfl h1 (eL.cons (p:=(4,42)) rfl h2 (eL.one (p:=(5,24)) rfl h3)))⟩
theorem iU {n:Nat}:cP n 42 az (cj []) []:=(cP.nil ed bT).mono (Nat.zero_le n)
theorem m4 {n:Nat}:cP n 24 az (bP []) []:=(cP.nil gd di).mono (Nat.zero_le n)
theorem tG {n:Nat}:cP n 41 az (fX []) []:=(cP.nil fc bu).mono (Nat.zero_le n)
theorem dE.ll {k i:Int}{w:List UInt8}{sl:Value}{l:List aF}{n:Nat}(h:cP n 41 sl (fX l) G)(ho:ax sl=true):dE n [i64 k,i64 i,aE w,sl,az,az] (.mk k i w l [] []) G:=by
 have:=dE.row (k:=k) (i:=i) (w:=w) h (iU (n:=n)) (m4 (n:=n)) ho rfl rfl
 rwa[List.append_nil,List.append_nil]at this
theorem dE.nil {k i:Int}{w:List UInt8}:dE 0 [i64 k,i64 i,aE w,az,az,az] (.mk k i w [] [] []) []:=dE.ll tG rfl
theorem dE.gw {k i:Int}{w:List UInt8}{sl:Value}{l:List aF}(h:Gw true 6 44 (l.map aF.v) sl G):dE 1 [i64 k,i64 i,aE w,sl,az,az] (.mk k i w l [] []) G:=dE.ll h.Kq (ck h)
theorem dE.b1 {k i:Int}{w:List UInt8}{n:Nat}{cs:List Value}{a:aF}(h:dE n cs a G):dE (n+1) [i64 k,i64 i,aE w,gq b 1 1,az,az] (.mk k i w [a] [] []) ((b,cs,44)::G):=by
 have:=cP.Mp (t:=41) (b:=b) fc bu bN rfl cQ h.fD (.inr rfl) (by simp) (iB.one h.fz) (λu hu=>by rw[List.mem_singleton]at hu;subst hu;exact a.len)
 rw[hN cs]at this
 exact dE.ll this rfl
theorem dE.b2 {k i:Int}{w:List UInt8}{n:Nat}{cs:List Value}{a c:aF}(h:dE n cs a G):dE (n+1) [i64 k,i64 i,aE w,gq b 2 2,az,az] (.mk k i w [a,c] [] []) ((b,cs++c.cs,44)::G):=by
 have:=cP.Mp (t:=41) (b:=b) (vs:=[.agg ⟨cs⟩,c.v]) fc bu bN rfl cQ (λv hv=>by
  rcases List.mem_cons.1 hv with rfl | hv
  . exact h.fD _ (by simp)
  . exact c.fD v hv) (.inr rfl) (by simp) (iB.two h.fz c.fz) (λu hu=>by
  rcases List.mem_cons.1 hu with rfl | hu
  . exact a.len
  . rw[List.mem_singleton]at hu;subst hu;exact c.len)
 rw[show bR [Value.agg ⟨cs⟩,c.v]=cs++c.cs from lW cs c.cs]at this
 exact dE.ll this rfl
theorem dE.b3 {k i:Int}{w:List UInt8}{a c d:aF}:dE 1 [i64 k,i64 i,aE w,gq b 3 3,az,az] (.mk k i w [a,c,d] [] []) [(b,a.cs++c.cs++d.cs,44)]:=by
 have hG:Gw true 6 44 ([a,c,d].map aF.v) (gq b 3 3) [(b,bR ([a,c,d].map aF.v),44)]:=Gw.one (aF.UK _) rfl (by decide)
 have e:bR ([a,c,d].map aF.v)=a.cs++c.cs++d.cs:=by
  show a.cs++(c.cs++(d.cs++[]))=_
  rw[List.append_nil,List.append_assoc]
 rw[e]at hG
 exact dE.gw hG
theorem MD (hL:L.length<=100000):∀(m:Nat),(∀j,j<m->bw 148 L aZ.v (ps L j).pat)->(∀j,j<m->bw 61 L aF.v (ps L j).exp)->∀(kk:Int) (l:List aF) (q:List aZ) (k:Nat) (sl sp:Value) (G G':List Bx) (o:iY aF) (z:List Value) (x0 x1 nx:Nat) (H:Go.Ev.T OB),l.length+m<=90010->q.length+m<=90010->
 Gw true 6 44 (l.map aF.v) sl G->Gw true 4 47 (q.map aZ.v) sp G'->z.length=6->(ps L m).fA (.mk kk 0 [] l q []) k=some o->Hp nx0 H0 (cD bp L k::(x1,[i64 kk,i64 0,aE [],sl,sp,az],44)::(x0,z,44)::(G++(G'++F))) H nx->
 aK P pl X0 (.jump (vc (ptr bp) (ptr x1) (ptr x0) H nx)) nx0 H0 (End nx0 H0 bp L F aF.v o)
 | 0,_,_,kk,l,q,k,sl,sp,G,G',o,z,x0,x1,nx,H,hm,hm',hG,hG',hz,ho,h=>by cases ho
 | m+1,hp,he,kk,l,q,k,sl,sp,G,G',o,z,x0,x1,nx,H,hm,hm',hG,hG',hz,ho,h=>by
   have ho:vW L (ps L m) (.mk kk 0 [] l q []) k=some o:=ho
   unfold vW at ho
   refine Wq.jmp (NP ..) (λ_=>rfl) ?_
   simp only[af,av (off:=4) (u:=sp) (h.at_ 1 rfl) gf rfl]
   refine Sq.call (hp m (Nat.lt_succ_self m)) rfl h ho λa k' H2 nx2 _ ho h2=> ?_
   simp only[af,av (off:=4) (u:=sp) (h2.at_ 1 rfl) gf rfl,bj]
   refine Hq.dW a.cs a.len h2 λx H3 nx3 h3=> ?_
   simp only[af,av (off:=4) (u:=sp) (h3.at_ 2 rfl) gf rfl,bj]
   refine Hq.tF (_::_::G) (x:=a) (by omega) hG' h3 λsp' G2 H4 nx4 hG2 h4=> ?_
   refine Hq.put [_] h4 oe (by rcases hG2.2 with⟨_,rfl,_⟩ | ⟨b,c,rfl,_⟩<;>rfl) (ck hG2) (by simp) rfl λH5 h5=> ?_
   refine Sq.jQ hL h5 ho λH6 nx6 _ ho h6=> ?_
   simp only[af,av (off:=3) (u:=sl) (h6.at_ 1 rfl) gX rfl]
   refine Sq.call (he m (Nat.lt_succ_self m)) rfl h6 ho λc k2 H7 nx7 _ ho h7=> ?_
   simp only[af,av (off:=3) (u:=sl) (h7.at_ 1 rfl) gX rfl,bj]
   refine Hq.cZ c.cs c.len h7 λy H8 nx8 h8=> ?_
   simp only[af,av (off:=3) (u:=sl) (h8.at_ 2 rfl) gX rfl,bj]
   refine Hq.yy [_,_] (x:=c) (by omega) hG h8 λsl' G1 H9 nx9 hG1 h9=> ?_
   refine Hq.put [_] h9 re (by rcases hG1.2 with⟨_,rfl,_⟩ | ⟨b,c,rfl,_⟩<;>rfl) (ck hG1) (by simp) rfl λH10 h10=> ?_
   refine Sq.take hL h10 (λhi H11 nx11 h11=> ?_) (λhi H11 nx11 h11=> ?_)
   . rw[if_pos hi]at ho
     simp only[af]
     exact MD hL m (λj hj=>hp j (by omega)) (λj hj=>he j (by omega)) kk (l++[c]) (q++[a]) (k2+1) sl' sp' G1 G2 o z x0 x1 nx11 H11 (by rw[List.length_append];simp;omega) (by rw[List.length_append];simp;omega) hG1 hG2 hz ho h11
   . rw[if_neg (by rw[hi];simp)]at ho
     have hv:dE 1 [i64 kk,i64 0,aE [],sl',sp',az] (.mk kk 0 [] (l++[c]) (q++[a]) []) (G1++(G2++[])):=dE.row hG1.Kq hG2.HE m4 (ck hG1) (ck hG2) rfl
     simp only[af,dU (h11.at_ 1 rfl) hv.len]
     have h12:Hp nx0 H0 (cD bp L k2::(x0,z,44)::((G1++(G2++[]))++F)) H11 nx11:=by
      rw[List.append_nil,List.append_assoc]
      exact(Hp.mv [_] h11).sub (by simp)
     exact Hq.fin h12 bu bN cQ hz hv.len hv.one hv.fz (by omega) λH5 nx5 h5=>End.ret ho rfl h5
def Ky (L:List Tok)(r:aF->Nat->PR aF):Prop:=∀(nx0 nx:Nat) (H0 H:Go.Ev.T OB) (bp:Nat) (F G:List Bx) (k:Nat) (o:iY aF) (kk:Int) (l:List aF) (sl:Value),l.length<=3->Gw true 6 44 (l.map aF.v) sl G->r (.mk kk 0 [] l [] []) k=some o->Hp nx0 H0 (cD bp L k::(G++F)) H nx->
 aK P pl X0 (aN P pl (.call 107 [ptr bp,.agg ⟨[i64 kk,i64 0,aE [],sl,az,az]⟩] false none H nx)) nx0 H0 (End nx0 H0 bp L F aF.v o)
theorem Sc (hL:L.length<=100000){n:Nat}(hn:n<=90000)(hp:∀j,j<=n->bw 148 L aZ.v (ps L j).pat)(he:∀j,j<=n->bw 61 L aF.v (ps L j).exp):Ky L (ps L (n+1)).fA:=by
 intro nx0 nx H0 H bp F G k o kk l sl hl hG ho h
 rw[Ts]
 refine Hq.box h λx1 H1 aC h1=> ?_
 refine Hq.alloc aV h1 λx0 H2 nx2 h2=> ?_
 exact MD hL (n+1) (λj hj=>hp j (by omega)) (λj hj=>he j (by omega)) kk l [] k sl az G [] o _ x0 x1 nx2 H2 (by omega) (by simp;omega) hG (Gw.nil _ _ _) rfl ho (Hp.swap' h2)
theorem nH {α:Type}(x:PR α):bd x yes=x:=by
 cases x with
 | none=>rfl
 | some r=>cases r<;>rfl
theorem Sq.rV {β:Type}{F1:List Bx}{vg:β->Value}{r:aF->Nat->PR aF}{g:aF->Nat->PR β}{o:iY β}{kk:Int}{l:List aF}{sl:Value}{kt:Value->Go.Ev.T OB->Nat->Q}(hs:Ky L r)(hl:l.length<=3)(hG:Gw true 6 44 (l.map aF.v) sl G)(h:Hp nx0 H0 (cD bp L k::(G++F1)) H nx)
 (ho:bd (r (.mk kk 0 [] l [] []) k) g=some o) (hk:∀a k' H' nx',g a k'=some o->Hp nx0 H0 (cD bp L k'::F1) H' nx'->aK P pl X0 (kt a.v H' nx') nx0 H0 (End nx0 H0 bp L F vg o)):
 aK P pl X0 (ah (.call 107 [ptr bp,.agg ⟨[i64 kk,i64 0,aE [],sl,az,az]⟩] false none H nx) kt Ev.ar) nx0 H0 (End nx0 H0 bp L F vg o):=by
 cases hr:r (.mk kk 0 [] l [] []) k with
 | none=>rw[hr]at ho;cases ho
 | some q=>
   refine Wq.gB rfl (hs nx0 nx H0 H bp F1 G k q kk l sl hl hG hr h) (λu H' nx' _ he=> ?_) (λu H' nx' hA he=> ?_)
   . cases q with
     | bad a=>cases he
     | ok a k'=>
       rw[hr,CR]at ho
       cases he.1
       exact hk a k' H' nx' ho he.2
   . cases q with
     | ok a k'=>cases he.1
     | bad a=>
       rw[hr,vV]at ho
       cases ho
       cases he
       exact Sq.ar hA
theorem Hq.gH {a:aF}{kt:Go.Ev.T OB->Nat->Q}(h:Hp nx0 H0 F H nx)(hk:∀H' nx',Hp nx0 H0 F H' nx'->aK P pl X0 (kt H' nx') nx0 H0 R):aK P pl X0 (ak (aq P H nx 44) λp H nx=>bC P H nx 44 (some p) a.v kt) nx0 H0 R:=Hq.var aV bu rfl a.len (dE.of a).one h hk
theorem oA (a:aF):ae P H 44 (some (aj a.v))=some a.v:=by
 rw[aF.bk]
 exact Fp ..
theorem Hq.kB {z:List Value}{a:aF}{x0:Nat}{kt:Value->Go.Ev.T OB->Nat->Q}(h:Hp nx0 H0 (s::(x0,z,44)::F) H nx)(hz:z.length=6)(hk:∀H' nx',Hp nx0 H0 (s::F) H' nx'->aK P pl X0 (kt a.v H' nx') nx0 H0 R):
 aK P pl X0 (ak (ai P H nx 44 (some (ptr x0)) (some a.v)) λ_ H nx=>aa (ae P H 44 (some (ptr x0))) (λx=>aW P 44 x H nx kt) .bad) nx0 H0 R:=
 Hq.fin (G:=[]) h bu bN cQ hz a.len (dE.of a).one a.fz (by omega) hk
theorem UN (hL:L.length<=100000){p:PS}(hexp:bw 61 L aF.v p.exp)(hmat:Ky L p.fA)(hbin:∀nx0 nx H0 H bp F k o,p.bin 0 k=some o->Hp nx0 H0 (cD bp L k::F) H nx->aK P pl X0 (aN P pl (.call 108 [ptr bp,i64 0] false none H nx)) nx0 H0 (End nx0 H0 bp L F aF.v o)):bw 61 L aF.v (vX L p):=by
 intro nx0 nx H0 H bp F k o ho h
 unfold vX at ho
 rw[VU]
 refine Hq.alloc aV h λx0 H1 aC h1=> ?_
 refine Sq.take hL h1 (λhi H2 nx2 h2=> ?_) (λhi H2 nx2 h2=> ?_)
 . rw[if_pos hi]at ho
   simp only[af]
   refine Sq.call hexp rfl h2 ho λa k2 H3 nx3 _ ho h3=> ?_
   refine Hq.gH h3 λH4 nx4 h4=> ?_
   refine Sq.jQ hL h4 ho λH5 nx5 _ ho h5=> ?_
   refine Sq.call hexp rfl h5 ho λb k3 H6 nx6 _ ho h6=> ?_
   refine Hq.gH h6 λH7 nx7 h7=> ?_
   refine Sq.jQ hL h7 ho λH8 nx8 _ ho h8=> ?_
   simp only[af,oA]
   refine Sq.call hexp rfl h8 ho λc k4 H9 nx9 _ ho h9=> ?_
   refine Hq.C2 a.cs b.cs c.cs a.len b.len c.len h9 λx H10 nx10 h10=> ?_
   simp only[af,er]
   have h11:Hp nx0 H0 (cD bp L k4::(x0,_,44)::([(x,a.cs++b.cs++c.cs,44)]++F)) H10 nx10:=Hp.swap' h10
   exact Hq.fin h11 bu bN cQ rfl rfl rfl dE.b3.fz (by omega) λH5 nx5 h5=>End.ret ho rfl h5
 rw[if_neg (by rw[hi];simp)]at ho
 simp only[af]
 refine Sq.take hL h2 (λhi H3 nx3 h3=> ?_) (λhi H3 nx3 h3=> ?_)
 . rw[if_pos hi]at ho
   simp only[af]
   refine Sq.call hexp rfl h3 ho λa k2 H4 nx4 _ ho h4=> ?_
   refine Hq.gH h4 λH5 nx5 h5=> ?_
   refine Sq.jQ hL h5 ho λH6 nx6 _ ho h6=> ?_
   simp only[af,oA]
   refine Hq.cZ a.cs a.len h6 λx H7 nx7 h7=> ?_
   simp only[af,er]
   rw[<- nH (p.fA _ _)]at ho
   refine Sq.rV hmat (l:=[a]) (by simp) (Gw.jA a.fD) h7 ho λc k3 H8 nx8 ho h8=> ?_
   exact Hq.kB h8 rfl λH9 nx9 h9=>End.ret ho rfl h9
 rw[if_neg (by rw[hi];simp)]at ho
 simp only[af]
 refine Sq.take hL h3 (λhi H4 nx4 h4=> ?_) (λhi H4 nx4 h4=> ?_)
 . rw[if_pos hi]at ho
   simp only[af]
   rw[<- nH (p.fA _ _)]at ho
   refine Sq.rV hmat (l:=[]) (G:=[]) (by simp) (Gw.nil _ _ _) h4 ho λc k3 H8 nx8 ho h8=> ?_
   exact Hq.kB h8 rfl λH9 nx9 h9=>End.ret ho rfl h9
 rw[if_neg (by rw[hi];simp)]at ho
 simp only[af]
 refine Sq.take hL h4 (λhi H5 nx5 h5=> ?_) (λhi H5 nx5 h5=> ?_)
 . rw[if_pos hi]at ho
   simp only[af]
   refine Sq.call hexp rfl h5 ho λa k2 H6 nx6 _ ho h6=> ?_
   refine Hq.cZ a.cs a.len h6 λx H7 nx7 h7=> ?_
   simp only[af,er]
   have h11:Hp nx0 H0 (cD bp L k2::(x0,_,44)::([(x,a.cs,44)]++F)) H7 nx7:=Hp.swap' h7
   exact Hq.fin h11 bu bN cQ rfl rfl rfl (dE.b1 (dE.of a)).fz (by omega) λH5 nx5 h5=>End.ret ho rfl h5
 rw[if_neg (by rw[hi];simp)]at ho
 simp only[af]
 cases hr:p.bin 0 k with
 | none=>rw[hr]at ho;cases ho
 | some q=>
   refine Wq.gB rfl (hbin nx0 nx5 H0 H5 bp _ k q hr h5) (λu H6 nx6 _ he=> ?_) (λu H6 nx6 hA he=> ?_)
   . cases q with
     | bad a=>cases he
     | ok a k2=>
       rw[hr,CR]at ho
       obtain⟨he1,h6⟩:=he
       cases he1
       refine Hq.gH h6 λH7 nx7 h7=> ?_
       refine Sq.take hL h7 (λhi H8 nx8 h8=> ?_) (λhi H8 nx8 h8=> ?_)
       . rw[if_pos hi]at ho
         simp only[af,oA]
         refine Hq.cZ a.cs a.len h8 λx H9 nx9 h9=> ?_
         simp only[af,er]
         rw[<- nH (p.fA _ _)]at ho
         refine Sq.rV hmat (l:=[a]) (by simp) (Gw.jA a.fD) h9 ho λc k3 H10 nx10 ho h10=> ?_
         exact Hq.kB h10 rfl λH9 nx9 h9=>End.ret ho rfl h9
       . rw[if_neg (by rw[hi];simp)]at ho
         simp only[af,oA]
         exact Hq.kB h8 rfl λH9 nx9 h9=>End.ret ho rfl h9
   . cases q with
     | ok a k'=>cases he.1
     | bad a=>
       rw[hr,vV]at ho
       cases ho
       cases he
       exact Sq.ar hA
end
section
variable {nx0 nx nx' bp k:Nat}{H0 H H':T OB}{F A B G G':List Bx}{s:Bx}{R:Go.Ev.Out->T OB->Nat->Prop}{b:Nat}{l:List Value}{e t:TypeId}{L:List Tok}
theorem Kz:∀(i:Nat),i<7->au P 182 (some (.pointer (some ⟨2,0,none⟩))) (some (i64 (i:Int)))=some (.pointer (some ⟨2,i,none⟩))
 | 0,_=>by kernel_rfl
 | 1,_=>by kernel_rfl
 | 2,_=>by kernel_rfl
 | 3,_=>by kernel_rfl
 | 4,_=>by kernel_rfl
 | 5,_=>by kernel_rfl
 | 6,_=>by kernel_rfl
 | i+7,h=>by omega
theorem C9 {i:Nat}(h:i<7):br[i]? = some ((br[i]?).getD [])/\((br[i]?).getD []).length<dO/\((br[i]?).getD []).contains []=false/\∀w,((br[i]?).getD []).contains w=true->(decide (w=[58,61])||decide (w=[58,58]))=decide (i=2\/i=4):=by
 have:∀i,i<7->br[i]? = some ((br[i]?).getD [])/\((br[i]?).getD []).length<100/\((br[i]?).getD []).contains []=false/\(((br[i]?).getD []).all λw=>(decide (w=[58,61])||decide (w=[58,58])) == decide (i=2\/i=4))=true:=by decide +kernel
 obtain⟨h1,h2,h3,h4⟩:=this i h
 refine⟨h1,Nat.lt_trans h2 (by decide),h3,λw hw=> ?_⟩
 have hm:w∈(br[i]?).getD []:=by simpa using hw
 have:=List.all_eq_true.1 h4 w hm
 simpa using this
def HI (L:List Tok)(r:Nat->Nat->PR aF):Prop:=∀(lv nx0 nx:Nat) (H0 H:Go.Ev.T OB) (bp:Nat) (F:List Bx) (k:Nat) (o:iY aF),lv<=7->r lv k=some o->Hp nx0 H0 (cD bp L k::F) H nx->aK P pl X0 (aN P pl (.call 108 [ptr bp,i64 (lv:Int)] false none H nx)) nx0 H0 (End nx0 H0 bp L F aF.v o)
theorem Sq.fM {β:Type}{F1:List Bx}{vg:β->Value}{lv:Nat}{r:Nat->Nat->PR aF}{g:aF->Nat->PR β}{o:iY β}{kt:Value->Go.Ev.T OB->Nat->Q}(hs:HI L r)(hl:lv<=7)(h:Hp nx0 H0 (cD bp L k::F1) H nx)
 (ho:bd (r lv k) g=some o) (hk:∀a k' H' nx',g a k'=some o->Hp nx0 H0 (cD bp L k'::F1) H' nx'->aK P pl X0 (kt a.v H' nx') nx0 H0 (End nx0 H0 bp L F vg o)):
 aK P pl X0 (ah (.call 108 [ptr bp,i64 (lv:Int)] false none H nx) kt Ev.ar) nx0 H0 (End nx0 H0 bp L F vg o):=by
 cases hr:r lv k with
 | none=>rw[hr]at ho;cases ho
 | some q=>
   refine Wq.gB rfl (hs lv nx0 nx H0 H bp F1 k q hl hr h) (λu H' nx' _ he=> ?_) (λu H' nx' hA he=> ?_)
   . cases q with
     | bad a=>cases he
     | ok a k'=>
       rw[hr,CR]at ho
       cases he.1
       exact hk a k' H' nx' ho he.2
   . cases q with
     | ok a k'=>cases he.1
     | bad a=>
       rw[hr,vV]at ho
       cases ho
       cases he
       exact Sq.ar hA
theorem KA {lv k:Nat}(h:lv<7):oK L lv k=(!decide ((if jr L k=true then(tk L k).s else[])=[])&&((br[lv]?).getD []).contains (if jr L k=true then(tk L k).s else[])):=by
 obtain⟨_,_,h3,_⟩:=C9 h
 unfold oK
 cases jr L k with
 | false=>simp
 | true=>
   rw[Bool.true_and,if_pos rfl]
   by_cases hs:(tk L k).s=[]
   . rw[hs,h3];simp
   . simp[hs]
theorem HJ {L:List Tok}{k:Nat}(h:jr L k=true):k<L.length:=fP λq=>by unfold jr at h;rw[q]at h;simp at h
theorem ME (hL:L.length<=100000){lv:Nat}(hlv:lv<7):∀(m:Nat),(∀j,j<m->HI L (ps L j).bin)->∀(a:aF) (k n:Nat) (cs z:List Value) (G:List Bx) (o:iY aF) (x0 x1 nx:Nat) (H:Go.Ev.T OB),n+m<=90010->dE n cs a G->z.length=6->(ps L m).fh lv a k=some o->
 Hp nx0 H0 (cD bp L k::(x1,cs,44)::(x0,z,44)::(G++F)) H nx->aK P pl X0 (.jump (oX (ptr bp) (i64 (lv:Int)) (ptr x0) (ptr x1) H nx)) nx0 H0 (End nx0 H0 bp L F aF.v o)
 | 0,_,a,k,n,cs,z,G,o,x0,x1,nx,H,hm,hv,hz,ho,h=>by cases ho
 | m+1,hb,a,k,n,cs,z,G,o,x0,x1,nx,H,hm,hv,hz,ho,h=>by
   have ho:sA L (ps L m) lv a k=some o:=ho
   unfold sA at ho
   obtain⟨hg1,hg2,hg3,hg4⟩:=C9 hlv
   refine Wq.jmp (Jb ..) (λ_=>rfl) ?_
   refine Sq.op h λH1 aC h1=> ?_
   have fin:∀(w:Value) H2 nx2,oK L lv k=false->Hp nx0 H0 (cD bp L k::(x1,cs,44)::(x0,z,44)::(G++F)) H2 nx2->aK P pl X0 (.jump (oY (ptr bp) (i64 (lv:Int)) (ptr x0) (ptr x1) w true H2 nx2)) nx0 H0 (End nx0 H0 bp L F aF.v o):=by
    intro w H2 nx2 hf h2
    rw[if_neg (by rw[hf];simp)]at ho
    refine Wq.jmp (Cn ..) (λ_=>rfl) ?_
    simp only[af,dU (h2.at_ 1 rfl) hv.len]
    have h3:Hp nx0 H0 (cD bp L k::(x0,z,44)::(G++F)) H2 nx2:=(Hp.mv [_] h2).sub (by simp)
    exact Hq.fin h3 bu bN cQ hz hv.len hv.one hv.fz (by omega) λH5 nx5 h5=>End.ret ho rfl h5
   have hop:=KA (L:=L) (k:=k) hlv
   simp only[af,CT]
   refine Wq.ite (λhw=> ?_) (λhw=> ?_)
   . exact fin _ H1 aC (by rw[hop,hw];simp) h1
   . simp only[af,Kz lv hlv,nE (h1.vT.ag h1.ag).levels gg (show(br.map lvl)[lv]? = some (lvl ((br[lv]?).getD []))by rw[List.getElem?_map,hg1];rfl)]
     refine Hq.call (OL _ hg2 _) h1 λH2 nx2 h2=> ?_
     simp only[af]
     cases hc:((br[lv]?).getD []).contains (if jr L k=true then(tk L k).s else[])with
     | false=>exact fin _ H2 nx2 (by rw[hop,hc,Bool.and_false]) h2
     | true=>
       have j5:oK L lv k=true:=by rw[hop,hc];simp[hw]
       have hW:jr L k=true:=by
        unfold oK at j5
        rw[Bool.and_eq_true]at j5
        exact j5.1
       rw[if_pos j5]at ho
       rw[if_pos hW]at hc ⊢
       refine Wq.jmp (Cn ..) (λ_=>rfl) ?_
       simp only[af,pk h2,dq hL (HJ hW)]
       refine dI h2 λH3 h3=> ?_
       refine Hq.call (OV _) h3 λH4 nx4 h4=> ?_
       rw[hg4 _ hc]
       refine Wq.ite (λhr=> ?_) (λhr=> ?_)
       . rw[if_pos hr]at ho
         simp only[af,dU (h4.at_ 1 rfl) hv.len]
         refine Sq.fM (hb m (Nat.lt_succ_self m)) (by omega) h4 ho λc k' H5 nx5 ho h5=> ?_
         simp only[af,dU (h5.at_ 1 rfl) hv.len,bj]
         refine Hq.mU cs c.cs hv.len c.len h5 λx H6 nx6 h6=> ?_
         simp only[af,mV]
         have h7:Hp nx0 H0 (cD bp L k'::(x0,z,44)::((x,cs++c.cs,44)::G++F)) H6 nx6:=(Hp.mv [_,_] h6).sub (by simp)
         exact Hq.fin h7 bu bN cQ hz rfl rfl (dE.b2 hv).fz (by omega) λH5 nx5 h5=>End.ret ho rfl h5
       . rw[if_neg hr]at ho
         simp only[af,dU (h4.at_ 1 rfl) hv.len,aI (show lv<9223372036854775807 by omega)]
         refine Sq.fM (lv:=lv+1) (hb m (Nat.lt_succ_self m)) (by omega) h4 ho λc k' H5 nx5 ho h5=> ?_
         simp only[af,dU (h5.at_ 1 rfl) hv.len,bj]
         refine Hq.mU cs c.cs hv.len c.len h5 λx H6 nx6 h6=> ?_
         simp only[af,mV]
         refine Hq.set [_,_] h6 bu hv.len rfl rfl λH7 h7=> ?_
         exact ME hL hlv m (λj hj=>hb j (by omega)) _ k' (n+1) _ z ((x,cs++c.cs,44)::G) o x0 x1 nx6 H7 (by omega) (dE.b2 hv) hz ho (Hp.mZ h7)
theorem Se (hL:L.length<=100000){n:Nat}(hn:n<=90000)(hb:∀j,j<=n->HI L (ps L j).bin)(hu:bw 151 L aF.v (ps L n).un):HI L (ps L (n+1)).bin:=by
 intro lv nx0 nx H0 H bp F k o hlv ho h
 have ho:vY L (ps L n) lv k=some o:=ho
 unfold vY at ho
 rw[Tt]
 refine Hq.alloc aV h λx0 H1 aC h1=> ?_
 simp only[af]
 refine Wq.ite (λhi=> ?_) (λhi=> ?_)
 . rw[if_pos (by omega),<- nH ((ps L n).un k)]at ho
   refine Sq.call hu rfl h1 ho λa k' H2 nx2 _ ho h2=> ?_
   exact Hq.kB h2 rfl λH9 nx9 h9=>End.ret ho rfl h9
 . rw[if_neg (by omega)]at ho
   simp only[af,aI (show lv<9223372036854775807 by omega)]
   refine Sq.fM (lv:=lv+1) (hb n (Nat.le_refl n)) (by omega) h1 ho λa k' H2 nx2 ho h2=> ?_
   refine Hq.alloc aV h2 λx1 H3 nx3 h3=> ?_
   refine Hq.set [_] h3 bu rfl a.len (dE.of a).one λH4 h4=> ?_
   exact ME hL (by omega) (n+1) (λj hj=>hb j (by omega)) a k' 0 _ _ [] o x0 x1 nx3 H4 (by omega) (dE.of a) rfl ho h4
theorem MF (hL:L.length<=100000):∀(m:Nat),(∀j,j<m->bw 178 L aF.v (ps L j).atom)->∀(a:aF) (k n:Nat) (cs z:List Value) (G:List Bx) (o:iY aF) (x0 x1 nx:Nat) (H:Go.Ev.T OB),n+m<=90010->dE n cs a G->z.length=6->(ps L m).fB a k=some o->
 Hp nx0 H0 (cD bp L k::(x1,cs,44)::(x0,z,44)::(G++F)) H nx->aK P pl X0 (.jump (pa (ptr bp) (ptr x0) (ptr x1) H nx)) nx0 H0 (End nx0 H0 bp L F aF.v o)
 | 0,_,a,k,n,cs,z,G,o,x0,x1,nx,H,hm,hv,hz,ho,h=>by cases ho
 | m+1,ha,a,k,n,cs,z,G,o,x0,x1,nx,H,hm,hv,hz,ho,h=>by
   have ho:sB L (ps L m) a k=some o:=ho
   unfold sB at ho
   refine Wq.jmp (Jn ..) (λ_=>rfl) ?_
   refine Sq.UH h λH1 aC h1=> ?_
   cases hb:lb L k with
   | true=>
     rw[if_pos hb]at ho
     simp only[af,dU (h1.at_ 1 rfl) hv.len]
     refine Sq.call (ha m (Nat.lt_succ_self m)) rfl h1 ho λc k' H5 nx5 _ ho h5=> ?_
     simp only[af,dU (h5.at_ 1 rfl) hv.len,bj]
     refine Hq.mU cs c.cs hv.len c.len h5 λx H6 nx6 h6=> ?_
     simp only[af,er]
     refine Hq.set [_,_] h6 bu hv.len rfl rfl λH7 h7=> ?_
     exact MF hL m (λj hj=>ha j (by omega)) _ k' (n+1) _ z ((x,cs++c.cs,44)::G) o x0 x1 nx6 H7 (by omega) (dE.b2 hv) hz ho (Hp.mZ h7)
   | false=>
     rw[if_neg (by rw[hb];simp)]at ho
     simp only[af,dU (h1.at_ 1 rfl) hv.len]
     have h3:Hp nx0 H0 (cD bp L k::(x0,z,44)::(G++F)) H1 aC:=(Hp.mv [_] h1).sub (by simp)
     exact Hq.fin h3 bu bN cQ hz hv.len hv.one hv.fz (by omega) λH5 nx5 h5=>End.ret ho rfl h5
theorem Sf (hL:L.length<=100000){n:Nat}(hn:n<=90000)(ha:∀j,j<=n->bw 178 L aF.v (ps L j).atom)(hu:bw 151 L aF.v (ps L n).un):bw 151 L aF.v (ps L (n+1)).un:=by
 intro nx0 nx H0 H bp F k o ho h
 have ho:JV L (ps L n) k=some o:=ho
 unfold JV at ho
 rw[TV]
 refine Hq.alloc aV h λx0 H1 aC h1=> ?_
 refine Sq.op h1 λH2 nx2 h2=> ?_
 have J:∀(bb:Bool) H3 nx3,unOp L k=bb->Hp nx0 H0 (cD bp L k::(x0,[i64 0,i64 0,aE [],az,az,az],44)::F) H3 nx3->aK P pl X0 (.jump (vp (ptr bp) (ptr x0) (aE (if jr L k=true then(tk L k).s else[])) bb H3 nx3)) nx0 H0 (End nx0 H0 bp L F aF.v o):=by
  intro bb H3 nx3 hbb h3
  refine Wq.jmp (NU ..) (λ_=>rfl) ?_
  cases bb with
  | true=>
    rw[if_pos hbb]at ho
    have hW:jr L k=true:=by
     unfold unOp at hbb
     rw[Bool.and_eq_true]at hbb
     exact hbb.1
    rw[if_pos hW]
    simp only[af,pk h3,dq hL (HJ hW)]
    refine dI h3 λH4 h4=> ?_
    refine Sq.call hu rfl h4 ho λa k' H5 nx5 _ ho h5=> ?_
    refine Hq.cZ a.cs a.len h5 λx H6 nx6 h6=> ?_
    simp only[af,mV]
    have h7:Hp nx0 H0 (cD bp L k'::(x0,_,44)::([(x,a.cs,44)]++F)) H6 nx6:=Hp.swap' h6
    exact Hq.fin h7 bu bN cQ rfl rfl rfl (dE.b1 (dE.of a)).fz (by omega) λH5 nx5 h5=>End.ret ho rfl h5
  | false=>
    rw[if_neg (by rw[hbb];simp)]at ho
    simp only[af]
    refine Sq.call (ha n (Nat.le_refl n)) rfl h3 ho λa k' H5 nx5 _ ho h5=> ?_
    refine Hq.alloc aV h5 λx1 H6 nx6 h6=> ?_
    refine Hq.set [_] h6 bu rfl a.len (dE.of a).one λH7 h7=> ?_
    exact MF hL (n+1) (λj hj=>ha j (by omega)) a k' 0 _ _ [] o x0 x1 nx6 H7 (by omega) (dE.of a) rfl ho h7
 have hop:unOp L k=(!decide ((if jr L k=true then(tk L k).s else[])=[])&&eg.contains (if jr L k=true then(tk L k).s else[])):=by
  unfold unOp
  cases jr L k with
  | false=>simp
  | true=>
    rw[Bool.true_and,if_pos rfl]
    by_cases hs:(tk L k).s=[]
    . rw[hs];decide +kernel
    . simp[hs]
 simp only[af,CT]
 refine Wq.bK (λhw=> ?_) (λhw=> ?_)
 . simp only[af,OM]
   refine Hq.CF (JS _) h2 λH3 nx3 h3=> ?_
   simp only[af]
   exact J _ H3 nx3 (by rw[hop,hw,Bool.true_and]) h3
 . exact J false H2 nx2 (by rw[hop,hw,Bool.false_and]) h2
end
section
variable {nx0 nx nx' bp k:Nat}{H0 H H':T OB}{F A B G G':List Bx}{s:Bx}{R:Go.Ev.Out->T OB->Nat->Prop}{b:Nat}{l:List Value}{e t:TypeId}{L:List Tok}
theorem HK (hL:L.length<=100000){sep:List UInt8}{kd:Int}:∀(m:Nat),(∀j,j<m->bw 61 L aF.v (ps L j).exp)->∀(l:List aF) (k:Nat) (sl:Value) (G:List Bx) (o:iY aF) (y z:List Value) (x0 x1 x2 nx:Nat) (H:Go.Ev.T OB),l.length+m<=90010->Gw true 6 44 (l.map aF.v) sl G->y.length=6->z.length=6->
 bd ((ps L m).dF sep (.mk kd 0 [] l [] []) k) (λe k=>aS L [41] k λk=>yes e k)=some o->Hp nx0 H0 (cD bp L k::(x2,[i64 kd,i64 0,aE [],sl,az,az],44)::(x1,y,44)::(x0,z,44)::(G++F)) H nx->
 aK P pl X0 (.jump (pn (ptr bp) (ptr x0) (ptr x1) (aj (.agg ⟨[aE sep,i64 kd]⟩)) (ptr x2) H nx)) nx0 H0 (End nx0 H0 bp L F aF.v o)
 | 0,_,l,k,sl,G,o,y,z,x0,x1,x2,nx,H,hm,hG,hy,hz,ho,h=>by cases ho
 | m+1,he,l,k,sl,G,o,y,z,x0,x1,x2,nx,H,hm,hG,hy,hz,ho,h=>by
   have ho:bd (jP L (ps L m) sep (.mk kd 0 [] l [] []) k) (λe k=>aS L [41] k λk=>yes e k)=some o:=ho
   unfold jP at ho
   refine Wq.jmp (Jw ..) (λ_=>rfl) ?_
   simp only[af]
   refine Sq.take hL h (λhi H1 aC h1=> ?_) (λhi H1 aC h1=> ?_)
   . rw[if_pos hi,hP]at ho
     simp only[af,av (off:=3) (u:=sl) (h1.at_ 1 rfl) gX rfl]
     refine Sq.call (he m (Nat.lt_succ_self m)) rfl h1 ho λc k' H2 nx2 _ ho2 h2=> ?_
     simp only[af,av (off:=3) (u:=sl) (h2.at_ 1 rfl) gX rfl,bj]
     refine Hq.cZ c.cs c.len h2 λx H3 nx3 h3=> ?_
     simp only[af,av (off:=3) (u:=sl) (h3.at_ 2 rfl) gX rfl,bj]
     refine Hq.yy [_,_,_] (x:=c) (by omega) hG h3 λsl' G' H4 nx4 hG' h4=> ?_
     refine Hq.put [_] h4 re (by rcases hG'.2 with⟨_,rfl,_⟩ | ⟨b,c,rfl,_⟩<;>rfl) (ck hG') (by simp) rfl λH5 h5=> ?_
     exact HK hL m (λj hj=>he j (by omega)) (l++[c]) k' sl' G' o y z x0 x1 x2 nx4 H5 (by rw[List.length_append];simp;omega) hG' hy hz ho2 h5
   . rw[if_neg (by rw[hi];simp),eG]at ho
     have hv:dE 1 [i64 kd,i64 0,aE [],sl,az,az] (.mk kd 0 [] l [] []) G:=dE.gw hG
     simp only[af,dU (h1.at_ 1 rfl) hv.len]
     refine Hq.set [_,_] h1 bu hy hv.len hv.one λH2 h2=> ?_
     refine Sq.jQ hL h2 ho λH3 nx3 _ ho h3=> ?_
     simp only[af,dU (h3.at_ 2 rfl) hv.len]
     have h4:Hp nx0 H0 (cD bp L (k+1)::(x0,z,44)::(G++F)) H3 nx3:=(Hp.mv [_,_] h3).sub (by simp)
     exact Hq.fin h4 bu bN cQ hz hv.len hv.one hv.fz (by omega) λH5 nx5 h5=>End.ret ho rfl h5
theorem HL:aU P 195 (some (.agg ⟨[aE [44],i64 5,aE [59],i64 13]⟩)) (some (i64 0))=some (.agg ⟨[aE [44],i64 5]⟩):=by kernel_rfl
theorem HM:aU P 195 (some (.agg ⟨[aE [44],i64 5,aE [59],i64 13]⟩)) (some (i64 1))=some (.agg ⟨[aE [59],i64 13]⟩):=by kernel_rfl
theorem Hq.HN {w:List UInt8}{i:Int}{kt:Go.Ev.T OB->Nat->Q}(h:Hp nx0 H0 F H nx)(hk:∀H' nx',Hp nx0 H0 F H' nx'->aK P pl X0 (kt H' nx') nx0 H0 R):aK P pl X0 (ak (aq P H nx 194) λp H nx=>bC P H nx 194 (some p) (.agg ⟨[aE w,i64 i]⟩) kt) nx0 H0 R:=Hq.var FK Nv rfl rfl rfl h hk
theorem Sg (hL:L.length<=100000){n:Nat}(hn:n<=90000)(he:∀j,j<=n->bw 61 L aF.v (ps L j).exp){a:aF}{z:List Value}{x0 x1:Nat}{o:iY aF}(hz:z.length=6)
 (ho:(if dD L k [44]=true then bd (jP L (ps L n) [44] (.mk 5 0 [] [a] [] []) k) λe k=>aS L [41] k λk=>yes e k
 else if dD L k [59]=true then bd (jP L (ps L n) [59] (.mk 13 0 [] [a] [] []) k) λe k=>aS L [41] k λk=>yes e k
 else aS L [41] k λk=>yes a k)=some o) (h:Hp nx0 H0 (cD bp L k::(x1,a.cs,44)::(x0,z,44)::F) H nx):
 aK P pl X0 (.jump (pj (ptr bp) (ptr x0) (ptr x1) (.agg ⟨[aE [44],i64 5,aE [59],i64 13]⟩) (i64 0) H nx)) nx0 H0 (End nx0 H0 bp L F aF.v o):=by
 refine Wq.jmp (vw ..) (λ_=>rfl) ?_
 simp only[af,HL,Int.reduceLT]
 refine Hq.HN h λH1 aC h1=> ?_
 refine Sq.is h1 λH2 nx2 h2=> ?_
 cases hc:dD L k [44]with
 | true=>
   rw[if_pos hc]at ho
   simp only[af,dU (h2.at_ 1 rfl) a.len]
   refine Hq.cZ a.cs a.len h2 λx H3 nx3 h3=> ?_
   simp only[af,er]
   refine Hq.alloc aV h3 λx2 H4 nx4 h4=> ?_
   refine Hq.set [_] h4 bu rfl rfl rfl λH5 h5=> ?_
   have h6:Hp nx0 H0 (cD bp L k::(x2,_,44)::(x1,a.cs,44)::(x0,z,44)::([(x,a.cs,44)]++F)) H5 nx4:=h5.perm (List.Perm.cons _ (List.Perm.cons _ ((List.Perm.swap _ _ _).trans (List.Perm.cons _ (List.Perm.swap _ _ _)))))
   exact HK hL (n+1) (λj hj=>he j (by omega)) [a] k (gq x 1 1) [(x,a.cs,44)] o _ z x0 x1 x2 nx4 H5 (show 1+(n+1)<=90010 by omega) (Gw.jA a.fD) a.len hz ho h6
 | false=>
   rw[if_neg (by rw[hc];simp)]at ho
   simp only[af]
   refine Wq.jmp (Cy ..) (λ_=>rfl) ?_
   simp only[af,Int.reduceAdd,show IntKind.i64.wrap 1=1 from rfl]
   refine Wq.jmp (vw ..) (λ_=>rfl) ?_
   simp only[af,HM,Int.reduceLT]
   refine Hq.HN h2 λH3 nx3 h3=> ?_
   refine Sq.is h3 λH4 nx4 h4=> ?_
   cases hc2:dD L k [59]with
   | true=>
     rw[if_pos hc2]at ho
     simp only[af,dU (h4.at_ 1 rfl) a.len]
     refine Hq.cZ a.cs a.len h4 λx H5 nx5 h5=> ?_
     simp only[af,er]
     refine Hq.alloc aV h5 λx2 H6 nx6 h6=> ?_
     refine Hq.set [_] h6 bu rfl rfl rfl λH7 h7=> ?_
     have h8:Hp nx0 H0 (cD bp L k::(x2,_,44)::(x1,a.cs,44)::(x0,z,44)::([(x,a.cs,44)]++F)) H7 nx6:=h7.perm (List.Perm.cons _ (List.Perm.cons _ ((List.Perm.swap _ _ _).trans (List.Perm.cons _ (List.Perm.swap _ _ _)))))
     exact HK hL (n+1) (λj hj=>he j (by omega)) [a] k (gq x 1 1) [(x,a.cs,44)] o _ z x0 x1 x2 nx6 H7 (show 1+(n+1)<=90010 by omega) (Gw.jA a.fD) a.len hz ho h8
   | false=>
     rw[if_neg (by rw[hc2];simp)]at ho
     simp only[af]
     refine Wq.jmp (Cy ..) (λ_=>rfl) ?_
     simp only[af,Int.reduceAdd,show IntKind.i64.wrap 2=2 from rfl]
     refine Wq.jmp (vw ..) (λ_=>rfl) ?_
     simp only[af,Int.reduceLT]
     refine Sq.jQ hL h4 ho λH5 nx5 _ ho h5=> ?_
     simp only[af,dU (h5.at_ 1 rfl) a.len]
     exact Hq.kB (Hp.ko h5) hz λH9 nx9 h9=>End.ret ho rfl h9
theorem Sh (hL:L.length<=100000){n:Nat}(hn:n<=90000)(he:∀j,j<=n->bw 61 L aF.v (ps L j).exp)(hlt:bw 188 L aF.v (ps L n).lt):bw 178 L aF.v (ps L (n+1)).atom:=by
 intro nx0 nx H0 H bp F k o ho h
 have ho:mI L (ps L n) k=some o:=ho
 unfold mI at ho
 rw[T8]
 refine Hq.alloc aV h λx0 H1 aC h1=> ?_
 refine Sq.now h1 λH2 nx2 h2=> ?_
 refine Sq.CS h2 λH3 nx3 h3=> ?_
 simp only[af]
 refine Wq.ite (λhi=> ?_) (λhi=> ?_)
 . rw[if_pos hi]at ho
   simp only[af,pk h3,dq hL (fP (show(tk L k).k≠0 by omega))]
   refine dI h3 λH4 h4=> ?_
   simp only[af,C6]
   exact Hq.fin (G:=[]) h4 bu bN cQ rfl rfl rfl dE.nil.fz (by omega) λH5 nx5 h5=>End.ret ho rfl h5
 rw[if_neg hi]at ho
 refine Wq.ite (λhi=> ?_) (λhi=> ?_)
 . rw[if_pos hi]at ho
   simp only[af,pk h3,dq hL (fP (show(tk L k).k≠0 by omega))]
   refine dI h3 λH4 h4=> ?_
   simp only[af,kZ]
   exact Hq.fin (G:=[]) h4 bu bN cQ rfl rfl rfl dE.nil.fz (by omega) λH5 nx5 h5=>End.ret ho rfl h5
 rw[if_neg hi]at ho
 refine Wq.ite (λhi=> ?_) (λhi=> ?_)
 . rw[if_pos hi]at ho
   simp only[af,pk h3,dq hL (fP (show(tk L k).k≠0 by omega))]
   refine dI h3 λH4 h4=> ?_
   simp only[af,kZ]
   exact Hq.fin (G:=[]) h4 bu bN cQ rfl rfl rfl dE.nil.fz (by omega) λH5 nx5 h5=>End.ret ho rfl h5
 rw[if_neg hi]at ho
 refine Wq.ite (λhi=> ?_) (λhi=> ?_)
 . rw[if_pos hi]at ho
   simp only[af,pk h3,dq hL (fP (show(tk L k).k≠0 by omega))]
   refine dI h3 λH4 h4=> ?_
   simp only[af,kZ]
   exact Hq.fin (G:=[]) h4 bu bN cQ rfl rfl rfl dE.nil.fz (by omega) λH5 nx5 h5=>End.ret ho rfl h5
 rw[if_neg hi]at ho
 refine Sq.take hL h3 (λhi H4 nx4 h4=> ?_) (λhi H4 nx4 h4=> ?_)
 . rw[if_pos hi,<- nH ((ps L n).lt _)]at ho
   simp only[af]
   refine Sq.call hlt rfl h4 ho λa k' H5 nx5 _ ho h5=> ?_
   exact Hq.kB h5 rfl λH9 nx9 h9=>End.ret ho rfl h9
 rw[if_neg (by rw[hi];simp)]at ho
 simp only[af]
 refine Sq.jQ hL h4 ho λH6 nx6 _ ho h6=> ?_
 refine Sq.take hL h6 (λhi H7 nx7 h7=> ?_) (λhi H7 nx7 h7=> ?_)
 . rw[if_pos hi]at ho
   simp only[af]
   exact Hq.fin (G:=[]) h7 bu bN cQ rfl rfl rfl dE.nil.fz (by omega) λH8 nx8 h8=>End.ret ho rfl h8
 rw[if_neg (by rw[hi];simp)]at ho
 simp only[af]
 refine Sq.call (he n (Nat.le_refl n)) rfl h7 ho λa k' H8 nx8 _ ho h8=> ?_
 refine Hq.alloc aV h8 λx1 H9 nx9 h9=> ?_
 refine Hq.set [_] h9 bu rfl a.len (dE.of a).one λH10 h10=> ?_
 exact Sg hL hn he rfl ho h10
end
section
variable {nx0 nx nx' bp k:Nat}{H0 H H':T OB}{F A B G G':List Bx}{s:Bx}{R:Go.Ev.Out->T OB->Nat->Prop}{b:Nat}{l:List Value}{e t:TypeId}{L:List Tok}
def gL (d:Option aT):Value:= .tuple ⟨[(d.getD kr).v,.bool d.isSome]⟩
theorem dE.Si {n:Nat}{cs:List Value}{a:aF}{ds:List aT}{sd:Value}(h:dE n cs a G)(hd:Gw true 17 57 (ds.map aT.v) sd G'):dE (n+1) [i64 10,i64 0,aE [],gq b 1 1,az,sd] (.mk 10 0 [] [a] [] ds) ((b,cs,44)::G++G'):=by
 have h1:=cP.Mp (t:=41) (b:=b) fc bu bN rfl cQ h.fD (.inr rfl) (by simp) (iB.one h.fz) (λu hu=>by rw[List.mem_singleton]at hu;subst hu;exact a.len)
 rw[hN cs]at h1
 exact dE.row h1 iU (hd.UM.mono (by omega)) rfl rfl (ck hd)
theorem MG (hL:L.length<=100000){n:Nat}{cs z:List Value}{a:aF}{ds:List aT}{sd:Value}{x0 x1 x2:Nat}{o:iY aF}(hv:dE n cs a G)(hn:n<=90010)(hd:Gw true 17 57 (ds.map aT.v) sd G')(hz:z.length=6)(ho:aS L [101,110,100] k (λk=>yes (.mk 10 0 [] [a] [] ds) k)=some o)
 (h:Hp nx0 H0 (cD bp L k::(x2,cs,44)::(x1,[i64 10,i64 0,aE [],az,az,sd],44)::(x0,z,44)::(G++(G'++F))) H nx):aK P pl X0 (aN P pl (vC (ptr bp) (ptr x0) (ptr x1) (ptr x2) H nx)) nx0 H0 (End nx0 H0 bp L F aF.v o):=by
 rw[CB]
 refine Sq.jQ hL h ho λH1 aC _ ho h1=> ?_
 simp only[af,dU (h1.at_ 1 rfl) hv.len]
 refine Hq.cZ cs hv.len h1 λx H2 nx2 h2=> ?_
 refine Hq.put [_,_,_] h2 re rfl rfl (by simp) rfl λH3 h3=> ?_
 simp only[af,dU (h3.at_ 3 rfl) rfl]
 have hl:=dE.Si (b:=x) hv hd
 have h4:Hp nx0 H0 (cD bp L (k+1)::(x0,z,44)::(((x,cs,44)::G++G')++F)) H3 nx2:=by
  rw[List.cons_append,List.cons_append,List.append_assoc]
  exact(Hp.mv [_,_,_] h3).sub (by simp)
 exact Hq.fin h4 bu bN cQ hz hl.len hl.one hl.fz (by omega) λH5 nx5 h5=>End.ret ho rfl h5
theorem MH (hL:L.length<=100000){ds:List aT}{sd:Value}(hd:Gw true 17 57 (ds.map aT.v) sd G'):∀(m:Nat),(∀j,j<m->bw 61 L aF.v (ps L j).exp)->∀(l:List aF) (k:Nat) (sl:Value) (G:List Bx) (o:iY aF) (z:List Value) (x0 x1 x2 nx:Nat) (H:Go.Ev.T OB),l.length+m<=90010->Gw true 6 44 (l.map aF.v) sl G->z.length=6->
 bd ((ps L m).dF [59] (.mk 13 0 [] l [] []) k) (λa k=>aS L [101,110,100] k λk=>yes (.mk 10 0 [] [a] [] ds) k)=some o->Hp nx0 H0 (cD bp L k::(x2,[i64 13,i64 0,aE [],sl,az,az],44)::(x1,[i64 10,i64 0,aE [],az,az,sd],44)::(x0,z,44)::(G++(G'++F))) H nx->
 aK P pl X0 (.jump (pq (ptr bp) (ptr x0) (ptr x1) (ptr x2) H nx)) nx0 H0 (End nx0 H0 bp L F aF.v o)
 | 0,_,l,k,sl,G,o,z,x0,x1,x2,nx,H,hm,hG,hz,ho,h=>by cases ho
 | m+1,he,l,k,sl,G,o,z,x0,x1,x2,nx,H,hm,hG,hz,ho,h=>by
   have ho:bd (jP L (ps L m) [59] (.mk 13 0 [] l [] []) k) (λa k=>aS L [101,110,100] k λk=>yes (.mk 10 0 [] [a] [] ds) k)=some o:=ho
   unfold jP at ho
   refine Wq.jmp (JA ..) (λ_=>rfl) ?_
   refine Sq.take hL h (λhi H1 aC h1=> ?_) (λhi H1 aC h1=> ?_)
   . rw[if_pos hi,hP]at ho
     simp only[af,av (off:=3) (u:=sl) (h1.at_ 1 rfl) gX rfl]
     refine Sq.call (he m (Nat.lt_succ_self m)) rfl h1 ho λc k' H2 nx2 _ ho2 h2=> ?_
     simp only[af,av (off:=3) (u:=sl) (h2.at_ 1 rfl) gX rfl,bj]
     refine Hq.cZ c.cs c.len h2 λx H3 nx3 h3=> ?_
     simp only[af,av (off:=3) (u:=sl) (h3.at_ 2 rfl) gX rfl,bj]
     refine Hq.yy [_,_,_] (x:=c) (by omega) hG h3 λsl' G1 H4 nx4 hG1 h4=> ?_
     refine Hq.put [_] h4 re (by rcases hG1.2 with⟨_,rfl,_⟩ | ⟨b,c,rfl,_⟩<;>rfl) (ck hG1) (by simp) rfl λH5 h5=> ?_
     exact MH hL hd m (λj hj=>he j (by omega)) (l++[c]) k' sl' G1 o z x0 x1 x2 nx4 H5 (by rw[List.length_append];simp;omega) hG1 hz ho2 h5
   . rw[if_neg (by rw[hi];simp),eG]at ho
     simp only[af]
     have:=MG hL (dE.gw (k:=13) (i:=0) (w:=[]) hG) (by omega) hd hz ho h1
     rw[CB]at this
     exact this
theorem Hq.Sj {a:aT}{kt:Go.Ev.T OB->Nat->Q}(h:Hp nx0 H0 F H nx)(hk:∀H' nx',Hp nx0 H0 F H' nx'->aK P pl X0 (kt H' nx') nx0 H0 R):aK P pl X0 (ak (aq P H nx 57) λp H nx=>bC P H nx 57 (some p) a.v kt) nx0 H0 R:=Hq.var cJ di rfl a.len (a.fD a.v (by simp)).2.1 h hk
theorem Vf (a:aT):ae P H 57 (some (aj a.v))=some a.v:=by
 rw[aT.bk]
 exact Fu ..
theorem MI (hL:L.length<=100000){n:Nat}(hn:n<=90000)(he:∀j,j<=n->bw 61 L aF.v (ps L j).exp):∀(m:Nat),(∀j,j<m->bw 105 L gL (ps L j).bind)->∀(ds:List aT) (k:Nat) (sd:Value) (G':List Bx) (o:iY aF) (z:List Value) (x0 x1 nx:Nat) (H:Go.Ev.T OB),ds.length+m<=90010->Gw true 17 57 (ds.map aT.v) sd G'->z.length=6->
 bd ((ps L m).fO ds k) (λds k=>bd ((ps L n).exp k) λa k=>
  if dD L k [59]=true then bd (jP L (ps L n) [59] (.mk 13 0 [] [a] [] []) k) λa k=>aS L [101,110,100] k λk=>yes (.mk 10 0 [] [a] [] ds) k
  else aS L [101,110,100] k λk=>yes (.mk 10 0 [] [a] [] ds) k)=some o->Hp nx0 H0 (cD bp L k::(x1,[i64 10,i64 0,aE [],az,az,sd],44)::(x0,z,44)::(G'++F)) H nx->
 aK P pl X0 (.jump (vA (ptr bp) (ptr x0) (ptr x1) H nx)) nx0 H0 (End nx0 H0 bp L F aF.v o)
 | 0,_,ds,k,sd,G',o,z,x0,x1,nx,H,hm,hd,hz,ho,h=>by cases ho
 | m+1,hb,ds,k,sd,G',o,z,x0,x1,nx,H,hm,hd,hz,ho,h=>by
   have ho:bd (sC L (ps L m) ds k) (λds k=>bd ((ps L n).exp k) λa k=>
    if dD L k [59]=true then bd (jP L (ps L n) [59] (.mk 13 0 [] [a] [] []) k) λa k=>aS L [101,110,100] k λk=>yes (.mk 10 0 [] [a] [] ds) k
    else aS L [101,110,100] k λk=>yes (.mk 10 0 [] [a] [] ds) k)=some o:=ho
   unfold sC at ho
   refine Wq.jmp (N0 ..) (λ_=>rfl) ?_
   refine Sq.take hL h (λhi H1 aC h1=> ?_) (λhi H1 aC h1=> ?_)
   . rw[if_pos hi,eG]at ho
     simp only[af]
     refine Sq.call (he n (Nat.le_refl n)) rfl h1 ho λa k' H2 nx2 _ ho h2=> ?_
     refine Hq.alloc aV h2 λx2 H3 nx3 h3=> ?_
     refine Hq.set [_] h3 bu rfl a.len (dE.of a).one λH4 h4=> ?_
     refine Sq.is h4 λH5 nx5 h5=> ?_
     cases hc:dD L k' [59]with
     | true=>
       rw[if_pos hc]at ho
       simp only[af,dU (h5.at_ 1 rfl) a.len]
       refine Hq.cZ a.cs a.len h5 λx H6 nx6 h6=> ?_
       simp only[af,er]
       refine Hq.set [_,_] h6 bu a.len rfl rfl λH7 h7=> ?_
       have h8:Hp nx0 H0 (cD bp L k'::(x2,_,44)::(x1,_,44)::(x0,z,44)::([(x,a.cs,44)]++(G'++F))) H7 nx6:=h7.perm (List.Perm.cons _ ((List.Perm.swap _ _ _).trans (List.Perm.cons _ ((List.Perm.swap _ _ _).trans (List.Perm.cons _ (List.Perm.swap _ _ _))))))
       exact MH hL hd (n+1) (λj hj=>he j (by omega)) [a] k' (gq x 1 1) [(x,a.cs,44)] o z x0 x1 x2 nx6 H7 (show 1+(n+1)<=90010 by omega) (Gw.jA a.fD) hz ho h8
     | false=>
       rw[if_neg (by rw[hc];simp)]at ho
       simp only[af]
       exact Wq.jump (λ_=>rfl) (MG (n:=0) (G:=[]) hL (dE.of a) (by omega) hd hz ho h5)
   . rw[if_neg (by rw[hi];simp),hP]at ho
     simp only[af]
     refine Sq.call (hb m (Nat.lt_succ_self m)) rfl h1 ho λd k' H2 nx2 _ ho h2=> ?_
     unfold gL
     simp only[af,Ej,Ek]
     refine Hq.Sj h2 λH3 nx3 h3=> ?_
     cases d with
     | none=>
       simp only[af,Option.isSome_none,Bool.not_false]
       exact Sq.fail (α:=aF) (β:=aF) (o:=o) (by cases ho;rfl) h3
     | some d=>
       simp only[af,Option.isSome_some,Bool.not_true,Option.getD_some]
       refine Wq.jmp (Jz ..) (λ_=>rfl) ?_
       simp only[af,av (off:=5) (u:=sd) (h3.at_ 1 rfl) kc rfl,Vf]
       refine Hq.pG d.cs d.len h3 λx H4 nx4 h4=> ?_
       refine Hq.Mv [_,_] (x:=d) (by omega) hd h4 λsd' G2 H5 nx5 hd' h5=> ?_
       refine Hq.put [_] h5 ra (by rcases hd'.2 with⟨_,rfl,_⟩ | ⟨b,c,rfl,_⟩<;>rfl) (ck hd') (by simp) rfl λH6 h6=> ?_
       refine Sq.skip hL h6 λbb H7 nx7 h7=> ?_
       simp only[af]
       exact MI hL hn he m (λj hj=>hb j (by omega)) (ds++[d]) _ sd' G2 o z x0 x1 nx7 H7 (by rw[List.length_append];simp;omega) hd' hz ho h7
theorem Sk (hL:L.length<=100000){n:Nat}(hn:n<=90000)(he:∀j,j<=n->bw 61 L aF.v (ps L j).exp)(hb:∀j,j<=n->bw 105 L gL (ps L j).bind):bw 188 L aF.v (ps L (n+1)).lt:=by
 intro nx0 nx H0 H bp F k o ho h
 have ho:JW L (ps L n) k=some o:=ho
 unfold JW at ho
 rw[Ud]
 refine Hq.alloc aV h λx0 H1 aC h1=> ?_
 refine Hq.alloc aV h1 λx1 H2 nx2 h2=> ?_
 refine Hq.set [_] h2 bu rfl rfl rfl λH3 h3=> ?_
 exact MI hL hn he (n+1) (λj hj=>hb j (by omega)) [] k az [] o _ x0 x1 nx2 H3 (by simp;omega) (Gw.nil _ _ _) rfl ho h3
end
section
variable {nx0 nx nx' bp k:Nat}{H0 H H':T OB}{F A B G G':List Bx}{s:Bx}{R:Go.Ev.Out->T OB->Nat->Prop}{b:Nat}{l:List Value}{e t:TypeId}{L:List Tok}
theorem Fn.jU {w:List UInt8}{q:List aZ}{e:aF}{sp:Value}(hG:Gw true 4 47 (q.map aZ.v) sp G):gp 1 [(1,42),(5,41),(6,42),(7,24)] (.agg ⟨aE w::sp::e.cs⟩) (Fn.v (.mk w q e)) G:=by
 rw[Fn.bk,aF.fu]
 have h1:=hG.HE
 have:=eL.cons (p:=(1,42)) (cs:=[aE w,sp,i64 e.k,i64 e.n,aE e.s,fX e.l,cj e.p,bP e.d]) rfl h1 (eL.cons (p:=(5,41)) rfl ((cP.row fc).mono (Nat.zero_le 1)) (eL.cons (p:=(6,42)) rfl ((cP.row ed).mono (Nat.zero_le 1)) (eL.cons (p:=(7,24)) rfl ((cP.row gd).mono (Nat.zero_le 1)) eL.nil)))
 simp only[List.append_nil]at this
 exact gp.of this
theorem MJ (hL:L.length<=100000){E:Nat->PR aF}(he:bw 61 L aF.v E){w:List UInt8}:∀(m:Nat),(∀j,j<m->bw 177 L aZ.v (ps L j).bl)->∀(q:List aZ) (k:Nat) (sp:Value) (G:List Bx) (o:iY Fn) (z:List Value) (x0 x1 nx:Nat) (H:Go.Ev.T OB),q.length+m<=90010->Gw true 4 47 (q.map aZ.v) sp G->z.length=8->
 bd ((ps L m).lY q k) (λl k=>aS L [61] k λk=>bd (E k) λe k=>yes (.mk w l e) k)=some o->Hp nx0 H0 (cD bp L k::(x1,[aE w,sp,i64 0,i64 0,aE [],az,az,az],65)::(x0,z,65)::(G++F)) H nx->
 aK P pl X0 (.jump (vo (ptr bp) (ptr x0) (ptr x1) H nx)) nx0 H0 (End nx0 H0 bp L F Fn.v o)
 | 0,_,q,k,sp,G,o,z,x0,x1,nx,H,hm,hG,hz,ho,h=>by cases ho
 | m+1,hp,q,k,sp,G,o,z,x0,x1,nx,H,hm,hG,hz,ho,h=>by
   have ho:bd (sE L (ps L m) q k) (λl k=>aS L [61] k λk=>bd (E k) λe k=>yes (.mk w l e) k)=some o:=ho
   unfold sE at ho
   refine Wq.jmp (NT ..) (λ_=>rfl) ?_
   refine Sq.Ho h λH1 aC h1=> ?_
   cases hb:kq L k with
   | true=>
     rw[if_pos hb,hP]at ho
     simp only[af,av (off:=1) (u:=sp) (h1.at_ 1 rfl) gf rfl]
     refine Sq.call (hp m (Nat.lt_succ_self m)) rfl h1 ho λc k' H2 nx2 _ ho2 h2=> ?_
     simp only[af,av (off:=1) (u:=sp) (h2.at_ 1 rfl) gf rfl,bj]
     refine Hq.dW c.cs c.len h2 λx H3 nx3 h3=> ?_
     simp only[af,av (off:=1) (u:=sp) (h3.at_ 2 rfl) gf rfl,bj]
     refine Hq.tF [_,_] (x:=c) (by omega) hG h3 λsl' G1 H4 nx4 hG1 h4=> ?_
     refine Hq.put [_] h4 oe (by rcases hG1.2 with⟨_,rfl,_⟩ | ⟨b,c,rfl,_⟩<;>rfl) (ck hG1) (by simp) rfl λH5 h5=> ?_
     exact MJ hL he m (λj hj=>hp j (by omega)) (q++[c]) k' sl' G1 o z x0 x1 nx4 H5 (by rw[List.length_append];simp;omega) hG1 hz ho2 h5
   | false=>
     rw[if_neg (by rw[hb];simp),eG]at ho
     simp only[af]
     refine Sq.jQ hL h1 ho λH2 nx2 _ ho h2=> ?_
     refine Sq.call he rfl h2 ho λc k' H3 nx3 _ ho h3=> ?_
     refine Hq.store [_] h3 bu (by simp) c.len (dE.of c).one λH4 h4=> ?_
     have e1:il [aE w,sp,i64 0,i64 0,aE [],az,az,az] (aF.v c).cells.toList 2=aE w::sp::c.cs:=by
      rw[aF.bk,aF.fu];rfl
     rw[e1]at h4
     have hlen:(aE w::sp::c.cs).length=8:=by
      have:=c.len
      simp only[List.length_cons]
      show c.cs.length+1+1=8
      have h6:c.cs.length=6:=c.len
      omega
     have hone:(aE w::sp::c.cs).all ax=true:=by
      simp only[List.all_cons,ik,ck hG,Bool.true_and]
      exact(dE.of c).one
     simp only[af,Mx (h4.at_ 1 rfl) hlen]
     have h5:Hp nx0 H0 (cD bp L k'::(x0,z,65)::(G++F)) H4 nx3:=(Hp.mv [_] h4).sub (by simp)
     exact Hq.fin h5 iP uD Hn hz hlen hone (Fn.jU hG) (by omega) λH9 nx9 h9=>End.ret ho rfl h9
theorem Sl (hL:L.length<=100000){n:Nat}(hn:n<=90000)(hp:∀j,j<=n->bw 177 L aZ.v (ps L j).bl)(he:bw 61 L aF.v (ps L n).exp):bw 149 L Fn.v (ps L (n+1)).fn:=by
 intro nx0 nx H0 H bp F k o ho h
 have ho:JX L (ps L n) k=some o:=ho
 unfold JX at ho
 rw[TR]
 refine Hq.alloc eK h λx0 H1 aC h1=> ?_
 refine Sq.word (by decide) hL h1 ho λH2 nx2 _ ho h2=> ?_
 simp only[af]
 refine Sq.call (hp n (Nat.le_refl n)) rfl h2 ho λa k' H3 nx3 _ ho h3=> ?_
 refine Hq.dW a.cs a.len h3 λx H4 nx4 h4=> ?_
 simp only[af,Kr]
 refine Hq.alloc eK h4 λx1 H5 nx5 h5=> ?_
 refine Hq.set [_] h5 iP rfl rfl rfl λH6 h6=> ?_
 have h7:Hp nx0 H0 (cD bp L k'::(x1,_,65)::(x0,_,65)::([(x,a.cs,47)]++F)) H6 nx5:=h6.perm (List.Perm.cons _ (List.Perm.cons _ (List.Perm.swap _ _ _)))
 exact MJ hL he (n+1) (λj hj=>hp j (by omega)) [a] k' (gq x 1 1) [(x,a.cs,47)] o _ x0 x1 nx5 H6 (show 1+(n+1)<=90010 by omega) (Gw.jA a.fD) rfl ho h7
end
end
end Go.Proofs.YthjhonhhbddhkaaGreatDoor
