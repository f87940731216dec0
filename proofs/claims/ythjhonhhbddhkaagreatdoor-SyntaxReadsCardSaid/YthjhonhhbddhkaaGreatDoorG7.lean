/- Texts of this claim, side by side. -/
import Derived.Test.YthjhonhhbddhkaaGreatDoorG3
import Derived.Laws.Tables
import Derived.ShapedOpen
import Derived.Deep.Slices
import Derived.Lib.LaidTab
import Derived.Test.YthjhonhhbddhkaaGreatDoorG4
import Derived.Test.YthjhonhhbddhkaaGreatDoorG5
import Derived.Test.YthjhonhhbddhkaaGreatDoorG6
import Derived.KernelRfl
namespace Go.Ev
open Go.RowKit (Below)
noncomputable section
set_option maxRecDepth 100000
set_option linter.unusedVariables false
set_option linter.unusedSimpArgs false
section
variable {P:Program}{W:World}{φ:cO}
def kN (W:World)(k:Nat):Option (Array Value):=match W.heap[k]? with
 | some (.cells c _ _)=>some c
 | _=>none
def iB (W:World):cO:=(List.range W.heap.size).map λk=>some ⟨k,0,0,kN W k⟩
theorem o9 (W:World):(iB W).length=W.heap.size:=by simp[iB]
theorem kO {k:Nat}{e:gR}(h:(iB W)[k]? = some (some e)):k<W.heap.size/\e=⟨k,0,0,kN W k⟩:=by
 unfold iB at h;rw[List.getElem?_map]at h
 by_cases hk:k<W.heap.size
 . rw[List.getElem?_range hk]at h;simp at h;exact⟨hk,h.symm⟩
 . rw[List.getElem?_eq_none (by simp;omega)]at h;cases h
theorem w8 {k:Nat}(h:k<W.heap.size):(iB W)[k]? = some (some ⟨k,0,0,kN W k⟩):=by
 unfold iB;rw[List.getElem?_map,List.getElem?_range h];rfl
theorem jQ (k:Nat):hp (.leaf:T OB) k=none:=by simp[hp]
theorem Xa (hg:P.globals.size<=W.heap.size):HR P W (iB W) (hp .leaf) W where
 below:= .refl _ _
 oT:=λk ob h=>by rw[jQ]at h;cases h
 nS:=λk e h=>by obtain⟨h1,rfl⟩:=kO h;exact h1
 inj:=λk k' ob ob' e e' _ _ h=>by rw[jQ]at h;cases h
 obj:=λk ob e h=>by rw[jQ]at h;cases h
 gl:=λk hk=>⟨_,w8 (by omega),rfl⟩
 km:=λk e c h hf=>by
  obtain⟨h1,rfl⟩:=kO h;unfold kN at hf
  dsimp only at hf ⊢
  split at hf
  . rename_i c' el fz hc;cases hf;exact⟨el,fz,hc⟩
  . cases hf
 rq:=λk k' e e' c ob _ _ _ h=>by rw[jQ]at h;cases h
theorem A4 (h:W.ShapedOpen P)(hw:P.globals.size<(begin P (λ_ _=>0) default).world.heap.size):P.globals.size<=W.heap.size:=by
 obtain⟨o,_,h1,_⟩:=h.2 P.globals.size (Nat.le_refl _) hw;have:=(Array.getElem?_eq_some_iff.1 h1).1;omega
theorem Eg {a:Addr}{v:Value}(h:W.cell? a=some v):a.block<W.heap.size/\a.spot=none/\∃c,kN W a.block=some c/\c[a.off]? = some v:=by
 unfold World.cell? at h;unfold kN;split at h
 . rename_i c el fz hc;split at h
   . cases h
   . rename_i hs;refine⟨(Array.getElem?_eq_some_iff.1 hc).1,by simpa using hs,c,by rw[hc],h⟩
 . cases h
theorem uG (a:Addr):a.add 0=a:=rfl
theorem QF {a:Addr}{len cap s:Nat}{es:List Value}(hlen:es.length=len)(hs:∀x,x∈es->x.cells.toList.length=s)(hpos:0<s)(hcap:len<=cap)
 (hx:∀(i:Nat) (x:Value),es[i]? = some x->∃cs,W.cells? 0 (a.add (i*s)) s=some cs/\LR (iB W) x.cells.toList cs):VR (iB W) (bn s es) (.slice (some a) len cap):=by
 cases es with
 | nil=>subst hlen;exact .rl s a cap
 | cons x0 es=>
   obtain⟨cs0,h0,hl0⟩:=hx 0 x0 rfl;obtain⟨_,hn0,hc0⟩:=World.cells?_some h0;have e0:=hc0 0 hpos;rw[Nat.zero_mul,uG,uG,List.getElem?_eq_getElem (by omega)]at e0;obtain⟨hb,hsp,c,hc,_⟩:=Eg e0;obtain⟨b,o,sp⟩:=a
   dsimp only at hb hsp hc
   subst hsp;have key:∀(i j:Nat) (x v:Value),(x0::es)[i]? = some x->x.cells.toList[j]? = some v->∃v',c[o+i*s+j]? = some v'/\VR (iB W) v v':=by
    intro i j x v hi hj;obtain⟨cs,h1,h2⟩:=hx i x hi;obtain⟨_,hn,hc1⟩:=World.cells?_some h1;have hjs:j<s:=by
     have:=(List.getElem?_eq_some_iff.1 hj).1;rw[hs x (List.mem_of_getElem? hi)]at this;exact this
    have e1:=hc1 j hjs;rw[List.getElem?_eq_getElem (by omega)]at e1;have e2:=e1;rw[du,du]at e1;obtain⟨_,_,c',hc',e3⟩:=Eg e1
    dsimp only at hc' e3
    rw[hc]at hc';cases hc';exact⟨_,e3,h2.at_ j v _ hj (List.getElem?_eq_getElem _)⟩
   have hrow:=VR.row (φ:=iB W) (k:=b) (o:=o) (c':=cap) (c:=c) (es:=x0::es) (s:=s) (w8 hb) hc hs (λ_=> ?_) (by omega) (λi j x v v' hi hj hv=> ?_)
   . subst hlen;exact hrow
   . have hx1:(x0::es)[es.length]? = some ((x0::es)[es.length]'(by simp)):=List.getElem?_eq_getElem _;have hl:=hs _ (List.mem_of_getElem? hx1);obtain⟨v',h1,_⟩:=key es.length (s-1) _ _ hx1 (List.getElem?_eq_getElem (by omega));have:=(Array.getElem?_eq_some_iff.1 h1).1;have e5:(x0::es).length*s=es.length*s+s:=by rw[List.length_cons,Nat.succ_mul]
     omega
   . obtain⟨v'',h1,h2⟩:=key i j x v hi hj;rw[h1]at hv;cases hv;exact h2
end
end
end Go.Ev
namespace Go.Ev
noncomputable section
set_option maxRecDepth 100000
set_option linter.unusedVariables false
set_option linter.unusedSimpArgs false
section
variable {P:Program}{pl:jF}{X:Ext}{H H0 H1:T OB}{nx nx0 aE:Nat}{v u:Value}{R:Go.Ev.Out->T OB->Nat->Prop}
abbrev aD (l:List UInt8):Value:=Value.string ⟨⟨l⟩⟩
def lD (l:List UInt8):List Value:=l.map λx=> .int .u8 (.ofNat x.toNat)
@[simp] theorem QG (l:List UInt8):(lD l).length=l.length:=by simp[lD]
theorem sH (a b:List UInt8):lD (a++b)=lD a++lD b:=by simp[lD]
theorem LL (l:List UInt8):(lD l).all aA=true:=by
 induction l with
 | nil=>rfl
 | cons a l ih=>simp[lD,aA]
theorem F2 (l:List UInt8):strOf (lD l)=some l:=by
 induction l with
 | nil=>rfl
 | cons a l ih=>
   show(match strOf (lD l)with | some r=>some (a.toNat.toUInt8::r) | none=>none)=_;rw[ih];simp
theorem A5 (a b:List UInt8):(⟨⟨a⟩⟩:ByteArray)++⟨⟨b⟩⟩=⟨⟨a++b⟩⟩:=by
 apply ByteArray.ext;apply Array.ext';simp
theorem aP (a:List UInt8):(⟨⟨a⟩⟩:ByteArray).size=a.length:=rfl
theorem oC (t:TypeId)(q:Bool)(a b:List UInt8)(h:a.length+b.length<=9223372036854775807):ai P H .add t q (some (aD a)) (some (aD b))=some (aD (a++b)):=by
 rw[AR t q _ _ (by rw[aP,aP];exact h),A5]
theorem oD {s:Sem Value}{w:Value}(h:b_ P s=some w)(hw:flat w=true):fV P s=some w:=by
 show qP (b_ P (vS s))=_;have e:b_ P (vS s)=some (Next.value w):=by
  show b_ P (s >>= λv=>pure (Next.value v))=_;rw[bx,h];rfl
 rw[e];show(qM w λv=>bif flat v then some v else none)=_;rw[jH,hw];rfl
theorem oE {s d:TypeId}{b off n c:Nat}{l:List Value}{r:List UInt8}{e:TypeId}(hq:ee P s d=true)(h:cR H b l e)(hn:off+n<=l.length)(hr:(l.drop off).take n=lD r):
 ck P H s d (some (.slice (some ⟨b,off,none⟩) n c))=some (aD r):=by
 obtain⟨tr,h1,h2⟩:=h;show(bif ee P s d then tq (H.get (bits b)) (λm tr=>bif Nat.ble (off+n) m then aa (pE tr n off) (λl=>aa (strOf l) (λr=>some (Value.string ⟨⟨r⟩⟩)) none) none else none) none else none)=_;rw[hq,cond_true,h1];show(bif Nat.ble (off+n) l.length then aa (pE tr n off) (λl=>aa (strOf l) (λr=>some (Value.string ⟨⟨r⟩⟩)) none) none else none)=_;rw[Nat.ble_eq_true_of_le hn,cond_true,jN h2 n off hn,aT,hr,F2];rfl
theorem A6 {s d e:TypeId}(hs:P.underlying s=some (.slice e))(he:P.underlying e=some (.int .u8))(hd:P.underlying d=some .string):ck P H s d (some (.slice none 0 0))=some (aD []):=by
 show yj P s d (.slice none 0 0)=_;show(fV P (convert s d (.slice none 0 0)))=_;have e1:b_ P (convert s d (.slice none 0 0))=some (aD []):=by
  unfold convert;simp only[bx,cI hs,cI hd,Option.bind_some];simp only[bx,cI he,Option.bind_some];simp[Conv.bytesToString];rfl
 exact oD e1 rfl
theorem gA {s d:TypeId}{k k':IntKind}{n:Int}{ds:TypeDesc}(hs:P.underlying s=some ds)(hd:P.underlying d=some (.int k)):ck P H s d (some (.int k' n))=some (.int k (k.wrap n)):=by
 show yj P s d (.int k' n)=_;show(fV P (convert s d (.int k' n)))=_;have e1:b_ P (convert s d (.int k' n))=some (.int k (k.wrap n)):=by
  unfold convert;simp only[bx,cI hs,cI hd,Option.bind_some];rfl
 exact oD e1 rfl
theorem w9 (k:IntKind)(n:Int):eV P .neg (some (.int k n))=some (.int k (k.wrap (0-n))):=by
 show fV P (Op.unary .neg (.int k n))=_;have e:Op.unary .neg (.int k n)=pure (.int k (k.wrap (0-n))):=rfl;rw[e];exact dJ rfl
theorem zC {t e:TypeId}{s b off len i:Nat}(hu:P.underlying t=some (.array len e))(hs:bq P e=some s)(hi:i<len)(k:IntKind):ay P t (some (.pointer (some ⟨b,off,none⟩))) (some (.int k (i:Int)))=some (.pointer (some ⟨b,off+i*s,none⟩)):=by
 show hJ (i:Int) (Gs P t (some (.pointer (some ⟨b,off,none⟩)))) none=_;rw[eM];show lR P t (λlen s=>bif Nat.blt i len then bO (Nat.add off (Nat.mul i s)) (λo=>some (Value.pointer (some ⟨b,o,none⟩)))else none) none=_;unfold lR;rw[hu];simp only;rw[hs,aT,show Nat.blt i len=true from Nat.ble_eq_true_of_le hi,cond_true,bm];rfl
theorem zD {t e:TypeId}{s b off len i:Nat}(hu:P.underlying t=some (.array len e))(hs:bq P e=some s)(hi:i<len)(hl:len<9223372036854775808)(k:IntKind):
 bA P H t (some (.pointer (some ⟨b,off,none⟩))) (some (some (.int k (i:Int)))) (some none) (some none)=some (.slice (some ⟨b,off+i*s,none⟩) (len-i) (len-i)):=by
 show lR P t (λn s=>aa (some i) (λl=>aa (some n) (λh=>hU b off n s l h) none) none) none=_;unfold lR;rw[hu];simp only;rw[hs,aT];show hU b off len s i len=_;unfold hU;rw[Nat.ble_eq_true_of_le (Nat.le_of_lt hi),Nat.ble_eq_true_of_le (Nat.le_refl _),show Nat.blt len fe=true from Nat.ble_eq_true_of_le (by unfold fe;omega)];simp only[Bool.and_self,cond_true,bm];rw[show Nat.beq len i=false from by rw[Bool.eq_false_iff];intro h;rw[Nat.beq_eq]at h;omega];rfl
end
section
variable {P:Program}{pl:jF}{X:Ext}{H H0 H1:T OB}{nx nx0 aE:Nat}{v u:Value}{R:Go.Ev.Out->T OB->Nat->Prop}
theorem a9 {t:TypeId}(hu:P.underlying t=some .string){l:List UInt8}{i:Nat}{c:UInt8}(h:l[i]? = some c)(k:IntKind):aL P t (some (aD l)) (some (.int k (i:Int)))=some (.int .u8 (c.toNat:Int)):=by
 show Ae P t (aD l) (.int k i)=_;show fV P (Instr.index t (aD l) (.int k i))=_;have hi:i<l.length:=(List.getElem?_eq_some_iff.1 h).1;have e0:(⟨⟨l⟩⟩:ByteArray)[i]? = some c:=by
  rw[ByteArray.getElem?_lt' _ _ hi];exact(List.getElem?_eq_getElem hi).symm.trans h
 have e1:b_ P (Instr.index t (aD l) (.int k i))=some (.int .u8 (c.toNat:Int)):=by
  unfold Instr.index;simp only[asIntOf,bx,cI hu,Option.bind_some];have h0:(0:Int)<=(i:Int):=by omega
  have:b_ P (pure (k,(i:Int)):Sem (IntKind×Int))=some (k,(i:Int)):=rfl;simp only[this,Option.bind_some,h0,if_true,Int.toNat_natCast,e0];rfl
 exact oD e1 rfl
theorem F3 (t:TypeId)(q:Bool)(k k':IntKind)(a:Int)(n:Nat)(hn:n<=k.bits):ai P H .shr t q (some (.int k a)) (some (.int k' (n:Int)))=some (.int k (a.fdiv (2^n))):=by
 rw[ig rfl rfl rfl rfl];have e0:uZ P .shr t (.int k a) (.int k' (n:Int))=fV P (binOp .shr t (.int k a) (.int k' (n:Int))):=rfl;have e:binOp .shr t (.int k a) (.int k' (n:Int))=pure (.int k (a.fdiv (2^n))):=by
  show Op.shift .shr k a k' (n:Int)=_;unfold Op.shift;rw[if_neg (by omega)];simp only[Int.toNat_natCast,Nat.min_eq_left hn]
 rw[e0,e];exact dJ rfl
theorem F4 (t:TypeId)(q:Bool)(k:IntKind)(a b:Int):ai P H .and t q (some (.int k a)) (some (.int k b))=some (.int k (k.wrap ((BitVec.ofInt k.bits a &&& BitVec.ofInt k.bits b).toNat:Int))):=by
 rw[dG];have e:binOp .and t (.int k a) (.int k b)=pure (.int k (k.wrap ((BitVec.ofInt k.bits a &&& BitVec.ofInt k.bits b).toNat:Int))):=by simp[binOp,Op.intBits]
 rw[e];exact dJ rfl
def BS (e:TypeId)(nx0:Nat)(H:T OB)(nx:Nat)(r:List UInt8)(sl:Value):Prop:=
 (r=[]/\sl= .slice none 0 0)\/∃b c,nx0<=b/\b<nx/\cR H b (lD r) e/\(c=fe\/c=r.length)/\sl= .slice (some ⟨b,0,none⟩) r.length c
theorem BS.nil (e:TypeId)(nx0:Nat)(H:T OB)(nx:Nat):BS e nx0 H nx [] (.slice none 0 0):= .inl ⟨rfl,rfl⟩
theorem Wq.mu {t e:TypeId}{n:Nat}{r x:List UInt8}{sl:Value}{vs:List (Nat×Value)}{z:List Value}{k:Value->T OB->Nat->Q}(hu:P.underlying t=some (.slice e))(hs:bq P e=some 1)(hz:bX P e=some z)(hsl:BS e nx0 H nx r sl)(hn:x.length=n)
 (hg:(Nat.ble (n*1) 16777216&&Nat.blt 0 (n*1)&&Nat.blt 0 z.length)=true) (hf:Instr.fill (λi=>some (i*1,1)) (bI z (n*1)) vs=some ⟨lD x⟩) (hsm:∀m,m<=r.length+x.length->bV P e 1 m=true) (h:Ag nx0 H0 nx H)
 (hk:∀H' sl' nx',BS e nx0 H' nx' (r++x) sl'->Ag nx0 H0 nx' H'->nx<=nx'->aO P pl X (k sl' H' nx') nx0 H0 R):
 aO P pl X (ao (aq P H nx t n (some vs)) λv H nx=>ao (ba P H nx [t,t] (some [sl,v])) k) nx0 H0 R:=by
 have hn0:0<x.length:=by
  rw[hn];simp only[Bool.and_eq_true]at hg;have:=Nat.lt_of_lt_of_le (Nat.zero_lt_one) (Nat.le_of_ble_eq_true hg.1.2);omega
 refine Wq.row hu hs hz hg hf h λH1 hb1 dx hA1=> ?_;have hx1:pz H1 1 (.slice (some ⟨nx,0,none⟩) n n)=some (n,lD x):=AS hb1 (by simp;exact hn);rcases hsl with⟨rfl,rfl⟩ | ⟨b,c,hb0,hbx,hb,hc,rfl⟩
 . refine Wq.PJ hu hs rfl hx1 (hsm _ (by simp;omega)) hA1 (λh0=>by omega) λH2 _ hb2 _ hA2=> ?_;refine hk _ _ _ ?_ hA2 (by omega);exact .inr ⟨nx+1,fe,by have:=h.1;omega,by omega,by simpa using hb2,.inl rfl,by rw[List.nil_append,hn]⟩
 . have hb':=dx _ _ _ hbx hb;rcases hc with rfl | rfl
   . refine Wq.app hu hs hb' hs (by simp) rfl hx1 (LL x) (hsm _ (by omega)) hA1 hb0 (by omega) λH2 hb2 _ hA2=> ?_;refine hk _ _ _ ?_ hA2 (by omega);exact .inr ⟨nx+1,fe,by have:=h.1;omega,by omega,by rw[sH];exact hb2,.inl rfl,by rw[List.length_append,hn]⟩
   . rw[lq rfl];unfold dH;rw[hu];simp only[hs,aT,hx1,hsm (r.length+n) (by omega),cond_true];obtain⟨tr,h1,h2⟩:=hb'
     by_cases hr:r.length=fe
     . have hh:=hsm r.length (by omega);exact absurd hh (by
        unfold bV;intro q;split at q
        . simp only[Bool.and_eq_true]at q;have:=Nat.le_of_ble_eq_true q.1.2;unfold fe at hr;omega
        . cases q)
     . have e1:tv P H1 (nx+1) e 1 (some ⟨b,0,none⟩) r.length r.length n (lD x)=iD H1 (nx+1) e (r.length+n) (lD r++lD x):=by
        show yn P H1 (nx+1) e 1 b 0 r.length r.length n (lD x)=_;unfold yn;rw[h1];have eu:Nat.beq r.length fe=false:=by
         rw[Bool.eq_false_iff];intro q;rw[Nat.beq_eq]at q;exact hr q
        have el:Nat.ble (r.length+n) r.length=false:=by
         rw[Bool.eq_false_iff];intro q;have:=Nat.le_of_ble_eq_true q;omega
        simp only[dV,eu,cond_false,el];unfold oR;rw[show Nat.ble (0+r.length*1) (lD r).length=true from Nat.ble_eq_true_of_le (by simp),show Nat.blt 0 n=true from Nat.ble_eq_true_of_le (by omega)];have:pE tr (r.length*1) 0=some (lD r):=by rw[jN h2 _ _ (by simp)];simp[List.take_of_length_le]
        simp only[Bool.and_self,cond_true,this,aT]
       rw[e1,iH];refine Wq.new (q:=λH n'=>k (.slice (some ⟨nx+1,0,none⟩) (r.length+n) fe) H n') hA1 λH2 hb2 _ hA2=> ?_;refine hk _ _ _ ?_ hA2 (by omega);exact .inr ⟨nx+1,fe,by have:=h.1;omega,by omega,by rw[sH];exact hb2,.inl rfl,by rw[List.length_append,hn]⟩
theorem lE {s d e:TypeId}{r:List UInt8}{sl:Value}(hs:P.underlying s=some (.slice e))(he:P.underlying e=some (.int .u8))(hd:P.underlying d=some .string)(hq:ee P s d=true){e':TypeId}(h:BS e' nx0 H nx r sl):ck P H s d (some sl)=some (aD r):=by
 rcases h with⟨rfl,rfl⟩ | ⟨b,c,hb0,hbx,hb,hc,rfl⟩
 . exact A6 hs he hd
 . exact oE hq hb (by simp) (by rw[List.drop_zero,List.take_of_length_le (by simp)])
end
end
end Go.Ev
namespace Go.Ev
open Go.RowKit (Below)
noncomputable section
set_option maxRecDepth 100000
set_option linter.unusedVariables false
set_option linter.unusedSimpArgs false
section
def QH {β:Type}(l:List (Nat×List Value)):T OB->(T OB->β)->β:=
 @List.rec (Nat×List Value) (λ_=>T OB->(T OB->β)->β) (λH k=>k H)
  (λx _ ih H k=>eJ x.2 0 .leaf λt=>bO x.2.length λn=>dt (bits x.1) H (some (.ro n t)) λH=>ih H k) l
def lY:List (Nat×List Value)->T OB->T OB
 | [],H=>H
 | x::l,H=>lY l (set H (bits x.1) (some (.ro x.2.length (eD x.2 0 .leaf))))
theorem Eh {β:Type}:∀(l:List (Nat×List Value)) (H:T OB) (k:T OB->β),QH l H k=k (lY l H)
 | [],H,k=>rfl
 | x::l,H,k=>by
   show(eJ x.2 0 .leaf λt=>bO x.2.length λn=>dt (bits x.1) H (some (.ro n t)) λH=>QH l H k)=_;rw[dk,bm,bl];exact Eh l _ k
theorem sI:∀(l:List (Nat×List Value)) (H:T OB) (k:Nat) (ob:OB),hp (lY l H) k=some ob->(∃x∈l,x.1=k/\ob= .ro x.2.length (eD x.2 0 .leaf))\/hp H k=some ob
 | [],H,k,ob,h=> .inr h
 | x::l,H,k,ob,h=>by
   rcases sI l _ k ob h with⟨y,hy,h1,h2⟩ | h
   . exact .inl ⟨y,by simp[hy],h1,h2⟩
   . rw[bN]at h
     by_cases hk:k=x.1
     . subst hk;rw[cZ]at h;cases h;exact .inl ⟨x,by simp,rfl,rfl⟩
     . rw[bg _ hk]at h;exact .inr h
variable {P:Program}{W:World}{φ:cO}
def lF (l:List ByteArray):DataW Unit:= .agg (l.map λz=> .lit (.string z.data.toList))
theorem tH {P:Program}{w:World}{base:Nat}{sp:Nat->Bool}{held:Bool}{fuel:Nat}{t e:TypeId}{n:Nat}{cs:List Value}{l:List ByteArray}{p:List MemPlace}
 (ht:P.underlying t=some (.array n e)) (he:P.underlying e=some .string) (hce:P.cellsOf e=1) (hct:P.cellsOf t=n)
 (h:DataW.trod (λ_=>()) P w base sp held fuel t cs=some (lF l,p)):cs=l.map Value.string:=by
 cases fuel with
 | zero=>simp[DataW.trod]at h
 | succ fuel=>
   simp only[DataW.trod,ht,hce,hct,Nat.mul_one]at h;split at h
   . rename_i hl;obtain⟨xs,hm,hx⟩:=Option.map_eq_some_iff.1 h;have hxs:xs.map (·.1)=l.map λz=>(DataW.lit (.string z.data.toList):DataW Unit):=by
      have:=congrArg Prod.fst hx;simpa[lF]using this
     have hxl:xs.length=n:=by simpa using Lib.mapM_length hm
     have hzl:l.length=n:=by
      have:=congrArg List.length hxs;simp at this;omega
     apply List.ext_getElem?;intro i
     by_cases hi:i<n
     . obtain⟨b,hb,hf⟩:=Lib.mapM_at hm i i (by simp[hi]);obtain⟨z,hc,rfl,_⟩:=DataW.trod_string he hf;have h1:cs[i]? = some (.string z):=by
        have:=congrArg (·[0]?) hc;simpa[List.getElem?_take,List.getElem?_drop]using this
       have h2:(xs.map (·.1))[i]? = some (DataW.lit (.string z.data.toList):DataW Unit):=by simp[hb]
       rw[hxs]at h2;simp only[List.getElem?_map,Option.map_eq_some_iff,DataW.lit.injEq,Lit.string.injEq]at h2;obtain⟨z',hz',hz2⟩:=h2;have:z'=z:=by
        cases z;cases z';simp at hz2;simp[hz2]
       simp[h1,hz',this]
     . rw[List.getElem?_eq_none (by omega),List.getElem?_eq_none (by simp;omega)]
   . cases h
theorem kP {P:Program}{W:World}{name:String}{l:List ByteArray}{rest:List (String×DataW Unit)}{g:Nat}{t e:TypeId}{n:Nat}
 (hg:P.globalNamed name=some g) (hty:(P.globals[g]?).map (·.type)=some t) (ht:P.underlying t=some (.array n e)) (he:P.underlying e=some .string) (hce:P.cellsOf e=1) (hct:P.cellsOf t=n)
 (h:laidMet P ((name,lF l)::rest) W):∃c el fz,W.heap[g]? = some (.cells c el fz)/\c.toList=l.map Value.string:=by
 obtain⟨ps,⟨g',t',cs,fuel,p,q,hg',ht',hvar,hd,_,_⟩,_⟩:=h;obtain rfl:=Option.some.inj (hg.symm.trans hg');obtain rfl:=Option.some.inj (hty.symm.trans ht');have hcs:=tH ht he hce hct hd;unfold World.var? at hvar;rw[hg]at hvar;simp only[Option.bind_some]at hvar;split at hvar
 . rename_i c el fz hb;cases hvar;exact⟨_,_,_,hb,hcs⟩
 . cases hvar
end
end
end Go.Ev
namespace Go.Ev
noncomputable section
set_option maxRecDepth 100000
set_option linter.unusedVariables false
set_option linter.unusedSimpArgs false
section
variable {P:Program}{pl:jF}{X:Ext}{H H0 H1:T OB}{nx nx0 aE:Nat}{v u:Value}{R:Go.Ev.Out->T OB->Nat->Prop}
def pB (H:T OB)(b:Nat)(l:List Value):Prop:=∃tr,H.get (bits b)=some (.ro l.length tr)/\∀i,i<l.length->tr.get (bits i)=l[i]?
theorem pB.ag {b:Nat}{l:List Value}(h:pB H b l)(hA:Ag nx H aE H1)(hb:b<nx):pB H1 b l:=by
 obtain⟨tr,h1,h2⟩:=h;exact⟨tr,(show hp H1 b=_ from(hA.2 b hb).trans h1),h2⟩
theorem oF {b off:Nat}{l:List Value}{t:TypeId}{u:Value}(h:pB H b l)(ha:dC P t=some false)(hu:l[off]? = some u):ae P H t (some (.pointer (some ⟨b,off,none⟩)))=some u:=by
 obtain⟨tr,h1,h2⟩:=h;have hlt:=(List.getElem?_eq_some_iff.1 hu).1;show j5 P H t b off=_;unfold j5;rw[h1];show kn P l.length tr t off=_;unfold kn;rw[ha,aT];show qN l.length tr off=_;unfold qN;have e1:Nat.blt off l.length=true:=Nat.ble_eq_true_of_le hlt;rw[e1,h2 off hlt,hu];rfl
theorem kQ {t e:TypeId}{s b off len:Nat}(hu:P.underlying t=some (.array len e))(hs:bq P e=some s)(h0:0<len)(hl:len<9223372036854775808):
 bA P H t (some (.pointer (some ⟨b,off,none⟩))) (some none) (some none) (some none)=some (.slice (some ⟨b,off,none⟩) len len):=by
 show lR P t (λn s=>aa (some 0) (λl=>aa (some n) (λh=>hU b off n s l h) none) none) none=_;unfold lR;rw[hu];simp only;rw[hs,aT];show hU b off len s 0 len=_;unfold hU;rw[Nat.ble_eq_true_of_le (Nat.zero_le _),Nat.ble_eq_true_of_le (Nat.le_refl _),show Nat.blt len fe=true from Nat.ble_eq_true_of_le (by unfold fe;omega)];simp only[Bool.and_self,cond_true,bm];rw[show Nat.beq len 0=false from by rw[Bool.eq_false_iff];intro h;rw[Nat.beq_eq]at h;omega];simp
theorem dr {t:TypeId}(hu:P.underlying t=some .string){l:List UInt8}{lo hi:Nat}(h1:lo<=hi)(h2:hi<=l.length)(k k':IntKind):
 bA P H t (some (aD l)) (some (some (.int k (lo:Int)))) (some (some (.int k' (hi:Int)))) (some none)=some (aD ((l.drop lo).take (hi-lo))):=by
 show nU P t (aD l) (some (some (.int k (lo:Int)))) (some (some (.int k' (hi:Int)))) (some none)=_;show fV P (Instr.sliceAt t (aD l) (some (.int k (lo:Int))) (some (.int k' (hi:Int))) none)=_;have e0:(⟨⟨l⟩⟩:ByteArray).extract lo hi=⟨⟨(l.drop lo).take (hi-lo)⟩⟩:=by
  apply ByteArray.ext;rw[ByteArray.data_extract];apply Array.ext';simp
 have e1:b_ P (Instr.sliceAt t (aD l) (some (.int k (lo:Int))) (some (.int k' (hi:Int))) none)=some (aD ((l.drop lo).take (hi-lo))):=by
  unfold Instr.sliceAt;simp only[bx,cI hu,Option.bind_some];unfold Instr.slice;simp only[bx,cI hu,Option.bind_some];unfold Instr.sliceBounds Instr.sliceBound;simp only[bx,asIntOf,Option.isSome];have pp:∀{α:Type} (a:α),b_ P (pure a:Sem α)=some a:=λ_=>rfl;rw[if_neg (by decide)];simp only[bx,pp,Option.bind_some];have c1:(0:Int)<=(hi:Int)/\(hi:Int)<=((⟨⟨l⟩⟩:ByteArray).size:Int):=⟨by omega,by rw[aP];omega⟩;have c2:(0:Int)<=(lo:Int)/\(lo:Int)<=(((hi:Int).toNat:Nat):Int):=⟨by omega,by omega⟩;rw[if_pos c1];simp only[pp,Option.bind_some];rw[if_pos c2];simp only[pp,Option.bind_some,Int.toNat_natCast,e0]
 exact oD e1 rfl
end
end
end Go.Ev
namespace Go.Proofs.YthjhonhhbddhkaaGreatDoor
open Go.Ev Go.RowKit
noncomputable section
set_option maxRecDepth 100000
set_option linter.unusedVariables false
set_option linter.unusedSimpArgs false
set_option maxHeartbeats 8000000
section
variable {X:Ext}
abbrev i64 (n:Int):Value:= .int .i64 n
theorem aG {i:Nat}(h:i<9223372036854775807):IntKind.i64.wrap ((i:Int)+1)=((i+1:Nat):Int):=by rw[bk (by omega)];omega
theorem Wq.each {nx0:Nat}{H0:T OB}{α σ:Type}(l:List α)(q:Nat->σ->T OB->Nat->Q)(R:List α->σ->Value)(hend:∀s H1 aE,Ag nx0 H0 aE H1->Wq P pl X (q l.length s H1 aE) nx0 H0 (R [] s))
 (hstep:∀i a t s H1 aE,l[i]? = some a->i<l.length->l.drop (i+1)=t->Ag nx0 H0 aE H1->(∀s H2 nx2,Ag nx0 H0 nx2 H2->Wq P pl X (q (i+1) s H2 nx2) nx0 H0 (R t s))->Wq P pl X (q i s H1 aE) nx0 H0 (R (a::t) s))
 (s:σ) (H1:T OB) (aE:Nat) (hA:Ag nx0 H0 aE H1):Wq P pl X (q 0 s H1 aE) nx0 H0 (R l s):=by
 have h:=Wq.up l.length q (λi s=>R (l.drop i) s) (λs H1 aE h=>by simpa using hend s H1 aE h)
  (λi s H1 aE hi ih hA=>by
   have:=hstep i l[i] _ s H1 aE (List.getElem?_eq_getElem hi) hi rfl hA ih;simp only[List.drop_eq_getElem_cons hi];exact this) 0 s H1 aE (Nat.zero_le _) hA
 simpa using h
theorem aR {α:Type}(l:List α):decide ((l.length:Int)<(l.length:Int))=false:=by simp
theorem aU {α:Type}{l:List α}{i:Nat}(h:i<l.length):decide ((i:Int)<(l.length:Int))=true:=by simp[h]
abbrev w (n:Int):Int:=IntKind.i64.wrap n
theorem Wq.e7 {nx0:Nat}{H0:T OB}{nx:Nat}{H:T OB}{u v:Value}(e:u=v)(h:Ag nx0 H0 nx H):Wq P pl X (.ret ⟨.ret u,false,H,nx⟩) nx0 H0 v:=by subst e;exact Wq.ret h
theorem Wq.jmp {nx0:Nat}{H0:T OB}{R:Go.Ev.Out->T OB->Nat->Prop}{q:bz}{t:Q}(e:aQ P pl q=t)(hq:∀k,nX X q k=k)(h:aO P pl X t nx0 H0 R):aO P pl X (.jump q) nx0 H0 R:=Wq.jump hq (by rw[e];exact h)
theorem Wq.put {nx0:Nat}{H0:T OB}{nx:Nat}{H:T OB}{R:Go.Ev.Out->T OB->Nat->Prop}{b off:Nat}{l l':List Value}{e t:TypeId}{u:Value}{k:Value->T OB->Nat->Q}(hb:cR H b l e)(hs:bq P t=some 1)(hc:u.cells.toList=[u])(ho:aA u=true)
 (hn:off<l.length) (hl:l.set off u=l') (h:Ag nx0 H0 nx H) (hbn:nx0<=b) (hk:∀H',cR H' b l' e->(∀c l e,c≠b->cR H c l e->cR H' c l e)->Ag nx0 H0 nx H'->aO P pl X (k undef H' nx) nx0 H0 R):
 aO P pl X (ao (ah P H nx t (some (.pointer (some ⟨b,off,none⟩))) (some u)) k) nx0 H0 R:=by
 refine Wq.store hb hs (by omega) (by rw[hc];rfl) (by rw[hc];simp[ho]) h hbn λH' hb' hh hA'=>hk H' ?_ hh hA';rw[hc]at hb';have e1:ij l [u] off=l':=by
  rw[<- hl,List.set_eq_take_append_cons_drop,if_pos hn];unfold ij;simp
 rw[e1]at hb';exact hb'
theorem Wq.eQ {nx0:Nat}{H0:T OB}{nx:Nat}{H:T OB}{R:Go.Ev.Out->T OB->Nat->Prop}{f:FuncId}{args:List Value}{u:Value}{k p:Value->T OB->Nat->Q}(hp:Pure P pl X f args u)(h:Ag nx0 H0 nx H)
 (hk:∀H' nx',Ag nx0 H0 nx' H'->nx<=nx'->(∀b l e,b<nx->cR H b l e->cR H' b l e)->aO P pl X (k u H' nx') nx0 H0 R):aO P pl X (aj (.call f args false none H nx) k p) nx0 H0 R:=by
 obtain⟨H1,aE,h1,h2⟩:=hp H nx;obtain⟨v,H2,nx2,h3,hR,h4⟩:=hk H1 aE (h.trans h1) h1.1 (λb l e hb h=>h.ag h1 hb);refine⟨v,H2,nx2,h3,hR,?_⟩;show aa (F P pl X (.call f args false none H nx)) (λr=>(match r.o with | .ret v=>k v r.H r.nx | .gj v=>p v r.H r.nx:Q).run (F P pl X)) none=_;rw[h2];exact h4
end
theorem aV:P.underlying 9=some .string:=by kernel_rfl
abbrev b8 (c:UInt8):Value:= .int .u8 (c.toNat:Int)
theorem drop_cons {α:Type}{l t:List α}{a:α}{i:Nat}(h:l.drop i=a::t):l[i]? = some a/\i<l.length/\l.drop (i+1)=t:=by
 have hi:i<l.length:=by
  apply Classical.byContradiction;intro q;rw[List.drop_of_length_le (by omega)]at h;cases h
 rw[List.drop_eq_getElem_cons hi]at h;injection h with h1 h2
 exact⟨by rw[List.getElem?_eq_getElem hi,h1],hi,h2⟩
theorem drop_nil {α:Type}{l:List α}{i:Nat}(h:l.drop i=[])(hi:i<=l.length):i=l.length:=by
 have:=congrArg List.length h;simp at this;omega
def cb (c:UInt8):Bool:=decide (97<=c.toNat)&&decide (c.toNat<=122)
def bS (c:UInt8):Bool:=decide (65<=c.toNat)&&decide (c.toNat<=90)
def bH (c:UInt8):Bool:=decide (48<=c.toNat)&&decide (c.toNat<=57)
def gN (c:UInt8):Bool:=cb c||(bS c||(bH c||(decide (c.toNat=95)||decide (c.toNat=39))))
def f_:List (List UInt8):=[[97,110,100],[97,110,100,97,108,115,111],[99,97,115,101],[100,97,116,97,116,121,112,101],[100,105,118],[101,108,115,101],[101,110,100],[101,120,99,101,112,116,105,111,110],[102,110],[102,117,110],[104,97,110,100,108,101],[105,102],[105,110],[105,116,111,115],[108,101,116],[109,111,100],[110,111,116],[111,102],[111,114,100],[111,114,101,108,115,101],[114,97,105,115,101],[114,101,102],[115,105,122,101],[115,116,114],[116,104,101,110],[118,97,108]]
def bu:List (List UInt8):=[[45,62],[61,62],[58,58],[58,61],[60,61],[62,61],[60,62],[61],[60],[62],[43],[45],[42],[94],[33],[126],[40],[41],[44],[59],[124],[95]]
def eA:List (List UInt8):=[[126],[33],[110,111,116],[114,101,102],[115,105,122,101],[115,116,114],[111,114,100],[105,116,111,115]]
def g9:List UInt8->Bool
 | []=>false
 | c::_=>bS c
def eR (s:List UInt8):Int:=if(g9 s||(decide (s=[116,114,117,101])||(decide (s=[102,97,108,115,101])||decide (s=[110,105,108]))))=true then 4 else if f_.contains s=true then 6 else 3
def isWord:List UInt8->Bool
 | []=>false
 | c::r=>(cb c||bS c)&&r.all gN
def isVar:List UInt8->Bool
 | a::b::r=>decide (a.toNat=39)&&(cb b&&r.all λc=> !decide (c.toNat=39)&&gN c)
 | _=>false
structure Tok where
 k:Int
 s:List UInt8
 n:Int
 at_:Int
abbrev Tok.c (t:Tok):List Value:=[i64 t.k,aD t.s,i64 t.n,i64 t.at_]
abbrev Tok.v (t:Tok):Value:= .agg ⟨t.c⟩
def fp (t:Tok):Bool:=
 if t.k=0 then decide (t.s=[])&&decide (t.n=0)
 else if t.k=1 then decide (t.s=[])&&(decide (0<=t.n)&&decide (t.n<=4611686018427387903))
 else if t.k=2 then decide (t.n=0)
 else if t.k=7 then decide (t.n=0)&&bu.contains t.s
 else if t.k=5 then isVar t.s&&decide (t.n=0)
 else if t.k=3\/t.k=4\/t.k=6 then isWord t.s&&(decide (t.n=0)&&decide (eR t.s=t.k))
 else false
def bE:List (List (List UInt8)):=[[[111,114,101,108,115,101]],[[97,110,100,97,108,115,111]],[[58,61]],[[61],[60,62],[60],[60,61],[62],[62,61]],[[58,58]],[[43],[45],[94]],[[42],[100,105,118],[109,111,100]]]
abbrev lvl (l:List (List UInt8)):Value:=bn 1 (l.map aD)
def gY:List (Nat×List Value):=[(0,bu.map aD),(1,f_.map aD),(2,bE.map lvl),(3,eA.map aD)]
def eG (nx0:Nat)(H0:T OB):Prop:=4<=nx0/\∀x∈gY,pB H0 x.1 x.2
theorem eG.ag {nx0 nx:Nat}{H0 H:T OB}(h:eG nx0 H0)(hA:Ag nx0 H0 nx H):eG nx H:=⟨by have:=h.1;have:=hA.1;omega,λx hx=>(h.2 x hx).ag hA (by
 have h7:=h.1;simp only[gY,List.mem_cons,List.not_mem_nil,or_false]at hx;rcases hx with rfl | rfl | rfl | rfl<;>(show _<nx0;omega))⟩
theorem eG.Om {nx0:Nat}{H0:T OB}(h:eG nx0 H0):pB H0 0 (bu.map aD):=h.2 (0,bu.map aD) (by simp[gY])
theorem eG.keys {nx0:Nat}{H0:T OB}(h:eG nx0 H0):pB H0 1 (f_.map aD):=h.2 (1,f_.map aD) (by simp[gY])
theorem eG.levels {nx0:Nat}{H0:T OB}(h:eG nx0 H0):pB H0 2 (bE.map lvl):=h.2 (2,bE.map lvl) (by simp[gY])
theorem eG.words {nx0:Nat}{H0:T OB}(h:eG nx0 H0):pB H0 3 (eA.map aD):=h.2 (3,eA.map aD) (by simp[gY])
abbrev X0:Ext:=λf args=>bif Nat.beq f 11 then(match args with | []=>some (.bool true) | _=>none)else none
abbrev P0 (f:FuncId)(args:List Value)(v:Value):Prop:=Pure P pl X0 f args v
theorem zE (c:UInt8):P0 55 [b8 c] (.bool (cb c)):=Pure.of rfl λH nx=>by
 rw[YE];simp only[af];unfold cb;refine Wq.ite (λh=> ?_) (λh=> ?_)
 . refine Wq.e7 ?_ (.refl _ _);rw[show decide (97<=c.toNat)=true from by simp;omega,Bool.true_and];congr 1;rw[decide_eq_decide];omega
 . refine Wq.e7 ?_ (.refl _ _);rw[show decide (97<=c.toNat)=false from by simp;omega];rfl
theorem Ei (c:UInt8):P0 57 [b8 c] (.bool (bS c)):=Pure.of rfl λH nx=>by
 rw[YG];simp only[af];unfold bS;refine Wq.ite (λh=> ?_) (λh=> ?_)
 . refine Wq.e7 ?_ (.refl _ _);rw[show decide (65<=c.toNat)=true from by simp;omega,Bool.true_and];congr 1;rw[decide_eq_decide];omega
 . refine Wq.e7 ?_ (.refl _ _);rw[show decide (65<=c.toNat)=false from by simp;omega];rfl
theorem Ej (c:UInt8):P0 99 [b8 c] (.bool (bH c)):=Pure.of rfl λH nx=>by
 rw[Y4];simp only[af];unfold bH;refine Wq.ite (λh=> ?_) (λh=> ?_)
 . refine Wq.e7 ?_ (.refl _ _);rw[show decide (48<=c.toNat)=true from by simp;omega,Bool.true_and];congr 1;rw[decide_eq_decide];omega
 . refine Wq.e7 ?_ (.refl _ _);rw[show decide (48<=c.toNat)=false from by simp;omega];rfl
theorem Ek (c:UInt8):P0 56 [b8 c] (.bool (gN c)):=Pure.of rfl λH nx=>by
 rw[YF];unfold gN;refine Wq.call (zE c) (.refl _ _) λH1 aE hA1=> ?_;simp only[af];cases cb c with
 | true=>exact Wq.ret hA1
 | false=>
   simp only[af,Bool.false_or];refine Wq.call (Ei c) hA1 λH2 nx2 hA2=> ?_;simp only[af];cases bS c with
   | true=>exact Wq.ret hA2
   | false=>
     simp only[af,Bool.false_or];refine Wq.call (Ej c) hA2 λH3 nx3 hA3=> ?_;simp only[af];cases bH c with
     | true=>exact Wq.ret hA3
     | false=>
       simp only[af,Bool.false_or];refine Wq.ite (λh=> ?_) (λh=> ?_)
       . refine Wq.e7 ?_ hA3;rw[show decide (c.toNat=95)=true from by simp;omega];rfl
       . refine Wq.e7 ?_ hA3;rw[show decide (c.toNat=95)=false from by simp;omega,Bool.false_or];congr 1;rw[decide_eq_decide];omega
theorem ID {nx0:Nat}{H0:T OB}(b:Nat)(l:List (List UInt8))(s:List UInt8)(hb:pB H0 b (l.map aD))(hbx:b<nx0)(hl:l.length<1000000)(cp:Nat):∀(r:List (List UInt8)) (i:Nat) (H:T OB) (nx:Nat),l.drop i=r->i<=l.length->Ag nx0 H0 nx H->
 Wq P pl X0 (.jump (DP (aD s) (.slice (some ⟨b,0,none⟩) l.length cp) (i64 (l.length:Int)) (i64 (i:Int)) H nx)) nx0 H0 (.bool (r.contains s)):=by
 intro r
 induction r with
 | nil=>
   intro i H nx hd hi hA;have hil:=drop_nil hd hi;refine Wq.jmp (Od ..) (λ_=>rfl) ?_;simp only[af,hil,aR];exact Wq.ret hA
 | cons x r ih=>
   intro i H nx hd hi hA;obtain⟨hg,hlt,hd'⟩:=drop_cons hd;have hg':(l.map aD)[0+i*1]? = some (aD x):=by simp[hg]
   refine Wq.jmp (Od ..) (λ_=>rfl) ?_;simp only[af,aU hlt,Ht hlt,oF (hb.ag hA hbx) lX hg',aG (show i<9223372036854775807 by omega)];refine Wq.ite (λh=> ?_) (λh=> ?_)
   . exact Wq.e7 (by have:x=s:=by simpa using h
                     subst this;simp) hA
   . have hne:x≠s:=λq=>h (by rw[q]);have:((x::r).contains s)=r.contains s:=by rw[List.contains_cons,show(s == x)=false from by simp;exact λq=>hne q.symm,Bool.false_or]
     rw[this];exact ih (i+1) H nx hd' (by omega) hA
def PT (f:FuncId)(args:List Value)(v:Value):Prop:=∀H nx,eG nx H->∃H' nx',Ag nx H nx' H'/\F P pl X0 (.call f args false none H nx)=some ⟨.ret v,false,H',nx'⟩
theorem PT.of {f:FuncId}{args:List Value}{v:Value}(hx:X0 f args=none)(h:∀H nx,eG nx H->Wq P pl X0 (aQ P pl (.call f args false none H nx)) nx H v):PT f args v:=λH nx hT=>by
 obtain⟨_,H',nx',h1,⟨_,rfl,rfl⟩,h2⟩:=h H nx hT;refine⟨H',nx',h1,?_⟩;rw[ov];show @Option.rec Value (λ_=>Option Rt) _ (λv=>some ⟨.ret v,false,H,nx⟩) (X0 f args)=_;rw[hx];exact h2
theorem Wq.sJ {nx0:Nat}{H0:T OB}{nx:Nat}{H:T OB}{R:Go.Ev.Out->T OB->Nat->Prop}{f:FuncId}{args:List Value}{u:Value}{k p:Value->T OB->Nat->Q}(hT:eG nx0 H0)(hp:PT f args u)(h:Ag nx0 H0 nx H)
 (hk:∀H' nx',Ag nx0 H0 nx' H'->aO P pl X0 (k u H' nx') nx0 H0 R):aO P pl X0 (aj (.call f args false none H nx) k p) nx0 H0 R:=by
 obtain⟨H1,aE,h1,h2⟩:=hp H nx (hT.ag h);obtain⟨v,H2,nx2,h3,hR,h4⟩:=hk H1 aE (h.trans h1);refine⟨v,H2,nx2,h3,hR,?_⟩;show aa (F P pl X0 (.call f args false none H nx)) (λr=>(match r.o with | .ret v=>k v r.H r.nx | .gj v=>p v r.H r.nx:Q).run (F P pl X0)) none=_;rw[h2];exact h4
theorem TW (H:T OB):bA P H 99 (some (.pointer (some ⟨0,0,none⟩))) (some none) (some none) (some none)=some (.slice (some ⟨0,0,none⟩) 22 22):=kQ (len:=22) (e:=9) (by kernel_rfl) gT (by omega) (by omega)
theorem QI (H:T OB):bA P H 144 (some (.pointer (some ⟨1,0,none⟩))) (some none) (some none) (some none)=some (.slice (some ⟨1,0,none⟩) 26 26):=kQ (len:=26) (e:=9) (by kernel_rfl) gT (by omega) (by omega)
theorem F5 {nx0:Nat}{H0:T OB}{nx:Nat}{H:T OB}(hT:eG nx0 H0)(s:List UInt8)(hA:Ag nx0 H0 nx H):Wq P pl X0 (aQ P pl (.call 54 [.slice (some ⟨1,0,none⟩) 26 26,aD s] false none H nx)) nx0 H0 (.bool (f_.contains s)):=by
 rw[XZ];simp only[af];exact ID 1 f_ s hT.keys (by have:=hT.1;omega) (by decide) 26 f_ 0 H nx rfl (Nat.zero_le _) hA
theorem A7 {nx0:Nat}{H0:T OB}{nx:Nat}{H:T OB}(hT:eG nx0 H0)(s:List UInt8)(hA:Ag nx0 H0 nx H):Wq P pl X0 (aQ P pl (.call 54 [.slice (some ⟨0,0,none⟩) 22 22,aD s] false none H nx)) nx0 H0 (.bool (bu.contains s)):=by
 rw[XZ];simp only[af];exact ID 0 bu s hT.Om (by have:=hT.1;omega) (by decide) 22 bu 0 H nx rfl (Nat.zero_le _) hA
theorem On (c:UInt8)(r:List UInt8):PT 58 [aD (c::r)] (i64 (eR (c::r))):=PT.of rfl λH nx hT=>by
 rw[YH];have hix:=a9 (P:=P) aV (l:=c::r) (i:=0) (c:=c) rfl .i64;rw[show((0:Nat):Int)=0 from rfl]at hix;have L6:∀(b:Bool) H1 aE,Ag nx H aE H1->b=(g9 (c::r)||(decide (c::r=[116,114,117,101])||(decide (c::r=[102,97,108,115,101])||decide (c::r=[110,105,108]))))->Wq P pl X0 (.jump (uF (aD (c::r)) b H1 aE)) nx H (i64 (eR (c::r))):=by
  intro b H1 aE hA1 hb;refine Wq.jmp (TO ..) (λ_=>rfl) ?_;unfold eR;rw[<- hb];refine Wq.bK (λh=> ?_) (λh=> ?_)
  . rw[if_pos h];exact Wq.ret hA1
  . rw[if_neg (by rw[h];decide)];simp only[af,QI];refine Wq.Hi rfl (F5 hT _ hA1) λH2 nx2 hA2=> ?_;simp only[af];refine Wq.bK (λh2=> ?_) (λh2=> ?_)
    . rw[if_pos h2];exact Wq.ret hA2
    . rw[if_neg (by rw[h2];decide)];exact Wq.ret hA2
 have hb:∀l:List UInt8,decide ((⟨⟨c::r⟩⟩:ByteArray)=⟨⟨l⟩⟩)=decide (c::r=l):=λl=>by rw[decide_eq_decide];simp
 simp only[af,hix];refine Wq.call (Ei c) (.refl _ _) λH1 aE hA1=> ?_;simp only[af,hb];refine Wq.bK (λh=>L6 _ _ _ hA1 (by show true=(bS c||_);rw[h];rfl)) (λh0=> ?_);refine Wq.bK (λh=>L6 _ _ _ hA1 (by show true=(bS c||_);rw[h0,h];rfl)) (λh1=> ?_);refine Wq.bK (λh=>L6 _ _ _ hA1 (by show true=(bS c||_);rw[h0,h1,h];rfl)) (λh2=> ?_);exact L6 _ _ _ hA1 (by show _=(bS c||_);rw[h0,h1,h2];rfl)
section
variable {nx0:Nat}{H0:T OB}
theorem LM (t:Tok)(hl:t.s.length<9223372036854775807):∀(r:List UInt8) (i:Nat) (H:T OB) (nx:Nat),t.s.drop i=r->i<=t.s.length->Ag nx0 H0 nx H->
 Wq P pl X0 (.jump (vP (ak t.v) (i64 (i:Int)) H nx)) nx0 H0 (.bool ((r.all λc=> !decide (c.toNat=39)&&gN c)&&decide (t.n=0))):=by
 intro r
 induction r with
 | nil=>
   intro i H nx hd hi hA;have hil:=drop_nil hd hi;refine Wq.jmp (HQ ..) (λ_=>rfl) ?_;simp only[af,aK _ aV,aP,hil,aR];exact Wq.ret hA
 | cons c r ih=>
   intro i H nx hd hi hA;obtain⟨hg,hlt,hd'⟩:=drop_cons hd;have L36:∀(b:Bool) H1 aE,Ag nx0 H0 aE H1->b= !(!decide (c.toNat=39)&&gN c)->Wq P pl X0 (.jump (vQ (ak t.v) (i64 (i:Int)) b H1 aE)) nx0 H0 (.bool (((c::r).all λc=> !decide (c.toNat=39)&&gN c)&&decide (t.n=0))):=by
    intro b H1 aE hA1 hb;refine Wq.jmp (P3 ..) (λ_=>rfl) ?_;rw[List.all_cons];refine Wq.bK (λh=> ?_) (λh=> ?_)
    . rw[h]at hb;have:(!decide (c.toNat=39)&&gN c)=false:=by rw[<- Bool.not_inj_iff,<- hb];rfl
      exact Wq.e7 (by rw[this];rfl) hA1
    . rw[h]at hb;have:(!decide (c.toNat=39)&&gN c)=true:=by rw[<- Bool.not_inj_iff,<- hb];rfl
      rw[this,Bool.true_and];simp only[af,aG (show i<9223372036854775807 by omega)];exact ih (i+1) H1 aE hd' (by omega) hA1
   refine Wq.jmp (HQ ..) (λ_=>rfl) ?_;simp only[af,aK _ aV,aP,aU hlt,a9 aV hg];have e39:decide ((c.toNat:Int)=39)=decide (c.toNat=39):=by rw[decide_eq_decide];omega
   rw[e39];refine Wq.bK (λh=>L36 _ _ _ hA (by rw[h];rfl)) (λh=> ?_);refine Wq.call (Ek c) hA λH1 aE hA1=> ?_;simp only[af];exact L36 _ _ _ hA1 (by rw[h];rfl)
theorem LN (hT:eG nx0 H0)(t:Tok)(a:UInt8)(s:List UInt8)(hs:t.s=a::s)(hl:t.s.length<9223372036854775807):∀(r:List UInt8) (i:Nat) (H:T OB) (nx:Nat),t.s.drop i=r->i<=t.s.length->Ag nx0 H0 nx H->
 Wq P pl X0 (.jump (vR (ak t.v) (i64 (i:Int)) H nx)) nx0 H0 (.bool (r.all gN&&(decide (t.n=0)&&decide (eR t.s=t.k)))):=by
 intro r
 induction r with
 | nil=>
   intro i H nx hd hi hA;have hil:=drop_nil hd hi;refine Wq.jmp (HT ..) (λ_=>rfl) ?_;simp only[af,aK _ aV,aP,hil,aR];rw[List.all_nil,Bool.true_and];have p98:=On a s;rw[<- hs]at p98;refine Wq.bK (λh=> ?_) (λh=> ?_)
   . rw[h,Bool.true_and];refine Wq.sJ hT p98 hA λH1 aE hA1=> ?_;simp only[af,Bool.and_true];exact Wq.ret hA1
   . rw[h,Bool.false_and];exact Wq.ret hA
 | cons c r ih=>
   intro i H nx hd hi hA;obtain⟨hg,hlt,hd'⟩:=drop_cons hd;refine Wq.jmp (HT ..) (λ_=>rfl) ?_;simp only[af,aK _ aV,aP,aU hlt,a9 aV hg];refine Wq.call (Ek c) hA λH1 aE hA1=> ?_;simp only[af];rw[List.all_cons];cases gN c with
   | false=>exact Wq.ret hA1
   | true=>
     simp only[af,aG (show i<9223372036854775807 by omega),Bool.true_and];exact ih (i+1) H1 aE hd' (by omega) hA1
theorem TX (t:Tok)(hl:t.s.length<9223372036854775807):PT 33 [t.v] (.bool (fp t)):=PT.of rfl λH nx hT=>by
 rw[Yq];refine Wq.fH (.refl _ _) λhA=> ?_;have hE:decide ((⟨⟨t.s⟩⟩:ByteArray)=⟨⟨[]⟩⟩)=decide (t.s=[]):=by rw[decide_eq_decide];simp
 simp only[af,hE];unfold fp;refine Wq.ite (λh=> ?_) (λh0=> ?_)
 . rw[if_pos h];refine Wq.bK (λh=> ?_) (λh=> ?_)
   . rw[h,Bool.true_and];exact Wq.ret hA
   . rw[h,Bool.false_and];exact Wq.ret hA
 rw[if_neg h0];refine Wq.ite (λh=> ?_) (λh1=> ?_)
 . rw[if_pos h];refine Wq.bK (λh=> ?_) (λh=> ?_)
   . rw[h,Bool.true_and];refine Wq.bK (λh=> ?_) (λh=> ?_)
     . rw[h,Bool.true_and];exact Wq.ret hA
     . rw[h,Bool.false_and];exact Wq.ret hA
   . rw[h,Bool.false_and];exact Wq.ret hA
 rw[if_neg h1];refine Wq.ite (λh=> ?_) (λh2=> ?_)
 . rw[if_pos h];exact Wq.ret hA
 rw[if_neg h2];refine Wq.ite (λh=> ?_) (λh7=> ?_)
 . rw[if_pos h];refine Wq.bK (λh=> ?_) (λh=> ?_)
   . rw[h,Bool.true_and];simp only[af,TW];refine Wq.Hi rfl (A7 hT _ hA) λH2 nx2 hA2=> ?_;simp only[af];exact Wq.ret hA2
   . rw[h,Bool.false_and];exact Wq.ret hA
 rw[if_neg h7];refine Wq.ite (λh=> ?_) (λh5=> ?_)
 . rw[if_pos h];have L26:∀(b:Bool) H1 aE,Ag nx H aE H1->(b=true->isVar t.s=false)->(b=false->∃c d r,t.s=c::d::r/\isVar t.s=r.all λc=> !decide (c.toNat=39)&&gN c)->Wq P pl X0 (.jump (sr (ak t.v) b H1 aE)) nx H (.bool (isVar t.s&&decide (t.n=0))):=by
    intro b H1 aE hA1 hb1 hb2;refine Wq.jmp (P2 ..) (λ_=>rfl) ?_;refine Wq.bK (λh=> ?_) (λh=> ?_)
    . rw[hb1 h];exact Wq.ret hA1
    . obtain⟨c,d,r,hs,hv⟩:=hb2 h;rw[hv];exact LM t hl r 2 H1 aE (by rw[hs];rfl) (by rw[hs];simp) hA1
   simp only[af,aK _ aV,aP];refine Wq.ite (λhl2=>L26 _ _ _ hA (λ_=> ?_) (λq=>by cases q)) (λhl2=> ?_)
   . match hs:t.s with
     | []=>rfl
     | [a]=>rfl
     | a::b::r=>rw[hs]at hl2;simp at hl2;omega
   obtain⟨a,b,r,hs⟩:∃a b r,t.s=a::b::r:=by
    match hs:t.s with
    | []=>rw[hs]at hl2;simp at hl2
    | [a]=>rw[hs]at hl2;simp at hl2
    | a::b::r=>exact⟨a,b,r,rfl⟩
   have i0:=a9 (P:=P) aV (l:=t.s) (i:=0) (c:=a) (by rw[hs];rfl) .i64;have i1:=a9 (P:=P) aV (l:=t.s) (i:=1) (c:=b) (by rw[hs];rfl) .i64;rw[show((0:Nat):Int)=0 from rfl]at i0;rw[show((1:Nat):Int)=1 from rfl]at i1;have hv:isVar t.s=(decide (a.toNat=39)&&(cb b&&r.all λc=> !decide (c.toNat=39)&&gN c)):=by rw[hs];rfl
   have e39:decide ((a.toNat:Int)=39)=decide (a.toNat=39):=by rw[decide_eq_decide];omega
   simp only[af,i0,i1,e39];refine Wq.bK (λh=>L26 _ _ _ hA (λ_=> ?_) (λq=>by cases q)) (λh=> ?_)
   . rw[hv,show decide (a.toNat=39)=false from by rw[<- Bool.not_inj_iff,h];rfl];rfl
   have ha:decide (a.toNat=39)=true:=by rw[<- Bool.not_inj_iff,h];rfl
   refine Wq.call (zE b) hA λH1 aE hA1=> ?_;simp only[af];refine L26 _ _ _ hA1 (λq=> ?_) (λq=>⟨a,b,r,hs,?_⟩)
   . rw[hv,show cb b=false from by rw[<- Bool.not_inj_iff,q];rfl];simp
   . rw[hv,ha,show cb b=true from by rw[<- Bool.not_inj_iff,q];rfl];rfl
 rw[if_neg h5];have L46:Wq P pl X0 (.jump (ss (ak t.v) true H (nx+1))) nx H (.bool (isWord t.s&&(decide (t.n=0)&&decide (eR t.s=t.k)))):=by
  refine Wq.jmp (HP ..) (λ_=>rfl) ?_;cases hs:t.s with
  | nil=>
    have e1:decide ((⟨⟨t.s⟩⟩:ByteArray)=⟨⟨[]⟩⟩)=true:=by rw[hs];simp
    simp only[af,e1];refine Wq.jmp (HS ..) (λ_=>rfl) ?_;exact Wq.ret hA
  | cons a r=>
    rw[<- hs];have i0:=a9 (P:=P) aV (l:=a::r) (i:=0) (c:=a) rfl .i64;rw[show((0:Nat):Int)=0 from rfl]at i0;have hne:decide ((⟨⟨a::r⟩⟩:ByteArray)=⟨⟨[]⟩⟩)=false:=by simp
    have hw:isWord t.s=((cb a||bS a)&&r.all gN):=by rw[hs];rfl
    have L48:∀(b:Bool) H1 aE,Ag nx H aE H1->b= !(cb a||bS a)->Wq P pl X0 (.jump (su (ak t.v) b H1 aE)) nx H (.bool (isWord t.s&&(decide (t.n=0)&&decide (eR t.s=t.k)))):=by
     intro b H1 aE hA1 hb;refine Wq.jmp (HS ..) (λ_=>rfl) ?_;rw[hw];refine Wq.bK (λh=> ?_) (λh=> ?_)
     . have:(cb a||bS a)=false:=by rw[<- Bool.not_inj_iff,<- hb,h];rfl
       exact Wq.e7 (by rw[this];rfl) hA1
     . have h1:(cb a||bS a)=true:=by rw[<- Bool.not_inj_iff,<- hb,h];rfl
       rw[h1,Bool.true_and];exact LN hT t a r hs hl r 1 H1 aE (by rw[hs];rfl) (by rw[hs];simp) hA1
    have e0:aL P 9 (some (aD t.s)) (some (.int .i64 0))=some (.int .u8 (a.toNat:Int)):=by rw[hs];exact i0
    have e1:decide ((⟨⟨t.s⟩⟩:ByteArray)=⟨⟨[]⟩⟩)=false:=by rw[hs];exact hne
    simp only[af,e0,e1];refine Wq.call (zE a) hA λH1 aE hA1=> ?_;simp only[af];cases kC:cb a with
    | true=>
      simp only[af];exact L48 false _ _ hA1 (by rw[kC];rfl)
    | false=>
      simp only[af];refine Wq.call (Ei a) hA1 λH2 nx2 hA2=> ?_;simp only[af];exact L48 (!bS a) _ _ hA2 (by rw[kC];rfl)
 refine Wq.ite (λh3=> ?_) (λh3=> ?_)
 . rw[if_pos (Or.inl h3),show decide (t.k=3)=true from by simp[h3]];exact L46
 refine Wq.ite (λh4=> ?_) (λh4=> ?_)
 . rw[if_pos (Or.inr (Or.inl h4)),show decide (t.k=4)=true from by simp[h4]];exact L46
 by_cases h6:t.k=6
 . rw[if_pos (Or.inr (Or.inr h6)),show decide (t.k=6)=true from by simp[h6]];exact L46
 . rw[if_neg (by omega),show decide (t.k=6)=false from by simp[h6]];refine Wq.jmp (HP ..) (λ_=>rfl) ?_;exact Wq.ret hA
end
inductive bh where
 | mk (k n:Int) (s:List UInt8) (l:List bh)
inductive bo where
 | mk (k:Int) (s:List UInt8) (l:List bo)
structure da where
 s:List UInt8
 arg:List bo
structure Data where
 vars:List (List UInt8)
 s:List UInt8
 cons:List da
mutual
inductive aH where
 | mk (k n:Int) (s:List UInt8) (l:List aH) (p:List bh) (d:List a_)
inductive a_ where
 | mk (k:Int) (p:bh) (e:aH) (f:List Fn) (x:Data) (c:da)
inductive Fn where
 | mk (s:List UInt8) (p:List bh) (b:aH)
end
def bh.k:bh->Int | .mk k _ _ _=>k
def bh.n:bh->Int | .mk _ n _ _=>n
def bh.s:bh->List UInt8 | .mk _ _ s _=>s
def bh.l:bh->List bh | .mk _ _ _ l=>l
def bo.k:bo->Int | .mk k _ _=>k
def bo.s:bo->List UInt8 | .mk _ s _=>s
def bo.l:bo->List bo | .mk _ _ l=>l
def aH.k:aH->Int | .mk k _ _ _ _ _=>k
def aH.n:aH->Int | .mk _ n _ _ _ _=>n
def aH.s:aH->List UInt8 | .mk _ _ s _ _ _=>s
def aH.l:aH->List aH | .mk _ _ _ l _ _=>l
def aH.p:aH->List bh | .mk _ _ _ _ p _=>p
def aH.d:aH->List a_ | .mk _ _ _ _ _ d=>d
def a_.k:a_->Int | .mk k _ _ _ _ _=>k
def a_.p:a_->bh | .mk _ p _ _ _ _=>p
def a_.e:a_->aH | .mk _ _ e _ _ _=>e
def a_.f:a_->List Fn | .mk _ _ _ f _ _=>f
def a_.x:a_->Data | .mk _ _ _ _ x _=>x
def a_.c:a_->da | .mk _ _ _ _ _ c=>c
def Fn.s:Fn->List UInt8 | .mk s _ _=>s
def Fn.p:Fn->List bh | .mk _ p _=>p
def Fn.b:Fn->aH | .mk _ _ b=>b
mutual
def bh.cs:bh->List Value
 | .mk k n s l=>[i64 k,i64 n,aD s,bn 4 (zF l)]
def zF:List bh->List Value
 | []=>[]
 | p::l=> .agg ⟨p.cs⟩::zF l
end
mutual
def bo.cs:bo->List Value
 | .mk k s l=>[i64 k,aD s,bn 3 (IE l)]
def IE:List bo->List Value
 | []=>[]
 | p::l=> .agg ⟨p.cs⟩::IE l
end
def bh.v (p:bh):Value:= .agg ⟨p.cs⟩
def bo.v (p:bo):Value:= .agg ⟨p.cs⟩
abbrev cD (l:List bh):Value:=bn 4 (l.map bh.v)
abbrev fx (l:List bo):Value:=bn 3 (l.map bo.v)
abbrev gk (l:List (List UInt8)):Value:=bn 1 (l.map aD)
def da.cs (c:da):List Value:=[aD c.s,fx c.arg]
def da.v (c:da):Value:= .agg ⟨c.cs⟩
abbrev j_ (l:List da):Value:=bn 2 (l.map da.v)
def Data.cs (x:Data):List Value:=[gk x.vars,aD x.s,j_ x.cons]
def Data.v (x:Data):Value:= .agg ⟨x.cs⟩
mutual
def aH.cs:aH->List Value
 | .mk k n s l p d=>[i64 k,i64 n,aD s,bn 6 (zG l),cD p,bn 17 (zH d)]
def a_.cs:a_->List Value
 | .mk k p e f x c=>i64 k::(p.cs++(e.cs++(bn 8 (IF f)::(x.cs++c.cs))))
def Fn.cs:Fn->List Value
 | .mk s p b=>aD s::cD p::b.cs
def zG:List aH->List Value
 | []=>[]
 | p::l=> .agg ⟨p.cs⟩::zG l
def zH:List a_->List Value
 | []=>[]
 | p::l=> .agg ⟨p.cs⟩::zH l
def IF:List Fn->List Value
 | []=>[]
 | p::l=> .agg ⟨p.cs⟩::IF l
end
def aH.v (p:aH):Value:= .agg ⟨p.cs⟩
def a_.v (p:a_):Value:= .agg ⟨p.cs⟩
def Fn.v (p:Fn):Value:= .agg ⟨p.cs⟩
abbrev gm (l:List aH):Value:=bn 6 (l.map aH.v)
abbrev bQ (l:List a_):Value:=bn 17 (l.map a_.v)
abbrev w_ (l:List Fn):Value:=bn 8 (l.map Fn.v)
theorem IG (l:List bh):zF l=l.map bh.v:=by
 induction l with
 | nil=>rw[zF];rfl
 | cons s l ih=>rw[zF,ih];rfl
theorem LO (l:List bo):IE l=l.map bo.v:=by
 induction l with
 | nil=>rw[IE];rfl
 | cons s l ih=>rw[IE,ih];rfl
theorem IH (l:List aH):zG l=l.map aH.v:=by
 induction l with
 | nil=>rw[zG];rfl
 | cons s l ih=>rw[zG,ih];rfl
theorem II (l:List a_):zH l=l.map a_.v:=by
 induction l with
 | nil=>rw[zH];rfl
 | cons s l ih=>rw[zH,ih];rfl
theorem LP (l:List Fn):IF l=l.map Fn.v:=by
 induction l with
 | nil=>rw[IF];rfl
 | cons s l ih=>rw[IF,ih];rfl
theorem bh.fI (p:bh):p.cs=[i64 p.k,i64 p.n,aD p.s,cD p.l]:=by cases p;rw[bh.cs,IG];rfl
theorem bo.fI (p:bo):p.cs=[i64 p.k,aD p.s,fx p.l]:=by cases p;rw[bo.cs,LO];rfl
theorem aH.fI (p:aH):p.cs=[i64 p.k,i64 p.n,aD p.s,gm p.l,cD p.p,bQ p.d]:=by cases p;rw[aH.cs,IH,II];rfl
theorem Fn.fI (p:Fn):p.cs=[aD p.s,cD p.p,i64 p.b.k,i64 p.b.n,aD p.b.s,gm p.b.l,cD p.b.p,bQ p.b.d]:=by cases p;rw[Fn.cs,aH.fI];rfl
theorem a_.fI (p:a_):p.cs=[i64 p.k,i64 p.p.k,i64 p.p.n,aD p.p.s,cD p.p.l,i64 p.e.k,i64 p.e.n,aD p.e.s,gm p.e.l,cD p.e.p,bQ p.e.d,w_ p.f,gk p.x.vars,aD p.x.s,j_ p.x.cons,aD p.c.s,fx p.c.arg]:=by cases p;rw[a_.cs,aH.fI,bh.fI,LP];rfl
theorem bh.br (p:bh):p.v= .agg ⟨[i64 p.k,i64 p.n,aD p.s,cD p.l]⟩:=by rw[bh.v,bh.fI]
theorem bo.br (p:bo):p.v= .agg ⟨[i64 p.k,aD p.s,fx p.l]⟩:=by rw[bo.v,bo.fI]
theorem aH.br (p:aH):p.v= .agg ⟨[i64 p.k,i64 p.n,aD p.s,gm p.l,cD p.p,bQ p.d]⟩:=by rw[aH.v,aH.fI]
theorem Fn.br (p:Fn):p.v= .agg ⟨[aD p.s,cD p.p,i64 p.b.k,i64 p.b.n,aD p.b.s,gm p.b.l,cD p.b.p,bQ p.b.d]⟩:=by rw[Fn.v,Fn.fI]
theorem da.br (p:da):p.v= .agg ⟨[aD p.s,fx p.arg]⟩:=rfl
theorem Data.br (p:Data):p.v= .agg ⟨[gk p.vars,aD p.s,j_ p.cons]⟩:=rfl
theorem a_.br (p:a_):p.v= .agg ⟨[i64 p.k,i64 p.p.k,i64 p.p.n,aD p.p.s,cD p.p.l,i64 p.e.k,i64 p.e.n,aD p.e.s,gm p.e.l,cD p.e.p,bQ p.e.d,w_ p.f,gk p.x.vars,aD p.x.s,j_ p.x.cons,aD p.c.s,fx p.c.arg]⟩:=by rw[a_.v,a_.fI]
theorem bh.ind {p:bh->Prop}(h:∀t:bh,(∀c,c∈t.l->p c)->p t)(t:bh):p t:=
 bh.rec (motive_1:=p) (motive_2:=λl=>∀c,c∈l->p c) (λk n s l h1=>h _ h1) (λc hc=>nomatch hc) (λa l h1 h2 c hc=>(List.mem_cons.1 hc).elim (λe=>e ▸ h1) (h2 c)) t
theorem bo.ind {p:bo->Prop}(h:∀t:bo,(∀c,c∈t.l->p c)->p t)(t:bo):p t:=
 bo.rec (motive_1:=p) (motive_2:=λl=>∀c,c∈l->p c) (λk s l h1=>h _ h1) (λc hc=>nomatch hc) (λa l h1 h2 c hc=>(List.mem_cons.1 hc).elim (λe=>e ▸ h1) (h2 c)) t
theorem aH.ind {p:aH->Prop}{q:a_->Prop}(h:∀t:aH,(∀c,c∈t.l->p c)->(∀c,c∈t.d->q c)->p t)(h':∀t:a_,p t.e->(∀f,f∈t.f->p f.b)->q t)(t:aH):p t:=
 aH.rec (motive_1:=p) (motive_2:=q) (motive_3:=λf=>p f.b) (motive_4:=λl=>∀c,c∈l->p c) (motive_5:=λl=>∀c,c∈l->q c) (motive_6:=λl=>∀f,f∈l->p f.b)
  (λk n s l pt d h1 h2=>h _ h1 h2) (λk pt e f x c h1 h2=>h' _ h1 h2) (λs pt b h1=>h1)
  (λc hc=>nomatch hc) (λa l h1 h2 c hc=>(List.mem_cons.1 hc).elim (λe=>e ▸ h1) (h2 c))
  (λc hc=>nomatch hc) (λa l h1 h2 c hc=>(List.mem_cons.1 hc).elim (λe=>e ▸ h1) (h2 c))
  (λc hc=>nomatch hc) (λa l h1 h2 c hc=>(List.mem_cons.1 hc).elim (λe=>e ▸ h1) (h2 c)) t
theorem a_.ind {p:aH->Prop}{q:a_->Prop}(h:∀t:aH,(∀c,c∈t.l->p c)->(∀c,c∈t.d->q c)->p t)(h':∀t:a_,p t.e->(∀f,f∈t.f->p f.b)->q t)(t:a_):q t:=h' t (aH.ind h h' _) λf _=>aH.ind h h' _
abbrev cX:Nat:=1125899906842624
abbrev gi (s:List UInt8):Prop:=s.length<140737488355328
abbrev rg (n:Int):Prop:= -9223372036854775808<=n/\n<9223372036854775808
mutual
def bh.ok:bh->Prop
 | .mk k n s l=>rg n/\gi s/\l.length<cX/\sK l
def sK:List bh->Prop
 | []=>True
 | p::l=>p.ok/\sK l
end
mutual
def bo.ok:bo->Prop
 | .mk k s l=>gi s/\l.length<cX/\zI l
def zI:List bo->Prop
 | []=>True
 | p::l=>p.ok/\zI l
end
def da.ok (c:da):Prop:=gi c.s/\c.arg.length<cX/\∀t,t∈c.arg->t.ok
def Data.ok (x:Data):Prop:=(x.vars.length<cX/\∀s,s∈x.vars->gi s)/\gi x.s/\x.cons.length<cX/\∀c,c∈x.cons->c.ok
mutual
def aH.ok:aH->Prop
 | .mk k n s l p d=>rg n/\gi s/\(l.length<cX/\sL l)/\(p.length<cX/\∀q,q∈p->q.ok)/\d.length<cX/\sM d
def a_.ok:a_->Prop
 | .mk k p e f x c=>p.ok/\e.ok/\(f.length<cX/\zJ f)/\x.ok/\c.ok
def Fn.ok:Fn->Prop
 | .mk s p b=>gi s/\(p.length<cX/\∀q,q∈p->q.ok)/\b.ok
def sL:List aH->Prop
 | []=>True
 | p::l=>p.ok/\sL l
def sM:List a_->Prop
 | []=>True
 | p::l=>p.ok/\sM l
def zJ:List Fn->Prop
 | []=>True
 | p::l=>p.ok/\zJ l
end
theorem A8 (l:List bh):sK l↔∀c,c∈l->c.ok:=by
 induction l with
 | nil=>simp[sK]
 | cons s l ih=>simp[sK,ih]
theorem F6 (l:List bo):zI l↔∀c,c∈l->c.ok:=by
 induction l with
 | nil=>simp[zI]
 | cons s l ih=>simp[zI,ih]
theorem A9 (l:List aH):sL l↔∀c,c∈l->c.ok:=by
 induction l with
 | nil=>simp[sL]
 | cons s l ih=>simp[sL,ih]
theorem A_ (l:List a_):sM l↔∀c,c∈l->c.ok:=by
 induction l with
 | nil=>simp[sM]
 | cons s l ih=>simp[sM,ih]
theorem F7 (l:List Fn):zJ l↔∀c,c∈l->c.ok:=by
 induction l with
 | nil=>simp[zJ]
 | cons s l ih=>simp[zJ,ih]
theorem bh.ch (p:bh):p.ok↔rg p.n/\gi p.s/\p.l.length<cX/\∀c,c∈p.l->c.ok:=by cases p;rw[bh.ok,A8];rfl
theorem bo.ch (p:bo):p.ok↔gi p.s/\p.l.length<cX/\∀c,c∈p.l->c.ok:=by cases p;rw[bo.ok,F6];rfl
theorem aH.ch (p:aH):p.ok↔rg p.n/\gi p.s/\(p.l.length<cX/\∀c,c∈p.l->c.ok)/\(p.p.length<cX/\∀c,c∈p.p->c.ok)/\p.d.length<cX/\∀c,c∈p.d->c.ok:=by cases p;rw[aH.ok,A9,A_];rfl
theorem a_.ch (p:a_):p.ok↔p.p.ok/\p.e.ok/\(p.f.length<cX/\∀c,c∈p.f->c.ok)/\p.x.ok/\p.c.ok:=by cases p;rw[a_.ok,F7];rfl
theorem Fn.ch (p:Fn):p.ok↔gi p.s/\(p.p.length<cX/\∀c,c∈p.p->c.ok)/\p.b.ok:=by cases p;rw[Fn.ok];rfl
theorem IJ (e:aH):ab P 44 (some (ak e.v)) 0=some (ak (i64 e.k)):=by rw[aH.br];kernel_rfl
theorem IK (e:aH):ab P 44 (some (ak e.v)) 1=some (ak (i64 e.n)):=by rw[aH.br];kernel_rfl
theorem IL (e:aH):ab P 44 (some (ak e.v)) 2=some (ak (aD e.s)):=by rw[aH.br];kernel_rfl
theorem IM (e:aH):ab P 44 (some (ak e.v)) 3=some (ak (gm e.l)):=by rw[aH.br];kernel_rfl
theorem IN (e:aH):ab P 44 (some (ak e.v)) 4=some (ak (cD e.p)):=by rw[aH.br];kernel_rfl
theorem IP (e:aH):ab P 44 (some (ak e.v)) 5=some (ak (bQ e.d)):=by rw[aH.br];kernel_rfl
theorem TY (H:T OB)(e:aH):ae P H 44 (some (ak e.v))=some e.v:=by rw[aH.br];kernel_rfl
theorem Xb (e:aH):e.v.cells.toList.length=6:=by rw[aH.br];rfl
theorem Xc (e:aH):e.v.cells.toList.all aA=true:=by rw[aH.br];rfl
theorem IQ (e:a_):ab P 57 (some (ak e.v)) 0=some (ak (i64 e.k)):=by rw[a_.br];kernel_rfl
theorem IS (e:a_):ab P 57 (some (ak e.v)) 1=some (ak (e.p.v)):=by rw[a_.br];rw[bh.br];kernel_rfl
theorem IT (e:a_):ab P 57 (some (ak e.v)) 2=some (ak (e.e.v)):=by rw[a_.br];rw[aH.br];kernel_rfl
theorem IU (e:a_):ab P 57 (some (ak e.v)) 3=some (ak (w_ e.f)):=by rw[a_.br];kernel_rfl
theorem IV (e:a_):ab P 57 (some (ak e.v)) 4=some (ak (e.x.v)):=by rw[a_.br];rw[Data.br];kernel_rfl
theorem IW (e:a_):ab P 57 (some (ak e.v)) 5=some (ak (e.c.v)):=by rw[a_.br];rw[da.br];kernel_rfl
theorem QJ (H:T OB)(e:a_):ae P H 57 (some (ak e.v))=some e.v:=by rw[a_.br];kernel_rfl
theorem TZ (e:a_):e.v.cells.toList.length=17:=by rw[a_.br];rfl
theorem T0 (e:a_):e.v.cells.toList.all aA=true:=by rw[a_.br];rfl
theorem Oo (e:Fn):ab P 65 (some (ak e.v)) 0=some (ak (aD e.s)):=by rw[Fn.br];kernel_rfl
theorem Oq (e:Fn):ab P 65 (some (ak e.v)) 1=some (ak (cD e.p)):=by rw[Fn.br];kernel_rfl
theorem Ot (e:Fn):ab P 65 (some (ak e.v)) 2=some (ak (e.b.v)):=by rw[Fn.br];rw[aH.br];kernel_rfl
theorem Xd (H:T OB)(e:Fn):ae P H 65 (some (ak e.v))=some e.v:=by rw[Fn.br];kernel_rfl
theorem Xe (e:Fn):e.v.cells.toList.length=8:=by rw[Fn.br];rfl
theorem Xf (e:Fn):e.v.cells.toList.all aA=true:=by rw[Fn.br];rfl
theorem El (e:Data):ab P 52 (some (ak e.v)) 0=some (ak (gk e.vars)):=by rw[Data.br];kernel_rfl
theorem Em (e:Data):ab P 52 (some (ak e.v)) 1=some (ak (aD e.s)):=by rw[Data.br];kernel_rfl
theorem En (e:Data):ab P 52 (some (ak e.v)) 2=some (ak (j_ e.cons)):=by rw[Data.br];kernel_rfl
theorem Ou (H:T OB)(e:Data):ae P H 52 (some (ak e.v))=some e.v:=by rw[Data.br];kernel_rfl
theorem IX (e:da):ab P 55 (some (ak e.v)) 0=some (ak (aD e.s)):=by rw[da.br];kernel_rfl
theorem Ba (e:da):ab P 55 (some (ak e.v)) 1=some (ak (fx e.arg)):=by rw[da.br];kernel_rfl
theorem T1 (H:T OB)(e:da):ae P H 55 (some (ak e.v))=some e.v:=by rw[da.br];kernel_rfl
theorem Xg (e:da):e.v.cells.toList.length=2:=by rw[da.br];rfl
theorem Xh (e:da):e.v.cells.toList.all aA=true:=by rw[da.br];rfl
theorem IY (e:bh):ab P 47 (some (ak e.v)) 0=some (ak (i64 e.k)):=by rw[bh.br];kernel_rfl
theorem IZ (e:bh):ab P 47 (some (ak e.v)) 1=some (ak (i64 e.n)):=by rw[bh.br];kernel_rfl
theorem I0 (e:bh):ab P 47 (some (ak e.v)) 2=some (ak (aD e.s)):=by rw[bh.br];kernel_rfl
theorem I1 (e:bh):ab P 47 (some (ak e.v)) 3=some (ak (cD e.l)):=by rw[bh.br];kernel_rfl
theorem T2 (H:T OB)(e:bh):ae P H 47 (some (ak e.v))=some e.v:=by rw[bh.br];kernel_rfl
theorem QK (e:bh):e.v.cells.toList.length=4:=by rw[bh.br];rfl
theorem QL (e:bh):e.v.cells.toList.all aA=true:=by rw[bh.br];rfl
theorem I2 (e:bo):ab P 138 (some (ak e.v)) 0=some (ak (i64 e.k)):=by rw[bo.br];kernel_rfl
theorem I3 (e:bo):ab P 138 (some (ak e.v)) 1=some (ak (aD e.s)):=by rw[bo.br];kernel_rfl
theorem I4 (e:bo):ab P 138 (some (ak e.v)) 2=some (ak (fx e.l)):=by rw[bo.br];kernel_rfl
theorem T3 (H:T OB)(e:bo):ae P H 138 (some (ak e.v))=some e.v:=by rw[bo.br];kernel_rfl
theorem QM (e:bo):e.v.cells.toList.length=3:=by rw[bo.br];rfl
theorem QN (e:bo):e.v.cells.toList.all aA=true:=by rw[bo.br];rfl
theorem cc:type_of% (And.intro @IJ (And.intro @IK (And.intro @IL (And.intro @IM (And.intro @IN (And.intro @IP (And.intro @TY (And.intro @IQ (And.intro @IS (And.intro @IT (And.intro @IU (And.intro @IV (And.intro @IW (And.intro @QJ (And.intro @Oo (And.intro @Oq (And.intro @Ot (And.intro @Xd (And.intro @El (And.intro @Em (And.intro @En (And.intro @Ou (And.intro @IX (And.intro @Ba (And.intro @T1 (And.intro @IY (And.intro @IZ (And.intro @I0 (And.intro @I1 (And.intro @T2 (And.intro @I2 (And.intro @I3 (And.intro @I4 @T3))))))))))))))))))))))))))))))))):=And.intro @IJ (And.intro @IK (And.intro @IL (And.intro @IM (And.intro @IN (And.intro @IP (And.intro @TY (And.intro @IQ (And.intro @IS (And.intro @IT (And.intro @IU (And.intro @IV (And.intro @IW (And.intro @QJ (And.intro @Oo (And.intro @Oq (And.intro @Ot (And.intro @Xd (And.intro @El (And.intro @Em (And.intro @En (And.intro @Ou (And.intro @IX (And.intro @Ba (And.intro @T1 (And.intro @IY (And.intro @IZ (And.intro @I0 (And.intro @I1 (And.intro @T2 (And.intro @I2 (And.intro @I3 (And.intro @I4 @T3))))))))))))))))))))))))))))))))
section
variable {nx0:Nat}{H0:T OB}
def mx (a b:Int):Int:=if b>a then b else a
theorem iS (ts:Array TypeId)(t:TypeId)(a b:Int):jy P .max ts t (some [.int .i64 a,.int .i64 b])=some (i64 (mx a b)):=K4 ts t a b
mutual
def sN:bh->Int
 | .mk _ _ _ l=>w (gn l 0+1)
def gn:List bh->Int->Int
 | [],n=>n
 | p::l,n=>gn l (mx n (sN p))
end
mutual
def LQ:bo->Int
 | .mk _ _ l=>w (mw l 0+1)
def mw:List bo->Int->Int
 | [],n=>n
 | p::l,n=>mw l (mx n (LQ p))
end
def nh:List da->Int->Int
 | [],n=>n
 | c::l,n=>nh l (mw c.arg n)
mutual
def fN:aH->Int
 | .mk _ _ _ l p d=>w (gn p (sO l (fJ d 0))+1)
def xd:a_->Int
 | .mk k p e f x c=>if k=1 then mx (sN p) (fN e)else if k=5 then fN e else if k=2 then xe f 0 else if k=3 then nh x.cons 0 else if k=4 then mw c.arg 0 else 0
def Xi:Fn->Int->Int
 | .mk _ p b,n=>gn p (mx n (fN b))
def sO:List aH->Int->Int
 | [],n=>n
 | e::l,n=>sO l (mx n (fN e))
def fJ:List a_->Int->Int
 | [],n=>n
 | d::l,n=>fJ l (mx n (w (xd d+1)))
def xe:List Fn->Int->Int
 | [],n=>n
 | f::l,n=>xe l (Xi f n)
end
theorem Eo (p:bh):sN p=w (gn p.l 0+1):=by cases p;rw[sN];rfl
theorem I5 (p:bo):LQ p=w (mw p.l 0+1):=by cases p;rw[LQ];rfl
theorem Ep (p:aH):fN p=w (gn p.p (sO p.l (fJ p.d 0))+1):=by cases p;rw[fN];rfl
theorem xf (d:a_):xd d=if d.k=1 then mx (sN d.p) (fN d.e)else if d.k=5 then fN d.e else if d.k=2 then xe d.f 0 else if d.k=3 then nh d.x.cons 0 else if d.k=4 then mw d.c.arg 0 else 0:=by cases d;rw[xd];rfl
theorem I6 (f:Fn)(n:Int):Xi f n=gn f.p (mx n (fN f.b)):=by cases f;rw[Xi];rfl
theorem cU {n:Nat}(h:n<cX):n<9223372036854775807:=Nat.lt_trans h (by decide)
theorem lZ (a b:Int):P0 48 [i64 a,i64 b] (i64 (mx a b)):=Pure.of rfl λH nx=>by
 rw[Yz];simp only[af];unfold mx;refine Wq.ite (λh=> ?_) (λh=> ?_)
 . rw[if_neg (by omega)];exact Wq.ret (.refl _ _)
 . by_cases h2:b>a
   . rw[if_pos h2];exact Wq.ret (.refl _ _)
   . rw[if_neg h2];exact Wq.e7 (by rw[show b=a by omega]) (.refl _ _)
theorem QO (e:bh)(hl:e.l.length<cX)(ih:∀c,c∈e.l->P0 93 [c.v] (i64 (sN c)))(s:Int)(H:T OB)(nx:Nat)(hA:Ag nx0 H0 nx H):Wq P pl X0 (.jump (zy (ak e.v) (i64 s) (i64 ((0:Nat):Int)) H nx)) nx0 H0 (i64 (w (gn (e.l) s+1))):=
 Wq.each (e.l) (λi s H nx=> .jump (zy (ak e.v) (i64 s) (i64 (i:Int)) H nx)) (λt s=>i64 (w (gn t s+1))) (λs H1 aE hA1=>by
  refine Wq.jmp (Og ..) (λ_=>rfl) ?_;simp only[af,cc,List.length_map,aR];exact Wq.e7 (by rw[Int.add_comm,gn]) hA1) (λi a t s H1 aE hg hlt hd hA1 ih'=>by
  have hg':((e.l).map bh.v)[i]? = some (bh.v a):=by simp[hg]
  have hm:=List.mem_of_getElem? hg;refine Wq.jmp (Og ..) (λ_=>rfl) ?_;simp only[af,cc,List.length_map,aU hlt,o6 hg'];refine Wq.call (ih a hm) hA1 λH2 nx2 hA2=> ?_;refine Wq.call (lZ _ _) hA2 λH3 nx3 hA3=> ?_;simp only[af,aG (show i<9223372036854775807 by have:=cU hl;omega)];exact ih' _ _ _ hA3) s H nx hA
theorem I7 (e:bh)(h:e.ok):P0 93 [e.v] (i64 (sN e)):=by
 refine bh.ind (p:=λe=>e.ok->P0 93 [e.v] (i64 (sN e))) (λe ih h=> ?_) e h;rw[bh.ch]at h;refine Pure.of rfl λH nx=> ?_;rw[YY];refine Wq.fH (.refl _ _) λhA=> ?_;rw[Eo];exact QO e h.2.2.1 (λc hc=>ih c hc (h.2.2.2 c hc)) 0 H _ hA
theorem QP (l:List bh)(hl:l.length<cX)(ih:∀c,c∈l->P0 96 [c.v] (i64 (sN c)))(s:Int)(H:T OB)(nx:Nat)(hA:Ag nx0 H0 nx H):Wq P pl X0 (.jump (zA (i64 s) (cD l) (i64 (l.length:Int)) (i64 ((0:Nat):Int)) H nx)) nx0 H0 (i64 (w (gn (l) s+1))):=
 Wq.each (l) (λi s H nx=> .jump (zA (i64 s) (cD l) (i64 (l.length:Int)) (i64 (i:Int)) H nx)) (λt s=>i64 (w (gn t s+1))) (λs H1 aE hA1=>by
  refine Wq.jmp (Oj ..) (λ_=>rfl) ?_;simp only[af,cc,List.length_map,aR];exact Wq.ret hA1) (λi a t s H1 aE hg hlt hd hA1 ih'=>by
  have hg':((l).map bh.v)[i]? = some (bh.v a):=by simp[hg]
  have hm:=List.mem_of_getElem? hg;refine Wq.jmp (Oj ..) (λ_=>rfl) ?_;simp only[af,cc,List.length_map,aU hlt,o6 hg'];refine Wq.var cS cf rfl (QK _) (QL _) hA1 λH2 nx2 hA2=> ?_;refine Wq.call (ih a hm) hA2 λH3 nx3 hA3=> ?_;simp only[af,iS];simp only[af,aG (show i<9223372036854775807 by have:=cU hl;omega)];exact ih' _ _ _ hA3) s H nx hA
theorem I8 (e:bh)(h:e.ok):P0 96 [e.v] (i64 (sN e)):=by
 refine bh.ind (p:=λe=>e.ok->P0 96 [e.v] (i64 (sN e))) (λe ih h=> ?_) e h;rw[bh.ch]at h;refine Pure.of rfl λH nx=> ?_;rw[Y1];refine Wq.fH (.refl _ _) λhA=> ?_;simp only[af,cc,List.length_map];rw[Eo];exact QP e.l h.2.2.1 (λc hc=>ih c hc (h.2.2.2 c hc)) 0 H _ hA
theorem QQ (e:bo)(hl:e.l.length<cX)(ih:∀c,c∈e.l->P0 95 [c.v] (i64 (LQ c)))(s:Int)(H:T OB)(nx:Nat)(hA:Ag nx0 H0 nx H):Wq P pl X0 (.jump (zz (ak e.v) (i64 s) (i64 ((0:Nat):Int)) H nx)) nx0 H0 (i64 (w (mw (e.l) s+1))):=
 Wq.each (e.l) (λi s H nx=> .jump (zz (ak e.v) (i64 s) (i64 (i:Int)) H nx)) (λt s=>i64 (w (mw t s+1))) (λs H1 aE hA1=>by
  refine Wq.jmp (Oi ..) (λ_=>rfl) ?_;simp only[af,cc,List.length_map,aR];exact Wq.e7 (by rw[Int.add_comm,mw]) hA1) (λi a t s H1 aE hg hlt hd hA1 ih'=>by
  have hg':((e.l).map bo.v)[i]? = some (bo.v a):=by simp[hg]
  have hm:=List.mem_of_getElem? hg;refine Wq.jmp (Oi ..) (λ_=>rfl) ?_;simp only[af,cc,List.length_map,aU hlt,sf hg'];refine Wq.call (ih a hm) hA1 λH2 nx2 hA2=> ?_;refine Wq.call (lZ _ _) hA2 λH3 nx3 hA3=> ?_;simp only[af,aG (show i<9223372036854775807 by have:=cU hl;omega)];exact ih' _ _ _ hA3) s H nx hA
theorem T4 (e:bo)(h:e.ok):P0 95 [e.v] (i64 (LQ e)):=by
 refine bo.ind (p:=λe=>e.ok->P0 95 [e.v] (i64 (LQ e))) (λe ih h=> ?_) e h;rw[bo.ch]at h;refine Pure.of rfl λH nx=> ?_;rw[Y0];refine Wq.fH (.refl _ _) λhA=> ?_;rw[I5];exact QQ e h.2.1 (λc hc=>ih c hc (h.2.2 c hc)) 0 H _ hA
theorem QR (l:List bo)(hl:l.length<cX)(ih:∀c,c∈l->P0 98 [c.v] (i64 (LQ c)))(s:Int)(H:T OB)(nx:Nat)(hA:Ag nx0 H0 nx H):Wq P pl X0 (.jump (zB (i64 s) (fx l) (i64 (l.length:Int)) (i64 ((0:Nat):Int)) H nx)) nx0 H0 (i64 (w (mw (l) s+1))):=
 Wq.each (l) (λi s H nx=> .jump (zB (i64 s) (fx l) (i64 (l.length:Int)) (i64 (i:Int)) H nx)) (λt s=>i64 (w (mw t s+1))) (λs H1 aE hA1=>by
  refine Wq.jmp (Ol ..) (λ_=>rfl) ?_;simp only[af,cc,List.length_map,aR];exact Wq.ret hA1) (λi a t s H1 aE hg hlt hd hA1 ih'=>by
  have hg':((l).map bo.v)[i]? = some (bo.v a):=by simp[hg]
  have hm:=List.mem_of_getElem? hg;refine Wq.jmp (Ol ..) (λ_=>rfl) ?_;simp only[af,cc,List.length_map,aU hlt,sf hg'];refine Wq.var cv bR rfl (QM _) (QN _) hA1 λH2 nx2 hA2=> ?_;refine Wq.call (ih a hm) hA2 λH3 nx3 hA3=> ?_;simp only[af,iS];simp only[af,aG (show i<9223372036854775807 by have:=cU hl;omega)];exact ih' _ _ _ hA3) s H nx hA
theorem Ov (e:bo)(h:e.ok):P0 98 [e.v] (i64 (LQ e)):=by
 refine bo.ind (p:=λe=>e.ok->P0 98 [e.v] (i64 (LQ e))) (λe ih h=> ?_) e h;rw[bo.ch]at h;refine Pure.of rfl λH nx=> ?_;rw[Y3];refine Wq.fH (.refl _ _) λhA=> ?_;simp only[af,cc,List.length_map];rw[I5];exact QR e.l h.2.1 (λc hc=>ih c hc (h.2.2 c hc)) 0 H _ hA
theorem Wq.base {aE:Nat}{H1:T OB}{q:Q}{v:Value}(hA:Ag nx0 H0 aE H1)(h:Wq P pl X0 q aE H1 v):Wq P pl X0 q nx0 H0 v:=by
 obtain⟨u,H',nx',h1,h2,h3⟩:=h;exact⟨u,H',nx',hA.trans h1,h2,h3⟩
theorem Er (v:Value)(k:Nat)(hk:k<cX)(l:List bo)(hl:l.length<cX)(hok:∀c,c∈l->c.ok)(hv:∀nx2 H2,Ag nx0 H0 nx2 H2->∃p x,ay P 50 (some v) (some (i64 (k:Int)))=some p/\ab P 55 (some p) 1=some x/\ae P H2 53 (some x)=some (fx l))(R:Int->Value)
 (hc:∀s H nx,Ag nx0 H0 nx H->Wq P pl X0 (.jump (sw (i64 s) v (i64 ((k+1:Nat):Int)) H nx)) nx0 H0 (R s)) (s:Int) (H:T OB) (nx:Nat) (hA:Ag nx0 H0 nx H):Wq P pl X0 (.jump (sx (i64 s) v (i64 (k:Int)) (i64 ((0:Nat):Int)) H nx)) nx0 H0 (R (mw l s)):=
 Wq.each l (λi s H nx=> .jump (sx (i64 s) v (i64 (k:Int)) (i64 (i:Int)) H nx)) (λt s=>R (mw t s)) (λs H1 aE hA1=>by
  obtain⟨p,x,h1,h2,h3⟩:=hv aE H1 hA1;refine Wq.jmp (H_ ..) (λ_=>rfl) ?_;simp only[af,cc,List.length_map,h1,h2,h3,aR,aG (show k<9223372036854775807 by have:=cU hk;omega)];exact hc s H1 aE hA1) (λi a t s H1 aE hg hlt hd hA1 ih'=>by
  have hg':(l.map bo.v)[i]? = some a.v:=by simp[hg]
  have hm:=List.mem_of_getElem? hg;obtain⟨p,x,h1,h2,h3⟩:=hv aE H1 hA1;refine Wq.jmp (H_ ..) (λ_=>rfl) ?_;simp only[af,cc,List.length_map,h1,h2,h3,aU hlt,sf hg'];refine Wq.call (T4 a (hok a hm)) hA1 λH2 nx2 hA2=> ?_;refine Wq.call (lZ _ _) hA2 λH3 nx3 hA3=> ?_;simp only[af,aG (show i<9223372036854775807 by have:=cU hl;omega)];exact ih' _ _ _ hA3) s H nx hA
theorem T5 (a b:Value):Instr.fill (λi=>some (i*2,2)) (bI [Value.string ⟨⟨[]⟩⟩,Value.slice none 0 0] (1*2)) [(0,.agg ⟨[a,b]⟩)]=some ⟨[a,b]⟩:=by kernel_rfl
theorem LS (b:Nat):ay P 50 (some (.slice (some ⟨b,0,none⟩) 1 1)) (some (i64 ((0:Nat):Int)))=some (.pointer (some ⟨b,0+0*2,none⟩)):=jO (by kernel_rfl) (by omega) .i64
theorem T6 (d:a_)(h:d.ok)(hE:P0 94 [d.e.v] (i64 (fN d.e)))(hF:∀f,f∈d.f->P0 94 [f.b.v] (i64 (fN f.b))):P0 49 [d.v] (i64 (xd d)):=Pure.of rfl λH nx=>by
 rw[a_.ch]at h;obtain⟨hp,he,⟨hfl,hf⟩,hx,hc⟩:=h;rw[XY];refine Wq.fH (.refl _ _) λhA=> ?_;have L58:∀(n:Int) H1 aE,Ag nx H aE H1->Wq P pl X0 (.jump (vW (i64 n) H1 aE)) nx H (i64 n):=λn H1 aE hA1=>by
  refine Wq.jmp (HX ..) (λ_=>rfl) ?_;exact Wq.ret hA1
 have L12:∀(v:Value) (H1:T OB) (aE:Nat),d.k≠4->v=j_ d.x.cons->Ag nx H aE H1->Wq P pl X0 (.jump (vV (ak d.v) (i64 0) v H1 aE)) nx H (i64 (xd d)):=by
  intro v H1 aE h4 hv hA1;subst hv;rw[xf];refine Wq.jmp (AY ..) (λ_=>rfl) ?_;simp only[af,cc,List.length_map];refine Wq.ite (λh1=> ?_) (λh1=> ?_)
  . rw[if_pos h1];refine Wq.call (I7 _ hp) hA1 λH2 nx2 hA2=> ?_;refine Wq.call hE hA2 λH3 nx3 hA3=> ?_;refine Wq.call (lZ _ _) hA3 λH4 nx4 hA4=> ?_;exact L58 _ _ _ hA4
  rw[if_neg h1];refine Wq.ite (λh5=> ?_) (λh5=> ?_)
  . rw[if_pos h5];refine Wq.call hE hA1 λH3 nx3 hA3=> ?_;exact L58 _ _ _ hA3
  rw[if_neg h5];refine Wq.ite (λh2=> ?_) (λh2=> ?_)
  . rw[if_pos h2];refine Wq.each (d.f) (λi s H nx=> .jump (vX (ak d.v) (i64 s) (i64 (i:Int)) H nx)) (λt s=>i64 (xe t s)) (λs0 H0 nx0 hA0=> ?_) (λi0 a0 t0 s0 H0 nx0 hg0 hlt0 hd0 hA0 ih0=> ?_) (0) _ _ hA1
    . refine Wq.jmp (HY ..) (λ_=>rfl) ?_;simp only[af,cc,List.length_map,aR];exact Wq.ret hA0
    . have hx0:((d.f).map Fn.v)[i0]? = some (Fn.v a0):=by simp[hg0]
      have hm0:=List.mem_of_getElem? hg0;refine Wq.jmp (HY ..) (λ_=>rfl) ?_;simp only[af,cc,List.length_map,aU hlt0,uC hx0];refine Wq.call (hF a0 hm0) hA0 λH2 nx2 hA2=> ?_;refine Wq.call (lZ _ _) hA2 λH3 nx3 hA3=> ?_;have hpl:=((Fn.ch a0).1 (hf a0 hm0)).2.1;rw[xe,I6];refine Wq.each (a0.p) (λi s H nx=> .jump (vY (ak d.v) (i64 s) (i64 (i0:Int)) (i64 (i:Int)) H nx)) (λt s=>i64 (xe t0 (gn t s))) (λs8 H8 nx8 hA8=> ?_) (λi8 a8 t8 s8 H8 nx8 hg8 hlt8 hd8 hA8 ih8=> ?_) (mx s0 (fN a0.b)) _ _ hA3
      . refine Wq.jmp (HZ ..) (λ_=>rfl) ?_;simp only[af,cc,List.length_map,aR,uC hx0];simp only[af,aG (show i0<9223372036854775807 by have:=cU hfl;omega)];exact ih0 _ _ _ hA8
      . have hx8:((a0.p).map bh.v)[i8]? = some (bh.v a8):=by simp[hg8]
        have hm8:=List.mem_of_getElem? hg8;refine Wq.jmp (HZ ..) (λ_=>rfl) ?_;simp only[af,cc,List.length_map,aU hlt8,o6 hx8,uC hx0];refine Wq.call (I7 a8 (hpl.2 a8 hm8)) hA8 λH2 nx2 hA2=> ?_;refine Wq.call (lZ _ _) hA2 λH3 nx3 hA3=> ?_;simp only[af,aG (show i8<9223372036854775807 by have:=cU hpl.1;omega)];exact ih8 _ _ _ hA3
  rw[if_neg h2];have h4':decide (d.k=4)=false:=by simp[h4]
  rw[h4'];refine Wq.ite (λh3=> ?_) (λh3=> ?_)
  . rw[if_pos h3,show decide (d.k=3)=true by simp[h3]];refine Wq.jmp (AZ ..) (λ_=>rfl) ?_;simp only[af];refine Wq.each (d.x.cons) (λi s H nx=> .jump (sw (i64 s) (j_ d.x.cons) (i64 (i:Int)) H nx)) (λt s=>i64 (nh t s)) (λs0 H0 nx0 hA0=> ?_) (λi0 a0 t0 s0 H0 nx0 hg0 hlt0 hd0 hA0 ih0=> ?_) (0) _ _ hA1
    . refine Wq.jmp (vZ ..) (λ_=>rfl) ?_;simp only[af,cc,List.length_map,aR];exact Wq.ret hA0
    . have hx0:((d.x.cons).map da.v)[i0]? = some (da.v a0):=by simp[hg0]
      have hm0:=List.mem_of_getElem? hg0;refine Wq.jmp (vZ ..) (λ_=>rfl) ?_;simp only[af,cc,List.length_map,aU hlt0,zo hx0];have hc0:=hx.2.2.2 a0 hm0;rw[nh];refine Er _ _ (by have:=hx.2.2.1;omega) a0.arg hc0.2.1 hc0.2.2 (λnx2 H2 _=>⟨_,_,zo hx0 .i64,Ba a0,?_⟩) (λs=>i64 (nh t0 s)) ih0 _ _ _ hA0;simp only[af]
  . rw[if_neg h3,if_neg h4];refine Wq.jmp (AZ ..) (λ_=>rfl) ?_;exact Wq.ret hA1
 simp only[af,cc,List.length_map];refine Wq.ite (λh4=> ?_) (λh4=> ?_)
 . rw[xf,if_neg (by omega),if_neg (by omega),if_neg (by omega),if_neg (by omega),if_pos h4];rw[da.br];refine Wq.row mm il fZ rfl (T5 _ _) hA λH2 hb2 _ hA2=> ?_;refine Wq.jmp (AY ..) (λ_=>rfl) ?_;simp only[af,cc,List.length_map,h4];refine Wq.jmp (AZ ..) (λ_=>rfl) ?_;simp only[af];refine Wq.jmp (vZ ..) (λ_=>rfl) ?_;simp only[af];refine Wq.base hA2 ?_;refine Er _ 0 (by decide) d.c.arg hc.2.1 hc.2.2 (λnx3 H3 hA3=>⟨_,_,LS _,Hj _ _,aw (hb2.ag hA3 (by omega)) vE rfl⟩) i64 (λs H nx hA=> ?_) 0 _ _ (.refl _ _);refine Wq.jmp (vZ ..) (λ_=>rfl) ?_;simp only[af];exact Wq.ret hA
 . exact L12 _ _ _ h4 rfl hA
theorem Ow (l:List a_)(hl:l.length<cX)(ih:∀d,d∈l->P0 49 [d.v] (i64 (xd d))):P0 23 [bQ l] (i64 (fJ l 0)):=Pure.of rfl λH nx=>by
 rw[XX];refine Wq.each (l) (λi s H nx=> .jump (zu (bQ l) (i64 s) (i64 (i:Int)) H nx)) (λt s=>i64 (fJ t s)) (λs0 H0 nx0 hA0=> ?_) (λi0 a0 t0 s0 H0 nx0 hg0 hlt0 hd0 hA0 ih0=> ?_) (0) _ _ (.refl _ _)
 . refine Wq.jmp (DM ..) (λ_=>rfl) ?_;simp only[af,cc,List.length_map,aR];exact Wq.ret hA0
 . have hx0:((l).map a_.v)[i0]? = some (a_.v a0):=by simp[hg0]
   have hm0:=List.mem_of_getElem? hg0;refine Wq.jmp (DM ..) (λ_=>rfl) ?_;simp only[af,cc,List.length_map,aU hlt0,Dr hx0];refine Wq.call (ih a0 hm0) hA0 λH2 nx2 hA2=> ?_;simp only[af,Int.add_comm 1];refine Wq.call (lZ _ _) hA2 λH3 nx3 hA3=> ?_;rw[fJ];simp only[af,aG (show i0<9223372036854775807 by have:=cU hl;omega)];exact ih0 _ _ _ hA3
theorem QS (e:aH)(h:e.ok)(h1:∀c,c∈e.l->P0 94 [c.v] (i64 (fN c)))(h2:∀d,d∈e.d->P0 49 [d.v] (i64 (xd d))):P0 94 [e.v] (i64 (fN e)):=Pure.of rfl λH nx=>by
 rw[aH.ch]at h;obtain⟨hr,hs,⟨hl,hl'⟩,⟨hp,hp'⟩,hd,hd'⟩:=h;rw[YZ];refine Wq.fH (.refl _ _) λhA=> ?_;simp only[af,cc,List.length_map];refine Wq.call (Ow _ hd h2) hA λH1 aE hA1=> ?_;rw[Ep];refine Wq.each (e.l) (λi s H nx=> .jump (DT (ak e.v) (i64 s) (i64 (i:Int)) H nx)) (λt s=>i64 (w (gn e.p (sO t s)+1))) (λs0 H0 nx0 hA0=> ?_) (λi0 a0 t0 s0 H0 nx0 hg0 hlt0 hd0 hA0 ih0=> ?_) (fJ e.d 0) _ _ hA1
 . refine Wq.jmp (Oh ..) (λ_=>rfl) ?_;simp only[af,cc,List.length_map,aR];refine Wq.each (e.p) (λi s H nx=> .jump (wA (ak e.v) (i64 s) (i64 (i:Int)) H nx)) (λt s=>i64 (w (gn t s+1))) (λs8 H8 nx8 hA8=> ?_) (λi8 a8 t8 s8 H8 nx8 hg8 hlt8 hd8 hA8 ih8=> ?_) (s0) _ _ hA0
   . refine Wq.jmp (Ir ..) (λ_=>rfl) ?_;simp only[af,cc,List.length_map,aR];exact Wq.e7 (by rw[Int.add_comm];rfl) hA8
   . have hx8:((e.p).map bh.v)[i8]? = some (bh.v a8):=by simp[hg8]
     have hm8:=List.mem_of_getElem? hg8;refine Wq.jmp (Ir ..) (λ_=>rfl) ?_;simp only[af,cc,List.length_map,aU hlt8,o6 hx8];refine Wq.call (I7 _ (hp' _ hm8)) hA8 λH2 nx2 hA2=> ?_;refine Wq.call (lZ _ _) hA2 λH3 nx3 hA3=> ?_;simp only[af,aG (show i8<9223372036854775807 by have:=cU hp;omega)];exact ih8 _ _ _ hA3
 . have hx0:((e.l).map aH.v)[i0]? = some (aH.v a0):=by simp[hg0]
   have hm0:=List.mem_of_getElem? hg0;refine Wq.jmp (Oh ..) (λ_=>rfl) ?_;simp only[af,cc,List.length_map,aU hlt0,Dt hx0];refine Wq.call (h1 _ hm0) hA0 λH2 nx2 hA2=> ?_;refine Wq.call (lZ _ _) hA2 λH3 nx3 hA3=> ?_;rw[sO];simp only[af,aG (show i0<9223372036854775807 by have:=cU hl;omega)];exact ih0 _ _ _ hA3
theorem xg:(∀e:aH,e.ok->P0 94 [e.v] (i64 (fN e)))/\∀d:a_,d.ok->P0 49 [d.v] (i64 (xd d)):=by
 have A:∀e:aH,(∀c,c∈e.l->c.ok->P0 94 [c.v] (i64 (fN c)))->(∀c,c∈e.d->c.ok->P0 49 [c.v] (i64 (xd c)))->e.ok->P0 94 [e.v] (i64 (fN e)):=λe h1 h2 h=>by
  have h':=(aH.ch e).1 h;exact QS e h (λc hc=>h1 c hc (h'.2.2.1.2 c hc)) λd hd=>h2 d hd (h'.2.2.2.2.2 d hd)
 have B:∀d:a_,(d.e.ok->P0 94 [d.e.v] (i64 (fN d.e)))->(∀f,f∈d.f->f.b.ok->P0 94 [f.b.v] (i64 (fN f.b)))->d.ok->P0 49 [d.v] (i64 (xd d)):=λd h1 h2 h=>by
  have h':=(a_.ch d).1 h;exact T6 d h (h1 h'.2.1) λf hf=>h2 f hf ((Fn.ch f).1 (h'.2.2.1.2 f hf)).2.2
 exact⟨aH.ind A B,a_.ind A B⟩
theorem T7 (d:a_)(h:d.ok)(hE:P0 97 [d.e.v] (i64 (fN d.e)))(hF:∀f,f∈d.f->P0 97 [f.b.v] (i64 (fN f.b))):P0 50 [d.v] (i64 (w (xd d+1))):=Pure.of rfl λH nx=>by
 rw[a_.ch]at h;obtain⟨hp,he,⟨hfl,hf⟩,hx,hc⟩:=h;rw[YA];refine Wq.fH (.refl _ _) λhA=> ?_;have L70:∀(n:Int) H1 aE,Ag nx H aE H1->Wq P pl X0 (.jump (sy (i64 n) H1 aE)) nx H (i64 (w (n+1))):=λn H1 aE hA1=>by
  refine Wq.jmp (P7 ..) (λ_=>rfl) ?_;simp only[af];exact Wq.ret hA1
 simp only[af,cc,List.length_map];rw[xf];refine Wq.ite (λh1=> ?_) (λh1=> ?_)
 . rw[if_pos h1];refine Wq.call (I8 _ hp) hA λH2 nx2 hA2=> ?_;refine Wq.call hE hA2 λH3 nx3 hA3=> ?_;simp only[af,iS];exact L70 _ _ _ hA3
 rw[if_neg h1];refine Wq.ite (λh2=> ?_) (λh2=> ?_)
 . rw[if_neg (by omega),if_pos h2];refine Wq.each (d.f) (λi s H nx=> .jump (v5 (i64 s) (w_ d.f) (i64 (d.f.length:Int)) (i64 (i:Int)) H nx)) (λt s=>i64 (w (xe t s+1))) (λs0 H0 nx0 hA0=> ?_) (λi0 a0 t0 s0 H0 nx0 hg0 hlt0 hd0 hA0 ih0=> ?_) (0) _ _ hA
   . refine Wq.jmp (Ia ..) (λ_=>rfl) ?_;simp only[af,cc,List.length_map,aR];exact Wq.ret hA0
   . have hx0:((d.f).map Fn.v)[i0]? = some (Fn.v a0):=by simp[hg0]
     have hm0:=List.mem_of_getElem? hg0;refine Wq.jmp (Ia ..) (λ_=>rfl) ?_;simp only[af,cc,List.length_map,aU hlt0,uC hx0];refine Wq.var eZ jl rfl (Xe _) (Xf _) hA0 λH2 nx2 hA2=> ?_;refine Wq.call (hF a0 hm0) hA2 λH3 nx3 hA3=> ?_;simp only[af,cc,List.length_map,iS];have hpl:=((Fn.ch a0).1 (hf a0 hm0)).2.1;rw[xe,I6];refine Wq.each (a0.p) (λi s H nx=> .jump (v9 (i64 s) (w_ d.f) (i64 (d.f.length:Int)) (i64 (i0:Int)) (cD a0.p) (i64 (a0.p.length:Int)) (i64 (i:Int)) H nx)) (λt s=>i64 (w (xe t0 (gn t s)+1))) (λs8 H8 nx8 hA8=> ?_) (λi8 a8 t8 s8 H8 nx8 hg8 hlt8 hd8 hA8 ih8=> ?_) (mx s0 (fN a0.b)) _ _ hA3
     . refine Wq.jmp (Ie ..) (λ_=>rfl) ?_;simp only[af,cc,List.length_map,aR];simp only[af,aG (show i0<9223372036854775807 by have:=cU hfl;omega)];exact ih0 _ _ _ hA8
     . have hx8:((a0.p).map bh.v)[i8]? = some (bh.v a8):=by simp[hg8]
       have hm8:=List.mem_of_getElem? hg8;refine Wq.jmp (Ie ..) (λ_=>rfl) ?_;simp only[af,cc,List.length_map,aU hlt8,o6 hx8];refine Wq.var cS cf rfl (QK _) (QL _) hA8 λH2 nx2 hA2=> ?_;refine Wq.call (I8 a8 (hpl.2 a8 hm8)) hA2 λH3 nx3 hA3=> ?_;simp only[af,iS];simp only[af,aG (show i8<9223372036854775807 by have:=cU hpl.1;omega)];exact ih8 _ _ _ hA3
 refine Wq.ite (λh3=> ?_) (λh3=> ?_)
 . rw[if_neg (by omega),if_neg h2,if_pos h3];refine Wq.each (d.x.cons) (λi s H nx=> .jump (v7 (i64 s) (j_ d.x.cons) (i64 (d.x.cons.length:Int)) (i64 (i:Int)) H nx)) (λt s=>i64 (w (nh t s+1))) (λs0 H0 nx0 hA0=> ?_) (λi0 a0 t0 s0 H0 nx0 hg0 hlt0 hd0 hA0 ih0=> ?_) (0) _ _ hA
   . refine Wq.jmp (Ib ..) (λ_=>rfl) ?_;simp only[af,cc,List.length_map,aR];exact Wq.ret hA0
   . have hx0:((d.x.cons).map da.v)[i0]? = some (da.v a0):=by simp[hg0]
     have hm0:=List.mem_of_getElem? hg0;refine Wq.jmp (Ib ..) (λ_=>rfl) ?_;simp only[af,cc,List.length_map,aU hlt0,zo hx0];refine Wq.var fZ il rfl (Xg _) (Xh _) hA0 λH2 nx2 hA2=> ?_;have hpl:=(hx.2.2.2 a0 hm0).2;rw[nh];refine Wq.each (a0.arg) (λi s H nx=> .jump (v_ (i64 s) (j_ d.x.cons) (i64 (d.x.cons.length:Int)) (i64 (i0:Int)) (fx a0.arg) (i64 (a0.arg.length:Int)) (i64 (i:Int)) H nx)) (λt s=>i64 (w (nh t0 (mw t s)+1))) (λs8 H8 nx8 hA8=> ?_) (λi8 a8 t8 s8 H8 nx8 hg8 hlt8 hd8 hA8 ih8=> ?_) (s0) _ _ hA2
     . refine Wq.jmp (Ig ..) (λ_=>rfl) ?_;simp only[af,cc,List.length_map,aR];simp only[af,aG (show i0<9223372036854775807 by have:=cU (show d.x.cons.length<cX from hx.2.2.1);omega)];exact ih0 _ _ _ hA8
     . have hx8:((a0.arg).map bo.v)[i8]? = some (bo.v a8):=by simp[hg8]
       have hm8:=List.mem_of_getElem? hg8;refine Wq.jmp (Ig ..) (λ_=>rfl) ?_;simp only[af,cc,List.length_map,aU hlt8,sf hx8];refine Wq.var cv bR rfl (QM _) (QN _) hA8 λH2 nx2 hA2=> ?_;refine Wq.call (Ov a8 (hpl.2 a8 hm8)) hA2 λH3 nx3 hA3=> ?_;simp only[af,iS];simp only[af,aG (show i8<9223372036854775807 by have:=cU hpl.1;omega)];exact ih8 _ _ _ hA3
 refine Wq.ite (λh4=> ?_) (λh4=> ?_)
 . rw[if_neg (by omega),if_neg h2,if_neg h3,if_pos h4];refine Wq.each (d.c.arg) (λi s H nx=> .jump (v8 (i64 s) (fx d.c.arg) (i64 (d.c.arg.length:Int)) (i64 (i:Int)) H nx)) (λt s=>i64 (w (mw t s+1))) (λs0 H0 nx0 hA0=> ?_) (λi0 a0 t0 s0 H0 nx0 hg0 hlt0 hd0 hA0 ih0=> ?_) (0) _ _ hA
   . refine Wq.jmp (Ic ..) (λ_=>rfl) ?_;simp only[af,cc,List.length_map,aR];exact Wq.ret hA0
   . have hx0:((d.c.arg).map bo.v)[i0]? = some (bo.v a0):=by simp[hg0]
     have hm0:=List.mem_of_getElem? hg0;refine Wq.jmp (Ic ..) (λ_=>rfl) ?_;simp only[af,cc,List.length_map,aU hlt0,sf hx0];refine Wq.var cv bR rfl (QM _) (QN _) hA0 λH2 nx2 hA2=> ?_;refine Wq.call (Ov a0 (hc.2.2 a0 hm0)) hA2 λH3 nx3 hA3=> ?_;simp only[af,iS];simp only[af,aG (show i0<9223372036854775807 by have:=cU hc.2.1;omega)];exact ih0 _ _ _ hA3
 refine Wq.ite (λh5=> ?_) (λh5=> ?_)
 . rw[if_pos h5];refine Wq.call hE hA λH3 nx3 hA3=> ?_;exact L70 _ _ _ hA3
 . rw[if_neg h5,if_neg h2,if_neg h3,if_neg h4];exact L70 _ _ _ hA
theorem Ox (l:List a_)(hl:l.length<cX)(ih:∀d,d∈l->P0 50 [d.v] (i64 (w (xd d+1)))):P0 27 [bQ l] (i64 (fJ l 0)):=Pure.of rfl λH nx=>by
 rw[Yk];simp only[af,cc,List.length_map];refine Wq.each (l) (λi s H nx=> .jump (DN (i64 s) (bQ l) (i64 (l.length:Int)) (i64 (i:Int)) H nx)) (λt s=>i64 (fJ t s)) (λs0 H0 nx0 hA0=> ?_) (λi0 a0 t0 s0 H0 nx0 hg0 hlt0 hd0 hA0 ih0=> ?_) (0) _ _ (.refl _ _)
 . refine Wq.jmp (N_ ..) (λ_=>rfl) ?_;simp only[af,cc,List.length_map,aR];exact Wq.ret hA0
 . have hx0:((l).map a_.v)[i0]? = some (a_.v a0):=by simp[hg0]
   have hm0:=List.mem_of_getElem? hg0;refine Wq.jmp (N_ ..) (λ_=>rfl) ?_;simp only[af,cc,List.length_map,aU hlt0,Dr hx0];refine Wq.var cW dz rfl (TZ _) (T0 _) hA0 λH2 nx2 hA2=> ?_;refine Wq.call (ih a0 hm0) hA2 λH3 nx3 hA3=> ?_;simp only[af,iS];rw[fJ];simp only[af,aG (show i0<9223372036854775807 by have:=cU hl;omega)];exact ih0 _ _ _ hA3
theorem QT (e:aH)(h:e.ok)(h1:∀c,c∈e.l->P0 97 [c.v] (i64 (fN c)))(h2:∀d,d∈e.d->P0 50 [d.v] (i64 (w (xd d+1)))):P0 97 [e.v] (i64 (fN e)):=Pure.of rfl λH nx=>by
 rw[aH.ch]at h;obtain⟨hr,hs,⟨hl,hl'⟩,⟨hp,hp'⟩,hd,hd'⟩:=h;rw[Y2];refine Wq.fH (.refl _ _) λhA=> ?_;simp only[af,cc,List.length_map];refine Wq.call (Ox _ hd h2) hA λH1 aE hA1=> ?_;rw[Ep];refine Wq.each (e.l) (λi s H nx=> .jump (DU (ak e.v) (i64 s) (gm e.l) (i64 (e.l.length:Int)) (i64 (i:Int)) H nx)) (λt s=>i64 (w (gn e.p (sO t s)+1))) (λs0 H0 nx0 hA0=> ?_) (λi0 a0 t0 s0 H0 nx0 hg0 hlt0 hd0 hA0 ih0=> ?_) (fJ e.d 0) _ _ hA1
 . refine Wq.jmp (Ok ..) (λ_=>rfl) ?_;simp only[af,cc,List.length_map,aR];refine Wq.each (e.p) (λi s H nx=> .jump (wB (i64 s) (cD e.p) (i64 (e.p.length:Int)) (i64 (i:Int)) H nx)) (λt s=>i64 (w (gn t s+1))) (λs8 H8 nx8 hA8=> ?_) (λi8 a8 t8 s8 H8 nx8 hg8 hlt8 hd8 hA8 ih8=> ?_) (s0) _ _ hA0
   . refine Wq.jmp (Is ..) (λ_=>rfl) ?_;simp only[af,cc,List.length_map,aR];exact Wq.ret hA8
   . have hx8:((e.p).map bh.v)[i8]? = some (bh.v a8):=by simp[hg8]
     have hm8:=List.mem_of_getElem? hg8;refine Wq.jmp (Is ..) (λ_=>rfl) ?_;simp only[af,cc,List.length_map,aU hlt8,o6 hx8];refine Wq.var cS cf rfl (QK _) (QL _) hA8 λH2 nx2 hA2=> ?_;refine Wq.call (I8 _ (hp' _ hm8)) hA2 λH3 nx3 hA3=> ?_;simp only[af,iS];simp only[af,aG (show i8<9223372036854775807 by have:=cU hp;omega)];exact ih8 _ _ _ hA3
 . have hx0:((e.l).map aH.v)[i0]? = some (aH.v a0):=by simp[hg0]
   have hm0:=List.mem_of_getElem? hg0;refine Wq.jmp (Ok ..) (λ_=>rfl) ?_;simp only[af,cc,List.length_map,aU hlt0,Dt hx0];refine Wq.var bc bG rfl (Xb _) (Xc _) hA0 λH2 nx2 hA2=> ?_;refine Wq.call (h1 _ hm0) hA2 λH3 nx3 hA3=> ?_;simp only[af,iS];rw[sO];simp only[af,aG (show i0<9223372036854775807 by have:=cU hl;omega)];exact ih0 _ _ _ hA3
theorem LU:(∀e:aH,e.ok->P0 97 [e.v] (i64 (fN e)))/\∀d:a_,d.ok->P0 50 [d.v] (i64 (w (xd d+1))):=by
 have A:∀e:aH,(∀c,c∈e.l->c.ok->P0 97 [c.v] (i64 (fN c)))->(∀c,c∈e.d->c.ok->P0 50 [c.v] (i64 (w (xd c+1))))->e.ok->P0 97 [e.v] (i64 (fN e)):=λe h1 h2 h=>by
  have h':=(aH.ch e).1 h;exact QT e h (λc hc=>h1 c hc (h'.2.2.1.2 c hc)) λd hd=>h2 d hd (h'.2.2.2.2.2 d hd)
 have B:∀d:a_,(d.e.ok->P0 97 [d.e.v] (i64 (fN d.e)))->(∀f,f∈d.f->f.b.ok->P0 97 [f.b.v] (i64 (fN f.b)))->d.ok->P0 50 [d.v] (i64 (w (xd d+1))):=λd h1 h2 h=>by
  have h':=(a_.ch d).1 h;exact T7 d h (h1 h'.2.1) λf hf=>h2 f hf ((Fn.ch f).1 (h'.2.2.1.2 f hf)).2.2
 exact⟨aH.ind A B,a_.ind A B⟩
theorem T8 (l:List a_)(hl:l.length<cX)(h:∀d,d∈l->d.ok):P0 23 [bQ l] (i64 (fJ l 0))/\P0 27 [bQ l] (i64 (fJ l 0)):=
 ⟨Ow l hl λd hd=>xg.2 d (h d hd),Ox l hl λd hd=>LU.2 d (h d hd)⟩
end
section
variable {nx0:Nat}{H0:T OB}
def pC (s:Nat)(l:List Value)(v:Value):Prop:=v=bn s l\/(l=[]/\v= .slice none 0 0)
theorem pC.row (s:Nat)(l:List Value):pC s l (bn s l):= .inl rfl
theorem I9 {l:List Value}{v:Value}(h:pC 4 l v)(H:T OB)(nx:Nat)(k:Value->T OB->Nat->Q):ff P 42 v H nx k=k (bn 4 l) H nx:=by
 rcases h with rfl | ⟨rfl,rfl⟩<;>kernel_rfl
theorem QU {l:List Value}{v:Value}(h:pC 6 l v)(H:T OB)(nx:Nat)(k:Value->T OB->Nat->Q):ff P 41 v H nx k=k (bn 6 l) H nx:=by
 rcases h with rfl | ⟨rfl,rfl⟩<;>kernel_rfl
theorem QV {l:List Value}{v:Value}(h:pC 17 l v)(H:T OB)(nx:Nat)(k:Value->T OB->Nat->Q):ff P 24 v H nx k=k (bn 17 l) H nx:=by
 rcases h with rfl | ⟨rfl,rfl⟩<;>kernel_rfl
theorem QW {l:List Value}{v:Value}(h:pC 3 l v)(H:T OB)(nx:Nat)(k:Value->T OB->Nat->Q):ff P 53 v H nx k=k (bn 3 l) H nx:=by
 rcases h with rfl | ⟨rfl,rfl⟩<;>kernel_rfl
theorem QX {l:List Value}{v:Value}(h:pC 1 l v)(H:T OB)(nx:Nat)(k:Value->T OB->Nat->Q):ff P 49 v H nx k=k (bn 1 l) H nx:=by
 rcases h with rfl | ⟨rfl,rfl⟩<;>kernel_rfl
theorem QY {l:List Value}{v:Value}(h:pC 2 l v)(H:T OB)(nx:Nat)(k:Value->T OB->Nat->Q):ff P 50 v H nx k=k (bn 2 l) H nx:=by
 rcases h with rfl | ⟨rfl,rfl⟩<;>kernel_rfl
def I_ (p:bh)(v:Value):Prop:=∃d,v= .agg ⟨[i64 p.k,i64 p.n,aD p.s,d]⟩/\pC 4 (p.l.map bh.v) d
def F8 (e:aH)(v:Value):Prop:=∃a b c,v= .agg ⟨[i64 e.k,i64 e.n,aD e.s,a,b,c]⟩/\pC 6 (e.l.map aH.v) a/\pC 4 (e.p.map bh.v) b/\pC 17 (e.d.map a_.v) c
def QZ (e:da)(v:Value):Prop:=∃a,v= .agg ⟨[aD e.s,a]⟩/\pC 3 (e.arg.map bo.v) a
def Oy (e:Data)(v:Value):Prop:=∃a b,v= .agg ⟨[a,aD e.s,b]⟩/\pC 1 (e.vars.map aD) a/\pC 2 (e.cons.map da.v) b
theorem bh.vv (p:bh):I_ p p.v:=⟨_,p.br,.row _ _⟩
theorem aH.vv (p:aH):F8 p p.v:=⟨_,_,_,p.br,.row _ _,.row _ _,.row _ _⟩
theorem da.vv (p:da):QZ p p.v:=⟨_,p.br,.row _ _⟩
theorem T9 (a b c d:Value)(H:T OB)(nx:Nat)(k:Value->T OB->Nat->Q):eg P 47 (.agg ⟨[a,b,c,d]⟩) H nx k=ff P 42 d H nx λd H nx=>k (.agg ⟨[a,b,c,d]⟩) H nx:=by kernel_rfl
theorem T_ (a b c d e f:Value)(H:T OB)(nx:Nat)(k:Value->T OB->Nat->Q):eg P 44 (.agg ⟨[a,b,c,d,e,f]⟩) H nx k=ff P 41 d H nx λd H nx=>ff P 42 e H nx λe H nx=>ff P 24 f H nx λf H nx=>k (.agg ⟨[a,b,c,d,e,f]⟩) H nx:=by kernel_rfl
theorem Ua (a b:Value)(H:T OB)(nx:Nat)(k:Value->T OB->Nat->Q):eg P 55 (.agg ⟨[a,b]⟩) H nx k=ff P 53 b H nx λb H nx=>k (.agg ⟨[a,b]⟩) H nx:=by kernel_rfl
theorem Ub (a b c:Value)(H:T OB)(nx:Nat)(k:Value->T OB->Nat->Q):eg P 52 (.agg ⟨[a,b,c]⟩) H nx k=ff P 49 a H nx λa H nx=>ff P 50 c H nx λc H nx=>k (.agg ⟨[a,b,c]⟩) H nx:=by kernel_rfl
theorem Uc {p:bh}{v:Value}(h:I_ p v)(H:T OB)(nx:Nat)(k:Value->T OB->Nat->Q):eg P 47 v H nx k=k p.v H nx:=by
 obtain⟨d,rfl,h⟩:=h;rw[T9,I9 h,p.br]
theorem frExp {p:aH}{v:Value}(h:F8 p v)(H:T OB)(nx:Nat)(k:Value->T OB->Nat->Q):eg P 44 v H nx k=k p.v H nx:=by
 obtain⟨a,b,c,rfl,h1,h2,h3⟩:=h;rw[T_,QU h1,I9 h2,QV h3,p.br]
theorem Ud {p:da}{v:Value}(h:QZ p v)(H:T OB)(nx:Nat)(k:Value->T OB->Nat->Q):eg P 55 v H nx k=k p.v H nx:=by
 obtain⟨d,rfl,h⟩:=h;rw[Ua,QW h,p.br]
theorem Q0 {p:Data}{v:Value}(h:Oy p v)(H:T OB)(nx:Nat)(k:Value->T OB->Nat->Q):eg P 52 v H nx k=k p.v H nx:=by
 obtain⟨d,b,rfl,h,h2⟩:=h;rw[Ub,QX h,QY h2,p.br]
def dK {α:Type}(a b:α):Bool:=@decide (a=b) (Classical.propDecidable _)
theorem Oz {α:Type}{a b:α}(h:a=b):dK a b=true:=by unfold dK;simp[h]
theorem iL {α:Type}{a b:α}(h:a≠b):dK a b=false:=by unfold dK;simp[h]
theorem gF {α:Type}{a b:α}:dK a b=true↔a=b:=by unfold dK;simp
theorem ni {α:Type}(a:α):dK a a=true:=Oz rfl
theorem lG {α β:Type}{a b:α}{c d:β}(h:a=b↔c=d):dK a b=dK c d:=by
 rw[Bool.eq_iff_iff,gF,gF];exact h
theorem dn (a b:List UInt8):decide ((⟨⟨a⟩⟩:ByteArray)=⟨⟨b⟩⟩)=decide (a=b):=by rw[decide_eq_decide];simp
theorem Wq.iT {p:Prop}[Decidable p]{R:Value->T OB->Nat->Prop}{x y:Q}(h:¬p->vo P pl X0 x nx0 H0 R)(h':p->vo P pl X0 y nx0 H0 R):vo P pl X0 (Ev.bK (!decide p) x y) nx0 H0 R:=
 Wq.bK (λq=>h (by simpa using q)) (λq=>h' (by simpa using q))
theorem Wq.Xj (I:T OB->Nat->Prop){α:Type}(l m:List α)(hlm:l.length=m.length)(q:Nat->T OB->Nat->Q)(r:Bool)(hend:∀H1 aE,I H1 aE->Ag nx0 H0 aE H1->Wq P pl X0 (q l.length H1 aE) nx0 H0 (.bool r))
 (hstep:∀(i:Nat) (a b:α) (t u:List α) H1 aE,l[i]? = some a->m[i]? = some b->i<l.length->I H1 aE->Ag nx0 H0 aE H1->(∀H2 nx2,I H2 nx2->Ag nx0 H0 nx2 H2->Wq P pl X0 (q (i+1) H2 nx2) nx0 H0 (.bool (dK t u&&r)))->Wq P pl X0 (q i H1 aE) nx0 H0 (.bool (dK a b&&(dK t u&&r)))) (H1:T OB) (aE:Nat) (hI:I H1 aE) (hA:Ag nx0 H0 aE H1):
 Wq P pl X0 (q 0 H1 aE) nx0 H0 (.bool (dK l m&&r)):=by
 have key:∀(t u:List α) (i:Nat),l.drop i=t->m.drop i=u->i<=l.length->∀H1 aE,I H1 aE->Ag nx0 H0 aE H1->Wq P pl X0 (q i H1 aE) nx0 H0 (.bool (dK t u&&r)):=by
  intro t
  induction t with
  | nil=>
    intro u i hd hu hi H1 aE hI hA;have hil:=drop_nil hd hi;have:u=[]:=by rw[<- hu,List.drop_of_length_le (by omega)]
    rw[this,ni,Bool.true_and,hil];exact hend H1 aE hI hA
  | cons a t ih=>
    intro u i hd hu hi H1 aE hI hA;obtain⟨hg,hlt,hd'⟩:=drop_cons hd;cases u with
    | nil=>
      have:=drop_nil hu (by omega);omega
    | cons b u=>
      obtain⟨hg2,hlt2,hd2⟩:=drop_cons hu;have:dK (a::t) (b::u)=(dK a b&&dK t u):=by
       rw[Bool.eq_iff_iff];simp[gF]
      rw[this,Bool.and_assoc];exact hstep i a b t u H1 aE hg hg2 hlt hI hA λH2 nx2 h1 h2=>ih u (i+1) hd' hd2 (by omega) H2 nx2 h1 h2
 have:=key l m 0 rfl rfl (Nat.zero_le _) H1 aE hI hA;exact this
theorem Wq.zip {α:Type}(l m:List α)(hlm:l.length=m.length)(q:Nat->T OB->Nat->Q)(r:Bool)(hend:∀H1 aE,Ag nx0 H0 aE H1->Wq P pl X0 (q l.length H1 aE) nx0 H0 (.bool r))
 (hstep:∀(i:Nat) (a b:α) (t u:List α) H1 aE,l[i]? = some a->m[i]? = some b->i<l.length->Ag nx0 H0 aE H1->(∀H2 nx2,Ag nx0 H0 nx2 H2->Wq P pl X0 (q (i+1) H2 nx2) nx0 H0 (.bool (dK t u&&r)))->Wq P pl X0 (q i H1 aE) nx0 H0 (.bool (dK a b&&(dK t u&&r)))) (H1:T OB) (aE:Nat) (hA:Ag nx0 H0 aE H1):
 Wq P pl X0 (q 0 H1 aE) nx0 H0 (.bool (dK l m&&r)):=by
 have key:∀(t u:List α) (i:Nat),l.drop i=t->m.drop i=u->i<=l.length->∀H1 aE,Ag nx0 H0 aE H1->Wq P pl X0 (q i H1 aE) nx0 H0 (.bool (dK t u&&r)):=by
  intro t
  induction t with
  | nil=>
    intro u i hd hu hi H1 aE hA;have hil:=drop_nil hd hi;have:u=[]:=by rw[<- hu,List.drop_of_length_le (by omega)]
    rw[this,ni,Bool.true_and,hil];exact hend H1 aE hA
  | cons a t ih=>
    intro u i hd hu hi H1 aE hA;obtain⟨hg,hlt,hd'⟩:=drop_cons hd;cases u with
    | nil=>
      have:=drop_nil hu (by omega);omega
    | cons b u=>
      obtain⟨hg2,hlt2,hd2⟩:=drop_cons hu;have:dK (a::t) (b::u)=(dK a b&&dK t u):=by
       rw[Bool.eq_iff_iff];simp[gF]
      rw[this,Bool.and_assoc];exact hstep i a b t u H1 aE hg hg2 hlt hA λH2 nx2 h2=>ih u (i+1) hd' hd2 (by omega) H2 nx2 h2
 have:=key l m 0 rfl rfl (Nat.zero_le _) H1 aE hA;exact this
theorem OA (l m:List bh)(hl:l.length<cX)(ih:∀a,a∈l->∀b,P0 29 [a.v,b.v] (.bool (dK a b))):P0 32 [cD l,cD m] (.bool (dK l m)):=Pure.of rfl λH nx=>by
 rw[Yp];simp only[af,cc,List.length_map];refine Wq.iT (λh=> ?_) (λh=> ?_)
 . exact Wq.e7 (by rw[iL (λq=>h (by rw[q]))]) (.refl _ _)
 have hlm:l.length=m.length:=by omega
 have:=Wq.zip (nx0:=nx) (H0:=H) l m hlm (λi H nx=> .jump (vO (cD l) (cD m) (i64 (i:Int)) H nx)) true (λH1 aE hA1=> ?_) (λi a b t u H1 aE hg hg2 hlt hA1 ih'=> ?_) H nx (.refl _ _)
 . rw[Bool.and_true]at this;exact this
 . refine Wq.jmp (HO ..) (λ_=>rfl) ?_;simp only[af,cc,List.length_map,aR];exact Wq.ret hA1
 . have hx:(l.map bh.v)[i]? = some a.v:=by simp[hg]
   have hx2:(m.map bh.v)[i]? = some b.v:=by simp[hg2]
   refine Wq.jmp (HO ..) (λ_=>rfl) ?_;simp only[af,cc,List.length_map,aU hlt,o6 hx,o6 hx2];refine Wq.call (ih a (List.mem_of_getElem? hg) b) hA1 λH2 nx2 hA2=> ?_;cases hE:dK a b with
   | false=>simp only[af,Bool.false_and];exact Wq.ret hA2
   | true=>
     simp only[af,Bool.true_and,aG (show i<9223372036854775807 by have:=cU hl;omega)];exact ih' _ _ hA2
theorem Q2 (p q:bh)(v:Value)(hv:I_ p v)(ih:P0 32 [cD p.l,cD q.l] (.bool (dK p.l q.l))):P0 29 [v,q.v] (.bool (dK p q)):=Pure.of rfl λH nx=>by
 rw[Ym,Uc hv];refine Wq.fH (.refl _ _) λhA=> ?_;refine Wq.fH hA λhA=> ?_;simp only[af,cc,List.length_map,dn];refine Wq.ite (λh1=> ?_) (λh1=>Wq.e7 (by rw[iL (λh=>h1 (by rw[h]))]) hA);refine Wq.ite (λh2=> ?_) (λh2=>Wq.e7 (by rw[iL (λh=>h2 (by rw[h]))]) hA);refine Wq.ite (λh3=> ?_) (λh3=>Wq.e7 (by rw[iL (λh=>h3 (by rw[h]))]) hA);refine Wq.call ih hA λH2 nx2 hA2=> ?_;refine Wq.e7 ?_ hA2;rw[lG];cases p;cases q;simp only[bh.k,bh.n,bh.s,bh.l]at h1 h2 h3 ⊢;simp[h1,h2,h3]
theorem OC (p:bh)(hp:p.ok):∀(q:bh) (v:Value),I_ p v->P0 29 [v,q.v] (.bool (dK p q)):=by
 refine bh.ind (p:=λp=>p.ok->∀(q:bh) (v:Value),I_ p v->P0 29 [v,q.v] (.bool (dK p q))) (λp ih hp q v hv=> ?_) p hp;rw[bh.ch]at hp;exact Q2 p q v hv (OA p.l q.l hp.2.2.1 λa ha b=>ih a ha (hp.2.2.2 a ha) b _ a.vv)
theorem Ja (l m:List bh)(hl:l.length<cX)(h:∀a,a∈l->a.ok):P0 32 [cD l,cD m] (.bool (dK l m)):=OA l m hl λa ha b=>OC a (h a ha) b _ a.vv
theorem Jb (l m:List bo)(hl:l.length<cX)(ih:∀a,a∈l->∀m',P0 53 [fx a.l,fx m'] (.bool (dK a.l m'))):P0 53 [fx l,fx m] (.bool (dK l m)):=Pure.of rfl λH nx=>by
 rw[YD];simp only[af,cc,List.length_map];refine Wq.iT (λh=> ?_) (λh=> ?_)
 . exact Wq.e7 (by rw[iL (λq=>h (by rw[q]))]) (.refl _ _)
 have hlm:l.length=m.length:=by omega
 have:=Wq.zip (nx0:=nx) (H0:=H) l m hlm (λi H nx=> .jump (wk (fx l) (fx m) (i64 (i:Int)) H nx)) true (λH1 aE hA1=> ?_) (λi a b t u H1 aE hg hg2 hlt hA1 ih'=> ?_) H nx (.refl _ _)
 . rw[Bool.and_true]at this;exact this
 . refine Wq.jmp (Ik ..) (λ_=>rfl) ?_;simp only[af,cc,List.length_map,aR];exact Wq.ret hA1
 . have hx:(l.map bo.v)[i]? = some a.v:=by simp[hg]
   have hx2:(m.map bo.v)[i]? = some b.v:=by simp[hg2]
   have L16:∀(r:Bool) H2 nx2,Ag nx H nx2 H2->r= !dK a b->Wq P pl X0 (.jump (sB (fx l) (fx m) (i64 (i:Int)) r H2 nx2)) nx H (.bool (dK a b&&(dK t u&&true))):=by
    intro r H2 nx2 hA2 hr;refine Wq.jmp (Qe ..) (λ_=>rfl) ?_;cases hE:dK a b with
    | false=>rw[hE]at hr;rw[hr];exact Wq.ret hA2
    | true=>
      rw[hE]at hr;rw[hr];simp only[af,Bool.true_and,aG (show i<9223372036854775807 by have:=cU hl;omega)];exact ih' _ _ hA2
   refine Wq.jmp (Ik ..) (λ_=>rfl) ?_;simp only[af,cc,List.length_map,aU hlt,sf hx,sf hx2,dn];refine Wq.iT (λh1=>L16 _ _ _ hA1 (by rw[iL (λh=>h1 (by rw[h]))];rfl)) (λh1=> ?_);refine Wq.iT (λh2=>L16 _ _ _ hA1 (by rw[iL (λh=>h2 (by rw[h]))];rfl)) (λh2=> ?_);refine Wq.call (ih a (List.mem_of_getElem? hg) b.l) hA1 λH2 nx2 hA2=> ?_;simp only[af];refine L16 _ _ _ hA2 (congrArg _ (lG ?_));cases a;cases b;simp only[bo.k,bo.s,bo.l]at h1 h2 ⊢;simp[h1,h2]
theorem Q3 (a:bo)(ha:a.ok):∀m,P0 53 [fx a.l,fx m] (.bool (dK a.l m)):=by
 refine bo.ind (p:=λa=>a.ok->∀m,P0 53 [fx a.l,fx m] (.bool (dK a.l m))) (λp ih hp m=> ?_) a ha;rw[bo.ch]at hp;exact Jb p.l m hp.2.1 λa ha m'=>ih a ha (hp.2.2 a ha) m'
theorem Ue (l m:List bo)(hl:l.length<cX)(h:∀a,a∈l->a.ok):P0 53 [fx l,fx m] (.bool (dK l m)):=Jb l m hl λa ha m'=>Q3 a (h a ha) m'
theorem OD (p q:da)(hp:p.ok)(v:Value)(hv:QZ p v):P0 30 [v,q.v] (.bool (dK p q)):=Pure.of rfl λH nx=>by
 rw[Yn,Ud hv];refine Wq.fH (.refl _ _) λhA=> ?_;refine Wq.fH hA λhA=> ?_;simp only[af,cc,List.length_map,dn];refine Wq.ite (λh1=> ?_) (λh1=>Wq.e7 (by rw[iL (λh=>h1 (by rw[h]))]) hA);refine Wq.call (Ue p.arg q.arg hp.2.1 hp.2.2) hA λH2 nx2 hA2=> ?_;refine Wq.e7 ?_ hA2;rw[lG];cases p;cases q;simp only at h1 ⊢;simp[h1]
theorem Uf (p q:Data)(hp:p.ok)(v:Value)(hv:Oy p v):P0 31 [v,q.v] (.bool (dK p q)):=Pure.of rfl λH nx=>by
 rw[Yo,Q0 hv];refine Wq.fH (.refl _ _) λhA=> ?_;refine Wq.fH hA λhA=> ?_;have L6:∀H1 aE,Ag nx H aE H1->p≠q->Wq P pl X0 (.jump (zv (ak p.v) (ak q.v) true H1 aE)) nx H (.bool (dK p q)):=by
  intro H1 aE hA1 h;refine Wq.jmp (Oa ..) (λ_=>rfl) ?_;rw[iL h];exact Wq.ret hA1
 simp only[af,cc,List.length_map,dn];refine Wq.iT (λh1=>L6 _ _ hA λh=>h1 (by rw[h])) (λh1=> ?_);refine Wq.iT (λh2=>L6 _ _ hA λh=>h2 (by rw[h])) (λh2=> ?_);refine Wq.jmp (Oa ..) (λ_=>rfl) ?_;refine Wq.iT (λh3=> ?_) (λh3=> ?_)
 . rw[iL λh=>h3 (by rw[h])];exact Wq.ret hA
 have e0:dK p q=(dK p.vars q.vars&&(dK p.cons q.cons&&true)):=by
  rw[Bool.and_true,Bool.eq_iff_iff,Bool.and_eq_true,gF,gF,gF];cases p;cases q;simp only at h1 ⊢;simp[h1]
 rw[e0];refine Wq.zip (nx0:=nx) (H0:=H) p.vars q.vars (by omega) (λi H nx=> .jump (vM (ak p.v) (ak q.v) (i64 (i:Int)) H nx)) _ (λH1 aE hA1=> ?_) (λi a b t u H1 aE hg hg2 hlt hA1 ih'=> ?_) _ _ hA
 . refine Wq.jmp (HM ..) (λ_=>rfl) ?_;simp only[af,cc,List.length_map,aR];refine Wq.zip (nx0:=nx) (H0:=H) p.cons q.cons (by omega) (λi H nx=> .jump (vN (ak p.v) (ak q.v) (i64 (i:Int)) H nx)) _ (λH1 aE hA1=> ?_) (λi a b t u H1 aE hg hg2 hlt hA1 ih'=> ?_) _ _ hA1
   . refine Wq.jmp (HN ..) (λ_=>rfl) ?_;simp only[af,cc,List.length_map,aR];exact Wq.ret hA1
   . have hx:(p.cons.map da.v)[i]? = some a.v:=by simp[hg]
     have hx2:(q.cons.map da.v)[i]? = some b.v:=by simp[hg2]
     refine Wq.jmp (HN ..) (λ_=>rfl) ?_;simp only[af,cc,List.length_map,aU hlt,zo hx,zo hx2];refine Wq.call (OD a b (hp.2.2.2 a (List.mem_of_getElem? hg)) _ a.vv) hA1 λH2 nx2 hA2=> ?_;cases hE:dK a b with
     | false=>simp only[af,Bool.false_and];exact Wq.ret hA2
     | true=>
       simp only[af,Bool.true_and,aG (show i<9223372036854775807 by have:=cU hp.2.2.1;omega)];exact ih' _ _ hA2
 . have hx:(p.vars.map aD)[i]? = some (aD a):=by simp[hg]
   have hx2:(q.vars.map aD)[i]? = some (aD b):=by simp[hg2]
   refine Wq.jmp (HM ..) (λ_=>rfl) ?_;simp only[af,cc,List.length_map,aU hlt,zn hx,zn hx2,dn];refine Wq.iT (λh=> ?_) (λh=> ?_)
   . rw[iL h];exact Wq.ret hA1
   . rw[Oz h];simp only[af,Bool.true_and,aG (show i<9223372036854775807 by have:=cU hp.1.1;omega)];exact ih' _ _ hA1
end
section
variable {nx0:Nat}{H0:T OB}
theorem Q4 (e q:aH)(he:e.ok)(v:Value)(hv:F8 e v)(h1:∀a,a∈e.l->∀b:aH,P0 25 [a.v,b.v] (.bool (dK a b)))(h2:∀m,P0 14 [bQ e.d,bQ m] (.bool (dK e.d m))):P0 25 [v,q.v] (.bool (dK e q)):=Pure.of rfl λH nx=>by
 rw[aH.ch]at he;rw[Yj,frExp hv];refine Wq.fH (.refl _ _) λhA=> ?_;refine Wq.fH hA λhA=> ?_;have L6:∀H1 aE,Ag nx H aE H1->e≠q->Wq P pl X0 (.jump (o8 (ak e.v) (ak q.v) true H1 aE)) nx H (.bool (dK e q)):=by
  intro H1 aE hA1 h;refine Wq.jmp (N9 ..) (λ_=>rfl) ?_;rw[iL h];exact Wq.ret hA1
 simp only[af,cc,List.length_map,dn];refine Wq.iT (λg1=>L6 _ _ hA λh=>g1 (by rw[h])) (λg1=> ?_);refine Wq.iT (λg2=>L6 _ _ hA λh=>g2 (by rw[h])) (λg2=> ?_);refine Wq.iT (λg3=>L6 _ _ hA λh=>g3 (by rw[h])) (λg3=> ?_);refine Wq.iT (λg4=>L6 _ _ hA λh=>g4 (by rw[h])) (λg4=> ?_);refine Wq.call (Ja e.p q.p he.2.2.2.1.1 he.2.2.2.1.2) hA λH1 aE hA1=> ?_;cases g5:dK e.p q.p with
 | false=>
   simp only[af];exact L6 _ _ hA1 λh=>by rw[h,ni]at g5;cases g5
 | true=>
   simp only[af];refine Wq.call (h2 q.d) hA1 λH2 nx2 hA2=> ?_;cases g6:dK e.d q.d with
   | false=>
     simp only[af];exact L6 _ _ hA2 λh=>by rw[h,ni]at g6;cases g6
   | true=>
     simp only[af];refine Wq.jmp (N9 ..) (λ_=>rfl) ?_;have e0:dK e q=(dK e.l q.l&&true):=by
      rw[Bool.and_true,lG];rw[gF]at g5 g6;cases e;cases q;simp only[aH.k,aH.n,aH.s,aH.p,aH.d,aH.l]at g1 g2 g3 g5 g6 ⊢;simp[g1,g2,g3,g5,g6]
     rw[e0];refine Wq.zip (nx0:=nx) (H0:=H) e.l q.l (by omega) (λi H nx=> .jump (vK (ak e.v) (ak q.v) (i64 (i:Int)) H nx)) _ (λH1 aE hA1=> ?_) (λi a b t u H1 aE hg hg2 hlt hA1 ih'=> ?_) _ _ hA2
     . refine Wq.jmp (HL ..) (λ_=>rfl) ?_;simp only[af,cc,List.length_map,aR];exact Wq.ret hA1
     . have hx:(e.l.map aH.v)[i]? = some a.v:=by simp[hg]
       have hx2:(q.l.map aH.v)[i]? = some b.v:=by simp[hg2]
       refine Wq.jmp (HL ..) (λ_=>rfl) ?_;simp only[af,cc,List.length_map,aU hlt,Dt hx,Dt hx2];refine Wq.call (h1 a (List.mem_of_getElem? hg) b) hA1 λH2 nx2 hA2=> ?_;cases hE:dK a b with
       | false=>simp only[af,Bool.false_and];exact Wq.ret hA2
       | true=>
         simp only[af,Bool.true_and,aG (show i<9223372036854775807 by have:=cU he.2.2.1.1;omega)];exact ih' _ _ hA2
def Q5 (d:a_)(v:Value):Prop:=∃a1 a2 a3 a4 a5 a6 a7 a8,v= .agg ⟨[i64 d.k,i64 d.p.k,i64 d.p.n,aD d.p.s,a1,i64 d.e.k,i64 d.e.n,aD d.e.s,a2,a3,a4,a5,a6,aD d.x.s,a7,aD d.c.s,a8]⟩/\
 pC 4 (d.p.l.map bh.v) a1/\pC 6 (d.e.l.map aH.v) a2/\pC 4 (d.e.p.map bh.v) a3/\pC 17 (d.e.d.map a_.v) a4/\pC 8 (d.f.map Fn.v) a5/\pC 1 (d.x.vars.map aD) a6/\pC 2 (d.x.cons.map da.v) a7/\pC 3 (d.c.arg.map bo.v) a8
theorem a_.vv (d:a_):Q5 d d.v:=⟨_,_,_,_,_,_,_,_,d.br,.row _ _,.row _ _,.row _ _,.row _ _,.row _ _,.row _ _,.row _ _,.row _ _⟩
theorem OE {H:T OB}{b:Nat}{c0 c1 c2 c3 c4 c5 c6 c7 c8 c9 c10 c11 c12 c13 c14 c15 c16:Value}(h:cR H b [c0,c1,c2,c3,c4,c5,c6,c7,c8,c9,c10,c11,c12,c13,c14,c15,c16] 57):
 ae P H 3 (some (.pointer (some ⟨b,0,none⟩)))=some c0/\ae P H 47 (some (.pointer (some ⟨b,1,none⟩)))=some (.agg ⟨[c1,c2,c3,c4]⟩)/\ae P H 44 (some (.pointer (some ⟨b,5,none⟩)))=some (.agg ⟨[c5,c6,c7,c8,c9,c10]⟩)/\
 ae P H 48 (some (.pointer (some ⟨b,11,none⟩)))=some c11/\ae P H 52 (some (.pointer (some ⟨b,12,none⟩)))=some (.agg ⟨[c12,c13,c14]⟩)/\ae P H 55 (some (.pointer (some ⟨b,15,none⟩)))=some (.agg ⟨[c15,c16]⟩):=
 ⟨aw h m_ rfl,bY h cG cf (by simp),bY h bZ bG (by simp),aw h sj rfl,bY h AU zr (by simp),bY h mn il (by simp)⟩
theorem o_ {H:T OB}{b:Nat}{d:a_}(h:cR H b d.cs 57):
 ae P H 3 (some (.pointer (some ⟨b,0,none⟩)))=some (i64 d.k)/\ae P H 47 (some (.pointer (some ⟨b,1,none⟩)))=some d.p.v/\ae P H 44 (some (.pointer (some ⟨b,5,none⟩)))=some d.e.v/\
 ae P H 48 (some (.pointer (some ⟨b,11,none⟩)))=some (w_ d.f)/\ae P H 52 (some (.pointer (some ⟨b,12,none⟩)))=some d.x.v/\ae P H 55 (some (.pointer (some ⟨b,15,none⟩)))=some d.c.v:=by
 rw[a_.fI]at h;have:=OE h;rw[bh.br,aH.br];exact this
theorem uH {H:T OB}{b:Nat}{f:Fn}(h:cR H b f.cs 65):ae P H 9 (some (.pointer (some ⟨b,0,none⟩)))=some (aD f.s)/\ae P H 42 (some (.pointer (some ⟨b,1,none⟩)))=some (cD f.p)/\ae P H 44 (some (.pointer (some ⟨b,2,none⟩)))=some f.b.v:=by
 rw[Fn.fI]at h;rw[aH.br];exact⟨aw h lX rfl,aw h gv rfl,bY h bZ bG (by simp)⟩
theorem OF {d:a_}{v:Value}(h:Q5 d v)(H:T OB):ae P H 57 (some (ak v))=some v/\v.cells.toList.length=17/\v.cells.toList.all aA=true:=by
 obtain⟨a1,a2,a3,a4,a5,a6,a7,a8,rfl,h1,h2,h3,h4,h5,h6,h7,h8⟩:=h;refine⟨by kernel_rfl,rfl,?_⟩;have key:∀s l x,pC s l x->aA x=true:=λs l x h=>by rcases h with rfl | ⟨_,rfl⟩<;>rfl
 simp[Value.cells,key _ _ _ h1,key _ _ _ h2,key _ _ _ h3,key _ _ _ h4,key _ _ _ h5,key _ _ _ h6,key _ _ _ h7,key _ _ _ h8]
theorem Jc {l:List Value}{v:Value}(h:pC 8 l v):aN P #[48] 3 (some [v])=some (i64 (l.length:Int)):=by
 rcases h with rfl | ⟨rfl,rfl⟩
 . exact vA _ _ _
 . exact vB _
theorem LV (d q:a_):dK d q=(decide (d.k=q.k)&&(dK d.p q.p&&(dK d.e q.e&&(dK d.c q.c&&(dK d.x q.x&&dK d.f q.f))))):=by
 rw[Bool.eq_iff_iff];simp only[Bool.and_eq_true,gF,decide_eq_true_eq];cases d;cases q;simp only[a_.k,a_.p,a_.e,a_.c,a_.x,a_.f,a_.mk.injEq];exact⟨λ⟨a,b,c,d,e,f⟩=>⟨a,b,c,f,e,d⟩,λ⟨a,b,c,d,e,f⟩=>⟨a,b,c,f,e,d⟩⟩
theorem Q6 (d q:Fn):dK d q=(decide (d.s=q.s)&&(dK d.p q.p&&dK d.b q.b)):=by
 rw[Bool.eq_iff_iff];simp only[Bool.and_eq_true,gF,decide_eq_true_eq];cases d;cases q;simp only[Fn.s,Fn.p,Fn.b,Fn.mk.injEq]
theorem Xk (l m:List a_)(vs:List Value)(hl:l.length<cX)(hok:∀d,d∈l->d.ok)(hn:vs.length=l.length)(hvs:∀(i:Nat) d v,l[i]? = some d->vs[i]? = some v->Q5 d v)
 (hE:∀d,d∈l->∀v,F8 d.e v->∀q:aH,P0 25 [v,q.v] (.bool (dK d.e q))) (hF:∀d,d∈l->∀f,f∈d.f->∀q:aH,P0 25 [f.b.v,q.v] (.bool (dK f.b q))) (hlm:l.length=m.length) (H1:T OB) (aE:Nat) (hA:Ag nx0 H0 aE H1):
 Wq P pl X0 (.jump (so (bn 17 vs) (bQ m) (i64 ((0:Nat):Int)) H1 aE)) nx0 H0 (.bool (dK l m)):=by
 have:=Wq.zip l m hlm (λi H nx=> .jump (so (bn 17 vs) (bQ m) (i64 (i:Int)) H nx)) true (λH1 aE hA1=> ?_) (λi d q t u H1 aE hg hg2 hlt hA1 ih'=> ?_) H1 aE hA
 . rw[Bool.and_true]at this;exact this
 . refine Wq.jmp (HI ..) (λ_=>rfl) ?_;simp only[af,cc,List.length_map,hn,aR];exact Wq.ret hA1
 have hx:vs[i]? = some (vs[i]'(by omega)):=List.getElem?_eq_getElem _;generalize hv0:vs[i]'(by omega)=v at hx;have hv:=hvs i d v hg hx;have hx2:(m.map a_.v)[i]? = some q.v:=by simp[hg2]
 have hd:=List.mem_of_getElem? hg;have ok:=(a_.ch d).1 (hok d hd);refine Wq.jmp (HI ..) (λ_=>rfl) ?_;obtain⟨l1,l2,l3⟩:=OF hv H1;simp only[af,cc,List.length_map,hn,aU hlt,Dr hx,Dr hx2,l1];refine Wq.alloc cW hA1 λH2 hb2 _ hA2=> ?_;refine Wq.alloc cW hA2 λH3 hb3 k3 hA3=> ?_;refine Wq.store (k3 _ _ _ (by omega) hb2) dz (by simp) l2 l3 hA3 (by have:=hA1.1;omega) λH4 hb4 k4 hA4=> ?_;simp only[af,l1,(OF hv H4).1,QJ];refine Wq.store (k4 _ _ _ (by omega) hb3) dz (by simp) (TZ q) (T0 q) hA4 (by have:=hA1.1;omega) λH5 hb5 k5 hA5=> ?_;have hb1:cR H5 aE v.cells.toList 57:=by
  have:=k5 _ _ _ (by omega) hb4;obtain⟨a1,a2,a3,a4,a5,a6,a7,a8,rfl,_⟩:=hv;exact this
 have hb2:cR H5 (aE+1) q.cs 57:=by
  rw[a_.br]at hb5;rw[a_.fI];exact hb5
 clear hb5 hb4 hb3 k3 k4 k5;obtain⟨a1,a2,a3,a4,a5,a6,a7,a8,rfl,i1,i2,i3,i4,i5,i6,i7,i8⟩:=hv;have D:=λH' (h:cR H' aE (Value.agg ⟨[i64 d.k,i64 d.p.k,i64 d.p.n,aD d.p.s,a1,i64 d.e.k,i64 d.e.n,aD d.e.s,a2,a3,a4,a5,a6,aD d.x.s,a7,aD d.c.s,a8]⟩).cells.toList 57)=>OE (H:=H') h;have L18:∀H' nx',Ag nx0 H0 nx' H'->dK d q=false->Wq P pl X0 (.jump (kM (bn 17 vs) (bQ m) (i64 (i:Int)) (.pointer (some ⟨aE,0,none⟩)) (.pointer (some ⟨aE+1,0,none⟩)) true H' nx')) nx0 H0 (.bool (dK d q&&(dK t u&&true))):=by
  intro H' nx' hA' h;refine Wq.jmp (HJ ..) (λ_=>rfl) ?_;rw[h];exact Wq.ret hA'
 rw[LV]at L18 ⊢;simp only[af,vq,vr,vt,m9,vu,vw,(D _ hb1).1,(o_ hb2).1];refine Wq.iT (λg1=>L18 _ _ hA5 (by simp[g1])) (λg1=> ?_);rw[show decide (d.k=q.k)=true by simp[g1],Bool.true_and]at L18 ⊢;simp only[af,(D _ hb1).2.1,(o_ hb2).2.1];refine Wq.eQ (OC d.p ok.1 q.p _ ⟨a1,rfl,i1⟩) hA5 λH6 nx6 hA6 n6 k6=> ?_;replace hb1:=k6 _ _ _ (by omega) hb1;replace hb2:=k6 _ _ _ (by omega) hb2;cases g2:dK d.p q.p with
 | false=>rw[g2]at L18;simp only[af];exact L18 _ _ hA6 rfl
 | true=>
 rw[g2,Bool.true_and]at L18;rw[Bool.true_and];simp only[af,(D _ hb1).2.2.1,(o_ hb2).2.2.1];refine Wq.eQ (hE d hd _ ⟨a2,a3,a4,rfl,i2,i3,i4⟩ q.e) hA6 λH7 nx7 hA7 n7 k7=> ?_;replace hb1:=k7 _ _ _ (by omega) hb1;replace hb2:=k7 _ _ _ (by omega) hb2;cases g3:dK d.e q.e with
 | false=>rw[g3]at L18;simp only[af];exact L18 _ _ hA7 rfl
 | true=>
 rw[g3,Bool.true_and]at L18;rw[Bool.true_and];simp only[af,(D _ hb1).2.2.2.1,(o_ hb2).2.2.2.1,Jc i5,vA,List.length_map];refine Wq.iT (λg4=>L18 _ _ hA7 (by rw[show dK d.f q.f=false from iL λh=>g4 (by rw[h])];simp)) (λg4=> ?_);have hfl:d.f.length=q.f.length:=by omega
 simp only[af,(D _ hb1).2.2.2.2.2,(o_ hb2).2.2.2.2.2];refine Wq.eQ (OD d.c q.c ok.2.2.2.2 _ ⟨a8,rfl,i8⟩) hA7 λH8 nx8 hA8 n8 k8=> ?_;replace hb1:=k8 _ _ _ (by omega) hb1;replace hb2:=k8 _ _ _ (by omega) hb2;cases g5:dK d.c q.c with
 | false=>rw[g5]at L18;simp only[af];exact L18 _ _ hA8 rfl
 | true=>
 rw[g5,Bool.true_and]at L18;rw[Bool.true_and];simp only[af,(D _ hb1).2.2.2.2.1,(o_ hb2).2.2.2.2.1];refine Wq.eQ (Uf d.x q.x ok.2.2.2.1 _ ⟨a6,a7,rfl,i6,i7⟩) hA8 λH9 nx9 hA9 n9 k9=> ?_;replace hb1:=k9 _ _ _ (by omega) hb1;replace hb2:=k9 _ _ _ (by omega) hb2;cases g6:dK d.x q.x with
 | false=>rw[g6]at L18;simp only[af];exact L18 _ _ hA9 rfl
 | true=>
 rw[Bool.true_and];simp only[af];refine Wq.jmp (HJ ..) (λ_=>rfl) ?_;have hn1:nx0<=aE:=hA1.1;have hn9:aE+2<=nx9:=by omega
 clear L18 g1 g2 g3 g4 g5 g6 n6 n7 n8 n9 k6 k7 k8 k9 hA5 hA6 hA7 hA8 hA4 hA3 hA2;refine Wq.Xj (λH nx=>(cR H aE (Value.agg ⟨[i64 d.k,i64 d.p.k,i64 d.p.n,aD d.p.s,a1,i64 d.e.k,i64 d.e.n,aD d.e.s,a2,a3,a4,a5,a6,aD d.x.s,a7,aD d.c.s,a8]⟩).cells.toList 57/\cR H (aE+1) q.cs 57)/\aE+2<=nx) d.f q.f hfl (λj H nx=> .jump (vG (bn 17 vs) (bQ m) (i64 (i:Int)) (.pointer (some ⟨aE,0,none⟩)) (.pointer (some ⟨aE+1,0,none⟩)) (i64 (j:Int)) H nx)) _ (λHz nz hI hB1=> ?_) (λj a b t' u' Hz nz kg kg2 klt hI hB1 jh=> ?_) _ _ ⟨⟨hb1,hb2⟩,hn9⟩ hA9
 . refine Wq.jmp (HK ..) (λ_=>rfl) ?_;simp only[af,m9,(D _ hI.1.1).2.2.2.1,Jc i5,List.length_map,aR,aG (show i<9223372036854775807 by have:=cU hl;omega)];exact ih' _ _ hB1
 have jx:(d.f.map Fn.v)[j]? = some a.v:=by simp[kg]
 have jx2:(q.f.map Fn.v)[j]? = some b.v:=by simp[kg2]
 have ha:=List.mem_of_getElem? kg;have e5:a5=w_ d.f:=by
  rcases i5 with h | ⟨h,_⟩
  . exact h
  . rw[h]at jx;cases jx
 subst e5;have oka:=(Fn.ch a).1 (ok.2.2.1.2 a ha);obtain⟨⟨hb1,hb2⟩,hn2⟩:=hI;refine Wq.jmp (HK ..) (λ_=>rfl) ?_;simp only[af,cc,List.length_map,m9,(D _ hb1).2.2.2.1,(o_ hb2).2.2.2.1,aU klt,uC jx,uC jx2];refine Wq.alloc eZ hB1 λH2 hc1 s2 hB2=> ?_;refine Wq.alloc eZ hB2 λH3 hc2 s3 hB3=> ?_;replace hb1:=s3 _ _ _ (by omega) (s2 _ _ _ (by omega) hb1);replace hb2:=s3 _ _ _ (by omega) (s2 _ _ _ (by omega) hb2);refine Wq.store (s3 _ _ _ (by omega) hc1) jl (by simp) (Xe a) (Xf a) hB3 (by have:=hB1.1;omega) λH4 hc1 s4 hB4=> ?_;replace hb1:=s4 _ _ _ (by omega) hb1;replace hb2:=s4 _ _ _ (by omega) hb2;simp only[af,Xd,(o_ hb2).2.2.2.1];refine Wq.store (s4 _ _ _ (by omega) hc2) jl (by simp) (Xe b) (Xf b) hB4 (by have:=hB1.1;omega) λH5 hc2 s5 hB5=> ?_;replace hb1:=s5 _ _ _ (by omega) hb1;replace hb2:=s5 _ _ _ (by omega) hb2;replace hc1:cR H5 nz a.cs 65:=by
  have:=s5 _ _ _ (by omega) hc1;rw[Fn.br]at this;rw[Fn.fI];exact this
 replace hc2:cR H5 (nz+1) b.cs 65:=by
  rw[Fn.br]at hc2;rw[Fn.fI];exact hc2
 clear s2 s3 s4 s5 hB2 hB3 hB4;have M30:∀(r:Bool) H' nx',nz<=nx'->r=dK a b->cR H' aE (Value.agg ⟨[i64 d.k,i64 d.p.k,i64 d.p.n,aD d.p.s,a1,i64 d.e.k,i64 d.e.n,aD d.e.s,a2,a3,a4,w_ d.f,a6,aD d.x.s,a7,aD d.c.s,a8]⟩).cells.toList 57->cR H' (aE+1) q.cs 57->Ag nx0 H0 nx' H'->Wq P pl X0 (.jump (sq (bn 17 vs) (bQ m) (i64 (i:Int)) (.pointer (some ⟨aE,0,none⟩)) (.pointer (some ⟨aE+1,0,none⟩)) (i64 (j:Int)) (!r) H' nx')) nx0 H0 (.bool (dK a b&&(dK t' u'&&(dK t u&&true)))):=by
  intro r H' nx' hn hr g1 g2 hA';refine Wq.jmp (PV ..) (λ_=>rfl) ?_;rw[<- hr];cases r with
  | false=>exact Wq.ret hA'
  | true=>
    simp only[af,Bool.true_and,aG (show j<9223372036854775807 by have:=cU ok.2.2.1.1;omega)];exact jh _ _ ⟨⟨g1,g2⟩,by omega⟩ hA'
 have hz:=Q6 a b;simp only[af,vx,vy,vz,(uH hc1).1,(uH hc2).1,dn];refine Wq.iT (λg1=>M30 false _ _ (by omega) (by rw[hz];simp[g1]) hb1 hb2 hB5) (λg1=> ?_);simp only[af,(uH hc1).2.1,(uH hc2).2.1];refine Wq.eQ (Ja a.p b.p oka.2.1.1 oka.2.1.2) hB5 λH6 nx6 hB6 n6 k6=> ?_;replace hb1:=k6 _ _ _ (by omega) hb1;replace hb2:=k6 _ _ _ (by omega) hb2;replace hc1:=k6 _ _ _ (by omega) hc1;replace hc2:=k6 _ _ _ (by omega) hc2;cases g2:dK a.p b.p with
 | false=>simp only[af];exact M30 false _ _ (by omega) (by rw[hz];simp[g2]) hb1 hb2 hB6
 | true=>
 simp only[af,(uH hc1).2.2,(uH hc2).2.2];refine Wq.eQ (hF d hd a ha b.b) hB6 λH7 nx7 hB7 n7 k7=> ?_;replace hb1:=k7 _ _ _ (by omega) hb1;replace hb2:=k7 _ _ _ (by omega) hb2;simp only[af];exact M30 _ _ _ (by omega) (by rw[hz];simp[g1,g2]) hb1 hb2 hB7
theorem sP (es:List Value)(H:T OB)(nx:Nat)(k:Value->T OB->Nat->Q):eg P 24 (bn 17 es) H nx k=k (bn 17 es) H nx:=by kernel_rfl
theorem OG (l m:List a_)(hl:l.length<cX)(hok:∀d,d∈l->d.ok)(hE:∀d,d∈l->∀v,F8 d.e v->∀q:aH,P0 25 [v,q.v] (.bool (dK d.e q)))(hF:∀d,d∈l->∀f,f∈d.f->∀q:aH,P0 25 [f.b.v,q.v] (.bool (dK f.b q))):P0 14 [bQ l,bQ m] (.bool (dK l m)):=Pure.of rfl λH nx=>by
 rw[TM,sP,sP];simp only[af,cc,List.length_map];refine Wq.iT (λh=> ?_) (λh=> ?_)
 . exact Wq.e7 (by rw[iL (λq=>h (by rw[q]))]) (.refl _ _)
 exact Xk l m _ hl hok (by simp) (λi d v h1 h2=>by
  rw[List.getElem?_map,h1]at h2;cases h2;exact d.vv) hE hF (by omega) _ _ (.refl _ _)
def im (e:aH):Prop:=∀(q:aH) (v:Value),F8 e v->P0 25 [v,q.v] (.bool (dK e q))
theorem Es:(∀e:aH,e.ok->im e)/\∀d:a_,d.ok->im d.e/\∀f,f∈d.f->im f.b:=by
 have A:∀e:aH,(∀c,c∈e.l->c.ok->im c)->(∀d,d∈e.d->d.ok->im d.e/\∀f,f∈d.f->im f.b)->e.ok->im e:=λe h1 h2 h q v hv=>by
  have h':=(aH.ch e).1 h;exact Q4 e q h v hv (λa ha b=>h1 a ha (h'.2.2.1.2 a ha) b _ a.vv) λm=>OG e.d m h'.2.2.2.2.1 h'.2.2.2.2.2 (λd hd v hv q=>(h2 d hd (h'.2.2.2.2.2 d hd)).1 q v hv) λd hd f hf q=>(h2 d hd (h'.2.2.2.2.2 d hd)).2 f hf q _ f.b.vv
 have B:∀d:a_,(d.e.ok->im d.e)->(∀f,f∈d.f->f.b.ok->im f.b)->d.ok->im d.e/\∀f,f∈d.f->im f.b:=λd h1 h2 h=>by
  have h':=(a_.ch d).1 h;exact⟨h1 h'.2.1,λf hf=>h2 f hf ((Fn.ch f).1 (h'.2.2.1.2 f hf)).2.2⟩
 exact⟨aH.ind A B,a_.ind A B⟩
end
section
variable {nx0:Nat}{H0:T OB}
theorem xh (c:UInt8)(lo hi:Nat):P0 144 [b8 c,.int .u8 (lo:Int),.int .u8 (hi:Int)] (.bool (decide (lo<=c.toNat)&&decide (c.toNat<=hi))):=Pure.of rfl λH nx=>by
 rw[Wx];simp only[af];have e1:decide ((lo:Int)<=(c.toNat:Int))=decide (lo<=c.toNat):=by rw[decide_eq_decide];omega
 have e2:decide ((c.toNat:Int)<=(hi:Int))=decide (c.toNat<=hi):=by rw[decide_eq_decide];omega
 rw[e1];refine Wq.bK (λh=> ?_) (λh=> ?_)
 . rw[h,Bool.true_and,<- e2];exact Wq.ret (.refl _ _)
 . rw[h,Bool.false_and];exact Wq.ret (.refl _ _)
theorem Bb (c:UInt8):P0 144 [b8 c,.int .u8 97,.int .u8 122] (.bool (cb c)):=xh c 97 122
theorem xi (c:UInt8):P0 144 [b8 c,.int .u8 65,.int .u8 90] (.bool (bS c)):=xh c 65 90
theorem xj (c:UInt8):P0 144 [b8 c,.int .u8 48,.int .u8 57] (.bool (bH c)):=xh c 48 57
theorem Jd (c:UInt8):decide ((c.toNat:Int)=39)=decide (c.toNat=39):=by rw[decide_eq_decide];omega
theorem Ug (c:UInt8):decide ((c.toNat:Int)=95)=decide (c.toNat=95):=by rw[decide_eq_decide];omega
theorem Je (c:UInt8):P0 156 [b8 c] (.bool (gN c)):=Pure.of rfl λH nx=>by
 rw[WJ];unfold gN;refine Wq.call (Bb c) (.refl _ _) λH1 aE hA1=> ?_;simp only[af,Jd,Ug];refine Wq.bK (λh=>by rw[h,Bool.true_or];exact Wq.ret hA1) (λh=> ?_);rw[h,Bool.false_or];refine Wq.call (xi c) hA1 λH2 nx2 hA2=> ?_;simp only[af];refine Wq.bK (λh=>by rw[h,Bool.true_or];exact Wq.ret hA2) (λh=> ?_);rw[h,Bool.false_or];refine Wq.call (xj c) hA2 λH3 nx3 hA3=> ?_;simp only[af];refine Wq.bK (λh=>by rw[h,Bool.true_or];exact Wq.ret hA3) (λh=> ?_);rw[h,Bool.false_or];refine Wq.bK (λh=>by rw[h,Bool.true_or];exact Wq.ret hA3) (λh=> ?_);rw[h,Bool.false_or];exact Wq.ret hA3
theorem Uh (l:List (List UInt8))(hl:l.length<cX)(s:List UInt8):∀(r:List (List UInt8)) (i:Nat) (H:T OB) (nx:Nat),l.drop i=r->i<=l.length->Ag nx0 H0 nx H->Wq P pl X0 (.jump (wI (gk l) (aD s) (i64 (i:Int)) H nx)) nx0 H0 (.bool (r.contains s)):=by
 intro r
 induction r with
 | nil=>
   intro i H nx hd hi hA;have hil:=drop_nil hd hi;refine Wq.jmp (Iz ..) (λ_=>rfl) ?_;simp only[af,cc,List.length_map,hil,aR];exact Wq.ret hA
 | cons x r ih=>
   intro i H nx hd hi hA;obtain⟨hg,hlt,hd'⟩:=drop_cons hd;have hg':(l.map aD)[i]? = some (aD x):=by simp[hg]
   refine Wq.jmp (Iz ..) (λ_=>rfl) ?_;simp only[af,cc,List.length_map,aU hlt,zn hg',dn,aG (show i<9223372036854775807 by have:=cU hl;omega)];refine Wq.ite (λh=> ?_) (λh=> ?_)
   . exact Wq.e7 (by subst h;simp) hA
   . have:((x::r).contains s)=r.contains s:=by rw[List.contains_cons,show(s == x)=false from by simp;exact λq=>h q.symm,Bool.false_or]
     rw[this];exact ih (i+1) H nx hd' (by omega) hA
theorem Ui (es:List Value)(H:T OB)(nx:Nat)(k:Value->T OB->Nat->Q):eg P 49 (bn 1 es) H nx k=k (bn 1 es) H nx:=by kernel_rfl
theorem Jf (l:List (List UInt8))(hl:l.length<cX)(s:List UInt8):P0 115 [gk l,aD s] (.bool (l.contains s)):=Pure.of rfl λH nx=>by
 rw[Wj,Ui];exact Uh l hl s l 0 H nx rfl (Nat.zero_le _) (.refl _ _)
theorem iM:bX P 9=some [.string ⟨⟨[]⟩⟩]:=by kernel_rfl
theorem Wq.S7 {b n:Nat}{l:List (List UInt8)}{H:T OB}{nx:Nat}{R:Value->T OB->Nat->Prop}{k:Value->T OB->Nat->Q}(hb:cR H b (l.map aD) 9)(hl:l.length=n)(h:Ag nx0 H0 nx H)(hbn:nx0<=b)
 (hk:∀H',(∀c l e,c≠b->cR H c l e->cR H' c l e)->Ag nx0 H0 (nx+1) H'->vo P pl X0 (k (gk l) H' (nx+1)) nx0 H0 R):vo P pl X0 (eg P 49 (.slice (some ⟨b,0,none⟩) n n) H nx k) nx0 H0 R:=by
 subst hl;have hch:chunk false 1 l.length (l.map aD)=some (l.map aD):=by
  have:=iK (l.map aD);rwa[List.length_map]at this
 exact Wq.TB fY gT lX rfl hb (by simp) (by rw[Nat.ble_eq_true_of_le (Nat.le_refl _),Bool.or_true]) hch (by simp[Ev.bK]) h hbn hk
theorem Q7:Instr.fill (λi=>some (i*1,1)) (bI [Value.string ⟨⟨[]⟩⟩] (26*1)) [(0,(.string ⟨⟨[97,110,100]⟩⟩)),(1,(.string ⟨⟨[97,110,100,97,108,115,111]⟩⟩)),(2,(.string ⟨⟨[99,97,115,101]⟩⟩)),(3,(.string ⟨⟨[100,97,116,97,116,121,112,101]⟩⟩)),(4,(.string ⟨⟨[100,105,118]⟩⟩)),(5,(.string ⟨⟨[101,108,115,101]⟩⟩)),(6,(.string ⟨⟨[101,110,100]⟩⟩)),(7,(.string ⟨⟨[101,120,99,101,112,116,105,111,110]⟩⟩)),(8,(.string ⟨⟨[102,110]⟩⟩)),(9,(.string ⟨⟨[102,117,110]⟩⟩)),(10,(.string ⟨⟨[104,97,110,100,108,101]⟩⟩)),(11,(.string ⟨⟨[105,102]⟩⟩)),(12,(.string ⟨⟨[105,110]⟩⟩)),(13,(.string ⟨⟨[105,116,111,115]⟩⟩)),(14,(.string ⟨⟨[108,101,116]⟩⟩)),(15,(.string ⟨⟨[109,111,100]⟩⟩)),(16,(.string ⟨⟨[110,111,116]⟩⟩)),(17,(.string ⟨⟨[111,102]⟩⟩)),(18,(.string ⟨⟨[111,114,100]⟩⟩)),(19,(.string ⟨⟨[111,114,101,108,115,101]⟩⟩)),(20,(.string ⟨⟨[114,97,105,115,101]⟩⟩)),(21,(.string ⟨⟨[114,101,102]⟩⟩)),(22,(.string ⟨⟨[115,105,122,101]⟩⟩)),(23,(.string ⟨⟨[115,116,114]⟩⟩)),(24,(.string ⟨⟨[116,104,101,110]⟩⟩)),(25,(.string ⟨⟨[118,97,108]⟩⟩))]=some ⟨f_.map aD⟩:=by kernel_rfl
theorem Q8:P0 157 [] (gk f_):=Pure.of rfl λH nx=>by
 rw[WK];refine Wq.row fY gT iM rfl (Q7) (.refl _ _) λH1 hb1 _ hA1=> ?_;refine Wq.S7 (l:=f_) hb1 rfl hA1 (Nat.le_refl _) λH2 _ hA2=> ?_;exact Wq.ret hA2
theorem Q9:Instr.fill (λi=>some (i*1,1)) (bI [Value.string ⟨⟨[]⟩⟩] (22*1)) [(0,(.string ⟨⟨[45,62]⟩⟩)),(1,(.string ⟨⟨[61,62]⟩⟩)),(2,(.string ⟨⟨[58,58]⟩⟩)),(3,(.string ⟨⟨[58,61]⟩⟩)),(4,(.string ⟨⟨[60,61]⟩⟩)),(5,(.string ⟨⟨[62,61]⟩⟩)),(6,(.string ⟨⟨[60,62]⟩⟩)),(7,(.string ⟨⟨[61]⟩⟩)),(8,(.string ⟨⟨[60]⟩⟩)),(9,(.string ⟨⟨[62]⟩⟩)),(10,(.string ⟨⟨[43]⟩⟩)),(11,(.string ⟨⟨[45]⟩⟩)),(12,(.string ⟨⟨[42]⟩⟩)),(13,(.string ⟨⟨[94]⟩⟩)),(14,(.string ⟨⟨[33]⟩⟩)),(15,(.string ⟨⟨[126]⟩⟩)),(16,(.string ⟨⟨[40]⟩⟩)),(17,(.string ⟨⟨[41]⟩⟩)),(18,(.string ⟨⟨[44]⟩⟩)),(19,(.string ⟨⟨[59]⟩⟩)),(20,(.string ⟨⟨[124]⟩⟩)),(21,(.string ⟨⟨[95]⟩⟩))]=some ⟨bu.map aD⟩:=by kernel_rfl
theorem Q_:P0 116 [] (gk bu):=Pure.of rfl λH nx=>by
 rw[Wk];refine Wq.row fY gT iM rfl (Q9) (.refl _ _) λH1 hb1 _ hA1=> ?_;refine Wq.S7 (l:=bu) hb1 rfl hA1 (Nat.le_refl _) λH2 _ hA2=> ?_;exact Wq.ret hA2
theorem Ra:Instr.fill (λi=>some (i*1,1)) (bI [Value.string ⟨⟨[]⟩⟩] (8*1)) [(0,(.string ⟨⟨[126]⟩⟩)),(1,(.string ⟨⟨[33]⟩⟩)),(2,(.string ⟨⟨[110,111,116]⟩⟩)),(3,(.string ⟨⟨[114,101,102]⟩⟩)),(4,(.string ⟨⟨[115,105,122,101]⟩⟩)),(5,(.string ⟨⟨[115,116,114]⟩⟩)),(6,(.string ⟨⟨[111,114,100]⟩⟩)),(7,(.string ⟨⟨[105,116,111,115]⟩⟩))]=some ⟨eA.map aD⟩:=by kernel_rfl
theorem Rb:P0 142 [] (gk eA):=Pure.of rfl λH nx=>by
 rw[Ww];refine Wq.row fY gT iM rfl (Ra) (.refl _ _) λH1 hb1 _ hA1=> ?_;refine Wq.S7 (l:=eA) hb1 rfl hA1 (Nat.le_refl _) λH2 _ hA2=> ?_;exact Wq.ret hA2
theorem Jg (s:List UInt8)(hl:s.length<cX):∀(r:List UInt8) (i:Nat) (H:T OB) (nx:Nat),s.drop i=r->i<=s.length->Ag nx0 H0 nx H->Wq P pl X0 (.jump (pW (aD s) (i64 (i:Int)) H nx)) nx0 H0 (.bool (r.all gN)):=by
 intro r
 induction r with
 | nil=>
   intro i H nx hd hi hA;have hil:=drop_nil hd hi;refine Wq.jmp (D2 ..) (λ_=>rfl) ?_;simp only[af,aK _ aV,aP,hil,aR];exact Wq.ret hA
 | cons c r ih=>
   intro i H nx hd hi hA;obtain⟨hg,hlt,hd'⟩:=drop_cons hd;refine Wq.jmp (D2 ..) (λ_=>rfl) ?_;simp only[af,aK _ aV,aP,aU hlt,a9 aV hg];refine Wq.call (Je c) hA λH1 aE hA1=> ?_;simp only[af];rw[List.all_cons];cases gN c with
   | false=>exact Wq.ret hA1
   | true=>
     simp only[af,aG (show i<9223372036854775807 by have:=cU hl;omega),Bool.true_and];exact ih (i+1) H1 aE hd' (by omega) hA1
theorem OH (a:UInt8)(r:List UInt8):aL P 9 (some (aD (a::r))) (some (.int .i64 0))=some (b8 a):=by
 have:=a9 (P:=P) aV (l:=a::r) (i:=0) (c:=a) rfl .i64;exact this
theorem VI (a b:UInt8)(r:List UInt8):aL P 9 (some (aD (a::b::r))) (some (.int .i64 1))=some (b8 b):=a9 (P:=P) aV (l:=a::b::r) (i:=1) (c:=b) rfl .i64
theorem VJ (a b c:UInt8)(r:List UInt8):aL P 9 (some (aD (a::b::c::r))) (some (.int .i64 2))=some (b8 c):=a9 (P:=P) aV (l:=a::b::c::r) (i:=2) (c:=c) rfl .i64
theorem X2 (a b c d:UInt8)(r:List UInt8):aL P 9 (some (aD (a::b::c::d::r))) (some (.int .i64 3))=some (b8 d):=a9 (P:=P) aV (l:=a::b::c::d::r) (i:=3) (c:=d) rfl .i64
theorem Et (a:UInt8)(r:List UInt8):decide (a::r=[])=false:=by simp
theorem Rc (s:List UInt8)(hl:s.length<cX):P0 112 [aD s] (.bool (isWord s)):=Pure.of rfl λH nx=>by
 rw[Wg];cases s with
 | nil=>
   simp only[af,dn];refine Wq.jmp (Ix ..) (λ_=>rfl) ?_;exact Wq.ret (.refl _ _)
 | cons a r=>
   have L6:∀(b:Bool) H1 aE,Ag nx H aE H1->b= !(cb a||bS a)->Wq P pl X0 (.jump (sE (aD (a::r)) b H1 aE)) nx H (.bool (isWord (a::r))):=by
    intro b H1 aE hA1 hb;refine Wq.jmp (Ix ..) (λ_=>rfl) ?_;show Wq P pl X0 _ nx H (.bool ((cb a||bS a)&&r.all gN));cases hx:cb a||bS a with
    | true=>rw[hx]at hb;rw[hb,Bool.true_and];exact Jg (a::r) hl r 1 H1 aE rfl (by simp) hA1
    | false=>rw[hx]at hb;rw[hb,Bool.false_and];exact Wq.ret hA1
   simp only[af,dn,Et,OH];refine Wq.call (Bb a) (.refl _ _) λH1 aE hA1=> ?_;simp only[af];cases kC:cb a with
   | true=>simp only[af];exact L6 false _ _ hA1 (by rw[kC];rfl)
   | false=>
     simp only[af];refine Wq.call (xi a) hA1 λH2 nx2 hA2=> ?_;simp only[af];exact L6 _ _ _ hA2 (by rw[kC,Bool.false_or])
theorem Jh (s:List UInt8)(hl:s.length<cX):∀(r:List UInt8) (i:Nat) (H:T OB) (nx:Nat),s.drop i=r->i<=s.length->Ag nx0 H0 nx H->Wq P pl X0 (.jump (pX (aD s) (i64 (i:Int)) H nx)) nx0 H0 (.bool (r.all λc=> !decide (c.toNat=39)&&gN c)):=by
 intro r
 induction r with
 | nil=>
   intro i H nx hd hi hA;have hil:=drop_nil hd hi;refine Wq.jmp (D3 ..) (λ_=>rfl) ?_;simp only[af,aK _ aV,aP,hil,aR];exact Wq.ret hA
 | cons c r ih=>
   intro i H nx hd hi hA;obtain⟨hg,hlt,hd'⟩:=drop_cons hd;have L16:∀(b:Bool) H1 aE,Ag nx0 H0 aE H1->b= !(!decide (c.toNat=39)&&gN c)->Wq P pl X0 (.jump (pY (aD s) (i64 (i:Int)) b H1 aE)) nx0 H0 (.bool ((c::r).all λc=> !decide (c.toNat=39)&&gN c)):=by
    intro b H1 aE hA1 hb;refine Wq.jmp (Lg ..) (λ_=>rfl) ?_;rw[List.all_cons];cases hx:(!decide (c.toNat=39)&&gN c)with
    | false=>rw[hx]at hb;rw[hb,Bool.false_and];exact Wq.ret hA1
    | true=>
      rw[hx]at hb;rw[hb,Bool.true_and];simp only[af,aG (show i<9223372036854775807 by have:=cU hl;omega)];exact ih (i+1) H1 aE hd' (by omega) hA1
   refine Wq.jmp (D3 ..) (λ_=>rfl) ?_;simp only[af,aK _ aV,aP,aU hlt,a9 aV hg,Jd];refine Wq.bK (λh=>L16 _ _ _ hA (by rw[h];rfl)) (λh=> ?_);refine Wq.call (Je c) hA λH1 aE hA1=> ?_;simp only[af];exact L16 _ _ _ hA1 (by rw[h];rfl)
theorem Rd (s:List UInt8)(hl:s.length<cX):P0 114 [aD s] (.bool (isVar s)):=Pure.of rfl λH nx=>by
 rw[Wi];have L6t:∀H1 aE,Ag nx H aE H1->isVar s=false->Wq P pl X0 (.jump (sF (aD s) true H1 aE)) nx H (.bool (isVar s)):=by
  intro H1 aE hA1 h;refine Wq.jmp (Iy ..) (λ_=>rfl) ?_;rw[h];exact Wq.ret hA1
 match s with
 | []=>simp only[af,aK _ aV,aP];exact L6t _ _ (.refl _ _) rfl
 | [a]=>simp only[af,aK _ aV,aP,List.length_cons];exact L6t _ _ (.refl _ _) rfl
 | a::b::r=>
   have e2:decide (((a::b::r).length:Int)<2)=false:=by simp;omega
   simp only[af,aK _ aV,aP,e2,OH,Jd];have hv:isVar (a::b::r)=(decide (a.toNat=39)&&(cb b&&r.all λc=> !decide (c.toNat=39)&&gN c)):=rfl;cases ha:decide (a.toNat=39)with
   | false=>simp only[af];exact L6t _ _ (.refl _ _) (by rw[hv,ha];rfl)
   | true=>
     simp only[af,VI];refine Wq.call (Bb b) (.refl _ _) λH1 aE hA1=> ?_;simp only[af];cases hb:cb b with
     | false=>exact L6t _ _ hA1 (by rw[hv,hb];simp)
     | true=>
       refine Wq.jmp (Iy ..) (λ_=>rfl) ?_;rw[hv,ha,hb,Bool.true_and,Bool.true_and];exact Jh (a::b::r) hl r 2 H1 aE rfl (by simp) hA1
def Ji (s:List UInt8):Int:=if f_.contains s=true then 6 else if(g9 s||(decide (s=[116,114,117,101])||(decide (s=[102,97,108,115,101])||decide (s=[110,105,108]))))=true then 4 else 3
theorem Jj (s:List UInt8):Ji s=eR s:=by
 unfold Ji eR;have key:f_.contains s=true->(g9 s||(decide (s=[116,114,117,101])||(decide (s=[102,97,108,115,101])||decide (s=[110,105,108]))))=false:=by
  intro h;have hm:s∈f_:=by simpa using h
  have:∀k∈f_,(g9 k||(decide (k=[116,114,117,101])||(decide (k=[102,97,108,115,101])||decide (k=[110,105,108]))))=false:=by decide
  exact this s hm
 by_cases h:f_.contains s=true
 . rw[if_pos h,key h,if_neg (by decide),if_pos h]
 . rw[if_neg h,if_neg h]
theorem Re (a:UInt8)(r:List UInt8):P0 113 [aD (a::r)] (i64 (eR (a::r))):=Pure.of rfl λH nx=>by
 rw[Wh,<- Jj];refine Wq.call Q8 (.refl _ _) λH1 aE hA1=> ?_;refine Wq.call (Jf f_ (by decide) (a::r)) hA1 λH2 nx2 hA2=> ?_;unfold Ji;simp only[af];refine Wq.bK (λh=>by rw[if_pos h];exact Wq.ret hA2) (λh=> ?_);rw[if_neg (by rw[h];decide)];have L10:∀(b:Bool) H1 aE,Ag nx H aE H1->b=(bS a||(decide (a::r=[116,114,117,101])||(decide (a::r=[102,97,108,115,101])||decide (a::r=[110,105,108]))))->Wq P pl X0 (.jump (lr b H1 aE)) nx H (i64 (if(g9 (a::r)||(decide (a::r=[116,114,117,101])||(decide (a::r=[102,97,108,115,101])||decide (a::r=[110,105,108]))))=true then 4 else 3)):=by
  intro b H1 aE hA1 hb;refine Wq.jmp (Lf ..) (λ_=>rfl) ?_;show Wq P pl X0 _ nx H (i64 (if(bS a||(decide (a::r=[116,114,117,101])||(decide (a::r=[102,97,108,115,101])||decide (a::r=[110,105,108]))))=true then 4 else 3));rw[<- hb];cases b
  . exact Wq.ret hA1
  . exact Wq.ret hA1
 simp only[af,OH];refine Wq.call (xi a) hA2 λH3 nx3 hA3=> ?_;simp only[af,dn];refine Wq.bK (λh=>L10 _ _ _ hA3 (by rw[h];rfl)) (λh0=> ?_);refine Wq.bK (λh=>L10 _ _ _ hA3 (by rw[h0,h];rfl)) (λh1=> ?_);refine Wq.bK (λh=>L10 _ _ _ hA3 (by rw[h0,h1,h];rfl)) (λh2=> ?_);exact L10 _ _ _ hA3 (by rw[h0,h1,h2];rfl)
end
section
variable {nx0:Nat}{H0:T OB}
def first(s:List UInt8)(n:Nat):Bool:=match s with
 | []=>false
 | c::_=>decide (c.toNat=n)
def eT (s:List UInt8):Bool:=match s with
 | []=>false
 | c::_=>bH c
theorem Jl:P.underlying 2=some (.int .i64):=by kernel_rfl
theorem OI:P.underlying 3=some (.int .i64):=by kernel_rfl
theorem nj:P.underlying 5=some (.int .u8):=by kernel_rfl
theorem eB:bX P 5=some [.int .u8 0]:=by kernel_rfl
theorem Bc (H:T OB)(k:IntKind)(n:Int):ck P H 5 2 (some (.int k n))=some (i64 (IntKind.i64.wrap n)):=gA nj Jl
theorem Bd (H:T OB)(k:IntKind)(n:Int):ck P H 5 3 (some (.int k n))=some (i64 (IntKind.i64.wrap n)):=gA nj OI
theorem Jm (H:T OB)(n:Int):ck P H 3 5 (some (i64 n))=some (.int .u8 (IntKind.u8.wrap n)):=gA OI nj
theorem Jn (H:T OB)(a:Int):ai P H .quo 2 true (some (i64 a)) (some (i64 10))=some (i64 (IntKind.i64.wrap (a.tdiv 10))):=jj _ _ _ _ _ (by decide)
theorem wrap_u8 (n:Int):IntKind.u8.wrap n=n%256:=by
 unfold IntKind.wrap;simp[IntKind.bits,IntKind.signed]
end
section
variable {nx0:Nat}{H0:T OB}
theorem dL {H:T OB}{l:List UInt8}{lo:Nat}(h1:lo<=l.length):bA P H 9 (some (aD l)) (some (some (i64 (lo:Int)))) (some none) (some none)=some (aD (l.drop lo)):=by
 show nU P 9 (aD l) (some (some (i64 (lo:Int)))) (some none) (some none)=_;show fV P (Instr.sliceAt 9 (aD l) (some (i64 (lo:Int))) none none)=_;have e0:(⟨⟨l⟩⟩:ByteArray).extract lo l.length=⟨⟨l.drop lo⟩⟩:=by
  apply ByteArray.ext;rw[ByteArray.data_extract];apply Array.ext';simp[List.take_of_length_le]
 have e1:b_ P (Instr.sliceAt 9 (aD l) (some (i64 (lo:Int))) none none)=some (aD (l.drop lo)):=by
  unfold Instr.sliceAt;simp only[bx,cI aV,Option.bind_some];unfold Instr.slice;simp only[bx,cI aV,Option.bind_some];unfold Instr.sliceBounds Instr.sliceBound;simp only[bx,asIntOf,Option.isSome];have pp:∀{α:Type} (a:α),b_ P (pure a:Sem α)=some a:=λ_=>rfl;rw[if_neg (by decide)];simp only[bx,pp,Option.bind_some];have c2:(0:Int)<=(lo:Int)/\(lo:Int)<=((⟨⟨l⟩⟩:ByteArray).size:Int):=⟨by omega,by rw[aP];omega⟩;rw[if_pos c2];simp only[pp,Option.bind_some,Int.toNat_natCast,aP,e0]
 exact oD e1 rfl
theorem BS.dx {nx0:Nat}{e:TypeId}{nx nx':Nat}{H H':T OB}{r:List UInt8}{sl:Value}(h:BS e nx0 H nx r sl)(hn:nx<=nx')(hk:∀b l e,b<nx->cR H b l e->cR H' b l e):BS e nx0 H' nx' r sl:=by
 rcases h with h | ⟨b,c,h1,h2,h3,h4,h5⟩
 . exact .inl h
 . exact .inr ⟨b,c,h1,by omega,hk _ _ _ h2 h3,h4,h5⟩
theorem Xl (n:Nat):bV P 5 1 n=(Nat.ble n 1048576&&true):=by kernel_rfl
theorem iq {n:Nat}(h:n<=1048576):bV P 5 1 n=true:=by rw[Xl,Nat.ble_eq_true_of_le h];rfl
theorem Rf (c:UInt8):Instr.fill (λi=>some (i*1,1)) (bI [Value.int .u8 0] (1*1)) [(0,b8 c)]=some ⟨lD [c]⟩:=by kernel_rfl
theorem xk:ee P 120 9=true:=by kernel_rfl
theorem jR {s:List UInt8}(h:isWord s=true):eT s=false/\first s 34=false/\first s 39=false:=by
 cases s with
 | nil=>cases h
 | cons a r=>
   have:(cb a||bS a)=true:=by
    have h':((cb a||bS a)&&r.all gN)=true:=h;rw[Bool.and_eq_true]at h';exact h'.1
   unfold cb bS at this;unfold eT first bH
   simp only[Bool.or_eq_true,Bool.and_eq_true,decide_eq_true_eq,decide_eq_false_iff_not,Bool.and_eq_false_iff]at this ⊢;omega
theorem kR {s:List UInt8}(h:isVar s=true):eT s=false/\first s 34=false/\first s 39=true:=by
 match s with
 | []=>cases h
 | [_]=>cases h
 | a::b::r=>
   have h':(decide (a.toNat=39)&&(cb b&&r.all λc=> !decide (c.toNat=39)&&gN c))=true:=h;rw[Bool.and_eq_true,decide_eq_true_eq]at h';unfold eT first bH
   simp only[Bool.and_eq_true,decide_eq_true_eq,decide_eq_false_iff_not,Bool.and_eq_false_iff];omega
theorem Jo (s:List UInt8):eR s=3\/eR s=4\/eR s=6:=by
 unfold eR;split
 . exact .inr (.inl rfl)
 . split
   . exact .inr (.inr rfl)
   . exact .inl rfl
theorem LW (n:Int):az P 31 (some [(0,i64 1),(2,i64 n)])=some (Tok.v ⟨1,[],n,0⟩):=bt cB (by kernel_rfl)
theorem nk (k:Int)(s:List UInt8):az P 31 (some [(0,i64 k),(1,aD s)])=some (Tok.v ⟨k,s,0,0⟩):=bt cB (by kernel_rfl)
end
section
variable {nx0:Nat}{H0:T OB}
abbrev ptr (b:Nat):Value:= .pointer (some ⟨b,0,none⟩)
abbrev Xm (l:List Tok):List Value:=l.flatMap Tok.c
def TS (nx0:Nat)(H:T OB)(nx:Nat)(l:List Tok)(sl:Value):Prop:=(l=[]/\sl= .slice none 0 0)\/∃b,nx0<=b/\b<nx/\cR H b (Xm l) 31/\sl= .slice (some ⟨b,0,none⟩) l.length fe
def Out (fr:Nat->List Value->TypeId->Prop)(bp nx0:Nat)(H:T OB)(nx:Nat)(l:List Tok)(b:Bool):Prop:=nx0<=bp/\bp<nx/\∃sl,cR H bp [sl,.bool b] 116/\TS nx0 H nx l sl/\(∀c o n u,sl= .slice (some ⟨c,o,none⟩) n u->c≠bp)/\∀x l e,fr x l e->x<nx/\cR H x l e/\x≠bp/\∀c o n u,sl= .slice (some ⟨c,o,none⟩) n u->c≠x
def Go (l0:List Tok)(b0:Bool)(ok:Bool)(ts:List Tok)(n:Nat)(l:List Tok)(b:Bool):Prop:=b=(b0 || !ok)/\(b=false->l=l0++ts)/\l.length<=l0.length+n
variable {fr:Nat->List Value->TypeId->Prop}{bp:Nat}{l0:List Tok}{b0:Bool}
variable {ok:Bool}{ts:List Tok}{n nx:Nat}{H:T OB}{R:Value->T OB->Nat->Prop}
theorem OJ {n:Nat}(h:n<=1048576):bV P 31 4 n=true:=by
 have:bV P 31 4 n=(Nat.ble n 1048576&&true):=by kernel_rfl
 rw[this,Nat.ble_eq_true_of_le h];rfl
theorem zK (a b c d:Value):Instr.fill (λi=>some (i*4,4)) (bI [Value.int .i64 0,Value.string ⟨⟨[]⟩⟩,Value.int .i64 0,Value.int .i64 0] (1*4)) [(0,.agg ⟨[a,b,c,d]⟩)]=some ⟨[a,b,c,d]⟩:=by kernel_rfl
end
section
abbrev Bx:=Nat×List Value×TypeId
structure Hp (nx0:Nat)(H0:T OB)(F:List Bx)(H:T OB)(nx:Nat):Prop where
 uI:eG nx0 H0
 ag:Ag nx0 H0 nx H
 tI:(F.map Prod.fst).Nodup
 all:∀x∈F,nx0<=x.1/\x.1<nx/\cR H x.1 x.2.1 x.2.2
variable {nx0 nx nx':Nat}{H0 H H':T OB}{F A B G:List Bx}{s:Bx}{R:Go.Ev.Out->T OB->Nat->Prop}{b:Nat}{l:List Value}{e t:TypeId}
theorem Hp.mem (h:Hp nx0 H0 F H nx){x:Bx}(hx:x∈F):cR H x.1 x.2.1 x.2.2:=(h.all x hx).2.2
theorem Hp.at_ (h:Hp nx0 H0 F H nx)(i:Nat)(hi:F[i]? = some (b,l,e)):cR H b l e:=h.mem (List.mem_of_getElem? hi)
theorem Hp.dx (h:Hp nx0 H0 F H nx)(hA:Ag nx0 H0 nx' H')(hn:nx<=nx')(hk:∀b l e,b<nx->cR H b l e->cR H' b l e):Hp nx0 H0 F H' nx':=
 ⟨h.uI,hA,h.tI,λx hx=>by obtain⟨h1,h2,h3⟩:=h.all x hx;exact⟨h1,by omega,hk _ _ _ h2 h3⟩⟩
theorem Hp.new (h:Hp nx0 H0 F H nx)(hb:cR H' nx l e)(hk:∀b l e,b<nx->cR H b l e->cR H' b l e)(hA:Ag nx0 H0 (nx+1) H'):Hp nx0 H0 ((nx,l,e)::F) H' (nx+1):=by
 have h':=h.dx hA (Nat.le_succ _) hk;refine⟨h.uI,hA,?_,λx hx=> ?_⟩
 . rw[List.map_cons,List.nodup_cons];refine⟨λq=> ?_,h.tI⟩;obtain⟨y,hy,e⟩:=List.mem_map.1 q;have:=(h.all y hy).2.1;omega
 . rcases List.mem_cons.1 hx with rfl | hx
   . exact⟨h.ag.1,Nat.lt_succ_self _,hb⟩
   . exact h'.all x hx
theorem Hp.perm {F':List Bx}(h:Hp nx0 H0 F H nx)(hp:F.Perm F'):Hp nx0 H0 F' H nx:=⟨h.uI,h.ag,(hp.map _).nodup_iff.1 h.tI,λx hx=>h.all x (hp.mem_iff.2 hx)⟩
theorem Hp.sub {F':List Bx}(h:Hp nx0 H0 F H nx)(hp:F'.Sublist F):Hp nx0 H0 F' H nx:=⟨h.uI,h.ag,(hp.map _).nodup h.tI,λx hx=>h.all x (hp.subset hx)⟩
theorem Hp.swap {x y:Bx}(h:Hp nx0 H0 (x::y::F) H nx):Hp nx0 H0 (y::x::F) H nx:=h.perm (List.Perm.swap y x F)
theorem Hp.jm {x y:Bx}(h:Hp nx0 H0 (x::y::F) H nx):Hp nx0 H0 (x::F) H nx:=h.sub (by simp)
theorem Hp.succ (h:Hp nx0 H0 F H nx):Hp nx0 H0 F H (nx+1):=⟨h.uI,h.ag.succ,h.tI,λx hx=>by obtain⟨h1,h2,h3⟩:=h.all x hx;exact⟨h1,by omega,h3⟩⟩
theorem Hp.nZ {l':List Value}(h:Hp nx0 H0 (A++(b,l,e)::B) H nx)(hb:cR H' b l' e)(hk:∀c l e,c≠b->cR H c l e->cR H' c l e)(hA:Ag nx0 H0 nx H'):Hp nx0 H0 (A++(b,l',e)::B) H' nx:=by
 have hd:=h.tI;refine⟨h.uI,hA,by simpa using hd,λx hx=> ?_⟩;simp only[List.map_append,List.map_cons]at hd;rw[List.nodup_append]at hd;obtain⟨h1,h2,h3⟩:=hd;rw[List.nodup_cons]at h2;have hm:=h.all (b,l,e) (by simp);rcases List.mem_append.1 hx with hx | hx
 . obtain⟨g1,g2,g3⟩:=h.all x (by simp[hx]);exact⟨g1,g2,hk _ _ _ (λq=>h3 x.1 (List.mem_map_of_mem hx) b (by simp) q) g3⟩
 . rcases List.mem_cons.1 hx with rfl | hx
   . exact⟨hm.1,hm.2.1,hb⟩
   . obtain⟨g1,g2,g3⟩:=h.all x (by simp[hx]);exact⟨g1,g2,hk _ _ _ (λq=>h2.1 (q ▸ List.mem_map_of_mem hx)) g3⟩
theorem Hp.kill (h:Hp nx0 H0 (A++(b,l,e)::B) H nx)(hk:∀c l e,c≠b->cR H c l e->cR H' c l e)(hA:Ag nx0 H0 nx' H')(hn:nx<=nx'):Hp nx0 H0 (A++B) H' nx':=by
 have hd:=h.tI;simp only[List.map_append,List.map_cons]at hd;rw[List.nodup_append]at hd;obtain⟨h1,h2,h3⟩:=hd;rw[List.nodup_cons]at h2;have h':=h.sub (F':=A++B) (by simp);refine⟨h.uI,hA,h'.tI,λx hx=> ?_⟩;obtain⟨g1,g2,g3⟩:=h'.all x hx;refine⟨g1,by omega,hk _ _ _ (λq=> ?_) g3⟩;rcases List.mem_append.1 hx with hx | hx
 . exact h3 x.1 (List.mem_map_of_mem hx) b (by simp) q
 . exact h2.1 (q ▸ List.mem_map_of_mem hx)
theorem Hq.alloc {k:Value->T OB->Nat->Q}(hz:bX P e=some l)(h:Hp nx0 H0 (s::F) H nx)(hk:∀b H' nx',Hp nx0 H0 (s::(b,l,e)::F) H' nx'->aO P pl X0 (k (ptr b) H' nx') nx0 H0 R):aO P pl X0 (ao (au P H nx e) k) nx0 H0 R:=
 Wq.alloc hz h.ag λH' hb dx hA=>hk nx H' _ (h.new hb dx hA).swap
theorem Hq.box {u:Value}{k:Value->T OB->Nat->Q}(h:Hp nx0 H0 (s::F) H nx)(hk:∀b H' nx',Hp nx0 H0 (s::(b,u.cells.toList,e)::F) H' nx'->aO P pl X0 (k (ptr b) H' nx') nx0 H0 R):aO P pl X0 (ao (i_ H nx e (some u)) k) nx0 H0 R:=
 Wq.box h.ag λH' hb dx hA=>hk nx H' _ (h.new hb dx hA).swap
theorem Hq.var {sz:Nat}{x:Value}{k:T OB->Nat->Q}(hz:bX P e=some l)(hs:bq P t=some sz)(hl:l.length=sz)(hx:x.cells.toList.length=sz)(hone:x.cells.toList.all aA=true)
 (h:Hp nx0 H0 F H nx) (hk:∀H' nx',Hp nx0 H0 F H' nx'->aO P pl X0 (k H' nx') nx0 H0 R):aO P pl X0 (ao (au P H nx e) λp H nx=>bF P H nx t (some p) x k) nx0 H0 R:=
 Wq.PM hz hs hl hx hone h.ag λH' nx' hA hn dx=>hk H' nx' (h.dx hA hn dx)
theorem Hq.call {f:FuncId}{args:List Value}{u:Value}{k p:Value->T OB->Nat->Q}(hp:P0 f args u)(h:Hp nx0 H0 F H nx)(hk:∀H' nx',Hp nx0 H0 F H' nx'->aO P pl X0 (k u H' nx') nx0 H0 R):aO P pl X0 (aj (.call f args false none H nx) k p) nx0 H0 R:=
 Wq.eQ hp h.ag λH' nx' hA hn dx=>hk H' nx' (h.dx hA hn dx)
theorem Hq.sJ {f:FuncId}{args:List Value}{u:Value}{k p:Value->T OB->Nat->Q}(hp:PT f args u)(h:Hp nx0 H0 F H nx)(hk:∀H' nx',Hp nx0 H0 F H' nx'->aO P pl X0 (k u H' nx') nx0 H0 R):aO P pl X0 (aj (.call f args false none H nx) k p) nx0 H0 R:=by
 obtain⟨H1,aE,h1,h2⟩:=hp H nx (h.uI.ag h.ag);obtain⟨v,H2,nx2,h3,hR,h4⟩:=hk H1 aE (h.dx (h.ag.trans h1) h1.1 λb l e hb hi=>hi.ag h1 hb);refine⟨v,H2,nx2,h3,hR,?_⟩;show aa (Go.Ev.F P pl X0 (.call f args false none H nx)) (λr=>(match r.o with | .ret v=>k v r.H r.nx | .gj v=>p v r.H r.nx:Q).run (Go.Ev.F P pl X0)) none=_;rw[h2];exact h4
theorem Hq.row {sz n:Nat}{vs:List (Nat×Value)}{z:List Value}{k:Value->T OB->Nat->Q}(hu:P.underlying t=some (.slice e))(hs:bq P e=some sz)(hz:bX P e=some z)
 (hg:(Nat.ble (n*sz) 16777216&&Nat.blt 0 (n*sz)&&Nat.blt 0 z.length)=true) (hf:Instr.fill (λi=>some (i*sz,sz)) (bI z (n*sz)) vs=some ⟨l⟩) (h:Hp nx0 H0 (s::F) H nx)
 (hk:∀b H' nx',Hp nx0 H0 (s::(b,l,e)::F) H' nx'->aO P pl X0 (k (.slice (some ⟨b,0,none⟩) n n) H' nx') nx0 H0 R):aO P pl X0 (ao (aq P H nx t n (some vs)) k) nx0 H0 R:=
 Wq.row hu hs hz hg hf h.ag λH' hb dx hA=>hk nx H' _ (h.new hb dx hA).swap
theorem Hq.store (A:List Bx){off sz:Nat}{u:Value}{k:Value->T OB->Nat->Q}(h:Hp nx0 H0 (A++(b,l,e)::B) H nx)(hs:bq P t=some sz)(hn:off+sz<=l.length)(hl:u.cells.toList.length=sz)(hone:u.cells.toList.all aA=true)
 (hk:∀H',Hp nx0 H0 (A++(b,ij l u.cells.toList off,e)::B) H' nx->aO P pl X0 (k undef H' nx) nx0 H0 R):aO P pl X0 (ao (ah P H nx t (some (.pointer (some ⟨b,off,none⟩))) (some u)) k) nx0 H0 R:=by
 have hm:=h.all (b,l,e) (by simp);exact Wq.store hm.2.2 hs hn hl hone h.ag hm.1 λH' hb dx hA=>hk H' (h.nZ hb dx hA)
theorem Hq.put (A:List Bx){off:Nat}{u:Value}{l':List Value}{k:Value->T OB->Nat->Q}(h:Hp nx0 H0 (A++(b,l,e)::B) H nx)(hs:bq P t=some 1)(hc:u.cells.toList=[u])(ho:aA u=true)(hn:off<l.length)(hl:l.set off u=l')
 (hk:∀H',Hp nx0 H0 (A++(b,l',e)::B) H' nx->aO P pl X0 (k undef H' nx) nx0 H0 R):aO P pl X0 (ao (ah P H nx t (some (.pointer (some ⟨b,off,none⟩))) (some u)) k) nx0 H0 R:=by
 have hm:=h.all (b,l,e) (by simp);exact Wq.put hm.2.2 hs hc ho hn hl h.ag hm.1 λH' hb dx hA=>hk H' (h.nZ hb dx hA)
def cj (vs:List Value):List Value:=vs.flatMap λv=>v.cells.toList
def pa (a:Bool)(sz:Nat)(vs:List Value):Prop:=∀v∈vs,v.cells.toList.length=sz/\v.cells.toList.all aA=true/\(if a then ∃cs,v= .agg ⟨cs⟩else sz=1/\v.cells.toList=[v])
theorem jS {a:Bool}{sz:Nat}:∀{vs:List Value},pa a sz vs->(cj vs).length=vs.length*sz
 | [],_=>by simp[cj]
 | v::vs,h=>by
   have ih:=jS (vs:=vs) λx hx=>h x (by simp[hx]);show(v.cells.toList++cj vs).length=_;rw[List.length_append,ih,(h v (by simp)).1,List.length_cons,Nat.add_mul];omega
theorem pa.chunk {a:Bool}{sz:Nat}{vs:List Value}(h:pa a sz vs):chunk a sz vs.length (cj vs)=some vs:=by
 cases a with
 | true=>
   have:∀vs:List Value,pa true sz vs->∃es:List (List Value),vs=es.map (λx=> .agg ⟨x⟩)/\(∀x∈es,x.length=sz)/\cj vs=es.flatten:=by
    intro vs
    induction vs with
    | nil=>exact λ_=>⟨[],rfl,by simp,rfl⟩
    | cons v vs ih=>
      intro h;obtain⟨es,e1,e2,e3⟩:=ih λx hx=>h x (by simp[hx]);obtain⟨h1,h2,h3⟩:=h v (by simp);rw[if_pos rfl]at h3;obtain⟨cs,rfl⟩:=h3;refine⟨cs::es,by rw[e1];rfl,λx hx=> ?_,?_⟩
      . rcases List.mem_cons.1 hx with rfl | hx
        . exact h1
        . exact e2 x hx
      . rw[List.flatten_cons,<- e3];rfl
   obtain⟨es,e1,e2,e3⟩:=this vs h;rw[e3,e1,List.length_map];exact sb sz es e2
 | false=>
   have e:sz=1\/vs=[]:=by
    cases vs with
    | nil=>exact .inr rfl
    | cons v vs=>exact .inl (h v (by simp)).2.2.1
   have e2:cj vs=vs:=by
    clear e
    induction vs with
    | nil=>rfl
    | cons v vs ih=>
      show v.cells.toList++cj vs=_;rw[ih λx hx=>h x (by simp[hx]),(h v (by simp)).2.2.2];rfl
   rw[e2];rcases e with rfl | rfl
   . exact iK vs
   . rfl
theorem pa.cons {a:Bool}{sz:Nat}{v:Value}{vs:List Value}(h:pa a sz [v])(hs:pa a sz vs):pa a sz (vs++[v]):=λx hx=>by
 rcases List.mem_append.1 hx with hx | hx
 . exact hs x hx
 . exact h x hx
def Gw (a:Bool)(sz:Nat)(e:TypeId)(vs:List Value)(sl:Value)(G:List Bx):Prop:=pa a sz vs/\((vs=[]/\sl= .slice none 0 0/\G=[])\/∃b c,sl= .slice (some ⟨b,0,none⟩) vs.length c/\(c=fe\/c=vs.length)/\0<vs.length/\G=[(b,cj vs,e)])
theorem Gw.nil (a:Bool)(sz:Nat)(e:TypeId):Gw a sz e [] (.slice none 0 0) []:=⟨λv hv=>by simp at hv,.inl ⟨rfl,rfl,rfl⟩⟩
theorem Gw.one {a:Bool}{sz:Nat}{vs:List Value}{n:Nat}(h:pa a sz vs)(hn:vs.length=n)(h0:0<n):Gw a sz e vs (.slice (some ⟨b,0,none⟩) n n) [(b,cj vs,e)]:=⟨h,.inr ⟨b,n,by rw[hn],.inr hn.symm,by omega,rfl⟩⟩
theorem Hq.TB (A:List Bx){a:Bool}{sz:Nat}{vs:List Value}{sl:Value}{k:Value->T OB->Nat->Q}(hu:P.underlying t=some (.slice e))(hs:bq P e=some sz)(ha:dC P e=some a)(hpos:(Nat.blt 0 sz&&(a||Nat.beq sz 1))=true)
 (hG:Gw a sz e vs sl G) (h:Hp nx0 H0 (A++(G++B)) H nx) (hk:∀H' nx',Hp nx0 H0 (A++B) H' nx'->aO P pl X0 (k (bn sz vs) H' nx') nx0 H0 R):aO P pl X0 (eg P t sl H nx k) nx0 H0 R:=by
 obtain⟨hE,⟨rfl,rfl,rfl⟩ | ⟨b,c,rfl,hc,h0,rfl⟩⟩:=hG
 . have e1:eg P t (.slice none 0 0) H nx k=k (bn sz []) H nx:=by
    unfold eg;rw[hu];show ff P t (.slice none 0 0) H nx k=_;unfold ff;rw[hu];show(bif Nat.beq 0 0&&Nat.beq 0 0 then aa (bq P e) (λs=>k (bn s []) H nx) .bad else .bad)=_;rw[hs];rfl
   rw[e1];exact hk H nx h
 . have hm:=h.all (b,cj vs,e) (by simp);refine Wq.TB hu hs ha hpos hm.2.2 (jS hE) ?_ hE.chunk ?_ h.ag hm.1 λH' dx hA=>hk H' _ (h.kill dx hA (Nat.le_succ _))
   . rcases hc with rfl | rfl
     . rfl
     . rw[Nat.ble_eq_true_of_le (Nat.le_refl _),Bool.or_true]
   . rw[List.all_eq_true];intro v hv;obtain⟨_,h2,h3⟩:=hE v hv;cases a with
     | true=>rfl
     | false=>
       rw[if_neg (by simp)]at h3;rw[h3.2]at h2;simpa using h2
theorem Wq.Xn {e':TypeId}{sz n m:Nat}{x:Value}{xs:List Value}{k:Value->T OB->Nat->Q}(hu:P.underlying t=some (.slice e))(hs:bq P e=some sz)(hb:cR H b l e')(hl:l.length=n*sz)(hx:isStr x=false)(hxs:pz H sz x=some (m,xs))(hm:0<m)(hn:n<fe)
 (hsm:bV P e sz (n+m)=true) (h:Ag nx0 H0 nx H)
 (hk:∀H',cR H' nx (l++xs) e->(∀c l e,c<nx->cR H c l e->cR H' c l e)->Ag nx0 H0 (nx+1) H'->aO P pl X0 (k (.slice (some ⟨nx,0,none⟩) (n+m) fe) H' (nx+1)) nx0 H0 R):
 aO P pl X0 (ao (ba P H nx [t,t] (some [.slice (some ⟨b,0,none⟩) n n,x])) k) nx0 H0 R:=by
 rw[lq hx];unfold dH;rw[hu];simp only[hs,aT,hxs,hsm,cond_true];obtain⟨tr,h1,h2⟩:=hb;have e1:tv P H nx e sz (some ⟨b,0,none⟩) n n m xs=iD H nx e (n+m) (l++xs):=by
  show yn P H nx e sz b 0 n n m xs=_;unfold yn;rw[h1];have eu:Nat.beq n fe=false:=by
   cases hq:Nat.beq n fe with
   | false=>rfl
   | true=>have:=Nat.eq_of_beq_eq_true hq;omega
  have ev:Nat.ble (n+m) n=false:=by
   cases hq:Nat.ble (n+m) n with
   | false=>rfl
   | true=>have:=Nat.le_of_ble_eq_true hq;omega
  simp only[dV,eu,ev,cond_false];unfold oR;have:pE tr (n*sz) 0=some l:=by rw[<- hl,jN h2 _ _ (by omega)];simp
  rw[this,Nat.zero_add,hl,Nat.ble_eq_true_of_le (Nat.le_refl _)];have e0:Nat.blt 0 m=true:=Nat.ble_eq_true_of_le hm;rw[e0];rfl
 rw[e1,iH];exact Wq.new (q:=λH n'=>k (.slice (some ⟨nx,0,none⟩) (n+m) fe) H n') h λH' ha hb hc=>hk H' ha hb hc
theorem LX:(1048576:Nat)<fe:=by decide +kernel
theorem Hq.add (A:List Bx){a:Bool}{sz:Nat}{v:Value}{vs:List Value}{sl:Value}{k:Value->T OB->Nat->Q}(hu:P.underlying t=some (.slice e))(hs:bq P e=some sz)(hsm:bV P e sz (vs.length+1)=true)(hsmall:vs.length+1<=1048576)(hv:pa a sz [v])
 (hG:Gw a sz e vs sl G) (h:Hp nx0 H0 (s::(b,v.cells.toList,e)::(A++(G++B))) H nx)
 (hk:∀sl' G' H' nx',Gw a sz e (vs++[v]) sl' G'->Hp nx0 H0 (s::(A++(G'++B))) H' nx'->aO P pl X0 (k sl' H' nx') nx0 H0 R):
 aO P pl X0 (ao (ba P H nx [t,t] (some [sl,.slice (some ⟨b,0,none⟩) 1 1])) k) nx0 H0 R:=by
 have hv1:=(hv v (by simp)).1;have hxs:pz H sz (.slice (some ⟨b,0,none⟩) 1 1)=some (1,v.cells.toList):=AS (h.at_ 1 rfl) (by rw[hv1,Nat.one_mul]);have hone:v.cells.toList.all aA=true:=(hv v (by simp)).2.1;have hd:=h.jm;obtain⟨hE,hG⟩:=hG;have ecl:cj vs++v.cells.toList=cj (vs++[v]):=by simp[cj]
 have hnew:∀aE,Gw a sz e (vs++[v]) (.slice (some ⟨aE,0,none⟩) (vs.length+1) fe) [(aE,cj (vs++[v]),e)]:=λaE=>⟨hv.cons hE,.inr ⟨aE,fe,by rw[List.length_append];rfl,.inl rfl,by simp,rfl⟩⟩;have ins:∀{H':T OB} {x:Bx},Hp nx0 H0 (x::s::(A++B)) H' (nx+1)->Hp nx0 H0 (s::(A++([x]++B))) H' (nx+1):=λh=>h.perm (by
  refine(List.Perm.swap _ _ _).trans (List.Perm.cons _ ?_);exact(List.perm_middle (l₁:=A) (l₂:=B)).symm)
 rcases hG with⟨rfl,rfl,rfl⟩ | ⟨b',c,rfl,hc,h0,rfl⟩
 . refine Wq.PJ hu hs rfl hxs (by simpa using hsm) h.ag (λq=>by cases q) λH' _ hb dx hA=> ?_;have hb':cR H' nx (cj ([]++[v])) e:=by rw[<- ecl];simpa[cj]using hb
   exact hk _ _ _ _ (hnew nx) (ins (hd.new hb' dx hA))
 . have hcl:=jS hE;have hm:=h.all (b',cj vs,e) (by simp);rcases hc with rfl | rfl
   . refine Wq.app hu hs hm.2.2 hs hcl rfl hxs hone hsm h.ag hm.1 hm.2.1 λH' hb dx hA=> ?_;rw[ecl]at hb;have hk':Hp nx0 H0 (s::(A++B)) H nx:=hd.sub (by simp);have hne:∀x∈s::(A++B),x.1≠b':=by
      have hdd:=hd.tI;have:((s::A++(b',cj vs,e)::B).map Prod.fst).Nodup:=hdd;simp only[List.map_append,List.map_cons]at this;rw[List.nodup_append]at this;obtain⟨_,g2,g3⟩:=this;rw[List.nodup_cons]at g2;intro x hx q;rcases List.mem_append.1 (show x∈(s::A)++B from hx)with hx | hx
      . exact g3 x.1 (List.mem_map_of_mem (f:=Prod.fst) hx) b' (by simp) q
      . exact g2.1 (q ▸ List.mem_map_of_mem hx)
     refine hk _ _ _ _ (hnew nx) (ins ⟨h.uI,hA,?_,λx hx=> ?_⟩)
     . rw[List.map_cons,List.nodup_cons];refine⟨λq=> ?_,hk'.tI⟩;obtain⟨y,hy,e⟩:=List.mem_map.1 q;have:=(hk'.all y hy).2.1;have e':y.1=nx:=e;omega
     . rcases List.mem_cons.1 hx with rfl | hx
       . exact⟨h.ag.1,Nat.lt_succ_self _,hb⟩
       . obtain⟨g1,g2,g3⟩:=hk'.all x hx;exact⟨g1,by omega,dx _ _ _ (hne x hx) g2 g3⟩
   . refine Wq.Xn hu hs hm.2.2 hcl rfl hxs (by decide) (by have:=LX;omega) hsm h.ag λH' hb dx hA=> ?_;rw[ecl]at hb;have hk':Hp nx0 H0 (s::(A++B)) H nx:=hd.sub (by simp);exact hk _ _ _ _ (hnew nx) (ins (hk'.new hb dx hA))
end
section
variable {nx0 nx nx':Nat}{H0 H H':T OB}{F A B G G':List Bx}{s:Bx}{R:Go.Ev.Out->T OB->Nat->Prop}{b:Nat}{l:List Value}{e t:TypeId}
def db (n:Nat)(t:TypeId)(v u:Value)(G:List Bx):Prop:=∀(d:Nat),n<=d->∀(nx0 nx:Nat) (H0 H:T OB) (s:Bx) (B:List Bx) (k:Value->T OB->Nat->Q) (R:Go.Ev.Out->T OB->Nat->Prop),Hp nx0 H0 (s::(G++B)) H nx->
 (∀H' nx',Hp nx0 H0 (s::B) H' nx'->aO P pl X0 (k u H' nx') nx0 H0 R)->aO P pl X0 (jG P d t v H nx k) nx0 H0 R
def eW (n:Nat)(offs:List (Nat×TypeId))(cs us:List Value)(G:List Bx):Prop:=∀(d:Nat),n<=d->∀(nx0 nx:Nat) (H0 H:T OB) (s:Bx) (B:List Bx) (k:List Value->T OB->Nat->Q) (R:Go.Ev.Out->T OB->Nat->Prop),Hp nx0 H0 (s::(G++B)) H nx->
 (∀H' nx',Hp nx0 H0 (s::B) H' nx'->aO P pl X0 (k us H' nx') nx0 H0 R)->aO P pl X0 (FA (jG P d) offs cs H nx k) nx0 H0 R
def gB (n:Nat)(offs:List (Nat×TypeId))(v u:Value)(G:List Bx):Prop:=∀(d:Nat),n<=d->∀(nx0 nx:Nat) (H0 H:T OB) (s:Bx) (B:List Bx) (k:Value->T OB->Nat->Q) (R:Go.Ev.Out->T OB->Nat->Prop),Hp nx0 H0 (s::(G++B)) H nx->
 (∀H' nx',Hp nx0 H0 (s::B) H' nx'->aO P pl X0 (k u H' nx') nx0 H0 R)->aO P pl X0 (kx (jG P d) offs v H nx k) nx0 H0 R
def iN (n:Nat)(offs:List (Nat×TypeId))(vs us:List Value)(G:List Bx):Prop:=∀(d:Nat),n<=d->∀(nx0 nx:Nat) (H0 H:T OB) (s:Bx) (B:List Bx) (k:List Value->T OB->Nat->Q) (R:Go.Ev.Out->T OB->Nat->Prop),Hp nx0 H0 (s::(G++B)) H nx->
 (∀H' nx',Hp nx0 H0 (s::B) H' nx'->aO P pl X0 (k us H' nx') nx0 H0 R)->aO P pl X0 (kz (kx (jG P d) offs) vs H nx k) nx0 H0 R
theorem db.mono {n m:Nat}{v u:Value}(h:db n t v u G)(hm:n<=m):db m t v u G:=λd hd=>h d (by omega)
theorem gB.mono {n m:Nat}{offs:List (Nat×TypeId)}{v u:Value}(h:gB n offs v u G)(hm:n<=m):gB m offs v u G:=λd hd=>h d (by omega)
theorem eW.nil {n:Nat}{cs:List Value}:eW n [] cs cs []:=λd hd nx0 nx H0 H s B k R h hk=>hk H nx h
theorem eW.cons {n:Nat}{p:Nat×TypeId}{offs:List (Nat×TypeId)}{cs us:List Value}{v u:Value}(hc:cs[p.1]? = some v)(h1:db n p.2 v u G)(h2:eW n offs (cs.set p.1 u) us G'):eW n (p::offs) cs us (G++G'):=λd hd nx0 nx H0 H s B k R h hk=>by
 show aO P pl X0 (aa cs[p.1]? (λv=>jG P d p.2 v H nx λv H nx=>FA (jG P d) offs (cs.set p.1 v) H nx k) .bad) nx0 H0 R;rw[hc,aT];rw[List.append_assoc]at h;exact h1 d hd nx0 nx H0 H s (G'++B) _ R h λH' nx' h'=>h2 d hd nx0 nx' H0 H' s B k R h' hk
theorem gB.of {n:Nat}{offs:List (Nat×TypeId)}{cs us:List Value}(h:eW n offs cs us G):gB n offs (.agg ⟨cs⟩) (.agg ⟨us⟩) G:=λd hd nx0 nx H0 H s B k R h1 hk=>h d hd nx0 nx H0 H s B _ R h1 hk
theorem gB.aD {n:Nat}{offs:List (Nat×TypeId)}(a:ByteArray):gB n offs (.string a) (.string a) []:=λd hd nx0 nx H0 H s B k R h1 hk=>hk H nx h1
theorem iN.nil {n:Nat}{offs:List (Nat×TypeId)}:iN n offs [] [] []:=λd hd nx0 nx H0 H s B k R h hk=>hk H nx h
theorem iN.cons {n:Nat}{offs:List (Nat×TypeId)}{v u:Value}{vs us:List Value}(h1:gB n offs v u G)(h2:iN n offs vs us G'):iN n offs (v::vs) (u::us) (G++G'):=λd hd nx0 nx H0 H s B k R h hk=>by
 rw[List.append_assoc]at h;exact h1 d hd nx0 nx H0 H s (G'++B) _ R h λH' nx' h'=>h2 d hd nx0 nx' H0 H' s B _ R h' hk
theorem iN.id {n:Nat}{offs:List (Nat×TypeId)}:∀{vs:List Value},(∀v∈vs,gB n offs v v [])->iN n offs vs vs []
 | [],_=>iN.nil
 | v::vs,h=>iN.cons (h v (by simp)) (iN.id λx hx=>h x (by simp[hx]))
theorem xm {d sz:Nat}{v:Value}{k:Value->T OB->Nat->Q}(hu:P.underlying t=some (.slice e)):jG P (d+1) t v H nx k=ff P t v H nx λu H nx=>bif yq v then gH u (λs es=>kz (kx (jG P d) (dR P 4 e)) es H nx λes H nx=>bif es.all λx=>Nat.beq x.cells.toList.length s then k (bn s es) H nx else .bad) .bad else k u H nx:=by
 show(ff P t v H nx λu H nx=>bif yq v then(match P.underlying t with | some (.slice e)=>gH u (λs es=>kz (kx (jG P d) (dR P 4 e)) es H nx λes H nx=>bif es.all λx=>Nat.beq x.cells.toList.length s then k (bn s es) H nx else .bad) .bad | _=>k u H nx)else k u H nx)=_;rw[hu]
theorem zL {sz:Nat}{k:Value->T OB->Nat->Q}(hu:P.underlying t=some (.slice e))(hs:bq P e=some sz):ff P t (.slice none 0 0) H nx k=k (bn sz []) H nx:=by
 unfold ff;rw[hu];show(bif Nat.beq 0 0&&Nat.beq 0 0 then aa (bq P e) (λs=>k (bn s []) H nx) .bad else .bad)=_;rw[hs];rfl
theorem zM {sz:Nat}{es:List Value}{k:Value->T OB->Nat->Q}(hu:P.underlying t=some (.slice e)):ff P t (bn sz es) H nx k=k (bn sz es) H nx:=by
 unfold ff;rw[hu];rfl
theorem db.nil {sz:Nat}(hu:P.underlying t=some (.slice e))(hs:bq P e=some sz):db 0 t (.slice none 0 0) (bn sz []) []:=λd hd nx0 nx H0 H s B k R h hk=>by
 cases d with
 | zero=>
   show aO P pl X0 (ff P t (.slice none 0 0) H nx k) nx0 H0 R;rw[zL hu hs];exact hk H nx h
 | succ d=>
   rw[xm (sz:=sz) hu,zL hu hs];exact hk H nx h
theorem db.row {sz:Nat}{es:List Value}(hu:P.underlying t=some (.slice e)):db 0 t (bn sz es) (bn sz es) []:=λd hd nx0 nx H0 H s B k R h hk=>by
 cases d with
 | zero=>
   show aO P pl X0 (ff P t (bn sz es) H nx k) nx0 H0 R;rw[zM hu];exact hk H nx h
 | succ d=>
   rw[xm (sz:=sz) hu,zM hu];exact hk H nx h
theorem db.e8 {a:Bool}{sz n c:Nat}{vs us:List Value}{offs:List (Nat×TypeId)}(hu:P.underlying t=some (.slice e))(hs:bq P e=some sz)(ha:dC P e=some a)(hpos:(Nat.blt 0 sz&&(a||Nat.beq sz 1))=true)(ho:dR P 4 e=offs)(hE:pa a sz vs)(hc:c=fe\/c=vs.length)(h0:0<vs.length)
 (hL:iN n offs vs us G) (hus:∀u∈us,u.cells.toList.length=sz):db (n+1) t (.slice (some ⟨b,0,none⟩) vs.length c) (bn sz us) ((b,cj vs,e)::G):=λd hd nx0 nx H0 H s B k R h hk=>by
 cases d with
 | zero=>omega
 | succ d=>
   rw[xm (sz:=sz) hu,PK hu];refine Hq.TB [s] (B:=G++B) hu hs ha hpos (G:=[(b,cj vs,e)]) ⟨hE,.inr ⟨b,c,rfl,hc,h0,rfl⟩⟩ h λH' nx' h'=> ?_;show aO P pl X0 (kz (kx (jG P d) (dR P 4 e)) vs H' nx' λes H nx=>bif es.all λx=>Nat.beq x.cells.toList.length sz then k (bn sz es) H nx else .bad) nx0 H0 R;rw[ho];refine hL d (by omega) nx0 nx' H0 H' s B _ R h' λH2 nx2 h2=> ?_;have e:(us.all λx=>Nat.beq x.cells.toList.length sz)=true:=by
    rw[List.all_eq_true];intro x hx;rw[hus x hx,Nat.beq_refl]
   rw[e];exact hk H2 nx2 h2
theorem db.gw {a:Bool}{sz n:Nat}{vs us:List Value}{sl:Value}{offs:List (Nat×TypeId)}(hu:P.underlying t=some (.slice e))(hs:bq P e=some sz)(ha:dC P e=some a)(hpos:(Nat.blt 0 sz&&(a||Nat.beq sz 1))=true)(ho:dR P 4 e=offs)(hG:Gw a sz e vs sl G)
 (hL:iN n offs vs us []) (hus:∀u∈us,u.cells.toList.length=sz) (h0:vs=[]->us=[]):db (n+1) t sl (bn sz us) G:=by
 obtain⟨hE,⟨rfl,rfl,rfl⟩ | ⟨b,c,rfl,hc,h1,rfl⟩⟩:=hG
 . rw[h0 rfl];exact(db.nil hu hs).mono (Nat.zero_le _)
 . exact db.e8 hu hs ha hpos ho hE hc h1 hL hus
theorem Hp.mv (A:List Bx){x:Bx}(h:Hp nx0 H0 (s::(A++x::B)) H nx):Hp nx0 H0 (s::x::(A++B)) H nx:=h.perm (List.Perm.cons _ List.perm_middle)
theorem uJ {l c:List Value}(h:c.length=l.length):ij l c 0=c:=by
 unfold ij;simp[h]
theorem Hq.fin {n sz:Nat}{cs:List Value}{u:Value}{offs:List (Nat×TypeId)}{k:Value->T OB->Nat->Q}(h:Hp nx0 H0 (s::(b,l,e)::(G++B)) H nx)(hs:bq P t=some sz)(hag:dC P t=some true)(ho:dR P 4 t=offs)(hl:l.length=sz)(hc:cs.length=sz)(h1:cs.all aA=true)
 (hz:gB n offs (.agg ⟨cs⟩) u G) (hn:n<=100000) (hk:∀H' nx',Hp nx0 H0 (s::B) H' nx'->aO P pl X0 (k u H' nx') nx0 H0 R):
 aO P pl X0 (ao (ah P H nx t (some (.pointer (some ⟨b,0,none⟩))) (some (.agg ⟨cs⟩))) λ_ H nx=>aa (ae P H t (some (.pointer (some ⟨b,0,none⟩)))) (λx=>aX P t x H nx k) .bad) nx0 H0 R:=by
 refine Hq.store [s] h hs (by omega) hc h1 λH' h'=> ?_;rw[show ij l (Value.agg ⟨cs⟩).cells.toList 0=cs from uJ (by show cs.length=_;omega)]at h';have hb:cR H' b cs e:=h'.at_ 1 rfl;rw[bY hb hag hs (by omega)];have e2:((cs.drop 0).take sz)=cs:=by rw[List.drop_zero,<- hc,List.take_length]
 rw[e2,aT];unfold aX;show aO P pl X0 (kx (jG P 100000) (dR P 4 t) (.agg ⟨cs⟩) H' nx k) nx0 H0 R;rw[ho];exact hz 100000 hn nx0 nx H0 H' s B k R (Hp.jm h') hk
theorem de:dR P 4 44=[(3,41),(4,42),(5,24)]:=by kernel_rfl
theorem dM:dR P 4 47=[(3,42)]:=by kernel_rfl
theorem ir:dR P 4 138=[(2,53)]:=by kernel_rfl
theorem zN:dR P 4 55=[(1,53)]:=by kernel_rfl
theorem Uj:dR P 4 52=[(0,49),(2,50)]:=by kernel_rfl
theorem Jp:dR P 4 65=[(1,42),(5,41),(6,42),(7,24)]:=by kernel_rfl
theorem jn:dR P 4 57=[(4,42),(8,41),(9,42),(10,24),(11,48),(12,49),(14,50),(16,53)]:=by kernel_rfl
theorem Xo:dR P 4 9=[]:=by kernel_rfl
end
section
inductive iZ (α:Type) where
 | ok (a:α) (k:Nat)
 | bad (at_:Int)
abbrev PR (α:Type):=Option (iZ α)
def bd {α β:Type}(x:PR α)(f:α->Nat->PR β):PR β:=match x with
 | none=>none
 | some (.bad a)=>some (.bad a)
 | some (.ok a k)=>f a k
theorem Eu {α β:Type}{a:α}{k:Nat}{f:α->Nat->PR β}:bd (some (.ok a k)) f=f a k:=rfl
theorem xn {α β:Type}{a:Int}{f:α->Nat->PR β}:bd (some (.bad a)) f=some (.bad a):=rfl
variable (L:List Tok)
def tk (k:Nat):Tok:=(L[k]?).getD ⟨0,[],0,0⟩
def jT (k:Nat):Bool:=decide ((tk L k).k=7)||decide ((tk L k).k=6)
def dN (k:Nat)(s:List UInt8):Bool:=jT L k&&decide ((tk L k).s=s)
def kS {α:Type}(k:Nat):PR α:=some (.bad (tk L k).at_)
def yes {α:Type}(a:α)(k:Nat):PR α:=some (.ok a k)
def aZ {α:Type}(s:List UInt8)(k:Nat)(f:Nat->PR α):PR α:=if dN L k s=true then f (k+1)else kS L k
def bC {α:Type}(c:Int)(k:Nat)(f:Tok->Nat->PR α):PR α:=if(tk L k).k=c then f (tk L k) (k+1)else kS L k
def skip (s:List UInt8)(k:Nat):Nat:=if dN L k s=true then k+1 else k
def pD (lvl k:Nat):Bool:=jT L k&&((bE[lvl]?).getD []).contains (tk L k).s
def unOp (k:Nat):Bool:=jT L k&&eA.contains (tk L k).s
def jU (k:Nat):Bool:=decide ((tk L k).k=1)||(decide ((tk L k).k=2)||(decide ((tk L k).k=3)||decide ((tk L k).k=4)))
def lP (k:Nat):Bool:=jU L k||(dN L k [40]||dN L k [108,101,116])
def kT (k:Nat):Bool:=jU L k||(dN L k [40]||(dN L k [95]||dN L k [126]))
def iU (k:Nat):Bool:=decide ((tk L k).k=3)||dN L k [114,101,102]
def aH.add:aH->aH->aH
 | .mk k n s l p d,b=> .mk k n s (l++[b]) p d
def aH.kc:aH->bh->aH->aH
 | .mk k n s l p d,q,b=> .mk k n s (l++[b]) (p++[q]) d
abbrev two (op:List UInt8)(a b:aH):aH:= .mk 14 0 op [a,b] [] []
abbrev ke:aH:= .mk 0 0 [] [] [] []
abbrev jV:bh:= .mk 0 0 [] []
abbrev gO:Data:=⟨[],[],[]⟩
abbrev jW:da:=⟨[],[]⟩
abbrev kU:a_:= .mk 0 jV ke [] gO jW
abbrev uK (a b:bh):bh:= .mk 6 0 [58,58] [.mk 5 0 [] [a,b]]
structure PS where
 exp:Nat->PR aH
 fO:aH->Nat->PR aH
 bin:Nat->Nat->PR aH
 fy:Nat->aH->Nat->PR aH
 un:Nat->PR aH
 fP:aH->Nat->PR aH
 atom:Nat->PR aH
 dQ:List UInt8->aH->Nat->PR aH
 lt:Nat->PR aH
 ga:List a_->Nat->PR (List a_)
 pat:Nat->PR bh
 bw:Nat->PR bh
 fQ:List bh->Nat->PR (List bh)
 dT:Nat->PR bo
 dA:List bo->Nat->PR (List bo)
 post:Nat->PR bo
 mC:List bo->Nat->PR (List bo)
 cP:bo->Nat->PR bo
 dY:Nat->PR da
 bind:Nat->PR (Option a_)
 fA:List Fn->Nat->PR (List Fn)
 fn:Nat->PR Fn
 mD:List bh->Nat->PR (List bh)
 dec:Nat->PR (Option a_)
 data:Nat->PR Data
 fB:List (List UInt8)->Nat->PR (List (List UInt8))
 fC:List da->Nat->PR (List da)
 bW:List a_->Nat->PR (List a_)
def PS.none:PS:=⟨λ_=> .none,λ_ _=> .none,λ_ _=> .none,λ_ _ _=> .none,λ_=> .none,λ_ _=> .none,λ_=> .none,λ_ _ _=> .none,λ_=> .none,λ_ _=> .none,λ_=> .none,λ_=> .none,λ_ _=> .none,λ_=> .none,λ_ _=> .none,λ_=> .none,λ_ _=> .none,λ_ _=> .none,
 λ_=> .none,λ_=> .none,λ_ _=> .none,λ_=> .none,λ_ _=> .none,λ_=> .none,λ_=> .none,λ_ _=> .none,λ_ _=> .none,λ_ _=> .none⟩
variable (p:PS)
def xo (e:aH)(k:Nat):PR aH:=bd (p.pat k) λq k=>aZ L [61,62] k λk=>bd (p.exp k) λx k=>if dN L k [124]=true then p.fO (e.kc q x) (k+1)else yes (e.kc q x) k
def xp (k:Nat):PR aH:=
 if dN L k [105,102]=true then bd (p.exp (k+1)) λa k=>aZ L [116,104,101,110] k λk=>bd (p.exp k) λb k=>aZ L [101,108,115,101] k λk=>bd (p.exp k) λc k=>yes (.mk 8 0 [] [a,b,c] [] []) k
 else if dN L k [99,97,115,101]=true then bd (p.exp (k+1)) λa k=>aZ L [111,102] k λk=>p.fO (.mk 9 0 [] [a] [] []) k
 else if dN L k [102,110]=true then p.fO (.mk 7 0 [] [] [] []) (k+1)
 else if dN L k [114,97,105,115,101]=true then bd (p.exp (k+1)) λa k=>yes (.mk 11 0 [] [a] [] []) k
 else bd (p.bin 0 k) λa k=>if dN L k [104,97,110,100,108,101]=true then p.fO (.mk 12 0 [] [a] [] []) (k+1)else yes a k
def tJ (lvl:Nat)(a:aH)(k:Nat):PR aH:=
 if pD L lvl k=true then(if lvl=2\/lvl=4 then bd (p.bin lvl (k+1)) λb k'=>yes (two (tk L k).s a b) k' else bd (p.bin (lvl+1) (k+1)) λb k'=>p.fy lvl (two (tk L k).s a b) k')else yes a k
def xq (lvl k:Nat):PR aH:=if lvl=7 then p.un k else bd (p.bin (lvl+1) k) λa k=>tJ L p lvl a k
def tK (a:aH)(k:Nat):PR aH:=if lP L k=true then bd (p.atom k) λb k=>p.fP (.mk 6 0 [] [a,b] [] []) k else yes a k
def LY (k:Nat):PR aH:=if unOp L k=true then bd (p.un (k+1)) λa k'=>yes (.mk 15 0 (tk L k).s [a] [] []) k' else bd (p.atom k) λa k=>tK L p a k
def kf (s:List UInt8)(e:aH)(k:Nat):PR aH:=if dN L k s=true then bd (p.exp (k+1)) λb k=>p.dQ s (e.add b) k else yes e k
def nn (k:Nat):PR aH:=
 if(tk L k).k=1 then yes (.mk 1 (tk L k).n [] [] [] []) (k+1)
 else if(tk L k).k=2 then yes (.mk 2 0 (tk L k).s [] [] []) (k+1)
 else if(tk L k).k=3 then yes (.mk 3 0 (tk L k).s [] [] []) (k+1)
 else if(tk L k).k=4 then yes (.mk 4 0 (tk L k).s [] [] []) (k+1)
 else if dN L k [108,101,116]=true then p.lt (k+1)
 else aZ L [40] k λk=>if dN L k [41]=true then yes (.mk 5 0 [] [] [] []) (k+1)else bd (p.exp k) λa k=>
  if dN L k [44]=true then bd (kf L p [44] (.mk 5 0 [] [a] [] []) k) λe k=>aZ L [41] k λk=>yes e k
  else if dN L k [59]=true then bd (kf L p [59] (.mk 13 0 [] [a] [] []) k) λe k=>aZ L [41] k λk=>yes e k
  else aZ L [41] k λk=>yes a k
def tL (ds:List a_)(k:Nat):PR (List a_):=if dN L k [105,110]=true then yes ds (k+1)else bd (p.bind k) λd k=>match d with
 | some d=>p.ga (ds++[d]) (skip L [59] k)
 | none=>kS L k
def LZ (k:Nat):PR aH:=bd (tL L p [] k) λds k=>bd (p.exp k) λa k=>
 if dN L k [59]=true then bd (kf L p [59] (.mk 13 0 [] [a] [] []) k) λa k=>aZ L [101,110,100] k λk=>yes (.mk 10 0 [] [a] [] ds) k
 else aZ L [101,110,100] k λk=>yes (.mk 10 0 [] [a] [] ds) k
def zO (k:Nat):PR bh:=if(tk L k).k=4 then(if kT L (k+1)=true then bd (p.bw (k+1)) λb k'=>yes (.mk 6 0 (tk L k).s [b]) k' else yes (.mk 6 0 (tk L k).s []) (k+1))else p.bw k
def xr (k:Nat):PR bh:=bd (zO L p k) λa k=>if dN L k [58,58]=true then bd (p.pat (k+1)) λb k=>yes (uK a b) k else yes a k
def l4 (l:List bh)(k:Nat):PR (List bh):=if dN L k [44]=true then bd (p.pat (k+1)) λb k=>p.fQ (l++[b]) k else yes l k
def jX (k:Nat):PR bh:=
 if(tk L k).k=1 then yes (.mk 3 (tk L k).n [] []) (k+1)
 else if(tk L k).k=2 then yes (.mk 4 0 (tk L k).s []) (k+1)
 else if(tk L k).k=3 then yes (.mk 2 0 (tk L k).s []) (k+1)
 else if(tk L k).k=4 then yes (.mk 6 0 (tk L k).s []) (k+1)
 else if dN L k [95]=true then yes (.mk 1 0 [] []) (k+1)
 else if dN L k [126]=true then bC L 1 (k+1) λt k=>yes (.mk 3 (IntKind.i64.wrap (-t.n)) [] []) k
 else aZ L [40] k λk=>if dN L k [41]=true then yes (.mk 5 0 [] []) (k+1)else bd (p.pat k) λa k=>
  if dN L k [44]=true then bd (l4 L p [a] k) λl k=>aZ L [41] k λk=>yes (.mk 5 0 [] l) k else aZ L [41] k λk=>yes a k
def l5 (l:List bo)(k:Nat):PR (List bo):=if dN L k [42]=true then bd (p.post (k+1)) λb k=>p.dA (l++[b]) k else yes l k
def pb (k:Nat):PR bo:=bd (p.post k) λa k=>if dN L k [42]=true then bd (l5 L p [a] k) λl k=>yes (.mk 4 [] l) k else yes a k
def xu (k:Nat):PR bo:=bd (pb L p k) λa k=>if dN L k [45,62]=true then bd (p.dT (k+1)) λb k=>yes (.mk 3 [] [a,b]) k else yes a k
def oG (l:List bo)(k:Nat):PR (List bo):=if dN L k [44]=true then bd (p.dT (k+1)) λb k=>p.mC (l++[b]) k else yes l k
def ka (a:bo)(k:Nat):PR bo:=if iU L k=true then p.cP (.mk 2 (tk L k).s [a]) (k+1)else yes a k
def pc (k:Nat):PR bo:=
 if(tk L k).k=5 then yes (.mk 1 (tk L k).s []) (k+1)
 else if iU L k=true then yes (.mk 2 (tk L k).s []) (k+1)
 else aZ L [40] k λk=>bd (p.dT k) λa k=>
  if dN L k [44]=true then bd (oG L p [a] k) λl k=>aZ L [41] k λk=>if iU L k=true then yes (.mk 2 (tk L k).s l) (k+1)else kS L k
  else aZ L [41] k λk=>yes a k
def np (k:Nat):PR bo:=bd (pc L p k) λa k=>ka L p a k
def xw (k:Nat):PR da:=bC L 4 k λt k=>if dN L k [111,102]=true then bd (p.dT (k+1)) λa k=>yes ⟨t.s,[a]⟩ k else yes ⟨t.s,[]⟩ k
def tM (l:List Fn)(k:Nat):PR (List Fn):=if dN L k [97,110,100]=true then bd (p.fn (k+1)) λf k=>p.fA (l++[f]) k else yes l k
def nq (k:Nat):PR (Option a_):=
 if dN L k [118,97,108]=true then bd (p.pat (k+1)) λa k=>aZ L [61] k λk=>bd (p.exp k) λe k=>yes (some (.mk 1 a e [] gO jW)) k
 else if dN L k [102,117,110]=true then bd (p.fn (k+1)) λf k=>bd (tM L p [f] k) λl k=>yes (some (.mk 2 jV ke l gO jW)) k
 else yes none k
def tN (l:List bh)(k:Nat):PR (List bh):=if kT L k=true then bd (p.bw k) λq k=>p.mD (l++[q]) k else yes l k
def L0 (k:Nat):PR Fn:=bC L 3 k λt k=>bd (p.bw k) λq k=>bd (tN L p [q] k) λl k=>aZ L [61] k λk=>bd (p.exp k) λe k=>yes (.mk t.s l e) k
def nr (l:List (List UInt8))(k:Nat):PR (List (List UInt8)):=if dN L k [44]=true then bC L 5 (k+1) λt k=>p.fB (l++[t.s]) k else yes l k
def iu (l:List da)(k:Nat):PR (List da):=if dN L k [124]=true then bd (p.dY (k+1)) λc k=>p.fC (l++[c]) k else yes l k
def pe (k:Nat):PR (List (List UInt8)):=
 if(tk L k).k=5 then yes [(tk L k).s] (k+1)
 else if dN L k [40]=true then bC L 5 (k+1) λt k=>bd (nr L p [t.s] k) λl k=>aZ L [41] k λk=>yes l k
 else yes [] k
def nu (k:Nat):PR Data:=bd (pe L p k) λvs k=>bC L 3 k λt k=>aZ L [61] k λk=>bd (p.dY k) λc k=>bd (iu L p [c] k) λl k=>yes ⟨vs,t.s,l⟩ k
def xx (k:Nat):PR (Option a_):=
 if dN L k [100,97,116,97,116,121,112,101]=true then bd (p.data (k+1)) λx k=>yes (some (.mk 3 jV ke [] x jW)) k
 else if dN L k [101,120,99,101,112,116,105,111,110]=true then bd (p.dY (k+1)) λc k=>yes (some (.mk 4 jV ke [] gO c)) k
 else p.bind k
abbrev zP (e:aH):a_:= .mk 5 jV e [] gO jW
def nv (ds:List a_)(k:Nat):PR (List a_):=
 if(tk L k).k=0 then yes ds k else bd (p.dec k) λd k=>match d with
  | some d=>p.bW (ds++[d]) (skip L [59] k)
  | none=>bd (p.exp k) λe k=>p.bW (ds++[zP e]) (skip L [59] k)
def Rg:PS where
 exp:=xp L p
 fO:=xo L p
 bin:=xq L p
 fy:=tJ L p
 un:=LY L p
 fP:=tK L p
 atom:=nn L p
 dQ:=kf L p
 lt:=LZ L p
 ga:=tL L p
 pat:=xr L p
 bw:=jX L p
 fQ:=l4 L p
 dT:=xu L p
 dA:=l5 L p
 post:=np L p
 mC:=oG L p
 cP:=ka L p
 dY:=xw L p
 bind:=nq L p
 fA:=tM L p
 fn:=L0 L p
 mD:=tN L p
 dec:=xx L p
 data:=nu L p
 fB:=nr L p
 fC:=iu L p
 bW:=nv L p
def ps:Nat->PS
 | 0=>PS.none
 | n+1=>Rg L (ps n)
end
section
variable {nx0:Nat}{H0:T OB}
variable {fr:Nat->List Value->TypeId->Prop}{bp:Nat}{l0:List Tok}{b0:Bool}{ok:Bool}{ts:List Tok}{n nx:Nat}{H:T OB}{R:Value->T OB->Nat->Prop}
abbrev Y5 (s:List UInt8):Tok:=⟨7,s,0,0⟩
theorem Xp (f:FuncId)(k:Int)(s:List UInt8)(hf:X0 f [aD s]=none)(hq:∀H nx,aQ P pl (.call f [aD s] false none H nx)=ao (au P H nx 31) (λx0 H nx=>aa (az P 31 (some [(0,i64 k),(1,aD s)])) (λx1=>ao (ah P H nx 31 (some x0) (some x1)) (λx2 H nx=>aa (ae P H 31 (some x0)) (λx3=> .ret ⟨.ret x3,false,H,nx⟩) .bad)) .bad)):
 P0 f [aD s] (Tok.v ⟨k,s,0,0⟩):=Pure.of hf λH nx=>by
 rw[hq];refine Wq.alloc cB (.refl _ _) λH1 hb _ hA1=> ?_;simp only[af,nk];refine Wq.store hb dy (by simp) rfl rfl hA1 (by omega) λH2 hb _ hA2=> ?_;have hb':cR H2 nx (Tok.c ⟨k,s,0,0⟩) 31:=hb;rw[bY hb' si dy (by simp)];exact Wq.ret hA2
theorem Rh (l:List (List UInt8))(hl:l.length<cX)(s:List UInt8):∀(r:List (List UInt8)) (i:Nat) (H:T OB) (nx:Nat),l.drop i=r->i<=l.length->Ag nx0 H0 nx H->Wq P pl X0 (.jump (sG (aD s) (gk l) (i64 (l.length:Int)) (i64 (i:Int)) H nx)) nx0 H0 (.bool (r.contains s)):=by
 intro r
 induction r with
 | nil=>
   intro i H nx hd hi hA;have hil:=drop_nil hd hi;refine Wq.jmp (wS ..) (λ_=>rfl) ?_;simp only[af,cc,List.length_map,hil,aR];exact Wq.ret hA
 | cons x r ih=>
   intro i H nx hd hi hA;obtain⟨hg,hlt,hd'⟩:=drop_cons hd;have hg':(l.map aD)[i]? = some (aD x):=by simp[hg]
   refine Wq.jmp (wS ..) (λ_=>rfl) ?_;simp only[af,cc,List.length_map,aU hlt,zn hg',dn,aG (show i<9223372036854775807 by have:=cU hl;omega)];refine Wq.ite (λh=> ?_) (λh=> ?_)
   . exact Wq.e7 (by subst h;simp) hA
   . have:((x::r).contains s)=r.contains s:=by rw[List.contains_cons,show(s == x)=false from by simp;exact λq=>h q.symm,Bool.false_or]
     rw[this];exact ih (i+1) H nx hd' (by omega) hA
theorem Ri (l:List (List UInt8))(hl:l.length<cX)(s:List UInt8):P0 153 [gk l,aD s] (.bool (l.contains s)):=Pure.of rfl λH nx=>by
 rw[TU];simp only[af,cc,List.length_map];exact Rh l hl s l 0 H nx rfl (Nat.zero_le _) (.refl _ _)
theorem L1 (b:Nat)(l:List (List UInt8))(s:List UInt8)(hb:pB H0 b (l.map aD))(hbx:b<nx0)(hl:l.length<1000000)(cp:Nat):∀(r:List (List UInt8)) (i:Nat) (H:T OB) (nx:Nat),l.drop i=r->i<=l.length->Ag nx0 H0 nx H->
 Wq P pl X0 (.jump (sG (aD s) (.slice (some ⟨b,0,none⟩) l.length cp) (i64 (l.length:Int)) (i64 (i:Int)) H nx)) nx0 H0 (.bool (r.contains s)):=by
 intro r
 induction r with
 | nil=>
   intro i H nx hd hi hA;have hil:=drop_nil hd hi;refine Wq.jmp (wS ..) (λ_=>rfl) ?_;simp only[af,hil,aR];exact Wq.ret hA
 | cons x r ih=>
   intro i H nx hd hi hA;obtain⟨hg,hlt,hd'⟩:=drop_cons hd;have hg':(l.map aD)[0+i*1]? = some (aD x):=by simp[hg]
   refine Wq.jmp (wS ..) (λ_=>rfl) ?_;simp only[af,aU hlt,Ht hlt,oF (hb.ag hA hbx) lX hg',aG (show i<9223372036854775807 by omega),dn];refine Wq.ite (λh=> ?_) (λh=> ?_)
   . exact Wq.e7 (by subst h;simp) hA
   . have:((x::r).contains s)=r.contains s:=by rw[List.contains_cons,show(s == x)=false from by simp;exact λq=>h q.symm,Bool.false_or]
     rw[this];exact ih (i+1) H nx hd' (by omega) hA
theorem Rj (H:T OB):bA P H 188 (some (.pointer (some ⟨3,0,none⟩))) (some none) (some none) (some none)=some (.slice (some ⟨3,0,none⟩) 8 8):=kQ (len:=8) (e:=9) (by kernel_rfl) gT (by omega) (by omega)
theorem L2 (s:List UInt8):PT 153 [.slice (some ⟨3,0,none⟩) 8 8,aD s] (.bool (eA.contains s)):=PT.of rfl λH nx hT=>by
 rw[TU];simp only[af];exact L1 3 eA s hT.words (by have:=hT.1;omega) (by decide) 8 eA 0 H nx rfl (Nat.zero_le _) (.refl _ _)
theorem Be {b s:Nat}{l:List Value}{t:TypeId}{H:T OB}(h:pB H b l)(ha:dC P t=some true)(hs:bq P t=some s)(hl:l.length=s):ae P H t (some (.pointer (some ⟨b,0,none⟩)))=some (.agg ⟨l⟩):=by
 obtain⟨tr,h1,h2⟩:=h;show j5 P H t b 0=_;unfold j5;rw[h1];show kn P l.length tr t 0=_;unfold kn;rw[ha,aT];show qO P l.length tr t 0=_;unfold qO;rw[hs,aT,jN h2 s 0 (by omega),Nat.ble_eq_true_of_le (show 0+s<=l.length by omega)];simp[<- hl]
end
end
end Go.Proofs.YthjhonhhbddhkaaGreatDoor
