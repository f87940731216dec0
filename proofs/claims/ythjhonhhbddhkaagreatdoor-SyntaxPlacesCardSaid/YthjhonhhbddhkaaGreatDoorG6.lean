/- Texts of this claim, side by side. -/
import Derived.Test.YthjhonhhbddhkaaGreatDoorG3
import Derived.Laws.Tables
import Derived.ShapedOpen
import Derived.Deep.Slices
import Derived.Lib.LaidTab
import Derived.Test.YthjhonhhbddhkaaGreatDoorG4
import Derived.Test.YthjhonhhbddhkaaGreatDoorG5
import Derived.KernelRfl
namespace Go.Ev
open Go.RowKit (Below)
noncomputable section
set_option maxRecDepth 100000
set_option linter.unusedVariables false
set_option linter.unusedSimpArgs false
section
variable {P:Program}{W:World}{φ:bZ}
def jt (W:World)(k:Nat):Option (Array Value):=match W.heap[k]? with
 | some (.cells c _ _)=>some c
 | _=>none
def fZ (W:World):bZ:=(List.range W.heap.size).map λk=>some ⟨k,0,0,jt W k⟩
theorem mN (W:World):(fZ W).length=W.heap.size:=by simp[fZ]
theorem ju {k:Nat}{e:fp}(h:(fZ W)[k]? = some (some e)):k<W.heap.size/\e=⟨k,0,0,jt W k⟩:=by
 unfold fZ at h;rw[List.getElem?_map]at h
 by_cases hk:k<W.heap.size
 . rw[List.getElem?_range hk]at h;simp at h;exact⟨hk,h.symm⟩
 . rw[List.getElem?_eq_none (by simp;omega)]at h;cases h
theorem sS {k:Nat}(h:k<W.heap.size):(fZ W)[k]? = some (some ⟨k,0,0,jt W k⟩):=by
 unfold fZ;rw[List.getElem?_map,List.getElem?_range h];rfl
theorem iD (k:Nat):hp (.leaf:T OB) k=none:=by simp[hp]
theorem PD (hg:P.globals.size<=W.heap.size):HR P W (fZ W) (hp .leaf) W where
 below:= .refl _ _
 mz:=λk ob h=>by rw[iD]at h;cases h
 lI:=λk e h=>by obtain⟨h1,rfl⟩:=ju h;exact h1
 inj:=λk k' ob ob' e e' _ _ h=>by rw[iD]at h;cases h
 obj:=λk ob e h=>by rw[iD]at h;cases h
 gl:=λk hk=>⟨_,sS (by omega),rfl⟩
 j3:=λk e c h hf=>by
  obtain⟨h1,rfl⟩:=ju h;unfold jt at hf
  dsimp only at hf ⊢
  split at hf
  . rename_i c' el fz hc;cases hf;exact⟨el,fz,hc⟩
  . cases hf
 oo:=λk k' e e' c ob _ _ _ h=>by rw[iD]at h;cases h
theorem wS (h:W.ShapedOpen P)(hw:P.globals.size<(begin P (λ_ _=>0) default).world.heap.size):P.globals.size<=W.heap.size:=by
 obtain⟨o,_,h1,_⟩:=h.2 P.globals.size (Nat.le_refl _) hw;have:=(Array.getElem?_eq_some_iff.1 h1).1;omega
theorem An {a:Addr}{v:Value}(h:W.cell? a=some v):a.block<W.heap.size/\a.spot=none/\∃c,jt W a.block=some c/\c[a.off]? = some v:=by
 unfold World.cell? at h;unfold jt;split at h
 . rename_i c el fz hc;split at h
   . cases h
   . rename_i hs;refine⟨(Array.getElem?_eq_some_iff.1 hc).1,by simpa using hs,c,by rw[hc],h⟩
 . cases h
theorem qQ (a:Addr):a.add 0=a:=rfl
theorem KI {a:Addr}{len cap s:Nat}{es:List Value}(hlen:es.length=len)(hs:∀x,x∈es->x.cells.toList.length=s)(hpos:0<s)(hcap:len<=cap)
 (hx:∀(i:Nat) (x:Value),es[i]? = some x->∃cs,W.cells? 0 (a.add (i*s)) s=some cs/\LR (fZ W) x.cells.toList cs):VR (fZ W) (bc s es) (.slice (some a) len cap):=by
 cases es with
 | nil=>subst hlen;exact .oi s a cap
 | cons x0 es=>
   obtain⟨cs0,h0,hl0⟩:=hx 0 x0 rfl;obtain⟨_,hn0,hc0⟩:=World.cells?_some h0;have e0:=hc0 0 hpos;rw[Nat.zero_mul,qQ,qQ,List.getElem?_eq_getElem (by omega)]at e0;obtain⟨hb,hsp,c,hc,_⟩:=An e0;obtain⟨b,o,sp⟩:=a
   dsimp only at hb hsp hc
   subst hsp;have key:∀(i j:Nat) (x v:Value),(x0::es)[i]? = some x->x.cells.toList[j]? = some v->∃v',c[o+i*s+j]? = some v'/\VR (fZ W) v v':=by
    intro i j x v hi hj;obtain⟨cs,h1,h2⟩:=hx i x hi;obtain⟨_,hn,hc1⟩:=World.cells?_some h1;have hjs:j<s:=by
     have:=(List.getElem?_eq_some_iff.1 hj).1;rw[hs x (List.mem_of_getElem? hi)]at this;exact this
    have e1:=hc1 j hjs;rw[List.getElem?_eq_getElem (by omega)]at e1;have e2:=e1;rw[cK,cK]at e1;obtain⟨_,_,c',hc',e3⟩:=An e1
    dsimp only at hc' e3
    rw[hc]at hc';cases hc';exact⟨_,e3,h2.at_ j v _ hj (List.getElem?_eq_getElem _)⟩
   have hrow:=VR.row (φ:=fZ W) (k:=b) (o:=o) (c':=cap) (c:=c) (es:=x0::es) (s:=s) (sS hb) hc hs (λ_=> ?_) (by omega) (λi j x v v' hi hj hv=> ?_)
   . subst hlen;exact hrow
   . have hx1:(x0::es)[es.length]? = some ((x0::es)[es.length]'(by simp)):=List.getElem?_eq_getElem _;have hl:=hs _ (List.mem_of_getElem? hx1);obtain⟨v',h1,_⟩:=key es.length (s-1) _ _ hx1 (List.getElem?_eq_getElem (by omega));have:=(Array.getElem?_eq_some_iff.1 h1).1;have e5:(x0::es).length*s=es.length*s+s:=by rw[List.length_cons,Nat.succ_mul]
     omega
   . obtain⟨v'',h1,h2⟩:=key i j x v hi hj;rw[h1]at hv;cases hv;exact h2
end
end
end Go.Ev
namespace Go.Ev
noncomputable section
set_option maxRecDepth 100000
set_option linter.unusedVariables false
set_option linter.unusedSimpArgs false
section
variable {P:Program}{pl:ig}{X:Ext}{H H0 H1:T OB}{nx nx0 aJ:Nat}{v u:Value}{R:Go.Ev.Out->T OB->Nat->Prop}
abbrev aE (l:List UInt8):Value:=Value.string ⟨⟨l⟩⟩
def pN (l:List UInt8):List Value:=l.map λx=> .int .u8 (.ofNat x.toNat)
@[simp] theorem KJ (l:List UInt8):(pN l).length=l.length:=by simp[pN]
theorem pj (a b:List UInt8):pN (a++b)=pN a++pN b:=by simp[pN]
theorem Gj (l:List UInt8):(pN l).all au=true:=by
 induction l with
 | nil=>rfl
 | cons a l ih=>simp[pN,au]
theorem BA (l:List UInt8):strOf (pN l)=some l:=by
 induction l with
 | nil=>rfl
 | cons a l ih=>
   show(match strOf (pN l)with | some r=>some (a.toNat.toUInt8::r) | none=>none)=_;rw[ih];simp
theorem aK (a:List UInt8):(⟨⟨a⟩⟩:ByteArray).size=a.length:=rfl
theorem mc {s:Sem Value}{w:Value}(h:bD P s=some w)(hw:flat w=true):fV P s=some w:=by
 show nQ (bD P (vS s))=_;have e:bD P (vS s)=some (Next.value w):=by
  show bD P (s >>= λv=>pure (Next.value v))=_;rw[a9,h];rfl
 rw[e];show(nN w λv=>bif flat v then some v else none)=_;rw[ik,hw];rfl
theorem BB {s d:TypeId}{b off n c:Nat}{l:List Value}{r:List UInt8}{e:TypeId}(hq:dH P s d=true)(h:cm H b l e)(hn:off+n<=l.length)(hr:(l.drop off).take n=pN r):
 cB P H s d (some (.slice (some ⟨b,off,none⟩) n c))=some (aE r):=by
 obtain⟨tr,h1,h2⟩:=h;show(bif dH P s d then pO (H.get (bits b)) (λm tr=>bif Nat.ble (off+n) m then aa (mZ tr n off) (λl=>aa (strOf l) (λr=>some (Value.string ⟨⟨r⟩⟩)) none) none else none) none else none)=_;rw[hq,cond_true,h1];show(bif Nat.ble (off+n) l.length then aa (mZ tr n off) (λl=>aa (strOf l) (λr=>some (Value.string ⟨⟨r⟩⟩)) none) none else none)=_;rw[Nat.ble_eq_true_of_le hn,cond_true,gC h2 n off hn,aN,hr,BA];rfl
theorem wT {s d e:TypeId}(hs:P.underlying s=some (.slice e))(he:P.underlying e=some (.int .u8))(hd:P.underlying d=some .string):cB P H s d (some (.slice none 0 0))=some (aE []):=by
 show tR P s d (.slice none 0 0)=_;show(fV P (convert s d (.slice none 0 0)))=_;have e1:bD P (convert s d (.slice none 0 0))=some (aE []):=by
  unfold convert;simp only[a9,bT hs,bT hd,Option.bind_some];simp only[a9,bT he,Option.bind_some];simp[Conv.bytesToString];rfl
 exact mc e1 rfl
theorem kA {s d:TypeId}{k k':IntKind}{n:Int}{ds:TypeDesc}(hs:P.underlying s=some ds)(hd:P.underlying d=some (.int k)):cB P H s d (some (.int k' n))=some (.int k (k.wrap n)):=by
 show tR P s d (.int k' n)=_;show(fV P (convert s d (.int k' n)))=_;have e1:bD P (convert s d (.int k' n))=some (.int k (k.wrap n)):=by
  unfold convert;simp only[a9,bT hs,bT hd,Option.bind_some];rfl
 exact mc e1 rfl
theorem Gk (k:IntKind)(n:Int):jZ P .neg (some (.int k n))=some (.int k (k.wrap (0-n))):=by
 show fV P (Op.unary .neg (.int k n))=_;have e:Op.unary .neg (.int k n)=pure (.int k (k.wrap (0-n))):=rfl;rw[e];exact dU rfl
end
section
variable {P:Program}{pl:ig}{X:Ext}{H H0 H1:T OB}{nx nx0 aJ:Nat}{v u:Value}{R:Go.Ev.Out->T OB->Nat->Prop}
theorem aW {t:TypeId}(hu:P.underlying t=some .string){l:List UInt8}{i:Nat}{c:UInt8}(h:l[i]? = some c)(k:IntKind):aH P t (some (aE l)) (some (.int k (i:Int)))=some (.int .u8 (c.toNat:Int)):=by
 show vT P t (aE l) (.int k i)=_;show fV P (Instr.index t (aE l) (.int k i))=_;have hi:i<l.length:=(List.getElem?_eq_some_iff.1 h).1;have e0:(⟨⟨l⟩⟩:ByteArray)[i]? = some c:=by
  rw[ByteArray.getElem?_lt' _ _ hi];exact(List.getElem?_eq_getElem hi).symm.trans h
 have e1:bD P (Instr.index t (aE l) (.int k i))=some (.int .u8 (c.toNat:Int)):=by
  unfold Instr.index;simp only[asIntOf,a9,bT hu,Option.bind_some];have h0:(0:Int)<=(i:Int):=by omega
  have:bD P (pure (k,(i:Int)):Sem (IntKind×Int))=some (k,(i:Int)):=rfl;simp only[this,Option.bind_some,h0,if_true,Int.toNat_natCast,e0];rfl
 exact mc e1 rfl
def BS (e:TypeId)(nx0:Nat)(H:T OB)(nx:Nat)(r:List UInt8)(sl:Value):Prop:=
 (r=[]/\sl= .slice none 0 0)\/∃b c,nx0<=b/\b<nx/\cm H b (pN r) e/\(c=dP\/c=r.length)/\sl= .slice (some ⟨b,0,none⟩) r.length c
theorem BS.nil (e:TypeId)(nx0:Nat)(H:T OB)(nx:Nat):BS e nx0 H nx [] (.slice none 0 0):= .inl ⟨rfl,rfl⟩
theorem Wq.KK {t e:TypeId}{n:Nat}{r x:List UInt8}{sl:Value}{vs:List (Nat×Value)}{z:List Value}{k:Value->T OB->Nat->Q}(hu:P.underlying t=some (.slice e))(hs:a6 P e=some 1)(hz:bE P e=some z)(hsl:BS e nx0 H nx r sl)(hn:x.length=n)
 (hg:(Nat.ble (n*1) 16777216&&Nat.blt 0 (n*1)&&Nat.blt 0 z.length)=true) (hf:Instr.fill (λi=>some (i*1,1)) (bz z (n*1)) vs=some ⟨pN x⟩) (hsm:∀m,m<=r.length+x.length->bB P e 1 m=true) (h:Ag nx0 H0 nx H)
 (hk:∀H' sl' nx',BS e nx0 H' nx' (r++x) sl'->Ag nx0 H0 nx' H'->nx<=nx'->aT P pl X (k sl' H' nx') nx0 H0 R):
 aT P pl X (ao (aq P H nx t n (some vs)) λv H nx=>ao (bt P H nx [t,t] (some [sl,v])) k) nx0 H0 R:=by
 have hn0:0<x.length:=by
  rw[hn];simp only[Bool.and_eq_true]at hg;have:=Nat.lt_of_lt_of_le (Nat.zero_lt_one) (Nat.le_of_ble_eq_true hg.1.2);omega
 refine Wq.row hu hs hz hg hf h λH1 hb1 cA hA1=> ?_;have hx1:kc H1 1 (.slice (some ⟨nx,0,none⟩) n n)=some (n,pN x):=oZ hb1 (by simp;exact hn);rcases hsl with⟨rfl,rfl⟩ | ⟨b,c,hb0,hbx,hb,hc,rfl⟩
 . refine Wq.FK hu hs rfl hx1 (hsm _ (by simp;omega)) hA1 (λh0=>by omega) λH2 _ hb2 _ hA2=> ?_;refine hk _ _ _ ?_ hA2 (by omega);exact .inr ⟨nx+1,dP,by have:=h.1;omega,by omega,by simpa using hb2,.inl rfl,by rw[List.nil_append,hn]⟩
 . have hb':=cA _ _ _ hbx hb;rcases hc with rfl | rfl
   . refine Wq.app hu hs hb' hs (by simp) rfl hx1 (Gj x) (hsm _ (by omega)) hA1 hb0 (by omega) λH2 hb2 _ hA2=> ?_;refine hk _ _ _ ?_ hA2 (by omega);exact .inr ⟨nx+1,dP,by have:=h.1;omega,by omega,by rw[pj];exact hb2,.inl rfl,by rw[List.length_append,hn]⟩
   . rw[jM rfl];unfold cV;rw[hu];simp only[hs,aN,hx1,hsm (r.length+n) (by omega),cond_true];obtain⟨tr,h1,h2⟩:=hb'
     by_cases hr:r.length=dP
     . have hh:=hsm r.length (by omega);exact absurd hh (by
        unfold bB;intro q;split at q
        . simp only[Bool.and_eq_true]at q;have:=Nat.le_of_ble_eq_true q.1.2;unfold dP at hr;omega
        . cases q)
     . have e1:pR P H1 (nx+1) e 1 (some ⟨b,0,none⟩) r.length r.length n (pN x)=gd H1 (nx+1) e (r.length+n) (pN r++pN x):=by
        show tV P H1 (nx+1) e 1 b 0 r.length r.length n (pN x)=_;unfold tV;rw[h1];have eu:Nat.beq r.length dP=false:=by
         rw[Bool.eq_false_iff];intro q;rw[Nat.beq_eq]at q;exact hr q
        have el:Nat.ble (r.length+n) r.length=false:=by
         rw[Bool.eq_false_iff];intro q;have:=Nat.le_of_ble_eq_true q;omega
        simp only[dh,eu,cond_false,el];unfold mw;rw[show Nat.ble (0+r.length*1) (pN r).length=true from Nat.ble_eq_true_of_le (by simp),show Nat.blt 0 n=true from Nat.ble_eq_true_of_le (by omega)];have:mZ tr (r.length*1) 0=some (pN r):=by rw[gC h2 _ _ (by simp)];simp[List.take_of_length_le]
        simp only[Bool.and_self,cond_true,this,aN]
       rw[e1,gi];refine Wq.new (q:=λH n'=>k (.slice (some ⟨nx+1,0,none⟩) (r.length+n) dP) H n') hA1 λH2 hb2 _ hA2=> ?_;refine hk _ _ _ ?_ hA2 (by omega);exact .inr ⟨nx+1,dP,by have:=h.1;omega,by omega,by rw[pj];exact hb2,.inl rfl,by rw[List.length_append,hn]⟩
theorem me {s d e:TypeId}{r:List UInt8}{sl:Value}(hs:P.underlying s=some (.slice e))(he:P.underlying e=some (.int .u8))(hd:P.underlying d=some .string)(hq:dH P s d=true){e':TypeId}(h:BS e' nx0 H nx r sl):cB P H s d (some sl)=some (aE r):=by
 rcases h with⟨rfl,rfl⟩ | ⟨b,c,hb0,hbx,hb,hc,rfl⟩
 . exact wT hs he hd
 . exact BB hq hb (by simp) (by rw[List.drop_zero,List.take_of_length_le (by simp)])
end
end
end Go.Ev
namespace Go.Ev
open Go.RowKit (Below)
noncomputable section
set_option maxRecDepth 100000
set_option linter.unusedVariables false
set_option linter.unusedSimpArgs false
section
def KL {β:Type}(l:List (Nat×List Value)):T OB->(T OB->β)->β:=
 @List.rec (Nat×List Value) (λ_=>T OB->(T OB->β)->β) (λH k=>k H)
  (λx _ ih H k=>dG x.2 0 .leaf λt=>bN x.2.length λn=>cJ (bits x.1) H (some (.ro n t)) λH=>ih H k) l
def j8:List (Nat×List Value)->T OB->T OB
 | [],H=>H
 | x::l,H=>j8 l (set H (bits x.1) (some (.ro x.2.length (dB x.2 0 .leaf))))
theorem Ao {β:Type}:∀(l:List (Nat×List Value)) (H:T OB) (k:T OB->β),KL l H k=k (j8 l H)
 | [],H,k=>rfl
 | x::l,H,k=>by
   show(dG x.2 0 .leaf λt=>bN x.2.length λn=>cJ (bits x.1) H (some (.ro n t)) λH=>KL l H k)=_;rw[cC,a5,aY];exact Ao l _ k
theorem pn:∀(l:List (Nat×List Value)) (H:T OB) (k:Nat) (ob:OB),hp (j8 l H) k=some ob->(∃x∈l,x.1=k/\ob= .ro x.2.length (dB x.2 0 .leaf))\/hp H k=some ob
 | [],H,k,ob,h=> .inr h
 | x::l,H,k,ob,h=>by
   rcases pn l _ k ob h with⟨y,hy,h1,h2⟩ | h
   . exact .inl ⟨y,by simp[hy],h1,h2⟩
   . rw[bu]at h
     by_cases hk:k=x.1
     . subst hk;rw[cf]at h;cases h;exact .inl ⟨x,by simp,rfl,rfl⟩
     . rw[aX _ hk]at h;exact .inr h
variable {P:Program}{W:World}{φ:bZ}
def jT (l:List ByteArray):DataW Unit:= .agg (l.map λz=> .lit (.string z.data.toList))
theorem p6 {P:Program}{w:World}{base:Nat}{sp:Nat->Bool}{held:Bool}{fuel:Nat}{t e:TypeId}{n:Nat}{cs:List Value}{l:List ByteArray}{p:List MemPlace}
 (ht:P.underlying t=some (.array n e)) (he:P.underlying e=some .string) (hce:P.cellsOf e=1) (hct:P.cellsOf t=n)
 (h:DataW.trod (λ_=>()) P w base sp held fuel t cs=some (jT l,p)):cs=l.map Value.string:=by
 cases fuel with
 | zero=>simp[DataW.trod]at h
 | succ fuel=>
   simp only[DataW.trod,ht,hce,hct,Nat.mul_one]at h;split at h
   . rename_i hl;obtain⟨xs,hm,hx⟩:=Option.map_eq_some_iff.1 h;have hxs:xs.map (·.1)=l.map λz=>(DataW.lit (.string z.data.toList):DataW Unit):=by
      have:=congrArg Prod.fst hx;simpa[jT]using this
     have hxl:xs.length=n:=by simpa using Lib.mapM_length hm
     have hzl:l.length=n:=by
      have:=congrArg List.length hxs;simp at this;omega
     apply List.ext_getElem?;intro i
     by_cases hi:i<n
     . obtain⟨b,hb,hf⟩:=Lib.mapM_at hm i i (by simp[hi]);obtain⟨z,hc,rfl,_⟩:=DataW.trod_string he hf;have h1:cs[i]? = some (.string z):=by
        have:=congrArg (·[0]?) hc;simpa[List.getElem?_take,List.getElem?_drop]using this
       have h2:(xs.map (·.1))[i]? = some (DataW.lit (.string z.data.toList):DataW Unit):=by simp[hb]
       rw[hxs]at h2;simp only[List.getElem?_map,Option.map_eq_some_iff,DataW.lit.injEq,Lit.string.injEq]at h2;obtain⟨z',hz',hz2⟩:=h2;have:z'=z:=by
        cases z;cases z';simp at hz2;simp[hz2]
       simp[h1,hz',this]
     . rw[List.getElem?_eq_none (by omega),List.getElem?_eq_none (by simp;omega)]
   . cases h
theorem jv {P:Program}{W:World}{name:String}{l:List ByteArray}{rest:List (String×DataW Unit)}{g:Nat}{t e:TypeId}{n:Nat}
 (hg:P.globalNamed name=some g) (hty:(P.globals[g]?).map (·.type)=some t) (ht:P.underlying t=some (.array n e)) (he:P.underlying e=some .string) (hce:P.cellsOf e=1) (hct:P.cellsOf t=n)
 (h:laidMet P ((name,jT l)::rest) W):∃c el fz,W.heap[g]? = some (.cells c el fz)/\c.toList=l.map Value.string:=by
 obtain⟨ps,⟨g',t',cs,fuel,p,q,hg',ht',hvar,hd,_,_⟩,_⟩:=h;obtain rfl:=Option.some.inj (hg.symm.trans hg');obtain rfl:=Option.some.inj (hty.symm.trans ht');have hcs:=p6 ht he hce hct hd;unfold World.var? at hvar;rw[hg]at hvar;simp only[Option.bind_some]at hvar;split at hvar
 . rename_i c el fz hb;cases hvar;exact⟨_,_,_,hb,hcs⟩
 . cases hvar
end
end
end Go.Ev
namespace Go.Ev
noncomputable section
set_option maxRecDepth 100000
set_option linter.unusedVariables false
set_option linter.unusedSimpArgs false
section
variable {P:Program}{pl:ig}{X:Ext}{H H0 H1:T OB}{nx nx0 aJ:Nat}{v u:Value}{R:Go.Ev.Out->T OB->Nat->Prop}
def lp (H:T OB)(b:Nat)(l:List Value):Prop:=∃tr,H.get (bits b)=some (.ro l.length tr)/\∀i,i<l.length->tr.get (bits i)=l[i]?
theorem lp.ag {b:Nat}{l:List Value}(h:lp H b l)(hA:Ag nx H aJ H1)(hb:b<nx):lp H1 b l:=by
 obtain⟨tr,h1,h2⟩:=h;exact⟨tr,(show hp H1 b=_ from(hA.2 b hb).trans h1),h2⟩
theorem Wq.PE {t e e':TypeId}{b s n c:Nat}{a:Bool}{l es:List Value}{R:Go.Ev.Out->T OB->Nat->Prop}{k:Value->T OB->Nat->Q}(hu:P.underlying t=some (.slice e))(hs:a6 P e=some s)(ha:cP P e=some a)(hpos:(Nat.blt 0 s&&(a||Nat.beq s 1))=true)
 (hb:cm H b l e') (hl:l.length=n*s) (hc:(Nat.beq c dP||Nat.ble n c)=true) (hch:chunk a s n l=some es) (hone:(es.all λx=>Go.Ev.bK a true (au x))=true) (h:Ag nx0 H0 nx H) (hbn:nx0<=b)
 (hk:∀H',lp H' b l->(∀c l e,c≠b->cm H c l e->cm H' c l e)->Ag nx0 H0 (nx+1) H'->aT P pl X (k (bc s es) H' (nx+1)) nx0 H0 R):
 aT P pl X (fH P t (.slice (some ⟨b,0,none⟩) n c) H nx k) nx0 H0 R:=by
 obtain⟨tr,h1,h2⟩:=hb;have e2:Bb P H e b 0 n=some (bc s es):=by
  unfold Bb;rw[h1];show aa (a6 P e) (λs=>aa (cP P e) (λa=>bif Nat.ble (0+n*s) l.length&&Nat.blt 0 s&&(a||Nat.beq s 1)then _ else none) none) none=_;rw[hs,aN,ha,aN,Nat.zero_add,hl,Nat.ble_eq_true_of_le (Nat.le_refl _),Bool.true_and,hpos,cond_true];have:mZ tr (n*s) 0=some l:=by rw[<- hl,gC h2 _ _ (by omega)];simp
  rw[this,aN,hch,aN,hone];rfl
 have e1:fH P t (.slice (some ⟨b,0,none⟩) n c) H nx k=k (bc s es) (Ev.set H (bits b) (some (.ro l.length tr))) (nx+1):=by
  unfold fH;rw[hu];simp only;unfold gz;rw[hu];simp only;rw[hc,cond_true,e2,aN,aY,a5,h1];rfl
 rw[e1];refine hk _ ⟨tr,by rw[get_at,if_pos rfl],λi hi=> ?_⟩ (λc l e hc hi=>hi.other hc _) ((h.set hbn _).succ);exact h2 i hi
theorem mf {b off:Nat}{l:List Value}{t:TypeId}{u:Value}(h:lp H b l)(ha:cP P t=some false)(hu:l[off]? = some u):ae P H t (some (.pointer (some ⟨b,off,none⟩)))=some u:=by
 obtain⟨tr,h1,h2⟩:=h;have hlt:=(List.getElem?_eq_some_iff.1 hu).1;show iM P H t b off=_;unfold iM;rw[h1];show iW P l.length tr t off=_;unfold iW;rw[ha,aN];show nO l.length tr off=_;unfold nO;have e1:Nat.blt off l.length=true:=Nat.ble_eq_true_of_le hlt;rw[e1,h2 off hlt,hu];rfl
theorem jw {t e:TypeId}{s b off len:Nat}(hu:P.underlying t=some (.array len e))(hs:a6 P e=some s)(h0:0<len)(hl:len<9223372036854775808):
 bm P H t (some (.pointer (some ⟨b,off,none⟩))) (some none) (some none) (some none)=some (.slice (some ⟨b,off,none⟩) len len):=by
 show qa P t (λn s=>aa (some 0) (λl=>aa (some n) (λh=>iY b off n s l h) none) none) none=_;unfold qa;rw[hu];simp only;rw[hs,aN];show iY b off len s 0 len=_;unfold iY;rw[Nat.ble_eq_true_of_le (Nat.zero_le _),Nat.ble_eq_true_of_le (Nat.le_refl _),show Nat.blt len dP=true from Nat.ble_eq_true_of_le (by unfold dP;omega)];simp only[Bool.and_self,cond_true,a5];rw[show Nat.beq len 0=false from by rw[Bool.eq_false_iff];intro h;rw[Nat.beq_eq]at h;omega];simp
theorem cI {t:TypeId}(hu:P.underlying t=some .string){l:List UInt8}{lo hi:Nat}(h1:lo<=hi)(h2:hi<=l.length)(k k':IntKind):
 bm P H t (some (aE l)) (some (some (.int k (lo:Int)))) (some (some (.int k' (hi:Int)))) (some none)=some (aE ((l.drop lo).take (hi-lo))):=by
 show lK P t (aE l) (some (some (.int k (lo:Int)))) (some (some (.int k' (hi:Int)))) (some none)=_;show fV P (Instr.sliceAt t (aE l) (some (.int k (lo:Int))) (some (.int k' (hi:Int))) none)=_;have e0:(⟨⟨l⟩⟩:ByteArray).extract lo hi=⟨⟨(l.drop lo).take (hi-lo)⟩⟩:=by
  apply ByteArray.ext;rw[ByteArray.data_extract];apply Array.ext';simp
 have e1:bD P (Instr.sliceAt t (aE l) (some (.int k (lo:Int))) (some (.int k' (hi:Int))) none)=some (aE ((l.drop lo).take (hi-lo))):=by
  unfold Instr.sliceAt;simp only[a9,bT hu,Option.bind_some];unfold Instr.slice;simp only[a9,bT hu,Option.bind_some];unfold Instr.sliceBounds Instr.sliceBound;simp only[a9,asIntOf,Option.isSome];have pp:∀{α:Type} (a:α),bD P (pure a:Sem α)=some a:=λ_=>rfl;rw[if_neg (by decide)];simp only[a9,pp,Option.bind_some];have c1:(0:Int)<=(hi:Int)/\(hi:Int)<=((⟨⟨l⟩⟩:ByteArray).size:Int):=⟨by omega,by rw[aK];omega⟩;have c2:(0:Int)<=(lo:Int)/\(lo:Int)<=(((hi:Int).toNat:Nat):Int):=⟨by omega,by omega⟩;rw[if_pos c1];simp only[pp,Option.bind_some];rw[if_pos c2];simp only[pp,Option.bind_some,Int.toNat_natCast,e0]
 exact mc e1 rfl
end
end
end Go.Ev
namespace Go.Proofs.YthjhonhhbddhkaaGreatDoor
open Go.Ev Go.RowKit
noncomputable section
set_option maxRecDepth 100000
set_option linter.unusedVariables false
set_option linter.unusedSimpArgs false
set_option maxHeartbeats 8000000
section
variable {X:Ext}
abbrev i64 (n:Int):Value:= .int .i64 n
theorem aL {i:Nat}(h:i<9223372036854775807):IntKind.i64.wrap ((i:Int)+1)=((i+1:Nat):Int):=by rw[a7 (by omega)];omega
theorem Wq.each {nx0:Nat}{H0:T OB}{α σ:Type}(l:List α)(q:Nat->σ->T OB->Nat->Q)(R:List α->σ->Value)(hend:∀s H1 aJ,Ag nx0 H0 aJ H1->Wq P pl X (q l.length s H1 aJ) nx0 H0 (R [] s))
 (hstep:∀i a t s H1 aJ,l[i]? = some a->i<l.length->l.drop (i+1)=t->Ag nx0 H0 aJ H1->(∀s H2 nx2,Ag nx0 H0 nx2 H2->Wq P pl X (q (i+1) s H2 nx2) nx0 H0 (R t s))->Wq P pl X (q i s H1 aJ) nx0 H0 (R (a::t) s))
 (s:σ) (H1:T OB) (aJ:Nat) (hA:Ag nx0 H0 aJ H1):Wq P pl X (q 0 s H1 aJ) nx0 H0 (R l s):=by
 have h:=Wq.up l.length q (λi s=>R (l.drop i) s) (λs H1 aJ h=>by simpa using hend s H1 aJ h)
  (λi s H1 aJ hi ih hA=>by
   have:=hstep i l[i] _ s H1 aJ (List.getElem?_eq_getElem hi) hi rfl hA ih;simp only[List.drop_eq_getElem_cons hi];exact this) 0 s H1 aJ (Nat.zero_le _) hA
 simpa using h
theorem aV {α:Type}(l:List α):decide ((l.length:Int)<(l.length:Int))=false:=by simp
theorem aU {α:Type}{l:List α}{i:Nat}(h:i<l.length):decide ((i:Int)<(l.length:Int))=true:=by simp[h]
abbrev w (n:Int):Int:=IntKind.i64.wrap n
theorem Wq.iE {nx0:Nat}{H0:T OB}{nx:Nat}{H:T OB}{u v:Value}(e:u=v)(h:Ag nx0 H0 nx H):Wq P pl X (.ret ⟨.ret u,false,H,nx⟩) nx0 H0 v:=by subst e;exact Wq.ret h
theorem Wq.jmp {nx0:Nat}{H0:T OB}{R:Go.Ev.Out->T OB->Nat->Prop}{q:bI}{t:Q}(e:a4 P pl q=t)(hq:∀k,lO X q k=k)(h:aT P pl X t nx0 H0 R):aT P pl X (.jump q) nx0 H0 R:=Wq.jump hq (by rw[e];exact h)
theorem Wq.put {nx0:Nat}{H0:T OB}{nx:Nat}{H:T OB}{R:Go.Ev.Out->T OB->Nat->Prop}{b off:Nat}{l l':List Value}{e t:TypeId}{u:Value}{k:Value->T OB->Nat->Q}(hb:cm H b l e)(hs:a6 P t=some 1)(hc:u.cells.toList=[u])(ho:au u=true)
 (hn:off<l.length) (hl:l.set off u=l') (h:Ag nx0 H0 nx H) (hbn:nx0<=b) (hk:∀H',cm H' b l' e->(∀c l e,c≠b->cm H c l e->cm H' c l e)->Ag nx0 H0 nx H'->aT P pl X (k undef H' nx) nx0 H0 R):
 aT P pl X (ao (aj P H nx t (some (.pointer (some ⟨b,off,none⟩))) (some u)) k) nx0 H0 R:=by
 refine Wq.store hb hs (by omega) (by rw[hc];rfl) (by rw[hc];simp[ho]) h hbn λH' hb' hh hA'=>hk H' ?_ hh hA';rw[hc]at hb';have e1:gk l [u] off=l':=by
  rw[<- hl,List.set_eq_take_append_cons_drop,if_pos hn];unfold gk;simp
 rw[e1]at hb';exact hb'
theorem Wq.fj {nx0:Nat}{H0:T OB}{nx:Nat}{H:T OB}{R:Go.Ev.Out->T OB->Nat->Prop}{f:FuncId}{args:List Value}{u:Value}{k p:Value->T OB->Nat->Q}(hp:Pure P pl X f args u)(h:Ag nx0 H0 nx H)
 (hk:∀H' nx',Ag nx0 H0 nx' H'->nx<=nx'->(∀b l e,b<nx->cm H b l e->cm H' b l e)->aT P pl X (k u H' nx') nx0 H0 R):aT P pl X (ak (.call f args false none H nx) k p) nx0 H0 R:=by
 obtain⟨H1,aJ,h1,h2⟩:=hp H nx;obtain⟨v,H2,nx2,h3,hR,h4⟩:=hk H1 aJ (h.trans h1) h1.1 (λb l e hb h=>h.ag h1 hb);refine⟨v,H2,nx2,h3,hR,?_⟩;show aa (F P pl X (.call f args false none H nx)) (λr=>(match r.o with | .ret v=>k v r.H r.nx | .eR v=>p v r.H r.nx:Q).run (F P pl X)) none=_;rw[h2];exact h4
end
theorem aR:P.underlying 9=some .string:=by kernel_rfl
abbrev b8 (c:UInt8):Value:= .int .u8 (c.toNat:Int)
theorem drop_cons {α:Type}{l t:List α}{a:α}{i:Nat}(h:l.drop i=a::t):l[i]? = some a/\i<l.length/\l.drop (i+1)=t:=by
 have hi:i<l.length:=by
  apply Classical.byContradiction;intro q;rw[List.drop_of_length_le (by omega)]at h;cases h
 rw[List.drop_eq_getElem_cons hi]at h;injection h with h1 h2
 exact⟨by rw[List.getElem?_eq_getElem hi,h1],hi,h2⟩
theorem drop_nil {α:Type}{l:List α}{i:Nat}(h:l.drop i=[])(hi:i<=l.length):i=l.length:=by
 have:=congrArg List.length h;simp at this;omega
def bH (c:UInt8):Bool:=decide (97<=c.toNat)&&decide (c.toNat<=122)
def bC (c:UInt8):Bool:=decide (65<=c.toNat)&&decide (c.toNat<=90)
def bq (c:UInt8):Bool:=decide (48<=c.toNat)&&decide (c.toNat<=57)
def eZ (c:UInt8):Bool:=bH c||(bC c||(bq c||(decide (c.toNat=95)||decide (c.toNat=39))))
def eJ:List (List UInt8):=[[97,110,100],[97,110,100,97,108,115,111],[99,97,115,101],[100,97,116,97,116,121,112,101],[100,105,118],[101,108,115,101],[101,110,100],[101,120,99,101,112,116,105,111,110],[102,110],[102,117,110],[104,97,110,100,108,101],[105,102],[105,110],[105,116,111,115],[108,101,116],[109,111,100],[110,111,116],[111,102],[111,114,100],[111,114,101,108,115,101],[114,97,105,115,101],[114,101,102],[115,105,122,101],[115,116,114],[116,104,101,110],[118,97,108]]
def bk:List (List UInt8):=[[45,62],[61,62],[58,58],[58,61],[60,61],[62,61],[60,62],[61],[60],[62],[43],[45],[42],[94],[33],[126],[40],[41],[44],[59],[124],[95]]
def fM:List (List UInt8):=[[126],[33],[110,111,116],[114,101,102],[115,105,122,101],[115,116,114],[111,114,100],[105,116,111,115]]
def fE:List UInt8->Bool
 | []=>false
 | c::_=>bC c
def eK (s:List UInt8):Int:=if(fE s||(decide (s=[116,114,117,101])||(decide (s=[102,97,108,115,101])||decide (s=[110,105,108]))))=true then 4 else if eJ.contains s=true then 6 else 3
def isWord:List UInt8->Bool
 | []=>false
 | c::r=>(bH c||bC c)&&r.all eZ
def isVar:List UInt8->Bool
 | a::b::r=>decide (a.toNat=39)&&(bH b&&r.all λc=> !decide (c.toNat=39)&&eZ c)
 | _=>false
structure Tok where
 k:Int
 s:List UInt8
 n:Int
 at_:Int
abbrev Tok.c (t:Tok):List Value:=[i64 t.k,aE t.s,i64 t.n,i64 t.at_]
abbrev Tok.v (t:Tok):Value:= .agg ⟨t.c⟩
def dk (t:Tok):Bool:=
 if t.k=0 then decide (t.s=[])&&decide (t.n=0)
 else if t.k=1 then decide (t.s=[])&&(decide (0<=t.n)&&decide (t.n<=4611686018427387903))
 else if t.k=2 then decide (t.n=0)
 else if t.k=7 then decide (t.n=0)&&bk.contains t.s
 else if t.k=5 then isVar t.s&&decide (t.n=0)
 else if t.k=3\/t.k=4\/t.k=6 then isWord t.s&&(decide (t.n=0)&&decide (eK t.s=t.k))
 else false
def bn:List (List (List UInt8)):=[[[111,114,101,108,115,101]],[[97,110,100,97,108,115,111]],[[58,61]],[[61],[60,62],[60],[60,61],[62],[62,61]],[[58,58]],[[43],[45],[94]],[[42],[100,105,118],[109,111,100]]]
abbrev lvl (l:List (List UInt8)):Value:=bc 1 (l.map aE)
def fB:List (Nat×List Value):=[(0,bk.map aE),(1,eJ.map aE),(2,bn.map lvl),(3,fM.map aE)]
def dN (nx0:Nat)(H0:T OB):Prop:=4<=nx0/\∀x∈fB,lp H0 x.1 x.2
theorem dN.ag {nx0 nx:Nat}{H0 H:T OB}(h:dN nx0 H0)(hA:Ag nx0 H0 nx H):dN nx H:=⟨by have:=h.1;have:=hA.1;omega,λx hx=>(h.2 x hx).ag hA (by
 have h7:=h.1;simp only[fB,List.mem_cons,List.not_mem_nil,or_false]at hx;rcases hx with rfl | rfl | rfl | rfl<;>(show _<nx0;omega))⟩
theorem dN.I1 {nx0:Nat}{H0:T OB}(h:dN nx0 H0):lp H0 0 (bk.map aE):=h.2 (0,bk.map aE) (by simp[fB])
theorem dN.keys {nx0:Nat}{H0:T OB}(h:dN nx0 H0):lp H0 1 (eJ.map aE):=h.2 (1,eJ.map aE) (by simp[fB])
theorem dN.levels {nx0:Nat}{H0:T OB}(h:dN nx0 H0):lp H0 2 (bn.map lvl):=h.2 (2,bn.map lvl) (by simp[fB])
theorem dN.words {nx0:Nat}{H0:T OB}(h:dN nx0 H0):lp H0 3 (fM.map aE):=h.2 (3,fM.map aE) (by simp[fB])
abbrev X0:Ext:=λf args=>bif Nat.beq f 11 then(match args with | []=>some (.bool true) | _=>none)else none
abbrev P0 (f:FuncId)(args:List Value)(v:Value):Prop:=Pure P pl X0 f args v
theorem vi (c:UInt8):P0 55 [b8 c] (.bool (bH c)):=Pure.of rfl λH nx=>by
 rw[QY];simp only[af];unfold bH;refine Wq.ite (λh=> ?_) (λh=> ?_)
 . refine Wq.iE ?_ (.refl _ _);rw[show decide (97<=c.toNat)=true from by simp;omega,Bool.true_and];congr 1;rw[decide_eq_decide];omega
 . refine Wq.iE ?_ (.refl _ _);rw[show decide (97<=c.toNat)=false from by simp;omega];rfl
theorem Ap (c:UInt8):P0 57 [b8 c] (.bool (bC c)):=Pure.of rfl λH nx=>by
 rw[Q0];simp only[af];unfold bC;refine Wq.ite (λh=> ?_) (λh=> ?_)
 . refine Wq.iE ?_ (.refl _ _);rw[show decide (65<=c.toNat)=true from by simp;omega,Bool.true_and];congr 1;rw[decide_eq_decide];omega
 . refine Wq.iE ?_ (.refl _ _);rw[show decide (65<=c.toNat)=false from by simp;omega];rfl
theorem Aq (c:UInt8):P0 99 [b8 c] (.bool (bq c)):=Pure.of rfl λH nx=>by
 rw[Re];simp only[af];unfold bq;refine Wq.ite (λh=> ?_) (λh=> ?_)
 . refine Wq.iE ?_ (.refl _ _);rw[show decide (48<=c.toNat)=true from by simp;omega,Bool.true_and];congr 1;rw[decide_eq_decide];omega
 . refine Wq.iE ?_ (.refl _ _);rw[show decide (48<=c.toNat)=false from by simp;omega];rfl
theorem Ar (c:UInt8):P0 56 [b8 c] (.bool (eZ c)):=Pure.of rfl λH nx=>by
 rw[QZ];unfold eZ;refine Wq.call (vi c) (.refl _ _) λH1 aJ hA1=> ?_;simp only[af];cases bH c with
 | true=>exact Wq.ret hA1
 | false=>
   simp only[af,Bool.false_or];refine Wq.call (Ap c) hA1 λH2 nx2 hA2=> ?_;simp only[af];cases bC c with
   | true=>exact Wq.ret hA2
   | false=>
     simp only[af,Bool.false_or];refine Wq.call (Aq c) hA2 λH3 nx3 hA3=> ?_;simp only[af];cases bq c with
     | true=>exact Wq.ret hA3
     | false=>
       simp only[af,Bool.false_or];refine Wq.ite (λh=> ?_) (λh=> ?_)
       . refine Wq.iE ?_ hA3;rw[show decide (c.toNat=95)=true from by simp;omega];rfl
       . refine Wq.iE ?_ hA3;rw[show decide (c.toNat=95)=false from by simp;omega,Bool.false_or];congr 1;rw[decide_eq_decide];omega
theorem Dx {nx0:Nat}{H0:T OB}(b:Nat)(l:List (List UInt8))(s:List UInt8)(hb:lp H0 b (l.map aE))(hbx:b<nx0)(hl:l.length<1000000)(cp:Nat):∀(r:List (List UInt8)) (i:Nat) (H:T OB) (nx:Nat),l.drop i=r->i<=l.length->Ag nx0 H0 nx H->
 Wq P pl X0 (.jump (z3 (aE s) (.slice (some ⟨b,0,none⟩) l.length cp) (i64 (l.length:Int)) (i64 (i:Int)) H nx)) nx0 H0 (.bool (r.contains s)):=by
 intro r
 induction r with
 | nil=>
   intro i H nx hd hi hA;have hil:=drop_nil hd hi;refine Wq.jmp (IT ..) (λ_=>rfl) ?_;simp only[af,hil,aV];exact Wq.ret hA
 | cons x r ih=>
   intro i H nx hd hi hA;obtain⟨hg,hlt,hd'⟩:=drop_cons hd;have hg':(l.map aE)[0+i*1]? = some (aE x):=by simp[hg]
   refine Wq.jmp (IT ..) (λ_=>rfl) ?_;simp only[af,aU hlt,CU hlt,mf (hb.ag hA hbx) mK hg',aL (show i<9223372036854775807 by omega)];refine Wq.ite (λh=> ?_) (λh=> ?_)
   . exact Wq.iE (by have:x=s:=by simpa using h
                     subst this;simp) hA
   . have hne:x≠s:=λq=>h (by rw[q]);have:((x::r).contains s)=r.contains s:=by rw[List.contains_cons,show(s == x)=false from by simp;exact λq=>hne q.symm,Bool.false_or]
     rw[this];exact ih (i+1) H nx hd' (by omega) hA
def PT (f:FuncId)(args:List Value)(v:Value):Prop:=∀H nx,dN nx H->∃H' nx',Ag nx H nx' H'/\F P pl X0 (.call f args false none H nx)=some ⟨.ret v,false,H',nx'⟩
theorem PT.of {f:FuncId}{args:List Value}{v:Value}(hx:X0 f args=none)(h:∀H nx,dN nx H->Wq P pl X0 (a4 P pl (.call f args false none H nx)) nx H v):PT f args v:=λH nx hT=>by
 obtain⟨_,H',nx',h1,⟨_,rfl,rfl⟩,h2⟩:=h H nx hT;refine⟨H',nx',h1,?_⟩;rw[p5];show @Option.rec Value (λ_=>Option Rt) _ (λv=>some ⟨.ret v,false,H,nx⟩) (X0 f args)=_;rw[hx];exact h2
theorem Wq.po {nx0:Nat}{H0:T OB}{nx:Nat}{H:T OB}{R:Go.Ev.Out->T OB->Nat->Prop}{f:FuncId}{args:List Value}{u:Value}{k p:Value->T OB->Nat->Q}(hT:dN nx0 H0)(hp:PT f args u)(h:Ag nx0 H0 nx H)
 (hk:∀H' nx',Ag nx0 H0 nx' H'->aT P pl X0 (k u H' nx') nx0 H0 R):aT P pl X0 (ak (.call f args false none H nx) k p) nx0 H0 R:=by
 obtain⟨H1,aJ,h1,h2⟩:=hp H nx (hT.ag h);obtain⟨v,H2,nx2,h3,hR,h4⟩:=hk H1 aJ (h.trans h1);refine⟨v,H2,nx2,h3,hR,?_⟩;show aa (F P pl X0 (.call f args false none H nx)) (λr=>(match r.o with | .ret v=>k v r.H r.nx | .eR v=>p v r.H r.nx:Q).run (F P pl X0)) none=_;rw[h2];exact h4
theorem MO (H:T OB):bm P H 99 (some (.pointer (some ⟨0,0,none⟩))) (some none) (some none) (some none)=some (.slice (some ⟨0,0,none⟩) 22 22):=jw (len:=22) (e:=9) (by kernel_rfl) iC (by omega) (by omega)
theorem KM (H:T OB):bm P H 144 (some (.pointer (some ⟨1,0,none⟩))) (some none) (some none) (some none)=some (.slice (some ⟨1,0,none⟩) 26 26):=jw (len:=26) (e:=9) (by kernel_rfl) iC (by omega) (by omega)
theorem BC {nx0:Nat}{H0:T OB}{nx:Nat}{H:T OB}(hT:dN nx0 H0)(s:List UInt8)(hA:Ag nx0 H0 nx H):Wq P pl X0 (a4 P pl (.call 54 [.slice (some ⟨1,0,none⟩) 26 26,aE s] false none H nx)) nx0 H0 (.bool (eJ.contains s)):=by
 rw[QA];simp only[af];exact Dx 1 eJ s hT.keys (by have:=hT.1;omega) (by decide) 26 eJ 0 H nx rfl (Nat.zero_le _) hA
theorem wU {nx0:Nat}{H0:T OB}{nx:Nat}{H:T OB}(hT:dN nx0 H0)(s:List UInt8)(hA:Ag nx0 H0 nx H):Wq P pl X0 (a4 P pl (.call 54 [.slice (some ⟨0,0,none⟩) 22 22,aE s] false none H nx)) nx0 H0 (.bool (bk.contains s)):=by
 rw[QA];simp only[af];exact Dx 0 bk s hT.I1 (by have:=hT.1;omega) (by decide) 22 bk 0 H nx rfl (Nat.zero_le _) hA
theorem I2 (c:UInt8)(r:List UInt8):PT 58 [aE (c::r)] (i64 (eK (c::r))):=PT.of rfl λH nx hT=>by
 rw[Q2];have hix:=aW (P:=P) aR (l:=c::r) (i:=0) (c:=c) rfl .i64;rw[show((0:Nat):Int)=0 from rfl]at hix;have L6:∀(b:Bool) H1 aJ,Ag nx H aJ H1->b=(fE (c::r)||(decide (c::r=[116,114,117,101])||(decide (c::r=[102,97,108,115,101])||decide (c::r=[110,105,108]))))->Wq P pl X0 (.jump (qP (aE (c::r)) b H1 aJ)) nx H (i64 (eK (c::r))):=by
  intro b H1 aJ hA1 hb;refine Wq.jmp (ML ..) (λ_=>rfl) ?_;unfold eK;rw[<- hb];refine Wq.bK (λh=> ?_) (λh=> ?_)
  . rw[if_pos h];exact Wq.ret hA1
  . rw[if_neg (by rw[h];decide)];simp only[af,KM];refine Wq.CK rfl (BC hT _ hA1) λH2 nx2 hA2=> ?_;simp only[af];refine Wq.bK (λh2=> ?_) (λh2=> ?_)
    . rw[if_pos h2];exact Wq.ret hA2
    . rw[if_neg (by rw[h2];decide)];exact Wq.ret hA2
 have hb:∀l:List UInt8,decide ((⟨⟨c::r⟩⟩:ByteArray)=⟨⟨l⟩⟩)=decide (c::r=l):=λl=>by rw[decide_eq_decide];simp
 simp only[af,hix];refine Wq.call (Ap c) (.refl _ _) λH1 aJ hA1=> ?_;simp only[af,hb];refine Wq.bK (λh=>L6 _ _ _ hA1 (by show true=(bC c||_);rw[h];rfl)) (λh0=> ?_);refine Wq.bK (λh=>L6 _ _ _ hA1 (by show true=(bC c||_);rw[h0,h];rfl)) (λh1=> ?_);refine Wq.bK (λh=>L6 _ _ _ hA1 (by show true=(bC c||_);rw[h0,h1,h];rfl)) (λh2=> ?_);exact L6 _ _ _ hA1 (by show _=(bC c||_);rw[h0,h1,h2];rfl)
section
variable {nx0:Nat}{H0:T OB}
theorem Gl (t:Tok)(hl:t.s.length<9223372036854775807):∀(r:List UInt8) (i:Nat) (H:T OB) (nx:Nat),t.s.drop i=r->i<=t.s.length->Ag nx0 H0 nx H->
 Wq P pl X0 (.jump (rS (ai t.v) (i64 (i:Int)) H nx)) nx0 H0 (.bool ((r.all λc=> !decide (c.toNat=39)&&eZ c)&&decide (t.n=0))):=by
 intro r
 induction r with
 | nil=>
   intro i H nx hd hi hA;have hil:=drop_nil hd hi;refine Wq.jmp (C7 ..) (λ_=>rfl) ?_;simp only[af,aF _ aR,aK,hil,aV];exact Wq.ret hA
 | cons c r ih=>
   intro i H nx hd hi hA;obtain⟨hg,hlt,hd'⟩:=drop_cons hd;have L36:∀(b:Bool) H1 aJ,Ag nx0 H0 aJ H1->b= !(!decide (c.toNat=39)&&eZ c)->Wq P pl X0 (.jump (rT (ai t.v) (i64 (i:Int)) b H1 aJ)) nx0 H0 (.bool (((c::r).all λc=> !decide (c.toNat=39)&&eZ c)&&decide (t.n=0))):=by
    intro b H1 aJ hA1 hb;refine Wq.jmp (Kl ..) (λ_=>rfl) ?_;rw[List.all_cons];refine Wq.bK (λh=> ?_) (λh=> ?_)
    . rw[h]at hb;have:(!decide (c.toNat=39)&&eZ c)=false:=by rw[<- Bool.not_inj_iff,<- hb];rfl
      exact Wq.iE (by rw[this];rfl) hA1
    . rw[h]at hb;have:(!decide (c.toNat=39)&&eZ c)=true:=by rw[<- Bool.not_inj_iff,<- hb];rfl
      rw[this,Bool.true_and];simp only[af,aL (show i<9223372036854775807 by omega)];exact ih (i+1) H1 aJ hd' (by omega) hA1
   refine Wq.jmp (C7 ..) (λ_=>rfl) ?_;simp only[af,aF _ aR,aK,aU hlt,aW aR hg];have e39:decide ((c.toNat:Int)=39)=decide (c.toNat=39):=by rw[decide_eq_decide];omega
   rw[e39];refine Wq.bK (λh=>L36 _ _ _ hA (by rw[h];rfl)) (λh=> ?_);refine Wq.call (Ar c) hA λH1 aJ hA1=> ?_;simp only[af];exact L36 _ _ _ hA1 (by rw[h];rfl)
theorem Gm (hT:dN nx0 H0)(t:Tok)(a:UInt8)(s:List UInt8)(hs:t.s=a::s)(hl:t.s.length<9223372036854775807):∀(r:List UInt8) (i:Nat) (H:T OB) (nx:Nat),t.s.drop i=r->i<=t.s.length->Ag nx0 H0 nx H->
 Wq P pl X0 (.jump (rU (ai t.v) (i64 (i:Int)) H nx)) nx0 H0 (.bool (r.all eZ&&(decide (t.n=0)&&decide (eK t.s=t.k)))):=by
 intro r
 induction r with
 | nil=>
   intro i H nx hd hi hA;have hil:=drop_nil hd hi;refine Wq.jmp (C9 ..) (λ_=>rfl) ?_;simp only[af,aF _ aR,aK,hil,aV];rw[List.all_nil,Bool.true_and];have p98:=I2 a s;rw[<- hs]at p98;refine Wq.bK (λh=> ?_) (λh=> ?_)
   . rw[h,Bool.true_and];refine Wq.po hT p98 hA λH1 aJ hA1=> ?_;simp only[af,Bool.and_true];exact Wq.ret hA1
   . rw[h,Bool.false_and];exact Wq.ret hA
 | cons c r ih=>
   intro i H nx hd hi hA;obtain⟨hg,hlt,hd'⟩:=drop_cons hd;refine Wq.jmp (C9 ..) (λ_=>rfl) ?_;simp only[af,aF _ aR,aK,aU hlt,aW aR hg];refine Wq.call (Ar c) hA λH1 aJ hA1=> ?_;simp only[af];rw[List.all_cons];cases eZ c with
   | false=>exact Wq.ret hA1
   | true=>
     simp only[af,aL (show i<9223372036854775807 by omega),Bool.true_and];exact ih (i+1) H1 aJ hd' (by omega) hA1
theorem MP (t:Tok)(hl:t.s.length<9223372036854775807):PT 33 [t.v] (.bool (dk t)):=PT.of rfl λH nx hT=>by
 rw[QP];refine Wq.lf (.refl _ _) λhA=> ?_;have hE:decide ((⟨⟨t.s⟩⟩:ByteArray)=⟨⟨[]⟩⟩)=decide (t.s=[]):=by rw[decide_eq_decide];simp
 simp only[af,hE];unfold dk;refine Wq.ite (λh=> ?_) (λh0=> ?_)
 . rw[if_pos h];refine Wq.bK (λh=> ?_) (λh=> ?_)
   . rw[h,Bool.true_and];exact Wq.ret hA
   . rw[h,Bool.false_and];exact Wq.ret hA
 rw[if_neg h0];refine Wq.ite (λh=> ?_) (λh1=> ?_)
 . rw[if_pos h];refine Wq.bK (λh=> ?_) (λh=> ?_)
   . rw[h,Bool.true_and];refine Wq.bK (λh=> ?_) (λh=> ?_)
     . rw[h,Bool.true_and];exact Wq.ret hA
     . rw[h,Bool.false_and];exact Wq.ret hA
   . rw[h,Bool.false_and];exact Wq.ret hA
 rw[if_neg h1];refine Wq.ite (λh=> ?_) (λh2=> ?_)
 . rw[if_pos h];exact Wq.ret hA
 rw[if_neg h2];refine Wq.ite (λh=> ?_) (λh7=> ?_)
 . rw[if_pos h];refine Wq.bK (λh=> ?_) (λh=> ?_)
   . rw[h,Bool.true_and];simp only[af,MO];refine Wq.CK rfl (wU hT _ hA) λH2 nx2 hA2=> ?_;simp only[af];exact Wq.ret hA2
   . rw[h,Bool.false_and];exact Wq.ret hA
 rw[if_neg h7];refine Wq.ite (λh=> ?_) (λh5=> ?_)
 . rw[if_pos h];have L26:∀(b:Bool) H1 aJ,Ag nx H aJ H1->(b=true->isVar t.s=false)->(b=false->∃c d r,t.s=c::d::r/\isVar t.s=r.all λc=> !decide (c.toNat=39)&&eZ c)->Wq P pl X0 (.jump (o7 (ai t.v) b H1 aJ)) nx H (.bool (isVar t.s&&decide (t.n=0))):=by
    intro b H1 aJ hA1 hb1 hb2;refine Wq.jmp (Kk ..) (λ_=>rfl) ?_;refine Wq.bK (λh=> ?_) (λh=> ?_)
    . rw[hb1 h];exact Wq.ret hA1
    . obtain⟨c,d,r,hs,hv⟩:=hb2 h;rw[hv];exact Gl t hl r 2 H1 aJ (by rw[hs];rfl) (by rw[hs];simp) hA1
   simp only[af,aF _ aR,aK];refine Wq.ite (λhl2=>L26 _ _ _ hA (λ_=> ?_) (λq=>by cases q)) (λhl2=> ?_)
   . match hs:t.s with
     | []=>rfl
     | [a]=>rfl
     | a::b::r=>rw[hs]at hl2;simp at hl2;omega
   obtain⟨a,b,r,hs⟩:∃a b r,t.s=a::b::r:=by
    match hs:t.s with
    | []=>rw[hs]at hl2;simp at hl2
    | [a]=>rw[hs]at hl2;simp at hl2
    | a::b::r=>exact⟨a,b,r,rfl⟩
   have i0:=aW (P:=P) aR (l:=t.s) (i:=0) (c:=a) (by rw[hs];rfl) .i64;have i1:=aW (P:=P) aR (l:=t.s) (i:=1) (c:=b) (by rw[hs];rfl) .i64;rw[show((0:Nat):Int)=0 from rfl]at i0;rw[show((1:Nat):Int)=1 from rfl]at i1;have hv:isVar t.s=(decide (a.toNat=39)&&(bH b&&r.all λc=> !decide (c.toNat=39)&&eZ c)):=by rw[hs];rfl
   have e39:decide ((a.toNat:Int)=39)=decide (a.toNat=39):=by rw[decide_eq_decide];omega
   simp only[af,i0,i1,e39];refine Wq.bK (λh=>L26 _ _ _ hA (λ_=> ?_) (λq=>by cases q)) (λh=> ?_)
   . rw[hv,show decide (a.toNat=39)=false from by rw[<- Bool.not_inj_iff,h];rfl];rfl
   have ha:decide (a.toNat=39)=true:=by rw[<- Bool.not_inj_iff,h];rfl
   refine Wq.call (vi b) hA λH1 aJ hA1=> ?_;simp only[af];refine L26 _ _ _ hA1 (λq=> ?_) (λq=>⟨a,b,r,hs,?_⟩)
   . rw[hv,show bH b=false from by rw[<- Bool.not_inj_iff,q];rfl];simp
   . rw[hv,ha,show bH b=true from by rw[<- Bool.not_inj_iff,q];rfl];rfl
 rw[if_neg h5];have L46:Wq P pl X0 (.jump (o8 (ai t.v) true H (nx+1))) nx H (.bool (isWord t.s&&(decide (t.n=0)&&decide (eK t.s=t.k)))):=by
  refine Wq.jmp (C6 ..) (λ_=>rfl) ?_;cases hs:t.s with
  | nil=>
    have e1:decide ((⟨⟨t.s⟩⟩:ByteArray)=⟨⟨[]⟩⟩)=true:=by rw[hs];simp
    simp only[af,e1];refine Wq.jmp (C8 ..) (λ_=>rfl) ?_;exact Wq.ret hA
  | cons a r=>
    rw[<- hs];have i0:=aW (P:=P) aR (l:=a::r) (i:=0) (c:=a) rfl .i64;rw[show((0:Nat):Int)=0 from rfl]at i0;have hne:decide ((⟨⟨a::r⟩⟩:ByteArray)=⟨⟨[]⟩⟩)=false:=by simp
    have hw:isWord t.s=((bH a||bC a)&&r.all eZ):=by rw[hs];rfl
    have L48:∀(b:Bool) H1 aJ,Ag nx H aJ H1->b= !(bH a||bC a)->Wq P pl X0 (.jump (o9 (ai t.v) b H1 aJ)) nx H (.bool (isWord t.s&&(decide (t.n=0)&&decide (eK t.s=t.k)))):=by
     intro b H1 aJ hA1 hb;refine Wq.jmp (C8 ..) (λ_=>rfl) ?_;rw[hw];refine Wq.bK (λh=> ?_) (λh=> ?_)
     . have:(bH a||bC a)=false:=by rw[<- Bool.not_inj_iff,<- hb,h];rfl
       exact Wq.iE (by rw[this];rfl) hA1
     . have h1:(bH a||bC a)=true:=by rw[<- Bool.not_inj_iff,<- hb,h];rfl
       rw[h1,Bool.true_and];exact Gm hT t a r hs hl r 1 H1 aJ (by rw[hs];rfl) (by rw[hs];simp) hA1
    have e0:aH P 9 (some (aE t.s)) (some (.int .i64 0))=some (.int .u8 (a.toNat:Int)):=by rw[hs];exact i0
    have e1:decide ((⟨⟨t.s⟩⟩:ByteArray)=⟨⟨[]⟩⟩)=false:=by rw[hs];exact hne
    simp only[af,e0,e1];refine Wq.call (vi a) hA λH1 aJ hA1=> ?_;simp only[af];cases jg:bH a with
    | true=>
      simp only[af];exact L48 false _ _ hA1 (by rw[jg];rfl)
    | false=>
      simp only[af];refine Wq.call (Ap a) hA1 λH2 nx2 hA2=> ?_;simp only[af];exact L48 (!bC a) _ _ hA2 (by rw[jg];rfl)
 refine Wq.ite (λh3=> ?_) (λh3=> ?_)
 . rw[if_pos (Or.inl h3),show decide (t.k=3)=true from by simp[h3]];exact L46
 refine Wq.ite (λh4=> ?_) (λh4=> ?_)
 . rw[if_pos (Or.inr (Or.inl h4)),show decide (t.k=4)=true from by simp[h4]];exact L46
 by_cases h6:t.k=6
 . rw[if_pos (Or.inr (Or.inr h6)),show decide (t.k=6)=true from by simp[h6]];exact L46
 . rw[if_neg (by omega),show decide (t.k=6)=false from by simp[h6]];refine Wq.jmp (C6 ..) (λ_=>rfl) ?_;exact Wq.ret hA
end
inductive bg where
 | mk (k n:Int) (s:List UInt8) (l:List bg)
inductive bj where
 | mk (k:Int) (s:List UInt8) (l:List bj)
structure dp where
 s:List UInt8
 arg:List bj
structure Data where
 vars:List (List UInt8)
 s:List UInt8
 cons:List dp
mutual
inductive aQ where
 | mk (k n:Int) (s:List UInt8) (l:List aQ) (p:List bg) (d:List ba)
inductive ba where
 | mk (k:Int) (p:bg) (e:aQ) (f:List Fn) (x:Data) (c:dp)
inductive Fn where
 | mk (s:List UInt8) (p:List bg) (b:aQ)
end
def bg.k:bg->Int | .mk k _ _ _=>k
def bg.n:bg->Int | .mk _ n _ _=>n
def bg.s:bg->List UInt8 | .mk _ _ s _=>s
def bg.l:bg->List bg | .mk _ _ _ l=>l
def bj.k:bj->Int | .mk k _ _=>k
def bj.s:bj->List UInt8 | .mk _ s _=>s
def bj.l:bj->List bj | .mk _ _ l=>l
def aQ.k:aQ->Int | .mk k _ _ _ _ _=>k
def aQ.n:aQ->Int | .mk _ n _ _ _ _=>n
def aQ.s:aQ->List UInt8 | .mk _ _ s _ _ _=>s
def aQ.l:aQ->List aQ | .mk _ _ _ l _ _=>l
def aQ.p:aQ->List bg | .mk _ _ _ _ p _=>p
def aQ.d:aQ->List ba | .mk _ _ _ _ _ d=>d
def ba.k:ba->Int | .mk k _ _ _ _ _=>k
def ba.p:ba->bg | .mk _ p _ _ _ _=>p
def ba.e:ba->aQ | .mk _ _ e _ _ _=>e
def ba.f:ba->List Fn | .mk _ _ _ f _ _=>f
def ba.x:ba->Data | .mk _ _ _ _ x _=>x
def ba.c:ba->dp | .mk _ _ _ _ _ c=>c
def Fn.s:Fn->List UInt8 | .mk s _ _=>s
def Fn.p:Fn->List bg | .mk _ p _=>p
def Fn.b:Fn->aQ | .mk _ _ b=>b
mutual
def bg.cs:bg->List Value
 | .mk k n s l=>[i64 k,i64 n,aE s,bc 4 (vj l)]
def vj:List bg->List Value
 | []=>[]
 | p::l=> .agg ⟨p.cs⟩::vj l
end
mutual
def bj.cs:bj->List Value
 | .mk k s l=>[i64 k,aE s,bc 3 (Dy l)]
def Dy:List bj->List Value
 | []=>[]
 | p::l=> .agg ⟨p.cs⟩::Dy l
end
def bg.v (p:bg):Value:= .agg ⟨p.cs⟩
def bj.v (p:bj):Value:= .agg ⟨p.cs⟩
abbrev cM (l:List bg):Value:=bc 4 (l.map bg.v)
abbrev jx (l:List bj):Value:=bc 3 (l.map bj.v)
abbrev gn (l:List (List UInt8)):Value:=bc 1 (l.map aE)
def dp.cs (c:dp):List Value:=[aE c.s,jx c.arg]
def dp.v (c:dp):Value:= .agg ⟨c.cs⟩
abbrev j9 (l:List dp):Value:=bc 2 (l.map dp.v)
def Data.cs (x:Data):List Value:=[gn x.vars,aE x.s,j9 x.cons]
def Data.v (x:Data):Value:= .agg ⟨x.cs⟩
mutual
def aQ.cs:aQ->List Value
 | .mk k n s l p d=>[i64 k,i64 n,aE s,bc 6 (vk l),cM p,bc 17 (vl d)]
def ba.cs:ba->List Value
 | .mk k p e f x c=>i64 k::(p.cs++(e.cs++(bc 8 (Dz f)::(x.cs++c.cs))))
def Fn.cs:Fn->List Value
 | .mk s p b=>aE s::cM p::b.cs
def vk:List aQ->List Value
 | []=>[]
 | p::l=> .agg ⟨p.cs⟩::vk l
def vl:List ba->List Value
 | []=>[]
 | p::l=> .agg ⟨p.cs⟩::vl l
def Dz:List Fn->List Value
 | []=>[]
 | p::l=> .agg ⟨p.cs⟩::Dz l
end
def aQ.v (p:aQ):Value:= .agg ⟨p.cs⟩
def ba.v (p:ba):Value:= .agg ⟨p.cs⟩
def Fn.v (p:Fn):Value:= .agg ⟨p.cs⟩
abbrev ft (l:List aQ):Value:=bc 6 (l.map aQ.v)
abbrev cX (l:List ba):Value:=bc 17 (l.map ba.v)
abbrev BD (l:List Fn):Value:=bc 8 (l.map Fn.v)
theorem DA (l:List bg):vj l=l.map bg.v:=by
 induction l with
 | nil=>rw[vj];rfl
 | cons s l ih=>rw[vj,ih];rfl
theorem Gn (l:List bj):Dy l=l.map bj.v:=by
 induction l with
 | nil=>rw[Dy];rfl
 | cons s l ih=>rw[Dy,ih];rfl
theorem DB (l:List aQ):vk l=l.map aQ.v:=by
 induction l with
 | nil=>rw[vk];rfl
 | cons s l ih=>rw[vk,ih];rfl
theorem DC (l:List ba):vl l=l.map ba.v:=by
 induction l with
 | nil=>rw[vl];rfl
 | cons s l ih=>rw[vl,ih];rfl
theorem Gp (l:List Fn):Dz l=l.map Fn.v:=by
 induction l with
 | nil=>rw[Dz];rfl
 | cons s l ih=>rw[Dz,ih];rfl
theorem bg.gp (p:bg):p.cs=[i64 p.k,i64 p.n,aE p.s,cM p.l]:=by cases p;rw[bg.cs,DA];rfl
theorem bj.gp (p:bj):p.cs=[i64 p.k,aE p.s,jx p.l]:=by cases p;rw[bj.cs,Gn];rfl
theorem aQ.gp (p:aQ):p.cs=[i64 p.k,i64 p.n,aE p.s,ft p.l,cM p.p,cX p.d]:=by cases p;rw[aQ.cs,DB,DC];rfl
theorem Fn.gp (p:Fn):p.cs=[aE p.s,cM p.p,i64 p.b.k,i64 p.b.n,aE p.b.s,ft p.b.l,cM p.b.p,cX p.b.d]:=by cases p;rw[Fn.cs,aQ.gp];rfl
theorem ba.gp (p:ba):p.cs=[i64 p.k,i64 p.p.k,i64 p.p.n,aE p.p.s,cM p.p.l,i64 p.e.k,i64 p.e.n,aE p.e.s,ft p.e.l,cM p.e.p,cX p.e.d,BD p.f,gn p.x.vars,aE p.x.s,j9 p.x.cons,aE p.c.s,jx p.c.arg]:=by cases p;rw[ba.cs,aQ.gp,bg.gp,Gp];rfl
theorem bg.bw (p:bg):p.v= .agg ⟨[i64 p.k,i64 p.n,aE p.s,cM p.l]⟩:=by rw[bg.v,bg.gp]
theorem bj.bw (p:bj):p.v= .agg ⟨[i64 p.k,aE p.s,jx p.l]⟩:=by rw[bj.v,bj.gp]
theorem aQ.bw (p:aQ):p.v= .agg ⟨[i64 p.k,i64 p.n,aE p.s,ft p.l,cM p.p,cX p.d]⟩:=by rw[aQ.v,aQ.gp]
theorem Fn.bw (p:Fn):p.v= .agg ⟨[aE p.s,cM p.p,i64 p.b.k,i64 p.b.n,aE p.b.s,ft p.b.l,cM p.b.p,cX p.b.d]⟩:=by rw[Fn.v,Fn.gp]
theorem dp.bw (p:dp):p.v= .agg ⟨[aE p.s,jx p.arg]⟩:=rfl
theorem Data.bw (p:Data):p.v= .agg ⟨[gn p.vars,aE p.s,j9 p.cons]⟩:=rfl
theorem ba.bw (p:ba):p.v= .agg ⟨[i64 p.k,i64 p.p.k,i64 p.p.n,aE p.p.s,cM p.p.l,i64 p.e.k,i64 p.e.n,aE p.e.s,ft p.e.l,cM p.e.p,cX p.e.d,BD p.f,gn p.x.vars,aE p.x.s,j9 p.x.cons,aE p.c.s,jx p.c.arg]⟩:=by rw[ba.v,ba.gp]
theorem bg.ind {p:bg->Prop}(h:∀t:bg,(∀c,c∈t.l->p c)->p t)(t:bg):p t:=
 bg.rec (motive_1:=p) (motive_2:=λl=>∀c,c∈l->p c) (λk n s l h1=>h _ h1) (λc hc=>nomatch hc) (λa l h1 h2 c hc=>(List.mem_cons.1 hc).elim (λe=>e ▸ h1) (h2 c)) t
theorem bj.ind {p:bj->Prop}(h:∀t:bj,(∀c,c∈t.l->p c)->p t)(t:bj):p t:=
 bj.rec (motive_1:=p) (motive_2:=λl=>∀c,c∈l->p c) (λk s l h1=>h _ h1) (λc hc=>nomatch hc) (λa l h1 h2 c hc=>(List.mem_cons.1 hc).elim (λe=>e ▸ h1) (h2 c)) t
theorem aQ.ind {p:aQ->Prop}{q:ba->Prop}(h:∀t:aQ,(∀c,c∈t.l->p c)->(∀c,c∈t.d->q c)->p t)(h':∀t:ba,p t.e->(∀f,f∈t.f->p f.b)->q t)(t:aQ):p t:=
 aQ.rec (motive_1:=p) (motive_2:=q) (motive_3:=λf=>p f.b) (motive_4:=λl=>∀c,c∈l->p c) (motive_5:=λl=>∀c,c∈l->q c) (motive_6:=λl=>∀f,f∈l->p f.b)
  (λk n s l pt d h1 h2=>h _ h1 h2) (λk pt e f x c h1 h2=>h' _ h1 h2) (λs pt b h1=>h1)
  (λc hc=>nomatch hc) (λa l h1 h2 c hc=>(List.mem_cons.1 hc).elim (λe=>e ▸ h1) (h2 c))
  (λc hc=>nomatch hc) (λa l h1 h2 c hc=>(List.mem_cons.1 hc).elim (λe=>e ▸ h1) (h2 c))
  (λc hc=>nomatch hc) (λa l h1 h2 c hc=>(List.mem_cons.1 hc).elim (λe=>e ▸ h1) (h2 c)) t
theorem ba.ind {p:aQ->Prop}{q:ba->Prop}(h:∀t:aQ,(∀c,c∈t.l->p c)->(∀c,c∈t.d->q c)->p t)(h':∀t:ba,p t.e->(∀f,f∈t.f->p f.b)->q t)(t:ba):q t:=h' t (aQ.ind h h' _) λf _=>aQ.ind h h' _
abbrev cY:Nat:=1125899906842624
abbrev eL (s:List UInt8):Prop:=s.length<140737488355328
abbrev rg (n:Int):Prop:= -9223372036854775808<=n/\n<9223372036854775808
mutual
def bg.ok:bg->Prop
 | .mk k n s l=>rg n/\eL s/\l.length<cY/\pq l
def pq:List bg->Prop
 | []=>True
 | p::l=>p.ok/\pq l
end
mutual
def bj.ok:bj->Prop
 | .mk k s l=>eL s/\l.length<cY/\vm l
def vm:List bj->Prop
 | []=>True
 | p::l=>p.ok/\vm l
end
def dp.ok (c:dp):Prop:=eL c.s/\c.arg.length<cY/\∀t,t∈c.arg->t.ok
def Data.ok (x:Data):Prop:=(x.vars.length<cY/\∀s,s∈x.vars->eL s)/\eL x.s/\x.cons.length<cY/\∀c,c∈x.cons->c.ok
mutual
def aQ.ok:aQ->Prop
 | .mk k n s l p d=>rg n/\eL s/\(l.length<cY/\pw l)/\(p.length<cY/\∀q,q∈p->q.ok)/\d.length<cY/\px d
def ba.ok:ba->Prop
 | .mk k p e f x c=>p.ok/\e.ok/\(f.length<cY/\vn f)/\x.ok/\c.ok
def Fn.ok:Fn->Prop
 | .mk s p b=>eL s/\(p.length<cY/\∀q,q∈p->q.ok)/\b.ok
def pw:List aQ->Prop
 | []=>True
 | p::l=>p.ok/\pw l
def px:List ba->Prop
 | []=>True
 | p::l=>p.ok/\px l
def vn:List Fn->Prop
 | []=>True
 | p::l=>p.ok/\vn l
end
theorem wV (l:List bg):pq l↔∀c,c∈l->c.ok:=by
 induction l with
 | nil=>simp[pq]
 | cons s l ih=>simp[pq,ih]
theorem BF (l:List bj):vm l↔∀c,c∈l->c.ok:=by
 induction l with
 | nil=>simp[vm]
 | cons s l ih=>simp[vm,ih]
theorem wW (l:List aQ):pw l↔∀c,c∈l->c.ok:=by
 induction l with
 | nil=>simp[pw]
 | cons s l ih=>simp[pw,ih]
theorem wX (l:List ba):px l↔∀c,c∈l->c.ok:=by
 induction l with
 | nil=>simp[px]
 | cons s l ih=>simp[px,ih]
theorem BG (l:List Fn):vn l↔∀c,c∈l->c.ok:=by
 induction l with
 | nil=>simp[vn]
 | cons s l ih=>simp[vn,ih]
theorem bg.ct (p:bg):p.ok↔rg p.n/\eL p.s/\p.l.length<cY/\∀c,c∈p.l->c.ok:=by cases p;rw[bg.ok,wV];rfl
theorem bj.ct (p:bj):p.ok↔eL p.s/\p.l.length<cY/\∀c,c∈p.l->c.ok:=by cases p;rw[bj.ok,BF];rfl
theorem aQ.ct (p:aQ):p.ok↔rg p.n/\eL p.s/\(p.l.length<cY/\∀c,c∈p.l->c.ok)/\(p.p.length<cY/\∀c,c∈p.p->c.ok)/\p.d.length<cY/\∀c,c∈p.d->c.ok:=by cases p;rw[aQ.ok,wW,wX];rfl
theorem ba.ct (p:ba):p.ok↔p.p.ok/\p.e.ok/\(p.f.length<cY/\∀c,c∈p.f->c.ok)/\p.x.ok/\p.c.ok:=by cases p;rw[ba.ok,BG];rfl
theorem Fn.ct (p:Fn):p.ok↔eL p.s/\(p.p.length<cY/\∀c,c∈p.p->c.ok)/\p.b.ok:=by cases p;rw[Fn.ok];rfl
theorem DD (e:aQ):ab P 44 (some (ai e.v)) 0=some (ai (i64 e.k)):=by rw[aQ.bw];kernel_rfl
theorem DE (e:aQ):ab P 44 (some (ai e.v)) 1=some (ai (i64 e.n)):=by rw[aQ.bw];kernel_rfl
theorem DF (e:aQ):ab P 44 (some (ai e.v)) 2=some (ai (aE e.s)):=by rw[aQ.bw];kernel_rfl
theorem DG (e:aQ):ab P 44 (some (ai e.v)) 3=some (ai (ft e.l)):=by rw[aQ.bw];kernel_rfl
theorem DH (e:aQ):ab P 44 (some (ai e.v)) 4=some (ai (cM e.p)):=by rw[aQ.bw];kernel_rfl
theorem DI (e:aQ):ab P 44 (some (ai e.v)) 5=some (ai (cX e.d)):=by rw[aQ.bw];kernel_rfl
theorem MQ (H:T OB)(e:aQ):ae P H 44 (some (ai e.v))=some e.v:=by rw[aQ.bw];kernel_rfl
theorem PF (e:aQ):e.v.cells.toList.length=6:=by rw[aQ.bw];rfl
theorem PG (e:aQ):e.v.cells.toList.all au=true:=by rw[aQ.bw];rfl
theorem DJ (e:ba):ab P 57 (some (ai e.v)) 0=some (ai (i64 e.k)):=by rw[ba.bw];kernel_rfl
theorem DK (e:ba):ab P 57 (some (ai e.v)) 1=some (ai (e.p.v)):=by rw[ba.bw];rw[bg.bw];kernel_rfl
theorem DL (e:ba):ab P 57 (some (ai e.v)) 2=some (ai (e.e.v)):=by rw[ba.bw];rw[aQ.bw];kernel_rfl
theorem DM (e:ba):ab P 57 (some (ai e.v)) 3=some (ai (BD e.f)):=by rw[ba.bw];kernel_rfl
theorem DN (e:ba):ab P 57 (some (ai e.v)) 4=some (ai (e.x.v)):=by rw[ba.bw];rw[Data.bw];kernel_rfl
theorem DO (e:ba):ab P 57 (some (ai e.v)) 5=some (ai (e.c.v)):=by rw[ba.bw];rw[dp.bw];kernel_rfl
theorem MR (H:T OB)(e:ba):ae P H 57 (some (ai e.v))=some e.v:=by rw[ba.bw];kernel_rfl
theorem PH (e:ba):e.v.cells.toList.length=17:=by rw[ba.bw];rfl
theorem PJ (e:ba):e.v.cells.toList.all au=true:=by rw[ba.bw];rfl
theorem I3 (e:Fn):ab P 65 (some (ai e.v)) 0=some (ai (aE e.s)):=by rw[Fn.bw];kernel_rfl
theorem I4 (e:Fn):ab P 65 (some (ai e.v)) 1=some (ai (cM e.p)):=by rw[Fn.bw];kernel_rfl
theorem I5 (e:Fn):ab P 65 (some (ai e.v)) 2=some (ai (e.b.v)):=by rw[Fn.bw];rw[aQ.bw];kernel_rfl
theorem QC (H:T OB)(e:Fn):ae P H 65 (some (ai e.v))=some e.v:=by rw[Fn.bw];kernel_rfl
theorem Rf (e:Fn):e.v.cells.toList.length=8:=by rw[Fn.bw];rfl
theorem Rg (e:Fn):e.v.cells.toList.all au=true:=by rw[Fn.bw];rfl
theorem As (e:Data):ab P 52 (some (ai e.v)) 0=some (ai (gn e.vars)):=by rw[Data.bw];kernel_rfl
theorem At (e:Data):ab P 52 (some (ai e.v)) 1=some (ai (aE e.s)):=by rw[Data.bw];kernel_rfl
theorem Au (e:Data):ab P 52 (some (ai e.v)) 2=some (ai (j9 e.cons)):=by rw[Data.bw];kernel_rfl
theorem I6 (H:T OB)(e:Data):ae P H 52 (some (ai e.v))=some e.v:=by rw[Data.bw];kernel_rfl
theorem DP (e:dp):ab P 55 (some (ai e.v)) 0=some (ai (aE e.s)):=by rw[dp.bw];kernel_rfl
theorem wY (e:dp):ab P 55 (some (ai e.v)) 1=some (ai (jx e.arg)):=by rw[dp.bw];kernel_rfl
theorem MS (H:T OB)(e:dp):ae P H 55 (some (ai e.v))=some e.v:=by rw[dp.bw];kernel_rfl
theorem PK (e:dp):e.v.cells.toList.length=2:=by rw[dp.bw];rfl
theorem PM (e:dp):e.v.cells.toList.all au=true:=by rw[dp.bw];rfl
theorem DQ (e:bg):ab P 47 (some (ai e.v)) 0=some (ai (i64 e.k)):=by rw[bg.bw];kernel_rfl
theorem DR (e:bg):ab P 47 (some (ai e.v)) 1=some (ai (i64 e.n)):=by rw[bg.bw];kernel_rfl
theorem DS (e:bg):ab P 47 (some (ai e.v)) 2=some (ai (aE e.s)):=by rw[bg.bw];kernel_rfl
theorem DT (e:bg):ab P 47 (some (ai e.v)) 3=some (ai (cM e.l)):=by rw[bg.bw];kernel_rfl
theorem MT (H:T OB)(e:bg):ae P H 47 (some (ai e.v))=some e.v:=by rw[bg.bw];kernel_rfl
theorem KN (e:bg):e.v.cells.toList.length=4:=by rw[bg.bw];rfl
theorem KO (e:bg):e.v.cells.toList.all au=true:=by rw[bg.bw];rfl
theorem DU (e:bj):ab P 138 (some (ai e.v)) 0=some (ai (i64 e.k)):=by rw[bj.bw];kernel_rfl
theorem DW (e:bj):ab P 138 (some (ai e.v)) 1=some (ai (aE e.s)):=by rw[bj.bw];kernel_rfl
theorem DX (e:bj):ab P 138 (some (ai e.v)) 2=some (ai (jx e.l)):=by rw[bj.bw];kernel_rfl
theorem MU (H:T OB)(e:bj):ae P H 138 (some (ai e.v))=some e.v:=by rw[bj.bw];kernel_rfl
theorem KP (e:bj):e.v.cells.toList.length=3:=by rw[bj.bw];rfl
theorem KQ (e:bj):e.v.cells.toList.all au=true:=by rw[bj.bw];rfl
theorem cj:type_of% (And.intro @DD (And.intro @DE (And.intro @DF (And.intro @DG (And.intro @DH (And.intro @DI (And.intro @MQ (And.intro @DJ (And.intro @DK (And.intro @DL (And.intro @DM (And.intro @DN (And.intro @DO (And.intro @MR (And.intro @I3 (And.intro @I4 (And.intro @I5 (And.intro @QC (And.intro @As (And.intro @At (And.intro @Au (And.intro @I6 (And.intro @DP (And.intro @wY (And.intro @MS (And.intro @DQ (And.intro @DR (And.intro @DS (And.intro @DT (And.intro @MT (And.intro @DU (And.intro @DW (And.intro @DX @MU))))))))))))))))))))))))))))))))):=And.intro @DD (And.intro @DE (And.intro @DF (And.intro @DG (And.intro @DH (And.intro @DI (And.intro @MQ (And.intro @DJ (And.intro @DK (And.intro @DL (And.intro @DM (And.intro @DN (And.intro @DO (And.intro @MR (And.intro @I3 (And.intro @I4 (And.intro @I5 (And.intro @QC (And.intro @As (And.intro @At (And.intro @Au (And.intro @I6 (And.intro @DP (And.intro @wY (And.intro @MS (And.intro @DQ (And.intro @DR (And.intro @DS (And.intro @DT (And.intro @MT (And.intro @DU (And.intro @DW (And.intro @DX @MU))))))))))))))))))))))))))))))))
section
variable {nx0:Nat}{H0:T OB}
def mx (a b:Int):Int:=if b>a then b else a
theorem gD (ts:Array TypeId)(t:TypeId)(a b:Int):hJ P .max ts t (some [.int .i64 a,.int .i64 b])=some (i64 (mx a b)):=FL ts t a b
mutual
def py:bg->Int
 | .mk _ _ _ l=>w (eU l 0+1)
def eU:List bg->Int->Int
 | [],n=>n
 | p::l,n=>eU l (mx n (py p))
end
mutual
def Gq:bj->Int
 | .mk _ _ l=>w (kB l 0+1)
def kB:List bj->Int->Int
 | [],n=>n
 | p::l,n=>kB l (mx n (Gq p))
end
def lq:List dp->Int->Int
 | [],n=>n
 | c::l,n=>lq l (kB c.arg n)
mutual
def eM:aQ->Int
 | .mk _ _ _ l p d=>w (eU p (pz l (fN d 0))+1)
def vQ:ba->Int
 | .mk k p e f x c=>if k=1 then mx (py p) (eM e)else if k=5 then eM e else if k=2 then sT f 0 else if k=3 then lq x.cons 0 else if k=4 then kB c.arg 0 else 0
def PN:Fn->Int->Int
 | .mk _ p b,n=>eU p (mx n (eM b))
def pz:List aQ->Int->Int
 | [],n=>n
 | e::l,n=>pz l (mx n (eM e))
def fN:List ba->Int->Int
 | [],n=>n
 | d::l,n=>fN l (mx n (w (vQ d+1)))
def sT:List Fn->Int->Int
 | [],n=>n
 | f::l,n=>sT l (PN f n)
end
theorem Av (p:bg):py p=w (eU p.l 0+1):=by cases p;rw[py];rfl
theorem DY (p:bj):Gq p=w (kB p.l 0+1):=by cases p;rw[Gq];rfl
theorem Aw (p:aQ):eM p=w (eU p.p (pz p.l (fN p.d 0))+1):=by cases p;rw[eM];rfl
theorem wZ (d:ba):vQ d=if d.k=1 then mx (py d.p) (eM d.e)else if d.k=5 then eM d.e else if d.k=2 then sT d.f 0 else if d.k=3 then lq d.x.cons 0 else if d.k=4 then kB d.c.arg 0 else 0:=by cases d;rw[vQ];rfl
theorem DZ (f:Fn)(n:Int):PN f n=eU f.p (mx n (eM f.b)):=by cases f;rw[PN];rfl
theorem db {n:Nat}(h:n<cY):n<9223372036854775807:=Nat.lt_trans h (by decide)
theorem lr (a b:Int):P0 48 [i64 a,i64 b] (i64 (mx a b)):=Pure.of rfl λH nx=>by
 rw[QT];simp only[af];unfold mx;refine Wq.ite (λh=> ?_) (λh=> ?_)
 . rw[if_neg (by omega)];exact Wq.ret (.refl _ _)
 . by_cases h2:b>a
   . rw[if_pos h2];exact Wq.ret (.refl _ _)
   . rw[if_neg h2];exact Wq.iE (by rw[show b=a by omega]) (.refl _ _)
theorem KR (e:bg)(hl:e.l.length<cY)(ih:∀c,c∈e.l->P0 93 [c.v] (i64 (py c)))(s:Int)(H:T OB)(nx:Nat)(hA:Ag nx0 H0 nx H):Wq P pl X0 (.jump (vc (ai e.v) (i64 s) (i64 ((0:Nat):Int)) H nx)) nx0 H0 (i64 (w (eU (e.l) s+1))):=
 Wq.each (e.l) (λi s H nx=> .jump (vc (ai e.v) (i64 s) (i64 (i:Int)) H nx)) (λt s=>i64 (w (eU t s+1))) (λs H1 aJ hA1=>by
  refine Wq.jmp (IV ..) (λ_=>rfl) ?_;simp only[af,cj,List.length_map,aV];exact Wq.iE (by rw[Int.add_comm,eU]) hA1) (λi a t s H1 aJ hg hlt hd hA1 ih'=>by
  have hg':((e.l).map bg.v)[i]? = some (bg.v a):=by simp[hg]
  have hm:=List.mem_of_getElem? hg;refine Wq.jmp (IV ..) (λ_=>rfl) ?_;simp only[af,cj,List.length_map,aU hlt,qM hg'];refine Wq.call (ih a hm) hA1 λH2 nx2 hA2=> ?_;refine Wq.call (lr _ _) hA2 λH3 nx3 hA3=> ?_;simp only[af,aL (show i<9223372036854775807 by have:=db hl;omega)];exact ih' _ _ _ hA3) s H nx hA
theorem D0 (e:bg)(h:e.ok):P0 93 [e.v] (i64 (py e)):=by
 refine bg.ind (p:=λe=>e.ok->P0 93 [e.v] (i64 (py e))) (λe ih h=> ?_) e h;rw[bg.ct]at h;refine Pure.of rfl λH nx=> ?_;rw[Q9];refine Wq.lf (.refl _ _) λhA=> ?_;rw[Av];exact KR e h.2.2.1 (λc hc=>ih c hc (h.2.2.2 c hc)) 0 H _ hA
theorem KS (l:List bg)(hl:l.length<cY)(ih:∀c,c∈l->P0 96 [c.v] (i64 (py c)))(s:Int)(H:T OB)(nx:Nat)(hA:Ag nx0 H0 nx H):Wq P pl X0 (.jump (ve (i64 s) (cM l) (i64 (l.length:Int)) (i64 ((0:Nat):Int)) H nx)) nx0 H0 (i64 (w (eU (l) s+1))):=
 Wq.each (l) (λi s H nx=> .jump (ve (i64 s) (cM l) (i64 (l.length:Int)) (i64 (i:Int)) H nx)) (λt s=>i64 (w (eU t s+1))) (λs H1 aJ hA1=>by
  refine Wq.jmp (IY ..) (λ_=>rfl) ?_;simp only[af,cj,List.length_map,aV];exact Wq.ret hA1) (λi a t s H1 aJ hg hlt hd hA1 ih'=>by
  have hg':((l).map bg.v)[i]? = some (bg.v a):=by simp[hg]
  have hm:=List.mem_of_getElem? hg;refine Wq.jmp (IY ..) (λ_=>rfl) ?_;simp only[af,cj,List.length_map,aU hlt,qM hg'];refine Wq.var cN da rfl (KN _) (KO _) hA1 λH2 nx2 hA2=> ?_;refine Wq.call (ih a hm) hA2 λH3 nx3 hA3=> ?_;simp only[af,gD];simp only[af,aL (show i<9223372036854775807 by have:=db hl;omega)];exact ih' _ _ _ hA3) s H nx hA
theorem D1 (e:bg)(h:e.ok):P0 96 [e.v] (i64 (py e)):=by
 refine bg.ind (p:=λe=>e.ok->P0 96 [e.v] (i64 (py e))) (λe ih h=> ?_) e h;rw[bg.ct]at h;refine Pure.of rfl λH nx=> ?_;rw[Rb];refine Wq.lf (.refl _ _) λhA=> ?_;simp only[af,cj,List.length_map];rw[Av];exact KS e.l h.2.2.1 (λc hc=>ih c hc (h.2.2.2 c hc)) 0 H _ hA
theorem KT (e:bj)(hl:e.l.length<cY)(ih:∀c,c∈e.l->P0 95 [c.v] (i64 (Gq c)))(s:Int)(H:T OB)(nx:Nat)(hA:Ag nx0 H0 nx H):Wq P pl X0 (.jump (vd (ai e.v) (i64 s) (i64 ((0:Nat):Int)) H nx)) nx0 H0 (i64 (w (kB (e.l) s+1))):=
 Wq.each (e.l) (λi s H nx=> .jump (vd (ai e.v) (i64 s) (i64 (i:Int)) H nx)) (λt s=>i64 (w (kB t s+1))) (λs H1 aJ hA1=>by
  refine Wq.jmp (IX ..) (λ_=>rfl) ?_;simp only[af,cj,List.length_map,aV];exact Wq.iE (by rw[Int.add_comm,kB]) hA1) (λi a t s H1 aJ hg hlt hd hA1 ih'=>by
  have hg':((e.l).map bj.v)[i]? = some (bj.v a):=by simp[hg]
  have hm:=List.mem_of_getElem? hg;refine Wq.jmp (IX ..) (λ_=>rfl) ?_;simp only[af,cj,List.length_map,aU hlt,u5 hg'];refine Wq.call (ih a hm) hA1 λH2 nx2 hA2=> ?_;refine Wq.call (lr _ _) hA2 λH3 nx3 hA3=> ?_;simp only[af,aL (show i<9223372036854775807 by have:=db hl;omega)];exact ih' _ _ _ hA3) s H nx hA
theorem MV (e:bj)(h:e.ok):P0 95 [e.v] (i64 (Gq e)):=by
 refine bj.ind (p:=λe=>e.ok->P0 95 [e.v] (i64 (Gq e))) (λe ih h=> ?_) e h;rw[bj.ct]at h;refine Pure.of rfl λH nx=> ?_;rw[Ra];refine Wq.lf (.refl _ _) λhA=> ?_;rw[DY];exact KT e h.2.1 (λc hc=>ih c hc (h.2.2 c hc)) 0 H _ hA
theorem KU (l:List bj)(hl:l.length<cY)(ih:∀c,c∈l->P0 98 [c.v] (i64 (Gq c)))(s:Int)(H:T OB)(nx:Nat)(hA:Ag nx0 H0 nx H):Wq P pl X0 (.jump (vh (i64 s) (jx l) (i64 (l.length:Int)) (i64 ((0:Nat):Int)) H nx)) nx0 H0 (i64 (w (kB (l) s+1))):=
 Wq.each (l) (λi s H nx=> .jump (vh (i64 s) (jx l) (i64 (l.length:Int)) (i64 (i:Int)) H nx)) (λt s=>i64 (w (kB t s+1))) (λs H1 aJ hA1=>by
  refine Wq.jmp (I0 ..) (λ_=>rfl) ?_;simp only[af,cj,List.length_map,aV];exact Wq.ret hA1) (λi a t s H1 aJ hg hlt hd hA1 ih'=>by
  have hg':((l).map bj.v)[i]? = some (bj.v a):=by simp[hg]
  have hm:=List.mem_of_getElem? hg;refine Wq.jmp (I0 ..) (λ_=>rfl) ?_;simp only[af,cj,List.length_map,aU hlt,u5 hg'];refine Wq.var cw cE rfl (KP _) (KQ _) hA1 λH2 nx2 hA2=> ?_;refine Wq.call (ih a hm) hA2 λH3 nx3 hA3=> ?_;simp only[af,gD];simp only[af,aL (show i<9223372036854775807 by have:=db hl;omega)];exact ih' _ _ _ hA3) s H nx hA
theorem I7 (e:bj)(h:e.ok):P0 98 [e.v] (i64 (Gq e)):=by
 refine bj.ind (p:=λe=>e.ok->P0 98 [e.v] (i64 (Gq e))) (λe ih h=> ?_) e h;rw[bj.ct]at h;refine Pure.of rfl λH nx=> ?_;rw[Rd];refine Wq.lf (.refl _ _) λhA=> ?_;simp only[af,cj,List.length_map];rw[DY];exact KU e.l h.2.1 (λc hc=>ih c hc (h.2.2 c hc)) 0 H _ hA
theorem Wq.base {aJ:Nat}{H1:T OB}{q:Q}{v:Value}(hA:Ag nx0 H0 aJ H1)(h:Wq P pl X0 q aJ H1 v):Wq P pl X0 q nx0 H0 v:=by
 obtain⟨u,H',nx',h1,h2,h3⟩:=h;exact⟨u,H',nx',hA.trans h1,h2,h3⟩
theorem Ax (v:Value)(k:Nat)(hk:k<cY)(l:List bj)(hl:l.length<cY)(hok:∀c,c∈l->c.ok)(hv:∀nx2 H2,Ag nx0 H0 nx2 H2->∃p x,ay P 50 (some v) (some (i64 (k:Int)))=some p/\ab P 55 (some p) 1=some x/\ae P H2 53 (some x)=some (jx l))(R:Int->Value)
 (hc:∀s H nx,Ag nx0 H0 nx H->Wq P pl X0 (.jump (o_ (i64 s) v (i64 ((k+1:Nat):Int)) H nx)) nx0 H0 (R s)) (s:Int) (H:T OB) (nx:Nat) (hA:Ag nx0 H0 nx H):Wq P pl X0 (.jump (pa (i64 s) v (i64 (k:Int)) (i64 ((0:Nat):Int)) H nx)) nx0 H0 (R (kB l s)):=
 Wq.each l (λi s H nx=> .jump (pa (i64 s) v (i64 (k:Int)) (i64 (i:Int)) H nx)) (λt s=>R (kB t s)) (λs H1 aJ hA1=>by
  obtain⟨p,x,h1,h2,h3⟩:=hv aJ H1 hA1;refine Wq.jmp (Dd ..) (λ_=>rfl) ?_;simp only[af,cj,List.length_map,h1,h2,h3,aV,aL (show k<9223372036854775807 by have:=db hk;omega)];exact hc s H1 aJ hA1) (λi a t s H1 aJ hg hlt hd hA1 ih'=>by
  have hg':(l.map bj.v)[i]? = some a.v:=by simp[hg]
  have hm:=List.mem_of_getElem? hg;obtain⟨p,x,h1,h2,h3⟩:=hv aJ H1 hA1;refine Wq.jmp (Dd ..) (λ_=>rfl) ?_;simp only[af,cj,List.length_map,h1,h2,h3,aU hlt,u5 hg'];refine Wq.call (MV a (hok a hm)) hA1 λH2 nx2 hA2=> ?_;refine Wq.call (lr _ _) hA2 λH3 nx3 hA3=> ?_;simp only[af,aL (show i<9223372036854775807 by have:=db hl;omega)];exact ih' _ _ _ hA3) s H nx hA
theorem MW (a b:Value):Instr.fill (λi=>some (i*2,2)) (bz [Value.string ⟨⟨[]⟩⟩,Value.slice none 0 0] (1*2)) [(0,.agg ⟨[a,b]⟩)]=some ⟨[a,b]⟩:=by kernel_rfl
theorem Gr (b:Nat):ay P 50 (some (.slice (some ⟨b,0,none⟩) 1 1)) (some (i64 ((0:Nat):Int)))=some (.pointer (some ⟨b,0+0*2,none⟩)):=iv (by kernel_rfl) (by omega) .i64
theorem MX (d:ba)(h:d.ok)(hE:P0 94 [d.e.v] (i64 (eM d.e)))(hF:∀f,f∈d.f->P0 94 [f.b.v] (i64 (eM f.b))):P0 49 [d.v] (i64 (vQ d)):=Pure.of rfl λH nx=>by
 rw[ba.ct]at h;obtain⟨hp,he,⟨hfl,hf⟩,hx,hc⟩:=h;rw[QU];refine Wq.lf (.refl _ _) λhA=> ?_;have L58:∀(n:Int) H1 aJ,Ag nx H aJ H1->Wq P pl X0 (.jump (rY (i64 n) H1 aJ)) nx H (i64 n):=λn H1 aJ hA1=>by
  refine Wq.jmp (Kp ..) (λ_=>rfl) ?_;exact Wq.ret hA1
 have L12:∀(v:Value) (H1:T OB) (aJ:Nat),d.k≠4->v=j9 d.x.cons->Ag nx H aJ H1->Wq P pl X0 (.jump (rX (ai d.v) (i64 0) v H1 aJ)) nx H (i64 (vQ d)):=by
  intro v H1 aJ h4 hv hA1;subst hv;rw[wZ];refine Wq.jmp (Da ..) (λ_=>rfl) ?_;simp only[af,cj,List.length_map];refine Wq.ite (λh1=> ?_) (λh1=> ?_)
  . rw[if_pos h1];refine Wq.call (D0 _ hp) hA1 λH2 nx2 hA2=> ?_;refine Wq.call hE hA2 λH3 nx3 hA3=> ?_;refine Wq.call (lr _ _) hA3 λH4 nx4 hA4=> ?_;exact L58 _ _ _ hA4
  rw[if_neg h1];refine Wq.ite (λh5=> ?_) (λh5=> ?_)
  . rw[if_pos h5];refine Wq.call hE hA1 λH3 nx3 hA3=> ?_;exact L58 _ _ _ hA3
  rw[if_neg h5];refine Wq.ite (λh2=> ?_) (λh2=> ?_)
  . rw[if_pos h2];refine Wq.each (d.f) (λi s H nx=> .jump (rZ (ai d.v) (i64 s) (i64 (i:Int)) H nx)) (λt s=>i64 (sT t s)) (λs0 H0 nx0 hA0=> ?_) (λi0 a0 t0 s0 H0 nx0 hg0 hlt0 hd0 hA0 ih0=> ?_) (0) _ _ hA1
    . refine Wq.jmp (Db ..) (λ_=>rfl) ?_;simp only[af,cj,List.length_map,aV];exact Wq.ret hA0
    . have hx0:((d.f).map Fn.v)[i0]? = some (Fn.v a0):=by simp[hg0]
      have hm0:=List.mem_of_getElem? hg0;refine Wq.jmp (Db ..) (λ_=>rfl) ?_;simp only[af,cj,List.length_map,aU hlt0,zA hx0];refine Wq.call (hF a0 hm0) hA0 λH2 nx2 hA2=> ?_;refine Wq.call (lr _ _) hA2 λH3 nx3 hA3=> ?_;have hpl:=((Fn.ct a0).1 (hf a0 hm0)).2.1;rw[sT,DZ];refine Wq.each (a0.p) (λi s H nx=> .jump (r8 (ai d.v) (i64 s) (i64 (i0:Int)) (i64 (i:Int)) H nx)) (λt s=>i64 (sT t0 (eU t s))) (λs8 H8 nx8 hA8=> ?_) (λi8 a8 t8 s8 H8 nx8 hg8 hlt8 hd8 hA8 ih8=> ?_) (mx s0 (eM a0.b)) _ _ hA3
      . refine Wq.jmp (Dc ..) (λ_=>rfl) ?_;simp only[af,cj,List.length_map,aV,zA hx0];simp only[af,aL (show i0<9223372036854775807 by have:=db hfl;omega)];exact ih0 _ _ _ hA8
      . have hx8:((a0.p).map bg.v)[i8]? = some (bg.v a8):=by simp[hg8]
        have hm8:=List.mem_of_getElem? hg8;refine Wq.jmp (Dc ..) (λ_=>rfl) ?_;simp only[af,cj,List.length_map,aU hlt8,qM hx8,zA hx0];refine Wq.call (D0 a8 (hpl.2 a8 hm8)) hA8 λH2 nx2 hA2=> ?_;refine Wq.call (lr _ _) hA2 λH3 nx3 hA3=> ?_;simp only[af,aL (show i8<9223372036854775807 by have:=db hpl.1;omega)];exact ih8 _ _ _ hA3
  rw[if_neg h2];have h4':decide (d.k=4)=false:=by simp[h4]
  rw[h4'];refine Wq.ite (λh3=> ?_) (λh3=> ?_)
  . rw[if_pos h3,show decide (d.k=3)=true by simp[h3]];refine Wq.jmp (wO ..) (λ_=>rfl) ?_;simp only[af];refine Wq.each (d.x.cons) (λi s H nx=> .jump (o_ (i64 s) (j9 d.x.cons) (i64 (i:Int)) H nx)) (λt s=>i64 (lq t s)) (λs0 H0 nx0 hA0=> ?_) (λi0 a0 t0 s0 H0 nx0 hg0 hlt0 hd0 hA0 ih0=> ?_) (0) _ _ hA1
    . refine Wq.jmp (r9 ..) (λ_=>rfl) ?_;simp only[af,cj,List.length_map,aV];exact Wq.ret hA0
    . have hx0:((d.x.cons).map dp.v)[i0]? = some (dp.v a0):=by simp[hg0]
      have hm0:=List.mem_of_getElem? hg0;refine Wq.jmp (r9 ..) (λ_=>rfl) ?_;simp only[af,cj,List.length_map,aU hlt0,CT hx0];have hc0:=hx.2.2.2 a0 hm0;rw[lq];refine Ax _ _ (by have:=hx.2.2.1;omega) a0.arg hc0.2.1 hc0.2.2 (λnx2 H2 _=>⟨_,_,CT hx0 .i64,wY a0,?_⟩) (λs=>i64 (lq t0 s)) ih0 _ _ _ hA0;simp only[af]
  . rw[if_neg h3,if_neg h4];refine Wq.jmp (wO ..) (λ_=>rfl) ?_;exact Wq.ret hA1
 simp only[af,cj,List.length_map];refine Wq.ite (λh4=> ?_) (λh4=> ?_)
 . rw[wZ,if_neg (by omega),if_neg (by omega),if_neg (by omega),if_neg (by omega),if_pos h4];rw[dp.bw];refine Wq.row l6 j7 gm rfl (MW _ _) hA λH2 hb2 _ hA2=> ?_;refine Wq.jmp (Da ..) (λ_=>rfl) ?_;simp only[af,cj,List.length_map,h4];refine Wq.jmp (wO ..) (λ_=>rfl) ?_;simp only[af];refine Wq.jmp (r9 ..) (λ_=>rfl) ?_;simp only[af];refine Wq.base hA2 ?_;refine Ax _ 0 (by decide) d.c.arg hc.2.1 hc.2.2 (λnx3 H3 hA3=>⟨_,_,Gr _,CN _ _,ax (hb2.ag hA3 (by omega)) rO rfl⟩) i64 (λs H nx hA=> ?_) 0 _ _ (.refl _ _);refine Wq.jmp (r9 ..) (λ_=>rfl) ?_;simp only[af];exact Wq.ret hA
 . exact L12 _ _ _ h4 rfl hA
theorem I8 (l:List ba)(hl:l.length<cY)(ih:∀d,d∈l->P0 49 [d.v] (i64 (vQ d))):P0 23 [cX l] (i64 (fN l 0)):=Pure.of rfl λH nx=>by
 rw[QM];refine Wq.each (l) (λi s H nx=> .jump (zX (cX l) (i64 s) (i64 (i:Int)) H nx)) (λt s=>i64 (fN t s)) (λs0 H0 nx0 hA0=> ?_) (λi0 a0 t0 s0 H0 nx0 hg0 hlt0 hd0 hA0 ih0=> ?_) (0) _ _ (.refl _ _)
 . refine Wq.jmp (IN ..) (λ_=>rfl) ?_;simp only[af,cj,List.length_map,aV];exact Wq.ret hA0
 . have hx0:((l).map ba.v)[i0]? = some (ba.v a0):=by simp[hg0]
   have hm0:=List.mem_of_getElem? hg0;refine Wq.jmp (IN ..) (λ_=>rfl) ?_;simp only[af,cj,List.length_map,aU hlt0,IE hx0];refine Wq.call (ih a0 hm0) hA0 λH2 nx2 hA2=> ?_;simp only[af,Int.add_comm 1];refine Wq.call (lr _ _) hA2 λH3 nx3 hA3=> ?_;rw[fN];simp only[af,aL (show i0<9223372036854775807 by have:=db hl;omega)];exact ih0 _ _ _ hA3
theorem KV (e:aQ)(h:e.ok)(h1:∀c,c∈e.l->P0 94 [c.v] (i64 (eM c)))(h2:∀d,d∈e.d->P0 49 [d.v] (i64 (vQ d))):P0 94 [e.v] (i64 (eM e)):=Pure.of rfl λH nx=>by
 rw[aQ.ct]at h;obtain⟨hr,hs,⟨hl,hl'⟩,⟨hp,hp'⟩,hd,hd'⟩:=h;rw[Q_];refine Wq.lf (.refl _ _) λhA=> ?_;simp only[af,cj,List.length_map];refine Wq.call (I8 _ hd h2) hA λH1 aJ hA1=> ?_;rw[Aw];refine Wq.each (e.l) (λi s H nx=> .jump (z5 (ai e.v) (i64 s) (i64 (i:Int)) H nx)) (λt s=>i64 (w (eU e.p (pz t s)+1))) (λs0 H0 nx0 hA0=> ?_) (λi0 a0 t0 s0 H0 nx0 hg0 hlt0 hd0 hA0 ih0=> ?_) (fN e.d 0) _ _ hA1
 . refine Wq.jmp (IW ..) (λ_=>rfl) ?_;simp only[af,cj,List.length_map,aV];refine Wq.each (e.p) (λi s H nx=> .jump (su (ai e.v) (i64 s) (i64 (i:Int)) H nx)) (λt s=>i64 (w (eU t s+1))) (λs8 H8 nx8 hA8=> ?_) (λi8 a8 t8 s8 H8 nx8 hg8 hlt8 hd8 hA8 ih8=> ?_) (s0) _ _ hA0
   . refine Wq.jmp (Dn ..) (λ_=>rfl) ?_;simp only[af,cj,List.length_map,aV];exact Wq.iE (by rw[Int.add_comm];rfl) hA8
   . have hx8:((e.p).map bg.v)[i8]? = some (bg.v a8):=by simp[hg8]
     have hm8:=List.mem_of_getElem? hg8;refine Wq.jmp (Dn ..) (λ_=>rfl) ?_;simp only[af,cj,List.length_map,aU hlt8,qM hx8];refine Wq.call (D0 _ (hp' _ hm8)) hA8 λH2 nx2 hA2=> ?_;refine Wq.call (lr _ _) hA2 λH3 nx3 hA3=> ?_;simp only[af,aL (show i8<9223372036854775807 by have:=db hp;omega)];exact ih8 _ _ _ hA3
 . have hx0:((e.l).map aQ.v)[i0]? = some (aQ.v a0):=by simp[hg0]
   have hm0:=List.mem_of_getElem? hg0;refine Wq.jmp (IW ..) (λ_=>rfl) ?_;simp only[af,cj,List.length_map,aU hlt0,IF hx0];refine Wq.call (h1 _ hm0) hA0 λH2 nx2 hA2=> ?_;refine Wq.call (lr _ _) hA2 λH3 nx3 hA3=> ?_;rw[pz];simp only[af,aL (show i0<9223372036854775807 by have:=db hl;omega)];exact ih0 _ _ _ hA3
theorem Gs:(∀e:aQ,e.ok->P0 94 [e.v] (i64 (eM e)))/\∀d:ba,d.ok->P0 49 [d.v] (i64 (vQ d)):=by
 have A:∀e:aQ,(∀c,c∈e.l->c.ok->P0 94 [c.v] (i64 (eM c)))->(∀c,c∈e.d->c.ok->P0 49 [c.v] (i64 (vQ c)))->e.ok->P0 94 [e.v] (i64 (eM e)):=λe h1 h2 h=>by
  have h':=(aQ.ct e).1 h;exact KV e h (λc hc=>h1 c hc (h'.2.2.1.2 c hc)) λd hd=>h2 d hd (h'.2.2.2.2.2 d hd)
 have B:∀d:ba,(d.e.ok->P0 94 [d.e.v] (i64 (eM d.e)))->(∀f,f∈d.f->f.b.ok->P0 94 [f.b.v] (i64 (eM f.b)))->d.ok->P0 49 [d.v] (i64 (vQ d)):=λd h1 h2 h=>by
  have h':=(ba.ct d).1 h;exact MX d h (h1 h'.2.1) λf hf=>h2 f hf ((Fn.ct f).1 (h'.2.2.1.2 f hf)).2.2
 exact⟨aQ.ind A B,ba.ind A B⟩
theorem MY (d:ba)(h:d.ok)(hE:P0 97 [d.e.v] (i64 (eM d.e)))(hF:∀f,f∈d.f->P0 97 [f.b.v] (i64 (eM f.b))):P0 50 [d.v] (i64 (w (vQ d+1))):=Pure.of rfl λH nx=>by
 rw[ba.ct]at h;obtain⟨hp,he,⟨hfl,hf⟩,hx,hc⟩:=h;rw[QV];refine Wq.lf (.refl _ _) λhA=> ?_;have L70:∀(n:Int) H1 aJ,Ag nx H aJ H1->Wq P pl X0 (.jump (pb (i64 n) H1 aJ)) nx H (i64 (w (n+1))):=λn H1 aJ hA1=>by
  refine Wq.jmp (Kq ..) (λ_=>rfl) ?_;simp only[af];exact Wq.ret hA1
 simp only[af,cj,List.length_map];rw[wZ];refine Wq.ite (λh1=> ?_) (λh1=> ?_)
 . rw[if_pos h1];refine Wq.call (D1 _ hp) hA λH2 nx2 hA2=> ?_;refine Wq.call hE hA2 λH3 nx3 hA3=> ?_;simp only[af,gD];exact L70 _ _ _ hA3
 rw[if_neg h1];refine Wq.ite (λh2=> ?_) (λh2=> ?_)
 . rw[if_neg (by omega),if_pos h2];refine Wq.each (d.f) (λi s H nx=> .jump (r_ (i64 s) (BD d.f) (i64 (d.f.length:Int)) (i64 (i:Int)) H nx)) (λt s=>i64 (w (sT t s+1))) (λs0 H0 nx0 hA0=> ?_) (λi0 a0 t0 s0 H0 nx0 hg0 hlt0 hd0 hA0 ih0=> ?_) (0) _ _ hA
   . refine Wq.jmp (De ..) (λ_=>rfl) ?_;simp only[af,cj,List.length_map,aV];exact Wq.ret hA0
   . have hx0:((d.f).map Fn.v)[i0]? = some (Fn.v a0):=by simp[hg0]
     have hm0:=List.mem_of_getElem? hg0;refine Wq.jmp (De ..) (λ_=>rfl) ?_;simp only[af,cj,List.length_map,aU hlt0,zA hx0];refine Wq.var iw mL rfl (Rf _) (Rg _) hA0 λH2 nx2 hA2=> ?_;refine Wq.call (hF a0 hm0) hA2 λH3 nx3 hA3=> ?_;simp only[af,cj,List.length_map,gD];have hpl:=((Fn.ct a0).1 (hf a0 hm0)).2.1;rw[sT,DZ];refine Wq.each (a0.p) (λi s H nx=> .jump (sf (i64 s) (BD d.f) (i64 (d.f.length:Int)) (i64 (i0:Int)) (cM a0.p) (i64 (a0.p.length:Int)) (i64 (i:Int)) H nx)) (λt s=>i64 (w (sT t0 (eU t s)+1))) (λs8 H8 nx8 hA8=> ?_) (λi8 a8 t8 s8 H8 nx8 hg8 hlt8 hd8 hA8 ih8=> ?_) (mx s0 (eM a0.b)) _ _ hA3
     . refine Wq.jmp (Dh ..) (λ_=>rfl) ?_;simp only[af,cj,List.length_map,aV];simp only[af,aL (show i0<9223372036854775807 by have:=db hfl;omega)];exact ih0 _ _ _ hA8
     . have hx8:((a0.p).map bg.v)[i8]? = some (bg.v a8):=by simp[hg8]
       have hm8:=List.mem_of_getElem? hg8;refine Wq.jmp (Dh ..) (λ_=>rfl) ?_;simp only[af,cj,List.length_map,aU hlt8,qM hx8];refine Wq.var cN da rfl (KN _) (KO _) hA8 λH2 nx2 hA2=> ?_;refine Wq.call (D1 a8 (hpl.2 a8 hm8)) hA2 λH3 nx3 hA3=> ?_;simp only[af,gD];simp only[af,aL (show i8<9223372036854775807 by have:=db hpl.1;omega)];exact ih8 _ _ _ hA3
 refine Wq.ite (λh3=> ?_) (λh3=> ?_)
 . rw[if_neg (by omega),if_neg h2,if_pos h3];refine Wq.each (d.x.cons) (λi s H nx=> .jump (sb (i64 s) (j9 d.x.cons) (i64 (d.x.cons.length:Int)) (i64 (i:Int)) H nx)) (λt s=>i64 (w (lq t s+1))) (λs0 H0 nx0 hA0=> ?_) (λi0 a0 t0 s0 H0 nx0 hg0 hlt0 hd0 hA0 ih0=> ?_) (0) _ _ hA
   . refine Wq.jmp (Df ..) (λ_=>rfl) ?_;simp only[af,cj,List.length_map,aV];exact Wq.ret hA0
   . have hx0:((d.x.cons).map dp.v)[i0]? = some (dp.v a0):=by simp[hg0]
     have hm0:=List.mem_of_getElem? hg0;refine Wq.jmp (Df ..) (λ_=>rfl) ?_;simp only[af,cj,List.length_map,aU hlt0,CT hx0];refine Wq.var gm j7 rfl (PK _) (PM _) hA0 λH2 nx2 hA2=> ?_;have hpl:=(hx.2.2.2 a0 hm0).2;rw[lq];refine Wq.each (a0.arg) (λi s H nx=> .jump (sh (i64 s) (j9 d.x.cons) (i64 (d.x.cons.length:Int)) (i64 (i0:Int)) (jx a0.arg) (i64 (a0.arg.length:Int)) (i64 (i:Int)) H nx)) (λt s=>i64 (w (lq t0 (kB t s)+1))) (λs8 H8 nx8 hA8=> ?_) (λi8 a8 t8 s8 H8 nx8 hg8 hlt8 hd8 hA8 ih8=> ?_) (s0) _ _ hA2
     . refine Wq.jmp (Di ..) (λ_=>rfl) ?_;simp only[af,cj,List.length_map,aV];simp only[af,aL (show i0<9223372036854775807 by have:=db (show d.x.cons.length<cY from hx.2.2.1);omega)];exact ih0 _ _ _ hA8
     . have hx8:((a0.arg).map bj.v)[i8]? = some (bj.v a8):=by simp[hg8]
       have hm8:=List.mem_of_getElem? hg8;refine Wq.jmp (Di ..) (λ_=>rfl) ?_;simp only[af,cj,List.length_map,aU hlt8,u5 hx8];refine Wq.var cw cE rfl (KP _) (KQ _) hA8 λH2 nx2 hA2=> ?_;refine Wq.call (I7 a8 (hpl.2 a8 hm8)) hA2 λH3 nx3 hA3=> ?_;simp only[af,gD];simp only[af,aL (show i8<9223372036854775807 by have:=db hpl.1;omega)];exact ih8 _ _ _ hA3
 refine Wq.ite (λh4=> ?_) (λh4=> ?_)
 . rw[if_neg (by omega),if_neg h2,if_neg h3,if_pos h4];refine Wq.each (d.c.arg) (λi s H nx=> .jump (se (i64 s) (jx d.c.arg) (i64 (d.c.arg.length:Int)) (i64 (i:Int)) H nx)) (λt s=>i64 (w (kB t s+1))) (λs0 H0 nx0 hA0=> ?_) (λi0 a0 t0 s0 H0 nx0 hg0 hlt0 hd0 hA0 ih0=> ?_) (0) _ _ hA
   . refine Wq.jmp (Dg ..) (λ_=>rfl) ?_;simp only[af,cj,List.length_map,aV];exact Wq.ret hA0
   . have hx0:((d.c.arg).map bj.v)[i0]? = some (bj.v a0):=by simp[hg0]
     have hm0:=List.mem_of_getElem? hg0;refine Wq.jmp (Dg ..) (λ_=>rfl) ?_;simp only[af,cj,List.length_map,aU hlt0,u5 hx0];refine Wq.var cw cE rfl (KP _) (KQ _) hA0 λH2 nx2 hA2=> ?_;refine Wq.call (I7 a0 (hc.2.2 a0 hm0)) hA2 λH3 nx3 hA3=> ?_;simp only[af,gD];simp only[af,aL (show i0<9223372036854775807 by have:=db hc.2.1;omega)];exact ih0 _ _ _ hA3
 refine Wq.ite (λh5=> ?_) (λh5=> ?_)
 . rw[if_pos h5];refine Wq.call hE hA λH3 nx3 hA3=> ?_;exact L70 _ _ _ hA3
 . rw[if_neg h5,if_neg h2,if_neg h3,if_neg h4];exact L70 _ _ _ hA
theorem I9 (l:List ba)(hl:l.length<cY)(ih:∀d,d∈l->P0 50 [d.v] (i64 (w (vQ d+1)))):P0 27 [cX l] (i64 (fN l 0)):=Pure.of rfl λH nx=>by
 rw[QN];simp only[af,cj,List.length_map];refine Wq.each (l) (λi s H nx=> .jump (zY (i64 s) (cX l) (i64 (l.length:Int)) (i64 (i:Int)) H nx)) (λt s=>i64 (fN t s)) (λs0 H0 nx0 hA0=> ?_) (λi0 a0 t0 s0 H0 nx0 hg0 hlt0 hd0 hA0 ih0=> ?_) (0) _ _ (.refl _ _)
 . refine Wq.jmp (IP ..) (λ_=>rfl) ?_;simp only[af,cj,List.length_map,aV];exact Wq.ret hA0
 . have hx0:((l).map ba.v)[i0]? = some (ba.v a0):=by simp[hg0]
   have hm0:=List.mem_of_getElem? hg0;refine Wq.jmp (IP ..) (λ_=>rfl) ?_;simp only[af,cj,List.length_map,aU hlt0,IE hx0];refine Wq.var dt eT rfl (PH _) (PJ _) hA0 λH2 nx2 hA2=> ?_;refine Wq.call (ih a0 hm0) hA2 λH3 nx3 hA3=> ?_;simp only[af,gD];rw[fN];simp only[af,aL (show i0<9223372036854775807 by have:=db hl;omega)];exact ih0 _ _ _ hA3
theorem KW (e:aQ)(h:e.ok)(h1:∀c,c∈e.l->P0 97 [c.v] (i64 (eM c)))(h2:∀d,d∈e.d->P0 50 [d.v] (i64 (w (vQ d+1)))):P0 97 [e.v] (i64 (eM e)):=Pure.of rfl λH nx=>by
 rw[aQ.ct]at h;obtain⟨hr,hs,⟨hl,hl'⟩,⟨hp,hp'⟩,hd,hd'⟩:=h;rw[Rc];refine Wq.lf (.refl _ _) λhA=> ?_;simp only[af,cj,List.length_map];refine Wq.call (I9 _ hd h2) hA λH1 aJ hA1=> ?_;rw[Aw];refine Wq.each (e.l) (λi s H nx=> .jump (z6 (ai e.v) (i64 s) (ft e.l) (i64 (e.l.length:Int)) (i64 (i:Int)) H nx)) (λt s=>i64 (w (eU e.p (pz t s)+1))) (λs0 H0 nx0 hA0=> ?_) (λi0 a0 t0 s0 H0 nx0 hg0 hlt0 hd0 hA0 ih0=> ?_) (fN e.d 0) _ _ hA1
 . refine Wq.jmp (IZ ..) (λ_=>rfl) ?_;simp only[af,cj,List.length_map,aV];refine Wq.each (e.p) (λi s H nx=> .jump (sw (i64 s) (cM e.p) (i64 (e.p.length:Int)) (i64 (i:Int)) H nx)) (λt s=>i64 (w (eU t s+1))) (λs8 H8 nx8 hA8=> ?_) (λi8 a8 t8 s8 H8 nx8 hg8 hlt8 hd8 hA8 ih8=> ?_) (s0) _ _ hA0
   . refine Wq.jmp (Dp ..) (λ_=>rfl) ?_;simp only[af,cj,List.length_map,aV];exact Wq.ret hA8
   . have hx8:((e.p).map bg.v)[i8]? = some (bg.v a8):=by simp[hg8]
     have hm8:=List.mem_of_getElem? hg8;refine Wq.jmp (Dp ..) (λ_=>rfl) ?_;simp only[af,cj,List.length_map,aU hlt8,qM hx8];refine Wq.var cN da rfl (KN _) (KO _) hA8 λH2 nx2 hA2=> ?_;refine Wq.call (D1 _ (hp' _ hm8)) hA2 λH3 nx3 hA3=> ?_;simp only[af,gD];simp only[af,aL (show i8<9223372036854775807 by have:=db hp;omega)];exact ih8 _ _ _ hA3
 . have hx0:((e.l).map aQ.v)[i0]? = some (aQ.v a0):=by simp[hg0]
   have hm0:=List.mem_of_getElem? hg0;refine Wq.jmp (IZ ..) (λ_=>rfl) ?_;simp only[af,cj,List.length_map,aU hlt0,IF hx0];refine Wq.var bJ bW rfl (PF _) (PG _) hA0 λH2 nx2 hA2=> ?_;refine Wq.call (h1 _ hm0) hA2 λH3 nx3 hA3=> ?_;simp only[af,gD];rw[pz];simp only[af,aL (show i0<9223372036854775807 by have:=db hl;omega)];exact ih0 _ _ _ hA3
theorem Gt:(∀e:aQ,e.ok->P0 97 [e.v] (i64 (eM e)))/\∀d:ba,d.ok->P0 50 [d.v] (i64 (w (vQ d+1))):=by
 have A:∀e:aQ,(∀c,c∈e.l->c.ok->P0 97 [c.v] (i64 (eM c)))->(∀c,c∈e.d->c.ok->P0 50 [c.v] (i64 (w (vQ c+1))))->e.ok->P0 97 [e.v] (i64 (eM e)):=λe h1 h2 h=>by
  have h':=(aQ.ct e).1 h;exact KW e h (λc hc=>h1 c hc (h'.2.2.1.2 c hc)) λd hd=>h2 d hd (h'.2.2.2.2.2 d hd)
 have B:∀d:ba,(d.e.ok->P0 97 [d.e.v] (i64 (eM d.e)))->(∀f,f∈d.f->f.b.ok->P0 97 [f.b.v] (i64 (eM f.b)))->d.ok->P0 50 [d.v] (i64 (w (vQ d+1))):=λd h1 h2 h=>by
  have h':=(ba.ct d).1 h;exact MY d h (h1 h'.2.1) λf hf=>h2 f hf ((Fn.ct f).1 (h'.2.2.1.2 f hf)).2.2
 exact⟨aQ.ind A B,ba.ind A B⟩
theorem MZ (l:List ba)(hl:l.length<cY)(h:∀d,d∈l->d.ok):P0 23 [cX l] (i64 (fN l 0))/\P0 27 [cX l] (i64 (fN l 0)):=
 ⟨I8 l hl λd hd=>Gs.2 d (h d hd),I9 l hl λd hd=>Gt.2 d (h d hd)⟩
end
section
variable {nx0:Nat}{H0:T OB}
theorem e_ (a b:List UInt8):decide ((⟨⟨a⟩⟩:ByteArray)=⟨⟨b⟩⟩)=decide (a=b):=by rw[decide_eq_decide];simp
theorem Wq.BH {p:Prop}[Decidable p]{R:Value->T OB->Nat->Prop}{x y:Q}(h:¬p->J9 P pl X0 x nx0 H0 R)(h':p->J9 P pl X0 y nx0 H0 R):J9 P pl X0 (Ev.bK (!decide p) x y) nx0 H0 R:=
 Wq.bK (λq=>h (by simpa using q)) (λq=>h' (by simpa using q))
end
section
variable {nx0:Nat}{H0:T OB}
theorem sU (c:UInt8)(lo hi:Nat):P0 144 [b8 c,.int .u8 (lo:Int),.int .u8 (hi:Int)] (.bool (decide (lo<=c.toNat)&&decide (c.toNat<=hi))):=Pure.of rfl λH nx=>by
 rw[Pg];simp only[af];have e1:decide ((lo:Int)<=(c.toNat:Int))=decide (lo<=c.toNat):=by rw[decide_eq_decide];omega
 have e2:decide ((c.toNat:Int)<=(hi:Int))=decide (c.toNat<=hi):=by rw[decide_eq_decide];omega
 rw[e1];refine Wq.bK (λh=> ?_) (λh=> ?_)
 . rw[h,Bool.true_and,<- e2];exact Wq.ret (.refl _ _)
 . rw[h,Bool.false_and];exact Wq.ret (.refl _ _)
theorem w3 (c:UInt8):P0 144 [b8 c,.int .u8 97,.int .u8 122] (.bool (bH c)):=sU c 97 122
theorem sV (c:UInt8):P0 144 [b8 c,.int .u8 65,.int .u8 90] (.bool (bC c)):=sU c 65 90
theorem sW (c:UInt8):P0 144 [b8 c,.int .u8 48,.int .u8 57] (.bool (bq c)):=sU c 48 57
theorem D2 (c:UInt8):decide ((c.toNat:Int)=39)=decide (c.toNat=39):=by rw[decide_eq_decide];omega
theorem M0 (c:UInt8):decide ((c.toNat:Int)=95)=decide (c.toNat=95):=by rw[decide_eq_decide];omega
theorem D3 (c:UInt8):P0 156 [b8 c] (.bool (eZ c)):=Pure.of rfl λH nx=>by
 rw[Ps];unfold eZ;refine Wq.call (w3 c) (.refl _ _) λH1 aJ hA1=> ?_;simp only[af,D2,M0];refine Wq.bK (λh=>by rw[h,Bool.true_or];exact Wq.ret hA1) (λh=> ?_);rw[h,Bool.false_or];refine Wq.call (sV c) hA1 λH2 nx2 hA2=> ?_;simp only[af];refine Wq.bK (λh=>by rw[h,Bool.true_or];exact Wq.ret hA2) (λh=> ?_);rw[h,Bool.false_or];refine Wq.call (sW c) hA2 λH3 nx3 hA3=> ?_;simp only[af];refine Wq.bK (λh=>by rw[h,Bool.true_or];exact Wq.ret hA3) (λh=> ?_);rw[h,Bool.false_or];refine Wq.bK (λh=>by rw[h,Bool.true_or];exact Wq.ret hA3) (λh=> ?_);rw[h,Bool.false_or];exact Wq.ret hA3
theorem M1 (l:List (List UInt8))(hl:l.length<cY)(s:List UInt8):∀(r:List (List UInt8)) (i:Nat) (H:T OB) (nx:Nat),l.drop i=r->i<=l.length->Ag nx0 H0 nx H->Wq P pl X0 (.jump (sE (gn l) (aE s) (i64 (i:Int)) H nx)) nx0 H0 (.bool (r.contains s)):=by
 intro r
 induction r with
 | nil=>
   intro i H nx hd hi hA;have hil:=drop_nil hd hi;refine Wq.jmp (Dw ..) (λ_=>rfl) ?_;simp only[af,cj,List.length_map,hil,aV];exact Wq.ret hA
 | cons x r ih=>
   intro i H nx hd hi hA;obtain⟨hg,hlt,hd'⟩:=drop_cons hd;have hg':(l.map aE)[i]? = some (aE x):=by simp[hg]
   refine Wq.jmp (Dw ..) (λ_=>rfl) ?_;simp only[af,cj,List.length_map,aU hlt,IG hg',e_,aL (show i<9223372036854775807 by have:=db hl;omega)];refine Wq.ite (λh=> ?_) (λh=> ?_)
   . exact Wq.iE (by subst h;simp) hA
   . have:((x::r).contains s)=r.contains s:=by rw[List.contains_cons,show(s == x)=false from by simp;exact λq=>h q.symm,Bool.false_or]
     rw[this];exact ih (i+1) H nx hd' (by omega) hA
theorem M3 (es:List Value)(H:T OB)(nx:Nat)(k:Value->T OB->Nat->Q):fH P 49 (bc 1 es) H nx k=k (bc 1 es) H nx:=by kernel_rfl
theorem D4 (l:List (List UInt8))(hl:l.length<cY)(s:List UInt8):P0 115 [gn l,aE s] (.bool (l.contains s)):=Pure.of rfl λH nx=>by
 rw[Pe,M3];exact M1 l hl s l 0 H nx rfl (Nat.zero_le _) (.refl _ _)
theorem sX:bE P 9=some [.string ⟨⟨[]⟩⟩]:=by kernel_rfl
theorem Wq.Ma {b n:Nat}{l:List (List UInt8)}{H:T OB}{nx:Nat}{R:Value->T OB->Nat->Prop}{k:Value->T OB->Nat->Q}(hb:cm H b (l.map aE) 9)(hl:l.length=n)(h:Ag nx0 H0 nx H)(hbn:nx0<=b)
 (hk:∀H',(∀c l e,c≠b->cm H c l e->cm H' c l e)->Ag nx0 H0 (nx+1) H'->J9 P pl X0 (k (gn l) H' (nx+1)) nx0 H0 R):J9 P pl X0 (fH P 49 (.slice (some ⟨b,0,none⟩) n n) H nx k) nx0 H0 R:=by
 subst hl;have hch:chunk false 1 l.length (l.map aE)=some (l.map aE):=by
  have:=jq (l.map aE);rwa[List.length_map]at this
 exact Wq.OC jr iC mK rfl hb (by simp) (by rw[Nat.ble_eq_true_of_le (Nat.le_refl _),Bool.or_true]) hch (by simp[Ev.bK]) h hbn hk
theorem KX:Instr.fill (λi=>some (i*1,1)) (bz [Value.string ⟨⟨[]⟩⟩] (26*1)) [(0,(.string ⟨⟨[97,110,100]⟩⟩)),(1,(.string ⟨⟨[97,110,100,97,108,115,111]⟩⟩)),(2,(.string ⟨⟨[99,97,115,101]⟩⟩)),(3,(.string ⟨⟨[100,97,116,97,116,121,112,101]⟩⟩)),(4,(.string ⟨⟨[100,105,118]⟩⟩)),(5,(.string ⟨⟨[101,108,115,101]⟩⟩)),(6,(.string ⟨⟨[101,110,100]⟩⟩)),(7,(.string ⟨⟨[101,120,99,101,112,116,105,111,110]⟩⟩)),(8,(.string ⟨⟨[102,110]⟩⟩)),(9,(.string ⟨⟨[102,117,110]⟩⟩)),(10,(.string ⟨⟨[104,97,110,100,108,101]⟩⟩)),(11,(.string ⟨⟨[105,102]⟩⟩)),(12,(.string ⟨⟨[105,110]⟩⟩)),(13,(.string ⟨⟨[105,116,111,115]⟩⟩)),(14,(.string ⟨⟨[108,101,116]⟩⟩)),(15,(.string ⟨⟨[109,111,100]⟩⟩)),(16,(.string ⟨⟨[110,111,116]⟩⟩)),(17,(.string ⟨⟨[111,102]⟩⟩)),(18,(.string ⟨⟨[111,114,100]⟩⟩)),(19,(.string ⟨⟨[111,114,101,108,115,101]⟩⟩)),(20,(.string ⟨⟨[114,97,105,115,101]⟩⟩)),(21,(.string ⟨⟨[114,101,102]⟩⟩)),(22,(.string ⟨⟨[115,105,122,101]⟩⟩)),(23,(.string ⟨⟨[115,116,114]⟩⟩)),(24,(.string ⟨⟨[116,104,101,110]⟩⟩)),(25,(.string ⟨⟨[118,97,108]⟩⟩))]=some ⟨eJ.map aE⟩:=by kernel_rfl
theorem KY:P0 157 [] (gn eJ):=Pure.of rfl λH nx=>by
 rw[Pt];refine Wq.row jr iC sX rfl (KX) (.refl _ _) λH1 hb1 _ hA1=> ?_;refine Wq.Ma (l:=eJ) hb1 rfl hA1 (Nat.le_refl _) λH2 _ hA2=> ?_;exact Wq.ret hA2
theorem KZ:Instr.fill (λi=>some (i*1,1)) (bz [Value.string ⟨⟨[]⟩⟩] (22*1)) [(0,(.string ⟨⟨[45,62]⟩⟩)),(1,(.string ⟨⟨[61,62]⟩⟩)),(2,(.string ⟨⟨[58,58]⟩⟩)),(3,(.string ⟨⟨[58,61]⟩⟩)),(4,(.string ⟨⟨[60,61]⟩⟩)),(5,(.string ⟨⟨[62,61]⟩⟩)),(6,(.string ⟨⟨[60,62]⟩⟩)),(7,(.string ⟨⟨[61]⟩⟩)),(8,(.string ⟨⟨[60]⟩⟩)),(9,(.string ⟨⟨[62]⟩⟩)),(10,(.string ⟨⟨[43]⟩⟩)),(11,(.string ⟨⟨[45]⟩⟩)),(12,(.string ⟨⟨[42]⟩⟩)),(13,(.string ⟨⟨[94]⟩⟩)),(14,(.string ⟨⟨[33]⟩⟩)),(15,(.string ⟨⟨[126]⟩⟩)),(16,(.string ⟨⟨[40]⟩⟩)),(17,(.string ⟨⟨[41]⟩⟩)),(18,(.string ⟨⟨[44]⟩⟩)),(19,(.string ⟨⟨[59]⟩⟩)),(20,(.string ⟨⟨[124]⟩⟩)),(21,(.string ⟨⟨[95]⟩⟩))]=some ⟨bk.map aE⟩:=by kernel_rfl
theorem K0:P0 116 [] (gn bk):=Pure.of rfl λH nx=>by
 rw[Pf];refine Wq.row jr iC sX rfl (KZ) (.refl _ _) λH1 hb1 _ hA1=> ?_;refine Wq.Ma (l:=bk) hb1 rfl hA1 (Nat.le_refl _) λH2 _ hA2=> ?_;exact Wq.ret hA2
theorem D5 (s:List UInt8)(hl:s.length<cY):∀(r:List UInt8) (i:Nat) (H:T OB) (nx:Nat),s.drop i=r->i<=s.length->Ag nx0 H0 nx H->Wq P pl X0 (.jump (nw (aE s) (i64 (i:Int)) H nx)) nx0 H0 (.bool (r.all eZ)):=by
 intro r
 induction r with
 | nil=>
   intro i H nx hd hi hA;have hil:=drop_nil hd hi;refine Wq.jmp (Ac ..) (λ_=>rfl) ?_;simp only[af,aF _ aR,aK,hil,aV];exact Wq.ret hA
 | cons c r ih=>
   intro i H nx hd hi hA;obtain⟨hg,hlt,hd'⟩:=drop_cons hd;refine Wq.jmp (Ac ..) (λ_=>rfl) ?_;simp only[af,aF _ aR,aK,aU hlt,aW aR hg];refine Wq.call (D3 c) hA λH1 aJ hA1=> ?_;simp only[af];rw[List.all_cons];cases eZ c with
   | false=>exact Wq.ret hA1
   | true=>
     simp only[af,aL (show i<9223372036854775807 by have:=db hl;omega),Bool.true_and];exact ih (i+1) H1 aJ hd' (by omega) hA1
theorem I_ (a:UInt8)(r:List UInt8):aH P 9 (some (aE (a::r))) (some (.int .i64 0))=some (b8 a):=by
 have:=aW (P:=P) aR (l:=a::r) (i:=0) (c:=a) rfl .i64;exact this
theorem OD (a b:UInt8)(r:List UInt8):aH P 9 (some (aE (a::b::r))) (some (.int .i64 1))=some (b8 b):=aW (P:=P) aR (l:=a::b::r) (i:=1) (c:=b) rfl .i64
theorem OE (a b c:UInt8)(r:List UInt8):aH P 9 (some (aE (a::b::c::r))) (some (.int .i64 2))=some (b8 c):=aW (P:=P) aR (l:=a::b::c::r) (i:=2) (c:=c) rfl .i64
theorem QD (a b c d:UInt8)(r:List UInt8):aH P 9 (some (aE (a::b::c::d::r))) (some (.int .i64 3))=some (b8 d):=aW (P:=P) aR (l:=a::b::c::d::r) (i:=3) (c:=d) rfl .i64
theorem Ay (a:UInt8)(r:List UInt8):decide (a::r=[])=false:=by simp
theorem K1 (s:List UInt8)(hl:s.length<cY):P0 112 [aE s] (.bool (isWord s)):=Pure.of rfl λH nx=>by
 rw[Pb];cases s with
 | nil=>
   simp only[af,e_];refine Wq.jmp (Du ..) (λ_=>rfl) ?_;exact Wq.ret (.refl _ _)
 | cons a r=>
   have L6:∀(b:Bool) H1 aJ,Ag nx H aJ H1->b= !(bH a||bC a)->Wq P pl X0 (.jump (pf (aE (a::r)) b H1 aJ)) nx H (.bool (isWord (a::r))):=by
    intro b H1 aJ hA1 hb;refine Wq.jmp (Du ..) (λ_=>rfl) ?_;show Wq P pl X0 _ nx H (.bool ((bH a||bC a)&&r.all eZ));cases hx:bH a||bC a with
    | true=>rw[hx]at hb;rw[hb,Bool.true_and];exact D5 (a::r) hl r 1 H1 aJ rfl (by simp) hA1
    | false=>rw[hx]at hb;rw[hb,Bool.false_and];exact Wq.ret hA1
   simp only[af,e_,Ay,I_];refine Wq.call (w3 a) (.refl _ _) λH1 aJ hA1=> ?_;simp only[af];cases jg:bH a with
   | true=>simp only[af];exact L6 false _ _ hA1 (by rw[jg];rfl)
   | false=>
     simp only[af];refine Wq.call (sV a) hA1 λH2 nx2 hA2=> ?_;simp only[af];exact L6 _ _ _ hA2 (by rw[jg,Bool.false_or])
theorem D6 (s:List UInt8)(hl:s.length<cY):∀(r:List UInt8) (i:Nat) (H:T OB) (nx:Nat),s.drop i=r->i<=s.length->Ag nx0 H0 nx H->Wq P pl X0 (.jump (ny (aE s) (i64 (i:Int)) H nx)) nx0 H0 (.bool (r.all λc=> !decide (c.toNat=39)&&eZ c)):=by
 intro r
 induction r with
 | nil=>
   intro i H nx hd hi hA;have hil:=drop_nil hd hi;refine Wq.jmp (Ad ..) (λ_=>rfl) ?_;simp only[af,aF _ aR,aK,hil,aV];exact Wq.ret hA
 | cons c r ih=>
   intro i H nx hd hi hA;obtain⟨hg,hlt,hd'⟩:=drop_cons hd;have L16:∀(b:Bool) H1 aJ,Ag nx0 H0 aJ H1->b= !(!decide (c.toNat=39)&&eZ c)->Wq P pl X0 (.jump (nz (aE s) (i64 (i:Int)) b H1 aJ)) nx0 H0 (.bool ((c::r).all λc=> !decide (c.toNat=39)&&eZ c)):=by
    intro b H1 aJ hA1 hb;refine Wq.jmp (F3 ..) (λ_=>rfl) ?_;rw[List.all_cons];cases hx:(!decide (c.toNat=39)&&eZ c)with
    | false=>rw[hx]at hb;rw[hb,Bool.false_and];exact Wq.ret hA1
    | true=>
      rw[hx]at hb;rw[hb,Bool.true_and];simp only[af,aL (show i<9223372036854775807 by have:=db hl;omega)];exact ih (i+1) H1 aJ hd' (by omega) hA1
   refine Wq.jmp (Ad ..) (λ_=>rfl) ?_;simp only[af,aF _ aR,aK,aU hlt,aW aR hg,D2];refine Wq.bK (λh=>L16 _ _ _ hA (by rw[h];rfl)) (λh=> ?_);refine Wq.call (D3 c) hA λH1 aJ hA1=> ?_;simp only[af];exact L16 _ _ _ hA1 (by rw[h];rfl)
theorem K2 (s:List UInt8)(hl:s.length<cY):P0 114 [aE s] (.bool (isVar s)):=Pure.of rfl λH nx=>by
 rw[Pd];have L6t:∀H1 aJ,Ag nx H aJ H1->isVar s=false->Wq P pl X0 (.jump (pg (aE s) true H1 aJ)) nx H (.bool (isVar s)):=by
  intro H1 aJ hA1 h;refine Wq.jmp (Dv ..) (λ_=>rfl) ?_;rw[h];exact Wq.ret hA1
 match s with
 | []=>simp only[af,aF _ aR,aK];exact L6t _ _ (.refl _ _) rfl
 | [a]=>simp only[af,aF _ aR,aK,List.length_cons];exact L6t _ _ (.refl _ _) rfl
 | a::b::r=>
   have e2:decide (((a::b::r).length:Int)<2)=false:=by simp;omega
   simp only[af,aF _ aR,aK,e2,I_,D2];have hv:isVar (a::b::r)=(decide (a.toNat=39)&&(bH b&&r.all λc=> !decide (c.toNat=39)&&eZ c)):=rfl;cases ha:decide (a.toNat=39)with
   | false=>simp only[af];exact L6t _ _ (.refl _ _) (by rw[hv,ha];rfl)
   | true=>
     simp only[af,OD];refine Wq.call (w3 b) (.refl _ _) λH1 aJ hA1=> ?_;simp only[af];cases hb:bH b with
     | false=>exact L6t _ _ hA1 (by rw[hv,hb];simp)
     | true=>
       refine Wq.jmp (Dv ..) (λ_=>rfl) ?_;rw[hv,ha,hb,Bool.true_and,Bool.true_and];exact D6 (a::b::r) hl r 2 H1 aJ rfl (by simp) hA1
def D7 (s:List UInt8):Int:=if eJ.contains s=true then 6 else if(fE s||(decide (s=[116,114,117,101])||(decide (s=[102,97,108,115,101])||decide (s=[110,105,108]))))=true then 4 else 3
theorem D8 (s:List UInt8):D7 s=eK s:=by
 unfold D7 eK;have key:eJ.contains s=true->(fE s||(decide (s=[116,114,117,101])||(decide (s=[102,97,108,115,101])||decide (s=[110,105,108]))))=false:=by
  intro h;have hm:s∈eJ:=by simpa using h
  have:∀k∈eJ,(fE k||(decide (k=[116,114,117,101])||(decide (k=[102,97,108,115,101])||decide (k=[110,105,108]))))=false:=by decide
  exact this s hm
 by_cases h:eJ.contains s=true
 . rw[if_pos h,key h,if_neg (by decide),if_pos h]
 . rw[if_neg h,if_neg h]
theorem K3 (a:UInt8)(r:List UInt8):P0 113 [aE (a::r)] (i64 (eK (a::r))):=Pure.of rfl λH nx=>by
 rw[Pc,<- D8];refine Wq.call KY (.refl _ _) λH1 aJ hA1=> ?_;refine Wq.call (D4 eJ (by decide) (a::r)) hA1 λH2 nx2 hA2=> ?_;unfold D7;simp only[af];refine Wq.bK (λh=>by rw[if_pos h];exact Wq.ret hA2) (λh=> ?_);rw[if_neg (by rw[h];decide)];have L10:∀(b:Bool) H1 aJ,Ag nx H aJ H1->b=(bC a||(decide (a::r=[116,114,117,101])||(decide (a::r=[102,97,108,115,101])||decide (a::r=[110,105,108]))))->Wq P pl X0 (.jump (jO b H1 aJ)) nx H (i64 (if(fE (a::r)||(decide (a::r=[116,114,117,101])||(decide (a::r=[102,97,108,115,101])||decide (a::r=[110,105,108]))))=true then 4 else 3)):=by
  intro b H1 aJ hA1 hb;refine Wq.jmp (F2 ..) (λ_=>rfl) ?_;show Wq P pl X0 _ nx H (i64 (if(bC a||(decide (a::r=[116,114,117,101])||(decide (a::r=[102,97,108,115,101])||decide (a::r=[110,105,108]))))=true then 4 else 3));rw[<- hb];cases b
  . exact Wq.ret hA1
  . exact Wq.ret hA1
 simp only[af,I_];refine Wq.call (sV a) hA2 λH3 nx3 hA3=> ?_;simp only[af,e_];refine Wq.bK (λh=>L10 _ _ _ hA3 (by rw[h];rfl)) (λh0=> ?_);refine Wq.bK (λh=>L10 _ _ _ hA3 (by rw[h0,h];rfl)) (λh1=> ?_);refine Wq.bK (λh=>L10 _ _ _ hA3 (by rw[h0,h1,h];rfl)) (λh2=> ?_);exact L10 _ _ _ hA3 (by rw[h0,h1,h2];rfl)
end
section
variable {nx0:Nat}{H0:T OB}
def first(s:List UInt8)(n:Nat):Bool:=match s with
 | []=>false
 | c::_=>decide (c.toNat=n)
def fO (s:List UInt8):Bool:=match s with
 | []=>false
 | c::_=>bq c
theorem M4:P.underlying 2=some (.int .i64):=by kernel_rfl
theorem Ja:P.underlying 3=some (.int .i64):=by kernel_rfl
theorem qR:P.underlying 5=some (.int .u8):=by kernel_rfl
theorem w4:bE P 5=some [.int .u8 0]:=by kernel_rfl
theorem w5 (H:T OB)(k:IntKind)(n:Int):cB P H 5 2 (some (.int k n))=some (i64 (IntKind.i64.wrap n)):=kA qR M4
theorem w6 (H:T OB)(k:IntKind)(n:Int):cB P H 5 3 (some (.int k n))=some (i64 (IntKind.i64.wrap n)):=kA qR Ja
theorem D9 (H:T OB)(n:Int):cB P H 3 5 (some (i64 n))=some (.int .u8 (IntKind.u8.wrap n)):=kA Ja qR
theorem D_ (H:T OB)(a:Int):ah P H .quo 2 true (some (i64 a)) (some (i64 10))=some (i64 (IntKind.i64.wrap (a.tdiv 10))):=By _ _ _ _ _ (by decide)
theorem wrap_u8 (n:Int):IntKind.u8.wrap n=n%256:=by
 unfold IntKind.wrap;simp[IntKind.bits,IntKind.signed]
end
section
variable {nx0:Nat}{H0:T OB}
theorem cZ {H:T OB}{l:List UInt8}{lo:Nat}(h1:lo<=l.length):bm P H 9 (some (aE l)) (some (some (i64 (lo:Int)))) (some none) (some none)=some (aE (l.drop lo)):=by
 show lK P 9 (aE l) (some (some (i64 (lo:Int)))) (some none) (some none)=_;show fV P (Instr.sliceAt 9 (aE l) (some (i64 (lo:Int))) none none)=_;have e0:(⟨⟨l⟩⟩:ByteArray).extract lo l.length=⟨⟨l.drop lo⟩⟩:=by
  apply ByteArray.ext;rw[ByteArray.data_extract];apply Array.ext';simp[List.take_of_length_le]
 have e1:bD P (Instr.sliceAt 9 (aE l) (some (i64 (lo:Int))) none none)=some (aE (l.drop lo)):=by
  unfold Instr.sliceAt;simp only[a9,bT aR,Option.bind_some];unfold Instr.slice;simp only[a9,bT aR,Option.bind_some];unfold Instr.sliceBounds Instr.sliceBound;simp only[a9,asIntOf,Option.isSome];have pp:∀{α:Type} (a:α),bD P (pure a:Sem α)=some a:=λ_=>rfl;rw[if_neg (by decide)];simp only[a9,pp,Option.bind_some];have c2:(0:Int)<=(lo:Int)/\(lo:Int)<=((⟨⟨l⟩⟩:ByteArray).size:Int):=⟨by omega,by rw[aK];omega⟩;rw[if_pos c2];simp only[pp,Option.bind_some,Int.toNat_natCast,aK,e0]
 exact mc e1 rfl
theorem BS.cA {nx0:Nat}{e:TypeId}{nx nx':Nat}{H H':T OB}{r:List UInt8}{sl:Value}(h:BS e nx0 H nx r sl)(hn:nx<=nx')(hk:∀b l e,b<nx->cm H b l e->cm H' b l e):BS e nx0 H' nx' r sl:=by
 rcases h with h | ⟨b,c,h1,h2,h3,h4,h5⟩
 . exact .inl h
 . exact .inr ⟨b,c,h1,by omega,hk _ _ _ h2 h3,h4,h5⟩
theorem PO (n:Nat):bB P 5 1 n=(Nat.ble n 1048576&&true):=by kernel_rfl
theorem Ea {n:Nat}(h:n<=1048576):bB P 5 1 n=true:=by rw[PO,Nat.ble_eq_true_of_le h];rfl
theorem K4 (c:UInt8):Instr.fill (λi=>some (i*1,1)) (bz [Value.int .u8 0] (1*1)) [(0,b8 c)]=some ⟨pN [c]⟩:=by kernel_rfl
theorem sY:dH P 120 9=true:=by kernel_rfl
theorem Gu (n:Int):aC P 31 (some [(0,i64 1),(2,i64 n)])=some (Tok.v ⟨1,[],n,0⟩):=a_ bR (by kernel_rfl)
theorem lu (k:Int)(s:List UInt8):aC P 31 (some [(0,i64 k),(1,aE s)])=some (Tok.v ⟨k,s,0,0⟩):=a_ bR (by kernel_rfl)
end
section
variable {nx0:Nat}{H0:T OB}
theorem Gv (n:Nat):decide ((n:Int)=0)=decide (n=0):=by rw[decide_eq_decide];omega
end
section
variable {nx0:Nat}{H0:T OB}
abbrev ptr (b:Nat):Value:= .pointer (some ⟨b,0,none⟩)
abbrev gW (l:List Tok):List Value:=l.flatMap Tok.c
theorem vo (l:List Tok):(gW l).length=l.length*4:=by
 induction l with
 | nil=>rfl
 | cons a l ih=>
   show(a.c++gW l).length=_;rw[List.length_append,ih,List.length_cons];show 4+l.length*4=(l.length+1)*4;omega
def TS (nx0:Nat)(H:T OB)(nx:Nat)(l:List Tok)(sl:Value):Prop:=(l=[]/\sl= .slice none 0 0)\/∃b,nx0<=b/\b<nx/\cm H b (gW l) 31/\sl= .slice (some ⟨b,0,none⟩) l.length dP
def Out (fr:Nat->List Value->TypeId->Prop)(bp nx0:Nat)(H:T OB)(nx:Nat)(l:List Tok)(b:Bool):Prop:=nx0<=bp/\bp<nx/\∃sl,cm H bp [sl,.bool b] 116/\TS nx0 H nx l sl/\(∀c o n u,sl= .slice (some ⟨c,o,none⟩) n u->c≠bp)/\∀x l e,fr x l e->x<nx/\cm H x l e/\x≠bp/\∀c o n u,sl= .slice (some ⟨c,o,none⟩) n u->c≠x
def Go (l0:List Tok)(b0:Bool)(ok:Bool)(ts:List Tok)(n:Nat)(l:List Tok)(b:Bool):Prop:=b=(b0 || !ok)/\(b=false->l=l0++ts)/\l.length<=l0.length+n
variable {fr:Nat->List Value->TypeId->Prop}{bp:Nat}{l0:List Tok}{b0:Bool}
variable {ok:Bool}{ts:List Tok}{n nx:Nat}{H:T OB}{R:Value->T OB->Nat->Prop}
theorem vp {n:Nat}(h:n<=1048576):bB P 31 4 n=true:=by
 have:bB P 31 4 n=(Nat.ble n 1048576&&true):=by kernel_rfl
 rw[this,Nat.ble_eq_true_of_le h];rfl
theorem pA (a b c d:Value):Instr.fill (λi=>some (i*4,4)) (bz [Value.int .i64 0,Value.string ⟨⟨[]⟩⟩,Value.int .i64 0,Value.int .i64 0] (1*4)) [(0,.agg ⟨[a,b,c,d]⟩)]=some ⟨[a,b,c,d]⟩:=by kernel_rfl
end
section
abbrev Bx:=Nat×List Value×TypeId
structure Hp (nx0:Nat)(H0:T OB)(F:List Bx)(H:T OB)(nx:Nat):Prop where
 sZ:dN nx0 H0
 ag:Ag nx0 H0 nx H
 s9:(F.map Prod.fst).Nodup
 all:∀x∈F,nx0<=x.1/\x.1<nx/\cm H x.1 x.2.1 x.2.2
variable {nx0 nx nx':Nat}{H0 H H':T OB}{F A B G:List Bx}{s:Bx}{R:Go.Ev.Out->T OB->Nat->Prop}{b:Nat}{l:List Value}{e t:TypeId}
theorem Hp.mem (h:Hp nx0 H0 F H nx){x:Bx}(hx:x∈F):cm H x.1 x.2.1 x.2.2:=(h.all x hx).2.2
theorem Hp.at_ (h:Hp nx0 H0 F H nx)(i:Nat)(hi:F[i]? = some (b,l,e)):cm H b l e:=h.mem (List.mem_of_getElem? hi)
theorem Hp.cA (h:Hp nx0 H0 F H nx)(hA:Ag nx0 H0 nx' H')(hn:nx<=nx')(hk:∀b l e,b<nx->cm H b l e->cm H' b l e):Hp nx0 H0 F H' nx':=
 ⟨h.sZ,hA,h.s9,λx hx=>by obtain⟨h1,h2,h3⟩:=h.all x hx;exact⟨h1,by omega,hk _ _ _ h2 h3⟩⟩
theorem Hp.new (h:Hp nx0 H0 F H nx)(hb:cm H' nx l e)(hk:∀b l e,b<nx->cm H b l e->cm H' b l e)(hA:Ag nx0 H0 (nx+1) H'):Hp nx0 H0 ((nx,l,e)::F) H' (nx+1):=by
 have h':=h.cA hA (Nat.le_succ _) hk;refine⟨h.sZ,hA,?_,λx hx=> ?_⟩
 . rw[List.map_cons,List.nodup_cons];refine⟨λq=> ?_,h.s9⟩;obtain⟨y,hy,e⟩:=List.mem_map.1 q;have:=(h.all y hy).2.1;omega
 . rcases List.mem_cons.1 hx with rfl | hx
   . exact⟨h.ag.1,Nat.lt_succ_self _,hb⟩
   . exact h'.all x hx
theorem Hp.perm {F':List Bx}(h:Hp nx0 H0 F H nx)(hp:F.Perm F'):Hp nx0 H0 F' H nx:=⟨h.sZ,h.ag,(hp.map _).nodup_iff.1 h.s9,λx hx=>h.all x (hp.mem_iff.2 hx)⟩
theorem Hp.sub {F':List Bx}(h:Hp nx0 H0 F H nx)(hp:F'.Sublist F):Hp nx0 H0 F' H nx:=⟨h.sZ,h.ag,(hp.map _).nodup h.s9,λx hx=>h.all x (hp.subset hx)⟩
theorem Hp.swap {x y:Bx}(h:Hp nx0 H0 (x::y::F) H nx):Hp nx0 H0 (y::x::F) H nx:=h.perm (List.Perm.swap y x F)
theorem Hp.lx {x y:Bx}(h:Hp nx0 H0 (x::y::F) H nx):Hp nx0 H0 (x::F) H nx:=h.sub (by simp)
theorem Hp.lQ {l':List Value}(h:Hp nx0 H0 (A++(b,l,e)::B) H nx)(hb:cm H' b l' e)(hk:∀c l e,c≠b->cm H c l e->cm H' c l e)(hA:Ag nx0 H0 nx H'):Hp nx0 H0 (A++(b,l',e)::B) H' nx:=by
 have hd:=h.s9;refine⟨h.sZ,hA,by simpa using hd,λx hx=> ?_⟩;simp only[List.map_append,List.map_cons]at hd;rw[List.nodup_append]at hd;obtain⟨h1,h2,h3⟩:=hd;rw[List.nodup_cons]at h2;have hm:=h.all (b,l,e) (by simp);rcases List.mem_append.1 hx with hx | hx
 . obtain⟨g1,g2,g3⟩:=h.all x (by simp[hx]);exact⟨g1,g2,hk _ _ _ (λq=>h3 x.1 (List.mem_map_of_mem hx) b (by simp) q) g3⟩
 . rcases List.mem_cons.1 hx with rfl | hx
   . exact⟨hm.1,hm.2.1,hb⟩
   . obtain⟨g1,g2,g3⟩:=h.all x (by simp[hx]);exact⟨g1,g2,hk _ _ _ (λq=>h2.1 (q ▸ List.mem_map_of_mem hx)) g3⟩
theorem Hp.kill (h:Hp nx0 H0 (A++(b,l,e)::B) H nx)(hk:∀c l e,c≠b->cm H c l e->cm H' c l e)(hA:Ag nx0 H0 nx' H')(hn:nx<=nx'):Hp nx0 H0 (A++B) H' nx':=by
 have hd:=h.s9;simp only[List.map_append,List.map_cons]at hd;rw[List.nodup_append]at hd;obtain⟨h1,h2,h3⟩:=hd;rw[List.nodup_cons]at h2;have h':=h.sub (F':=A++B) (by simp);refine⟨h.sZ,hA,h'.s9,λx hx=> ?_⟩;obtain⟨g1,g2,g3⟩:=h'.all x hx;refine⟨g1,by omega,hk _ _ _ (λq=> ?_) g3⟩;rcases List.mem_append.1 hx with hx | hx
 . exact h3 x.1 (List.mem_map_of_mem hx) b (by simp) q
 . exact h2.1 (q ▸ List.mem_map_of_mem hx)
theorem Hq.alloc {k:Value->T OB->Nat->Q}(hz:bE P e=some l)(h:Hp nx0 H0 (s::F) H nx)(hk:∀b H' nx',Hp nx0 H0 (s::(b,l,e)::F) H' nx'->aT P pl X0 (k (ptr b) H' nx') nx0 H0 R):aT P pl X0 (ao (aA P H nx e) k) nx0 H0 R:=
 Wq.alloc hz h.ag λH' hb cA hA=>hk nx H' _ (h.new hb cA hA).swap
theorem Hq.box {u:Value}{k:Value->T OB->Nat->Q}(h:Hp nx0 H0 (s::F) H nx)(hk:∀b H' nx',Hp nx0 H0 (s::(b,u.cells.toList,e)::F) H' nx'->aT P pl X0 (k (ptr b) H' nx') nx0 H0 R):aT P pl X0 (ao (ja H nx e (some u)) k) nx0 H0 R:=
 Wq.box h.ag λH' hb cA hA=>hk nx H' _ (h.new hb cA hA).swap
theorem Hq.var {sz:Nat}{x:Value}{k:T OB->Nat->Q}(hz:bE P e=some l)(hs:a6 P t=some sz)(hl:l.length=sz)(hx:x.cells.toList.length=sz)(hone:x.cells.toList.all au=true)
 (h:Hp nx0 H0 F H nx) (hk:∀H' nx',Hp nx0 H0 F H' nx'->aT P pl X0 (k H' nx') nx0 H0 R):aT P pl X0 (ao (aA P H nx e) λp H nx=>dc P H nx t (some p) x k) nx0 H0 R:=
 Wq.Ka hz hs hl hx hone h.ag λH' nx' hA hn cA=>hk H' nx' (h.cA hA hn cA)
theorem Hq.call {f:FuncId}{args:List Value}{u:Value}{k p:Value->T OB->Nat->Q}(hp:P0 f args u)(h:Hp nx0 H0 F H nx)(hk:∀H' nx',Hp nx0 H0 F H' nx'->aT P pl X0 (k u H' nx') nx0 H0 R):aT P pl X0 (ak (.call f args false none H nx) k p) nx0 H0 R:=
 Wq.fj hp h.ag λH' nx' hA hn cA=>hk H' nx' (h.cA hA hn cA)
theorem Hq.po {f:FuncId}{args:List Value}{u:Value}{k p:Value->T OB->Nat->Q}(hp:PT f args u)(h:Hp nx0 H0 F H nx)(hk:∀H' nx',Hp nx0 H0 F H' nx'->aT P pl X0 (k u H' nx') nx0 H0 R):aT P pl X0 (ak (.call f args false none H nx) k p) nx0 H0 R:=by
 obtain⟨H1,aJ,h1,h2⟩:=hp H nx (h.sZ.ag h.ag);obtain⟨v,H2,nx2,h3,hR,h4⟩:=hk H1 aJ (h.cA (h.ag.trans h1) h1.1 λb l e hb hi=>hi.ag h1 hb);refine⟨v,H2,nx2,h3,hR,?_⟩;show aa (Go.Ev.F P pl X0 (.call f args false none H nx)) (λr=>(match r.o with | .ret v=>k v r.H r.nx | .eR v=>p v r.H r.nx:Q).run (Go.Ev.F P pl X0)) none=_;rw[h2];exact h4
theorem Hq.row {sz n:Nat}{vs:List (Nat×Value)}{z:List Value}{k:Value->T OB->Nat->Q}(hu:P.underlying t=some (.slice e))(hs:a6 P e=some sz)(hz:bE P e=some z)
 (hg:(Nat.ble (n*sz) 16777216&&Nat.blt 0 (n*sz)&&Nat.blt 0 z.length)=true) (hf:Instr.fill (λi=>some (i*sz,sz)) (bz z (n*sz)) vs=some ⟨l⟩) (h:Hp nx0 H0 (s::F) H nx)
 (hk:∀b H' nx',Hp nx0 H0 (s::(b,l,e)::F) H' nx'->aT P pl X0 (k (.slice (some ⟨b,0,none⟩) n n) H' nx') nx0 H0 R):aT P pl X0 (ao (aq P H nx t n (some vs)) k) nx0 H0 R:=
 Wq.row hu hs hz hg hf h.ag λH' hb cA hA=>hk nx H' _ (h.new hb cA hA).swap
theorem Hq.store (A:List Bx){off sz:Nat}{u:Value}{k:Value->T OB->Nat->Q}(h:Hp nx0 H0 (A++(b,l,e)::B) H nx)(hs:a6 P t=some sz)(hn:off+sz<=l.length)(hl:u.cells.toList.length=sz)(hone:u.cells.toList.all au=true)
 (hk:∀H',Hp nx0 H0 (A++(b,gk l u.cells.toList off,e)::B) H' nx->aT P pl X0 (k undef H' nx) nx0 H0 R):aT P pl X0 (ao (aj P H nx t (some (.pointer (some ⟨b,off,none⟩))) (some u)) k) nx0 H0 R:=by
 have hm:=h.all (b,l,e) (by simp);exact Wq.store hm.2.2 hs hn hl hone h.ag hm.1 λH' hb cA hA=>hk H' (h.lQ hb cA hA)
theorem Hq.put (A:List Bx){off:Nat}{u:Value}{l':List Value}{k:Value->T OB->Nat->Q}(h:Hp nx0 H0 (A++(b,l,e)::B) H nx)(hs:a6 P t=some 1)(hc:u.cells.toList=[u])(ho:au u=true)(hn:off<l.length)(hl:l.set off u=l')
 (hk:∀H',Hp nx0 H0 (A++(b,l',e)::B) H' nx->aT P pl X0 (k undef H' nx) nx0 H0 R):aT P pl X0 (ao (aj P H nx t (some (.pointer (some ⟨b,off,none⟩))) (some u)) k) nx0 H0 R:=by
 have hm:=h.all (b,l,e) (by simp);exact Wq.put hm.2.2 hs hc ho hn hl h.ag hm.1 λH' hb cA hA=>hk H' (h.lQ hb cA hA)
def bL (vs:List Value):List Value:=vs.flatMap λv=>v.cells.toList
def mg (a:Bool)(sz:Nat)(vs:List Value):Prop:=∀v∈vs,v.cells.toList.length=sz/\v.cells.toList.all au=true/\(if a then ∃cs,v= .agg ⟨cs⟩else sz=1/\v.cells.toList=[v])
theorem iF {a:Bool}{sz:Nat}:∀{vs:List Value},mg a sz vs->(bL vs).length=vs.length*sz
 | [],_=>by simp[bL]
 | v::vs,h=>by
   have ih:=iF (vs:=vs) λx hx=>h x (by simp[hx]);show(v.cells.toList++bL vs).length=_;rw[List.length_append,ih,(h v (by simp)).1,List.length_cons,Nat.add_mul];omega
theorem mg.chunk {a:Bool}{sz:Nat}{vs:List Value}(h:mg a sz vs):chunk a sz vs.length (bL vs)=some vs:=by
 cases a with
 | true=>
   have:∀vs:List Value,mg true sz vs->∃es:List (List Value),vs=es.map (λx=> .agg ⟨x⟩)/\(∀x∈es,x.length=sz)/\bL vs=es.flatten:=by
    intro vs
    induction vs with
    | nil=>exact λ_=>⟨[],rfl,by simp,rfl⟩
    | cons v vs ih=>
      intro h;obtain⟨es,e1,e2,e3⟩:=ih λx hx=>h x (by simp[hx]);obtain⟨h1,h2,h3⟩:=h v (by simp);rw[if_pos rfl]at h3;obtain⟨cs,rfl⟩:=h3;refine⟨cs::es,by rw[e1];rfl,λx hx=> ?_,?_⟩
      . rcases List.mem_cons.1 hx with rfl | hx
        . exact h1
        . exact e2 x hx
      . rw[List.flatten_cons,<- e3];rfl
   obtain⟨es,e1,e2,e3⟩:=this vs h;rw[e3,e1,List.length_map];exact o0 sz es e2
 | false=>
   have e:sz=1\/vs=[]:=by
    cases vs with
    | nil=>exact .inr rfl
    | cons v vs=>exact .inl (h v (by simp)).2.2.1
   have e2:bL vs=vs:=by
    clear e
    induction vs with
    | nil=>rfl
    | cons v vs ih=>
      show v.cells.toList++bL vs=_;rw[ih λx hx=>h x (by simp[hx]),(h v (by simp)).2.2.2];rfl
   rw[e2];rcases e with rfl | rfl
   . exact jq vs
   . rfl
theorem mg.cons {a:Bool}{sz:Nat}{v:Value}{vs:List Value}(h:mg a sz [v])(hs:mg a sz vs):mg a sz (vs++[v]):=λx hx=>by
 rcases List.mem_append.1 hx with hx | hx
 . exact hs x hx
 . exact h x hx
def Gw (a:Bool)(sz:Nat)(e:TypeId)(vs:List Value)(sl:Value)(G:List Bx):Prop:=mg a sz vs/\((vs=[]/\sl= .slice none 0 0/\G=[])\/∃b c,sl= .slice (some ⟨b,0,none⟩) vs.length c/\(c=dP\/c=vs.length)/\0<vs.length/\G=[(b,bL vs,e)])
theorem Gw.nil (a:Bool)(sz:Nat)(e:TypeId):Gw a sz e [] (.slice none 0 0) []:=⟨λv hv=>by simp at hv,.inl ⟨rfl,rfl,rfl⟩⟩
theorem Gw.one {a:Bool}{sz:Nat}{vs:List Value}{n:Nat}(h:mg a sz vs)(hn:vs.length=n)(h0:0<n):Gw a sz e vs (.slice (some ⟨b,0,none⟩) n n) [(b,bL vs,e)]:=⟨h,.inr ⟨b,n,by rw[hn],.inr hn.symm,by omega,rfl⟩⟩
theorem Hq.OC (A:List Bx){a:Bool}{sz:Nat}{vs:List Value}{sl:Value}{k:Value->T OB->Nat->Q}(hu:P.underlying t=some (.slice e))(hs:a6 P e=some sz)(ha:cP P e=some a)(hpos:(Nat.blt 0 sz&&(a||Nat.beq sz 1))=true)
 (hG:Gw a sz e vs sl G) (h:Hp nx0 H0 (A++(G++B)) H nx) (hk:∀H' nx',Hp nx0 H0 (A++B) H' nx'->aT P pl X0 (k (bc sz vs) H' nx') nx0 H0 R):aT P pl X0 (fH P t sl H nx k) nx0 H0 R:=by
 obtain⟨hE,⟨rfl,rfl,rfl⟩ | ⟨b,c,rfl,hc,h0,rfl⟩⟩:=hG
 . have e1:fH P t (.slice none 0 0) H nx k=k (bc sz []) H nx:=by
    unfold fH;rw[hu];show gz P t (.slice none 0 0) H nx k=_;unfold gz;rw[hu];show(bif Nat.beq 0 0&&Nat.beq 0 0 then aa (a6 P e) (λs=>k (bc s []) H nx) .bad else .bad)=_;rw[hs];rfl
   rw[e1];exact hk H nx h
 . have hm:=h.all (b,bL vs,e) (by simp);refine Wq.OC hu hs ha hpos hm.2.2 (iF hE) ?_ hE.chunk ?_ h.ag hm.1 λH' cA hA=>hk H' _ (h.kill cA hA (Nat.le_succ _))
   . rcases hc with rfl | rfl
     . rfl
     . rw[Nat.ble_eq_true_of_le (Nat.le_refl _),Bool.or_true]
   . rw[List.all_eq_true];intro v hv;obtain⟨_,h2,h3⟩:=hE v hv;cases a with
     | true=>rfl
     | false=>
       rw[if_neg (by simp)]at h3;rw[h3.2]at h2;simpa using h2
theorem Wq.PQ {e':TypeId}{sz n m:Nat}{x:Value}{xs:List Value}{k:Value->T OB->Nat->Q}(hu:P.underlying t=some (.slice e))(hs:a6 P e=some sz)(hb:cm H b l e')(hl:l.length=n*sz)(hx:isStr x=false)(hxs:kc H sz x=some (m,xs))(hm:0<m)(hn:n<dP)
 (hsm:bB P e sz (n+m)=true) (h:Ag nx0 H0 nx H)
 (hk:∀H',cm H' nx (l++xs) e->(∀c l e,c<nx->cm H c l e->cm H' c l e)->Ag nx0 H0 (nx+1) H'->aT P pl X0 (k (.slice (some ⟨nx,0,none⟩) (n+m) dP) H' (nx+1)) nx0 H0 R):
 aT P pl X0 (ao (bt P H nx [t,t] (some [.slice (some ⟨b,0,none⟩) n n,x])) k) nx0 H0 R:=by
 rw[jM hx];unfold cV;rw[hu];simp only[hs,aN,hxs,hsm,cond_true];obtain⟨tr,h1,h2⟩:=hb;have e1:pR P H nx e sz (some ⟨b,0,none⟩) n n m xs=gd H nx e (n+m) (l++xs):=by
  show tV P H nx e sz b 0 n n m xs=_;unfold tV;rw[h1];have eu:Nat.beq n dP=false:=by
   cases hq:Nat.beq n dP with
   | false=>rfl
   | true=>have:=Nat.eq_of_beq_eq_true hq;omega
  have ev:Nat.ble (n+m) n=false:=by
   cases hq:Nat.ble (n+m) n with
   | false=>rfl
   | true=>have:=Nat.le_of_ble_eq_true hq;omega
  simp only[dh,eu,ev,cond_false];unfold mw;have:mZ tr (n*sz) 0=some l:=by rw[<- hl,gC h2 _ _ (by omega)];simp
  rw[this,Nat.zero_add,hl,Nat.ble_eq_true_of_le (Nat.le_refl _)];have e0:Nat.blt 0 m=true:=Nat.ble_eq_true_of_le hm;rw[e0];rfl
 rw[e1,gi];exact Wq.new (q:=λH n'=>k (.slice (some ⟨nx,0,none⟩) (n+m) dP) H n') h λH' ha hb hc=>hk H' ha hb hc
theorem Gx:(1048576:Nat)<dP:=by decide +kernel
theorem Hq.add (A:List Bx){a:Bool}{sz:Nat}{v:Value}{vs:List Value}{sl:Value}{k:Value->T OB->Nat->Q}(hu:P.underlying t=some (.slice e))(hs:a6 P e=some sz)(hsm:bB P e sz (vs.length+1)=true)(hsmall:vs.length+1<=1048576)(hv:mg a sz [v])
 (hG:Gw a sz e vs sl G) (h:Hp nx0 H0 (s::(b,v.cells.toList,e)::(A++(G++B))) H nx)
 (hk:∀sl' G' H' nx',Gw a sz e (vs++[v]) sl' G'->Hp nx0 H0 (s::(A++(G'++B))) H' nx'->aT P pl X0 (k sl' H' nx') nx0 H0 R):
 aT P pl X0 (ao (bt P H nx [t,t] (some [sl,.slice (some ⟨b,0,none⟩) 1 1])) k) nx0 H0 R:=by
 have hv1:=(hv v (by simp)).1;have hxs:kc H sz (.slice (some ⟨b,0,none⟩) 1 1)=some (1,v.cells.toList):=oZ (h.at_ 1 rfl) (by rw[hv1,Nat.one_mul]);have hone:v.cells.toList.all au=true:=(hv v (by simp)).2.1;have hd:=h.lx;obtain⟨hE,hG⟩:=hG;have ecl:bL vs++v.cells.toList=bL (vs++[v]):=by simp[bL]
 have hnew:∀aJ,Gw a sz e (vs++[v]) (.slice (some ⟨aJ,0,none⟩) (vs.length+1) dP) [(aJ,bL (vs++[v]),e)]:=λaJ=>⟨hv.cons hE,.inr ⟨aJ,dP,by rw[List.length_append];rfl,.inl rfl,by simp,rfl⟩⟩;have ins:∀{H':T OB} {x:Bx},Hp nx0 H0 (x::s::(A++B)) H' (nx+1)->Hp nx0 H0 (s::(A++([x]++B))) H' (nx+1):=λh=>h.perm (by
  refine(List.Perm.swap _ _ _).trans (List.Perm.cons _ ?_);exact(List.perm_middle (l₁:=A) (l₂:=B)).symm)
 rcases hG with⟨rfl,rfl,rfl⟩ | ⟨b',c,rfl,hc,h0,rfl⟩
 . refine Wq.FK hu hs rfl hxs (by simpa using hsm) h.ag (λq=>by cases q) λH' _ hb cA hA=> ?_;have hb':cm H' nx (bL ([]++[v])) e:=by rw[<- ecl];simpa[bL]using hb
   exact hk _ _ _ _ (hnew nx) (ins (hd.new hb' cA hA))
 . have hcl:=iF hE;have hm:=h.all (b',bL vs,e) (by simp);rcases hc with rfl | rfl
   . refine Wq.app hu hs hm.2.2 hs hcl rfl hxs hone hsm h.ag hm.1 hm.2.1 λH' hb cA hA=> ?_;rw[ecl]at hb;have hk':Hp nx0 H0 (s::(A++B)) H nx:=hd.sub (by simp);have hne:∀x∈s::(A++B),x.1≠b':=by
      have hdd:=hd.s9;have:((s::A++(b',bL vs,e)::B).map Prod.fst).Nodup:=hdd;simp only[List.map_append,List.map_cons]at this;rw[List.nodup_append]at this;obtain⟨_,g2,g3⟩:=this;rw[List.nodup_cons]at g2;intro x hx q;rcases List.mem_append.1 (show x∈(s::A)++B from hx)with hx | hx
      . exact g3 x.1 (List.mem_map_of_mem (f:=Prod.fst) hx) b' (by simp) q
      . exact g2.1 (q ▸ List.mem_map_of_mem hx)
     refine hk _ _ _ _ (hnew nx) (ins ⟨h.sZ,hA,?_,λx hx=> ?_⟩)
     . rw[List.map_cons,List.nodup_cons];refine⟨λq=> ?_,hk'.s9⟩;obtain⟨y,hy,e⟩:=List.mem_map.1 q;have:=(hk'.all y hy).2.1;have e':y.1=nx:=e;omega
     . rcases List.mem_cons.1 hx with rfl | hx
       . exact⟨h.ag.1,Nat.lt_succ_self _,hb⟩
       . obtain⟨g1,g2,g3⟩:=hk'.all x hx;exact⟨g1,by omega,cA _ _ _ (hne x hx) g2 g3⟩
   . refine Wq.PQ hu hs hm.2.2 hcl rfl hxs (by decide) (by have:=Gx;omega) hsm h.ag λH' hb cA hA=> ?_;rw[ecl]at hb;have hk':Hp nx0 H0 (s::(A++B)) H nx:=hd.sub (by simp);exact hk _ _ _ _ (hnew nx) (ins (hk'.new hb cA hA))
end
section
variable {nx0 nx nx':Nat}{H0 H H':T OB}{F A B G G':List Bx}{s:Bx}{R:Go.Ev.Out->T OB->Nat->Prop}{b:Nat}{l:List Value}{e t:TypeId}
def cG (n:Nat)(t:TypeId)(v u:Value)(G:List Bx):Prop:=∀(d:Nat),n<=d->∀(nx0 nx:Nat) (H0 H:T OB) (s:Bx) (B:List Bx) (k:Value->T OB->Nat->Q) (R:Go.Ev.Out->T OB->Nat->Prop),Hp nx0 H0 (s::(G++B)) H nx->
 (∀H' nx',Hp nx0 H0 (s::B) H' nx'->aT P pl X0 (k u H' nx') nx0 H0 R)->aT P pl X0 (ij P d t v H nx k) nx0 H0 R
def ed (n:Nat)(offs:List (Nat×TypeId))(cs us:List Value)(G:List Bx):Prop:=∀(d:Nat),n<=d->∀(nx0 nx:Nat) (H0 H:T OB) (s:Bx) (B:List Bx) (k:List Value->T OB->Nat->Q) (R:Go.Ev.Out->T OB->Nat->Prop),Hp nx0 H0 (s::(G++B)) H nx->
 (∀H' nx',Hp nx0 H0 (s::B) H' nx'->aT P pl X0 (k us H' nx') nx0 H0 R)->aT P pl X0 (Bc (ij P d) offs cs H nx k) nx0 H0 R
def fC (n:Nat)(offs:List (Nat×TypeId))(v u:Value)(G:List Bx):Prop:=∀(d:Nat),n<=d->∀(nx0 nx:Nat) (H0 H:T OB) (s:Bx) (B:List Bx) (k:Value->T OB->Nat->Q) (R:Go.Ev.Out->T OB->Nat->Prop),Hp nx0 H0 (s::(G++B)) H nx->
 (∀H' nx',Hp nx0 H0 (s::B) H' nx'->aT P pl X0 (k u H' nx') nx0 H0 R)->aT P pl X0 (jd (ij P d) offs v H nx k) nx0 H0 R
def gX (n:Nat)(offs:List (Nat×TypeId))(vs us:List Value)(G:List Bx):Prop:=∀(d:Nat),n<=d->∀(nx0 nx:Nat) (H0 H:T OB) (s:Bx) (B:List Bx) (k:List Value->T OB->Nat->Q) (R:Go.Ev.Out->T OB->Nat->Prop),Hp nx0 H0 (s::(G++B)) H nx->
 (∀H' nx',Hp nx0 H0 (s::B) H' nx'->aT P pl X0 (k us H' nx') nx0 H0 R)->aT P pl X0 (je (jd (ij P d) offs) vs H nx k) nx0 H0 R
theorem cG.mono {n m:Nat}{v u:Value}(h:cG n t v u G)(hm:n<=m):cG m t v u G:=λd hd=>h d (by omega)
theorem fC.mono {n m:Nat}{offs:List (Nat×TypeId)}{v u:Value}(h:fC n offs v u G)(hm:n<=m):fC m offs v u G:=λd hd=>h d (by omega)
theorem ed.nil {n:Nat}{cs:List Value}:ed n [] cs cs []:=λd hd nx0 nx H0 H s B k R h hk=>hk H nx h
theorem ed.cons {n:Nat}{p:Nat×TypeId}{offs:List (Nat×TypeId)}{cs us:List Value}{v u:Value}(hc:cs[p.1]? = some v)(h1:cG n p.2 v u G)(h2:ed n offs (cs.set p.1 u) us G'):ed n (p::offs) cs us (G++G'):=λd hd nx0 nx H0 H s B k R h hk=>by
 show aT P pl X0 (aa cs[p.1]? (λv=>ij P d p.2 v H nx λv H nx=>Bc (ij P d) offs (cs.set p.1 v) H nx k) .bad) nx0 H0 R;rw[hc,aN];rw[List.append_assoc]at h;exact h1 d hd nx0 nx H0 H s (G'++B) _ R h λH' nx' h'=>h2 d hd nx0 nx' H0 H' s B k R h' hk
theorem fC.of {n:Nat}{offs:List (Nat×TypeId)}{cs us:List Value}(h:ed n offs cs us G):fC n offs (.agg ⟨cs⟩) (.agg ⟨us⟩) G:=λd hd nx0 nx H0 H s B k R h1 hk=>h d hd nx0 nx H0 H s B _ R h1 hk
theorem fC.aE {n:Nat}{offs:List (Nat×TypeId)}(a:ByteArray):fC n offs (.string a) (.string a) []:=λd hd nx0 nx H0 H s B k R h1 hk=>hk H nx h1
theorem gX.nil {n:Nat}{offs:List (Nat×TypeId)}:gX n offs [] [] []:=λd hd nx0 nx H0 H s B k R h hk=>hk H nx h
theorem gX.cons {n:Nat}{offs:List (Nat×TypeId)}{v u:Value}{vs us:List Value}(h1:fC n offs v u G)(h2:gX n offs vs us G'):gX n offs (v::vs) (u::us) (G++G'):=λd hd nx0 nx H0 H s B k R h hk=>by
 rw[List.append_assoc]at h;exact h1 d hd nx0 nx H0 H s (G'++B) _ R h λH' nx' h'=>h2 d hd nx0 nx' H0 H' s B _ R h' hk
theorem gX.id {n:Nat}{offs:List (Nat×TypeId)}:∀{vs:List Value},(∀v∈vs,fC n offs v v [])->gX n offs vs vs []
 | [],_=>gX.nil
 | v::vs,h=>gX.cons (h v (by simp)) (gX.id λx hx=>h x (by simp[hx]))
theorem s_ {d sz:Nat}{v:Value}{k:Value->T OB->Nat->Q}(hu:P.underlying t=some (.slice e)):ij P (d+1) t v H nx k=gz P t v H nx λu H nx=>bif tY v then fc u (λs es=>je (jd (ij P d) (di P 4 e)) es H nx λes H nx=>bif es.all λx=>Nat.beq x.cells.toList.length s then k (bc s es) H nx else .bad) .bad else k u H nx:=by
 show(gz P t v H nx λu H nx=>bif tY v then(match P.underlying t with | some (.slice e)=>fc u (λs es=>je (jd (ij P d) (di P 4 e)) es H nx λes H nx=>bif es.all λx=>Nat.beq x.cells.toList.length s then k (bc s es) H nx else .bad) .bad | _=>k u H nx)else k u H nx)=_;rw[hu]
theorem vq {sz:Nat}{k:Value->T OB->Nat->Q}(hu:P.underlying t=some (.slice e))(hs:a6 P e=some sz):gz P t (.slice none 0 0) H nx k=k (bc sz []) H nx:=by
 unfold gz;rw[hu];show(bif Nat.beq 0 0&&Nat.beq 0 0 then aa (a6 P e) (λs=>k (bc s []) H nx) .bad else .bad)=_;rw[hs];rfl
theorem vr {sz:Nat}{es:List Value}{k:Value->T OB->Nat->Q}(hu:P.underlying t=some (.slice e)):gz P t (bc sz es) H nx k=k (bc sz es) H nx:=by
 unfold gz;rw[hu];rfl
theorem cG.nil {sz:Nat}(hu:P.underlying t=some (.slice e))(hs:a6 P e=some sz):cG 0 t (.slice none 0 0) (bc sz []) []:=λd hd nx0 nx H0 H s B k R h hk=>by
 cases d with
 | zero=>
   show aT P pl X0 (gz P t (.slice none 0 0) H nx k) nx0 H0 R;rw[vq hu hs];exact hk H nx h
 | succ d=>
   rw[s_ (sz:=sz) hu,vq hu hs];exact hk H nx h
theorem cG.row {sz:Nat}{es:List Value}(hu:P.underlying t=some (.slice e)):cG 0 t (bc sz es) (bc sz es) []:=λd hd nx0 nx H0 H s B k R h hk=>by
 cases d with
 | zero=>
   show aT P pl X0 (gz P t (bc sz es) H nx k) nx0 H0 R;rw[vr hu];exact hk H nx h
 | succ d=>
   rw[s_ (sz:=sz) hu,vr hu];exact hk H nx h
theorem cG.dF {a:Bool}{sz n c:Nat}{vs us:List Value}{offs:List (Nat×TypeId)}(hu:P.underlying t=some (.slice e))(hs:a6 P e=some sz)(ha:cP P e=some a)(hpos:(Nat.blt 0 sz&&(a||Nat.beq sz 1))=true)(ho:di P 4 e=offs)(hE:mg a sz vs)(hc:c=dP\/c=vs.length)(h0:0<vs.length)
 (hL:gX n offs vs us G) (hus:∀u∈us,u.cells.toList.length=sz):cG (n+1) t (.slice (some ⟨b,0,none⟩) vs.length c) (bc sz us) ((b,bL vs,e)::G):=λd hd nx0 nx H0 H s B k R h hk=>by
 cases d with
 | zero=>omega
 | succ d=>
   rw[s_ (sz:=sz) hu,J_ hu];refine Hq.OC [s] (B:=G++B) hu hs ha hpos (G:=[(b,bL vs,e)]) ⟨hE,.inr ⟨b,c,rfl,hc,h0,rfl⟩⟩ h λH' nx' h'=> ?_;show aT P pl X0 (je (jd (ij P d) (di P 4 e)) vs H' nx' λes H nx=>bif es.all λx=>Nat.beq x.cells.toList.length sz then k (bc sz es) H nx else .bad) nx0 H0 R;rw[ho];refine hL d (by omega) nx0 nx' H0 H' s B _ R h' λH2 nx2 h2=> ?_;have e:(us.all λx=>Nat.beq x.cells.toList.length sz)=true:=by
    rw[List.all_eq_true];intro x hx;rw[hus x hx,Nat.beq_refl]
   rw[e];exact hk H2 nx2 h2
theorem cG.gw {a:Bool}{sz n:Nat}{vs us:List Value}{sl:Value}{offs:List (Nat×TypeId)}(hu:P.underlying t=some (.slice e))(hs:a6 P e=some sz)(ha:cP P e=some a)(hpos:(Nat.blt 0 sz&&(a||Nat.beq sz 1))=true)(ho:di P 4 e=offs)(hG:Gw a sz e vs sl G)
 (hL:gX n offs vs us []) (hus:∀u∈us,u.cells.toList.length=sz) (h0:vs=[]->us=[]):cG (n+1) t sl (bc sz us) G:=by
 obtain⟨hE,⟨rfl,rfl,rfl⟩ | ⟨b,c,rfl,hc,h1,rfl⟩⟩:=hG
 . rw[h0 rfl];exact(cG.nil hu hs).mono (Nat.zero_le _)
 . exact cG.dF hu hs ha hpos ho hE hc h1 hL hus
theorem Hp.mv (A:List Bx){x:Bx}(h:Hp nx0 H0 (s::(A++x::B)) H nx):Hp nx0 H0 (s::x::(A++B)) H nx:=h.perm (List.Perm.cons _ List.perm_middle)
theorem qS {l c:List Value}(h:c.length=l.length):gk l c 0=c:=by
 unfold gk;simp[h]
theorem Hq.fin {n sz:Nat}{cs:List Value}{u:Value}{offs:List (Nat×TypeId)}{k:Value->T OB->Nat->Q}(h:Hp nx0 H0 (s::(b,l,e)::(G++B)) H nx)(hs:a6 P t=some sz)(hag:cP P t=some true)(ho:di P 4 t=offs)(hl:l.length=sz)(hc:cs.length=sz)(h1:cs.all au=true)
 (hz:fC n offs (.agg ⟨cs⟩) u G) (hn:n<=100000) (hk:∀H' nx',Hp nx0 H0 (s::B) H' nx'->aT P pl X0 (k u H' nx') nx0 H0 R):
 aT P pl X0 (ao (aj P H nx t (some (.pointer (some ⟨b,0,none⟩))) (some (.agg ⟨cs⟩))) λ_ H nx=>aa (ae P H t (some (.pointer (some ⟨b,0,none⟩)))) (λx=>bG P t x H nx k) .bad) nx0 H0 R:=by
 refine Hq.store [s] h hs (by omega) hc h1 λH' h'=> ?_;rw[show gk l (Value.agg ⟨cs⟩).cells.toList 0=cs from qS (by show cs.length=_;omega)]at h';have hb:cm H' b cs e:=h'.at_ 1 rfl;rw[cq hb hag hs (by omega)];have e2:((cs.drop 0).take sz)=cs:=by rw[List.drop_zero,<- hc,List.take_length]
 rw[e2,aN];unfold bG;show aT P pl X0 (jd (ij P 100000) (di P 4 t) (.agg ⟨cs⟩) H' nx k) nx0 H0 R;rw[ho];exact hz 100000 hn nx0 nx H0 H' s B k R (Hp.lx h') hk
theorem eN:di P 4 44=[(3,41),(4,42),(5,24)]:=by kernel_rfl
theorem gq:di P 4 47=[(3,42)]:=by kernel_rfl
theorem mh:di P 4 138=[(2,53)]:=by kernel_rfl
theorem Eb:di P 4 55=[(1,53)]:=by kernel_rfl
theorem Jb:di P 4 65=[(1,42),(5,41),(6,42),(7,24)]:=by kernel_rfl
theorem mO:di P 4 57=[(4,42),(8,41),(9,42),(10,24),(11,48),(12,49),(14,50),(16,53)]:=by kernel_rfl
theorem PU:di P 4 9=[]:=by kernel_rfl
end
section
inductive gL (α:Type) where
 | ok (a:α) (k:Nat)
 | bad (at_:Int)
abbrev PR (α:Type):=Option (gL α)
def bd {α β:Type}(x:PR α)(f:α->Nat->PR β):PR β:=match x with
 | none=>none
 | some (.bad a)=>some (.bad a)
 | some (.ok a k)=>f a k
theorem Az {α β:Type}{a:α}{k:Nat}{f:α->Nat->PR β}:bd (some (.ok a k)) f=f a k:=rfl
theorem ta {α β:Type}{a:Int}{f:α->Nat->PR β}:bd (some (.bad a)) f=some (.bad a):=rfl
variable (L:List Tok)
def tk (k:Nat):Tok:=(L[k]?).getD ⟨0,[],0,0⟩
def j_ (k:Nat):Bool:=decide ((tk L k).k=7)||decide ((tk L k).k=6)
def cO (k:Nat)(s:List UInt8):Bool:=j_ L k&&decide ((tk L k).s=s)
def gY {α:Type}(k:Nat):PR α:=some (.bad (tk L k).at_)
def yes {α:Type}(a:α)(k:Nat):PR α:=some (.ok a k)
def bl {α:Type}(s:List UInt8)(k:Nat)(f:Nat->PR α):PR α:=if cO L k s=true then f (k+1)else gY L k
def b_ {α:Type}(c:Int)(k:Nat)(f:Tok->Nat->PR α):PR α:=if(tk L k).k=c then f (tk L k) (k+1)else gY L k
def skip (s:List UInt8)(k:Nat):Nat:=if cO L k s=true then k+1 else k
def iG (lvl k:Nat):Bool:=j_ L k&&((bn[lvl]?).getD []).contains (tk L k).s
def unOp (k:Nat):Bool:=j_ L k&&fM.contains (tk L k).s
def pB (k:Nat):Bool:=decide ((tk L k).k=1)||(decide ((tk L k).k=2)||(decide ((tk L k).k=3)||decide ((tk L k).k=4)))
def ly (k:Nat):Bool:=pB L k||(cO L k [40]||cO L k [108,101,116])
def jX (k:Nat):Bool:=pB L k||(cO L k [40]||(cO L k [95]||cO L k [126]))
def fk (k:Nat):Bool:=decide ((tk L k).k=3)||cO L k [114,101,102]
def aQ.add:aQ->aQ->aQ
 | .mk k n s l p d,b=> .mk k n s (l++[b]) p d
def aQ.iR:aQ->bg->aQ->aQ
 | .mk k n s l p d,q,b=> .mk k n s (l++[b]) (p++[q]) d
abbrev two (op:List UInt8)(a b:aQ):aQ:= .mk 14 0 op [a,b] [] []
abbrev lz:aQ:= .mk 0 0 [] [] [] []
abbrev kC:bg:= .mk 0 0 [] []
abbrev gr:Data:=⟨[],[],[]⟩
abbrev kD:dp:=⟨[],[]⟩
abbrev w7:ba:= .mk 0 kC lz [] gr kD
abbrev AA (a b:bg):bg:= .mk 6 0 [58,58] [.mk 5 0 [] [a,b]]
structure PS where
 exp:Nat->PR aQ
 g_:aQ->Nat->PR aQ
 bin:Nat->Nat->PR aQ
 gE:Nat->aQ->Nat->PR aQ
 un:Nat->PR aQ
 gF:aQ->Nat->PR aQ
 atom:Nat->PR aQ
 dQ:List UInt8->aQ->Nat->PR aQ
 lt:Nat->PR aQ
 f_:List ba->Nat->PR (List ba)
 pat:Nat->PR bg
 bQ:Nat->PR bg
 gG:List bg->Nat->PR (List bg)
 fu:Nat->PR bj
 ee:List bj->Nat->PR (List bj)
 post:Nat->PR bj
 p7:List bj->Nat->PR (List bj)
 dm:bj->Nat->PR bj
 fY:Nat->PR dp
 bind:Nat->PR (Option ba)
 gH:List Fn->Nat->PR (List Fn)
 fn:Nat->PR Fn
 p8:List bg->Nat->PR (List bg)
 dec:Nat->PR (Option ba)
 data:Nat->PR Data
 fP:List (List UInt8)->Nat->PR (List (List UInt8))
 gI:List dp->Nat->PR (List dp)
 bX:List ba->Nat->PR (List ba)
def PS.none:PS:=⟨λ_=> .none,λ_ _=> .none,λ_ _=> .none,λ_ _ _=> .none,λ_=> .none,λ_ _=> .none,λ_=> .none,λ_ _ _=> .none,λ_=> .none,λ_ _=> .none,λ_=> .none,λ_=> .none,λ_ _=> .none,λ_=> .none,λ_ _=> .none,λ_=> .none,λ_ _=> .none,λ_ _=> .none,
 λ_=> .none,λ_=> .none,λ_ _=> .none,λ_=> .none,λ_ _=> .none,λ_=> .none,λ_=> .none,λ_ _=> .none,λ_ _=> .none,λ_ _=> .none⟩
variable (p:PS)
def vt (e:aQ)(k:Nat):PR aQ:=bd (p.pat k) λq k=>bl L [61,62] k λk=>bd (p.exp k) λx k=>if cO L k [124]=true then p.g_ (e.iR q x) (k+1)else yes (e.iR q x) k
def vu (k:Nat):PR aQ:=
 if cO L k [105,102]=true then bd (p.exp (k+1)) λa k=>bl L [116,104,101,110] k λk=>bd (p.exp k) λb k=>bl L [101,108,115,101] k λk=>bd (p.exp k) λc k=>yes (.mk 8 0 [] [a,b,c] [] []) k
 else if cO L k [99,97,115,101]=true then bd (p.exp (k+1)) λa k=>bl L [111,102] k λk=>p.g_ (.mk 9 0 [] [a] [] []) k
 else if cO L k [102,110]=true then p.g_ (.mk 7 0 [] [] [] []) (k+1)
 else if cO L k [114,97,105,115,101]=true then bd (p.exp (k+1)) λa k=>yes (.mk 11 0 [] [a] [] []) k
 else bd (p.bin 0 k) λa k=>if cO L k [104,97,110,100,108,101]=true then p.g_ (.mk 12 0 [] [a] [] []) (k+1)else yes a k
def tb (lvl:Nat)(a:aQ)(k:Nat):PR aQ:=
 if iG L lvl k=true then(if lvl=2\/lvl=4 then bd (p.bin lvl (k+1)) λb k'=>yes (two (tk L k).s a b) k' else bd (p.bin (lvl+1) (k+1)) λb k'=>p.gE lvl (two (tk L k).s a b) k')else yes a k
def vw (lvl k:Nat):PR aQ:=if lvl=7 then p.un k else bd (p.bin (lvl+1) k) λa k=>tb L p lvl a k
def tc (a:aQ)(k:Nat):PR aQ:=if ly L k=true then bd (p.atom k) λb k=>p.gF (.mk 6 0 [] [a,b] [] []) k else yes a k
def Jc (k:Nat):PR aQ:=if unOp L k=true then bd (p.un (k+1)) λa k'=>yes (.mk 15 0 (tk L k).s [a] [] []) k' else bd (p.atom k) λa k=>tc L p a k
def jy (s:List UInt8)(e:aQ)(k:Nat):PR aQ:=if cO L k s=true then bd (p.exp (k+1)) λb k=>p.dQ s (e.add b) k else yes e k
def mP (k:Nat):PR aQ:=
 if(tk L k).k=1 then yes (.mk 1 (tk L k).n [] [] [] []) (k+1)
 else if(tk L k).k=2 then yes (.mk 2 0 (tk L k).s [] [] []) (k+1)
 else if(tk L k).k=3 then yes (.mk 3 0 (tk L k).s [] [] []) (k+1)
 else if(tk L k).k=4 then yes (.mk 4 0 (tk L k).s [] [] []) (k+1)
 else if cO L k [108,101,116]=true then p.lt (k+1)
 else bl L [40] k λk=>if cO L k [41]=true then yes (.mk 5 0 [] [] [] []) (k+1)else bd (p.exp k) λa k=>
  if cO L k [44]=true then bd (jy L p [44] (.mk 5 0 [] [a] [] []) k) λe k=>bl L [41] k λk=>yes e k
  else if cO L k [59]=true then bd (jy L p [59] (.mk 13 0 [] [a] [] []) k) λe k=>bl L [41] k λk=>yes e k
  else bl L [41] k λk=>yes a k
def td (ds:List ba)(k:Nat):PR (List ba):=if cO L k [105,110]=true then yes ds (k+1)else bd (p.bind k) λd k=>match d with
 | some d=>p.f_ (ds++[d]) (skip L [59] k)
 | none=>gY L k
def Jd (k:Nat):PR aQ:=bd (td L p [] k) λds k=>bd (p.exp k) λa k=>
 if cO L k [59]=true then bd (jy L p [59] (.mk 13 0 [] [a] [] []) k) λa k=>bl L [101,110,100] k λk=>yes (.mk 10 0 [] [a] [] ds) k
 else bl L [101,110,100] k λk=>yes (.mk 10 0 [] [a] [] ds) k
def w8 (k:Nat):PR bg:=if(tk L k).k=4 then(if jX L (k+1)=true then bd (p.bQ (k+1)) λb k'=>yes (.mk 6 0 (tk L k).s [b]) k' else yes (.mk 6 0 (tk L k).s []) (k+1))else p.bQ k
def vx (k:Nat):PR bg:=bd (w8 L p k) λa k=>if cO L k [58,58]=true then bd (p.pat (k+1)) λb k=>yes (AA a b) k else yes a k
def lA (l:List bg)(k:Nat):PR (List bg):=if cO L k [44]=true then bd (p.pat (k+1)) λb k=>p.gG (l++[b]) k else yes l k
def jz (k:Nat):PR bg:=
 if(tk L k).k=1 then yes (.mk 3 (tk L k).n [] []) (k+1)
 else if(tk L k).k=2 then yes (.mk 4 0 (tk L k).s []) (k+1)
 else if(tk L k).k=3 then yes (.mk 2 0 (tk L k).s []) (k+1)
 else if(tk L k).k=4 then yes (.mk 6 0 (tk L k).s []) (k+1)
 else if cO L k [95]=true then yes (.mk 1 0 [] []) (k+1)
 else if cO L k [126]=true then b_ L 1 (k+1) λt k=>yes (.mk 3 (IntKind.i64.wrap (-t.n)) [] []) k
 else bl L [40] k λk=>if cO L k [41]=true then yes (.mk 5 0 [] []) (k+1)else bd (p.pat k) λa k=>
  if cO L k [44]=true then bd (lA L p [a] k) λl k=>bl L [41] k λk=>yes (.mk 5 0 [] l) k else bl L [41] k λk=>yes a k
def lB (l:List bj)(k:Nat):PR (List bj):=if cO L k [42]=true then bd (p.post (k+1)) λb k=>p.ee (l++[b]) k else yes l k
def pC (k:Nat):PR bj:=bd (p.post k) λa k=>if cO L k [42]=true then bd (lB L p [a] k) λl k=>yes (.mk 4 [] l) k else yes a k
def vy (k:Nat):PR bj:=bd (pC L p k) λa k=>if cO L k [45,62]=true then bd (p.fu (k+1)) λb k=>yes (.mk 3 [] [a,b]) k else yes a k
def m6 (l:List bj)(k:Nat):PR (List bj):=if cO L k [44]=true then bd (p.fu (k+1)) λb k=>p.p7 (l++[b]) k else yes l k
def jA (a:bj)(k:Nat):PR bj:=if fk L k=true then p.dm (.mk 2 (tk L k).s [a]) (k+1)else yes a k
def pD (k:Nat):PR bj:=
 if(tk L k).k=5 then yes (.mk 1 (tk L k).s []) (k+1)
 else if fk L k=true then yes (.mk 2 (tk L k).s []) (k+1)
 else bl L [40] k λk=>bd (p.fu k) λa k=>
  if cO L k [44]=true then bd (m6 L p [a] k) λl k=>bl L [41] k λk=>if fk L k=true then yes (.mk 2 (tk L k).s l) (k+1)else gY L k
  else bl L [41] k λk=>yes a k
def mQ (k:Nat):PR bj:=bd (pD L p k) λa k=>jA L p a k
def vz (k:Nat):PR dp:=b_ L 4 k λt k=>if cO L k [111,102]=true then bd (p.fu (k+1)) λa k=>yes ⟨t.s,[a]⟩ k else yes ⟨t.s,[]⟩ k
def te (l:List Fn)(k:Nat):PR (List Fn):=if cO L k [97,110,100]=true then bd (p.fn (k+1)) λf k=>p.gH (l++[f]) k else yes l k
def mR (k:Nat):PR (Option ba):=
 if cO L k [118,97,108]=true then bd (p.pat (k+1)) λa k=>bl L [61] k λk=>bd (p.exp k) λe k=>yes (some (.mk 1 a e [] gr kD)) k
 else if cO L k [102,117,110]=true then bd (p.fn (k+1)) λf k=>bd (te L p [f] k) λl k=>yes (some (.mk 2 kC lz l gr kD)) k
 else yes none k
def tg (l:List bg)(k:Nat):PR (List bg):=if jX L k=true then bd (p.bQ k) λq k=>p.p8 (l++[q]) k else yes l k
def Je (k:Nat):PR Fn:=b_ L 3 k λt k=>bd (p.bQ k) λq k=>bd (tg L p [q] k) λl k=>bl L [61] k λk=>bd (p.exp k) λe k=>yes (.mk t.s l e) k
def mi (l:List (List UInt8))(k:Nat):PR (List (List UInt8)):=if cO L k [44]=true then b_ L 5 (k+1) λt k=>p.fP (l++[t.s]) k else yes l k
def gu (l:List dp)(k:Nat):PR (List dp):=if cO L k [124]=true then bd (p.fY (k+1)) λc k=>p.gI (l++[c]) k else yes l k
def pE (k:Nat):PR (List (List UInt8)):=
 if(tk L k).k=5 then yes [(tk L k).s] (k+1)
 else if cO L k [40]=true then b_ L 5 (k+1) λt k=>bd (mi L p [t.s] k) λl k=>bl L [41] k λk=>yes l k
 else yes [] k
def mS (k:Nat):PR Data:=bd (pE L p k) λvs k=>b_ L 3 k λt k=>bl L [61] k λk=>bd (p.fY k) λc k=>bd (gu L p [c] k) λl k=>yes ⟨vs,t.s,l⟩ k
def vA (k:Nat):PR (Option ba):=
 if cO L k [100,97,116,97,116,121,112,101]=true then bd (p.data (k+1)) λx k=>yes (some (.mk 3 kC lz [] x kD)) k
 else if cO L k [101,120,99,101,112,116,105,111,110]=true then bd (p.fY (k+1)) λc k=>yes (some (.mk 4 kC lz [] gr c)) k
 else p.bind k
abbrev Gy (e:aQ):ba:= .mk 5 kC e [] gr kD
def mT (ds:List ba)(k:Nat):PR (List ba):=
 if(tk L k).k=0 then yes ds k else bd (p.dec k) λd k=>match d with
  | some d=>p.bX (ds++[d]) (skip L [59] k)
  | none=>bd (p.exp k) λe k=>p.bX (ds++[Gy e]) (skip L [59] k)
def th:PS where
 exp:=vu L p
 g_:=vt L p
 bin:=vw L p
 gE:=tb L p
 un:=Jc L p
 gF:=tc L p
 atom:=mP L p
 dQ:=jy L p
 lt:=Jd L p
 f_:=td L p
 pat:=vx L p
 bQ:=jz L p
 gG:=lA L p
 fu:=vy L p
 ee:=lB L p
 post:=mQ L p
 p7:=m6 L p
 dm:=jA L p
 fY:=vz L p
 bind:=mR L p
 gH:=te L p
 fn:=Je L p
 p8:=tg L p
 dec:=vA L p
 data:=mS L p
 fP:=mi L p
 gI:=gu L p
 bX:=mT L p
def ps:Nat->PS
 | 0=>PS.none
 | n+1=>th L (ps n)
end
section
variable {nx0:Nat}{H0:T OB}
variable {fr:Nat->List Value->TypeId->Prop}{bp:Nat}{l0:List Tok}{b0:Bool}{ok:Bool}{ts:List Tok}{n nx:Nat}{H:T OB}{R:Value->T OB->Nat->Prop}
abbrev Rh (s:List UInt8):Tok:=⟨7,s,0,0⟩
theorem PV (f:FuncId)(k:Int)(s:List UInt8)(hf:X0 f [aE s]=none)(hq:∀H nx,a4 P pl (.call f [aE s] false none H nx)=ao (aA P H nx 31) (λx0 H nx=>aa (aC P 31 (some [(0,i64 k),(1,aE s)])) (λx1=>ao (aj P H nx 31 (some x0) (some x1)) (λx2 H nx=>aa (ae P H 31 (some x0)) (λx3=> .ret ⟨.ret x3,false,H,nx⟩) .bad)) .bad)):
 P0 f [aE s] (Tok.v ⟨k,s,0,0⟩):=Pure.of hf λH nx=>by
 rw[hq];refine Wq.alloc bR (.refl _ _) λH1 hb _ hA1=> ?_;simp only[af,lu];refine Wq.store hb ch (by simp) rfl rfl hA1 (by omega) λH2 hb _ hA2=> ?_;have hb':cm H2 nx (Tok.c ⟨k,s,0,0⟩) 31:=hb;rw[cq hb' l7 ch (by simp)];exact Wq.ret hA2
theorem K5 (l:List (List UInt8))(hl:l.length<cY)(s:List UInt8):∀(r:List (List UInt8)) (i:Nat) (H:T OB) (nx:Nat),l.drop i=r->i<=l.length->Ag nx0 H0 nx H->Wq P pl X0 (.jump (ph (aE s) (gn l) (i64 (l.length:Int)) (i64 (i:Int)) H nx)) nx0 H0 (.bool (r.contains s)):=by
 intro r
 induction r with
 | nil=>
   intro i H nx hd hi hA;have hil:=drop_nil hd hi;refine Wq.jmp (sK ..) (λ_=>rfl) ?_;simp only[af,cj,List.length_map,hil,aV];exact Wq.ret hA
 | cons x r ih=>
   intro i H nx hd hi hA;obtain⟨hg,hlt,hd'⟩:=drop_cons hd;have hg':(l.map aE)[i]? = some (aE x):=by simp[hg]
   refine Wq.jmp (sK ..) (λ_=>rfl) ?_;simp only[af,cj,List.length_map,aU hlt,IG hg',e_,aL (show i<9223372036854775807 by have:=db hl;omega)];refine Wq.ite (λh=> ?_) (λh=> ?_)
   . exact Wq.iE (by subst h;simp) hA
   . have:((x::r).contains s)=r.contains s:=by rw[List.contains_cons,show(s == x)=false from by simp;exact λq=>h q.symm,Bool.false_or]
     rw[this];exact ih (i+1) H nx hd' (by omega) hA
theorem K6 (l:List (List UInt8))(hl:l.length<cY)(s:List UInt8):P0 153 [gn l,aE s] (.bool (l.contains s)):=Pure.of rfl λH nx=>by
 rw[MN];simp only[af,cj,List.length_map];exact K5 l hl s l 0 H nx rfl (Nat.zero_le _) (.refl _ _)
theorem Gz (b:Nat)(l:List (List UInt8))(s:List UInt8)(hb:lp H0 b (l.map aE))(hbx:b<nx0)(hl:l.length<1000000)(cp:Nat):∀(r:List (List UInt8)) (i:Nat) (H:T OB) (nx:Nat),l.drop i=r->i<=l.length->Ag nx0 H0 nx H->
 Wq P pl X0 (.jump (ph (aE s) (.slice (some ⟨b,0,none⟩) l.length cp) (i64 (l.length:Int)) (i64 (i:Int)) H nx)) nx0 H0 (.bool (r.contains s)):=by
 intro r
 induction r with
 | nil=>
   intro i H nx hd hi hA;have hil:=drop_nil hd hi;refine Wq.jmp (sK ..) (λ_=>rfl) ?_;simp only[af,hil,aV];exact Wq.ret hA
 | cons x r ih=>
   intro i H nx hd hi hA;obtain⟨hg,hlt,hd'⟩:=drop_cons hd;have hg':(l.map aE)[0+i*1]? = some (aE x):=by simp[hg]
   refine Wq.jmp (sK ..) (λ_=>rfl) ?_;simp only[af,aU hlt,CU hlt,mf (hb.ag hA hbx) mK hg',aL (show i<9223372036854775807 by omega),e_];refine Wq.ite (λh=> ?_) (λh=> ?_)
   . exact Wq.iE (by subst h;simp) hA
   . have:((x::r).contains s)=r.contains s:=by rw[List.contains_cons,show(s == x)=false from by simp;exact λq=>h q.symm,Bool.false_or]
     rw[this];exact ih (i+1) H nx hd' (by omega) hA
theorem K7 (H:T OB):bm P H 188 (some (.pointer (some ⟨3,0,none⟩))) (some none) (some none) (some none)=some (.slice (some ⟨3,0,none⟩) 8 8):=jw (len:=8) (e:=9) (by kernel_rfl) iC (by omega) (by omega)
theorem GA (s:List UInt8):PT 153 [.slice (some ⟨3,0,none⟩) 8 8,aE s] (.bool (fM.contains s)):=PT.of rfl λH nx hT=>by
 rw[MN];simp only[af];exact Gz 3 fM s hT.words (by have:=hT.1;omega) (by decide) 8 fM 0 H nx rfl (Nat.zero_le _) (.refl _ _)
theorem w9 {b s:Nat}{l:List Value}{t:TypeId}{H:T OB}(h:lp H b l)(ha:cP P t=some true)(hs:a6 P t=some s)(hl:l.length=s):ae P H t (some (.pointer (some ⟨b,0,none⟩)))=some (.agg ⟨l⟩):=by
 obtain⟨tr,h1,h2⟩:=h;show iM P H t b 0=_;unfold iM;rw[h1];show iW P l.length tr t 0=_;unfold iW;rw[ha,aN];show nP P l.length tr t 0=_;unfold nP;rw[hs,aN,gC h2 s 0 (by omega),Nat.ble_eq_true_of_le (show 0+s<=l.length by omega)];simp[<- hl]
end
section
variable {nx0 nx nx' bp k:Nat}{H0 H H':T OB}{F A B G G':List Bx}{s:Bx}{R:Go.Ev.Out->T OB->Nat->Prop}{b:Nat}{l:List Value}{e t:TypeId}{L:List Tok}
abbrev fQ (L:List Tok):Value:=bc 4 (L.map Tok.v)
abbrev ca (bp:Nat)(L:List Tok)(k:Nat):Bx:=(bp,[fQ L,i64 (k:Int)],73)
theorem Sq.jB {f:FuncId}{args:List Value}{u:Value}{kt p:Value->T OB->Nat->Q}{F':List Bx}(hx:X0 f args=none)(h:aT P pl X0 (a4 P pl (.call f args false none H nx)) nx0 H0 (λo H nx=>o= .ret u/\Hp nx0 H0 F' H nx))
 (hk:∀H' nx',Hp nx0 H0 F' H' nx'->aT P pl X0 (kt u H' nx') nx0 H0 R):aT P pl X0 (ak (.call f args false none H nx) kt p) nx0 H0 R:=
 Wq.fi hx h (λv H' nx' _ q=>by
  obtain⟨q1,q2⟩:=q;cases q1;exact hk H' nx' q2) (λv H' nx' _ q=>by cases q.1)
theorem iS {u:Value}{F':List Bx}(h:Hp nx0 H0 F' H nx):aT P pl X0 (.ret ⟨.ret u,false,H,nx⟩) nx0 H0 (λo H nx=>o= .ret u/\Hp nx0 H0 F' H nx):=Wq.kr h.ag ⟨rfl,h⟩
theorem qT {u v:Value}{F':List Bx}(e:u=v)(h:Hp nx0 H0 F' H nx):aT P pl X0 (.ret ⟨.ret u,false,H,nx⟩) nx0 H0 (λo H nx=>o= .ret v/\Hp nx0 H0 F' H nx):=by subst e;exact iS h
theorem eV {L:List Tok}{k:Nat}(h:(tk L k).k≠0):k<L.length:=by
 unfold tk at h;cases hk:L[k]? with
 | none=>rw[hk]at h;exact absurd rfl h
 | some t=>exact(List.getElem?_eq_some_iff.1 hk).1
theorem jC {L:List Tok}{k:Nat}{w:List UInt8}(h:cO L k w=true):k<L.length:=by
 refine eV λq=> ?_;unfold cO j_ at h;rw[q]at h;simp at h
theorem pk (h:Hp nx0 H0 (ca bp L k::F) H nx):ae P H 3 (some (.pointer (some ⟨bp,1,none⟩)))=some (i64 (k:Int)):=ax (h.at_ 0 rfl) mJ rfl
theorem Ri (h:Hp nx0 H0 (ca bp L k::F) H nx):ae P H 29 (some (.pointer (some ⟨bp,0,none⟩)))=some (fQ L):=ax (h.at_ 0 rfl) Kc rfl
theorem BI {c0 c1 c2 c3:Value}(h:cm H b [c0,c1,c2,c3] 31):ae P H 31 (some (.pointer (some ⟨b,0,none⟩)))=some (.agg ⟨[c0,c1,c2,c3]⟩):=by
 rw[cq h l7 ch (by simp)];rfl
theorem M5 (h:Hp nx0 H0 (ca bp L k::F) H nx):aT P pl X0 (a4 P pl (.call 59 [ptr bp] false none H nx)) nx0 H0 (λo H nx=>o= .ret (tk L k).v/\Hp nx0 H0 (ca bp L k::F) H nx):=by
 rw[Q3];refine Hq.alloc bR h λx0 H1 aJ h1=> ?_;simp only[af,pk h1,Ri h1,List.length_map];refine Wq.ite (λhlt=> ?_) (λhge=> ?_)
 . have hlt':k<L.length:=by omega
   have hg:L[k]? = some L[k]:=List.getElem?_eq_getElem hlt';have hx:(L.map Tok.v)[k]? = some L[k].v:=by simp[hg]
   simp only[af,zz hx];refine Hq.store [ca bp L k] h1 ch (by simp) rfl rfl λH2 h2=> ?_;simp only[af,BI (h2.at_ 1 rfl)];refine qT ?_ h2.lx;show _=(tk L k).v;unfold tk;rw[hg];rfl
 . refine Hq.store [ca bp L k] h1 ch (by simp) rfl rfl λH2 h2=> ?_;simp only[af,BI (h2.at_ 1 rfl)];refine qT ?_ h2.lx;show _=(tk L k).v;unfold tk;rw[List.getElem?_eq_none (by omega)];rfl
theorem Sq.now {kt p:Value->T OB->Nat->Q}(h:Hp nx0 H0 (ca bp L k::F) H nx)(hk:∀H' nx',Hp nx0 H0 (ca bp L k::F) H' nx'->aT P pl X0 (kt (tk L k).v H' nx') nx0 H0 R):aT P pl X0 (ak (.call 59 [ptr bp] false none H nx) kt p) nx0 H0 R:=Sq.jB rfl (M5 h) hk
theorem Sq.GB {kt:T OB->Nat->Q}(h:Hp nx0 H0 F H nx)(hk:∀H' nx',Hp nx0 H0 F H' nx'->aT P pl X0 (kt H' nx') nx0 H0 R):aT P pl X0 (ao (aA P H nx 31) λp H nx=>dc P H nx 31 (some p) (tk L k).v kt) nx0 H0 R:=Hq.var bR ch rfl rfl rfl h hk
theorem M6 {a b:Bool}{x y:Q}(h:(a||b)=true->aT P pl X0 x nx0 H0 R)(h':(a||b)=false->aT P pl X0 y nx0 H0 R):aT P pl X0 (Ev.bK a x (Ev.bK b x y)) nx0 H0 R:=by
 cases a with
 | true=>exact h rfl
 | false=>
   cases b with
   | true=>exact h rfl
   | false=>exact h' rfl
theorem OF (a b:List UInt8):decide ((⟨⟨a⟩⟩:ByteArray)=⟨⟨b⟩⟩)=decide (a=b):=by rw[decide_eq_decide];simp
theorem K8 (w:List UInt8)(h:Hp nx0 H0 (ca bp L k::F) H nx):aT P pl X0 (a4 P pl (.call 109 [ptr bp,aE w] false none H nx)) nx0 H0 (λo H nx=>o= .ret (.bool (cO L k w))/\Hp nx0 H0 (ca bp L k::F) H nx):=by
 rw[O9];refine Sq.now h λH1 aJ h1=> ?_;refine Sq.GB h1 λH2 nx2 h2=> ?_;simp only[af];refine M6 (λhw=> ?_) (λhw=> ?_)
 . refine qT ?_ h2;unfold cO j_;rw[hw,Bool.true_and,OF]
 . refine qT ?_ h2;unfold cO j_;rw[hw,Bool.false_and]
theorem Sq.is {w:List UInt8}{kt p:Value->T OB->Nat->Q}(h:Hp nx0 H0 (ca bp L k::F) H nx)(hk:∀H' nx',Hp nx0 H0 (ca bp L k::F) H' nx'->aT P pl X0 (kt (.bool (cO L k w)) H' nx') nx0 H0 R):aT P pl X0 (ak (.call 109 [ptr bp,aE w] false none H nx) kt p) nx0 H0 R:=Sq.jB rfl (K8 w h) hk
theorem M7:a6 P 3=some 1:=by kernel_rfl
theorem de (h:Hp nx0 H0 (ca bp L k::F) H nx){kt:Value->T OB->Nat->Q}(hk:∀H',Hp nx0 H0 (ca bp L (k+1)::F) H' nx->aT P pl X0 (kt undef H' nx) nx0 H0 R):aT P pl X0 (ao (aj P H nx 3 (some (.pointer (some ⟨bp,1,none⟩))) (some (i64 ((k:Int)+1)))) kt) nx0 H0 R:=
 Hq.put [] h M7 rfl rfl (show 1<2 by omega) rfl λH' h'=>hk H' h'
theorem dX (hL:L.length<=100000)(hlt:k<L.length):IntKind.i64.wrap ((k:Int)+1)=(k:Int)+1:=by rw[aL (by omega)];rfl
theorem Jf (w:List UInt8)(hL:L.length<=100000)(h:Hp nx0 H0 (ca bp L k::F) H nx):aT P pl X0 (a4 P pl (.call 62 [ptr bp,aE w] false none H nx)) nx0 H0 (λo H nx=>o= .ret (.bool (cO L k w))/\Hp nx0 H0 (ca bp L (if cO L k w=true then k+1 else k)::F) H nx):=by
 rw[Q6];refine Sq.is h λH1 aJ h1=> ?_;cases hi:cO L k w with
 | false=>
   simp only[af];exact iS h1
 | true=>
   simp only[af,pk h1,dX hL (jC hi)];exact de h1 λH2 h2=>iS h2
theorem Sq.take {w:List UInt8}{kt p:Value->T OB->Nat->Q}(hL:L.length<=100000)(h:Hp nx0 H0 (ca bp L k::F) H nx)(ht:cO L k w=true->∀H' nx',Hp nx0 H0 (ca bp L (k+1)::F) H' nx'->aT P pl X0 (kt (.bool true) H' nx') nx0 H0 R)
 (hf:cO L k w=false->∀H' nx',Hp nx0 H0 (ca bp L k::F) H' nx'->aT P pl X0 (kt (.bool false) H' nx') nx0 H0 R):aT P pl X0 (ak (.call 62 [ptr bp,aE w] false none H nx) kt p) nx0 H0 R:=
 Sq.jB rfl (Jf w hL h) λH' nx' h'=>by
  cases hi:cO L k w with
  | true=>rw[hi]at h';exact ht hi H' nx' h'
  | false=>rw[hi]at h';exact hf hi H' nx' h'
theorem Sq.skip {w:List UInt8}{kt p:Value->T OB->Nat->Q}(hL:L.length<=100000)(h:Hp nx0 H0 (ca bp L k::F) H nx)(hk:∀b H' nx',Hp nx0 H0 (ca bp L (skip L w k)::F) H' nx'->aT P pl X0 (kt (.bool b) H' nx') nx0 H0 R):aT P pl X0 (ak (.call 62 [ptr bp,aE w] false none H nx) kt p) nx0 H0 R:=
 Sq.jB rfl (Jf w hL h) λH' nx' h'=>hk _ H' nx' h'
abbrev iH (a:Int):Value:= .iface 69 (.agg ⟨[i64 a]⟩)
def End {α:Type}(nx0:Nat)(H0:T OB)(bp:Nat)(L:List Tok)(F:List Bx)(vf:α->Value):gL α->Go.Ev.Out->T OB->Nat->Prop
 | .ok a k=>λo H nx=>o= .ret (vf a)/\Hp nx0 H0 (ca bp L k::F) H nx
 | .bad a=>λo H nx=>o= .eR (iH a)
def bo {α:Type}(f:FuncId)(L:List Tok)(vf:α->Value)(r:Nat->PR α):Prop:=∀nx0 nx H0 H bp F k o,r k=some o->Hp nx0 H0 (ca bp L k::F) H nx->aT P pl X0 (a4 P pl (.call f [ptr bp] false none H nx)) nx0 H0 (End nx0 H0 bp L F vf o)
theorem End.ret {α:Type}{vf:α->Value}{a:α}{u:Value}{o:gL α}(ho:yes a k=some o)(e:u=vf a)(h:Hp nx0 H0 (ca bp L k::F) H nx):aT P pl X0 (.ret ⟨.ret u,false,H,nx⟩) nx0 H0 (End nx0 H0 bp L F vf o):=by
 cases ho;exact Wq.kr h.ag ⟨by rw[e],h⟩
theorem Sq.av {α:Type}{vf:α->Value}{a:Int}(hA:Ag nx0 H0 nx H):aT P pl X0 (av (iH a) H nx) nx0 H0 (End nx0 H0 bp L F vf (.bad a)):=Wq.kr hA rfl
theorem M8 (x:Value):h_ P 69 (some (.agg ⟨[x]⟩))=some (.iface 69 (.agg ⟨[x]⟩)):=by kernel_rfl
theorem M9 (x:Int):aC P 69 (some [(0,i64 x)])=some (.agg ⟨[i64 x]⟩):=a_ (z:=[.int .i64 0]) (by kernel_rfl) (by kernel_rfl)
theorem w_ (h:Hp nx0 H0 (ca bp L k::F) H nx):aT P pl X0 (a4 P pl (.call 150 [ptr bp] false none H nx)) nx0 H0 (λo _ _=>o= .eR (iH (tk L k).at_)):=by
 rw[Pn];refine Sq.now h λH1 aJ h1=> ?_;simp only[af,M9,M8];exact Wq.kr (R:=λo _ _=>o= .eR (iH (tk L k).at_)) h1.ag rfl
theorem Sq.fail {α β:Type}{vf:α->Value}{o:gL α}{kt:Value->T OB->Nat->Q}(ho:gY L k=some o)(h:Hp nx0 H0 (ca bp L k::G) H nx):aT P pl X0 (ak (.call 150 [ptr bp] false none H nx) kt Ev.av) nx0 H0 (End nx0 H0 bp L F vf o):=by
 cases ho;exact Wq.fi rfl (w_ h) (λu H' nx' _ q=>by cases q) λu H' nx' hA q=>by cases q;exact Sq.av hA
theorem Sq.call {α β:Type}{f:FuncId}{vf:α->Value}{vg:β->Value}{r:Nat->PR α}{g:α->Nat->PR β}{o:gL β}{kt:Value->T OB->Nat->Q}(hs:bo f L vf r)(hx:X0 f [ptr bp]=none)(h:Hp nx0 H0 (ca bp L k::G) H nx)(ho:bd (r k) g=some o)
 (hk:∀a k' H' nx',r k=some (.ok a k')->g a k'=some o->Hp nx0 H0 (ca bp L k'::G) H' nx'->aT P pl X0 (kt (vf a) H' nx') nx0 H0 (End nx0 H0 bp L F vg o)):aT P pl X0 (ak (.call f [ptr bp] false none H nx) kt Ev.av) nx0 H0 (End nx0 H0 bp L F vg o):=by
 cases hr:r k with
 | none=>rw[hr]at ho;cases ho
 | some q=>
   refine Wq.fi hx (hs nx0 nx H0 H bp G k q hr h) (λu H' nx' _ he=> ?_) (λu H' nx' hA he=> ?_)
   . cases q with
     | bad a=>cases he
     | ok a k'=>
       rw[hr,Az]at ho;cases he.1;exact hk a k' H' nx' hr ho he.2
   . cases q with
     | ok a k'=>cases he.1
     | bad a=>
       rw[hr,ta]at ho;cases ho;cases he;exact Sq.av hA
theorem Sq.iT {β:Type}{w:List UInt8}{vg:β->Value}{g:Nat->PR β}{o:gL β}{kt:Value->T OB->Nat->Q}(hL:L.length<=100000)(h:Hp nx0 H0 (ca bp L k::G) H nx)(ho:bl L w k g=some o)
 (hk:∀H' nx',cO L k w=true->g (k+1)=some o->Hp nx0 H0 (ca bp L (k+1)::G) H' nx'->aT P pl X0 (kt (.tuple ⟨[]⟩) H' nx') nx0 H0 (End nx0 H0 bp L F vg o)):aT P pl X0 (ak (.call 106 [ptr bp,aE w] false none H nx) kt Ev.av) nx0 H0 (End nx0 H0 bp L F vg o):=by
 unfold bl at ho;cases hi:cO L k w with
 | true=>
   rw[hi,if_pos rfl]at ho;refine Sq.jB rfl ?_ λH' nx' h'=>hk H' nx' hi ho h';rw[MM];refine Sq.take hL h (λ_ H1 aJ h1=> ?_) (λq=>by rw[q]at hi;cases hi);simp only[af];exact iS h1
 | false=>
   rw[hi,if_neg (by simp)]at ho;cases ho;refine Wq.fi (R1:=λo _ _=>o= .eR (iH (tk L k).at_)) rfl ?_ (λu H' nx' _ q=>by cases q) λu H' nx' hA q=>by cases q;exact Sq.av hA
   rw[MM];refine Sq.take hL h (λq=>by rw[q]at hi;cases hi) (λ_ H1 aJ h1=> ?_);simp only[af];exact Wq.fi rfl (w_ h1) (λu H' nx' _ q=>by cases q) λu H' nx' hA q=>by cases q;exact Wq.kr hA rfl
theorem K9 (c:Int)(hL:L.length<=100000)(hc:c≠0)(h:Hp nx0 H0 (ca bp L k::F) H nx):aT P pl X0 (a4 P pl (.call 146 [ptr bp,i64 c] false none H nx)) nx0 H0 (End nx0 H0 bp L F Tok.v (if(tk L k).k=c then .ok (tk L k) (k+1)else .bad (tk L k).at_)):=by
 rw[Pj];refine Hq.alloc bR h λx0 H1 aJ h1=> ?_;refine Sq.now h1 λH2 nx2 h2=> ?_;refine Sq.GB h2 λH3 nx3 h3=> ?_;simp only[af];refine Wq.bK (λq=> ?_) (λq=> ?_)
 . have hne:¬(tk L k).k=c:=by simpa using q
   rw[if_neg hne];exact Wq.fi rfl (w_ h3) (λu H' nx' _ q=>by cases q) λu H' nx' hA q=>by cases q;exact Sq.av hA
 . have he:(tk L k).k=c:=by simpa using q
   rw[if_pos he];have hlt:k<L.length:=eV (by rw[he];exact hc);refine Wq.jmp (F5 ..) (λ_=>rfl) ?_;simp only[af,pk h3,dX hL hlt];refine de h3 λH4 h4=> ?_;refine Hq.store [ca bp L (k+1)] h4 ch (by simp) rfl rfl λH5 h5=> ?_;simp only[af,BI (h5.at_ 1 rfl)];exact Wq.kr h5.ag ⟨rfl,h5.lx⟩
theorem Sq.word {β:Type}{c:Int}{vg:β->Value}{g:Tok->Nat->PR β}{o:gL β}{kt:Value->T OB->Nat->Q}(hc:c≠0)(hL:L.length<=100000)(h:Hp nx0 H0 (ca bp L k::G) H nx)(ho:b_ L c k g=some o)
 (hk:∀H' nx',(tk L k).k=c->g (tk L k) (k+1)=some o->Hp nx0 H0 (ca bp L (k+1)::G) H' nx'->aT P pl X0 (kt (tk L k).v H' nx') nx0 H0 (End nx0 H0 bp L F vg o)):aT P pl X0 (ak (.call 146 [ptr bp,i64 c] false none H nx) kt Ev.av) nx0 H0 (End nx0 H0 bp L F vg o):=by
 unfold b_ at ho;have h1:=K9 c hL hc h
 by_cases hi:(tk L k).k=c
 . rw[if_pos hi]at ho h1;refine Wq.fi rfl h1 (λu H' nx' _ q=> ?_) (λu H' nx' hA q=>by cases q.1);cases q.1;exact hk H' nx' hi ho q.2
 . rw[if_neg hi]at ho h1;cases ho;exact Wq.fi rfl h1 (λu H' nx' _ q=>by cases q) λu H' nx' hA q=>by cases q;exact Sq.av hA
theorem K_ (h:Hp nx0 H0 (ca bp L k::F) H nx):aT P pl X0 (a4 P pl (.call 152 [ptr bp] false none H nx)) nx0 H0 (λo H nx=>o= .ret (aE (if j_ L k=true then(tk L k).s else[]))/\Hp nx0 H0 (ca bp L k::F) H nx):=by
 rw[Pp];refine Sq.now h λH1 aJ h1=> ?_;refine Sq.GB h1 λH2 nx2 h2=> ?_;have J:∀b,j_ L k=b->aT P pl X0 (.jump (sJ (ai (tk L k).v) b H2 nx2)) nx0 H0 (λo H nx=>o= .ret (aE (if j_ L k=true then(tk L k).s else[]))/\Hp nx0 H0 (ca bp L k::F) H nx):=by
  intro b hb;refine Wq.jmp (KE ..) (λ_=>rfl) ?_;cases b with
  | true=>simp only[af];exact qT (by rw[hb,if_pos rfl]) h2
  | false=>simp only[af];exact qT (by rw[hb,if_neg (by simp)]) h2
 simp only[af];refine Wq.ite (λq=>J true (by unfold j_;simp[q])) (λq=>J _ (by unfold j_;simp[q]))
theorem Sq.op {kt p:Value->T OB->Nat->Q}(h:Hp nx0 H0 (ca bp L k::F) H nx)(hk:∀H' nx',Hp nx0 H0 (ca bp L k::F) H' nx'->aT P pl X0 (kt (aE (if j_ L k=true then(tk L k).s else[])) H' nx') nx0 H0 R):aT P pl X0 (ak (.call 152 [ptr bp] false none H nx) kt p) nx0 H0 R:=Sq.jB rfl (K_ h) hk
theorem La (h:Hp nx0 H0 (ca bp L k::F) H nx):aT P pl X0 (a4 P pl (.call 179 [ptr bp] false none H nx)) nx0 H0 (λo H nx=>o= .ret (.bool (ly L k))/\Hp nx0 H0 (ca bp L k::F) H nx):=by
 rw[Pz];refine Sq.now h λH1 aJ h1=> ?_;have J:∀b,pB L k=b->aT P pl X0 (.jump (jS (ptr bp) b H1 aJ)) nx0 H0 (λo H nx=>o= .ret (.bool (ly L k))/\Hp nx0 H0 (ca bp L k::F) H nx):=by
  intro b hb;refine Wq.jmp (Gg ..) (λ_=>rfl) ?_;unfold ly;rw[hb];cases b with
  | true=>simp only[af];exact iS h1
  | false=>
    simp only[af];refine Sq.is h1 λH2 nx2 h2=> ?_;cases cO L k [40]with
    | true=>simp only[af];exact iS h2
    | false=>
      simp only[af];refine Sq.is h2 λH3 nx3 h3=> ?_;simp only[af];exact iS h3
 have e:pB L k=(decide ((tk L k).k=1)||(decide ((tk L k).k=2)||(decide ((tk L k).k=3)||decide ((tk L k).k=4)))):=rfl
 revert e J
 simp only[af];generalize decide ((tk L k).k=1)=c1;generalize decide ((tk L k).k=2)=c2;generalize decide ((tk L k).k=3)=c3;generalize decide ((tk L k).k=4)=c4;intro J e;cases c1 with
 | true=>exact J true e
 | false=>
   cases c2 with
   | true=>exact J true e
   | false=>
     cases c3 with
     | true=>exact J true e
     | false=>exact J c4 e
theorem Sq.Rj {kt p:Value->T OB->Nat->Q}(h:Hp nx0 H0 (ca bp L k::F) H nx)(hk:∀H' nx',Hp nx0 H0 (ca bp L k::F) H' nx'->aT P pl X0 (kt (.bool (ly L k)) H' nx') nx0 H0 R):aT P pl X0 (ak (.call 179 [ptr bp] false none H nx) kt p) nx0 H0 R:=Sq.jB rfl (La h) hk
theorem Lb (h:Hp nx0 H0 (ca bp L k::F) H nx):aT P pl X0 (a4 P pl (.call 176 [ptr bp] false none H nx)) nx0 H0 (λo H nx=>o= .ret (.bool (jX L k))/\Hp nx0 H0 (ca bp L k::F) H nx):=by
 rw[Pw];refine Sq.now h λH1 aJ h1=> ?_;have J:∀b,pB L k=b->aT P pl X0 (.jump (jR (ptr bp) b H1 aJ)) nx0 H0 (λo H nx=>o= .ret (.bool (jX L k))/\Hp nx0 H0 (ca bp L k::F) H nx):=by
  intro b hb;refine Wq.jmp (Gc ..) (λ_=>rfl) ?_;unfold jX;rw[hb];cases b with
  | true=>simp only[af];exact iS h1
  | false=>
    simp only[af];refine Sq.is h1 λH2 nx2 h2=> ?_;cases cO L k [40]with
    | true=>simp only[af];exact iS h2
    | false=>
      simp only[af];refine Sq.is h2 λH3 nx3 h3=> ?_;cases cO L k [95]with
      | true=>simp only[af];exact iS h3
      | false=>
        simp only[af];refine Sq.is h3 λH4 nx4 h4=> ?_;simp only[af];exact iS h4
 have e:pB L k=(decide ((tk L k).k=1)||(decide ((tk L k).k=2)||(decide ((tk L k).k=3)||decide ((tk L k).k=4)))):=rfl
 revert e J
 simp only[af];generalize decide ((tk L k).k=1)=c1;generalize decide ((tk L k).k=2)=c2;generalize decide ((tk L k).k=3)=c3;generalize decide ((tk L k).k=4)=c4;intro J e;cases c1 with
 | true=>exact J true e
 | false=>
   cases c2 with
   | true=>exact J true e
   | false=>
     cases c3 with
     | true=>exact J true e
     | false=>exact J c4 e
theorem Sq.M_ {kt p:Value->T OB->Nat->Q}(h:Hp nx0 H0 (ca bp L k::F) H nx)(hk:∀H' nx',Hp nx0 H0 (ca bp L k::F) H' nx'->aT P pl X0 (kt (.bool (jX L k)) H' nx') nx0 H0 R):aT P pl X0 (ak (.call 176 [ptr bp] false none H nx) kt p) nx0 H0 R:=Sq.jB rfl (Lb h) hk
theorem ti {L:List Tok}{k:Nat}(h:fk L k=true):k<L.length:=by
 unfold fk at h;rw[Bool.or_eq_true]at h
 rcases h with h | h
 . exact eV (by have:(tk L k).k=3:=by simpa using h
                omega)
 . exact jC h
theorem Lc (hL:L.length<=100000)(h:Hp nx0 H0 (ca bp L k::F) H nx):aT P pl X0 (a4 P pl (.call 187 [ptr bp] false none H nx)) nx0 H0 (λo H nx=>o= .ret (if fk L k=true then .tuple ⟨[aE (tk L k).s,.bool true]⟩else .tuple ⟨[aE [],.bool false]⟩)/\Hp nx0 H0 (ca bp L (if fk L k=true then k+1 else k)::F) H nx):=by
 rw[PB];refine Sq.now h λH1 aJ h1=> ?_;refine Sq.GB h1 λH2 nx2 h2=> ?_;have J:∀b H3 nx3,fk L k=b->Hp nx0 H0 (ca bp L k::F) H3 nx3->aT P pl X0 (.jump (sO (ptr bp) (ai (tk L k).v) b H3 nx3)) nx0 H0 (λo H nx=>o= .ret (if fk L k=true then .tuple ⟨[aE (tk L k).s,.bool true]⟩else .tuple ⟨[aE [],.bool false]⟩)/\Hp nx0 H0 (ca bp L (if fk L k=true then k+1 else k)::F) H nx):=by
  intro b H3 nx3 hb h3;refine Wq.jmp (KG ..) (λ_=>rfl) ?_;cases b with
  | true=>
    simp only[af,pk h3,dX hL (ti hb)];refine de h3 λH4 h4=> ?_;rw[hb,if_pos rfl,if_pos rfl];exact iS h4
  | false=>
    simp only[af];rw[hb,if_neg (by simp),if_neg (by simp)];exact iS h3
 simp only[af];refine Wq.ite (λq=>J true H2 nx2 (by unfold fk;simp[q]) h2) (λq=> ?_);refine Sq.is h2 λH3 nx3 h3=> ?_;simp only[af];exact J _ H3 nx3 (by unfold fk;simp[q]) h3
theorem Sq.PW {kt p:Value->T OB->Nat->Q}(hL:L.length<=100000)(h:Hp nx0 H0 (ca bp L k::F) H nx)(ht:fk L k=true->∀H' nx',Hp nx0 H0 (ca bp L (k+1)::F) H' nx'->aT P pl X0 (kt (.tuple ⟨[aE (tk L k).s,.bool true]⟩) H' nx') nx0 H0 R)
 (hf:fk L k=false->∀H' nx',Hp nx0 H0 (ca bp L k::F) H' nx'->aT P pl X0 (kt (.tuple ⟨[aE [],.bool false]⟩) H' nx') nx0 H0 R):aT P pl X0 (ak (.call 187 [ptr bp] false none H nx) kt p) nx0 H0 R:=
 Sq.jB rfl (Lc hL h) λH' nx' h'=>by
  cases hi:fk L k with
  | true=>rw[hi,if_pos rfl]at h';rw[if_pos rfl];exact ht hi H' nx' h'
  | false=>rw[hi,if_neg (by simp)]at h';rw[if_neg (by simp)];exact hf hi H' nx' h'
theorem Ld (w:List UInt8):P0 154 [aE w] (.bool (decide (w=[58,61])||decide (w=[58,58]))):=Pure.of rfl λH nx=>by
 rw[Pq];simp only[af,OF];cases decide (w=[58,61])with
 | true=>simp only[af];exact Wq.ret (.refl _ _)
 | false=>simp only[af];exact Wq.ret (.refl _ _)
end
section
variable {L:List Tok}
def Tm {α:Type}(L:List Tok)(x:PR α)(m:Nat)(s:α->Nat):Prop:=∃r,x=some r/\∀a k',r=gL.ok a k'->L.length-k'+s a<=m
variable {α β:Type}{m m' k:Nat}{s:β->Nat}{s1:α->Nat}
theorem Tm.bd {x:PR α}{f:α->Nat->PR β}(h:Tm L x m' s1)(hf:∀a k',L.length-k'+s1 a<=m'->Tm L (f a k') m s):Tm L (bd x f) m s:=by
 obtain⟨r,rfl,h2⟩:=h;cases r with
 | bad a=>exact⟨.bad a,rfl,λa k' q=>by cases q⟩
 | ok a k'=>exact hf a k' (h2 a k' rfl)
theorem Tm.tail {x:PR β}{s':β->Nat}(h:Tm L x m' s')(hf:∀a k',L.length-k'+s' a<=m'->L.length-k'+s a<=m):Tm L x m s:=by
 obtain⟨r,rfl,h2⟩:=h;exact⟨r,rfl,λa k' q=>hf a k' (h2 a k' q)⟩
theorem Tm.fail:Tm L (gY L k:PR β) m s:=⟨_,rfl,λa k' q=>by cases q⟩
theorem Tm.yes {a:β}(h:L.length-k+s a<=m):Tm L (yes a k) m s:=⟨_,rfl,λa' k' q=>by cases q;exact h⟩
theorem Tm.eg {w:List UInt8}{x y:PR β}(hx:k<L.length->Tm L x m s)(hy:Tm L y m s):Tm L (if cO L k w=true then x else y) m s:=by
 by_cases hi:cO L k w=true
 . rw[if_pos hi];exact hx (jC hi)
 . rw[if_neg hi];exact hy
theorem Tm.BJ {c:Int}{x y:PR β}(hc:c≠0)(hx:k<L.length->Tm L x m s)(hy:Tm L y m s):Tm L (if(tk L k).k=c then x else y) m s:=by
 by_cases hi:(tk L k).k=c
 . rw[if_pos hi];exact hx (eV (by rw[hi];exact hc))
 . rw[if_neg hi];exact hy
theorem Tm.bl {w:List UInt8}{f:Nat->PR β}(hf:k<L.length->Tm L (f (k+1)) m s):Tm L (bl L w k f) m s:=by
 unfold Go.Proofs.YthjhonhhbddhkaaGreatDoor.bl;exact Tm.eg hf Tm.fail
theorem Tm.b_ {c:Int}{f:Tok->Nat->PR β}(hc:c≠0)(hf:k<L.length->Tm L (f (tk L k) (k+1)) m s):Tm L (b_ L c k f) m s:=by
 unfold Go.Proofs.YthjhonhhbddhkaaGreatDoor.b_;exact Tm.BJ hc hf Tm.fail
theorem Tm.BK {b:Bool}{x y:PR β}(hb:b=true->k<L.length)(hx:k<L.length->Tm L x m s)(hy:Tm L y m s):Tm L (if b=true then x else y) m s:=by
 by_cases hi:b=true
 . rw[if_pos hi];exact hx (hb hi)
 . rw[if_neg hi];exact hy
theorem AB (h:pB L k=true):k<L.length:=by
 refine eV λq=> ?_;unfold pB at h;rw[q]at h;simp at h
theorem AD (h:j_ L k=true):k<L.length:=by
 refine eV λq=> ?_;unfold j_ at h;rw[q]at h;simp at h
theorem GC {lv:Nat}(h:iG L lv k=true):k<L.length:=by
 unfold iG at h;rw[Bool.and_eq_true]at h;exact AD h.1
theorem GD {lv:Nat}(h:iG L lv k=true):lv<=6:=by
 unfold iG at h;rw[Bool.and_eq_true]at h;refine Nat.le_of_lt_succ (Decidable.byContradiction λq=> ?_);have:bn[lv]? = none:=List.getElem?_eq_none (by simpa[bn]using Nat.le_of_not_lt q);rw[this]at h;simp at h
theorem GF (h:unOp L k=true):k<L.length:=by
 unfold unOp at h;rw[Bool.and_eq_true]at h;exact AD h.1
theorem GG (h:ly L k=true):k<L.length:=by
 unfold ly at h;rw[Bool.or_eq_true,Bool.or_eq_true]at h
 rcases h with h | h | h
 . exact AB h
 . exact jC h
 . exact jC h
theorem AE (h:jX L k=true):k<L.length:=by
 unfold jX at h;rw[Bool.or_eq_true,Bool.or_eq_true,Bool.or_eq_true]at h
 rcases h with h | h | h | h
 . exact AB h
 . exact jC h
 . exact jC h
 . exact jC h
theorem tj {w:List UInt8}:L.length-skip L w k<=L.length-k:=by
 unfold skip
 by_cases hi:cO L k w=true
 . rw[if_pos hi];omega
 . rw[if_neg hi];exact Nat.le_refl _
structure dY (L:List Tok)(n:Nat)(p:PS):Prop where
 exp:∀k,12*(L.length-k)+10<n->Tm L (p.exp k) (L.length-k) (λ_=>1)
 g_:∀e k,12*(L.length-k)+2<n->Tm L (p.g_ e k) (L.length-k) (λ_=>1)
 bin:∀lv k,lv<=7->12*(L.length-k)+(9-lv)<n->Tm L (p.bin lv k) (L.length-k) (λ_=>1)
 gE:∀lv a k,12*(L.length-k)<n->Tm L (p.gE lv a k) (L.length-k) (λ_=>0)
 un:∀k,12*(L.length-k)+1<n->Tm L (p.un k) (L.length-k) (λ_=>1)
 gF:∀e k,12*(L.length-k)+1<n->Tm L (p.gF e k) (L.length-k) (λ_=>0)
 atom:∀k,12*(L.length-k)+0<n->Tm L (p.atom k) (L.length-k) (λ_=>1)
 dQ:∀w e k,12*(L.length-k)+0<n->Tm L (p.dQ w e k) (L.length-k) (λ_=>0)
 lt:∀k,12*(L.length-k)+1<n->Tm L (p.lt k) (L.length-k) (λ_=>1)
 f_:∀e k,12*(L.length-k)+1<n->Tm L (p.f_ e k) (L.length-k) (λ_=>1)
 pat:∀k,12*(L.length-k)+1<n->Tm L (p.pat k) (L.length-k) (λ_=>1)
 bQ:∀k,12*(L.length-k)+0<n->Tm L (p.bQ k) (L.length-k) (λ_=>1)
 gG:∀e k,12*(L.length-k)+0<n->Tm L (p.gG e k) (L.length-k) (λ_=>0)
 fu:∀k,12*(L.length-k)+1<n->Tm L (p.fu k) (L.length-k) (λ_=>1)
 ee:∀e k,12*(L.length-k)+0<n->Tm L (p.ee e k) (L.length-k) (λ_=>0)
 post:∀k,12*(L.length-k)+0<n->Tm L (p.post k) (L.length-k) (λ_=>1)
 p7:∀e k,12*(L.length-k)+0<n->Tm L (p.p7 e k) (L.length-k) (λ_=>0)
 dm:∀e k,12*(L.length-k)+0<n->Tm L (p.dm e k) (L.length-k) (λ_=>0)
 fY:∀k,12*(L.length-k)+0<n->Tm L (p.fY k) (L.length-k) (λ_=>1)
 bind:∀k,12*(L.length-k)+0<n->Tm L (p.bind k) (L.length-k) (λd=>if Option.isSome d=true then 1 else 0)
 gH:∀e k,12*(L.length-k)+0<n->Tm L (p.gH e k) (L.length-k) (λ_=>0)
 fn:∀k,12*(L.length-k)+0<n->Tm L (p.fn k) (L.length-k) (λ_=>1)
 p8:∀e k,12*(L.length-k)+1<n->Tm L (p.p8 e k) (L.length-k) (λ_=>0)
 dec:∀k,12*(L.length-k)+1<n->Tm L (p.dec k) (L.length-k) (λd=>if Option.isSome d=true then 1 else 0)
 data:∀k,12*(L.length-k)+0<n->Tm L (p.data k) (L.length-k) (λ_=>1)
 fP:∀e k,12*(L.length-k)+0<n->Tm L (p.fP e k) (L.length-k) (λ_=>0)
 gI:∀e k,12*(L.length-k)+0<n->Tm L (p.gI e k) (L.length-k) (λ_=>0)
 bX:∀e k,12*(L.length-k)+11<n->Tm L (p.bX e k) (L.length-k) (λ_=>0)
variable {n:Nat}{p:PS}
theorem Le (h:dY L n p):∀k,12*(L.length-k)+10<n+1->Tm L (vu L p k) (L.length-k) (λ_=>1):=by
 intro k hn;unfold vu
 repeat' (first
  | with_reducible refine Tm.eg (λhk=> ?_) ?_
  | refine Tm.bl (λhk=> ?_)
  | refine Tm.bd (h.exp _ (by omega)) (λa k1 hk=> ?_)
  | refine Tm.bd (h.g_ _ _ (by omega)) (λa k1 hk=> ?_)
  | refine Tm.bd (h.bin _ _ (by omega) (by omega)) (λa k1 hk=> ?_)
  | exact Tm.tail (h.exp _ (by omega)) (λa k1 hk=>by omega)
  | exact Tm.tail (h.g_ _ _ (by omega)) (λa k1 hk=>by omega)
  | exact Tm.tail (h.bin _ _ (by omega) (by omega)) (λa k1 hk=>by omega)
  | exact Tm.yes (by omega)
  | exact Tm.fail)
theorem Lf (h:dY L n p):∀e k,12*(L.length-k)+2<n+1->Tm L (vt L p e k) (L.length-k) (λ_=>1):=by
 intro e k hn;unfold vt
 repeat' (first
  | with_reducible refine Tm.eg (λhk=> ?_) ?_
  | refine Tm.bl (λhk=> ?_)
  | refine Tm.bd (h.exp _ (by omega)) (λa k1 hk=> ?_)
  | refine Tm.bd (h.g_ _ _ (by omega)) (λa k1 hk=> ?_)
  | refine Tm.bd (h.pat _ (by omega)) (λa k1 hk=> ?_)
  | exact Tm.tail (h.exp _ (by omega)) (λa k1 hk=>by omega)
  | exact Tm.tail (h.g_ _ _ (by omega)) (λa k1 hk=>by omega)
  | exact Tm.tail (h.pat _ (by omega)) (λa k1 hk=>by omega)
  | exact Tm.yes (by omega)
  | exact Tm.fail)
theorem Ec (h:dY L n p):∀lv a k,12*(L.length-k)<n+1->Tm L (tb L p lv a k) (L.length-k) (λ_=>0):=by
 intro lv a k hn;unfold tb
 by_cases hi:iG L lv k=true
 . rw[if_pos hi];have h1:=GC hi;have h2:=GD hi
   by_cases h3:lv=2\/lv=4
   . rw[if_pos h3];exact Tm.bd (h.bin lv (k+1) (by omega) (by omega)) λb k1 hk=>Tm.yes (by omega)
   . rw[if_neg h3];exact Tm.bd (h.bin (lv+1) (k+1) (by omega) (by omega)) λb k1 hk=>Tm.tail (h.gE lv _ k1 (by omega)) λb k2 hk2=>by omega
 . rw[if_neg hi];exact Tm.yes (by omega)
theorem Lg (h:dY L n p):∀lv k,lv<=7->12*(L.length-k)+(9-lv)<n+1->Tm L (vw L p lv k) (L.length-k) (λ_=>1):=by
 intro lv k hl hn;unfold vw
 by_cases h7:lv=7
 . rw[if_pos h7];exact Tm.tail (h.un k (by omega)) (λa k1 hk=>hk)
 . rw[if_neg h7];exact Tm.bd (h.bin (lv+1) k (by omega) (by omega)) λa k1 hk=>Tm.tail (Ec h lv a k1 (by omega)) λb k2 hk2=>by omega
theorem xd (h:dY L n p):∀e k,12*(L.length-k)+1<n+1->Tm L (tc L p e k) (L.length-k) (λ_=>0):=by
 intro e k hn;unfold tc
 repeat' (first
  | with_reducible refine Tm.eg (λhk=> ?_) ?_
  | refine Tm.BK (λhb=>GG hb) (λhk=> ?_) ?_
  | refine Tm.bd (h.gF _ _ (by omega)) (λa k1 hk=> ?_)
  | refine Tm.bd (h.atom _ (by omega)) (λa k1 hk=> ?_)
  | exact Tm.tail (h.gF _ _ (by omega)) (λa k1 hk=>by omega)
  | exact Tm.tail (h.atom _ (by omega)) (λa k1 hk=>by omega)
  | exact Tm.yes (by omega)
  | exact Tm.fail)
theorem Na (h:dY L n p):∀k,12*(L.length-k)+1<n+1->Tm L (Jc L p k) (L.length-k) (λ_=>1):=by
 intro k hn;unfold Jc
 repeat' (first
  | with_reducible refine Tm.eg (λhk=> ?_) ?_
  | refine Tm.BK (λhb=>GF hb) (λhk=> ?_) ?_
  | refine Tm.bd (h.un _ (by omega)) (λa k1 hk=> ?_)
  | refine Tm.bd (h.atom _ (by omega)) (λa k1 hk=> ?_)
  | refine Tm.bd (xd h _ _ (by omega)) (λa k1 hk=> ?_)
  | exact Tm.tail (h.un _ (by omega)) (λa k1 hk=>by omega)
  | exact Tm.tail (h.atom _ (by omega)) (λa k1 hk=>by omega)
  | exact Tm.tail (xd h _ _ (by omega)) (λa k1 hk=>by omega)
  | exact Tm.yes (by omega)
  | exact Tm.fail)
theorem pF (h:dY L n p):∀w e k,12*(L.length-k)+0<n+1->Tm L (jy L p w e k) (L.length-k) (λ_=>0):=by
 intro w e k hn;unfold jy
 repeat' (first
  | with_reducible refine Tm.eg (λhk=> ?_) ?_
  | refine Tm.bd (h.exp _ (by omega)) (λa k1 hk=> ?_)
  | refine Tm.bd (h.dQ _ _ _ (by omega)) (λa k1 hk=> ?_)
  | exact Tm.tail (h.exp _ (by omega)) (λa k1 hk=>by omega)
  | exact Tm.tail (h.dQ _ _ _ (by omega)) (λa k1 hk=>by omega)
  | exact Tm.yes (by omega)
  | exact Tm.fail)
theorem GH (h:dY L n p):∀k,12*(L.length-k)+0<n+1->Tm L (mP L p k) (L.length-k) (λ_=>1):=by
 intro k hn;unfold mP
 repeat' (first
  | with_reducible refine Tm.eg (λhk=> ?_) ?_
  | refine Tm.BJ (by decide) (λhk=> ?_) ?_
  | refine Tm.bl (λhk=> ?_)
  | refine Tm.bd (h.exp _ (by omega)) (λa k1 hk=> ?_)
  | refine Tm.bd (h.lt _ (by omega)) (λa k1 hk=> ?_)
  | refine Tm.bd (pF h _ _ _ (by omega)) (λa k1 hk=> ?_)
  | exact Tm.tail (h.exp _ (by omega)) (λa k1 hk=>by omega)
  | exact Tm.tail (h.lt _ (by omega)) (λa k1 hk=>by omega)
  | exact Tm.tail (pF h _ _ _ (by omega)) (λa k1 hk=>by omega)
  | exact Tm.yes (by omega)
  | exact Tm.fail)
theorem xe (h:dY L n p):∀e k,12*(L.length-k)+1<n+1->Tm L (td L p e k) (L.length-k) (λ_=>1):=by
 intro e k hn;unfold td;refine Tm.eg (λhk=>Tm.yes (by omega)) ?_;refine Tm.bd (h.bind _ (by omega)) λd k1 hk=> ?_;cases d with
 | none=>exact Tm.fail
 | some d=>
   have hk:L.length-k1+1<=L.length-k:=hk;have:=@tj L k1 [59];exact Tm.tail (h.f_ _ _ (by omega)) λb k2 hk2=>by omega
theorem Nb (h:dY L n p):∀k,12*(L.length-k)+1<n+1->Tm L (Jd L p k) (L.length-k) (λ_=>1):=by
 intro k hn;unfold Jd
 repeat' (first
  | with_reducible refine Tm.eg (λhk=> ?_) ?_
  | refine Tm.bl (λhk=> ?_)
  | refine Tm.bd (h.exp _ (by omega)) (λa k1 hk=> ?_)
  | refine Tm.bd (xe h _ _ (by omega)) (λa k1 hk=> ?_)
  | refine Tm.bd (pF h _ _ _ (by omega)) (λa k1 hk=> ?_)
  | exact Tm.tail (h.exp _ (by omega)) (λa k1 hk=>by omega)
  | exact Tm.tail (xe h _ _ (by omega)) (λa k1 hk=>by omega)
  | exact Tm.tail (pF h _ _ _ (by omega)) (λa k1 hk=>by omega)
  | exact Tm.yes (by omega)
  | exact Tm.fail)
theorem Ed (h:dY L n p):∀k,12*(L.length-k)+1<n+1->Tm L (w8 L p k) (L.length-k) (λ_=>1):=by
 intro k hn;unfold w8
 repeat' (first
  | with_reducible refine Tm.eg (λhk=> ?_) ?_
  | refine Tm.BJ (by decide) (λhk=> ?_) ?_
  | refine Tm.BK (λhb=>AE hb) (λhk=> ?_) ?_
  | refine Tm.bd (h.bQ _ (by omega)) (λa k1 hk=> ?_)
  | exact Tm.tail (h.bQ _ (by omega)) (λa k1 hk=>by omega)
  | exact Tm.yes (by omega)
  | exact Tm.fail)
theorem Lh (h:dY L n p):∀k,12*(L.length-k)+1<n+1->Tm L (vx L p k) (L.length-k) (λ_=>1):=by
 intro k hn;unfold vx
 repeat' (first
  | with_reducible refine Tm.eg (λhk=> ?_) ?_
  | refine Tm.bd (h.pat _ (by omega)) (λa k1 hk=> ?_)
  | refine Tm.bd (Ed h _ (by omega)) (λa k1 hk=> ?_)
  | exact Tm.tail (h.pat _ (by omega)) (λa k1 hk=>by omega)
  | exact Tm.tail (Ed h _ (by omega)) (λa k1 hk=>by omega)
  | exact Tm.yes (by omega)
  | exact Tm.fail)
theorem tl (h:dY L n p):∀e k,12*(L.length-k)+0<n+1->Tm L (lA L p e k) (L.length-k) (λ_=>0):=by
 intro e k hn;unfold lA
 repeat' (first
  | with_reducible refine Tm.eg (λhk=> ?_) ?_
  | refine Tm.bd (h.pat _ (by omega)) (λa k1 hk=> ?_)
  | refine Tm.bd (h.gG _ _ (by omega)) (λa k1 hk=> ?_)
  | exact Tm.tail (h.pat _ (by omega)) (λa k1 hk=>by omega)
  | exact Tm.tail (h.gG _ _ (by omega)) (λa k1 hk=>by omega)
  | exact Tm.yes (by omega)
  | exact Tm.fail)
theorem Ee (h:dY L n p):∀k,12*(L.length-k)+0<n+1->Tm L (jz L p k) (L.length-k) (λ_=>1):=by
 intro k hn;unfold jz
 repeat' (first
  | with_reducible refine Tm.eg (λhk=> ?_) ?_
  | refine Tm.BJ (by decide) (λhk=> ?_) ?_
  | refine Tm.bl (λhk=> ?_)
  | refine Tm.b_ (by decide) (λhk=> ?_)
  | refine Tm.bd (h.pat _ (by omega)) (λa k1 hk=> ?_)
  | refine Tm.bd (tl h _ _ (by omega)) (λa k1 hk=> ?_)
  | exact Tm.tail (h.pat _ (by omega)) (λa k1 hk=>by omega)
  | exact Tm.tail (tl h _ _ (by omega)) (λa k1 hk=>by omega)
  | exact Tm.yes (by omega)
  | exact Tm.fail)
theorem tn (h:dY L n p):∀e k,12*(L.length-k)+0<n+1->Tm L (lB L p e k) (L.length-k) (λ_=>0):=by
 intro e k hn;unfold lB
 repeat' (first
  | with_reducible refine Tm.eg (λhk=> ?_) ?_
  | refine Tm.bd (h.ee _ _ (by omega)) (λa k1 hk=> ?_)
  | refine Tm.bd (h.post _ (by omega)) (λa k1 hk=> ?_)
  | exact Tm.tail (h.ee _ _ (by omega)) (λa k1 hk=>by omega)
  | exact Tm.tail (h.post _ (by omega)) (λa k1 hk=>by omega)
  | exact Tm.yes (by omega)
  | exact Tm.fail)
theorem AF (h:dY L n p):∀k,12*(L.length-k)+1<n+1->Tm L (pC L p k) (L.length-k) (λ_=>1):=by
 intro k hn;unfold pC
 repeat' (first
  | with_reducible refine Tm.eg (λhk=> ?_) ?_
  | refine Tm.bd (h.post _ (by omega)) (λa k1 hk=> ?_)
  | refine Tm.bd (tn h _ _ (by omega)) (λa k1 hk=> ?_)
  | exact Tm.tail (h.post _ (by omega)) (λa k1 hk=>by omega)
  | exact Tm.tail (tn h _ _ (by omega)) (λa k1 hk=>by omega)
  | exact Tm.yes (by omega)
  | exact Tm.fail)
theorem Li (h:dY L n p):∀k,12*(L.length-k)+1<n+1->Tm L (vy L p k) (L.length-k) (λ_=>1):=by
 intro k hn;unfold vy
 repeat' (first
  | with_reducible refine Tm.eg (λhk=> ?_) ?_
  | refine Tm.bd (h.fu _ (by omega)) (λa k1 hk=> ?_)
  | refine Tm.bd (AF h _ (by omega)) (λa k1 hk=> ?_)
  | exact Tm.tail (h.fu _ (by omega)) (λa k1 hk=>by omega)
  | exact Tm.tail (AF h _ (by omega)) (λa k1 hk=>by omega)
  | exact Tm.yes (by omega)
  | exact Tm.fail)
theorem xf (h:dY L n p):∀e k,12*(L.length-k)+0<n+1->Tm L (m6 L p e k) (L.length-k) (λ_=>0):=by
 intro e k hn;unfold m6
 repeat' (first
  | with_reducible refine Tm.eg (λhk=> ?_) ?_
  | refine Tm.bd (h.fu _ (by omega)) (λa k1 hk=> ?_)
  | refine Tm.bd (h.p7 _ _ (by omega)) (λa k1 hk=> ?_)
  | exact Tm.tail (h.fu _ (by omega)) (λa k1 hk=>by omega)
  | exact Tm.tail (h.p7 _ _ (by omega)) (λa k1 hk=>by omega)
  | exact Tm.yes (by omega)
  | exact Tm.fail)
theorem AG (h:dY L n p):∀k,12*(L.length-k)+0<n+1->Tm L (pD L p k) (L.length-k) (λ_=>1):=by
 intro k hn;unfold pD
 repeat' (first
  | with_reducible refine Tm.eg (λhk=> ?_) ?_
  | refine Tm.BJ (by decide) (λhk=> ?_) ?_
  | refine Tm.BK (λhb=>ti hb) (λhk=> ?_) ?_
  | refine Tm.bl (λhk=> ?_)
  | refine Tm.bd (h.fu _ (by omega)) (λa k1 hk=> ?_)
  | refine Tm.bd (xf h _ _ (by omega)) (λa k1 hk=> ?_)
  | exact Tm.tail (h.fu _ (by omega)) (λa k1 hk=>by omega)
  | exact Tm.tail (xf h _ _ (by omega)) (λa k1 hk=>by omega)
  | exact Tm.yes (by omega)
  | exact Tm.fail)
theorem tp (h:dY L n p):∀e k,12*(L.length-k)+0<n+1->Tm L (jA L p e k) (L.length-k) (λ_=>0):=by
 intro e k hn;unfold jA
 repeat' (first
  | with_reducible refine Tm.eg (λhk=> ?_) ?_
  | refine Tm.BK (λhb=>ti hb) (λhk=> ?_) ?_
  | refine Tm.bd (h.dm _ _ (by omega)) (λa k1 hk=> ?_)
  | exact Tm.tail (h.dm _ _ (by omega)) (λa k1 hk=>by omega)
  | exact Tm.yes (by omega)
  | exact Tm.fail)
theorem GI (h:dY L n p):∀k,12*(L.length-k)+0<n+1->Tm L (mQ L p k) (L.length-k) (λ_=>1):=by
 intro k hn;unfold mQ
 repeat' (first
  | with_reducible refine Tm.eg (λhk=> ?_) ?_
  | refine Tm.bd (AG h _ (by omega)) (λa k1 hk=> ?_)
  | refine Tm.bd (tp h _ _ (by omega)) (λa k1 hk=> ?_)
  | exact Tm.tail (AG h _ (by omega)) (λa k1 hk=>by omega)
  | exact Tm.tail (tp h _ _ (by omega)) (λa k1 hk=>by omega)
  | exact Tm.yes (by omega)
  | exact Tm.fail)
theorem Lj (h:dY L n p):∀k,12*(L.length-k)+0<n+1->Tm L (vz L p k) (L.length-k) (λ_=>1):=by
 intro k hn;unfold vz
 repeat' (first
  | with_reducible refine Tm.eg (λhk=> ?_) ?_
  | refine Tm.b_ (by decide) (λhk=> ?_)
  | refine Tm.bd (h.fu _ (by omega)) (λa k1 hk=> ?_)
  | exact Tm.tail (h.fu _ (by omega)) (λa k1 hk=>by omega)
  | exact Tm.yes (by omega)
  | exact Tm.fail)
theorem Ef (h:dY L n p):∀e k,12*(L.length-k)+0<n+1->Tm L (te L p e k) (L.length-k) (λ_=>0):=by
 intro e k hn;unfold te
 repeat' (first
  | with_reducible refine Tm.eg (λhk=> ?_) ?_
  | refine Tm.bd (h.gH _ _ (by omega)) (λa k1 hk=> ?_)
  | refine Tm.bd (h.fn _ (by omega)) (λa k1 hk=> ?_)
  | exact Tm.tail (h.gH _ _ (by omega)) (λa k1 hk=>by omega)
  | exact Tm.tail (h.fn _ (by omega)) (λa k1 hk=>by omega)
  | exact Tm.yes (by omega)
  | exact Tm.fail)
theorem GJ (h:dY L n p):∀k,12*(L.length-k)+0<n+1->Tm L (mR L p k) (L.length-k) (λd=>if Option.isSome d=true then 1 else 0):=by
 intro k hn;unfold mR;refine Tm.eg (λhk=> ?_) (Tm.eg (λhk=> ?_) (Tm.yes (Nat.le_refl _)))
 . refine Tm.bd (h.pat _ (by omega)) λa k1 hk1=>Tm.bl λhk2=>Tm.bd (h.exp _ (by omega)) λb k2 hk3=>Tm.yes ?_;show L.length-k2+1<=_;omega
 . refine Tm.bd (h.fn _ (by omega)) λa k1 hk1=>Tm.bd (Ef h _ _ (by omega)) λb k2 hk3=>Tm.yes ?_;show L.length-k2+1<=_;omega
theorem xg (h:dY L n p):∀e k,12*(L.length-k)+1<n+1->Tm L (tg L p e k) (L.length-k) (λ_=>0):=by
 intro e k hn;unfold tg
 repeat' (first
  | with_reducible refine Tm.eg (λhk=> ?_) ?_
  | refine Tm.BK (λhb=>AE hb) (λhk=> ?_) ?_
  | refine Tm.bd (h.bQ _ (by omega)) (λa k1 hk=> ?_)
  | refine Tm.bd (h.p8 _ _ (by omega)) (λa k1 hk=> ?_)
  | exact Tm.tail (h.bQ _ (by omega)) (λa k1 hk=>by omega)
  | exact Tm.tail (h.p8 _ _ (by omega)) (λa k1 hk=>by omega)
  | exact Tm.yes (by omega)
  | exact Tm.fail)
theorem Nc (h:dY L n p):∀k,12*(L.length-k)+0<n+1->Tm L (Je L p k) (L.length-k) (λ_=>1):=by
 intro k hn;unfold Je
 repeat' (first
  | with_reducible refine Tm.eg (λhk=> ?_) ?_
  | refine Tm.bl (λhk=> ?_)
  | refine Tm.b_ (by decide) (λhk=> ?_)
  | refine Tm.bd (h.exp _ (by omega)) (λa k1 hk=> ?_)
  | refine Tm.bd (h.bQ _ (by omega)) (λa k1 hk=> ?_)
  | refine Tm.bd (xg h _ _ (by omega)) (λa k1 hk=> ?_)
  | exact Tm.tail (h.exp _ (by omega)) (λa k1 hk=>by omega)
  | exact Tm.tail (h.bQ _ (by omega)) (λa k1 hk=>by omega)
  | exact Tm.tail (xg h _ _ (by omega)) (λa k1 hk=>by omega)
  | exact Tm.yes (by omega)
  | exact Tm.fail)
theorem Ll (h:dY L n p):∀k,12*(L.length-k)+1<n+1->Tm L (vA L p k) (L.length-k) (λd=>if Option.isSome d=true then 1 else 0):=by
 intro k hn;unfold vA;refine Tm.eg (λhk=> ?_) (Tm.eg (λhk=> ?_) ?_)
 . refine Tm.bd (h.data _ (by omega)) λa k1 hk1=>Tm.yes ?_;show L.length-k1+1<=_;omega
 . refine Tm.bd (h.fY _ (by omega)) λa k1 hk1=>Tm.yes ?_;show L.length-k1+1<=_;omega
 . exact Tm.tail (h.bind _ (by omega)) λa k1 hk1=>hk1
theorem xh (h:dY L n p):∀e k,12*(L.length-k)+0<n+1->Tm L (mi L p e k) (L.length-k) (λ_=>0):=by
 intro e k hn;unfold mi
 repeat' (first
  | with_reducible refine Tm.eg (λhk=> ?_) ?_
  | refine Tm.b_ (by decide) (λhk=> ?_)
  | refine Tm.bd (h.fP _ _ (by omega)) (λa k1 hk=> ?_)
  | exact Tm.tail (h.fP _ _ (by omega)) (λa k1 hk=>by omega)
  | exact Tm.yes (by omega)
  | exact Tm.fail)
theorem AH (h:dY L n p):∀k,12*(L.length-k)+0<n+1->Tm L (pE L p k) (L.length-k) (λ_=>0):=by
 intro k hn;unfold pE
 repeat' (first
  | with_reducible refine Tm.eg (λhk=> ?_) ?_
  | refine Tm.BJ (by decide) (λhk=> ?_) ?_
  | refine Tm.bl (λhk=> ?_)
  | refine Tm.b_ (by decide) (λhk=> ?_)
  | refine Tm.bd (xh h _ _ (by omega)) (λa k1 hk=> ?_)
  | exact Tm.tail (xh h _ _ (by omega)) (λa k1 hk=>by omega)
  | exact Tm.yes (by omega)
  | exact Tm.fail)
theorem tq (h:dY L n p):∀e k,12*(L.length-k)+0<n+1->Tm L (gu L p e k) (L.length-k) (λ_=>0):=by
 intro e k hn;unfold gu
 repeat' (first
  | with_reducible refine Tm.eg (λhk=> ?_) ?_
  | refine Tm.bd (h.fY _ (by omega)) (λa k1 hk=> ?_)
  | refine Tm.bd (h.gI _ _ (by omega)) (λa k1 hk=> ?_)
  | exact Tm.tail (h.fY _ (by omega)) (λa k1 hk=>by omega)
  | exact Tm.tail (h.gI _ _ (by omega)) (λa k1 hk=>by omega)
  | exact Tm.yes (by omega)
  | exact Tm.fail)
theorem GK (h:dY L n p):∀k,12*(L.length-k)+0<n+1->Tm L (mS L p k) (L.length-k) (λ_=>1):=by
 intro k hn;unfold mS
 repeat' (first
  | with_reducible refine Tm.eg (λhk=> ?_) ?_
  | refine Tm.bl (λhk=> ?_)
  | refine Tm.b_ (by decide) (λhk=> ?_)
  | refine Tm.bd (h.fY _ (by omega)) (λa k1 hk=> ?_)
  | refine Tm.bd (AH h _ (by omega)) (λa k1 hk=> ?_)
  | refine Tm.bd (tq h _ _ (by omega)) (λa k1 hk=> ?_)
  | exact Tm.tail (h.fY _ (by omega)) (λa k1 hk=>by omega)
  | exact Tm.tail (AH h _ (by omega)) (λa k1 hk=>by omega)
  | exact Tm.tail (tq h _ _ (by omega)) (λa k1 hk=>by omega)
  | exact Tm.yes (by omega)
  | exact Tm.fail)
theorem GL (h:dY L n p):∀e k,12*(L.length-k)+11<n+1->Tm L (mT L p e k) (L.length-k) (λ_=>0):=by
 intro e k hn;unfold mT
 by_cases hi:(tk L k).k=0
 . rw[if_pos hi];exact Tm.yes (by omega)
 . rw[if_neg hi];refine Tm.bd (h.dec _ (by omega)) λd k1 hk=> ?_;cases d with
   | none=>
     have hk:L.length-k1+0<=L.length-k:=hk;refine Tm.bd (h.exp _ (by omega)) λd k2 hk2=> ?_;have:=@tj L k2 [59];exact Tm.tail (h.bX _ _ (by omega)) λb k3 hk3=>by omega
   | some d=>
     have hk:L.length-k1+1<=L.length-k:=hk;have:=@tj L k1 [59];exact Tm.tail (h.bX _ _ (by omega)) λb k2 hk2=>by omega
theorem Nd:∀n,dY L n (ps L n)
 | 0=>by constructor<;>intros<;>omega
 | n+1=>by
   have h:=Nd n;exact {
    exp:=Le h
    g_:=Lf h
    bin:=Lg h
    gE:=Ec h
    un:=Na h
    gF:=xd h
    atom:=GH h
    dQ:=pF h
    lt:=Nb h
    f_:=xe h
    pat:=Lh h
    bQ:=Ee h
    gG:=tl h
    fu:=Li h
    ee:=tn h
    post:=GI h
    p7:=xf h
    dm:=tp h
    fY:=Lj h
    bind:=GJ h
    gH:=Ef h
    fn:=Nc h
    p8:=xg h
    dec:=Ll h
    data:=GK h
    fP:=xh h
    gI:=tq h
    bX:=GL h }
end
end
end Go.Proofs.YthjhonhhbddhkaaGreatDoor
