/- Texts of this claim, side by side. -/
import Derived.Test.YthjhonhhbddhkaaDoorG3
import Derived.Laws.Tables
import Derived.ShapedOpen
import Derived.Deep.Slices
import Derived.Lib.LaidTab
import Derived.Test.YthjhonhhbddhkaaDoorG4
namespace Go.Ev
open Go.RowKit (Below)
noncomputable section
set_option maxRecDepth 100000
set_option linter.unusedVariables false
set_option linter.unusedSimpArgs false
section
variable {P:Program}{W:World}{φ:bO}
def ji (W:World)(k:Nat):Option (Array Value):=match W.heap[k]? with
 | some (.cells c _ _)=>some c
 | _=>none
def gu (W:World):bO:=(List.range W.heap.size).map λk=>some ⟨k,0,0,ji W k⟩
theorem my (W:World):(gu W).length=W.heap.size:=by simp[gu]
theorem jj {k:Nat}{e:ft}(h:(gu W)[k]? = some (some e)):k<W.heap.size/\e=⟨k,0,0,ji W k⟩:=by
 unfold gu at h;rw[List.getElem?_map]at h
 by_cases hk:k<W.heap.size
 . rw[List.getElem?_range hk]at h;simp at h;exact⟨hk,h.symm⟩
 . rw[List.getElem?_eq_none (by simp;omega)]at h;cases h
theorem sP {k:Nat}(h:k<W.heap.size):(gu W)[k]? = some (some ⟨k,0,0,ji W k⟩):=by
 unfold gu;rw[List.getElem?_map,List.getElem?_range h];rfl
theorem iy (k:Nat):hp (.leaf:T OB) k=none:=by simp[hp]
theorem N9 (hg:P.globals.size<=W.heap.size):HR P W (gu W) (hp .leaf) W where
 below:= .refl _ _
 mg:=λk ob h=>by rw[iy]at h;cases h
 lz:=λk e h=>by obtain⟨h1,rfl⟩:=jj h;exact h1
 inj:=λk k' ob ob' e e' _ _ h=>by rw[iy]at h;cases h
 obj:=λk ob e h=>by rw[iy]at h;cases h
 gl:=λk hk=>⟨_,sP (by omega),rfl⟩
 jV:=λk e c h hf=>by
  obtain⟨h1,rfl⟩:=jj h;unfold ji at hf
  dsimp only at hf ⊢
  split at hf
  . rename_i c' el fz hc;cases hf;exact⟨el,fz,hc⟩
  . cases hf
 nK:=λk k' e e' c ob _ _ _ h=>by rw[iy]at h;cases h
theorem wE (h:W.ShapedOpen P)(hw:P.globals.size<(begin P (λ_ _=>0) default).world.heap.size):P.globals.size<=W.heap.size:=by
 obtain⟨o,_,h1,_⟩:=h.2 P.globals.size (Nat.le_refl _) hw;have:=(Array.getElem?_eq_some_iff.1 h1).1;omega
theorem zQ {a:Addr}{v:Value}(h:W.cell? a=some v):a.block<W.heap.size/\a.spot=none/\∃c,ji W a.block=some c/\c[a.off]? = some v:=by
 unfold World.cell? at h;unfold ji;split at h
 . rename_i c el fz hc;split at h
   . cases h
   . rename_i hs;refine⟨(Array.getElem?_eq_some_iff.1 hc).1,by simpa using hs,c,by rw[hc],h⟩
 . cases h
theorem qQ (a:Addr):a.add 0=a:=rfl
theorem J0 {a:Addr}{len cap s:Nat}{es:List Value}(hlen:es.length=len)(hs:∀x,x∈es->x.cells.toList.length=s)(hpos:0<s)(hcap:len<=cap)
 (hx:∀(i:Nat) (x:Value),es[i]? = some x->∃cs,W.cells? 0 (a.add (i*s)) s=some cs/\LR (gu W) x.cells.toList cs):VR (gu W) (aP s es) (.slice (some a) len cap):=by
 cases es with
 | nil=>subst hlen;exact .nI s a cap
 | cons x0 es=>
   obtain⟨cs0,h0,hl0⟩:=hx 0 x0 rfl;obtain⟨_,hn0,hc0⟩:=World.cells?_some h0;have e0:=hc0 0 hpos;rw[Nat.zero_mul,qQ,qQ,List.getElem?_eq_getElem (by omega)]at e0;obtain⟨hb,hsp,c,hc,_⟩:=zQ e0;obtain⟨b,o,sp⟩:=a
   dsimp only at hb hsp hc
   subst hsp;have key:∀(i j:Nat) (x v:Value),(x0::es)[i]? = some x->x.cells.toList[j]? = some v->∃v',c[o+i*s+j]? = some v'/\VR (gu W) v v':=by
    intro i j x v hi hj;obtain⟨cs,h1,h2⟩:=hx i x hi;obtain⟨_,hn,hc1⟩:=World.cells?_some h1;have hjs:j<s:=by
     have:=(List.getElem?_eq_some_iff.1 hj).1;rw[hs x (List.mem_of_getElem? hi)]at this;exact this
    have e1:=hc1 j hjs;rw[List.getElem?_eq_getElem (by omega)]at e1;have e2:=e1;rw[cq,cq]at e1;obtain⟨_,_,c',hc',e3⟩:=zQ e1
    dsimp only at hc' e3
    rw[hc]at hc';cases hc';exact⟨_,e3,h2.at_ j v _ hj (List.getElem?_eq_getElem _)⟩
   have hrow:=VR.row (φ:=gu W) (k:=b) (o:=o) (c':=cap) (c:=c) (es:=x0::es) (s:=s) (sP hb) hc hs (λ_=> ?_) (by omega) (λi j x v v' hi hj hv=> ?_)
   . subst hlen;exact hrow
   . have hx1:(x0::es)[es.length]? = some ((x0::es)[es.length]'(by simp)):=List.getElem?_eq_getElem _;have hl:=hs _ (List.mem_of_getElem? hx1);obtain⟨v',h1,_⟩:=key es.length (s-1) _ _ hx1 (List.getElem?_eq_getElem (by omega));have:=(Array.getElem?_eq_some_iff.1 h1).1;have e5:(x0::es).length*s=es.length*s+s:=by rw[List.length_cons,Nat.succ_mul]
     omega
   . obtain⟨v'',h1,h2⟩:=key i j x v hi hj;rw[h1]at hv;cases hv;exact h2
end
end
end Go.Ev
namespace Go.Ev
noncomputable section
set_option maxRecDepth 100000
set_option linter.unusedVariables false
set_option linter.unusedSimpArgs false
section
variable {P:Program}{pl:hY}{X:Ext}{H H0 H1:T OB}{nx nx0 aI:Nat}{v u:Value}{R:Go.Ev.Out->T OB->Nat->Prop}
abbrev ar (l:List UInt8):Value:=Value.string ⟨⟨l⟩⟩
def pz (l:List UInt8):List Value:=l.map λx=> .int .u8 (.ofNat x.toNat)
@[simp] theorem J1 (l:List UInt8):(pz l).length=l.length:=by simp[pz]
theorem oG (a b:List UInt8):pz (a++b)=pz a++pz b:=by simp[pz]
theorem Fv (l:List UInt8):(pz l).all ah=true:=by
 induction l with
 | nil=>rfl
 | cons a l ih=>simp[pz,ah]
theorem A7 (l:List UInt8):strOf (pz l)=some l:=by
 induction l with
 | nil=>rfl
 | cons a l ih=>
   show(match strOf (pz l)with | some r=>some (a.toNat.toUInt8::r) | none=>none)=_;rw[ih];simp
theorem aQ (a:List UInt8):(⟨⟨a⟩⟩:ByteArray).size=a.length:=rfl
theorem oH {s:Sem Value}{w:Value}(h:bu P s=some w)(hw:flat w=true):fV P s=some w:=by
 show nf (bu P (vS s))=_;have e:bu P (vS s)=some (Next.value w):=by
  show bu P (s >>= λv=>pure (Next.value v))=_;rw[aX,h];rfl
 rw[e];show(na w λv=>bif flat v then some v else none)=_;rw[ia,hw];rfl
theorem A8 {s d:TypeId}{b off n c:Nat}{l:List Value}{r:List UInt8}{e:TypeId}(hq:dF P s d=true)(h:cK H b l e)(hn:off+n<=l.length)(hr:(l.drop off).take n=pz r):
 dp P H s d (some (.slice (some ⟨b,off,none⟩) n c))=some (ar r):=by
 obtain⟨tr,h1,h2⟩:=h;show(bif dF P s d then o8 (H.get (bits b)) (λm tr=>bif Nat.ble (off+n) m then af (mQ tr n off) (λl=>af (strOf l) (λr=>some (Value.string ⟨⟨r⟩⟩)) none) none else none) none else none)=_;rw[hq,cond_true,h1];show(bif Nat.ble (off+n) l.length then af (mQ tr n off) (λl=>af (strOf l) (λr=>some (Value.string ⟨⟨r⟩⟩)) none) none else none)=_;rw[Nat.ble_eq_true_of_le hn,cond_true,im h2 n off hn,aw,hr,A7];rfl
theorem wF {s d e:TypeId}(hs:P.underlying s=some (.slice e))(he:P.underlying e=some (.int .u8))(hd:P.underlying d=some .string):dp P H s d (some (.slice none 0 0))=some (ar []):=by
 show tE P s d (.slice none 0 0)=_;show(fV P (convert s d (.slice none 0 0)))=_;have e1:bu P (convert s d (.slice none 0 0))=some (ar []):=by
  unfold convert;simp only[aX,bV hs,bV hd,Option.bind_some];simp only[aX,bV he,Option.bind_some];simp[Conv.bytesToString];rfl
 exact oH e1 rfl
theorem ko {s d:TypeId}{k k':IntKind}{n:Int}{ds:TypeDesc}(hs:P.underlying s=some ds)(hd:P.underlying d=some (.int k)):dp P H s d (some (.int k' n))=some (.int k (k.wrap n)):=by
 show tE P s d (.int k' n)=_;show(fV P (convert s d (.int k' n)))=_;have e1:bu P (convert s d (.int k' n))=some (.int k (k.wrap n)):=by
  unfold convert;simp only[aX,bV hs,bV hd,Option.bind_some];rfl
 exact oH e1 rfl
theorem Fw (k:IntKind)(n:Int):mR P .neg (some (.int k n))=some (.int k (k.wrap (0-n))):=by
 show fV P (Op.unary .neg (.int k n))=_;have e:Op.unary .neg (.int k n)=pure (.int k (k.wrap (0-n))):=rfl;rw[e];exact dc rfl
end
section
variable {P:Program}{pl:hY}{X:Ext}{H H0 H1:T OB}{nx nx0 aI:Nat}{v u:Value}{R:Go.Ev.Out->T OB->Nat->Prop}
theorem bj {t:TypeId}(hu:P.underlying t=some .string){l:List UInt8}{i:Nat}{c:UInt8}(h:l[i]? = some c)(k:IntKind):da P t (some (ar l)) (some (.int k (i:Int)))=some (.int .u8 (c.toNat:Int)):=by
 show vu P t (ar l) (.int k i)=_;show fV P (Instr.index t (ar l) (.int k i))=_;have hi:i<l.length:=(List.getElem?_eq_some_iff.1 h).1;have e0:(⟨⟨l⟩⟩:ByteArray)[i]? = some c:=by
  rw[ByteArray.getElem?_lt' _ _ hi];exact(List.getElem?_eq_getElem hi).symm.trans h
 have e1:bu P (Instr.index t (ar l) (.int k i))=some (.int .u8 (c.toNat:Int)):=by
  unfold Instr.index;simp only[asIntOf,aX,bV hu,Option.bind_some];have h0:(0:Int)<=(i:Int):=by omega
  have:bu P (pure (k,(i:Int)):Sem (IntKind×Int))=some (k,(i:Int)):=rfl;simp only[this,Option.bind_some,h0,if_true,Int.toNat_natCast,e0];rfl
 exact oH e1 rfl
def BS (e:TypeId)(nx0:Nat)(H:T OB)(nx:Nat)(r:List UInt8)(sl:Value):Prop:=
 (r=[]/\sl= .slice none 0 0)\/∃b c,nx0<=b/\b<nx/\cK H b (pz r) e/\(c=eC\/c=r.length)/\sl= .slice (some ⟨b,0,none⟩) r.length c
theorem BS.nil (e:TypeId)(nx0:Nat)(H:T OB)(nx:Nat):BS e nx0 H nx [] (.slice none 0 0):= .inl ⟨rfl,rfl⟩
theorem Wq.Mi {t e:TypeId}{n:Nat}{r x:List UInt8}{sl:Value}{vs:List (Nat×Value)}{z:List Value}{k:Value->T OB->Nat->Q}(hu:P.underlying t=some (.slice e))(hs:aE P e=some 1)(hz:bn P e=some z)(hsl:BS e nx0 H nx r sl)(hn:x.length=n)
 (hg:(Nat.ble (n*1) 16777216&&Nat.blt 0 (n*1)&&Nat.blt 0 z.length)=true) (hf:Instr.fill (λi=>some (i*1,1)) (bk z (n*1)) vs=some ⟨pz x⟩) (hsm:∀m,m<=r.length+x.length->a_ P e 1 m=true) (h:Ag nx0 H0 nx H)
 (hk:∀H' sl' nx',BS e nx0 H' nx' (r++x) sl'->Ag nx0 H0 nx' H'->nx<=nx'->ay P pl X (k sl' H' nx') nx0 H0 R):
 ay P pl X (bf (aF P H nx t n (some vs)) λv H nx=>bf (cw P H nx [t,t] (some [sl,v])) k) nx0 H0 R:=by
 have hn0:0<x.length:=by
  rw[hn];simp only[Bool.and_eq_true]at hg;have:=Nat.lt_of_lt_of_le (Nat.zero_lt_one) (Nat.le_of_ble_eq_true hg.1.2);omega
 refine Wq.row hu hs hz hg hf h λH1 hb1 cX hA1=> ?_;have hx1:nv H1 1 (.slice (some ⟨nx,0,none⟩) n n)=some (n,pz x):=Cm hb1 (by simp;exact hn);rcases hsl with⟨rfl,rfl⟩ | ⟨b,c,hb0,hbx,hb,hc,rfl⟩
 . refine Wq.LC hu hs rfl hx1 (hsm _ (by simp;omega)) hA1 (λh0=>by omega) λH2 _ hb2 _ hA2=> ?_;refine hk _ _ _ ?_ hA2 (by omega);exact .inr ⟨nx+1,eC,by have:=h.1;omega,by omega,by simpa using hb2,.inl rfl,by rw[List.nil_append,hn]⟩
 . have hb':=cX _ _ _ hbx hb;rcases hc with rfl | rfl
   . refine Wq.app hu hs hb' hs (by simp) rfl hx1 (Fv x) (hsm _ (by omega)) hA1 hb0 (by omega) λH2 hb2 _ hA2=> ?_;refine hk _ _ _ ?_ hA2 (by omega);exact .inr ⟨nx+1,eC,by have:=h.1;omega,by omega,by rw[oG];exact hb2,.inl rfl,by rw[List.length_append,hn]⟩
   . rw[jD rfl];unfold cC;rw[hu];simp only[hs,aw,hx1,hsm (r.length+n) (by omega),cond_true];obtain⟨tr,h1,h2⟩:=hb'
     by_cases hr:r.length=eC
     . have hh:=hsm r.length (by omega);exact absurd hh (by
        unfold a_;intro q;split at q
        . simp only[Bool.and_eq_true]at q;have:=Nat.le_of_ble_eq_true q.1.2;unfold eC at hr;omega
        . cases q)
     . have e1:pc P H1 (nx+1) e 1 (some ⟨b,0,none⟩) r.length r.length n (pz x)=fZ H1 (nx+1) e (r.length+n) (pz r++pz x):=by
        show tJ P H1 (nx+1) e 1 b 0 r.length r.length n (pz x)=_;unfold tJ;rw[h1];have eu:Nat.beq r.length eC=false:=by
         rw[Bool.eq_false_iff];intro q;rw[Nat.beq_eq]at q;exact hr q
        have el:Nat.ble (r.length+n) r.length=false:=by
         rw[Bool.eq_false_iff];intro q;have:=Nat.le_of_ble_eq_true q;omega
        simp only[cP,eu,cond_false,el];unfold me;rw[show Nat.ble (0+r.length*1) (pz r).length=true from Nat.ble_eq_true_of_le (by simp),show Nat.blt 0 n=true from Nat.ble_eq_true_of_le (by omega)];have:mQ tr (r.length*1) 0=some (pz r):=by rw[im h2 _ _ (by simp)];simp[List.take_of_length_le]
        simp only[Bool.and_self,cond_true,this,aw]
       rw[e1,gd];refine Wq.new (q:=λH n'=>k (.slice (some ⟨nx+1,0,none⟩) (r.length+n) eC) H n') hA1 λH2 hb2 _ hA2=> ?_;refine hk _ _ _ ?_ hA2 (by omega);exact .inr ⟨nx+1,eC,by have:=h.1;omega,by omega,by rw[oG];exact hb2,.inl rfl,by rw[List.length_append,hn]⟩
theorem A9 {s d e:TypeId}{r:List UInt8}{sl:Value}(hs:P.underlying s=some (.slice e))(he:P.underlying e=some (.int .u8))(hd:P.underlying d=some .string)(hq:dF P s d=true){e':TypeId}(h:BS e' nx0 H nx r sl):dp P H s d (some sl)=some (ar r):=by
 rcases h with⟨rfl,rfl⟩ | ⟨b,c,hb0,hbx,hb,hc,rfl⟩
 . exact wF hs he hd
 . exact A8 hq hb (by simp) (by rw[List.drop_zero,List.take_of_length_le (by simp)])
end
end
end Go.Ev
namespace Go.Ev
open Go.RowKit (Below)
noncomputable section
set_option maxRecDepth 100000
set_option linter.unusedVariables false
set_option linter.unusedSimpArgs false
section
def J2 {β:Type}(l:List (Nat×List Value)):T OB->(T OB->β)->β:=
 @List.rec (Nat×List Value) (λ_=>T OB->(T OB->β)->β) (λH k=>k H)
  (λx _ ih H k=>dE x.2 0 .leaf λt=>bD x.2.length λn=>cm (bits x.1) H (some (.ro n t)) λH=>ih H k) l
def j0:List (Nat×List Value)->T OB->T OB
 | [],H=>H
 | x::l,H=>j0 l (set H (bits x.1) (some (.ro x.2.length (dw x.2 0 .leaf))))
theorem zR {β:Type}:∀(l:List (Nat×List Value)) (H:T OB) (k:T OB->β),J2 l H k=k (j0 l H)
 | [],H,k=>rfl
 | x::l,H,k=>by
   show(dE x.2 0 .leaf λt=>bD x.2.length λn=>cm (bits x.1) H (some (.ro n t)) λH=>J2 l H k)=_;rw[cc,aG,aA];exact zR l _ k
theorem oI:∀(l:List (Nat×List Value)) (H:T OB) (k:Nat) (ob:OB),hp (j0 l H) k=some ob->(∃x∈l,x.1=k/\ob= .ro x.2.length (dw x.2 0 .leaf))\/hp H k=some ob
 | [],H,k,ob,h=> .inr h
 | x::l,H,k,ob,h=>by
   rcases oI l _ k ob h with⟨y,hy,h1,h2⟩ | h
   . exact .inl ⟨y,by simp[hy],h1,h2⟩
   . rw[aU]at h
     by_cases hk:k=x.1
     . subst hk;rw[bT]at h;cases h;exact .inl ⟨x,by simp,rfl,rfl⟩
     . rw[az _ hk]at h;exact .inr h
variable {P:Program}{W:World}{φ:bO}
def jE (l:List ByteArray):DataW Unit:= .agg (l.map λz=> .lit (.string z.data.toList))
theorem pH {P:Program}{w:World}{base:Nat}{sp:Nat->Bool}{held:Bool}{fuel:Nat}{t e:TypeId}{n:Nat}{cs:List Value}{l:List ByteArray}{p:List MemPlace}
 (ht:P.underlying t=some (.array n e)) (he:P.underlying e=some .string) (hce:P.cellsOf e=1) (hct:P.cellsOf t=n)
 (h:DataW.trod (λ_=>()) P w base sp held fuel t cs=some (jE l,p)):cs=l.map Value.string:=by
 cases fuel with
 | zero=>simp[DataW.trod]at h
 | succ fuel=>
   simp only[DataW.trod,ht,hce,hct,Nat.mul_one]at h;split at h
   . rename_i hl;obtain⟨xs,hm,hx⟩:=Option.map_eq_some_iff.1 h;have hxs:xs.map (·.1)=l.map λz=>(DataW.lit (.string z.data.toList):DataW Unit):=by
      have:=congrArg Prod.fst hx;simpa[jE]using this
     have hxl:xs.length=n:=by simpa using Lib.mapM_length hm
     have hzl:l.length=n:=by
      have:=congrArg List.length hxs;simp at this;omega
     apply List.ext_getElem?;intro i
     by_cases hi:i<n
     . obtain⟨b,hb,hf⟩:=Lib.mapM_at hm i i (by simp[hi]);obtain⟨z,hc,rfl,_⟩:=DataW.trod_string he hf;have h1:cs[i]? = some (.string z):=by
        have:=congrArg (·[0]?) hc;simpa[List.getElem?_take,List.getElem?_drop]using this
       have h2:(xs.map (·.1))[i]? = some (DataW.lit (.string z.data.toList):DataW Unit):=by simp[hb]
       rw[hxs]at h2;simp only[List.getElem?_map,Option.map_eq_some_iff,DataW.lit.injEq,Lit.string.injEq]at h2;obtain⟨z',hz',hz2⟩:=h2;have:z'=z:=by
        cases z;cases z';simp at hz2;simp[hz2]
       simp[h1,hz',this]
     . rw[List.getElem?_eq_none (by omega),List.getElem?_eq_none (by simp;omega)]
   . cases h
theorem jk {P:Program}{W:World}{name:String}{l:List ByteArray}{rest:List (String×DataW Unit)}{g:Nat}{t e:TypeId}{n:Nat}
 (hg:P.globalNamed name=some g) (hty:(P.globals[g]?).map (·.type)=some t) (ht:P.underlying t=some (.array n e)) (he:P.underlying e=some .string) (hce:P.cellsOf e=1) (hct:P.cellsOf t=n)
 (h:laidMet P ((name,jE l)::rest) W):∃c el fz,W.heap[g]? = some (.cells c el fz)/\c.toList=l.map Value.string:=by
 obtain⟨ps,⟨g',t',cs,fuel,p,q,hg',ht',hvar,hd,_,_⟩,_⟩:=h;obtain rfl:=Option.some.inj (hg.symm.trans hg');obtain rfl:=Option.some.inj (hty.symm.trans ht');have hcs:=pH ht he hce hct hd;unfold World.var? at hvar;rw[hg]at hvar;simp only[Option.bind_some]at hvar;split at hvar
 . rename_i c el fz hb;cases hvar;exact⟨_,_,_,hb,hcs⟩
 . cases hvar
end
end
end Go.Ev
namespace Go.Ev
noncomputable section
set_option maxRecDepth 100000
set_option linter.unusedVariables false
set_option linter.unusedSimpArgs false
section
variable {P:Program}{pl:hY}{X:Ext}{H H0 H1:T OB}{nx nx0 aI:Nat}{v u:Value}{R:Go.Ev.Out->T OB->Nat->Prop}
def mI (H:T OB)(b:Nat)(l:List Value):Prop:=∃tr,H.get (bits b)=some (.ro l.length tr)/\∀i,i<l.length->tr.get (bits i)=l[i]?
theorem mI.ag {b:Nat}{l:List Value}(h:mI H b l)(hA:Ag nx H aI H1)(hb:b<nx):mI H1 b l:=by
 obtain⟨tr,h1,h2⟩:=h;exact⟨tr,(show hp H1 b=_ from(hA.2 b hb).trans h1),h2⟩
theorem lZ {b off:Nat}{l:List Value}{t:TypeId}{u:Value}(h:mI H b l)(ha:cH P t=some false)(hu:l[off]? = some u):aj P H t (some (.pointer (some ⟨b,off,none⟩)))=some u:=by
 obtain⟨tr,h1,h2⟩:=h;have hlt:=(List.getElem?_eq_some_iff.1 hu).1;show iI P H t b off=_;unfold iI;rw[h1];show iR P l.length tr t off=_;unfold iR;rw[ha,aw];show nb l.length tr off=_;unfold nb;have e1:Nat.blt off l.length=true:=Nat.ble_eq_true_of_le hlt;rw[e1,h2 off hlt,hu];rfl
theorem jl {t e:TypeId}{s b off len:Nat}(hu:P.underlying t=some (.array len e))(hs:aE P e=some s)(h0:0<len)(hl:len<9223372036854775808):
 bq P H t (some (.pointer (some ⟨b,off,none⟩))) (some none) (some none) (some none)=some (.slice (some ⟨b,off,none⟩) len len):=by
 show p8 P t (λn s=>af (some 0) (λl=>af (some n) (λh=>iS b off n s l h) none) none) none=_;unfold p8;rw[hu];simp only;rw[hs,aw];show iS b off len s 0 len=_;unfold iS;rw[Nat.ble_eq_true_of_le (Nat.zero_le _),Nat.ble_eq_true_of_le (Nat.le_refl _),show Nat.blt len eC=true from Nat.ble_eq_true_of_le (by unfold eC;omega)];simp only[Bool.and_self,cond_true,aG];rw[show Nat.beq len 0=false from by rw[Bool.eq_false_iff];intro h;rw[Nat.beq_eq]at h;omega];simp
theorem cj {t:TypeId}(hu:P.underlying t=some .string){l:List UInt8}{lo hi:Nat}(h1:lo<=hi)(h2:hi<=l.length)(k k':IntKind):
 bq P H t (some (ar l)) (some (some (.int k (lo:Int)))) (some (some (.int k' (hi:Int)))) (some none)=some (ar ((l.drop lo).take (hi-lo))):=by
 show ng P t (ar l) (some (some (.int k (lo:Int)))) (some (some (.int k' (hi:Int)))) (some none)=_;show fV P (Instr.sliceAt t (ar l) (some (.int k (lo:Int))) (some (.int k' (hi:Int))) none)=_;have e0:(⟨⟨l⟩⟩:ByteArray).extract lo hi=⟨⟨(l.drop lo).take (hi-lo)⟩⟩:=by
  apply ByteArray.ext;rw[ByteArray.data_extract];apply Array.ext';simp
 have e1:bu P (Instr.sliceAt t (ar l) (some (.int k (lo:Int))) (some (.int k' (hi:Int))) none)=some (ar ((l.drop lo).take (hi-lo))):=by
  unfold Instr.sliceAt;simp only[aX,bV hu,Option.bind_some];unfold Instr.slice;simp only[aX,bV hu,Option.bind_some];unfold Instr.sliceBounds Instr.sliceBound;simp only[aX,asIntOf,Option.isSome];have pp:∀{α:Type} (a:α),bu P (pure a:Sem α)=some a:=λ_=>rfl;rw[if_neg (by decide)];simp only[aX,pp,Option.bind_some];have c1:(0:Int)<=(hi:Int)/\(hi:Int)<=((⟨⟨l⟩⟩:ByteArray).size:Int):=⟨by omega,by rw[aQ];omega⟩;have c2:(0:Int)<=(lo:Int)/\(lo:Int)<=(((hi:Int).toNat:Nat):Int):=⟨by omega,by omega⟩;rw[if_pos c1];simp only[pp,Option.bind_some];rw[if_pos c2];simp only[pp,Option.bind_some,Int.toNat_natCast,e0]
 exact oH e1 rfl
end
end
end Go.Ev
namespace Go.Proofs.YthjhonhhbddhkaaDoor
open Go.Ev Go.RowKit
noncomputable section
set_option maxRecDepth 100000
set_option linter.unusedVariables false
set_option linter.unusedSimpArgs false
set_option maxHeartbeats 8000000
section
variable {X:Ext}
theorem aB {i:Nat}(h:i<9223372036854775807):IntKind.i64.wrap ((i:Int)+1)=((i+1:Nat):Int):=by rw[bm (by omega)];omega
theorem Wq.each {nx0:Nat}{H0:T OB}{α σ:Type}(l:List α)(q:Nat->σ->T OB->Nat->Q)(R:List α->σ->Value)(hend:∀s H1 aI,Ag nx0 H0 aI H1->Wq P pl X (q l.length s H1 aI) nx0 H0 (R [] s))
 (hstep:∀i a t s H1 aI,l[i]? = some a->i<l.length->l.drop (i+1)=t->Ag nx0 H0 aI H1->(∀s H2 nx2,Ag nx0 H0 nx2 H2->Wq P pl X (q (i+1) s H2 nx2) nx0 H0 (R t s))->Wq P pl X (q i s H1 aI) nx0 H0 (R (a::t) s))
 (s:σ) (H1:T OB) (aI:Nat) (hA:Ag nx0 H0 aI H1):Wq P pl X (q 0 s H1 aI) nx0 H0 (R l s):=by
 have h:=Wq.up l.length q (λi s=>R (l.drop i) s) (λs H1 aI h=>by simpa using hend s H1 aI h)
  (λi s H1 aI hi ih hA=>by
   have:=hstep i l[i] _ s H1 aI (List.getElem?_eq_getElem hi) hi rfl hA ih;simp only[List.drop_eq_getElem_cons hi];exact this) 0 s H1 aI (Nat.zero_le _) hA
 simpa using h
theorem bc {α:Type}(l:List α):decide ((l.length:Int)<(l.length:Int))=false:=by simp
theorem bh {α:Type}{l:List α}{i:Nat}(h:i<l.length):decide ((i:Int)<(l.length:Int))=true:=by simp[h]
abbrev w (n:Int):Int:=IntKind.i64.wrap n
theorem Wq.jL {nx0:Nat}{H0:T OB}{nx:Nat}{H:T OB}{u v:Value}(e:u=v)(h:Ag nx0 H0 nx H):Wq P pl X (.ret ⟨.ret u,false,H,nx⟩) nx0 H0 v:=by subst e;exact Wq.ret h
theorem Wq.jmp {nx0:Nat}{H0:T OB}{R:Go.Ev.Out->T OB->Nat->Prop}{q:bQ}{t:Q}(e:aV P pl q=t)(hq:∀k,lF X q k=k)(h:ay P pl X t nx0 H0 R):ay P pl X (.jump q) nx0 H0 R:=Wq.jump hq (by rw[e];exact h)
theorem Wq.put {nx0:Nat}{H0:T OB}{nx:Nat}{H:T OB}{R:Go.Ev.Out->T OB->Nat->Prop}{b off:Nat}{l l':List Value}{e t:TypeId}{u:Value}{k:Value->T OB->Nat->Q}(hb:cK H b l e)(hs:aE P t=some 1)(hc:u.cells.toList=[u])(ho:ah u=true)
 (hn:off<l.length) (hl:l.set off u=l') (h:Ag nx0 H0 nx H) (hbn:nx0<=b) (hk:∀H',cK H' b l' e->(∀c l e,c≠b->cK H c l e->cK H' c l e)->Ag nx0 H0 nx H'->ay P pl X (k undef H' nx) nx0 H0 R):
 ay P pl X (bf (bY P H nx t (some (.pointer (some ⟨b,off,none⟩))) (some u)) k) nx0 H0 R:=by
 refine Wq.store hb hs (by omega) (by rw[hc];rfl) (by rw[hc];simp[ho]) h hbn λH' hb' hh hA'=>hk H' ?_ hh hA';rw[hc]at hb';have e1:gg l [u] off=l':=by
  rw[<- hl,List.set_eq_take_append_cons_drop,if_pos hn];unfold gg;simp
 rw[e1]at hb';exact hb'
theorem Wq.qR {nx0:Nat}{H0:T OB}{nx:Nat}{H:T OB}{R:Go.Ev.Out->T OB->Nat->Prop}{f:FuncId}{args:List Value}{u:Value}{k p:Value->T OB->Nat->Q}(hp:Pure P pl X f args u)(h:Ag nx0 H0 nx H)
 (hk:∀H' nx',Ag nx0 H0 nx' H'->nx<=nx'->(∀b l e,b<nx->cK H b l e->cK H' b l e)->ay P pl X (k u H' nx') nx0 H0 R):ay P pl X (cD (.call f args false none H nx) k p) nx0 H0 R:=by
 obtain⟨H1,aI,h1,h2⟩:=hp H nx;obtain⟨v,H2,nx2,h3,hR,h4⟩:=hk H1 aI (h.trans h1) h1.1 (λb l e hb h=>h.ag h1 hb);refine⟨v,H2,nx2,h3,hR,?_⟩;show af (F P pl X (.call f args false none H nx)) (λr=>(match r.o with | .ret v=>k v r.H r.nx | .eW v=>p v r.H r.nx:Q).run (F P pl X)) none=_;rw[h2];exact h4
end
theorem a7:P.underlying 9=some .string:=by kernel_rfl
abbrev b8 (c:UInt8):Value:= .int .u8 (c.toNat:Int)
theorem drop_cons {α:Type}{l t:List α}{a:α}{i:Nat}(h:l.drop i=a::t):l[i]? = some a/\i<l.length/\l.drop (i+1)=t:=by
 have hi:i<l.length:=by
  apply Classical.byContradiction;intro q;rw[List.drop_of_length_le (by omega)]at h;cases h
 rw[List.drop_eq_getElem_cons hi]at h;injection h with h1 h2
 exact⟨by rw[List.getElem?_eq_getElem hi,h1],hi,h2⟩
theorem drop_nil {α:Type}{l:List α}{i:Nat}(h:l.drop i=[])(hi:i<=l.length):i=l.length:=by
 have:=congrArg List.length h;simp at this;omega
def ck (c:UInt8):Bool:=decide (97<=c.toNat)&&decide (c.toNat<=122)
def bW (c:UInt8):Bool:=decide (65<=c.toNat)&&decide (c.toNat<=90)
def bA (c:UInt8):Bool:=decide (48<=c.toNat)&&decide (c.toNat<=57)
def iz (c:UInt8):Bool:=ck c||(bW c||(bA c||(decide (c.toNat=95)||decide (c.toNat=39))))
def j3:List (List UInt8):=[[97,110,100],[97,110,100,97,108,115,111],[99,97,115,101],[100,97,116,97,116,121,112,101],[100,105,118],[101,108,115,101],[101,110,100],[101,120,99,101,112,116,105,111,110],[102,110],[102,117,110],[104,97,110,100,108,101],[105,102],[105,110],[105,116,111,115],[108,101,116],[109,111,100],[110,111,116],[111,102],[111,114,100],[111,114,101,108,115,101],[114,97,105,115,101],[114,101,102],[115,105,122,101],[115,116,114],[116,104,101,110],[118,97,108]]
def bB:List (List UInt8):=[[45,62],[61,62],[58,58],[58,61],[60,61],[62,61],[60,62],[61],[60],[62],[43],[45],[42],[94],[33],[126],[40],[41],[44],[59],[124],[95]]
def dt:List (List UInt8):=[[126],[33],[110,111,116],[114,101,102],[115,105,122,101],[115,116,114],[111,114,100],[105,116,111,115]]
def qS:List UInt8->Bool
 | []=>false
 | c::_=>bW c
def jm (s:List UInt8):Int:=if(qS s||(decide (s=[116,114,117,101])||(decide (s=[102,97,108,115,101])||decide (s=[110,105,108]))))=true then 4 else if j3.contains s=true then 6 else 3
def isWord:List UInt8->Bool
 | []=>false
 | c::r=>(ck c||bW c)&&r.all iz
def isVar:List UInt8->Bool
 | a::b::r=>decide (a.toNat=39)&&(ck b&&r.all λc=> !decide (c.toNat=39)&&iz c)
 | _=>false
structure Tok where
 k:Int
 s:List UInt8
 n:Int
 at_:Int
abbrev Tok.c (t:Tok):List Value:=[i64 t.k,ar t.s,i64 t.n,i64 t.at_]
abbrev Tok.v (t:Tok):Value:= .agg ⟨t.c⟩
def eO (t:Tok):Bool:=
 if t.k=0 then decide (t.s=[])&&decide (t.n=0)
 else if t.k=1 then decide (t.s=[])&&(decide (0<=t.n)&&decide (t.n<=4611686018427387903))
 else if t.k=2 then decide (t.n=0)
 else if t.k=7 then decide (t.n=0)&&bB.contains t.s
 else if t.k=5 then isVar t.s&&decide (t.n=0)
 else if t.k=3\/t.k=4\/t.k=6 then isWord t.s&&(decide (t.n=0)&&decide (jm t.s=t.k))
 else false
def aC:List (List (List UInt8)):=[[[111,114,101,108,115,101]],[[97,110,100,97,108,115,111]],[[58,61]],[[61],[60,62],[60],[60,61],[62],[62,61]],[[58,58]],[[43],[45],[94]],[[42],[100,105,118],[109,111,100]]]
abbrev lvl (l:List (List UInt8)):Value:=aP 1 (l.map ar)
def fD:List (Nat×List Value):=[(0,bB.map ar),(1,j3.map ar),(2,dt.map ar),(3,aC.map lvl)]
def dS (nx0:Nat)(H0:T OB):Prop:=4<=nx0/\∀x∈fD,mI H0 x.1 x.2
theorem dS.ag {nx0 nx:Nat}{H0 H:T OB}(h:dS nx0 H0)(hA:Ag nx0 H0 nx H):dS nx H:=⟨by have:=h.1;have:=hA.1;omega,λx hx=>(h.2 x hx).ag hA (by
 have h7:=h.1;simp only[fD,List.mem_cons,List.not_mem_nil,or_false]at hx;rcases hx with rfl | rfl | rfl | rfl<;>(show _<nx0;omega))⟩
theorem dS.HS {nx0:Nat}{H0:T OB}(h:dS nx0 H0):mI H0 0 (bB.map ar):=h.2 (0,bB.map ar) (by simp[fD])
theorem dS.keys {nx0:Nat}{H0:T OB}(h:dS nx0 H0):mI H0 1 (j3.map ar):=h.2 (1,j3.map ar) (by simp[fD])
theorem dS.levels {nx0:Nat}{H0:T OB}(h:dS nx0 H0):mI H0 3 (aC.map lvl):=h.2 (3,aC.map lvl) (by simp[fD])
theorem dS.words {nx0:Nat}{H0:T OB}(h:dS nx0 H0):mI H0 2 (dt.map ar):=h.2 (2,dt.map ar) (by simp[fD])
abbrev X0:Ext:=λf args=>bif Nat.beq f 7 then(match args with | []=>some (.bool true) | _=>none)else none
abbrev P0 (f:FuncId)(args:List Value)(v:Value):Prop:=Pure P pl X0 f args v
theorem uQ (c:UInt8):P0 39 [b8 c] (.bool (ck c)):=Pure.of rfl λH nx=>by
 rw[Pv];simp only[ab];unfold ck;refine Wq.ite (λh=> ?_) (λh=> ?_)
 . refine Wq.jL ?_ (.refl _ _);rw[show decide (97<=c.toNat)=true from by simp;omega,Bool.true_and];congr 1;rw[decide_eq_decide];omega
 . refine Wq.jL ?_ (.refl _ _);rw[show decide (97<=c.toNat)=false from by simp;omega];rfl
theorem zS (c:UInt8):P0 40 [b8 c] (.bool (bW c)):=Pure.of rfl λH nx=>by
 rw[Pw];simp only[ab];unfold bW;refine Wq.ite (λh=> ?_) (λh=> ?_)
 . refine Wq.jL ?_ (.refl _ _);rw[show decide (65<=c.toNat)=true from by simp;omega,Bool.true_and];congr 1;rw[decide_eq_decide];omega
 . refine Wq.jL ?_ (.refl _ _);rw[show decide (65<=c.toNat)=false from by simp;omega];rfl
theorem zT (c:UInt8):P0 36 [b8 c] (.bool (bA c)):=Pure.of rfl λH nx=>by
 rw[Pr];simp only[ab];unfold bA;refine Wq.ite (λh=> ?_) (λh=> ?_)
 . refine Wq.jL ?_ (.refl _ _);rw[show decide (48<=c.toNat)=true from by simp;omega,Bool.true_and];congr 1;rw[decide_eq_decide];omega
 . refine Wq.jL ?_ (.refl _ _);rw[show decide (48<=c.toNat)=false from by simp;omega];rfl
theorem zU (c:UInt8):P0 43 [b8 c] (.bool (iz c)):=Pure.of rfl λH nx=>by
 rw[Pz];unfold iz;refine Wq.call (uQ c) (.refl _ _) λH1 aI hA1=> ?_;simp only[ab];cases ck c with
 | true=>exact Wq.ret hA1
 | false=>
   simp only[ab,Bool.false_or];refine Wq.call (zS c) hA1 λH2 nx2 hA2=> ?_;simp only[ab];cases bW c with
   | true=>exact Wq.ret hA2
   | false=>
     simp only[ab,Bool.false_or];refine Wq.call (zT c) hA2 λH3 nx3 hA3=> ?_;simp only[ab];cases bA c with
     | true=>exact Wq.ret hA3
     | false=>
       simp only[ab,Bool.false_or];refine Wq.ite (λh=> ?_) (λh=> ?_)
       . refine Wq.jL ?_ hA3;rw[show decide (c.toNat=95)=true from by simp;omega];rfl
       . refine Wq.jL ?_ hA3;rw[show decide (c.toNat=95)=false from by simp;omega,Bool.false_or];congr 1;rw[decide_eq_decide];omega
theorem C_ {nx0:Nat}{H0:T OB}(b:Nat)(l:List (List UInt8))(s:List UInt8)(hb:mI H0 b (l.map ar))(hbx:b<nx0)(hl:l.length<1000000)(cp:Nat):∀(r:List (List UInt8)) (i:Nat) (H:T OB) (nx:Nat),l.drop i=r->i<=l.length->Ag nx0 H0 nx H->
 Wq P pl X0 (.jump (zI (ar s) (.slice (some ⟨b,0,none⟩) l.length cp) (i64 (l.length:Int)) (i64 (i:Int)) H nx)) nx0 H0 (.bool (r.contains s)):=by
 intro r
 induction r with
 | nil=>
   intro i H nx hd hi hA;have hil:=drop_nil hd hi;refine Wq.jmp (HQ ..) (λ_=>rfl) ?_;simp only[ab,hil,bc];exact Wq.ret hA
 | cons x r ih=>
   intro i H nx hd hi hA;obtain⟨hg,hlt,hd'⟩:=drop_cons hd;have hg':(l.map ar)[0+i*1]? = some (ar x):=by simp[hg]
   refine Wq.jmp (HQ ..) (λ_=>rfl) ?_;simp only[ab,bh hlt,Cw hlt,lZ (hb.ag hA hbx) ox hg',aB (show i<9223372036854775807 by omega)];refine Wq.ite (λh=> ?_) (λh=> ?_)
   . exact Wq.jL (by have:x=s:=by simpa using h
                     subst this;simp) hA
   . have hne:x≠s:=λq=>h (by rw[q]);have:((x::r).contains s)=r.contains s:=by rw[List.contains_cons,show(s == x)=false from by simp;exact λq=>hne q.symm,Bool.false_or]
     rw[this];exact ih (i+1) H nx hd' (by omega) hA
def PT (f:FuncId)(args:List Value)(v:Value):Prop:=∀H nx,dS nx H->∃H' nx',Ag nx H nx' H'/\F P pl X0 (.call f args false none H nx)=some ⟨.ret v,false,H',nx'⟩
theorem PT.of {f:FuncId}{args:List Value}{v:Value}(hx:X0 f args=none)(h:∀H nx,dS nx H->Wq P pl X0 (aV P pl (.call f args false none H nx)) nx H v):PT f args v:=λH nx hT=>by
 obtain⟨_,H',nx',h1,⟨_,rfl,rfl⟩,h2⟩:=h H nx hT;refine⟨H',nx',h1,?_⟩;rw[rT];show @Option.rec Value (λ_=>Option Rt) _ (λv=>some ⟨.ret v,false,H,nx⟩) (X0 f args)=_;rw[hx];exact h2
theorem Wq.qT {nx0:Nat}{H0:T OB}{nx:Nat}{H:T OB}{R:Go.Ev.Out->T OB->Nat->Prop}{f:FuncId}{args:List Value}{u:Value}{k p:Value->T OB->Nat->Q}(hT:dS nx0 H0)(hp:PT f args u)(h:Ag nx0 H0 nx H)
 (hk:∀H' nx',Ag nx0 H0 nx' H'->ay P pl X0 (k u H' nx') nx0 H0 R):ay P pl X0 (cD (.call f args false none H nx) k p) nx0 H0 R:=by
 obtain⟨H1,aI,h1,h2⟩:=hp H nx (hT.ag h);obtain⟨v,H2,nx2,h3,hR,h4⟩:=hk H1 aI (h.trans h1);refine⟨v,H2,nx2,h3,hR,?_⟩;show af (F P pl X0 (.call f args false none H nx)) (λr=>(match r.o with | .ret v=>k v r.H r.nx | .eW v=>p v r.H r.nx:Q).run (F P pl X0)) none=_;rw[h2];exact h4
theorem Mj (H:T OB):bq P H 103 (some (.pointer (some ⟨0,0,none⟩))) (some none) (some none) (some none)=some (.slice (some ⟨0,0,none⟩) 22 22):=jl (len:=22) (e:=9) (by kernel_rfl) jK (by omega) (by omega)
theorem J3 (H:T OB):bq P H 122 (some (.pointer (some ⟨1,0,none⟩))) (some none) (some none) (some none)=some (.slice (some ⟨1,0,none⟩) 26 26):=jl (len:=26) (e:=9) (by kernel_rfl) jK (by omega) (by omega)
theorem A_ {nx0:Nat}{H0:T OB}{nx:Nat}{H:T OB}(hT:dS nx0 H0)(s:List UInt8)(hA:Ag nx0 H0 nx H):Wq P pl X0 (aV P pl (.call 44 [.slice (some ⟨1,0,none⟩) 26 26,ar s] false none H nx)) nx0 H0 (.bool (j3.contains s)):=by
 rw[O2];simp only[ab];exact C_ 1 j3 s hT.keys (by have:=hT.1;omega) (by decide) 26 j3 0 H nx rfl (Nat.zero_le _) hA
theorem wG {nx0:Nat}{H0:T OB}{nx:Nat}{H:T OB}(hT:dS nx0 H0)(s:List UInt8)(hA:Ag nx0 H0 nx H):Wq P pl X0 (aV P pl (.call 44 [.slice (some ⟨0,0,none⟩) 22 22,ar s] false none H nx)) nx0 H0 (.bool (bB.contains s)):=by
 rw[O2];simp only[ab];exact C_ 0 bB s hT.HS (by have:=hT.1;omega) (by decide) 22 bB 0 H nx rfl (Nat.zero_le _) hA
theorem HT (c:UInt8)(r:List UInt8):PT 42 [ar (c::r)] (i64 (jm (c::r))):=PT.of rfl λH nx hT=>by
 rw[Py];have hix:=bj (P:=P) a7 (l:=c::r) (i:=0) (c:=c) rfl .i64;rw[show((0:Nat):Int)=0 from rfl]at hix;have L6:∀(b:Bool) H1 aI,Ag nx H aI H1->b=(qS (c::r)||(decide (c::r=[116,114,117,101])||(decide (c::r=[102,97,108,115,101])||decide (c::r=[110,105,108]))))->Wq P pl X0 (.jump (qP (ar (c::r)) b H1 aI)) nx H (i64 (jm (c::r))):=by
  intro b H1 aI hA1 hb;refine Wq.jmp (Mb ..) (λ_=>rfl) ?_;unfold jm;rw[<- hb];refine Wq.bK (λh=> ?_) (λh=> ?_)
  . rw[if_pos h];exact Wq.ret hA1
  . rw[if_neg (by rw[h];decide)];simp only[ab,J3];refine Wq.Co rfl (A_ hT _ hA1) λH2 nx2 hA2=> ?_;simp only[ab];refine Wq.bK (λh2=> ?_) (λh2=> ?_)
    . rw[if_pos h2];exact Wq.ret hA2
    . rw[if_neg (by rw[h2];decide)];exact Wq.ret hA2
 have hb:∀l:List UInt8,decide ((⟨⟨c::r⟩⟩:ByteArray)=⟨⟨l⟩⟩)=decide (c::r=l):=λl=>by rw[decide_eq_decide];simp
 simp only[ab,hix];refine Wq.call (zS c) (.refl _ _) λH1 aI hA1=> ?_;simp only[ab,hb];refine Wq.bK (λh=>L6 _ _ _ hA1 (by show true=(bW c||_);rw[h];rfl)) (λh0=> ?_);refine Wq.bK (λh=>L6 _ _ _ hA1 (by show true=(bW c||_);rw[h0,h];rfl)) (λh1=> ?_);refine Wq.bK (λh=>L6 _ _ _ hA1 (by show true=(bW c||_);rw[h0,h1,h];rfl)) (λh2=> ?_);exact L6 _ _ _ hA1 (by show _=(bW c||_);rw[h0,h1,h2];rfl)
section
variable {nx0:Nat}{H0:T OB}
theorem Fy (t:Tok)(hl:t.s.length<9223372036854775807):∀(r:List UInt8) (i:Nat) (H:T OB) (nx:Nat),t.s.drop i=r->i<=t.s.length->Ag nx0 H0 nx H->
 Wq P pl X0 (.jump (sr (ae t.v) (i64 (i:Int)) H nx)) nx0 H0 (.bool ((r.all λc=> !decide (c.toNat=39)&&iz c)&&decide (t.n=0))):=by
 intro r
 induction r with
 | nil=>
   intro i H nx hd hi hA;have hil:=drop_nil hd hi;refine Wq.jmp (CT ..) (λ_=>rfl) ?_;simp only[ab,aN _ a7,aQ,hil,bc];exact Wq.ret hA
 | cons c r ih=>
   intro i H nx hd hi hA;obtain⟨hg,hlt,hd'⟩:=drop_cons hd;have L36:∀(b:Bool) H1 aI,Ag nx0 H0 aI H1->b= !(!decide (c.toNat=39)&&iz c)->Wq P pl X0 (.jump (ss (ae t.v) (i64 (i:Int)) b H1 aI)) nx0 H0 (.bool (((c::r).all λc=> !decide (c.toNat=39)&&iz c)&&decide (t.n=0))):=by
    intro b H1 aI hA1 hb;refine Wq.jmp (JC ..) (λ_=>rfl) ?_;rw[List.all_cons];refine Wq.bK (λh=> ?_) (λh=> ?_)
    . rw[h]at hb;have:(!decide (c.toNat=39)&&iz c)=false:=by rw[<- Bool.not_inj_iff,<- hb];rfl
      exact Wq.jL (by rw[this];rfl) hA1
    . rw[h]at hb;have:(!decide (c.toNat=39)&&iz c)=true:=by rw[<- Bool.not_inj_iff,<- hb];rfl
      rw[this,Bool.true_and];simp only[ab,aB (show i<9223372036854775807 by omega)];exact ih (i+1) H1 aI hd' (by omega) hA1
   refine Wq.jmp (CT ..) (λ_=>rfl) ?_;simp only[ab,aN _ a7,aQ,bh hlt,bj a7 hg];have e39:decide ((c.toNat:Int)=39)=decide (c.toNat=39):=by rw[decide_eq_decide];omega
   rw[e39];refine Wq.bK (λh=>L36 _ _ _ hA (by rw[h];rfl)) (λh=> ?_);refine Wq.call (zU c) hA λH1 aI hA1=> ?_;simp only[ab];exact L36 _ _ _ hA1 (by rw[h];rfl)
theorem Fz (hT:dS nx0 H0)(t:Tok)(a:UInt8)(s:List UInt8)(hs:t.s=a::s)(hl:t.s.length<9223372036854775807):∀(r:List UInt8) (i:Nat) (H:T OB) (nx:Nat),t.s.drop i=r->i<=t.s.length->Ag nx0 H0 nx H->
 Wq P pl X0 (.jump (su (ae t.v) (i64 (i:Int)) H nx)) nx0 H0 (.bool (r.all iz&&(decide (t.n=0)&&decide (jm t.s=t.k)))):=by
 intro r
 induction r with
 | nil=>
   intro i H nx hd hi hA;have hil:=drop_nil hd hi;refine Wq.jmp (CV ..) (λ_=>rfl) ?_;simp only[ab,aN _ a7,aQ,hil,bc];rw[List.all_nil,Bool.true_and];have p98:=HT a s;rw[<- hs]at p98;refine Wq.bK (λh=> ?_) (λh=> ?_)
   . rw[h,Bool.true_and];refine Wq.qT hT p98 hA λH1 aI hA1=> ?_;simp only[ab,Bool.and_true];exact Wq.ret hA1
   . rw[h,Bool.false_and];exact Wq.ret hA
 | cons c r ih=>
   intro i H nx hd hi hA;obtain⟨hg,hlt,hd'⟩:=drop_cons hd;refine Wq.jmp (CV ..) (λ_=>rfl) ?_;simp only[ab,aN _ a7,aQ,bh hlt,bj a7 hg];refine Wq.call (zU c) hA λH1 aI hA1=> ?_;simp only[ab];rw[List.all_cons];cases iz c with
   | false=>exact Wq.ret hA1
   | true=>
     simp only[ab,aB (show i<9223372036854775807 by omega),Bool.true_and];exact ih (i+1) H1 aI hd' (by omega) hA1
theorem Mk (t:Tok)(hl:t.s.length<9223372036854775807):PT 24 [t.v] (.bool (eO t)):=PT.of rfl λH nx hT=>by
 rw[Pj];refine Wq.uE (.refl _ _) λhA=> ?_;have hE:decide ((⟨⟨t.s⟩⟩:ByteArray)=⟨⟨[]⟩⟩)=decide (t.s=[]):=by rw[decide_eq_decide];simp
 simp only[ab,hE];unfold eO;refine Wq.ite (λh=> ?_) (λh0=> ?_)
 . rw[if_pos h];refine Wq.bK (λh=> ?_) (λh=> ?_)
   . rw[h,Bool.true_and];exact Wq.ret hA
   . rw[h,Bool.false_and];exact Wq.ret hA
 rw[if_neg h0];refine Wq.ite (λh=> ?_) (λh1=> ?_)
 . rw[if_pos h];refine Wq.bK (λh=> ?_) (λh=> ?_)
   . rw[h,Bool.true_and];refine Wq.bK (λh=> ?_) (λh=> ?_)
     . rw[h,Bool.true_and];exact Wq.ret hA
     . rw[h,Bool.false_and];exact Wq.ret hA
   . rw[h,Bool.false_and];exact Wq.ret hA
 rw[if_neg h1];refine Wq.ite (λh=> ?_) (λh2=> ?_)
 . rw[if_pos h];exact Wq.ret hA
 rw[if_neg h2];refine Wq.ite (λh=> ?_) (λh7=> ?_)
 . rw[if_pos h];refine Wq.bK (λh=> ?_) (λh=> ?_)
   . rw[h,Bool.true_and];simp only[ab,Mj];refine Wq.Co rfl (wG hT _ hA) λH2 nx2 hA2=> ?_;simp only[ab];exact Wq.ret hA2
   . rw[h,Bool.false_and];exact Wq.ret hA
 rw[if_neg h7];refine Wq.ite (λh=> ?_) (λh5=> ?_)
 . rw[if_pos h];have L26:∀(b:Bool) H1 aI,Ag nx H aI H1->(b=true->isVar t.s=false)->(b=false->∃c d r,t.s=c::d::r/\isVar t.s=r.all λc=> !decide (c.toNat=39)&&iz c)->Wq P pl X0 (.jump (oA (ae t.v) b H1 aI)) nx H (.bool (isVar t.s&&decide (t.n=0))):=by
    intro b H1 aI hA1 hb1 hb2;refine Wq.jmp (JB ..) (λ_=>rfl) ?_;refine Wq.bK (λh=> ?_) (λh=> ?_)
    . rw[hb1 h];exact Wq.ret hA1
    . obtain⟨c,d,r,hs,hv⟩:=hb2 h;rw[hv];exact Fy t hl r 2 H1 aI (by rw[hs];rfl) (by rw[hs];simp) hA1
   simp only[ab,aN _ a7,aQ];refine Wq.ite (λhl2=>L26 _ _ _ hA (λ_=> ?_) (λq=>by cases q)) (λhl2=> ?_)
   . match hs:t.s with
     | []=>rfl
     | [a]=>rfl
     | a::b::r=>rw[hs]at hl2;simp at hl2;omega
   obtain⟨a,b,r,hs⟩:∃a b r,t.s=a::b::r:=by
    match hs:t.s with
    | []=>rw[hs]at hl2;simp at hl2
    | [a]=>rw[hs]at hl2;simp at hl2
    | a::b::r=>exact⟨a,b,r,rfl⟩
   have i0:=bj (P:=P) a7 (l:=t.s) (i:=0) (c:=a) (by rw[hs];rfl) .i64;have i1:=bj (P:=P) a7 (l:=t.s) (i:=1) (c:=b) (by rw[hs];rfl) .i64;rw[show((0:Nat):Int)=0 from rfl]at i0;rw[show((1:Nat):Int)=1 from rfl]at i1;have hv:isVar t.s=(decide (a.toNat=39)&&(ck b&&r.all λc=> !decide (c.toNat=39)&&iz c)):=by rw[hs];rfl
   have e39:decide ((a.toNat:Int)=39)=decide (a.toNat=39):=by rw[decide_eq_decide];omega
   simp only[ab,i0,i1,e39];refine Wq.bK (λh=>L26 _ _ _ hA (λ_=> ?_) (λq=>by cases q)) (λh=> ?_)
   . rw[hv,show decide (a.toNat=39)=false from by rw[<- Bool.not_inj_iff,h];rfl];rfl
   have ha:decide (a.toNat=39)=true:=by rw[<- Bool.not_inj_iff,h];rfl
   refine Wq.call (uQ b) hA λH1 aI hA1=> ?_;simp only[ab];refine L26 _ _ _ hA1 (λq=> ?_) (λq=>⟨a,b,r,hs,?_⟩)
   . rw[hv,show ck b=false from by rw[<- Bool.not_inj_iff,q];rfl];simp
   . rw[hv,ha,show ck b=true from by rw[<- Bool.not_inj_iff,q];rfl];rfl
 rw[if_neg h5];have L46:Wq P pl X0 (.jump (oB (ae t.v) true H (nx+1))) nx H (.bool (isWord t.s&&(decide (t.n=0)&&decide (jm t.s=t.k)))):=by
  refine Wq.jmp (CS ..) (λ_=>rfl) ?_;cases hs:t.s with
  | nil=>
    have e1:decide ((⟨⟨t.s⟩⟩:ByteArray)=⟨⟨[]⟩⟩)=true:=by rw[hs];simp
    simp only[ab,e1];refine Wq.jmp (CU ..) (λ_=>rfl) ?_;exact Wq.ret hA
  | cons a r=>
    rw[<- hs];have i0:=bj (P:=P) a7 (l:=a::r) (i:=0) (c:=a) rfl .i64;rw[show((0:Nat):Int)=0 from rfl]at i0;have hne:decide ((⟨⟨a::r⟩⟩:ByteArray)=⟨⟨[]⟩⟩)=false:=by simp
    have hw:isWord t.s=((ck a||bW a)&&r.all iz):=by rw[hs];rfl
    have L48:∀(b:Bool) H1 aI,Ag nx H aI H1->b= !(ck a||bW a)->Wq P pl X0 (.jump (oC (ae t.v) b H1 aI)) nx H (.bool (isWord t.s&&(decide (t.n=0)&&decide (jm t.s=t.k)))):=by
     intro b H1 aI hA1 hb;refine Wq.jmp (CU ..) (λ_=>rfl) ?_;rw[hw];refine Wq.bK (λh=> ?_) (λh=> ?_)
     . have:(ck a||bW a)=false:=by rw[<- Bool.not_inj_iff,<- hb,h];rfl
       exact Wq.jL (by rw[this];rfl) hA1
     . have h1:(ck a||bW a)=true:=by rw[<- Bool.not_inj_iff,<- hb,h];rfl
       rw[h1,Bool.true_and];exact Fz hT t a r hs hl r 1 H1 aI (by rw[hs];rfl) (by rw[hs];simp) hA1
    have e0:da P 9 (some (ar t.s)) (some (.int .i64 0))=some (.int .u8 (a.toNat:Int)):=by rw[hs];exact i0
    have e1:decide ((⟨⟨t.s⟩⟩:ByteArray)=⟨⟨[]⟩⟩)=false:=by rw[hs];exact hne
    simp only[ab,e0,e1];refine Wq.call (uQ a) hA λH1 aI hA1=> ?_;simp only[ab];cases jW:ck a with
    | true=>
      simp only[ab];exact L48 false _ _ hA1 (by rw[jW];rfl)
    | false=>
      simp only[ab];refine Wq.call (zS a) hA1 λH2 nx2 hA2=> ?_;simp only[ab];exact L48 (!bW a) _ _ hA2 (by rw[jW];rfl)
 refine Wq.ite (λh3=> ?_) (λh3=> ?_)
 . rw[if_pos (Or.inl h3),show decide (t.k=3)=true from by simp[h3]];exact L46
 refine Wq.ite (λh4=> ?_) (λh4=> ?_)
 . rw[if_pos (Or.inr (Or.inl h4)),show decide (t.k=4)=true from by simp[h4]];exact L46
 by_cases h6:t.k=6
 . rw[if_pos (Or.inr (Or.inr h6)),show decide (t.k=6)=true from by simp[h6]];exact L46
 . rw[if_neg (by omega),show decide (t.k=6)=false from by simp[h6]];refine Wq.jmp (CS ..) (λ_=>rfl) ?_;exact Wq.ret hA
end
inductive aD where
 | mk (k n:Int) (s:List UInt8) (l:List aD)
inductive aY where
 | mk (k:Int) (s:List UInt8) (l:List aY)
structure dk where
 s:List UInt8
 arg:List aY
structure Data where
 vars:List (List UInt8)
 s:List UInt8
 cons:List dk
mutual
inductive au where
 | mk (k n:Int) (s:List UInt8) (l:List au) (p:List aD) (d:List aJ)
inductive aJ where
 | mk (k:Int) (p:aD) (e:au) (f:List Fn) (x:Data) (c:dk)
inductive Fn where
 | mk (s:List UInt8) (p:List aD) (b:au)
end
def aD.k:aD->Int | .mk k _ _ _=>k
def aD.n:aD->Int | .mk _ n _ _=>n
def aD.s:aD->List UInt8 | .mk _ _ s _=>s
def aD.l:aD->List aD | .mk _ _ _ l=>l
def aY.k:aY->Int | .mk k _ _=>k
def aY.s:aY->List UInt8 | .mk _ s _=>s
def aY.l:aY->List aY | .mk _ _ l=>l
def au.k:au->Int | .mk k _ _ _ _ _=>k
def au.n:au->Int | .mk _ n _ _ _ _=>n
def au.s:au->List UInt8 | .mk _ _ s _ _ _=>s
def au.l:au->List au | .mk _ _ _ l _ _=>l
def au.p:au->List aD | .mk _ _ _ _ p _=>p
def au.d:au->List aJ | .mk _ _ _ _ _ d=>d
def aJ.k:aJ->Int | .mk k _ _ _ _ _=>k
def aJ.p:aJ->aD | .mk _ p _ _ _ _=>p
def aJ.e:aJ->au | .mk _ _ e _ _ _=>e
def aJ.f:aJ->List Fn | .mk _ _ _ f _ _=>f
def aJ.x:aJ->Data | .mk _ _ _ _ x _=>x
def aJ.c:aJ->dk | .mk _ _ _ _ _ c=>c
def Fn.s:Fn->List UInt8 | .mk s _ _=>s
def Fn.p:Fn->List aD | .mk _ p _=>p
def Fn.b:Fn->au | .mk _ _ b=>b
mutual
def aD.cs:aD->List Value
 | .mk k n s l=>[i64 k,i64 n,ar s,aP 4 (uR l)]
def uR:List aD->List Value
 | []=>[]
 | p::l=> .agg ⟨p.cs⟩::uR l
end
mutual
def aY.cs:aY->List Value
 | .mk k s l=>[i64 k,ar s,aP 3 (Da l)]
def Da:List aY->List Value
 | []=>[]
 | p::l=> .agg ⟨p.cs⟩::Da l
end
def aD.v (p:aD):Value:= .agg ⟨p.cs⟩
def aY.v (p:aY):Value:= .agg ⟨p.cs⟩
abbrev cu (l:List aD):Value:=aP 4 (l.map aD.v)
abbrev jM (l:List aY):Value:=aP 3 (l.map aY.v)
abbrev la (l:List (List UInt8)):Value:=aP 1 (l.map ar)
def dk.cs (c:dk):List Value:=[ar c.s,jM c.arg]
def dk.v (c:dk):Value:= .agg ⟨c.cs⟩
abbrev mz (l:List dk):Value:=aP 2 (l.map dk.v)
def Data.cs (x:Data):List Value:=[la x.vars,ar x.s,mz x.cons]
def Data.v (x:Data):Value:= .agg ⟨x.cs⟩
mutual
def au.cs:au->List Value
 | .mk k n s l p d=>[i64 k,i64 n,ar s,aP 6 (uU l),cu p,aP 17 (uV d)]
def aJ.cs:aJ->List Value
 | .mk k p e f x c=>i64 k::(p.cs++(e.cs++(aP 8 (Db f)::(x.cs++c.cs))))
def Fn.cs:Fn->List Value
 | .mk s p b=>ar s::cu p::b.cs
def uU:List au->List Value
 | []=>[]
 | p::l=> .agg ⟨p.cs⟩::uU l
def uV:List aJ->List Value
 | []=>[]
 | p::l=> .agg ⟨p.cs⟩::uV l
def Db:List Fn->List Value
 | []=>[]
 | p::l=> .agg ⟨p.cs⟩::Db l
end
def au.v (p:au):Value:= .agg ⟨p.cs⟩
def aJ.v (p:aJ):Value:= .agg ⟨p.cs⟩
def Fn.v (p:Fn):Value:= .agg ⟨p.cs⟩
abbrev fy (l:List au):Value:=aP 6 (l.map au.v)
abbrev cU (l:List aJ):Value:=aP 17 (l.map aJ.v)
abbrev Ba (l:List Fn):Value:=aP 8 (l.map Fn.v)
theorem Dc (l:List aD):uR l=l.map aD.v:=by
 induction l with
 | nil=>rw[uR];rfl
 | cons s l ih=>rw[uR,ih];rfl
theorem FA (l:List aY):Da l=l.map aY.v:=by
 induction l with
 | nil=>rw[Da];rfl
 | cons s l ih=>rw[Da,ih];rfl
theorem Dd (l:List au):uU l=l.map au.v:=by
 induction l with
 | nil=>rw[uU];rfl
 | cons s l ih=>rw[uU,ih];rfl
theorem De (l:List aJ):uV l=l.map aJ.v:=by
 induction l with
 | nil=>rw[uV];rfl
 | cons s l ih=>rw[uV,ih];rfl
theorem FC (l:List Fn):Db l=l.map Fn.v:=by
 induction l with
 | nil=>rw[Db];rfl
 | cons s l ih=>rw[Db,ih];rfl
theorem aD.gh (p:aD):p.cs=[i64 p.k,i64 p.n,ar p.s,cu p.l]:=by cases p;rw[aD.cs,Dc];rfl
theorem aY.gh (p:aY):p.cs=[i64 p.k,ar p.s,jM p.l]:=by cases p;rw[aY.cs,FA];rfl
theorem au.gh (p:au):p.cs=[i64 p.k,i64 p.n,ar p.s,fy p.l,cu p.p,cU p.d]:=by cases p;rw[au.cs,Dd,De];rfl
theorem Fn.gh (p:Fn):p.cs=[ar p.s,cu p.p,i64 p.b.k,i64 p.b.n,ar p.b.s,fy p.b.l,cu p.b.p,cU p.b.d]:=by cases p;rw[Fn.cs,au.gh];rfl
theorem aJ.gh (p:aJ):p.cs=[i64 p.k,i64 p.p.k,i64 p.p.n,ar p.p.s,cu p.p.l,i64 p.e.k,i64 p.e.n,ar p.e.s,fy p.e.l,cu p.e.p,cU p.e.d,Ba p.f,la p.x.vars,ar p.x.s,mz p.x.cons,ar p.c.s,jM p.c.arg]:=by cases p;rw[aJ.cs,au.gh,aD.gh,FC];rfl
theorem aD.aW (p:aD):p.v= .agg ⟨[i64 p.k,i64 p.n,ar p.s,cu p.l]⟩:=by rw[aD.v,aD.gh]
theorem aY.aW (p:aY):p.v= .agg ⟨[i64 p.k,ar p.s,jM p.l]⟩:=by rw[aY.v,aY.gh]
theorem au.aW (p:au):p.v= .agg ⟨[i64 p.k,i64 p.n,ar p.s,fy p.l,cu p.p,cU p.d]⟩:=by rw[au.v,au.gh]
theorem Fn.aW (p:Fn):p.v= .agg ⟨[ar p.s,cu p.p,i64 p.b.k,i64 p.b.n,ar p.b.s,fy p.b.l,cu p.b.p,cU p.b.d]⟩:=by rw[Fn.v,Fn.gh]
theorem dk.aW (p:dk):p.v= .agg ⟨[ar p.s,jM p.arg]⟩:=rfl
theorem Data.aW (p:Data):p.v= .agg ⟨[la p.vars,ar p.s,mz p.cons]⟩:=rfl
theorem aJ.aW (p:aJ):p.v= .agg ⟨[i64 p.k,i64 p.p.k,i64 p.p.n,ar p.p.s,cu p.p.l,i64 p.e.k,i64 p.e.n,ar p.e.s,fy p.e.l,cu p.e.p,cU p.e.d,Ba p.f,la p.x.vars,ar p.x.s,mz p.x.cons,ar p.c.s,jM p.c.arg]⟩:=by rw[aJ.v,aJ.gh]
theorem aD.ind {p:aD->Prop}(h:∀t:aD,(∀c,c∈t.l->p c)->p t)(t:aD):p t:=
 aD.rec (motive_1:=p) (motive_2:=λl=>∀c,c∈l->p c) (λk n s l h1=>h _ h1) (λc hc=>nomatch hc) (λa l h1 h2 c hc=>(List.mem_cons.1 hc).elim (λe=>e ▸ h1) (h2 c)) t
theorem aY.ind {p:aY->Prop}(h:∀t:aY,(∀c,c∈t.l->p c)->p t)(t:aY):p t:=
 aY.rec (motive_1:=p) (motive_2:=λl=>∀c,c∈l->p c) (λk s l h1=>h _ h1) (λc hc=>nomatch hc) (λa l h1 h2 c hc=>(List.mem_cons.1 hc).elim (λe=>e ▸ h1) (h2 c)) t
theorem au.ind {p:au->Prop}{q:aJ->Prop}(h:∀t:au,(∀c,c∈t.l->p c)->(∀c,c∈t.d->q c)->p t)(h':∀t:aJ,p t.e->(∀f,f∈t.f->p f.b)->q t)(t:au):p t:=
 au.rec (motive_1:=p) (motive_2:=q) (motive_3:=λf=>p f.b) (motive_4:=λl=>∀c,c∈l->p c) (motive_5:=λl=>∀c,c∈l->q c) (motive_6:=λl=>∀f,f∈l->p f.b)
  (λk n s l pt d h1 h2=>h _ h1 h2) (λk pt e f x c h1 h2=>h' _ h1 h2) (λs pt b h1=>h1)
  (λc hc=>nomatch hc) (λa l h1 h2 c hc=>(List.mem_cons.1 hc).elim (λe=>e ▸ h1) (h2 c))
  (λc hc=>nomatch hc) (λa l h1 h2 c hc=>(List.mem_cons.1 hc).elim (λe=>e ▸ h1) (h2 c))
  (λc hc=>nomatch hc) (λa l h1 h2 c hc=>(List.mem_cons.1 hc).elim (λe=>e ▸ h1) (h2 c)) t
theorem aJ.ind {p:au->Prop}{q:aJ->Prop}(h:∀t:au,(∀c,c∈t.l->p c)->(∀c,c∈t.d->q c)->p t)(h':∀t:aJ,p t.e->(∀f,f∈t.f->p f.b)->q t)(t:aJ):q t:=h' t (au.ind h h' _) λf _=>au.ind h h' _
abbrev ee:Nat:=1125899906842624
abbrev eQ (s:List UInt8):Prop:=s.length<140737488355328
abbrev rg (n:Int):Prop:= -9223372036854775808<=n/\n<9223372036854775808
mutual
def aD.ok:aD->Prop
 | .mk k n s l=>rg n/\eQ s/\l.length<ee/\oJ l
def oJ:List aD->Prop
 | []=>True
 | p::l=>p.ok/\oJ l
end
mutual
def aY.ok:aY->Prop
 | .mk k s l=>eQ s/\l.length<ee/\uW l
def uW:List aY->Prop
 | []=>True
 | p::l=>p.ok/\uW l
end
def dk.ok (c:dk):Prop:=eQ c.s/\c.arg.length<ee/\∀t,t∈c.arg->t.ok
def Data.ok (x:Data):Prop:=(x.vars.length<ee/\∀s,s∈x.vars->eQ s)/\eQ x.s/\x.cons.length<ee/\∀c,c∈x.cons->c.ok
mutual
def au.ok:au->Prop
 | .mk k n s l p d=>rg n/\eQ s/\(l.length<ee/\oK l)/\(p.length<ee/\∀q,q∈p->q.ok)/\d.length<ee/\oL d
def aJ.ok:aJ->Prop
 | .mk k p e f x c=>p.ok/\e.ok/\(f.length<ee/\uX f)/\x.ok/\c.ok
def Fn.ok:Fn->Prop
 | .mk s p b=>eQ s/\(p.length<ee/\∀q,q∈p->q.ok)/\b.ok
def oK:List au->Prop
 | []=>True
 | p::l=>p.ok/\oK l
def oL:List aJ->Prop
 | []=>True
 | p::l=>p.ok/\oL l
def uX:List Fn->Prop
 | []=>True
 | p::l=>p.ok/\uX l
end
theorem wH (l:List aD):oJ l↔∀c,c∈l->c.ok:=by
 induction l with
 | nil=>simp[oJ]
 | cons s l ih=>simp[oJ,ih]
theorem Bb (l:List aY):uW l↔∀c,c∈l->c.ok:=by
 induction l with
 | nil=>simp[uW]
 | cons s l ih=>simp[uW,ih]
theorem wI (l:List au):oK l↔∀c,c∈l->c.ok:=by
 induction l with
 | nil=>simp[oK]
 | cons s l ih=>simp[oK,ih]
theorem wJ (l:List aJ):oL l↔∀c,c∈l->c.ok:=by
 induction l with
 | nil=>simp[oL]
 | cons s l ih=>simp[oL,ih]
theorem Bc (l:List Fn):uX l↔∀c,c∈l->c.ok:=by
 induction l with
 | nil=>simp[uX]
 | cons s l ih=>simp[uX,ih]
theorem aD.dK (p:aD):p.ok↔rg p.n/\eQ p.s/\p.l.length<ee/\∀c,c∈p.l->c.ok:=by cases p;rw[aD.ok,wH];rfl
theorem aY.dK (p:aY):p.ok↔eQ p.s/\p.l.length<ee/\∀c,c∈p.l->c.ok:=by cases p;rw[aY.ok,Bb];rfl
theorem au.dK (p:au):p.ok↔rg p.n/\eQ p.s/\(p.l.length<ee/\∀c,c∈p.l->c.ok)/\(p.p.length<ee/\∀c,c∈p.p->c.ok)/\p.d.length<ee/\∀c,c∈p.d->c.ok:=by cases p;rw[au.ok,wI,wJ];rfl
theorem aJ.dK (p:aJ):p.ok↔p.p.ok/\p.e.ok/\(p.f.length<ee/\∀c,c∈p.f->c.ok)/\p.x.ok/\p.c.ok:=by cases p;rw[aJ.ok,Bc];rfl
theorem Fn.dK (p:Fn):p.ok↔eQ p.s/\(p.p.length<ee/\∀c,c∈p.p->c.ok)/\p.b.ok:=by cases p;rw[Fn.ok];rfl
theorem Df (e:au):aa P 44 (some (ae e.v)) 0=some (ae (i64 e.k)):=by rw[au.aW];kernel_rfl
theorem Dg (e:au):aa P 44 (some (ae e.v)) 1=some (ae (i64 e.n)):=by rw[au.aW];kernel_rfl
theorem Dh (e:au):aa P 44 (some (ae e.v)) 2=some (ae (ar e.s)):=by rw[au.aW];kernel_rfl
theorem Di (e:au):aa P 44 (some (ae e.v)) 3=some (ae (fy e.l)):=by rw[au.aW];kernel_rfl
theorem Dj (e:au):aa P 44 (some (ae e.v)) 4=some (ae (cu e.p)):=by rw[au.aW];kernel_rfl
theorem Dk (e:au):aa P 44 (some (ae e.v)) 5=some (ae (cU e.d)):=by rw[au.aW];kernel_rfl
theorem Ml (H:T OB)(e:au):aj P H 44 (some (ae e.v))=some e.v:=by rw[au.aW];kernel_rfl
theorem N_ (e:au):e.v.cells.toList.length=6:=by rw[au.aW];rfl
theorem Oa (e:au):e.v.cells.toList.all ah=true:=by rw[au.aW];rfl
theorem Dl (e:aJ):aa P 54 (some (ae e.v)) 0=some (ae (i64 e.k)):=by rw[aJ.aW];kernel_rfl
theorem Dm (e:aJ):aa P 54 (some (ae e.v)) 1=some (ae (e.p.v)):=by rw[aJ.aW];rw[aD.aW];kernel_rfl
theorem Dn (e:aJ):aa P 54 (some (ae e.v)) 2=some (ae (e.e.v)):=by rw[aJ.aW];rw[au.aW];kernel_rfl
theorem Dp (e:aJ):aa P 54 (some (ae e.v)) 3=some (ae (Ba e.f)):=by rw[aJ.aW];kernel_rfl
theorem Dq (e:aJ):aa P 54 (some (ae e.v)) 4=some (ae (e.x.v)):=by rw[aJ.aW];rw[Data.aW];kernel_rfl
theorem Dr (e:aJ):aa P 54 (some (ae e.v)) 5=some (ae (e.c.v)):=by rw[aJ.aW];rw[dk.aW];kernel_rfl
theorem Mm (H:T OB)(e:aJ):aj P H 54 (some (ae e.v))=some e.v:=by rw[aJ.aW];kernel_rfl
theorem Ob (e:aJ):e.v.cells.toList.length=17:=by rw[aJ.aW];rfl
theorem Oc (e:aJ):e.v.cells.toList.all ah=true:=by rw[aJ.aW];rfl
theorem HU (e:Fn):aa P 64 (some (ae e.v)) 0=some (ae (ar e.s)):=by rw[Fn.aW];kernel_rfl
theorem HV (e:Fn):aa P 64 (some (ae e.v)) 1=some (ae (cu e.p)):=by rw[Fn.aW];kernel_rfl
theorem HW (e:Fn):aa P 64 (some (ae e.v)) 2=some (ae (e.b.v)):=by rw[Fn.aW];rw[au.aW];kernel_rfl
theorem O5 (H:T OB)(e:Fn):aj P H 64 (some (ae e.v))=some e.v:=by rw[Fn.aW];kernel_rfl
theorem P9 (e:Fn):e.v.cells.toList.length=8:=by rw[Fn.aW];rfl
theorem P_ (e:Fn):e.v.cells.toList.all ah=true:=by rw[Fn.aW];rfl
theorem zV (e:Data):aa P 49 (some (ae e.v)) 0=some (ae (la e.vars)):=by rw[Data.aW];kernel_rfl
theorem zW (e:Data):aa P 49 (some (ae e.v)) 1=some (ae (ar e.s)):=by rw[Data.aW];kernel_rfl
theorem zX (e:Data):aa P 49 (some (ae e.v)) 2=some (ae (mz e.cons)):=by rw[Data.aW];kernel_rfl
theorem HX (H:T OB)(e:Data):aj P H 49 (some (ae e.v))=some e.v:=by rw[Data.aW];kernel_rfl
theorem Ds (e:dk):aa P 52 (some (ae e.v)) 0=some (ae (ar e.s)):=by rw[dk.aW];kernel_rfl
theorem Dt (e:dk):aa P 52 (some (ae e.v)) 1=some (ae (jM e.arg)):=by rw[dk.aW];kernel_rfl
theorem Mn (H:T OB)(e:dk):aj P H 52 (some (ae e.v))=some e.v:=by rw[dk.aW];kernel_rfl
theorem Od (e:dk):e.v.cells.toList.length=2:=by rw[dk.aW];rfl
theorem Oe (e:dk):e.v.cells.toList.all ah=true:=by rw[dk.aW];rfl
theorem Du (e:aD):aa P 41 (some (ae e.v)) 0=some (ae (i64 e.k)):=by rw[aD.aW];kernel_rfl
theorem Dv (e:aD):aa P 41 (some (ae e.v)) 1=some (ae (i64 e.n)):=by rw[aD.aW];kernel_rfl
theorem Dw (e:aD):aa P 41 (some (ae e.v)) 2=some (ae (ar e.s)):=by rw[aD.aW];kernel_rfl
theorem Dx (e:aD):aa P 41 (some (ae e.v)) 3=some (ae (cu e.l)):=by rw[aD.aW];kernel_rfl
theorem Mo (H:T OB)(e:aD):aj P H 41 (some (ae e.v))=some e.v:=by rw[aD.aW];kernel_rfl
theorem J4 (e:aD):e.v.cells.toList.length=4:=by rw[aD.aW];rfl
theorem J5 (e:aD):e.v.cells.toList.all ah=true:=by rw[aD.aW];rfl
theorem Dy (e:aY):aa P 84 (some (ae e.v)) 0=some (ae (i64 e.k)):=by rw[aY.aW];kernel_rfl
theorem Dz (e:aY):aa P 84 (some (ae e.v)) 1=some (ae (ar e.s)):=by rw[aY.aW];kernel_rfl
theorem DA (e:aY):aa P 84 (some (ae e.v)) 2=some (ae (jM e.l)):=by rw[aY.aW];kernel_rfl
theorem Mp (H:T OB)(e:aY):aj P H 84 (some (ae e.v))=some e.v:=by rw[aY.aW];kernel_rfl
theorem J6 (e:aY):e.v.cells.toList.length=3:=by rw[aY.aW];rfl
theorem J7 (e:aY):e.v.cells.toList.all ah=true:=by rw[aY.aW];rfl
theorem eR:type_of% (And.intro @Df (And.intro @Dg (And.intro @Dh (And.intro @Di (And.intro @Dj (And.intro @Dk (And.intro @Ml (And.intro @Dl (And.intro @Dm (And.intro @Dn (And.intro @Dp (And.intro @Dq (And.intro @Dr (And.intro @Mm (And.intro @HU (And.intro @HV (And.intro @HW (And.intro @O5 (And.intro @zV (And.intro @zW (And.intro @zX (And.intro @HX (And.intro @Ds (And.intro @Dt (And.intro @Mn (And.intro @Du (And.intro @Dv (And.intro @Dw (And.intro @Dx (And.intro @Mo (And.intro @Dy (And.intro @Dz (And.intro @DA @Mp))))))))))))))))))))))))))))))))):=And.intro @Df (And.intro @Dg (And.intro @Dh (And.intro @Di (And.intro @Dj (And.intro @Dk (And.intro @Ml (And.intro @Dl (And.intro @Dm (And.intro @Dn (And.intro @Dp (And.intro @Dq (And.intro @Dr (And.intro @Mm (And.intro @HU (And.intro @HV (And.intro @HW (And.intro @O5 (And.intro @zV (And.intro @zW (And.intro @zX (And.intro @HX (And.intro @Ds (And.intro @Dt (And.intro @Mn (And.intro @Du (And.intro @Dv (And.intro @Dw (And.intro @Dx (And.intro @Mo (And.intro @Dy (And.intro @Dz (And.intro @DA @Mp))))))))))))))))))))))))))))))))
section
variable {nx0:Nat}{H0:T OB}
def mx (a b:Int):Int:=if b>a then b else a
theorem gv (ts:Array TypeId)(t:TypeId)(a b:Int):g9 P .max ts t (some [.int .i64 a,.int .i64 b])=some (i64 (mx a b)):=Fm ts t a b
mutual
def pJ:aD->Int
 | .mk _ _ _ l=>w (gP l 0+1)
def gP:List aD->Int->Int
 | [],n=>n
 | p::l,n=>gP l (mx n (pJ p))
end
mutual
def La:aY->Int
 | .mk _ _ l=>w (pK l 0+1)
def pK:List aY->Int->Int
 | [],n=>n
 | p::l,n=>pK l (mx n (La p))
end
def qU:List dk->Int->Int
 | [],n=>n
 | c::l,n=>qU l (pK c.arg n)
mutual
def eF:au->Int
 | .mk _ _ _ l p d=>w (gP p (qV l (iN d 0))+1)
def EP:aJ->Int
 | .mk k p e f x c=>if k=1 then mx (pJ p) (eF e)else if k=5 then eF e else if k=2 then Bd f 0 else if k=3 then qU x.cons 0 else if k=4 then pK c.arg 0 else 0
def Of:Fn->Int->Int
 | .mk _ p b,n=>gP p (mx n (eF b))
def qV:List au->Int->Int
 | [],n=>n
 | e::l,n=>qV l (mx n (eF e))
def iN:List aJ->Int->Int
 | [],n=>n
 | d::l,n=>iN l (mx n (w (EP d+1)))
def Bd:List Fn->Int->Int
 | [],n=>n
 | f::l,n=>Bd l (Of f n)
end
theorem zY (p:aD):pJ p=w (gP p.l 0+1):=by cases p;rw[pJ];rfl
theorem J8 (p:aY):La p=w (pK p.l 0+1):=by cases p;rw[La];rfl
theorem zZ (p:au):eF p=w (gP p.p (qV p.l (iN p.d 0))+1):=by cases p;rw[eF];rfl
theorem DB (d:aJ):EP d=if d.k=1 then mx (pJ d.p) (eF d.e)else if d.k=5 then eF d.e else if d.k=2 then Bd d.f 0 else if d.k=3 then qU d.x.cons 0 else if d.k=4 then pK d.c.arg 0 else 0:=by cases d;rw[EP];rfl
theorem J9 (f:Fn)(n:Int):Of f n=gP f.p (mx n (eF f.b)):=by cases f;rw[Of];rfl
theorem gi {n:Nat}(h:n<ee):n<9223372036854775807:=Nat.lt_trans h (by decide)
theorem J_ (l:List aD)(hl:l.length<ee)(ih:∀c,c∈l->P0 27 [c.v] (i64 (pJ c)))(s:Int)(H:T OB)(nx:Nat)(hA:Ag nx0 H0 nx H):Wq P pl X0 (.jump (uM (i64 s) (cu l) (i64 (l.length:Int)) (i64 ((0:Nat):Int)) H nx)) nx0 H0 (i64 (w (gP (l) s+1))):=
 Wq.each (l) (λi s H nx=> .jump (uM (i64 s) (cu l) (i64 (l.length:Int)) (i64 (i:Int)) H nx)) (λt s=>i64 (w (gP t s+1))) (λs H1 aI hA1=>by
  refine Wq.jmp (HL ..) (λ_=>rfl) ?_;simp only[ab,eR,List.length_map,bc];exact Wq.ret hA1) (λi a t s H1 aI hg hlt hd hA1 ih'=>by
  have hg':((l).map aD.v)[i]? = some (aD.v a):=by simp[hg]
  have hm:=List.mem_of_getElem? hg;refine Wq.jmp (HL ..) (λ_=>rfl) ?_;simp only[ab,eR,List.length_map,bh hlt,Cu hg'];refine Wq.var cv cL rfl (J4 _) (J5 _) hA1 λH2 nx2 hA2=> ?_;refine Wq.call (ih a hm) hA2 λH3 nx3 hA3=> ?_;simp only[ab,gv];simp only[ab,aB (show i<9223372036854775807 by have:=gi hl;omega)];exact ih' _ _ _ hA3) s H nx hA
theorem DC (e:aD)(h:e.ok):P0 27 [e.v] (i64 (pJ e)):=by
 refine aD.ind (p:=λe=>e.ok->P0 27 [e.v] (i64 (pJ e))) (λe ih h=> ?_) e h;rw[aD.dK]at h;refine Pure.of rfl λH nx=> ?_;rw[Po];refine Wq.uE (.refl _ _) λhA=> ?_;simp only[ab,eR,List.length_map];rw[zY];exact J_ e.l h.2.2.1 (λc hc=>ih c hc (h.2.2.2 c hc)) 0 H _ hA
theorem Ka (l:List aY)(hl:l.length<ee)(ih:∀c,c∈l->P0 29 [c.v] (i64 (La c)))(s:Int)(H:T OB)(nx:Nat)(hA:Ag nx0 H0 nx H):Wq P pl X0 (.jump (uN (i64 s) (jM l) (i64 (l.length:Int)) (i64 ((0:Nat):Int)) H nx)) nx0 H0 (i64 (w (pK (l) s+1))):=
 Wq.each (l) (λi s H nx=> .jump (uN (i64 s) (jM l) (i64 (l.length:Int)) (i64 (i:Int)) H nx)) (λt s=>i64 (w (pK t s+1))) (λs H1 aI hA1=>by
  refine Wq.jmp (HN ..) (λ_=>rfl) ?_;simp only[ab,eR,List.length_map,bc];exact Wq.ret hA1) (λi a t s H1 aI hg hlt hd hA1 ih'=>by
  have hg':((l).map aY.v)[i]? = some (aY.v a):=by simp[hg]
  have hm:=List.mem_of_getElem? hg;refine Wq.jmp (HN ..) (λ_=>rfl) ?_;simp only[ab,eR,List.length_map,bh hlt,Cv hg'];refine Wq.var cN dz rfl (J6 _) (J7 _) hA1 λH2 nx2 hA2=> ?_;refine Wq.call (ih a hm) hA2 λH3 nx3 hA3=> ?_;simp only[ab,gv];simp only[ab,aB (show i<9223372036854775807 by have:=gi hl;omega)];exact ih' _ _ _ hA3) s H nx hA
theorem HY (e:aY)(h:e.ok):P0 29 [e.v] (i64 (La e)):=by
 refine aY.ind (p:=λe=>e.ok->P0 29 [e.v] (i64 (La e))) (λe ih h=> ?_) e h;rw[aY.dK]at h;refine Pure.of rfl λH nx=> ?_;rw[Pq];refine Wq.uE (.refl _ _) λhA=> ?_;simp only[ab,eR,List.length_map];rw[J8];exact Ka e.l h.2.1 (λc hc=>ih c hc (h.2.2 c hc)) 0 H _ hA
theorem Mr (d:aJ)(h:d.ok)(hE:P0 28 [d.e.v] (i64 (eF d.e)))(hF:∀f,f∈d.f->P0 28 [f.b.v] (i64 (eF f.b))):P0 14 [d.v] (i64 (w (EP d+1))):=Pure.of rfl λH nx=>by
 rw[aJ.dK]at h;obtain⟨hp,he,⟨hfl,hf⟩,hx,hc⟩:=h;rw[Pf];refine Wq.uE (.refl _ _) λhA=> ?_;have L70:∀(n:Int) H1 aI,Ag nx H aI H1->Wq P pl X0 (.jump (oy (i64 n) H1 aI)) nx H (i64 (w (n+1))):=λn H1 aI hA1=>by
  refine Wq.jmp (Jt ..) (λ_=>rfl) ?_;simp only[ab];exact Wq.ret hA1
 simp only[ab,eR,List.length_map];rw[DB];refine Wq.ite (λh1=> ?_) (λh1=> ?_)
 . rw[if_pos h1];refine Wq.call (DC _ hp) hA λH2 nx2 hA2=> ?_;refine Wq.call hE hA2 λH3 nx3 hA3=> ?_;simp only[ab,gv];exact L70 _ _ _ hA3
 rw[if_neg h1];refine Wq.ite (λh2=> ?_) (λh2=> ?_)
 . rw[if_neg (by omega),if_pos h2];refine Wq.each (d.f) (λi s H nx=> .jump (r8 (i64 s) (Ba d.f) (i64 (d.f.length:Int)) (i64 (i:Int)) H nx)) (λt s=>i64 (w (Bd t s+1))) (λs0 H0 nx0 hA0=> ?_) (λi0 a0 t0 s0 H0 nx0 hg0 hlt0 hd0 hA0 ih0=> ?_) (0) _ _ hA
   . refine Wq.jmp (CK ..) (λ_=>rfl) ?_;simp only[ab,eR,List.length_map,bc];exact Wq.ret hA0
   . have hx0:((d.f).map Fn.v)[i0]? = some (Fn.v a0):=by simp[hg0]
     have hm0:=List.mem_of_getElem? hg0;refine Wq.jmp (CK ..) (λ_=>rfl) ?_;simp only[ab,eR,List.length_map,bh hlt0,LL hx0];refine Wq.var ir mw rfl (P9 _) (P_ _) hA0 λH2 nx2 hA2=> ?_;refine Wq.call (hF a0 hm0) hA2 λH3 nx3 hA3=> ?_;simp only[ab,eR,List.length_map,gv];have hpl:=((Fn.dK a0).1 (hf a0 hm0)).2.1;rw[Bd,J9];refine Wq.each (a0.p) (λi s H nx=> .jump (sb (i64 s) (Ba d.f) (i64 (d.f.length:Int)) (i64 (i0:Int)) (cu a0.p) (i64 (a0.p.length:Int)) (i64 (i:Int)) H nx)) (λt s=>i64 (w (Bd t0 (gP t s)+1))) (λs8 H8 nx8 hA8=> ?_) (λi8 a8 t8 s8 H8 nx8 hg8 hlt8 hd8 hA8 ih8=> ?_) (mx s0 (eF a0.b)) _ _ hA3
     . refine Wq.jmp (CN ..) (λ_=>rfl) ?_;simp only[ab,eR,List.length_map,bc];simp only[ab,aB (show i0<9223372036854775807 by have:=gi hfl;omega)];exact ih0 _ _ _ hA8
     . have hx8:((a0.p).map aD.v)[i8]? = some (aD.v a8):=by simp[hg8]
       have hm8:=List.mem_of_getElem? hg8;refine Wq.jmp (CN ..) (λ_=>rfl) ?_;simp only[ab,eR,List.length_map,bh hlt8,Cu hx8];refine Wq.var cv cL rfl (J4 _) (J5 _) hA8 λH2 nx2 hA2=> ?_;refine Wq.call (DC a8 (hpl.2 a8 hm8)) hA2 λH3 nx3 hA3=> ?_;simp only[ab,gv];simp only[ab,aB (show i8<9223372036854775807 by have:=gi hpl.1;omega)];exact ih8 _ _ _ hA3
 refine Wq.ite (λh3=> ?_) (λh3=> ?_)
 . rw[if_neg (by omega),if_neg h2,if_pos h3];refine Wq.each (d.x.cons) (λi s H nx=> .jump (r9 (i64 s) (mz d.x.cons) (i64 (d.x.cons.length:Int)) (i64 (i:Int)) H nx)) (λt s=>i64 (w (qU t s+1))) (λs0 H0 nx0 hA0=> ?_) (λi0 a0 t0 s0 H0 nx0 hg0 hlt0 hd0 hA0 ih0=> ?_) (0) _ _ hA
   . refine Wq.jmp (CL ..) (λ_=>rfl) ?_;simp only[ab,eR,List.length_map,bc];exact Wq.ret hA0
   . have hx0:((d.x.cons).map dk.v)[i0]? = some (dk.v a0):=by simp[hg0]
     have hm0:=List.mem_of_getElem? hg0;refine Wq.jmp (CL ..) (λ_=>rfl) ?_;simp only[ab,eR,List.length_map,bh hlt0,LN hx0];refine Wq.var iq k_ rfl (Od _) (Oe _) hA0 λH2 nx2 hA2=> ?_;have hpl:=(hx.2.2.2 a0 hm0).2;rw[qU];refine Wq.each (a0.arg) (λi s H nx=> .jump (se (i64 s) (mz d.x.cons) (i64 (d.x.cons.length:Int)) (i64 (i0:Int)) (jM a0.arg) (i64 (a0.arg.length:Int)) (i64 (i:Int)) H nx)) (λt s=>i64 (w (qU t0 (pK t s)+1))) (λs8 H8 nx8 hA8=> ?_) (λi8 a8 t8 s8 H8 nx8 hg8 hlt8 hd8 hA8 ih8=> ?_) (s0) _ _ hA2
     . refine Wq.jmp (CO ..) (λ_=>rfl) ?_;simp only[ab,eR,List.length_map,bc];simp only[ab,aB (show i0<9223372036854775807 by have:=gi (show d.x.cons.length<ee from hx.2.2.1);omega)];exact ih0 _ _ _ hA8
     . have hx8:((a0.arg).map aY.v)[i8]? = some (aY.v a8):=by simp[hg8]
       have hm8:=List.mem_of_getElem? hg8;refine Wq.jmp (CO ..) (λ_=>rfl) ?_;simp only[ab,eR,List.length_map,bh hlt8,Cv hx8];refine Wq.var cN dz rfl (J6 _) (J7 _) hA8 λH2 nx2 hA2=> ?_;refine Wq.call (HY a8 (hpl.2 a8 hm8)) hA2 λH3 nx3 hA3=> ?_;simp only[ab,gv];simp only[ab,aB (show i8<9223372036854775807 by have:=gi hpl.1;omega)];exact ih8 _ _ _ hA3
 refine Wq.ite (λh4=> ?_) (λh4=> ?_)
 . rw[if_neg (by omega),if_neg h2,if_neg h3,if_pos h4];refine Wq.each (d.c.arg) (λi s H nx=> .jump (r_ (i64 s) (jM d.c.arg) (i64 (d.c.arg.length:Int)) (i64 (i:Int)) H nx)) (λt s=>i64 (w (pK t s+1))) (λs0 H0 nx0 hA0=> ?_) (λi0 a0 t0 s0 H0 nx0 hg0 hlt0 hd0 hA0 ih0=> ?_) (0) _ _ hA
   . refine Wq.jmp (CM ..) (λ_=>rfl) ?_;simp only[ab,eR,List.length_map,bc];exact Wq.ret hA0
   . have hx0:((d.c.arg).map aY.v)[i0]? = some (aY.v a0):=by simp[hg0]
     have hm0:=List.mem_of_getElem? hg0;refine Wq.jmp (CM ..) (λ_=>rfl) ?_;simp only[ab,eR,List.length_map,bh hlt0,Cv hx0];refine Wq.var cN dz rfl (J6 _) (J7 _) hA0 λH2 nx2 hA2=> ?_;refine Wq.call (HY a0 (hc.2.2 a0 hm0)) hA2 λH3 nx3 hA3=> ?_;simp only[ab,gv];simp only[ab,aB (show i0<9223372036854775807 by have:=gi hc.2.1;omega)];exact ih0 _ _ _ hA3
 refine Wq.ite (λh5=> ?_) (λh5=> ?_)
 . rw[if_pos h5];refine Wq.call hE hA λH3 nx3 hA3=> ?_;exact L70 _ _ _ hA3
 . rw[if_neg h5,if_neg h2,if_neg h3,if_neg h4];exact L70 _ _ _ hA
theorem HZ (l:List aJ)(hl:l.length<ee)(ih:∀d,d∈l->P0 14 [d.v] (i64 (w (EP d+1)))):P0 8 [cU l] (i64 (iN l 0)):=Pure.of rfl λH nx=>by
 rw[q8];simp only[ab,eR,List.length_map];refine Wq.each (l) (λi s H nx=> .jump (Fu (i64 s) (cU l) (i64 (l.length:Int)) (i64 (i:Int)) H nx)) (λt s=>i64 (iN t s)) (λs0 H0 nx0 hA0=> ?_) (λi0 a0 t0 s0 H0 nx0 hg0 hlt0 hd0 hA0 ih0=> ?_) (0) _ _ (.refl _ _)
 . refine Wq.jmp (L_ ..) (λ_=>rfl) ?_;simp only[ab,eR,List.length_map,bc];exact Wq.ret hA0
 . have hx0:((l).map aJ.v)[i0]? = some (aJ.v a0):=by simp[hg0]
   have hm0:=List.mem_of_getElem? hg0;refine Wq.jmp (L_ ..) (λ_=>rfl) ?_;simp only[ab,eR,List.length_map,bh hlt0,LJ hx0];refine Wq.var de e6 rfl (Ob _) (Oc _) hA0 λH2 nx2 hA2=> ?_;refine Wq.call (ih a0 hm0) hA2 λH3 nx3 hA3=> ?_;simp only[ab,gv];rw[iN];simp only[ab,aB (show i0<9223372036854775807 by have:=gi hl;omega)];exact ih0 _ _ _ hA3
theorem Kb (e:au)(h:e.ok)(h1:∀c,c∈e.l->P0 28 [c.v] (i64 (eF c)))(h2:∀d,d∈e.d->P0 14 [d.v] (i64 (w (EP d+1)))):P0 28 [e.v] (i64 (eF e)):=Pure.of rfl λH nx=>by
 rw[au.dK]at h;obtain⟨hr,hs,⟨hl,hl'⟩,⟨hp,hp'⟩,hd,hd'⟩:=h;rw[Pp];refine Wq.uE (.refl _ _) λhA=> ?_;simp only[ab,eR,List.length_map];refine Wq.call (HZ _ hd h2) hA λH1 aI hA1=> ?_;rw[zZ];refine Wq.each (e.l) (λi s H nx=> .jump (zF (ae e.v) (i64 s) (fy e.l) (i64 (e.l.length:Int)) (i64 (i:Int)) H nx)) (λt s=>i64 (w (gP e.p (qV t s)+1))) (λs0 H0 nx0 hA0=> ?_) (λi0 a0 t0 s0 H0 nx0 hg0 hlt0 hd0 hA0 ih0=> ?_) (iN e.d 0) _ _ hA1
 . refine Wq.jmp (HM ..) (λ_=>rfl) ?_;simp only[ab,eR,List.length_map,bc];refine Wq.each (e.p) (λi s H nx=> .jump (sx (i64 s) (cu e.p) (i64 (e.p.length:Int)) (i64 (i:Int)) H nx)) (λt s=>i64 (w (gP t s+1))) (λs8 H8 nx8 hA8=> ?_) (λi8 a8 t8 s8 H8 nx8 hg8 hlt8 hd8 hA8 ih8=> ?_) (s0) _ _ hA0
   . refine Wq.jmp (CW ..) (λ_=>rfl) ?_;simp only[ab,eR,List.length_map,bc];exact Wq.ret hA8
   . have hx8:((e.p).map aD.v)[i8]? = some (aD.v a8):=by simp[hg8]
     have hm8:=List.mem_of_getElem? hg8;refine Wq.jmp (CW ..) (λ_=>rfl) ?_;simp only[ab,eR,List.length_map,bh hlt8,Cu hx8];refine Wq.var cv cL rfl (J4 _) (J5 _) hA8 λH2 nx2 hA2=> ?_;refine Wq.call (DC _ (hp' _ hm8)) hA2 λH3 nx3 hA3=> ?_;simp only[ab,gv];simp only[ab,aB (show i8<9223372036854775807 by have:=gi hp;omega)];exact ih8 _ _ _ hA3
 . have hx0:((e.l).map au.v)[i0]? = some (au.v a0):=by simp[hg0]
   have hm0:=List.mem_of_getElem? hg0;refine Wq.jmp (HM ..) (λ_=>rfl) ?_;simp only[ab,eR,List.length_map,bh hlt0,LK hx0];refine Wq.var br bM rfl (N_ _) (Oa _) hA0 λH2 nx2 hA2=> ?_;refine Wq.call (h1 _ hm0) hA2 λH3 nx3 hA3=> ?_;simp only[ab,gv];rw[qV];simp only[ab,aB (show i0<9223372036854775807 by have:=gi hl;omega)];exact ih0 _ _ _ hA3
theorem FE:(∀e:au,e.ok->P0 28 [e.v] (i64 (eF e)))/\∀d:aJ,d.ok->P0 14 [d.v] (i64 (w (EP d+1))):=by
 have A:∀e:au,(∀c,c∈e.l->c.ok->P0 28 [c.v] (i64 (eF c)))->(∀c,c∈e.d->c.ok->P0 14 [c.v] (i64 (w (EP c+1))))->e.ok->P0 28 [e.v] (i64 (eF e)):=λe h1 h2 h=>by
  have h':=(au.dK e).1 h;exact Kb e h (λc hc=>h1 c hc (h'.2.2.1.2 c hc)) λd hd=>h2 d hd (h'.2.2.2.2.2 d hd)
 have B:∀d:aJ,(d.e.ok->P0 28 [d.e.v] (i64 (eF d.e)))->(∀f,f∈d.f->f.b.ok->P0 28 [f.b.v] (i64 (eF f.b)))->d.ok->P0 14 [d.v] (i64 (w (EP d+1))):=λd h1 h2 h=>by
  have h':=(aJ.dK d).1 h;exact Mr d h (h1 h'.2.1) λf hf=>h2 f hf ((Fn.dK f).1 (h'.2.2.1.2 f hf)).2.2
 exact⟨au.ind A B,aJ.ind A B⟩
theorem H_ (l:List aJ)(hl:l.length<ee)(h:∀d,d∈l->d.ok):P0 8 [cU l] (i64 (iN l 0)):=HZ l hl λd hd=>FE.2 d (h d hd)
end
section
variable {nx0:Nat}{H0:T OB}
def uY {α:Type}(a b:α):Bool:=@decide (a=b) (Classical.propDecidable _)
theorem m5 (a b:List UInt8):decide ((⟨⟨a⟩⟩:ByteArray)=⟨⟨b⟩⟩)=decide (a=b):=by rw[decide_eq_decide];simp
end
section
variable {nx0:Nat}{H0:T OB}
theorem FF:bn P 9=some [.string ⟨⟨[]⟩⟩]:=by kernel_rfl
def DD:List (List UInt8):=[[111,114,101,108,115,101],[97,110,100,97,108,115,111],[58,61],[61],[60,62],[60],[60,61],[62],[62,61],[58,58],[43],[45],[94],[42],[100,105,118],[109,111,100]]
theorem O6 (a:UInt8)(r:List UInt8):da P 9 (some (ar (a::r))) (some (.int .i64 0))=some (b8 a):=by
 have:=bj (P:=P) a7 (l:=a::r) (i:=0) (c:=a) rfl .i64;exact this
theorem O7 (a b:UInt8)(r:List UInt8):da P 9 (some (ar (a::b::r))) (some (.int .i64 1))=some (b8 b):=bj (P:=P) a7 (l:=a::b::r) (i:=1) (c:=b) rfl .i64
theorem O8 (a b c:UInt8)(r:List UInt8):da P 9 (some (ar (a::b::c::r))) (some (.int .i64 2))=some (b8 c):=bj (P:=P) a7 (l:=a::b::c::r) (i:=2) (c:=c) rfl .i64
end
section
variable {nx0:Nat}{H0:T OB}
def first(s:List UInt8)(n:Nat):Bool:=match s with
 | []=>false
 | c::_=>decide (c.toNat=n)
theorem Ms:P.underlying 2=some (.int .i64):=by kernel_rfl
theorem Ia:P.underlying 3=some (.int .i64):=by kernel_rfl
theorem z1:P.underlying 5=some (.int .u8):=by kernel_rfl
theorem DF:bn P 5=some [.int .u8 0]:=by kernel_rfl
theorem Kc (H:T OB)(k:IntKind)(n:Int):dp P H 5 2 (some (.int k n))=some (i64 (IntKind.i64.wrap n)):=ko z1 Ms
theorem DG (H:T OB)(k:IntKind)(n:Int):dp P H 5 3 (some (.int k n))=some (i64 (IntKind.i64.wrap n)):=ko z1 Ia
theorem Kd (H:T OB)(n:Int):dp P H 3 5 (some (i64 n))=some (.int .u8 (IntKind.u8.wrap n)):=ko Ia z1
theorem Ke (H:T OB)(a:Int):bX P H .quo 2 true (some (i64 a)) (some (i64 10))=some (i64 (IntKind.i64.wrap (a.tdiv 10))):=A4 _ _ _ _ _ (by decide)
theorem wrap_u8 (n:Int):IntKind.u8.wrap n=n%256:=by
 unfold IntKind.wrap;simp[IntKind.bits,IntKind.signed]
end
section
variable {nx0:Nat}{H0:T OB}
theorem iA {H:T OB}{l:List UInt8}{lo:Nat}(h1:lo<=l.length):bq P H 9 (some (ar l)) (some (some (i64 (lo:Int)))) (some none) (some none)=some (ar (l.drop lo)):=by
 show ng P 9 (ar l) (some (some (i64 (lo:Int)))) (some none) (some none)=_;show fV P (Instr.sliceAt 9 (ar l) (some (i64 (lo:Int))) none none)=_;have e0:(⟨⟨l⟩⟩:ByteArray).extract lo l.length=⟨⟨l.drop lo⟩⟩:=by
  apply ByteArray.ext;rw[ByteArray.data_extract];apply Array.ext';simp[List.take_of_length_le]
 have e1:bu P (Instr.sliceAt 9 (ar l) (some (i64 (lo:Int))) none none)=some (ar (l.drop lo)):=by
  unfold Instr.sliceAt;simp only[aX,bV a7,Option.bind_some];unfold Instr.slice;simp only[aX,bV a7,Option.bind_some];unfold Instr.sliceBounds Instr.sliceBound;simp only[aX,asIntOf,Option.isSome];have pp:∀{α:Type} (a:α),bu P (pure a:Sem α)=some a:=λ_=>rfl;rw[if_neg (by decide)];simp only[aX,pp,Option.bind_some];have c2:(0:Int)<=(lo:Int)/\(lo:Int)<=((⟨⟨l⟩⟩:ByteArray).size:Int):=⟨by omega,by rw[aQ];omega⟩;rw[if_pos c2];simp only[pp,Option.bind_some,Int.toNat_natCast,aQ,e0]
 exact oH e1 rfl
theorem BS.cX {nx0:Nat}{e:TypeId}{nx nx':Nat}{H H':T OB}{r:List UInt8}{sl:Value}(h:BS e nx0 H nx r sl)(hn:nx<=nx')(hk:∀b l e,b<nx->cK H b l e->cK H' b l e):BS e nx0 H' nx' r sl:=by
 rcases h with h | ⟨b,c,h1,h2,h3,h4,h5⟩
 . exact .inl h
 . exact .inr ⟨b,c,h1,by omega,hk _ _ _ h2 h3,h4,h5⟩
theorem Og (n:Nat):a_ P 5 1 n=(Nat.ble n 1048576&&true):=by kernel_rfl
theorem Ib {n:Nat}(h:n<=1048576):a_ P 5 1 n=true:=by rw[Og,Nat.ble_eq_true_of_le h];rfl
theorem Mt (c:UInt8):Instr.fill (λi=>some (i*1,1)) (bk [Value.int .u8 0] (1*1)) [(0,b8 c)]=some ⟨pz [c]⟩:=by kernel_rfl
theorem FG:dF P 92 9=true:=by kernel_rfl
def fw (k:Int)(s:List UInt8):Bool:=eO ⟨k,s,0,0⟩
theorem FH (k:Int)(s:List UInt8):aO P 70 (some [(0,i64 k),(1,ar s)])=some (Tok.v ⟨k,s,0,0⟩):=aL dR (by kernel_rfl)
end
section
variable {nx0:Nat}{H0:T OB}
def uZ (k n:Int)(s:List UInt8)(l:List aD):Bool:=
 (decide (k=3)||decide (n=0))&&(
 if k=1 then decide (s=[])&&decide (l.length=0)
 else if k=2 then fw 3 s&&decide (l.length=0)
 else if k=3 then decide (s=[])&&(decide (l.length=0)&&(decide (-4611686018427387903<=n)&&decide (n<=4611686018427387903)))
 else if k=4 then decide (l.length=0)
 else if k=5 then decide (s=[]) && !decide (l.length=1)
 else if k=6 then if s=[58,58]then(match l with | [q]=>decide (q.k=5)&&decide (q.l.length=2) | _=>false)else fw 4 s&&decide (l.length<=1)
 else false)
mutual
def gz:aD->Bool
 | .mk k n s l=>gA l&&uZ k n s l
def gA:List aD->Bool
 | []=>true
 | p::l=>gz p&&gA l
end
theorem m6 (p:aD):gz p=(gA p.l&&uZ p.k p.n p.s p.l):=by cases p;rw[gz];rfl
def Oh (k:Int)(s:List UInt8)(n:Nat):Bool:=
 if k=1 then decide (n=0)&&fw 5 s
 else if k=2 then decide (s=[114,101,102])||fw 3 s
 else if k=3 then decide (n=2)&&decide (s=[])
 else if k=4 then decide (2<=n)&&decide (s=[])else false
mutual
def Qa:aY->Bool
 | .mk k s l=>DH l&&Oh k s l.length
def DH:List aY->Bool
 | []=>true
 | p::l=>Qa p&&DH l
end
def Kf (c:dk):Bool:=fw 4 c.s&&(decide (c.arg.length<=1)&&DH c.arg)
def wK:List dk->Bool
 | []=>true
 | c::l=>Kf c&&wK l
def wL:List (List UInt8)->Bool
 | []=>true
 | s::l=>fw 5 s&&wL l
def jn (e:au):au:= .mk e.k (if e.k=1 then e.n else 0) (if e.k=2\/e.k=3\/e.k=4\/e.k=14\/e.k=15 then e.s else[]) (if e.k=1\/e.k=2\/e.k=3\/e.k=4 then[]else e.l) (if e.k=7\/e.k=9\/e.k=12 then e.p else[]) (if e.k=10 then e.d else[])
abbrev Oi:aD:= .mk 0 0 [] []
abbrev Oj:au:= .mk 0 0 [] [] [] []
abbrev Mu:Data:=⟨[],[],[]⟩
abbrev Ok:dk:=⟨[],[]⟩
def gj (d:aJ):aJ:= .mk d.k (if d.k=1 then d.p else Oi) (if d.k=1\/d.k=5 then d.e else Oj) (if d.k=2 then d.f else[]) (if d.k=3 then d.x else Mu) (if d.k=4 then d.c else Ok)
def oM (k n:Int)(s:List UInt8)(len np:Nat)(ds:List aJ):Bool:=
 if k=1 then decide (0<=n)&&decide (n<=4611686018427387903)
 else if k=2 then true
 else if k=3 then fw 3 s
 else if k=4 then fw 4 s
 else if k=5 then !decide (len=1)
 else if k=13 then decide (1<len)
 else if k=6 then decide (len=2)
 else if k=7 then decide (0<len)&&decide (np=len)
 else if k=8 then decide (len=3)
 else if k=9\/k=12 then decide (1<len)&&decide (np+1=len)
 else if k=11 then decide (len=1)
 else if k=14 then decide (len=2)&&DD.contains s
 else if k=15 then decide (len=1)&&dt.contains s
 else if k=10 then(ds.all λd=>decide (d.k=1)||decide (d.k=2))&&decide (len=1)
 else false
mutual
def gB:au->Bool
 | .mk k n s l p d=>l3 l&&(uY (jn (.mk k n s l p d)) (.mk k n s l p d)&&(gA p&&(l4 d&&oM k n s l.length p.length d)))
def wM:aJ->Bool
 | .mk k p e f x c=>if k=1 then uY (gj (.mk k p e f x c)) (.mk k p e f x c)&&(gz p&&gB e)
   else if k=5 then uY (gj (.mk k p e f x c)) (.mk k p e f x c)&&gB e
   else if k=2 then qW f&&(decide (0<f.length)&&uY (gj (.mk k p e f x c)) (.mk k p e f x c))
   else if k=3 then wL x.vars&&(wK x.cons&&(fw 3 x.s&&(decide (0<x.cons.length)&&uY (gj (.mk k p e f x c)) (.mk k p e f x c))))
   else if k=4 then Kf c&&uY (gj (.mk k p e f x c)) (.mk k p e f x c)
   else false
def Kg:Fn->Bool
 | .mk s p b=>fw 3 s&&(decide (0<p.length)&&(gA p&&gB b))
def l3:List au->Bool
 | []=>true
 | e::l=>gB e&&l3 l
def l4:List aJ->Bool
 | []=>true
 | e::l=>wM e&&l4 l
def qW:List Fn->Bool
 | []=>true
 | e::l=>Kg e&&qW l
end
theorem z2 (e:au):gB e=(l3 e.l&&(uY (jn e) e&&(gA e.p&&(l4 e.d&&oM e.k e.n e.s e.l.length e.p.length e.d)))):=by cases e;rw[gB];rfl
theorem DI (e:Fn):Kg e=(fw 3 e.s&&(decide (0<e.p.length)&&(gA e.p&&gB e.b))):=by cases e;rw[Kg];rfl
theorem FI (d:aJ):wM d=(if d.k=1 then uY (gj d) d&&(gz d.p&&gB d.e)
 else if d.k=5 then uY (gj d) d&&gB d.e
 else if d.k=2 then qW d.f&&(decide (0<d.f.length)&&uY (gj d) d)
 else if d.k=3 then wL d.x.vars&&(wK d.x.cons&&(fw 3 d.x.s&&(decide (0<d.x.cons.length)&&uY (gj d) d)))
 else if d.k=4 then Kf d.c&&uY (gj d) d else false):=by cases d;rw[wM];rfl
end
section
variable {nx0:Nat}{H0:T OB}
abbrev ptr (b:Nat):Value:= .pointer (some ⟨b,0,none⟩)
def Go (l0:List Tok)(b0:Bool)(ok:Bool)(ts:List Tok)(n:Nat)(l:List Tok)(b:Bool):Prop:=b=(b0 || !ok)/\(b=false->l=l0++ts)/\l.length<=l0.length+n
variable {fr:Nat->List Value->TypeId->Prop}{bp:Nat}{l0:List Tok}{b0:Bool}
variable {ok:Bool}{ts:List Tok}{n nx:Nat}{H:T OB}{R:Value->T OB->Nat->Prop}
theorem Mv {n:Nat}(h:n<=1048576):a_ P 70 4 n=true:=by
 have:a_ P 70 4 n=(Nat.ble n 1048576&&true):=by kernel_rfl
 rw[this,Nat.ble_eq_true_of_le h];rfl
theorem Ic (a b c d:Value):Instr.fill (λi=>some (i*4,4)) (bk [Value.int .i64 0,Value.string ⟨⟨[]⟩⟩,Value.int .i64 0,Value.int .i64 0] (1*4)) [(0,.agg ⟨[a,b,c,d]⟩)]=some ⟨[a,b,c,d]⟩:=by kernel_rfl
end
section
abbrev Bx:=Nat×List Value×TypeId
structure Hp (nx0:Nat)(H0:T OB)(F:List Bx)(H:T OB)(nx:Nat):Prop where
 sQ:dS nx0 H0
 ag:Ag nx0 H0 nx H
 sR:(F.map Prod.fst).Nodup
 all:∀x∈F,nx0<=x.1/\x.1<nx/\cK H x.1 x.2.1 x.2.2
variable {nx0 nx nx':Nat}{H0 H H':T OB}{F A B G:List Bx}{s:Bx}{R:Go.Ev.Out->T OB->Nat->Prop}{b:Nat}{l:List Value}{e t:TypeId}
theorem Hp.mem (h:Hp nx0 H0 F H nx){x:Bx}(hx:x∈F):cK H x.1 x.2.1 x.2.2:=(h.all x hx).2.2
theorem Hp.at_ (h:Hp nx0 H0 F H nx)(i:Nat)(hi:F[i]? = some (b,l,e)):cK H b l e:=h.mem (List.mem_of_getElem? hi)
theorem Hp.cX (h:Hp nx0 H0 F H nx)(hA:Ag nx0 H0 nx' H')(hn:nx<=nx')(hk:∀b l e,b<nx->cK H b l e->cK H' b l e):Hp nx0 H0 F H' nx':=
 ⟨h.sQ,hA,h.sR,λx hx=>by obtain⟨h1,h2,h3⟩:=h.all x hx;exact⟨h1,by omega,hk _ _ _ h2 h3⟩⟩
theorem Hp.new (h:Hp nx0 H0 F H nx)(hb:cK H' nx l e)(hk:∀b l e,b<nx->cK H b l e->cK H' b l e)(hA:Ag nx0 H0 (nx+1) H'):Hp nx0 H0 ((nx,l,e)::F) H' (nx+1):=by
 have h':=h.cX hA (Nat.le_succ _) hk;refine⟨h.sQ,hA,?_,λx hx=> ?_⟩
 . rw[List.map_cons,List.nodup_cons];refine⟨λq=> ?_,h.sR⟩;obtain⟨y,hy,e⟩:=List.mem_map.1 q;have:=(h.all y hy).2.1;omega
 . rcases List.mem_cons.1 hx with rfl | hx
   . exact⟨h.ag.1,Nat.lt_succ_self _,hb⟩
   . exact h'.all x hx
theorem Hp.perm {F':List Bx}(h:Hp nx0 H0 F H nx)(hp:F.Perm F'):Hp nx0 H0 F' H nx:=⟨h.sQ,h.ag,(hp.map _).nodup_iff.1 h.sR,λx hx=>h.all x (hp.mem_iff.2 hx)⟩
theorem Hp.sub {F':List Bx}(h:Hp nx0 H0 F H nx)(hp:F'.Sublist F):Hp nx0 H0 F' H nx:=⟨h.sQ,h.ag,(hp.map _).nodup h.sR,λx hx=>h.all x (hp.subset hx)⟩
theorem Hp.swap {x y:Bx}(h:Hp nx0 H0 (x::y::F) H nx):Hp nx0 H0 (y::x::F) H nx:=h.perm (List.Perm.swap y x F)
theorem Hp.lb {x y:Bx}(h:Hp nx0 H0 (x::y::F) H nx):Hp nx0 H0 (x::F) H nx:=h.sub (by simp)
theorem Hp.lH {l':List Value}(h:Hp nx0 H0 (A++(b,l,e)::B) H nx)(hb:cK H' b l' e)(hk:∀c l e,c≠b->cK H c l e->cK H' c l e)(hA:Ag nx0 H0 nx H'):Hp nx0 H0 (A++(b,l',e)::B) H' nx:=by
 have hd:=h.sR;refine⟨h.sQ,hA,by simpa using hd,λx hx=> ?_⟩;simp only[List.map_append,List.map_cons]at hd;rw[List.nodup_append]at hd;obtain⟨h1,h2,h3⟩:=hd;rw[List.nodup_cons]at h2;have hm:=h.all (b,l,e) (by simp);rcases List.mem_append.1 hx with hx | hx
 . obtain⟨g1,g2,g3⟩:=h.all x (by simp[hx]);exact⟨g1,g2,hk _ _ _ (λq=>h3 x.1 (List.mem_map_of_mem hx) b (by simp) q) g3⟩
 . rcases List.mem_cons.1 hx with rfl | hx
   . exact⟨hm.1,hm.2.1,hb⟩
   . obtain⟨g1,g2,g3⟩:=h.all x (by simp[hx]);exact⟨g1,g2,hk _ _ _ (λq=>h2.1 (q ▸ List.mem_map_of_mem hx)) g3⟩
theorem Hp.kill (h:Hp nx0 H0 (A++(b,l,e)::B) H nx)(hk:∀c l e,c≠b->cK H c l e->cK H' c l e)(hA:Ag nx0 H0 nx' H')(hn:nx<=nx'):Hp nx0 H0 (A++B) H' nx':=by
 have hd:=h.sR;simp only[List.map_append,List.map_cons]at hd;rw[List.nodup_append]at hd;obtain⟨h1,h2,h3⟩:=hd;rw[List.nodup_cons]at h2;have h':=h.sub (F':=A++B) (by simp);refine⟨h.sQ,hA,h'.sR,λx hx=> ?_⟩;obtain⟨g1,g2,g3⟩:=h'.all x hx;refine⟨g1,by omega,hk _ _ _ (λq=> ?_) g3⟩;rcases List.mem_append.1 hx with hx | hx
 . exact h3 x.1 (List.mem_map_of_mem hx) b (by simp) q
 . exact h2.1 (q ▸ List.mem_map_of_mem hx)
theorem Hq.alloc {k:Value->T OB->Nat->Q}(hz:bn P e=some l)(h:Hp nx0 H0 (s::F) H nx)(hk:∀b H' nx',Hp nx0 H0 (s::(b,l,e)::F) H' nx'->ay P pl X0 (k (ptr b) H' nx') nx0 H0 R):ay P pl X0 (bf (bL P H nx e) k) nx0 H0 R:=
 Wq.alloc hz h.ag λH' hb cX hA=>hk nx H' _ (h.new hb cX hA).swap
theorem Hq.box {u:Value}{k:Value->T OB->Nat->Q}(h:Hp nx0 H0 (s::F) H nx)(hk:∀b H' nx',Hp nx0 H0 (s::(b,u.cells.toList,e)::F) H' nx'->ay P pl X0 (k (ptr b) H' nx') nx0 H0 R):ay P pl X0 (bf (iV H nx e (some u)) k) nx0 H0 R:=
 Wq.box h.ag λH' hb cX hA=>hk nx H' _ (h.new hb cX hA).swap
theorem Hq.var {sz:Nat}{x:Value}{k:T OB->Nat->Q}(hz:bn P e=some l)(hs:aE P t=some sz)(hl:l.length=sz)(hx:x.cells.toList.length=sz)(hone:x.cells.toList.all ah=true)
 (h:Hp nx0 H0 F H nx) (hk:∀H' nx',Hp nx0 H0 F H' nx'->ay P pl X0 (k H' nx') nx0 H0 R):ay P pl X0 (bf (bL P H nx e) λp H nx=>cW P H nx t (some p) x k) nx0 H0 R:=
 Wq.N6 hz hs hl hx hone h.ag λH' nx' hA hn cX=>hk H' nx' (h.cX hA hn cX)
theorem Hq.call {f:FuncId}{args:List Value}{u:Value}{k p:Value->T OB->Nat->Q}(hp:P0 f args u)(h:Hp nx0 H0 F H nx)(hk:∀H' nx',Hp nx0 H0 F H' nx'->ay P pl X0 (k u H' nx') nx0 H0 R):ay P pl X0 (cD (.call f args false none H nx) k p) nx0 H0 R:=
 Wq.qR hp h.ag λH' nx' hA hn cX=>hk H' nx' (h.cX hA hn cX)
theorem Hq.qT {f:FuncId}{args:List Value}{u:Value}{k p:Value->T OB->Nat->Q}(hp:PT f args u)(h:Hp nx0 H0 F H nx)(hk:∀H' nx',Hp nx0 H0 F H' nx'->ay P pl X0 (k u H' nx') nx0 H0 R):ay P pl X0 (cD (.call f args false none H nx) k p) nx0 H0 R:=by
 obtain⟨H1,aI,h1,h2⟩:=hp H nx (h.sQ.ag h.ag);obtain⟨v,H2,nx2,h3,hR,h4⟩:=hk H1 aI (h.cX (h.ag.trans h1) h1.1 λb l e hb hi=>hi.ag h1 hb);refine⟨v,H2,nx2,h3,hR,?_⟩;show af (Go.Ev.F P pl X0 (.call f args false none H nx)) (λr=>(match r.o with | .ret v=>k v r.H r.nx | .eW v=>p v r.H r.nx:Q).run (Go.Ev.F P pl X0)) none=_;rw[h2];exact h4
theorem Hq.row {sz n:Nat}{vs:List (Nat×Value)}{z:List Value}{k:Value->T OB->Nat->Q}(hu:P.underlying t=some (.slice e))(hs:aE P e=some sz)(hz:bn P e=some z)
 (hg:(Nat.ble (n*sz) 16777216&&Nat.blt 0 (n*sz)&&Nat.blt 0 z.length)=true) (hf:Instr.fill (λi=>some (i*sz,sz)) (bk z (n*sz)) vs=some ⟨l⟩) (h:Hp nx0 H0 (s::F) H nx)
 (hk:∀b H' nx',Hp nx0 H0 (s::(b,l,e)::F) H' nx'->ay P pl X0 (k (.slice (some ⟨b,0,none⟩) n n) H' nx') nx0 H0 R):ay P pl X0 (bf (aF P H nx t n (some vs)) k) nx0 H0 R:=
 Wq.row hu hs hz hg hf h.ag λH' hb cX hA=>hk nx H' _ (h.new hb cX hA).swap
theorem Hq.store (A:List Bx){off sz:Nat}{u:Value}{k:Value->T OB->Nat->Q}(h:Hp nx0 H0 (A++(b,l,e)::B) H nx)(hs:aE P t=some sz)(hn:off+sz<=l.length)(hl:u.cells.toList.length=sz)(hone:u.cells.toList.all ah=true)
 (hk:∀H',Hp nx0 H0 (A++(b,gg l u.cells.toList off,e)::B) H' nx->ay P pl X0 (k undef H' nx) nx0 H0 R):ay P pl X0 (bf (bY P H nx t (some (.pointer (some ⟨b,off,none⟩))) (some u)) k) nx0 H0 R:=by
 have hm:=h.all (b,l,e) (by simp);exact Wq.store hm.2.2 hs hn hl hone h.ag hm.1 λH' hb cX hA=>hk H' (h.lH hb cX hA)
theorem Hq.put (A:List Bx){off:Nat}{u:Value}{l':List Value}{k:Value->T OB->Nat->Q}(h:Hp nx0 H0 (A++(b,l,e)::B) H nx)(hs:aE P t=some 1)(hc:u.cells.toList=[u])(ho:ah u=true)(hn:off<l.length)(hl:l.set off u=l')
 (hk:∀H',Hp nx0 H0 (A++(b,l',e)::B) H' nx->ay P pl X0 (k undef H' nx) nx0 H0 R):ay P pl X0 (bf (bY P H nx t (some (.pointer (some ⟨b,off,none⟩))) (some u)) k) nx0 H0 R:=by
 have hm:=h.all (b,l,e) (by simp);exact Wq.put hm.2.2 hs hc ho hn hl h.ag hm.1 λH' hb cX hA=>hk H' (h.lH hb cX hA)
def bR (vs:List Value):List Value:=vs.flatMap λv=>v.cells.toList
def mJ (a:Bool)(sz:Nat)(vs:List Value):Prop:=∀v∈vs,v.cells.toList.length=sz/\v.cells.toList.all ah=true/\(if a then ∃cs,v= .agg ⟨cs⟩else sz=1/\v.cells.toList=[v])
theorem kp {a:Bool}{sz:Nat}:∀{vs:List Value},mJ a sz vs->(bR vs).length=vs.length*sz
 | [],_=>by simp[bR]
 | v::vs,h=>by
   have ih:=kp (vs:=vs) λx hx=>h x (by simp[hx]);show(v.cells.toList++bR vs).length=_;rw[List.length_append,ih,(h v (by simp)).1,List.length_cons,Nat.add_mul];omega
theorem mJ.chunk {a:Bool}{sz:Nat}{vs:List Value}(h:mJ a sz vs):chunk a sz vs.length (bR vs)=some vs:=by
 cases a with
 | true=>
   have:∀vs:List Value,mJ true sz vs->∃es:List (List Value),vs=es.map (λx=> .agg ⟨x⟩)/\(∀x∈es,x.length=sz)/\bR vs=es.flatten:=by
    intro vs
    induction vs with
    | nil=>exact λ_=>⟨[],rfl,by simp,rfl⟩
    | cons v vs ih=>
      intro h;obtain⟨es,e1,e2,e3⟩:=ih λx hx=>h x (by simp[hx]);obtain⟨h1,h2,h3⟩:=h v (by simp);rw[if_pos rfl]at h3;obtain⟨cs,rfl⟩:=h3;refine⟨cs::es,by rw[e1];rfl,λx hx=> ?_,?_⟩
      . rcases List.mem_cons.1 hx with rfl | hx
        . exact h1
        . exact e2 x hx
      . rw[List.flatten_cons,<- e3];rfl
   obtain⟨es,e1,e2,e3⟩:=this vs h;rw[e3,e1,List.length_map];exact oo sz es e2
 | false=>
   have e:sz=1\/vs=[]:=by
    cases vs with
    | nil=>exact .inr rfl
    | cons v vs=>exact .inl (h v (by simp)).2.2.1
   have e2:bR vs=vs:=by
    clear e
    induction vs with
    | nil=>rfl
    | cons v vs ih=>
      show v.cells.toList++bR vs=_;rw[ih λx hx=>h x (by simp[hx]),(h v (by simp)).2.2.2];rfl
   rw[e2];rcases e with rfl | rfl
   . exact mu vs
   . rfl
theorem mJ.cons {a:Bool}{sz:Nat}{v:Value}{vs:List Value}(h:mJ a sz [v])(hs:mJ a sz vs):mJ a sz (vs++[v]):=λx hx=>by
 rcases List.mem_append.1 hx with hx | hx
 . exact hs x hx
 . exact h x hx
def Gw (a:Bool)(sz:Nat)(e:TypeId)(vs:List Value)(sl:Value)(G:List Bx):Prop:=mJ a sz vs/\((vs=[]/\sl= .slice none 0 0/\G=[])\/∃b c,sl= .slice (some ⟨b,0,none⟩) vs.length c/\(c=eC\/c=vs.length)/\0<vs.length/\G=[(b,bR vs,e)])
theorem Gw.nil (a:Bool)(sz:Nat)(e:TypeId):Gw a sz e [] (.slice none 0 0) []:=⟨λv hv=>by simp at hv,.inl ⟨rfl,rfl,rfl⟩⟩
theorem Gw.one {a:Bool}{sz:Nat}{vs:List Value}{n:Nat}(h:mJ a sz vs)(hn:vs.length=n)(h0:0<n):Gw a sz e vs (.slice (some ⟨b,0,none⟩) n n) [(b,bR vs,e)]:=⟨h,.inr ⟨b,n,by rw[hn],.inr hn.symm,by omega,rfl⟩⟩
theorem Hq.N5 (A:List Bx){a:Bool}{sz:Nat}{vs:List Value}{sl:Value}{k:Value->T OB->Nat->Q}(hu:P.underlying t=some (.slice e))(hs:aE P e=some sz)(ha:cH P e=some a)(hpos:(Nat.blt 0 sz&&(a||Nat.beq sz 1))=true)
 (hG:Gw a sz e vs sl G) (h:Hp nx0 H0 (A++(G++B)) H nx) (hk:∀H' nx',Hp nx0 H0 (A++B) H' nx'->ay P pl X0 (k (aP sz vs) H' nx') nx0 H0 R):ay P pl X0 (j6 P t sl H nx k) nx0 H0 R:=by
 obtain⟨hE,⟨rfl,rfl,rfl⟩ | ⟨b,c,rfl,hc,h0,rfl⟩⟩:=hG
 . have e1:j6 P t (.slice none 0 0) H nx k=k (aP sz []) H nx:=by
    unfold j6;rw[hu];show gH P t (.slice none 0 0) H nx k=_;unfold gH;rw[hu];show(bif Nat.beq 0 0&&Nat.beq 0 0 then af (aE P e) (λs=>k (aP s []) H nx) .bad else .bad)=_;rw[hs];rfl
   rw[e1];exact hk H nx h
 . have hm:=h.all (b,bR vs,e) (by simp);refine Wq.N5 hu hs ha hpos hm.2.2 (kp hE) ?_ hE.chunk ?_ h.ag hm.1 λH' cX hA=>hk H' _ (h.kill cX hA (Nat.le_succ _))
   . rcases hc with rfl | rfl
     . rfl
     . rw[Nat.ble_eq_true_of_le (Nat.le_refl _),Bool.or_true]
   . rw[List.all_eq_true];intro v hv;obtain⟨_,h2,h3⟩:=hE v hv;cases a with
     | true=>rfl
     | false=>
       rw[if_neg (by simp)]at h3;rw[h3.2]at h2;simpa using h2
theorem Wq.Ol {e':TypeId}{sz n m:Nat}{x:Value}{xs:List Value}{k:Value->T OB->Nat->Q}(hu:P.underlying t=some (.slice e))(hs:aE P e=some sz)(hb:cK H b l e')(hl:l.length=n*sz)(hx:isStr x=false)(hxs:nv H sz x=some (m,xs))(hm:0<m)(hn:n<eC)
 (hsm:a_ P e sz (n+m)=true) (h:Ag nx0 H0 nx H)
 (hk:∀H',cK H' nx (l++xs) e->(∀c l e,c<nx->cK H c l e->cK H' c l e)->Ag nx0 H0 (nx+1) H'->ay P pl X0 (k (.slice (some ⟨nx,0,none⟩) (n+m) eC) H' (nx+1)) nx0 H0 R):
 ay P pl X0 (bf (cw P H nx [t,t] (some [.slice (some ⟨b,0,none⟩) n n,x])) k) nx0 H0 R:=by
 rw[jD hx];unfold cC;rw[hu];simp only[hs,aw,hxs,hsm,cond_true];obtain⟨tr,h1,h2⟩:=hb;have e1:pc P H nx e sz (some ⟨b,0,none⟩) n n m xs=fZ H nx e (n+m) (l++xs):=by
  show tJ P H nx e sz b 0 n n m xs=_;unfold tJ;rw[h1];have eu:Nat.beq n eC=false:=by
   cases hq:Nat.beq n eC with
   | false=>rfl
   | true=>have:=Nat.eq_of_beq_eq_true hq;omega
  have ev:Nat.ble (n+m) n=false:=by
   cases hq:Nat.ble (n+m) n with
   | false=>rfl
   | true=>have:=Nat.le_of_ble_eq_true hq;omega
  simp only[cP,eu,ev,cond_false];unfold me;have:mQ tr (n*sz) 0=some l:=by rw[<- hl,im h2 _ _ (by omega)];simp
  rw[this,Nat.zero_add,hl,Nat.ble_eq_true_of_le (Nat.le_refl _)];have e0:Nat.blt 0 m=true:=Nat.ble_eq_true_of_le hm;rw[e0];rfl
 rw[e1,gd];exact Wq.new (q:=λH n'=>k (.slice (some ⟨nx,0,none⟩) (n+m) eC) H n') h λH' ha hb hc=>hk H' ha hb hc
theorem FJ:(1048576:Nat)<eC:=by decide +kernel
theorem Hq.add (A:List Bx){a:Bool}{sz:Nat}{v:Value}{vs:List Value}{sl:Value}{k:Value->T OB->Nat->Q}(hu:P.underlying t=some (.slice e))(hs:aE P e=some sz)(hsm:a_ P e sz (vs.length+1)=true)(hsmall:vs.length+1<=1048576)(hv:mJ a sz [v])
 (hG:Gw a sz e vs sl G) (h:Hp nx0 H0 (s::(b,v.cells.toList,e)::(A++(G++B))) H nx)
 (hk:∀sl' G' H' nx',Gw a sz e (vs++[v]) sl' G'->Hp nx0 H0 (s::(A++(G'++B))) H' nx'->ay P pl X0 (k sl' H' nx') nx0 H0 R):
 ay P pl X0 (bf (cw P H nx [t,t] (some [sl,.slice (some ⟨b,0,none⟩) 1 1])) k) nx0 H0 R:=by
 have hv1:=(hv v (by simp)).1;have hxs:nv H sz (.slice (some ⟨b,0,none⟩) 1 1)=some (1,v.cells.toList):=Cm (h.at_ 1 rfl) (by rw[hv1,Nat.one_mul]);have hone:v.cells.toList.all ah=true:=(hv v (by simp)).2.1;have hd:=h.lb;obtain⟨hE,hG⟩:=hG;have ecl:bR vs++v.cells.toList=bR (vs++[v]):=by simp[bR]
 have hnew:∀aI,Gw a sz e (vs++[v]) (.slice (some ⟨aI,0,none⟩) (vs.length+1) eC) [(aI,bR (vs++[v]),e)]:=λaI=>⟨hv.cons hE,.inr ⟨aI,eC,by rw[List.length_append];rfl,.inl rfl,by simp,rfl⟩⟩;have ins:∀{H':T OB} {x:Bx},Hp nx0 H0 (x::s::(A++B)) H' (nx+1)->Hp nx0 H0 (s::(A++([x]++B))) H' (nx+1):=λh=>h.perm (by
  refine(List.Perm.swap _ _ _).trans (List.Perm.cons _ ?_);exact(List.perm_middle (l₁:=A) (l₂:=B)).symm)
 rcases hG with⟨rfl,rfl,rfl⟩ | ⟨b',c,rfl,hc,h0,rfl⟩
 . refine Wq.LC hu hs rfl hxs (by simpa using hsm) h.ag (λq=>by cases q) λH' _ hb cX hA=> ?_;have hb':cK H' nx (bR ([]++[v])) e:=by rw[<- ecl];simpa[bR]using hb
   exact hk _ _ _ _ (hnew nx) (ins (hd.new hb' cX hA))
 . have hcl:=kp hE;have hm:=h.all (b',bR vs,e) (by simp);rcases hc with rfl | rfl
   . refine Wq.app hu hs hm.2.2 hs hcl rfl hxs hone hsm h.ag hm.1 hm.2.1 λH' hb cX hA=> ?_;rw[ecl]at hb;have hk':Hp nx0 H0 (s::(A++B)) H nx:=hd.sub (by simp);have hne:∀x∈s::(A++B),x.1≠b':=by
      have hdd:=hd.sR;have:((s::A++(b',bR vs,e)::B).map Prod.fst).Nodup:=hdd;simp only[List.map_append,List.map_cons]at this;rw[List.nodup_append]at this;obtain⟨_,g2,g3⟩:=this;rw[List.nodup_cons]at g2;intro x hx q;rcases List.mem_append.1 (show x∈(s::A)++B from hx)with hx | hx
      . exact g3 x.1 (List.mem_map_of_mem (f:=Prod.fst) hx) b' (by simp) q
      . exact g2.1 (q ▸ List.mem_map_of_mem hx)
     refine hk _ _ _ _ (hnew nx) (ins ⟨h.sQ,hA,?_,λx hx=> ?_⟩)
     . rw[List.map_cons,List.nodup_cons];refine⟨λq=> ?_,hk'.sR⟩;obtain⟨y,hy,e⟩:=List.mem_map.1 q;have:=(hk'.all y hy).2.1;have e':y.1=nx:=e;omega
     . rcases List.mem_cons.1 hx with rfl | hx
       . exact⟨h.ag.1,Nat.lt_succ_self _,hb⟩
       . obtain⟨g1,g2,g3⟩:=hk'.all x hx;exact⟨g1,by omega,cX _ _ _ (hne x hx) g2 g3⟩
   . refine Wq.Ol hu hs hm.2.2 hcl rfl hxs (by decide) (by have:=FJ;omega) hsm h.ag λH' hb cX hA=> ?_;rw[ecl]at hb;have hk':Hp nx0 H0 (s::(A++B)) H nx:=hd.sub (by simp);exact hk _ _ _ _ (hnew nx) (ins (hk'.new hb cX hA))
end
section
variable {nx0 nx nx':Nat}{H0 H H':T OB}{F A B G G':List Bx}{s:Bx}{R:Go.Ev.Out->T OB->Nat->Prop}{b:Nat}{l:List Value}{e t:TypeId}
def cg (n:Nat)(t:TypeId)(v u:Value)(G:List Bx):Prop:=∀(d:Nat),n<=d->∀(nx0 nx:Nat) (H0 H:T OB) (s:Bx) (B:List Bx) (k:Value->T OB->Nat->Q) (R:Go.Ev.Out->T OB->Nat->Prop),Hp nx0 H0 (s::(G++B)) H nx->
 (∀H' nx',Hp nx0 H0 (s::B) H' nx'->ay P pl X0 (k u H' nx') nx0 H0 R)->ay P pl X0 (hZ P d t v H nx k) nx0 H0 R
def ec (n:Nat)(offs:List (Nat×TypeId))(cs us:List Value)(G:List Bx):Prop:=∀(d:Nat),n<=d->∀(nx0 nx:Nat) (H0 H:T OB) (s:Bx) (B:List Bx) (k:List Value->T OB->Nat->Q) (R:Go.Ev.Out->T OB->Nat->Prop),Hp nx0 H0 (s::(G++B)) H nx->
 (∀H' nx',Hp nx0 H0 (s::B) H' nx'->ay P pl X0 (k us H' nx') nx0 H0 R)->ay P pl X0 (AI (hZ P d) offs cs H nx k) nx0 H0 R
def fE (n:Nat)(offs:List (Nat×TypeId))(v u:Value)(G:List Bx):Prop:=∀(d:Nat),n<=d->∀(nx0 nx:Nat) (H0 H:T OB) (s:Bx) (B:List Bx) (k:Value->T OB->Nat->Q) (R:Go.Ev.Out->T OB->Nat->Prop),Hp nx0 H0 (s::(G++B)) H nx->
 (∀H' nx',Hp nx0 H0 (s::B) H' nx'->ay P pl X0 (k u H' nx') nx0 H0 R)->ay P pl X0 (iY (hZ P d) offs v H nx k) nx0 H0 R
def gQ (n:Nat)(offs:List (Nat×TypeId))(vs us:List Value)(G:List Bx):Prop:=∀(d:Nat),n<=d->∀(nx0 nx:Nat) (H0 H:T OB) (s:Bx) (B:List Bx) (k:List Value->T OB->Nat->Q) (R:Go.Ev.Out->T OB->Nat->Prop),Hp nx0 H0 (s::(G++B)) H nx->
 (∀H' nx',Hp nx0 H0 (s::B) H' nx'->ay P pl X0 (k us H' nx') nx0 H0 R)->ay P pl X0 (iZ (iY (hZ P d) offs) vs H nx k) nx0 H0 R
theorem cg.mono {n m:Nat}{v u:Value}(h:cg n t v u G)(hm:n<=m):cg m t v u G:=λd hd=>h d (by omega)
theorem fE.mono {n m:Nat}{offs:List (Nat×TypeId)}{v u:Value}(h:fE n offs v u G)(hm:n<=m):fE m offs v u G:=λd hd=>h d (by omega)
theorem ec.nil {n:Nat}{cs:List Value}:ec n [] cs cs []:=λd hd nx0 nx H0 H s B k R h hk=>hk H nx h
theorem ec.cons {n:Nat}{p:Nat×TypeId}{offs:List (Nat×TypeId)}{cs us:List Value}{v u:Value}(hc:cs[p.1]? = some v)(h1:cg n p.2 v u G)(h2:ec n offs (cs.set p.1 u) us G'):ec n (p::offs) cs us (G++G'):=λd hd nx0 nx H0 H s B k R h hk=>by
 show ay P pl X0 (af cs[p.1]? (λv=>hZ P d p.2 v H nx λv H nx=>AI (hZ P d) offs (cs.set p.1 v) H nx k) .bad) nx0 H0 R;rw[hc,aw];rw[List.append_assoc]at h;exact h1 d hd nx0 nx H0 H s (G'++B) _ R h λH' nx' h'=>h2 d hd nx0 nx' H0 H' s B k R h' hk
theorem fE.of {n:Nat}{offs:List (Nat×TypeId)}{cs us:List Value}(h:ec n offs cs us G):fE n offs (.agg ⟨cs⟩) (.agg ⟨us⟩) G:=λd hd nx0 nx H0 H s B k R h1 hk=>h d hd nx0 nx H0 H s B _ R h1 hk
theorem fE.ar {n:Nat}{offs:List (Nat×TypeId)}(a:ByteArray):fE n offs (.string a) (.string a) []:=λd hd nx0 nx H0 H s B k R h1 hk=>hk H nx h1
theorem gQ.nil {n:Nat}{offs:List (Nat×TypeId)}:gQ n offs [] [] []:=λd hd nx0 nx H0 H s B k R h hk=>hk H nx h
theorem gQ.cons {n:Nat}{offs:List (Nat×TypeId)}{v u:Value}{vs us:List Value}(h1:fE n offs v u G)(h2:gQ n offs vs us G'):gQ n offs (v::vs) (u::us) (G++G'):=λd hd nx0 nx H0 H s B k R h hk=>by
 rw[List.append_assoc]at h;exact h1 d hd nx0 nx H0 H s (G'++B) _ R h λH' nx' h'=>h2 d hd nx0 nx' H0 H' s B _ R h' hk
theorem gQ.id {n:Nat}{offs:List (Nat×TypeId)}:∀{vs:List Value},(∀v∈vs,fE n offs v v [])->gQ n offs vs vs []
 | [],_=>gQ.nil
 | v::vs,h=>gQ.cons (h v (by simp)) (gQ.id λx hx=>h x (by simp[hx]))
theorem sS {d sz:Nat}{v:Value}{k:Value->T OB->Nat->Q}(hu:P.underlying t=some (.slice e)):hZ P (d+1) t v H nx k=gH P t v H nx λu H nx=>bif tM v then fh u (λs es=>iZ (iY (hZ P d) (cQ P 4 e)) es H nx λes H nx=>bif es.all λx=>Nat.beq x.cells.toList.length s then k (aP s es) H nx else .bad) .bad else k u H nx:=by
 show(gH P t v H nx λu H nx=>bif tM v then(match P.underlying t with | some (.slice e)=>fh u (λs es=>iZ (iY (hZ P d) (cQ P 4 e)) es H nx λes H nx=>bif es.all λx=>Nat.beq x.cells.toList.length s then k (aP s es) H nx else .bad) .bad | _=>k u H nx)else k u H nx)=_;rw[hu]
theorem u0 {sz:Nat}{k:Value->T OB->Nat->Q}(hu:P.underlying t=some (.slice e))(hs:aE P e=some sz):gH P t (.slice none 0 0) H nx k=k (aP sz []) H nx:=by
 unfold gH;rw[hu];show(bif Nat.beq 0 0&&Nat.beq 0 0 then af (aE P e) (λs=>k (aP s []) H nx) .bad else .bad)=_;rw[hs];rfl
theorem u1 {sz:Nat}{es:List Value}{k:Value->T OB->Nat->Q}(hu:P.underlying t=some (.slice e)):gH P t (aP sz es) H nx k=k (aP sz es) H nx:=by
 unfold gH;rw[hu];rfl
theorem cg.nil {sz:Nat}(hu:P.underlying t=some (.slice e))(hs:aE P e=some sz):cg 0 t (.slice none 0 0) (aP sz []) []:=λd hd nx0 nx H0 H s B k R h hk=>by
 cases d with
 | zero=>
   show ay P pl X0 (gH P t (.slice none 0 0) H nx k) nx0 H0 R;rw[u0 hu hs];exact hk H nx h
 | succ d=>
   rw[sS (sz:=sz) hu,u0 hu hs];exact hk H nx h
theorem cg.row {sz:Nat}{es:List Value}(hu:P.underlying t=some (.slice e)):cg 0 t (aP sz es) (aP sz es) []:=λd hd nx0 nx H0 H s B k R h hk=>by
 cases d with
 | zero=>
   show ay P pl X0 (gH P t (aP sz es) H nx k) nx0 H0 R;rw[u1 hu];exact hk H nx h
 | succ d=>
   rw[sS (sz:=sz) hu,u1 hu];exact hk H nx h
theorem cg.di {a:Bool}{sz n c:Nat}{vs us:List Value}{offs:List (Nat×TypeId)}(hu:P.underlying t=some (.slice e))(hs:aE P e=some sz)(ha:cH P e=some a)(hpos:(Nat.blt 0 sz&&(a||Nat.beq sz 1))=true)(ho:cQ P 4 e=offs)(hE:mJ a sz vs)(hc:c=eC\/c=vs.length)(h0:0<vs.length)
 (hL:gQ n offs vs us G) (hus:∀u∈us,u.cells.toList.length=sz):cg (n+1) t (.slice (some ⟨b,0,none⟩) vs.length c) (aP sz us) ((b,bR vs,e)::G):=λd hd nx0 nx H0 H s B k R h hk=>by
 cases d with
 | zero=>omega
 | succ d=>
   rw[sS (sz:=sz) hu,Jd hu];refine Hq.N5 [s] (B:=G++B) hu hs ha hpos (G:=[(b,bR vs,e)]) ⟨hE,.inr ⟨b,c,rfl,hc,h0,rfl⟩⟩ h λH' nx' h'=> ?_;show ay P pl X0 (iZ (iY (hZ P d) (cQ P 4 e)) vs H' nx' λes H nx=>bif es.all λx=>Nat.beq x.cells.toList.length sz then k (aP sz es) H nx else .bad) nx0 H0 R;rw[ho];refine hL d (by omega) nx0 nx' H0 H' s B _ R h' λH2 nx2 h2=> ?_;have e:(us.all λx=>Nat.beq x.cells.toList.length sz)=true:=by
    rw[List.all_eq_true];intro x hx;rw[hus x hx,Nat.beq_refl]
   rw[e];exact hk H2 nx2 h2
theorem cg.gw {a:Bool}{sz n:Nat}{vs us:List Value}{sl:Value}{offs:List (Nat×TypeId)}(hu:P.underlying t=some (.slice e))(hs:aE P e=some sz)(ha:cH P e=some a)(hpos:(Nat.blt 0 sz&&(a||Nat.beq sz 1))=true)(ho:cQ P 4 e=offs)(hG:Gw a sz e vs sl G)
 (hL:gQ n offs vs us []) (hus:∀u∈us,u.cells.toList.length=sz) (h0:vs=[]->us=[]):cg (n+1) t sl (aP sz us) G:=by
 obtain⟨hE,⟨rfl,rfl,rfl⟩ | ⟨b,c,rfl,hc,h1,rfl⟩⟩:=hG
 . rw[h0 rfl];exact(cg.nil hu hs).mono (Nat.zero_le _)
 . exact cg.di hu hs ha hpos ho hE hc h1 hL hus
theorem Hp.mv (A:List Bx){x:Bx}(h:Hp nx0 H0 (s::(A++x::B)) H nx):Hp nx0 H0 (s::x::(A++B)) H nx:=h.perm (List.Perm.cons _ List.perm_middle)
theorem qX {l c:List Value}(h:c.length=l.length):gg l c 0=c:=by
 unfold gg;simp[h]
theorem Hq.fin {n sz:Nat}{cs:List Value}{u:Value}{offs:List (Nat×TypeId)}{k:Value->T OB->Nat->Q}(h:Hp nx0 H0 (s::(b,l,e)::(G++B)) H nx)(hs:aE P t=some sz)(hag:cH P t=some true)(ho:cQ P 4 t=offs)(hl:l.length=sz)(hc:cs.length=sz)(h1:cs.all ah=true)
 (hz:fE n offs (.agg ⟨cs⟩) u G) (hn:n<=100000) (hk:∀H' nx',Hp nx0 H0 (s::B) H' nx'->ay P pl X0 (k u H' nx') nx0 H0 R):
 ay P pl X0 (bf (bY P H nx t (some (.pointer (some ⟨b,0,none⟩))) (some (.agg ⟨cs⟩))) λ_ H nx=>af (aj P H t (some (.pointer (some ⟨b,0,none⟩)))) (λx=>bw P t x H nx k) .bad) nx0 H0 R:=by
 refine Hq.store [s] h hs (by omega) hc h1 λH' h'=> ?_;rw[show gg l (Value.agg ⟨cs⟩).cells.toList 0=cs from qX (by show cs.length=_;omega)]at h';have hb:cK H' b cs e:=h'.at_ 1 rfl;rw[cI hb hag hs (by omega)];have e2:((cs.drop 0).take sz)=cs:=by rw[List.drop_zero,<- hc,List.take_length]
 rw[e2,aw];unfold bw;show ay P pl X0 (iY (hZ P 100000) (cQ P 4 t) (.agg ⟨cs⟩) H' nx k) nx0 H0 R;rw[ho];exact hz 100000 hn nx0 nx H0 H' s B k R (Hp.lb h') hk
theorem eT:cQ P 4 44=[(3,42),(4,39),(5,23)]:=by kernel_rfl
theorem gk:cQ P 4 41=[(3,39)]:=by kernel_rfl
theorem l5:cQ P 4 84=[(2,50)]:=by kernel_rfl
theorem DJ:cQ P 4 52=[(1,50)]:=by kernel_rfl
theorem Ie:cQ P 4 64=[(1,39),(5,42),(6,39),(7,23)]:=by kernel_rfl
theorem mA:cQ P 4 54=[(4,39),(8,42),(9,39),(10,23),(11,45),(12,46),(14,47),(16,50)]:=by kernel_rfl
theorem Om:cQ P 4 9=[]:=by kernel_rfl
end
section
inductive iB (α:Type) where
 | ok (a:α) (k:Nat)
 | bad (at_:Int)
abbrev PR (α:Type):=Option (iB α)
def bd {α β:Type}(x:PR α)(f:α->Nat->PR β):PR β:=match x with
 | none=>none
 | some (.bad a)=>some (.bad a)
 | some (.ok a k)=>f a k
theorem z3 {α β:Type}{a:α}{k:Nat}{f:α->Nat->PR β}:bd (some (.ok a k)) f=f a k:=rfl
theorem sT {α β:Type}{a:Int}{f:α->Nat->PR β}:bd (some (.bad a)) f=some (.bad a):=rfl
variable (L:List Tok)
def tk (k:Nat):Tok:=(L[k]?).getD ⟨0,[],0,0⟩
def iQ (k:Nat):Bool:=decide ((tk L k).k=7)||decide ((tk L k).k=6)
def bC (k:Nat)(s:List UInt8):Bool:=iQ L k&&decide ((tk L k).s=s)
def ld {α:Type}(k:Nat):PR α:=some (.bad (tk L k).at_)
def yes {α:Type}(a:α)(k:Nat):PR α:=some (.ok a k)
def ba {α:Type}(s:List UInt8)(k:Nat)(f:Nat->PR α):PR α:=if bC L k s=true then f (k+1)else ld L k
def c_ {α:Type}(c:Int)(k:Nat)(f:Tok->Nat->PR α):PR α:=if(tk L k).k=c then f (tk L k) (k+1)else ld L k
def skip (s:List UInt8)(k:Nat):Nat:=if bC L k s=true then k+1 else k
def jN (lvl k:Nat):Bool:=iQ L k&&((aC[lvl]?).getD []).contains (tk L k).s
def unOp (k:Nat):Bool:=iQ L k&&dt.contains (tk L k).s
def oN (k:Nat):Bool:=decide ((tk L k).k=1)||(decide ((tk L k).k=2)||(decide ((tk L k).k=3)||decide ((tk L k).k=4)))
def jO (k:Nat):Bool:=oN L k||(bC L k [40]||bC L k [108,101,116])
def lf (k:Nat):Bool:=oN L k||(bC L k [40]||(bC L k [95]||bC L k [126]))
def gR (k:Nat):Bool:=decide ((tk L k).k=3)||bC L k [114,101,102]
def au.add:au->au->au
 | .mk k n s l p d,b=> .mk k n s (l++[b]) p d
def au.jo:au->aD->au->au
 | .mk k n s l p d,q,b=> .mk k n s (l++[b]) (p++[q]) d
abbrev two (op:List UInt8)(a b:au):au:= .mk 14 0 op [a,b] [] []
abbrev mK:au:= .mk 0 0 [] [] [] []
abbrev l6:aD:= .mk 0 0 [] []
abbrev gS:Data:=⟨[],[],[]⟩
abbrev lg:dk:=⟨[],[]⟩
abbrev Be:aJ:= .mk 0 l6 mK [] gS lg
abbrev DK (a b:aD):aD:= .mk 6 0 [58,58] [.mk 5 0 [] [a,b]]
structure PS where
 exp:Nat->PR au
 oO:au->Nat->PR au
 bin:Nat->Nat->PR au
 u2:Nat->au->Nat->PR au
 un:Nat->PR au
 u3:au->Nat->PR au
 atom:Nat->PR au
 dO:List UInt8->au->Nat->PR au
 lt:Nat->PR au
 sU:List aJ->Nat->PR (List aJ)
 pat:Nat->PR aD
 dA:Nat->PR aD
 pQ:List aD->Nat->PR (List aD)
 lB:Nat->PR aY
 mB:List aY->Nat->PR (List aY)
 post:Nat->PR aY
 Ig:List aY->Nat->PR (List aY)
 gT:aY->Nat->PR aY
 lC:Nat->PR dk
 bind:Nat->PR (Option aJ)
 sV:List Fn->Nat->PR (List Fn)
 fn:Nat->PR Fn
 FK:List aD->Nat->PR (List aD)
 dec:Nat->PR (Option aJ)
 data:Nat->PR Data
 sW:List (List UInt8)->Nat->PR (List (List UInt8))
 u4:List dk->Nat->PR (List dk)
 er:List aJ->Nat->PR (List aJ)
def PS.none:PS:=⟨λ_=> .none,λ_ _=> .none,λ_ _=> .none,λ_ _ _=> .none,λ_=> .none,λ_ _=> .none,λ_=> .none,λ_ _ _=> .none,λ_=> .none,λ_ _=> .none,λ_=> .none,λ_=> .none,λ_ _=> .none,λ_=> .none,λ_ _=> .none,λ_=> .none,λ_ _=> .none,λ_ _=> .none,
 λ_=> .none,λ_=> .none,λ_ _=> .none,λ_=> .none,λ_ _=> .none,λ_=> .none,λ_=> .none,λ_ _=> .none,λ_ _=> .none,λ_ _=> .none⟩
variable (p:PS)
def sX (e:au)(k:Nat):PR au:=bd (p.pat k) λq k=>ba L [61,62] k λk=>bd (p.exp k) λx k=>if bC L k [124]=true then p.oO (e.jo q x) (k+1)else yes (e.jo q x) k
def gC (k:Nat):PR au:=
 if bC L k [105,102]=true then bd (p.exp (k+1)) λa k=>ba L [116,104,101,110] k λk=>bd (p.exp k) λb k=>ba L [101,108,115,101] k λk=>bd (p.exp k) λc k=>yes (.mk 8 0 [] [a,b,c] [] []) k
 else if bC L k [99,97,115,101]=true then bd (p.exp (k+1)) λa k=>ba L [111,102] k λk=>p.oO (.mk 9 0 [] [a] [] []) k
 else if bC L k [102,110]=true then p.oO (.mk 7 0 [] [] [] []) (k+1)
 else if bC L k [114,97,105,115,101]=true then bd (p.exp (k+1)) λa k=>yes (.mk 11 0 [] [a] [] []) k
 else bd (p.bin 0 k) λa k=>if bC L k [104,97,110,100,108,101]=true then p.oO (.mk 12 0 [] [a] [] []) (k+1)else yes a k
def lh (lvl:Nat)(a:au)(k:Nat):PR au:=
 if jN L lvl k=true then(if lvl=2\/lvl=4 then bd (p.bin lvl (k+1)) λb k'=>yes (two (tk L k).s a b) k' else bd (p.bin (lvl+1) (k+1)) λb k'=>p.u2 lvl (two (tk L k).s a b) k')else yes a k
def iC (lvl k:Nat):PR au:=if lvl=7 then p.un k else bd (p.bin (lvl+1) k) λa k=>lh L p lvl a k
def oP (a:au)(k:Nat):PR au:=if jO L k=true then bd (p.atom k) λb k=>p.u3 (.mk 6 0 [] [a,b] [] []) k else yes a k
def wN (k:Nat):PR au:=if unOp L k=true then bd (p.un (k+1)) λa k'=>yes (.mk 15 0 (tk L k).s [a] [] []) k' else bd (p.atom k) λa k=>oP L p a k
def kq (s:List UInt8)(e:au)(k:Nat):PR au:=if bC L k s=true then bd (p.exp (k+1)) λb k=>p.dO s (e.add b) k else yes e k
def eU (k:Nat):PR au:=
 if(tk L k).k=1 then yes (.mk 1 (tk L k).n [] [] [] []) (k+1)
 else if(tk L k).k=2 then yes (.mk 2 0 (tk L k).s [] [] []) (k+1)
 else if(tk L k).k=3 then yes (.mk 3 0 (tk L k).s [] [] []) (k+1)
 else if(tk L k).k=4 then yes (.mk 4 0 (tk L k).s [] [] []) (k+1)
 else if bC L k [108,101,116]=true then p.lt (k+1)
 else ba L [40] k λk=>if bC L k [41]=true then yes (.mk 5 0 [] [] [] []) (k+1)else bd (p.exp k) λa k=>
  if bC L k [44]=true then bd (kq L p [44] (.mk 5 0 [] [a] [] []) k) λe k=>ba L [41] k λk=>yes e k
  else if bC L k [59]=true then bd (kq L p [59] (.mk 13 0 [] [a] [] []) k) λe k=>ba L [41] k λk=>yes e k
  else ba L [41] k λk=>yes a k
def oQ (ds:List aJ)(k:Nat):PR (List aJ):=if bC L k [105,110]=true then yes ds (k+1)else bd (p.bind k) λd k=>match d with
 | some d=>p.sU (ds++[d]) (skip L [59] k)
 | none=>ld L k
def Kh (k:Nat):PR au:=bd (oQ L p [] k) λds k=>bd (p.exp k) λa k=>
 if bC L k [59]=true then bd (kq L p [59] (.mk 13 0 [] [a] [] []) k) λa k=>ba L [101,110,100] k λk=>yes (.mk 10 0 [] [a] [] ds) k
 else ba L [101,110,100] k λk=>yes (.mk 10 0 [] [a] [] ds) k
def sY (k:Nat):PR aD:=if(tk L k).k=4 then(if lf L (k+1)=true then bd (p.dA (k+1)) λb k'=>yes (.mk 6 0 (tk L k).s [b]) k' else yes (.mk 6 0 (tk L k).s []) (k+1))else p.dA k
def sZ (k:Nat):PR aD:=bd (sY L p k) λa k=>if bC L k [58,58]=true then bd (p.pat (k+1)) λb k=>yes (DK a b) k else yes a k
def oR (l:List aD)(k:Nat):PR (List aD):=if bC L k [44]=true then bd (p.pat (k+1)) λb k=>p.pQ (l++[b]) k else yes l k
def dh (k:Nat):PR aD:=
 if(tk L k).k=1 then yes (.mk 3 (tk L k).n [] []) (k+1)
 else if(tk L k).k=2 then yes (.mk 4 0 (tk L k).s []) (k+1)
 else if(tk L k).k=3 then yes (.mk 2 0 (tk L k).s []) (k+1)
 else if(tk L k).k=4 then yes (.mk 6 0 (tk L k).s []) (k+1)
 else if bC L k [95]=true then yes (.mk 1 0 [] []) (k+1)
 else if bC L k [126]=true then c_ L 1 (k+1) λt k=>yes (.mk 3 (IntKind.i64.wrap (-t.n)) [] []) k
 else ba L [40] k λk=>if bC L k [41]=true then yes (.mk 5 0 [] []) (k+1)else bd (p.pat k) λa k=>
  if bC L k [44]=true then bd (oR L p [a] k) λl k=>ba L [41] k λk=>yes (.mk 5 0 [] l) k else ba L [41] k λk=>yes a k
def qY (l:List aY)(k:Nat):PR (List aY):=if bC L k [42]=true then bd (p.post (k+1)) λb k=>p.mB (l++[b]) k else yes l k
def z4 (k:Nat):PR aY:=bd (p.post k) λa k=>if bC L k [42]=true then bd (qY L p [a] k) λl k=>yes (.mk 4 [] l) k else yes a k
def DL (k:Nat):PR aY:=bd (z4 L p k) λa k=>if bC L k [45,62]=true then bd (p.lB (k+1)) λb k=>yes (.mk 3 [] [a,b]) k else yes a k
def s9 (l:List aY)(k:Nat):PR (List aY):=if bC L k [44]=true then bd (p.lB (k+1)) λb k=>p.Ig (l++[b]) k else yes l k
def mC (a:aY)(k:Nat):PR aY:=if gR L k=true then p.gT (.mk 2 (tk L k).s [a]) (k+1)else yes a k
def z5 (k:Nat):PR aY:=
 if(tk L k).k=5 then yes (.mk 1 (tk L k).s []) (k+1)
 else if gR L k=true then yes (.mk 2 (tk L k).s []) (k+1)
 else ba L [40] k λk=>bd (p.lB k) λa k=>
  if bC L k [44]=true then bd (s9 L p [a] k) λl k=>ba L [41] k λk=>if gR L k=true then yes (.mk 2 (tk L k).s l) (k+1)else ld L k
  else ba L [41] k λk=>yes a k
def u5 (k:Nat):PR aY:=bd (z5 L p k) λa k=>mC L p a k
def DM (k:Nat):PR dk:=c_ L 4 k λt k=>if bC L k [111,102]=true then bd (p.lB (k+1)) λa k=>yes ⟨t.s,[a]⟩ k else yes ⟨t.s,[]⟩ k
def oS (l:List Fn)(k:Nat):PR (List Fn):=if bC L k [97,110,100]=true then bd (p.fn (k+1)) λf k=>p.sV (l++[f]) k else yes l k
def lj (k:Nat):PR (Option aJ):=
 if bC L k [118,97,108]=true then bd (p.pat (k+1)) λa k=>ba L [61] k λk=>bd (p.exp k) λe k=>yes (some (.mk 1 a e [] gS lg)) k
 else if bC L k [102,117,110]=true then bd (p.fn (k+1)) λf k=>bd (oS L p [f] k) λl k=>yes (some (.mk 2 l6 mK l gS lg)) k
 else yes none k
def oT (l:List aD)(k:Nat):PR (List aD):=if lf L k=true then bd (p.dA k) λq k=>p.FK (l++[q]) k else yes l k
def Ki (k:Nat):PR Fn:=c_ L 3 k λt k=>bd (p.dA k) λq k=>bd (oT L p [q] k) λl k=>ba L [61] k λk=>bd (p.exp k) λe k=>yes (.mk t.s l e) k
def pU (l:List (List UInt8))(k:Nat):PR (List (List UInt8)):=if bC L k [44]=true then c_ L 5 (k+1) λt k=>p.sW (l++[t.s]) k else yes l k
def jq (l:List dk)(k:Nat):PR (List dk):=if bC L k [124]=true then bd (p.lC (k+1)) λc k=>p.u4 (l++[c]) k else yes l k
def z6 (k:Nat):PR (List (List UInt8)):=
 if(tk L k).k=5 then yes [(tk L k).s] (k+1)
 else if bC L k [40]=true then c_ L 5 (k+1) λt k=>bd (pU L p [t.s] k) λl k=>ba L [41] k λk=>yes l k
 else yes [] k
def u6 (k:Nat):PR Data:=bd (z6 L p k) λvs k=>c_ L 3 k λt k=>ba L [61] k λk=>bd (p.lC k) λc k=>bd (jq L p [c] k) λl k=>yes ⟨vs,t.s,l⟩ k
def wO (k:Nat):PR (Option aJ):=
 if bC L k [100,97,116,97,116,121,112,101]=true then bd (p.data (k+1)) λx k=>yes (some (.mk 3 l6 mK [] x lg)) k
 else if bC L k [101,120,99,101,112,116,105,111,110]=true then bd (p.lC (k+1)) λc k=>yes (some (.mk 4 l6 mK [] gS c)) k
 else p.bind k
abbrev mL (e:au):aJ:= .mk 5 l6 e [] gS lg
def lk (ds:List aJ)(k:Nat):PR (List aJ):=
 if(tk L k).k=0 then yes ds k else bd (p.dec k) λd k=>match d with
  | some d=>p.er (ds++[d]) (skip L [59] k)
  | none=>bd (p.exp k) λe k=>p.er (ds++[mL e]) (skip L [59] k)
def Kj:PS where
 exp:=gC L p
 oO:=sX L p
 bin:=iC L p
 u2:=lh L p
 un:=wN L p
 u3:=oP L p
 atom:=eU L p
 dO:=kq L p
 lt:=Kh L p
 sU:=oQ L p
 pat:=sZ L p
 dA:=dh L p
 pQ:=oR L p
 lB:=DL L p
 mB:=qY L p
 post:=u5 L p
 Ig:=s9 L p
 gT:=mC L p
 lC:=DM L p
 bind:=lj L p
 sV:=oS L p
 fn:=Ki L p
 FK:=oT L p
 dec:=wO L p
 data:=u6 L p
 sW:=pU L p
 u4:=jq L p
 er:=lk L p
def ps:Nat->PS
 | 0=>PS.none
 | n+1=>Kj L (ps n)
end
section
variable {nx0:Nat}{H0:T OB}
variable {fr:Nat->List Value->TypeId->Prop}{bp:Nat}{l0:List Tok}{b0:Bool}{ok:Bool}{ts:List Tok}{n nx:Nat}{H:T OB}{R:Value->T OB->Nat->Prop}
abbrev dY (s:List UInt8):Tok:=⟨7,s,0,0⟩
abbrev eY (s:List UInt8):Tok:=⟨6,s,0,0⟩
theorem On (f:FuncId)(k:Int)(s:List UInt8)(hf:X0 f [ar s]=none)(hq:∀H nx,aV P pl (.call f [ar s] false none H nx)=bf (bL P H nx 70) (λx0 H nx=>af (aO P 70 (some [(0,i64 k),(1,ar s)])) (λx1=>bf (bY P H nx 70 (some x0) (some x1)) (λx2 H nx=>af (aj P H 70 (some x0)) (λx3=> .ret ⟨.ret x3,false,H,nx⟩) .bad)) .bad)):
 P0 f [ar s] (Tok.v ⟨k,s,0,0⟩):=Pure.of hf λH nx=>by
 rw[hq];refine Wq.alloc dR (.refl _ _) λH1 hb _ hA1=> ?_;simp only[ab,FH];refine Wq.store hb fN (by simp) rfl rfl hA1 (by omega) λH2 hb _ hA2=> ?_;have hb':cK H2 nx (Tok.c ⟨k,s,0,0⟩) 70:=hb;rw[cI hb' wm fN (by simp)];exact Wq.ret hA2
def l7 (k:Int):Bool:=decide (k=1)||(decide (k=2)||(decide (k=3)||(decide (k=4)||(decide (k=5)||(decide (k=13)||decide (k=10))))))
def DN (s:List UInt8):Tok:=if(match s with | []=>false | c::_=>ck c)=true then eY s else dY s
theorem Kk (l:List (List UInt8))(hl:l.length<ee)(s:List UInt8):∀(r:List (List UInt8)) (i:Nat) (H:T OB) (nx:Nat),l.drop i=r->i<=l.length->Ag nx0 H0 nx H->Wq P pl X0 (.jump (uP (ar s) (la l) (i64 (l.length:Int)) (i64 (i:Int)) H nx)) nx0 H0 (.bool (r.contains s)):=by
 intro r
 induction r with
 | nil=>
   intro i H nx hd hi hA;have hil:=drop_nil hd hi;refine Wq.jmp (zK ..) (λ_=>rfl) ?_;simp only[ab,eR,List.length_map,hil,bc];exact Wq.ret hA
 | cons x r ih=>
   intro i H nx hd hi hA;obtain⟨hg,hlt,hd'⟩:=drop_cons hd;have hg':(l.map ar)[i]? = some (ar x):=by simp[hg]
   refine Wq.jmp (zK ..) (λ_=>rfl) ?_;simp only[ab,eR,List.length_map,bh hlt,LM hg',m5,aB (show i<9223372036854775807 by have:=gi hl;omega)];refine Wq.ite (λh=> ?_) (λh=> ?_)
   . exact Wq.jL (by subst h;simp) hA
   . have:((x::r).contains s)=r.contains s:=by rw[List.contains_cons,show(s == x)=false from by simp;exact λq=>h q.symm,Bool.false_or]
     rw[this];exact ih (i+1) H nx hd' (by omega) hA
theorem Kl (l:List (List UInt8))(hl:l.length<ee)(s:List UInt8):P0 74 [la l,ar s] (.bool (l.contains s)):=Pure.of rfl λH nx=>by
 rw[O4];simp only[ab,eR,List.length_map];exact Kk l hl s l 0 H nx rfl (Nat.zero_le _) (.refl _ _)
theorem FL (b:Nat)(l:List (List UInt8))(s:List UInt8)(hb:mI H0 b (l.map ar))(hbx:b<nx0)(hl:l.length<1000000)(cp:Nat):∀(r:List (List UInt8)) (i:Nat) (H:T OB) (nx:Nat),l.drop i=r->i<=l.length->Ag nx0 H0 nx H->
 Wq P pl X0 (.jump (uP (ar s) (.slice (some ⟨b,0,none⟩) l.length cp) (i64 (l.length:Int)) (i64 (i:Int)) H nx)) nx0 H0 (.bool (r.contains s)):=by
 intro r
 induction r with
 | nil=>
   intro i H nx hd hi hA;have hil:=drop_nil hd hi;refine Wq.jmp (zK ..) (λ_=>rfl) ?_;simp only[ab,hil,bc];exact Wq.ret hA
 | cons x r ih=>
   intro i H nx hd hi hA;obtain⟨hg,hlt,hd'⟩:=drop_cons hd;have hg':(l.map ar)[0+i*1]? = some (ar x):=by simp[hg]
   refine Wq.jmp (zK ..) (λ_=>rfl) ?_;simp only[ab,bh hlt,Cw hlt,lZ (hb.ag hA hbx) ox hg',aB (show i<9223372036854775807 by omega),m5];refine Wq.ite (λh=> ?_) (λh=> ?_)
   . exact Wq.jL (by subst h;simp) hA
   . have:((x::r).contains s)=r.contains s:=by rw[List.contains_cons,show(s == x)=false from by simp;exact λq=>h q.symm,Bool.false_or]
     rw[this];exact ih (i+1) H nx hd' (by omega) hA
theorem Km (H:T OB):bq P H 132 (some (.pointer (some ⟨2,0,none⟩))) (some none) (some none) (some none)=some (.slice (some ⟨2,0,none⟩) 8 8):=jl (len:=8) (e:=9) (by kernel_rfl) jK (by omega) (by omega)
theorem FM (s:List UInt8):PT 74 [.slice (some ⟨2,0,none⟩) 8 8,ar s] (.bool (dt.contains s)):=PT.of rfl λH nx hT=>by
 rw[O4];simp only[ab];exact FL 2 dt s hT.words (by have:=hT.1;omega) (by decide) 8 dt 0 H nx rfl (Nat.zero_le _) (.refl _ _)
theorem wP {b s:Nat}{l:List Value}{t:TypeId}{H:T OB}(h:mI H b l)(ha:cH P t=some true)(hs:aE P t=some s)(hl:l.length=s):aj P H t (some (.pointer (some ⟨b,0,none⟩)))=some (.agg ⟨l⟩):=by
 obtain⟨tr,h1,h2⟩:=h;show iI P H t b 0=_;unfold iI;rw[h1];show iR P l.length tr t 0=_;unfold iR;rw[ha,aw];show nd P l.length tr t 0=_;unfold nd;rw[hs,aw,im h2 s 0 (by omega),Nat.ble_eq_true_of_le (show 0+s<=l.length by omega)];simp[<- hl]
end
section
variable {nx0 nx nx' bp k:Nat}{H0 H H':T OB}{F A B G G':List Bx}{s:Bx}{R:Go.Ev.Out->T OB->Nat->Prop}{b:Nat}{l:List Value}{e t:TypeId}{L:List Tok}
abbrev gU (L:List Tok):Value:=aP 4 (L.map Tok.v)
abbrev bP (bp:Nat)(L:List Tok)(k:Nat):Bx:=(bp,[gU L,i64 (k:Int)],79)
theorem Sq.jr {f:FuncId}{args:List Value}{u:Value}{kt p:Value->T OB->Nat->Q}{F':List Bx}(hx:X0 f args=none)(h:ay P pl X0 (aV P pl (.call f args false none H nx)) nx0 H0 (λo H nx=>o= .ret u/\Hp nx0 H0 F' H nx))
 (hk:∀H' nx',Hp nx0 H0 F' H' nx'->ay P pl X0 (kt u H' nx') nx0 H0 R):ay P pl X0 (cD (.call f args false none H nx) kt p) nx0 H0 R:=
 Wq.fM hx h (λv H' nx' _ q=>by
  obtain⟨q1,q2⟩:=q;cases q1;exact hk H' nx' q2) (λv H' nx' _ q=>by cases q.1)
theorem iO {u:Value}{F':List Bx}(h:Hp nx0 H0 F' H nx):ay P pl X0 (.ret ⟨.ret u,false,H,nx⟩) nx0 H0 (λo H nx=>o= .ret u/\Hp nx0 H0 F' H nx):=Wq.kj h.ag ⟨rfl,h⟩
theorem qZ {u v:Value}{F':List Bx}(e:u=v)(h:Hp nx0 H0 F' H nx):ay P pl X0 (.ret ⟨.ret u,false,H,nx⟩) nx0 H0 (λo H nx=>o= .ret v/\Hp nx0 H0 F' H nx):=by subst e;exact iO h
theorem fO {L:List Tok}{k:Nat}(h:(tk L k).k≠0):k<L.length:=by
 unfold tk at h;cases hk:L[k]? with
 | none=>rw[hk]at h;exact absurd rfl h
 | some t=>exact(List.getElem?_eq_some_iff.1 hk).1
theorem DO {L:List Tok}{k:Nat}{w:List UInt8}(h:bC L k w=true):k<L.length:=by
 refine fO λq=> ?_;unfold bC iQ at h;rw[q]at h;simp at h
theorem pk (h:Hp nx0 H0 (bP bp L k::F) H nx):aj P H 3 (some (.pointer (some ⟨bp,1,none⟩)))=some (i64 (k:Int)):=ak (h.at_ 0 rfl) qL rfl
theorem Qb (h:Hp nx0 H0 (bP bp L k::F) H nx):aj P H 35 (some (.pointer (some ⟨bp,0,none⟩)))=some (gU L):=ak (h.at_ 0 rfl) Jf rfl
theorem DP {c0 c1 c2 c3:Value}(h:cK H b [c0,c1,c2,c3] 70):aj P H 70 (some (.pointer (some ⟨b,0,none⟩)))=some (.agg ⟨[c0,c1,c2,c3]⟩):=by
 rw[cI h wm fN (by simp)];rfl
theorem Mw (h:Hp nx0 H0 (bP bp L k::F) H nx):ay P pl X0 (aV P pl (.call 45 [ptr bp] false none H nx)) nx0 H0 (λo H nx=>o= .ret (tk L k).v/\Hp nx0 H0 (bP bp L k::F) H nx):=by
 rw[PA];refine Hq.alloc dR h λx0 H1 aI h1=> ?_;simp only[ab,pk h1,Qb h1,List.length_map];refine Wq.ite (λhlt=> ?_) (λhge=> ?_)
 . have hlt':k<L.length:=by omega
   have hg:L[k]? = some L[k]:=List.getElem?_eq_getElem hlt';have hx:(L.map Tok.v)[k]? = some L[k].v:=by simp[hg]
   simp only[ab,HD hx];refine Hq.store [bP bp L k] h1 fN (by simp) rfl rfl λH2 h2=> ?_;simp only[ab,DP (h2.at_ 1 rfl)];refine qZ ?_ h2.lb;show _=(tk L k).v;unfold tk;rw[hg];rfl
 . refine Hq.store [bP bp L k] h1 fN (by simp) rfl rfl λH2 h2=> ?_;simp only[ab,DP (h2.at_ 1 rfl)];refine qZ ?_ h2.lb;show _=(tk L k).v;unfold tk;rw[List.getElem?_eq_none (by omega)];rfl
theorem Sq.now {kt p:Value->T OB->Nat->Q}(h:Hp nx0 H0 (bP bp L k::F) H nx)(hk:∀H' nx',Hp nx0 H0 (bP bp L k::F) H' nx'->ay P pl X0 (kt (tk L k).v H' nx') nx0 H0 R):ay P pl X0 (cD (.call 45 [ptr bp] false none H nx) kt p) nx0 H0 R:=Sq.jr rfl (Mw h) hk
theorem Sq.FN {kt:T OB->Nat->Q}(h:Hp nx0 H0 F H nx)(hk:∀H' nx',Hp nx0 H0 F H' nx'->ay P pl X0 (kt H' nx') nx0 H0 R):ay P pl X0 (bf (bL P H nx 70) λp H nx=>cW P H nx 70 (some p) (tk L k).v kt) nx0 H0 R:=Hq.var dR fN rfl rfl rfl h hk
theorem Mx {a b:Bool}{x y:Q}(h:(a||b)=true->ay P pl X0 x nx0 H0 R)(h':(a||b)=false->ay P pl X0 y nx0 H0 R):ay P pl X0 (Ev.bK a x (Ev.bK b x y)) nx0 H0 R:=by
 cases a with
 | true=>exact h rfl
 | false=>
   cases b with
   | true=>exact h rfl
   | false=>exact h' rfl
theorem NM (a b:List UInt8):decide ((⟨⟨a⟩⟩:ByteArray)=⟨⟨b⟩⟩)=decide (a=b):=by rw[decide_eq_decide];simp
theorem Kn (w:List UInt8)(h:Hp nx0 H0 (bP bp L k::F) H nx):ay P pl X0 (aV P pl (.call 65 [ptr bp,ar w] false none H nx)) nx0 H0 (λo H nx=>o= .ret (.bool (bC L k w))/\Hp nx0 H0 (bP bp L k::F) H nx):=by
 rw[PN];refine Sq.now h λH1 aI h1=> ?_;refine Sq.FN h1 λH2 nx2 h2=> ?_;simp only[ab];refine Mx (λhw=> ?_) (λhw=> ?_)
 . refine qZ ?_ h2;unfold bC iQ;rw[hw,Bool.true_and,NM]
 . refine qZ ?_ h2;unfold bC iQ;rw[hw,Bool.false_and]
theorem Sq.is {w:List UInt8}{kt p:Value->T OB->Nat->Q}(h:Hp nx0 H0 (bP bp L k::F) H nx)(hk:∀H' nx',Hp nx0 H0 (bP bp L k::F) H' nx'->ay P pl X0 (kt (.bool (bC L k w)) H' nx') nx0 H0 R):ay P pl X0 (cD (.call 65 [ptr bp,ar w] false none H nx) kt p) nx0 H0 R:=Sq.jr rfl (Kn w h) hk
theorem My:aE P 3=some 1:=by kernel_rfl
theorem cO (h:Hp nx0 H0 (bP bp L k::F) H nx){kt:Value->T OB->Nat->Q}(hk:∀H',Hp nx0 H0 (bP bp L (k+1)::F) H' nx->ay P pl X0 (kt undef H' nx) nx0 H0 R):ay P pl X0 (bf (bY P H nx 3 (some (.pointer (some ⟨bp,1,none⟩))) (some (i64 ((k:Int)+1)))) kt) nx0 H0 R:=
 Hq.put [] h My rfl rfl (show 1<2 by omega) rfl λH' h'=>hk H' h'
theorem dV (hL:L.length<=100000)(hlt:k<L.length):IntKind.i64.wrap ((k:Int)+1)=(k:Int)+1:=by rw[aB (by omega)];rfl
theorem Ih (w:List UInt8)(hL:L.length<=100000)(h:Hp nx0 H0 (bP bp L k::F) H nx):ay P pl X0 (aV P pl (.call 48 [ptr bp,ar w] false none H nx)) nx0 H0 (λo H nx=>o= .ret (.bool (bC L k w))/\Hp nx0 H0 (bP bp L (if bC L k w=true then k+1 else k)::F) H nx):=by
 rw[PD];refine Sq.is h λH1 aI h1=> ?_;cases hi:bC L k w with
 | false=>
   simp only[ab];exact iO h1
 | true=>
   simp only[ab,pk h1,dV hL (DO hi)];exact cO h1 λH2 h2=>iO h2
theorem Sq.take {w:List UInt8}{kt p:Value->T OB->Nat->Q}(hL:L.length<=100000)(h:Hp nx0 H0 (bP bp L k::F) H nx)(ht:bC L k w=true->∀H' nx',Hp nx0 H0 (bP bp L (k+1)::F) H' nx'->ay P pl X0 (kt (.bool true) H' nx') nx0 H0 R)
 (hf:bC L k w=false->∀H' nx',Hp nx0 H0 (bP bp L k::F) H' nx'->ay P pl X0 (kt (.bool false) H' nx') nx0 H0 R):ay P pl X0 (cD (.call 48 [ptr bp,ar w] false none H nx) kt p) nx0 H0 R:=
 Sq.jr rfl (Ih w hL h) λH' nx' h'=>by
  cases hi:bC L k w with
  | true=>rw[hi]at h';exact ht hi H' nx' h'
  | false=>rw[hi]at h';exact hf hi H' nx' h'
theorem Sq.skip {w:List UInt8}{kt p:Value->T OB->Nat->Q}(hL:L.length<=100000)(h:Hp nx0 H0 (bP bp L k::F) H nx)(hk:∀b H' nx',Hp nx0 H0 (bP bp L (skip L w k)::F) H' nx'->ay P pl X0 (kt (.bool b) H' nx') nx0 H0 R):ay P pl X0 (cD (.call 48 [ptr bp,ar w] false none H nx) kt p) nx0 H0 R:=
 Sq.jr rfl (Ih w hL h) λH' nx' h'=>hk _ H' nx' h'
abbrev iD (a:Int):Value:= .iface 75 (.agg ⟨[i64 a]⟩)
def End {α:Type}(nx0:Nat)(H0:T OB)(bp:Nat)(L:List Tok)(F:List Bx)(vf:α->Value):iB α->Go.Ev.Out->T OB->Nat->Prop
 | .ok a k=>λo H nx=>o= .ret (vf a)/\Hp nx0 H0 (bP bp L k::F) H nx
 | .bad a=>λo H nx=>o= .eW (iD a)
def aR {α:Type}(f:FuncId)(L:List Tok)(vf:α->Value)(r:Nat->PR α):Prop:=∀nx0 nx H0 H bp F k o,r k=some o->Hp nx0 H0 (bP bp L k::F) H nx->ay P pl X0 (aV P pl (.call f [ptr bp] false none H nx)) nx0 H0 (End nx0 H0 bp L F vf o)
theorem End.ret {α:Type}{vf:α->Value}{a:α}{u:Value}{o:iB α}(ho:yes a k=some o)(e:u=vf a)(h:Hp nx0 H0 (bP bp L k::F) H nx):ay P pl X0 (.ret ⟨.ret u,false,H,nx⟩) nx0 H0 (End nx0 H0 bp L F vf o):=by
 cases ho;exact Wq.kj h.ag ⟨by rw[e],h⟩
theorem Sq.h_ {α:Type}{vf:α->Value}{a:Int}(hA:Ag nx0 H0 nx H):ay P pl X0 (h_ (iD a) H nx) nx0 H0 (End nx0 H0 bp L F vf (.bad a)):=Wq.kj hA rfl
theorem Mz (x:Value):hI P 75 (some (.agg ⟨[x]⟩))=some (.iface 75 (.agg ⟨[x]⟩)):=by kernel_rfl
theorem MA (x:Int):aO P 75 (some [(0,i64 x)])=some (.agg ⟨[i64 x]⟩):=aL (z:=[.int .i64 0]) (by kernel_rfl) (by kernel_rfl)
theorem wQ (h:Hp nx0 H0 (bP bp L k::F) H nx):ay P pl X0 (aV P pl (.call 82 [ptr bp] false none H nx)) nx0 H0 (λo _ _=>o= .eW (iD (tk L k).at_)):=by
 rw[PX];refine Sq.now h λH1 aI h1=> ?_;simp only[ab,MA,Mz];exact Wq.kj (R:=λo _ _=>o= .eW (iD (tk L k).at_)) h1.ag rfl
theorem Sq.fail {α β:Type}{vf:α->Value}{o:iB α}{kt:Value->T OB->Nat->Q}(ho:ld L k=some o)(h:Hp nx0 H0 (bP bp L k::G) H nx):ay P pl X0 (cD (.call 82 [ptr bp] false none H nx) kt Ev.h_) nx0 H0 (End nx0 H0 bp L F vf o):=by
 cases ho;exact Wq.fM rfl (wQ h) (λu H' nx' _ q=>by cases q) λu H' nx' hA q=>by cases q;exact Sq.h_ hA
theorem Sq.call {α β:Type}{f:FuncId}{vf:α->Value}{vg:β->Value}{r:Nat->PR α}{g:α->Nat->PR β}{o:iB β}{kt:Value->T OB->Nat->Q}(hs:aR f L vf r)(hx:X0 f [ptr bp]=none)(h:Hp nx0 H0 (bP bp L k::G) H nx)(ho:bd (r k) g=some o)
 (hk:∀a k' H' nx',r k=some (.ok a k')->g a k'=some o->Hp nx0 H0 (bP bp L k'::G) H' nx'->ay P pl X0 (kt (vf a) H' nx') nx0 H0 (End nx0 H0 bp L F vg o)):ay P pl X0 (cD (.call f [ptr bp] false none H nx) kt Ev.h_) nx0 H0 (End nx0 H0 bp L F vg o):=by
 cases hr:r k with
 | none=>rw[hr]at ho;cases ho
 | some q=>
   refine Wq.fM hx (hs nx0 nx H0 H bp G k q hr h) (λu H' nx' _ he=> ?_) (λu H' nx' hA he=> ?_)
   . cases q with
     | bad a=>cases he
     | ok a k'=>
       rw[hr,z3]at ho;cases he.1;exact hk a k' H' nx' hr ho he.2
   . cases q with
     | ok a k'=>cases he.1
     | bad a=>
       rw[hr,sT]at ho;cases ho;cases he;exact Sq.h_ hA
theorem Sq.iP {β:Type}{w:List UInt8}{vg:β->Value}{g:Nat->PR β}{o:iB β}{kt:Value->T OB->Nat->Q}(hL:L.length<=100000)(h:Hp nx0 H0 (bP bp L k::G) H nx)(ho:ba L w k g=some o)
 (hk:∀H' nx',bC L k w=true->g (k+1)=some o->Hp nx0 H0 (bP bp L (k+1)::G) H' nx'->ay P pl X0 (kt (.tuple ⟨[]⟩) H' nx') nx0 H0 (End nx0 H0 bp L F vg o)):ay P pl X0 (cD (.call 62 [ptr bp,ar w] false none H nx) kt Ev.h_) nx0 H0 (End nx0 H0 bp L F vg o):=by
 unfold ba at ho;cases hi:bC L k w with
 | true=>
   rw[hi,if_pos rfl]at ho;refine Sq.jr rfl ?_ λH' nx' h'=>hk H' nx' hi ho h';rw[O3];refine Sq.take hL h (λ_ H1 aI h1=> ?_) (λq=>by rw[q]at hi;cases hi);simp only[ab];exact iO h1
 | false=>
   rw[hi,if_neg (by simp)]at ho;cases ho;refine Wq.fM (R1:=λo _ _=>o= .eW (iD (tk L k).at_)) rfl ?_ (λu H' nx' _ q=>by cases q) λu H' nx' hA q=>by cases q;exact Sq.h_ hA
   rw[O3];refine Sq.take hL h (λq=>by rw[q]at hi;cases hi) (λ_ H1 aI h1=> ?_);simp only[ab];exact Wq.fM rfl (wQ h1) (λu H' nx' _ q=>by cases q) λu H' nx' hA q=>by cases q;exact Wq.kj hA rfl
theorem Ko (c:Int)(hL:L.length<=100000)(hc:c≠0)(h:Hp nx0 H0 (bP bp L k::F) H nx):ay P pl X0 (aV P pl (.call 78 [ptr bp,i64 c] false none H nx)) nx0 H0 (End nx0 H0 bp L F Tok.v (if(tk L k).k=c then .ok (tk L k) (k+1)else .bad (tk L k).at_)):=by
 rw[PQ];refine Hq.alloc dR h λx0 H1 aI h1=> ?_;refine Sq.now h1 λH2 nx2 h2=> ?_;refine Sq.FN h2 λH3 nx3 h3=> ?_;simp only[ab];refine Wq.bK (λq=> ?_) (λq=> ?_)
 . have hne:¬(tk L k).k=c:=by simpa using q
   rw[if_neg hne];exact Wq.fM rfl (wQ h3) (λu H' nx' _ q=>by cases q) λu H' nx' hA q=>by cases q;exact Sq.h_ hA
 . have he:(tk L k).k=c:=by simpa using q
   rw[if_pos he];have hlt:k<L.length:=fO (by rw[he];exact hc);refine Wq.jmp (JN ..) (λ_=>rfl) ?_;simp only[ab,pk h3,dV hL hlt];refine cO h3 λH4 h4=> ?_;refine Hq.store [bP bp L (k+1)] h4 fN (by simp) rfl rfl λH5 h5=> ?_;simp only[ab,DP (h5.at_ 1 rfl)];exact Wq.kj h5.ag ⟨rfl,h5.lb⟩
theorem Sq.word {β:Type}{c:Int}{vg:β->Value}{g:Tok->Nat->PR β}{o:iB β}{kt:Value->T OB->Nat->Q}(hc:c≠0)(hL:L.length<=100000)(h:Hp nx0 H0 (bP bp L k::G) H nx)(ho:c_ L c k g=some o)
 (hk:∀H' nx',(tk L k).k=c->g (tk L k) (k+1)=some o->Hp nx0 H0 (bP bp L (k+1)::G) H' nx'->ay P pl X0 (kt (tk L k).v H' nx') nx0 H0 (End nx0 H0 bp L F vg o)):ay P pl X0 (cD (.call 78 [ptr bp,i64 c] false none H nx) kt Ev.h_) nx0 H0 (End nx0 H0 bp L F vg o):=by
 unfold c_ at ho;have h1:=Ko c hL hc h
 by_cases hi:(tk L k).k=c
 . rw[if_pos hi]at ho h1;refine Wq.fM rfl h1 (λu H' nx' _ q=> ?_) (λu H' nx' hA q=>by cases q.1);cases q.1;exact hk H' nx' hi ho q.2
 . rw[if_neg hi]at ho h1;cases ho;exact Wq.fM rfl h1 (λu H' nx' _ q=>by cases q) λu H' nx' hA q=>by cases q;exact Sq.h_ hA
theorem Kp (h:Hp nx0 H0 (bP bp L k::F) H nx):ay P pl X0 (aV P pl (.call 84 [ptr bp] false none H nx)) nx0 H0 (λo H nx=>o= .ret (ar (if iQ L k=true then(tk L k).s else[]))/\Hp nx0 H0 (bP bp L k::F) H nx):=by
 rw[PZ];refine Sq.now h λH1 aI h1=> ?_;refine Sq.FN h1 λH2 nx2 h2=> ?_;have J:∀b,iQ L k=b->ay P pl X0 (.jump (zN (ae (tk L k).v) b H2 nx2)) nx0 H0 (λo H nx=>o= .ret (ar (if iQ L k=true then(tk L k).s else[]))/\Hp nx0 H0 (bP bp L k::F) H nx):=by
  intro b hb;refine Wq.jmp (Mf ..) (λ_=>rfl) ?_;cases b with
  | true=>simp only[ab];exact qZ (by rw[hb,if_pos rfl]) h2
  | false=>simp only[ab];exact qZ (by rw[hb,if_neg (by simp)]) h2
 simp only[ab];refine Wq.ite (λq=>J true (by unfold iQ;simp[q])) (λq=>J _ (by unfold iQ;simp[q]))
theorem Sq.op {kt p:Value->T OB->Nat->Q}(h:Hp nx0 H0 (bP bp L k::F) H nx)(hk:∀H' nx',Hp nx0 H0 (bP bp L k::F) H' nx'->ay P pl X0 (kt (ar (if iQ L k=true then(tk L k).s else[])) H' nx') nx0 H0 R):ay P pl X0 (cD (.call 84 [ptr bp] false none H nx) kt p) nx0 H0 R:=Sq.jr rfl (Kp h) hk
theorem Kq (h:Hp nx0 H0 (bP bp L k::F) H nx):ay P pl X0 (aV P pl (.call 94 [ptr bp] false none H nx)) nx0 H0 (λo H nx=>o= .ret (.bool (jO L k))/\Hp nx0 H0 (bP bp L k::F) H nx):=by
 rw[P6];refine Sq.now h λH1 aI h1=> ?_;have J:∀b,oN L k=b->ay P pl X0 (.jump (lY (ptr bp) b H1 aI)) nx0 H0 (λo H nx=>o= .ret (.bool (jO L k))/\Hp nx0 H0 (bP bp L k::F) H nx):=by
  intro b hb;refine Wq.jmp (JX ..) (λ_=>rfl) ?_;unfold jO;rw[hb];cases b with
  | true=>simp only[ab];exact iO h1
  | false=>
    simp only[ab];refine Sq.is h1 λH2 nx2 h2=> ?_;cases bC L k [40]with
    | true=>simp only[ab];exact iO h2
    | false=>
      simp only[ab];refine Sq.is h2 λH3 nx3 h3=> ?_;simp only[ab];exact iO h3
 have e:oN L k=(decide ((tk L k).k=1)||(decide ((tk L k).k=2)||(decide ((tk L k).k=3)||decide ((tk L k).k=4)))):=rfl
 revert e J
 simp only[ab];generalize decide ((tk L k).k=1)=c1;generalize decide ((tk L k).k=2)=c2;generalize decide ((tk L k).k=3)=c3;generalize decide ((tk L k).k=4)=c4;intro J e;cases c1 with
 | true=>exact J true e
 | false=>
   cases c2 with
   | true=>exact J true e
   | false=>
     cases c3 with
     | true=>exact J true e
     | false=>exact J c4 e
theorem Sq.NN {kt p:Value->T OB->Nat->Q}(h:Hp nx0 H0 (bP bp L k::F) H nx)(hk:∀H' nx',Hp nx0 H0 (bP bp L k::F) H' nx'->ay P pl X0 (kt (.bool (jO L k)) H' nx') nx0 H0 R):ay P pl X0 (cD (.call 94 [ptr bp] false none H nx) kt p) nx0 H0 R:=Sq.jr rfl (Kq h) hk
theorem Kr (h:Hp nx0 H0 (bP bp L k::F) H nx):ay P pl X0 (aV P pl (.call 91 [ptr bp] false none H nx)) nx0 H0 (λo H nx=>o= .ret (.bool (lf L k))/\Hp nx0 H0 (bP bp L k::F) H nx):=by
 rw[P3];refine Sq.now h λH1 aI h1=> ?_;have J:∀b,oN L k=b->ay P pl X0 (.jump (lX (ptr bp) b H1 aI)) nx0 H0 (λo H nx=>o= .ret (.bool (lf L k))/\Hp nx0 H0 (bP bp L k::F) H nx):=by
  intro b hb;refine Wq.jmp (JT ..) (λ_=>rfl) ?_;unfold lf;rw[hb];cases b with
  | true=>simp only[ab];exact iO h1
  | false=>
    simp only[ab];refine Sq.is h1 λH2 nx2 h2=> ?_;cases bC L k [40]with
    | true=>simp only[ab];exact iO h2
    | false=>
      simp only[ab];refine Sq.is h2 λH3 nx3 h3=> ?_;cases bC L k [95]with
      | true=>simp only[ab];exact iO h3
      | false=>
        simp only[ab];refine Sq.is h3 λH4 nx4 h4=> ?_;simp only[ab];exact iO h4
 have e:oN L k=(decide ((tk L k).k=1)||(decide ((tk L k).k=2)||(decide ((tk L k).k=3)||decide ((tk L k).k=4)))):=rfl
 revert e J
 simp only[ab];generalize decide ((tk L k).k=1)=c1;generalize decide ((tk L k).k=2)=c2;generalize decide ((tk L k).k=3)=c3;generalize decide ((tk L k).k=4)=c4;intro J e;cases c1 with
 | true=>exact J true e
 | false=>
   cases c2 with
   | true=>exact J true e
   | false=>
     cases c3 with
     | true=>exact J true e
     | false=>exact J c4 e
theorem Sq.MB {kt p:Value->T OB->Nat->Q}(h:Hp nx0 H0 (bP bp L k::F) H nx)(hk:∀H' nx',Hp nx0 H0 (bP bp L k::F) H' nx'->ay P pl X0 (kt (.bool (lf L k)) H' nx') nx0 H0 R):ay P pl X0 (cD (.call 91 [ptr bp] false none H nx) kt p) nx0 H0 R:=Sq.jr rfl (Kr h) hk
theorem FO {L:List Tok}{k:Nat}(h:gR L k=true):k<L.length:=by
 unfold gR at h;rw[Bool.or_eq_true]at h
 rcases h with h | h
 . exact fO (by have:(tk L k).k=3:=by simpa using h
                omega)
 . exact DO h
theorem Ks (hL:L.length<=100000)(h:Hp nx0 H0 (bP bp L k::F) H nx):ay P pl X0 (aV P pl (.call 95 [ptr bp] false none H nx)) nx0 H0 (λo H nx=>o= .ret (if gR L k=true then .tuple ⟨[ar (tk L k).s,.bool true]⟩else .tuple ⟨[ar [],.bool false]⟩)/\Hp nx0 H0 (bP bp L (if gR L k=true then k+1 else k)::F) H nx):=by
 rw[P7];refine Sq.now h λH1 aI h1=> ?_;refine Sq.FN h1 λH2 nx2 h2=> ?_;have J:∀b H3 nx3,gR L k=b->Hp nx0 H0 (bP bp L k::F) H3 nx3->ay P pl X0 (.jump (zO (ptr bp) (ae (tk L k).v) b H3 nx3)) nx0 H0 (λo H nx=>o= .ret (if gR L k=true then .tuple ⟨[ar (tk L k).s,.bool true]⟩else .tuple ⟨[ar [],.bool false]⟩)/\Hp nx0 H0 (bP bp L (if gR L k=true then k+1 else k)::F) H nx):=by
  intro b H3 nx3 hb h3;refine Wq.jmp (Mg ..) (λ_=>rfl) ?_;cases b with
  | true=>
    simp only[ab,pk h3,dV hL (FO hb)];refine cO h3 λH4 h4=> ?_;rw[hb,if_pos rfl,if_pos rfl];exact iO h4
  | false=>
    simp only[ab];rw[hb,if_neg (by simp),if_neg (by simp)];exact iO h3
 simp only[ab];refine Wq.ite (λq=>J true H2 nx2 (by unfold gR;simp[q]) h2) (λq=> ?_);refine Sq.is h2 λH3 nx3 h3=> ?_;simp only[ab];exact J _ H3 nx3 (by unfold gR;simp[q]) h3
theorem Sq.Oo {kt p:Value->T OB->Nat->Q}(hL:L.length<=100000)(h:Hp nx0 H0 (bP bp L k::F) H nx)(ht:gR L k=true->∀H' nx',Hp nx0 H0 (bP bp L (k+1)::F) H' nx'->ay P pl X0 (kt (.tuple ⟨[ar (tk L k).s,.bool true]⟩) H' nx') nx0 H0 R)
 (hf:gR L k=false->∀H' nx',Hp nx0 H0 (bP bp L k::F) H' nx'->ay P pl X0 (kt (.tuple ⟨[ar [],.bool false]⟩) H' nx') nx0 H0 R):ay P pl X0 (cD (.call 95 [ptr bp] false none H nx) kt p) nx0 H0 R:=
 Sq.jr rfl (Ks hL h) λH' nx' h'=>by
  cases hi:gR L k with
  | true=>rw[hi,if_pos rfl]at h';rw[if_pos rfl];exact ht hi H' nx' h'
  | false=>rw[hi,if_neg (by simp)]at h';rw[if_neg (by simp)];exact hf hi H' nx' h'
theorem Ku (w:List UInt8):P0 85 [ar w] (.bool (decide (w=[58,61])||decide (w=[58,58]))):=Pure.of rfl λH nx=>by
 rw[P1];simp only[ab,NM];cases decide (w=[58,61])with
 | true=>simp only[ab];exact Wq.ret (.refl _ _)
 | false=>simp only[ab];exact Wq.ret (.refl _ _)
end
section
variable {nx0:Nat}{H0:T OB}
variable {fr:Nat->List Value->TypeId->Prop}{bp:Nat}{l0:List Tok}{b0:Bool}{ok:Bool}{ts:List Tok}{n nx:Nat}{H:T OB}{R:Value->T OB->Nat->Prop}
def dD {α:Type}(tf:Bool->α->List Tok):Bool->List α->List Tok
 | _,[]=>[]
 | b,a::l=>tf b a++dD tf false l
def fx {α:Type}(s:List UInt8)(f:α->List Tok):Bool->α->List Tok:=λb a=>(if b=true then[]else[dY s])++f a
abbrev PI:=(Int×Nat)×(List Tok×List (List Tok))
def q7 (x:PI):List Tok:=if x.1.1=6/\x.1.2≠0 then dY [40]::(x.2.1++[dY [41]])else x.2.1
def oU (k n:Int)(s:List UInt8)(q:List PI):List Tok:=
 if k=1 then[dY [95]]
 else if k=2 then[⟨3,s,0,0⟩]
 else if k=3 then if n<0 then[dY [126],⟨1,[],-n,0⟩]else[⟨1,[],n,0⟩]
 else if k=4 then[⟨2,s,0,0⟩]
 else if k=5 then dY [40]::(dD (fx [44] q7) true q++[dY [41]])
 else if k=6 then if s=[58,58]then(match q with | [x]=>(match x.2.2 with | [a,b]=>a++dY [58,58]::b | _=>[]) | _=>[])else⟨4,s,0,0⟩::dD (λ_=>q7) true q
 else[]
mutual
def pZ:aD->List Tok×List (List Tok)
 | .mk k n s l=>(oU k n s (q_ l),(q_ l).map q7)
def q_:List aD->List PI
 | []=>[]
 | p::l=>((p.k,p.l.length),pZ p)::q_ l
end
def s_ (p:aD):List Tok:=(pZ p).1
def bH (p:aD):List Tok:=q7 ((p.k,p.l.length),pZ p)
theorem DQ (l:List aD):q_ l=l.map λp=>((p.k,p.l.length),pZ p):=by
 induction l with
 | nil=>rw[q_];rfl
 | cons p l ih=>rw[q_,ih];rfl
theorem ta (p:aD):pZ p=(oU p.k p.n p.s (p.l.map λp=>((p.k,p.l.length),pZ p)),p.l.map bH):=by
 cases p;rw[pZ,DQ,List.map_map];rfl
theorem gV (p:aD):bH p=if p.k=6/\p.l.length≠0 then dY [40]::(s_ p++[dY [41]])else s_ p:=rfl
theorem u7 {α β:Type}(tf:Bool->β->List Tok)(g:α->β)(l:List α):∀b,dD tf b (l.map g)=dD (λb a=>tf b (g a)) b l:=by
 induction l with
 | nil=>intro b;rfl
 | cons a l ih=>intro b;rw[List.map_cons,dD,dD,ih]
theorem fP (l:List aD):gA l=l.all gz:=by
 induction l with
 | nil=>rw[gA];rfl
 | cons a l ih=>rw[gA,ih];rfl
theorem m7 (p:aD):s_ p=oU p.k p.n p.s (p.l.map λp=>((p.k,p.l.length),pZ p)):=by unfold s_;rw[ta]
end
section
variable {nx0:Nat}{H0:T OB}
variable {fr:Nat->List Value->TypeId->Prop}{bp:Nat}{l0:List Tok}{b0:Bool}{ok:Bool}{ts:List Tok}{n nx:Nat}{H:T OB}{R:Value->T OB->Nat->Prop}
abbrev TI:=(Int×Nat)×List Tok
def z7 (x:TI):List Tok:=if x.1.1=1\/(x.1.1=2/\x.1.2=0)then x.2 else dY [40]::(x.2++[dY [41]])
def Ii (s:List UInt8):List Tok:=if s=[114,101,102]then[eY s]else[⟨3,s,0,0⟩]
def Oq (k:Int)(s:List UInt8)(q:List TI):List Tok:=
 if k=1 then[⟨5,s,0,0⟩]
 else if k=3 then dD (fx [45,62] z7) true q
 else if k=4 then dD (fx [42] z7) true q
 else if k=2 then if 1<q.length then dY [40]::(dD (fx [44] z7) true q++(dY [41]::Ii s))else dD (fx [44] z7) true q++Ii s
 else[]
mutual
def O9:aY->List Tok
 | .mk k s l=>Oq k s (MC l)
def MC:List aY->List TI
 | []=>[]
 | t::l=>((t.k,t.l.length),O9 t)::MC l
end
end
section
variable {nx0:Nat}{H0:T OB}
variable {fr:Nat->List Value->TypeId->Prop}{bp:Nat}{l0:List Tok}{b0:Bool}{ok:Bool}{ts:List Tok}{n nx:Nat}{H:T OB}{R:Value->T OB->Nat->Prop}
def Kv (c:dk):List Tok:=⟨4,c.s,0,0⟩::dD (λ_ t=>eY [111,102]::O9 t) true c.arg
def Ij (x:Data):List Tok:=eY [100,97,116,97,116,121,112,101]::((if 1<x.vars.length then[dY [40]]else[])++(dD (fx [44] λs=>[(⟨5,s,0,0⟩:Tok)]) true x.vars++((if 1<x.vars.length then[dY [41]]else[])++⟨3,x.s,0,0⟩::dD (λb c=>dY (if b=true then[61]else[124])::Kv c) true x.cons)))
abbrev EI:=Int×(List Tok×List (List Tok))
def ez (x:EI):List Tok:=if l7 x.1=true then x.2.1 else dY [40]::(x.2.1++[dY [41]])
def dO (s:List UInt8)(q:List (List Tok)):List Tok:=dD (fx s id) true q
def gW:Bool->List (List Tok)->List (List Tok)->List Tok
 | b,p::ps,x::xs=>(if b=true then[]else[dY [124]])++(p++dY [61,62]::(x++gW false ps xs))
 | _,_,_=>[]
def re (k n:Int)(s:List UInt8)(q:List EI)(ps ds:List (List Tok)):List Tok:=
 if k=1 then[⟨1,[],n,0⟩]
 else if k=2\/k=3\/k=4 then[⟨k,s,0,0⟩]
 else if k=5 then dY [40]::(dO [44] (q.map ez)++[dY [41]])
 else if k=13 then dY [40]::(dO [59] (q.map ez)++[dY [41]])
 else if k=10 then(match q with | [x]=>eY [108,101,116]::((ds.flatMap λd=>d++[dY [59]])++eY [105,110]::((if x.1=13 then dO [59] x.2.2 else ez x)++[eY [101,110,100]])) | _=>[])
 else if k=14 then(match q with | [a,b]=>ez a++DN s::ez b | _=>[])
 else if k=15 then(match q with | [a]=>DN s::ez a | _=>[])
 else if k=6 then(q.map ez).flatten
 else if k=8 then(match q with | [a,b,c]=>eY [105,102]::(ez a++eY [116,104,101,110]::(ez b++eY [101,108,115,101]::ez c)) | _=>[])
 else if k=11 then eY [114,97,105,115,101]::dO [59] (q.map ez)
 else if k=7 then eY [102,110]::gW true ps (q.map ez)
 else if k=9 then(match q with | a::r=>eY [99,97,115,101]::(ez a++eY [111,102]::gW true ps (r.map ez)) | _=>[])
 else if k=12 then(match q with | a::r=>ez a++eY [104,97,110,100,108,101]::gW true ps (r.map ez) | _=>[])
 else[]
mutual
def kr:au->List Tok×List (List Tok)
 | .mk k n s l p d=>(re k n s (rf l) (p.map bH) (u9 d),(rf l).map ez)
def rf:List au->List EI
 | []=>[]
 | e::l=>(e.k,kr e)::rf l
def jP:aJ->List Tok
 | .mk k p e f x c=>if k=1 then eY [118,97,108]::(s_ p++dY [61]::(kr e).1)else if k=2 then ku true f else if k=3 then Ij x else if k=4 then eY [101,120,99,101,112,116,105,111,110]::Kv c else if k=5 then(kr e).1 else[]
def Lb:Fn->List Tok
 | .mk s p b=>⟨3,s,0,0⟩::(p.flatMap bH++dY [61]::(kr b).1)
def u9:List aJ->List (List Tok)
 | []=>[]
 | d::l=>jP d::u9 l
def ku:Bool->List Fn->List Tok
 | _,[]=>[]
 | b,f::l=>eY (if b=true then[102,117,110]else[97,110,100])::(Lb f++ku false l)
end
def fQ (e:au):List Tok:=(kr e).1
def aH (e:au):List Tok:=ez (e.k,kr e)
theorem DR (l:List au):rf l=l.map λe=>(e.k,kr e):=by
 induction l with
 | nil=>rw[rf];rfl
 | cons p l ih=>rw[rf,ih];rfl
theorem DS (l:List aJ):u9 l=l.map jP:=by
 induction l with
 | nil=>rw[u9];rfl
 | cons p l ih=>rw[u9,ih];rfl
theorem z8 (e:au):kr e=(re e.k e.n e.s (e.l.map λe=>(e.k,kr e)) (e.p.map bH) (e.d.map jP),e.l.map aH):=by
 cases e;rw[kr,DR,DS,List.map_map];rfl
theorem m8 (e:au):fQ e=re e.k e.n e.s (e.l.map λe=>(e.k,kr e)) (e.p.map bH) (e.d.map jP):=by unfold fQ;rw[z8]
theorem js (e:au):aH e=if l7 e.k=true then fQ e else dY [40]::(fQ e++[dY [41]]):=rfl
theorem Kw (f:Fn):Lb f=⟨3,f.s,0,0⟩::(f.p.flatMap bH++dY [61]::fQ f.b):=by cases f;rw[Lb];rfl
theorem FP (l:List Fn):∀b,ku b l=dD (λb f=>eY (if b=true then[102,117,110]else[97,110,100])::Lb f) b l:=by
 induction l with
 | nil=>intro b;rw[ku];rfl
 | cons p l ih=>intro b;rw[ku,ih,dD];rfl
theorem z9 (d:aJ):jP d=if d.k=1 then eY [118,97,108]::(s_ d.p++dY [61]::fQ d.e)else if d.k=2 then ku true d.f else if d.k=3 then Ij d.x else if d.k=4 then eY [101,120,99,101,112,116,105,111,110]::Kv d.c else if d.k=5 then fQ d.e else[]:=by cases d;rw[jP];rfl
theorem fR (s:List UInt8)(l:List au):dO s (l.map aH)=dD (fx s aH) true l:=by
 unfold dO;rw[u7];rfl
theorem l8 (s:List UInt8)(l:List au):dO s ((l.map λe=>(e.k,kr e)).map ez)=dD (fx s aH) true l:=by
 rw[List.map_map];exact fR s l
end
section
variable {nx0:Nat}{H0:T OB}
variable {fr:Nat->List Value->TypeId->Prop}{bp:Nat}{l0:List Tok}{b0:Bool}{ok:Bool}{ts:List Tok}{n nx:Nat}{H:T OB}{R:Value->T OB->Nat->Prop}
theorem wR (l:List au):l3 l=l.all gB:=by
 induction l with
 | nil=>rw[l3];rfl
 | cons a l ih=>rw[l3,ih];rfl
theorem wS (l:List aJ):l4 l=l.all wM:=by
 induction l with
 | nil=>rw[l4];rfl
 | cons a l ih=>rw[l4,ih];rfl
theorem Bf (l:List Fn):qW l=l.all Kg:=by
 induction l with
 | nil=>rw[qW];rfl
 | cons a l ih=>rw[qW,ih];rfl
end
def DT (u:Nat)(s:List UInt8):List UInt8:=if u<10 then(48+u).toUInt8::s else DT (u/10) ((48+u%10).toUInt8::s)
termination_by u
decreasing_by omega
theorem wT (k:Nat):∀(u:Nat) (s:List UInt8),u<10^(k+1)->(DT u s).length<=s.length+k+1/\s.length<(DT u s).length:=by
 induction k with
 | zero=>
   intro u s h;rw[DT,if_pos (by simpa using h)];simp
 | succ k ih=>
   intro u s h;rw[DT];split
   . simp
   . have:=ih (u/10) ((48+u%10).toUInt8::s) (by rw[Nat.div_lt_iff_lt_mul (by omega)];rw[Nat.pow_succ]at h;omega);simp only[List.length_cons]at this ⊢;omega
def BB (n:Int):List UInt8:=if n<0 then 45::DT n.natAbs []else DT n.natAbs []
def hex:List UInt8:=[48,49,50,51,52,53,54,55,56,57,65,66,67,68,69,70]
def hx (n:Nat):UInt8:=hex.getD n 0
def qc (c:UInt8):List UInt8:=if c.toNat=34\/c.toNat=92 then[92,c]else if c.toNat=10 then[92,110]else if c.toNat=9 then[92,116]else if c.toNat<32\/126<c.toNat then[92,120,hx (c.toNat/16),hx (c.toNat%16)]else[c]
def qs (l:List UInt8):List UInt8:=l.flatMap qc
def quote (l:List UInt8):List UInt8:=34::(qs l++[34])
section
variable {nx0 nx:Nat}{H0 H:T OB}{R:Go.Ev.Out->T OB->Nat->Prop}
def fF (t:Tok):List UInt8:=if t.k=1 then BB t.n else if t.k=2 then quote t.s else t.s
def p4 (t:Tok):Prop:=eO t=true/\t.k≠0/\rg t.n/\eQ t.s
end
theorem ed {α:Type}{l:List α}{p:α->Bool}(h:l.all p=true){a:α}(ha:a∈l):p a=true:=List.all_eq_true.1 h a ha
section
variable {L:List Tok}{k k' m n:Nat}{s w:List UInt8}{t:Tok}
def fg (a b:Tok):Prop:=a.k=b.k/\a.s=b.s/\a.n=b.n
def Sg (L:List Tok):Nat->List Tok->Nat->Prop
 | k,[],k'=>k=k'
 | k,t::ts,k'=>fg (tk L k) t/\Sg L (k+1) ts k'
theorem Sg.cons {ts:List Tok}:Sg L k (t::ts) k'↔fg (tk L k) t/\Sg L (k+1) ts k':=Iff.rfl
theorem Sg.app {a b:List Tok}:∀{k:Nat},Sg L k (a++b) k'↔∃m,Sg L k a m/\Sg L m b k':=by
 induction a with
 | nil=>intro k;exact⟨λh=>⟨k,rfl,h⟩,λ⟨m,h1,h2⟩=>by cases h1;exact h2⟩
 | cons t a ih=>
   intro k;rw[List.cons_append,Sg.cons,ih];exact⟨λ⟨h,m,h1,h2⟩=>⟨m,⟨h,h1⟩,h2⟩,λ⟨m,⟨h,h1⟩,h2⟩=>⟨h,m,h1,h2⟩⟩
theorem fo (h:fg (tk L k) (dY s)):bC L k s=true:=by
 unfold bC iQ;rw[h.1,h.2.1];simp
theorem gm (h:fg (tk L k) (eY s)):bC L k s=true:=by
 unfold bC iQ;rw[h.1,h.2.1];simp
theorem b_ (h:fg (tk L k) (dY s))(hs:s≠w):bC L k w=false:=by
 unfold bC;rw[h.2.1,decide_eq_false hs,Bool.and_false]
theorem cV (h:fg (tk L k) (eY s))(hs:s≠w):bC L k w=false:=by
 unfold bC;rw[h.2.1,decide_eq_false hs,Bool.and_false]
theorem dL (h:fg (tk L k) t)(h7:t.k≠7)(h6:t.k≠6):iQ L k=false:=by
 unfold iQ;rw[h.1,decide_eq_false h7,decide_eq_false h6];rfl
theorem mM {c x y:Int}(h:fg (tk L k) ⟨c,s,x,y⟩)(h7:c≠7)(h6:c≠6):iQ L k=false:=dL h h7 h6
theorem cG {c x y d:Int}(h:fg (tk L k) ⟨c,s,x,y⟩)(hc:c≠d):¬(tk L k).k=d:=λq=>hc (h.1.symm.trans q)
theorem fS (h:iQ L k=false):bC L k w=false:=by unfold bC;rw[h];rfl
theorem bF {α:Sort _}{b:Bool}{x y:α}(h:b=false):(if b=true then x else y)=y:=if_neg (by rw[h];decide)
theorem dB {α:Type}{f:Nat->PR α}(h:fg (tk L k) (dY s)):ba L s k f=f (k+1):=if_pos (fo h)
theorem iE {α:Type}{f:Nat->PR α}(h:fg (tk L k) (eY s)):ba L s k f=f (k+1):=if_pos (gm h)
theorem bN {α β:Type}{a:α}{f:α->Nat->PR β}:bd (yes a k) f=f a k:=rfl
theorem DU {α:Type}{c:Int}{f:Tok->Nat->PR α}(h:(tk L k).k=c):c_ L c k f=f (tk L k) (k+1):=if_pos h
theorem foldl_add {α:Type}(l:List α):∀acc:List α,l.foldl (λa b=>a++[b]) acc=acc++l:=by
 induction l with
 | nil=>intro acc;simp
 | cons a l ih=>intro acc;rw[List.foldl_cons,ih];simp
theorem u_ {α β:Type}(f:α->List Tok)(rd:Nat->Nat->PR α)(lp:Nat->β->Nat->PR β)(ad:β->α->β)(s:List UInt8)(St:Nat->Prop)(c:Nat)(hc:1<=c)(hlp:∀n acc k,lp (n+1) acc k=if bC L k s=true then bd (rd n (k+1)) λb k=>lp n (ad acc b) k else yes acc k)(hst:∀k,fg (tk L k) (dY s)->St k):
 ∀(l:List α),(∀a,a∈l->∀n k k',12*(f a).length+c<=n->Sg L k (f a) k'->St k'->rd n k=yes a k')->∀acc n k k',12*(dD (fx s f) false l).length+c<=n->Sg L k (dD (fx s f) false l) k'->St k'->bC L k' s=false->lp n acc k=yes (l.foldl ad acc) k':=by
 intro l
 induction l with
 | nil=>
   intro _ acc n k k' hn hS _ hN;obtain⟨m,rfl⟩:∃m,n=m+1:=⟨n-1,by omega⟩;cases hS;rw[hlp,bF hN];rfl
 | cons a l ih=>
   intro hl acc n k k' hn hS hK hN;have e:dD (fx s f) false (a::l)=dY s::(f a++dD (fx s f) false l):=rfl;rw[e]at hn hS;rw[Sg.cons,Sg.app]at hS;obtain⟨h1,j,h2,h3⟩:=hS;rw[List.length_cons,List.length_append]at hn;obtain⟨m,rfl⟩:∃m,n=m+1:=⟨n-1,by omega⟩;have hj:St j:=by
    cases l with
    | nil=>cases h3;exact hK
    | cons b l=>exact hst j h3.1
   rw[hlp,if_pos (fo h1),hl a (by simp) m (k+1) j (by omega) h2 hj,bN];exact ih (λb hb=>hl b (by simp[hb])) (ad acc a) m j k' (by omega) h3 hK hN
def TE (L:List Tok)(k:Nat):Prop:=gR L k=false/\bC L k [42]=false/\bC L k [45,62]=false
theorem TE.sg (h:fg (tk L k) (dY s))(h1:s≠[114,101,102])(h2:s≠[42])(h3:s≠[45,62]):TE L k:=by
 refine⟨?_,b_ h h2,b_ h h3⟩;unfold gR;rw[h.1,b_ h h1];rfl
def CE (L:List Tok)(k:Nat):Prop:=TE L k/\bC L k [111,102]=false
end
section
variable {L:List Tok}{k k' m n:Nat}{s w:List UInt8}{t:Tok}
def PE (L:List Tok)(k:Nat):Prop:=lf L k=false/\bC L k [58,58]=false
theorem DW (h:(tk L k).k≠1/\(tk L k).k≠2/\(tk L k).k≠3/\(tk L k).k≠4):oN L k=false:=by
 unfold oN;rw[decide_eq_false h.1,decide_eq_false h.2.1,decide_eq_false h.2.2.1,decide_eq_false h.2.2.2];rfl
theorem lq {k n:Int}(h:(decide (k=3)||decide (n=0))=true)(hk:k≠3):n=0:=by
 rw[Bool.or_eq_true,decide_eq_true_eq,decide_eq_true_eq]at h;exact h.resolve_left hk
theorem Pk (k n:Int)(s:List UInt8)(l:List aD):(aD.mk k n s l).k=k:=rfl
theorem Ps (k n:Int)(s:List UInt8)(l:List aD):(aD.mk k n s l).s=s:=rfl
theorem Pl (k n:Int)(s:List UInt8)(l:List aD):(aD.mk k n s l).l=l:=rfl
theorem tb (h:fg (tk L k) (dY s))(h1:s≠[40])(h2:s≠[95])(h3:s≠[126]):lf L k=false:=by
 unfold lf;rw[DW ⟨cG h (by decide),cG h (by decide),cG h (by decide),cG h (by decide)⟩,b_ h h1,b_ h h2,b_ h h3];rfl
theorem PE.sg (h:fg (tk L k) (dY s))(h1:s≠[40])(h2:s≠[95])(h3:s≠[126])(h4:s≠[58,58]):PE L k:=⟨tb h h1 h2 h3,b_ h h4⟩
def DX (t:Tok):Prop:=t.k=1\/t.k=2\/t.k=3\/t.k=4\/t=dY [40]\/t=dY [95]\/t=dY [126]
theorem DX.NN (h:DX t)(he:fg (tk L k) t):lf L k=true:=by
 unfold lf oN
 rcases h with h | h | h | h | h | h | h
 . rw[he.1,h];rfl
 . rw[he.1,h];rfl
 . rw[he.1,h];rfl
 . rw[he.1,h];rfl
 . subst h;rw[fo he];simp
 . subst h;rw[fo he];simp
 . subst h;rw[fo he];simp
theorem fT (p:aD)(hr:gz p=true):∃t ts,bH p=t::ts/\DX t/\(t.k=4->p= .mk 6 0 t.s []/\ts=[]):=by
 rw[gV];have e0:=m6 p;rw[hr]at e0;have e1:=e0.symm;rw[Bool.and_eq_true]at e1;obtain⟨_,hd⟩:=e1;unfold uZ at hd;rw[Bool.and_eq_true]at hd;obtain⟨hn,hd⟩:=hd
 by_cases hk:p.k=6/\p.l.length≠0
 . rw[if_pos hk];exact⟨_,_,rfl,by simp[DX],λh=>by cases h⟩
 rw[if_neg hk,m7];unfold oU
 by_cases h1:p.k=1
 . rw[if_pos h1];exact⟨_,_,rfl,by simp[DX],λh=>by cases h⟩
 rw[if_neg h1]at hd ⊢
 by_cases h2:p.k=2
 . rw[if_pos h2];exact⟨_,_,rfl,by simp[DX],λh=>by cases h⟩
 rw[if_neg h2]at hd ⊢
 by_cases h3:p.k=3
 . rw[if_pos h3];split
   . exact⟨_,_,rfl,by simp[DX],λh=>by cases h⟩
   . exact⟨_,_,rfl,by simp[DX],λh=>by cases h⟩
 rw[if_neg h3]at hd ⊢
 by_cases h4:p.k=4
 . rw[if_pos h4];exact⟨_,_,rfl,by simp[DX],λh=>by cases h⟩
 rw[if_neg h4]at hd ⊢
 by_cases h5:p.k=5
 . rw[if_pos h5];exact⟨_,_,rfl,by simp[DX],λh=>by cases h⟩
 rw[if_neg h5]at hd ⊢
 by_cases h6:p.k=6
 . rw[if_pos h6]at hd ⊢;obtain⟨c,n,s,l⟩:=p;obtain rfl:c=6:=h6;have hl:l=[]:=List.eq_nil_of_length_eq_zero (by
    refine Decidable.byContradiction λq=>hk ⟨rfl,q⟩)
   subst hl
   by_cases hc:s=[58,58]
   . subst hc;cases hd
   . rw[if_neg (show ¬(aD.mk 6 n s []).s=[58,58]from hc)];have hn:n=0:=lq (k:=6) hn (by decide);subst hn;exact⟨_,_,rfl,by simp[DX],λh=>⟨rfl,rfl⟩⟩
 . rw[if_neg h6]at hd;cases hd
def wU (L:List Tok)(p:aD):Prop:=∀n k k',12*(bH p).length<=n->Sg L k (bH p) k'->(ps L n).dA k=yes p k'
def Ot (L:List Tok)(p:aD):Prop:=∀n k k',12*(s_ p).length+6<=n->Sg L k (s_ p) k'->PE L k'->(ps L n).pat k=yes p k'
theorem wU.pat {p:aD}(h:wU L p)(hr:gz p=true)(hn:12*(bH p).length+1<=n)(hS:Sg L k (bH p) k')(hK:PE L k'):(ps L n).pat k=yes p k':=by
 obtain⟨m,rfl⟩:∃m,n=m+1:=⟨n-1,by omega⟩;show sZ L (ps L m) k=_;unfold sZ;have e:sY L (ps L m) k=yes p k':=by
  obtain⟨t,ts,e,h1,h2⟩:=fT p hr;unfold sY
  by_cases h4:t.k=4
  . obtain⟨rfl,rfl⟩:=h2 h4;rw[e]at hS;obtain⟨hs1,hs2⟩:=hS;cases hs2;rw[if_pos (by rw[hs1.1,h4]),bF hK.1,hs1.2.1]
  . have hs1:fg (tk L k) t:=by rw[e]at hS;exact hS.1
    rw[if_neg (by rw[hs1.1];exact h4)];exact h m k k' (by omega) hS
 rw[e,bN,bF hK.2]
theorem Bg (l:List aD)(hl:∀a,a∈l->wU L a/\gz a=true)(acc:List aD)(hn:12*(dD (fx [44] bH) false l).length+1<=n)(hS:Sg L k (dD (fx [44] bH) false l) k')(hK:PE L k')(hN:bC L k' [44]=false):(ps L n).pQ acc k=yes (acc++l) k':=by
 rw[<- foldl_add];exact u_ bH (λn=>(ps L n).pat) (λn=>(ps L n).pQ) _ [44] (PE L) 1 (by decide) (λn acc k=>rfl) (λk h=>PE.sg h (by decide) (by decide) (by decide) (by decide)) l (λa ha n k k' h1 h2 h3=>(hl a ha).1.pat (hl a ha).2 h1 h2 h3) acc n k k' hn hS hK hN
theorem FQ {s:List UInt8}(l:List aD)(b:Bool):dD (fx s q7) b (l.map λp=>((p.k,p.l.length),pZ p))=dD (fx s bH) b l:=u7 _ _ _ b
theorem DY {x:Int}(h: -4611686018427387903<=x/\x<=4611686018427387903):IntKind.i64.wrap (-(-x))=x:=by
 rw[bm (by omega)];omega
theorem lr (p:aD):gz p=true->(wU L p/\Ot L p)/\∀a,a∈p.l->wU L a:=aD.ind (p:=λp=>gz p=true->(wU L p/\Ot L p)/\∀a,a∈p.l->wU L a) (λp ih hr=>by
 have e0:=m6 p;rw[hr]at e0;have e1:=e0.symm;rw[Bool.and_eq_true,fP]at e1;obtain⟨hrl,hd⟩:=e1;have hR:∀a,a∈p.l->gz a=true:=λa ha=>ed hrl ha;have hE:∀a,a∈p.l->wU L a:=λa ha=>(ih a ha (hR a ha)).1.1;have hE2:∀q,q∈p.l->∀a,a∈q.l->wU L a:=λq hq=>(ih q hq (hR q hq)).2;have hT:=m7 p;have hr0:=hr;unfold uZ at hd;rw[Bool.and_eq_true]at hd;obtain⟨hz,hd⟩:=hd;have hV:¬(p.k=6/\p.l.length≠0)->wU L p:=λhk n k k' hn hS=>by
  rw[gV,if_neg hk,hT]at hn hS;obtain⟨c,x,s,l⟩:=p;unfold oU at hn hS
  by_cases h1:(aD.mk c x s l).k=1
  . rw[if_pos h1]at hn hS hd;obtain rfl:c=1:=h1;obtain⟨m,rfl⟩:∃m,n=m+1:=⟨n-1,by simp at hn;omega⟩;obtain⟨hs1,hs2⟩:=hS;cases hs2;rw[Bool.and_eq_true,decide_eq_true_eq,decide_eq_true_eq]at hd;show dh L (ps L m) k=_;unfold dh;rw[if_neg (cG hs1 (by decide)),if_neg (cG hs1 (by decide)),if_neg (cG hs1 (by decide)),if_neg (cG hs1 (by decide)),if_pos (fo hs1)];obtain⟨d1,d2⟩:=hd;cases d1;cases List.eq_nil_of_length_eq_zero d2;have hx:x=0:=lq (k:=1) hz (by decide);rw[hx]
  rw[if_neg h1]at hn hS hd
  by_cases h2:(aD.mk c x s l).k=2
  . rw[if_pos h2]at hn hS hd;obtain rfl:c=2:=h2;obtain⟨m,rfl⟩:∃m,n=m+1:=⟨n-1,by simp at hn;omega⟩;obtain⟨hs1,hs2⟩:=hS;cases hs2;rw[Bool.and_eq_true,decide_eq_true_eq]at hd;show dh L (ps L m) k=_;unfold dh;rw[if_neg (cG hs1 (by decide)),if_neg (cG hs1 (by decide)),if_pos hs1.1,hs1.2.1];cases List.eq_nil_of_length_eq_zero hd.2;have hx:x=0:=lq (k:=2) hz (by decide);rw[hx];rfl
  rw[if_neg h2]at hn hS hd
  by_cases h3:(aD.mk c x s l).k=3
  . rw[if_pos h3]at hn hS hd;obtain rfl:c=3:=h3;simp only[Bool.and_eq_true,decide_eq_true_eq]at hd;obtain⟨d1,d2,d3,d4⟩:=hd;cases d1;cases List.eq_nil_of_length_eq_zero d2;obtain⟨m,rfl⟩:∃m,n=m+1:=⟨n-1,by split at hn<;>simp at hn<;>omega⟩;show dh L (ps L m) k=_;unfold dh;split at hS
    . obtain⟨hs1,hs2,hs3⟩:=hS;cases hs3;rw[if_neg (cG hs1 (by decide)),if_neg (cG hs1 (by decide)),if_neg (cG hs1 (by decide)),if_neg (cG hs1 (by decide)),bF (b_ hs1 (by decide)),if_pos (fo hs1),DU hs2.1,hs2.2.2];show yes (aD.mk 3 (IntKind.i64.wrap (-(-x))) [] []) _=_;rw[show IntKind.i64.wrap (-(-x))=x from DY ⟨d3,d4⟩]
    . obtain⟨hs1,hs2⟩:=hS;cases hs2;rw[if_pos hs1.1,hs1.2.2];rfl
  rw[if_neg h3]at hn hS hd;have hx:x=0:=lq hz h3;subst hx
  by_cases h4:(aD.mk c 0 s l).k=4
  . rw[if_pos h4]at hn hS hd;obtain rfl:c=4:=h4;obtain⟨m,rfl⟩:∃m,n=m+1:=⟨n-1,by simp at hn;omega⟩;obtain⟨hs1,hs2⟩:=hS;cases hs2;rw[decide_eq_true_eq]at hd;show dh L (ps L m) k=_;unfold dh;rw[if_neg (cG hs1 (by decide)),if_pos hs1.1,hs1.2.1];cases List.eq_nil_of_length_eq_zero hd;rfl
  rw[if_neg h4]at hn hS hd
  by_cases h5:(aD.mk c 0 s l).k=5
  . rw[if_pos h5,FQ]at hn hS;rw[if_pos h5]at hd;obtain rfl:c=5:=h5;rw[Bool.and_eq_true,decide_eq_true_eq]at hd;obtain⟨d1,d2⟩:=hd;cases d1;obtain⟨m,rfl⟩:∃m,n=m+1:=⟨n-1,by simp at hn;omega⟩;rw[Sg.cons,Sg.app]at hS;obtain⟨hs1,j,hs2,hs3,hs4⟩:=hS;cases hs4;rw[List.length_cons,List.length_append]at hn;show dh L (ps L m) k=_;unfold dh;rw[if_neg (cG hs1 (by decide)),if_neg (cG hs1 (by decide)),if_neg (cG hs1 (by decide)),if_neg (cG hs1 (by decide)),bF (b_ hs1 (by decide)),bF (b_ hs1 (by decide)),dB hs1]
    match l with
    | []=>
      cases hs2;rw[if_pos (fo hs3)]
    | [a]=>simp[aD.l]at d2
    | a::b::r=>
      have eq:dD (fx [44] bH) true (aD.mk 5 0 [] (a::b::r)).l=bH a++dD (fx [44] bH) false (b::r):=rfl;rw[eq]at hs2 hn;rw[Sg.app]at hs2;obtain⟨j1,h1,h2⟩:=hs2;rw[List.length_append]at hn;have h6:fg (tk L j1) (dY [44]):=h2.1;have ha:a∈(aD.mk 5 0 [] (a::b::r)).l:=List.mem_cons_self ..;obtain⟨t,ts,e,hh,hh4⟩:=fT a (hR a ha);have h7:fg (tk L (k+1)) t:=by rw[e]at h1;exact h1.1
      have h8:bC L (k+1) [41]=false:=by
       rcases hh with h | h | h | h | h | h | h
       . exact fS (dL h7 (by omega) (by omega))
       . exact fS (dL h7 (by omega) (by omega))
       . exact fS (dL h7 (by omega) (by omega))
       . exact fS (dL h7 (by omega) (by omega))
       . subst h;exact b_ h7 (by decide)
       . subst h;exact b_ h7 (by decide)
       . subst h;exact b_ h7 (by decide)
      have hp:oR L (ps L m) [a] j1=yes ([a]++(b::r)) j:=Bg (n:=m+1) (b::r) (λx hx=>⟨hE x (by show x∈a::b::r;simp at hx ⊢;exact .inr hx),hR x (by show x∈a::b::r;simp at hx ⊢;exact .inr hx)⟩) [a] (by omega) h2 (PE.sg hs3 (by decide) (by decide) (by decide) (by decide)) (b_ hs3 (by decide));rw[bF h8,(hE a ha).pat (hR a ha) (by omega) h1 (PE.sg h6 (by decide) (by decide) (by decide) (by decide)),bN,if_pos (fo h6),hp,bN,dB hs3];rfl
  rw[if_neg h5]at hn hS hd
  by_cases h6:(aD.mk c 0 s l).k=6
  . rw[if_pos h6]at hn hS hd;have hl:l=[]:=List.eq_nil_of_length_eq_zero (Decidable.byContradiction λq=>hk ⟨h6,q⟩);subst hl;obtain rfl:c=6:=h6
    by_cases hc:s=[58,58]
    . subst hc;cases hd
    . rw[if_neg (show ¬(aD.mk 6 0 s []).s=[58,58]from hc)]at hn hS;obtain⟨m,rfl⟩:∃m,n=m+1:=⟨n-1,by simp at hn;omega⟩;obtain⟨hs1,hs2⟩:=hS;cases hs2;show dh L (ps L m) k=_;unfold dh;rw[if_neg (cG hs1 (by decide)),if_neg (cG hs1 (by decide)),if_neg (cG hs1 (by decide)),if_pos hs1.1,hs1.2.1];rfl
  . rw[if_neg h6]at hd;cases hd
 have hB:Ot L p:=λn k k' hn hS hK=>by
  by_cases hk:p.k=6/\p.l.length≠0
  . rw[hT]at hn hS;obtain⟨c,x,s,l⟩:=p;obtain⟨q1,q2⟩:=hk;obtain rfl:c=6:=q1;have hx:x=0:=lq (k:=6) hz (by decide);subst hx;unfold oU at hn hS;simp only[show((6:Int)=1)=False from by simp,show((6:Int)=2)=False from by simp,show((6:Int)=3)=False from by simp,show((6:Int)=4)=False from by simp,show((6:Int)=5)=False from by simp,if_false,if_true,Pk]at hn hS hd;obtain⟨m,rfl⟩:∃m,n=m+1:=⟨n-1,by omega⟩;show sZ L (ps L m) k=_;unfold sZ
    by_cases hc:s=[58,58]
    . subst hc;simp only[Ps,if_true]at hn hS hd
      match l,hd with
      | [q],hd=>
        simp only[Pl,List.map_cons,List.map_nil]at hn hS hd;rw[Bool.and_eq_true,decide_eq_true_eq,decide_eq_true_eq]at hd;have hq:q∈(aD.mk 6 0 [58,58] [q]).l:=by simp[aD.l]
        rw[ta q]at hn hS;have hrq:=hR q hq;have e2:=m6 q;rw[hrq]at e2;have e3:=e2.symm;rw[Bool.and_eq_true,fP]at e3;obtain⟨g1,g2⟩:=e3;obtain⟨qc,qx,qs,ql⟩:=q;obtain⟨q1,q2⟩:=hd;obtain rfl:qc=5:=q1;unfold uZ at g2;simp only[show((5:Int)=1)=False from by simp,show((5:Int)=2)=False from by simp,show((5:Int)=3)=False from by simp,show((5:Int)=4)=False from by simp,if_false,if_true,Pk,Bool.and_eq_true,decide_eq_true_eq,decide_false,Bool.false_or]at g2;obtain⟨g2,g3,_⟩:=g2;cases g2;cases g3
        match ql,q2 with
        | [a,b],_=>
          simp only[Pl,List.map_cons,List.map_nil]at hn hS;have ha:a∈(aD.mk 5 0 [] [a,b]).l:=by simp[aD.l]
          have hb:b∈(aD.mk 5 0 [] [a,b]).l:=by simp[aD.l]
          rw[Sg.app]at hS;obtain⟨j,h1,h2,h3⟩:=hS;rw[List.length_append,List.length_cons]at hn;have ra:gz a=true:=ed g1 ha;have rb:gz b=true:=ed g1 hb;have eH:sY L (ps L m) k=yes a j:=by
           obtain⟨t,ts,e,hh1,hh2⟩:=fT a ra;unfold sY
           by_cases h4:t.k=4
           . obtain⟨rfl,rfl⟩:=hh2 h4;rw[e]at h1;obtain⟨hs1,hs2⟩:=h1;cases hs2;rw[if_pos (by rw[hs1.1,h4]),bF (tb h2 (by decide) (by decide) (by decide)),hs1.2.1]
           . have hs1:fg (tk L k) t:=by rw[e]at h1;exact h1.1
             rw[if_neg (by rw[hs1.1];exact h4)];exact hE2 _ hq a ha m k j (by omega) h1
          rw[eH,bN,if_pos (fo h2),(hE2 _ hq b hb).pat rb (by omega) h3 hK,bN];rfl
    . rw[if_neg (show ¬(aD.mk 6 0 s l).s=[58,58]from hc)]at hn hS hd;rw[Bool.and_eq_true,decide_eq_true_eq]at hd
      match l,q2,hd.2 with
      | [a],_,_=>
        simp only[Pl,List.map_cons,List.map_nil]at hn hS;have eq:dD (λ_=>q7) true [((a.k,a.l.length),pZ a)]=bH a++[]:=rfl;rw[eq,List.append_nil]at hn hS;have ha:a∈(aD.mk 6 0 s [a]).l:=by simp[aD.l]
        obtain⟨h1,h2⟩:=hS;rw[List.length_cons]at hn;obtain⟨t,ts,e,hh1,hh2⟩:=fT a (hR a ha);have h3:fg (tk L (k+1)) t:=by rw[e]at h2;exact h2.1
        unfold sY;rw[if_pos h1.1,if_pos (hh1.NN h3),hE a ha m _ _ (by omega) h2,bN,bN,h1.2.1,bF hK.2];rfl
  . have eP:bH p=s_ p:=by rw[gV,if_neg hk]
    exact(hV hk).pat hr (by rw[eP];omega) (by rw[eP];exact hS) hK
 refine⟨⟨?_,hB⟩,hE⟩
 by_cases hk:p.k=6/\p.l.length≠0
 . intro n k k' hn hS;rw[gV,if_pos hk]at hn hS;rw[Sg.cons,Sg.app]at hS;obtain⟨hs1,j,hs2,hs3,hs4⟩:=hS;cases hs4;rw[List.length_cons,List.length_append]at hn;obtain⟨m,rfl⟩:∃m,n=m+1:=⟨n-1,by omega⟩;have h8:bC L (k+1) [41]=false:=by
    rw[hT]at hs2;unfold oU at hs2;rw[hk.1]at hs2 hd;simp only[show((6:Int)=1)=False from by simp,show((6:Int)=2)=False from by simp,show((6:Int)=3)=False from by simp,show((6:Int)=4)=False from by simp,show((6:Int)=5)=False from by simp,if_false,if_true]at hs2 hd
    by_cases hc:p.s=[58,58]
    . rw[if_pos hc]at hs2 hd
      match hpl:p.l,hd with
      | [q],hd=>
        rw[hpl]at hs2;rw[Bool.and_eq_true,decide_eq_true_eq,decide_eq_true_eq]at hd;simp only[List.map_cons,List.map_nil]at hs2;rw[ta q]at hs2;have hq:q∈p.l:=by rw[hpl];simp
        have e3:=m6 q;rw[hR q hq]at e3;have e3:=e3.symm;rw[Bool.and_eq_true,fP]at e3
        match hql:q.l,hd.2 with
        | [a,b],_=>
          rw[hql]at hs2;simp only[List.map_cons,List.map_nil]at hs2;rw[Sg.app]at hs2;obtain⟨j1,h1,_⟩:=hs2;obtain⟨t,ts,e,hh,_⟩:=fT a (ed e3.1 (by rw[hql];simp));have h7:fg (tk L (k+1)) t:=by rw[e]at h1;exact h1.1
          rcases hh with h | h | h | h | h | h | h
          . exact fS (dL h7 (by omega) (by omega))
          . exact fS (dL h7 (by omega) (by omega))
          . exact fS (dL h7 (by omega) (by omega))
          . exact fS (dL h7 (by omega) (by omega))
          . subst h;exact b_ h7 (by decide)
          . subst h;exact b_ h7 (by decide)
          . subst h;exact b_ h7 (by decide)
    . rw[if_neg hc]at hs2;exact fS (mM hs2.1 (by decide) (by decide))
   show dh L (ps L m) k=_;unfold dh;rw[if_neg (cG hs1 (by decide)),if_neg (cG hs1 (by decide)),if_neg (cG hs1 (by decide)),if_neg (cG hs1 (by decide)),bF (b_ hs1 (by decide)),bF (b_ hs1 (by decide)),dB hs1,bF h8,hB m _ _ (by simp at hn;omega) hs2 (PE.sg hs3 (by decide) (by decide) (by decide) (by decide)),bN,bF (b_ hs3 (by decide)),dB hs3]
 . exact hV hk) p
end
section
variable {L:List Tok}{k k' m n:Nat}{s w:List UInt8}{t:Tok}
abbrev wV:List UInt8:=[108,101,116]
abbrev FT:List UInt8:=[104,97,110,100,108,101]
structure WS (L:List Tok)(k:Nat):Prop where
 op:∀lv,jN L lv k=false
 bg:jO L k=false
 hn:bC L k FT=false
def oV (s:List UInt8):Bool:=aC.all (λx=> !x.contains s)&&(!decide (s=[40])&&(!decide (s=wV) && !decide (s=FT)))
theorem FU (h:aC.all (λx=> !x.contains s)=true)(lv:Nat):((aC[lv]?).getD []).contains s=false:=by
 cases hx:aC[lv]? with
 | none=>rfl
 | some x=>
   have:=List.all_eq_true.1 h x (List.mem_of_getElem? hx);show x.contains s=false;rw[Bool.not_eq_true']at this;exact this
theorem z_ (h:fg (tk L k) t)(hs:aC.all (λx=> !x.contains t.s)=true)(lv:Nat):jN L lv k=false:=by
 unfold jN;rw[h.2.1,FU hs,Bool.and_false]
theorem tc (h:fg (tk L k) t)(hk:t.k=7\/t.k=6\/t.k=0)(h1:t.s≠[40])(h2:t.s≠wV):jO L k=false:=by
 unfold jO;rw[DW (by rw[h.1];omega)];unfold bC;rw[h.2.1,decide_eq_false h1,decide_eq_false h2,Bool.and_false];rfl
theorem WS.of (h:fg (tk L k) t)(hk:t.k=7\/t.k=6\/t.k=0)(hs:oV t.s=true):WS L k:=by
 unfold oV at hs;simp only[Bool.and_eq_true,Bool.not_eq_true',decide_eq_false_iff_not]at hs;obtain⟨h1,h2,h3,h4⟩:=hs;refine⟨z_ h h1,tc h hk h2 h3,?_⟩;unfold bC;rw[h.2.1,decide_eq_false h4,Bool.and_false]
theorem WS.sg (h:fg (tk L k) (dY s))(hs:oV s=true):WS L k:=WS.of h (.inl rfl) hs
theorem WS.ky (h:fg (tk L k) (eY s))(hs:oV s=true):WS L k:=WS.of h (.inr (.inl rfl)) hs
def wW (t:Tok):Prop:=t.k=1\/t.k=2\/t.k=3\/t.k=4\/t=dY [40]\/t=eY wV
theorem wW.no (h:wW t)(he:fg (tk L k) t)(h1:[40]≠w)(h2:wV≠w):bC L k w=false:=by
 rcases h with h | h | h | h | h | h
 . exact fS (dL he (by omega) (by omega))
 . exact fS (dL he (by omega) (by omega))
 . exact fS (dL he (by omega) (by omega))
 . exact fS (dL he (by omega) (by omega))
 . subst h;exact b_ he h1
 . subst h;exact cV he h2
theorem wW.un (h:wW t)(he:fg (tk L k) t):unOp L k=false:=by
 unfold unOp
 rcases h with h | h | h | h | h | h
 . rw[dL he (by omega) (by omega)];rfl
 . rw[dL he (by omega) (by omega)];rfl
 . rw[dL he (by omega) (by omega)];rfl
 . rw[dL he (by omega) (by omega)];rfl
 . subst h;rw[he.2.1,show dt.contains (dY [40]).s=false by decide +kernel,Bool.and_false]
 . subst h;rw[he.2.1,show dt.contains (eY wV).s=false by decide +kernel,Bool.and_false]
theorem wW.bg (h:wW t)(he:fg (tk L k) t):jO L k=true:=by
 unfold jO oN
 rcases h with h | h | h | h | h | h
 . rw[he.1,h];rfl
 . rw[he.1,h];rfl
 . rw[he.1,h];rfl
 . rw[he.1,h];rfl
 . subst h;rw[fo he];simp
 . subst h;rw[gm he];simp
theorem gX (e:au)(hr:gB e=true):jn e=e/\(∀a,a∈e.l->gB a=true)/\(∀a,a∈e.p->gz a=true)/\(∀a,a∈e.d->wM a=true)/\oM e.k e.n e.s e.l.length e.p.length e.d=true:=by
 have e0:=z2 e;rw[hr]at e0;have e1:=e0.symm;rw[Bool.and_eq_true,Bool.and_eq_true,Bool.and_eq_true,Bool.and_eq_true,wR,fP,wS]at e1;exact⟨by simpa[uY]using e1.2.1,λa ha=>ed e1.1 ha,λa ha=>ed e1.2.2.1 ha,λa ha=>ed e1.2.2.2.1 ha,e1.2.2.2.2⟩
theorem oW (e:au)(hr:gB e=true):∃t ts,aH e=t::ts/\wW t:=by
 rw[js];obtain⟨_,_,_,_,hd⟩:=gX e hr
 by_cases hk:l7 e.k=true
 . rw[if_pos hk,m8];unfold l7 at hk;simp only[Bool.or_eq_true,decide_eq_true_eq]at hk;unfold re;unfold oM at hd
   by_cases h1:e.k=1
   . rw[if_pos h1];exact⟨_,_,rfl,by simp[wW]⟩
   rw[if_neg h1]at hd ⊢
   by_cases h2:e.k=2\/e.k=3\/e.k=4
   . rw[if_pos h2];exact⟨_,_,rfl,by simp only[wW];omega⟩
   rw[if_neg h2]
   by_cases h5:e.k=5
   . rw[if_pos h5];exact⟨_,_,rfl,by simp[wW]⟩
   rw[if_neg h5]
   by_cases h13:e.k=13
   . rw[if_pos h13];exact⟨_,_,rfl,by simp[wW]⟩
   rw[if_neg h13];have h10:e.k=10:=by omega
   rw[if_pos h10];rw[h10]at hd;simp only[show((10:Int)=2)=False from by simp,show((10:Int)=3)=False from by simp,show((10:Int)=4)=False from by simp,show((10:Int)=5)=False from by simp,show((10:Int)=13)=False from by simp,show((10:Int)=6)=False from by simp,show((10:Int)=7)=False from by simp,show((10:Int)=8)=False from by simp,show((10:Int)=9)=False from by simp,show((10:Int)=12)=False from by simp,show((10:Int)=11)=False from by simp,show((10:Int)=14)=False from by simp,show((10:Int)=15)=False from by simp,if_false,if_true,or_false,Bool.and_eq_true,decide_eq_true_eq]at hd
   match e.l,hd.2 with
   | [x],_=>exact⟨_,_,rfl,by simp[wW]⟩
 . rw[if_neg hk];exact⟨_,_,rfl,by simp[wW]⟩
def Lc (L:List Tok)(e:au):Prop:=∀n k k',12*(aH e).length<=n->Sg L k (aH e) k'->(ps L n).atom k=yes e k'
def Ld (L:List Tok)(e:au):Prop:=∀n k k',12*(fQ e).length+12<=n->Sg L k (fQ e) k'->WS L k'->bC L k' [124]=false->(ps L n).exp k=yes e k'
def m9 (L:List Tok)(e:au):Prop:=Lc L e/\gB e=true
theorem m9.pos {e:au}(h:m9 L e):1<=(aH e).length:=by
 obtain⟨t,ts,e1,_⟩:=oW e h.2;rw[e1];simp
theorem m9.hd {e:au}(h:m9 L e)(hS:Sg L k (aH e) k'):∃t,wW t/\fg (tk L k) t:=by
 obtain⟨t,ts,e1,h1⟩:=oW e h.2;rw[e1]at hS;exact⟨t,h1,hS.1⟩
theorem m9.un {e:au}(h:m9 L e)(hn:12*(aH e).length+1<=n)(hS:Sg L k (aH e) k')(hb:jO L k'=false):(ps L n).un k=yes e k':=by
 obtain⟨m,rfl⟩:∃m,n=m+1:=⟨n-1,by omega⟩;obtain⟨t,h1,h2⟩:=h.hd hS;show wN L (ps L m) k=_;unfold wN;rw[bF (h1.un h2),h.1 m k k' (by omega) hS,bN];unfold oP;rw[bF hb]
theorem gD {a:au}{N k1:Nat}(hu:∀m,N<=m->(ps L m).un k=yes a k1):∀d lv,lv+d=7->(∀j,lv<=j->jN L j k1=false)->∀n,N+d+1<=n->(ps L n).bin lv k=yes a k1:=by
 intro d
 induction d with
 | zero=>
   intro lv hl hj n hn;obtain⟨m,rfl⟩:∃m,n=m+1:=⟨n-1,by omega⟩;show iC L (ps L m) lv k=_;unfold iC;rw[if_pos (by omega)];exact hu m (by omega)
 | succ d ih=>
   intro lv hl hj n hn;obtain⟨m,rfl⟩:∃m,n=m+1:=⟨n-1,by omega⟩;show iC L (ps L m) lv k=_;unfold iC;rw[if_neg (by omega),ih (lv+1) (by omega) (λj h=>hj j (by omega)) m (by omega),bN];unfold lh;rw[bF (hj lv (Nat.le_refl _))]
theorem jF {a:au}{k1:Nat}(h1:bC L k [105,102]=false)(h2:bC L k [99,97,115,101]=false)(h3:bC L k [102,110]=false)(h4:bC L k [114,97,105,115,101]=false)(hb:(ps L n).bin 0 k=yes a k1)(hh:bC L k1 FT=false):(ps L (n+1)).exp k=yes a k1:=by
 show gC L (ps L n) k=_;unfold gC;rw[bF h1,bF h2,bF h3,bF h4,hb,bN,bF hh]
theorem m9.exp {e:au}(h:m9 L e)(hn:12*(aH e).length+10<=n)(hS:Sg L k (aH e) k')(hK:WS L k'):(ps L n).exp k=yes e k':=by
 obtain⟨m,rfl⟩:∃m,n=m+1:=⟨n-1,by omega⟩;obtain⟨t,h1,h2⟩:=h.hd hS;exact jF (h1.no h2 (by decide) (by decide)) (h1.no h2 (by decide) (by decide)) (h1.no h2 (by decide) (by decide)) (h1.no h2 (by decide) (by decide)) (gD (N:=12*(aH e).length+1) (λm hm=>h.un hm hS hK.bg) 7 0 rfl (λj _=>hK.op j) m (by omega)) hK.hn
theorem Bh (r:List au):∀(c x:Int) (s:List UInt8) (l:List au) (p:List aD) (d:List aJ),r.foldl au.add (.mk c x s l p d)= .mk c x s (l++r) p d:=by
 induction r with
 | nil=>intros;simp
 | cons a r ih=>intro c x s l p d;rw[List.foldl_cons,au.add,ih];simp
theorem Bi (w:List UInt8)(hw:oV w=true)(l:List au)(hl:∀a,a∈l->m9 L a)(acc:au)(hn:12*(dD (fx w aH) false l).length+10<=n)(hS:Sg L k (dD (fx w aH) false l) k')(hK:WS L k')(hN:bC L k' w=false):(ps L n).dO w acc k=yes (l.foldl au.add acc) k':=
 u_ aH (λn=>(ps L n).exp) (λn=>(ps L n).dO w) _ w (WS L) 10 (by decide) (λn acc k=>rfl) (λk h=>WS.sg h hw) l (λa ha n k k' h1 h2 h3=>(hl a ha).exp h1 h2 h3) acc n k k' hn hS hK hN
theorem oX (hK:WS L k')(hN:bC L k' [124]=false)(c x:Int)(s:List UInt8)(d:List aJ):∀(qs:List aD) (xs:List au) (l:List au) (p:List aD) (n k:Nat),qs.length=xs.length->0<xs.length->(∀q,q∈qs->wU L q/\gz q=true)->(∀x,x∈xs->m9 L x)->12*(gW true (qs.map bH) (xs.map aH)).length<=n->Sg L k (gW true (qs.map bH) (xs.map aH)) k'->(ps L n).oO (.mk c x s l p d) k=yes (.mk c x s (l++xs) (p++qs) d) k':=by
 intro qs
 induction qs with
 | nil=>intro xs l p n k h1 h2;rw[List.length_nil]at h1;omega
 | cons q qs ih=>
   intro xs l p n k h1 h2 hq hx hn hS
   match xs,h2 with
   | e::xs,_=>
   have eq:gW true ((q::qs).map bH) ((e::xs).map aH)=bH q++dY [61,62]::(aH e++gW false (qs.map bH) (xs.map aH)):=rfl;rw[eq]at hn hS;rw[Sg.app]at hS;obtain⟨j1,s1,s2,s3⟩:=hS;rw[Sg.app]at s3;obtain⟨j2,s3,s4⟩:=s3;rw[List.length_append,List.length_cons,List.length_append]at hn;have hqq:=hq q (by simp);have hee:=hx e (by simp);obtain⟨t,ts,ep,_⟩:=fT q hqq.2;have hpos:1<=(bH q).length:=by rw[ep];simp
   obtain⟨m,rfl⟩:∃m,n=m+1:=⟨n-1,by omega⟩;have hj:WS L j2:=by
    match qs,xs,s4 with
    | [],_,s4=>cases s4;exact hK
    | _::_,[],_=>simp at h1
    | _::_,_::_,s4=>exact WS.sg (show fg (tk L j2) (dY [124])from s4.1) (by decide +kernel)
   show sX L (ps L m) _ k=_;unfold sX;rw[hqq.1.pat hqq.2 (by omega) s1 (PE.sg s2 (by decide) (by decide) (by decide) (by decide)),bN,dB s2,hee.exp (by omega) s3 hj,bN]
   match qs,xs,h1,s4,hn,ih with
   | [],[],_,s4,hn,_=>
     cases s4;rw[bF hN];rfl
   | q2::qs,e2::xs,h1,s4,hn,ih=>
     have eq2:gW false ((q2::qs).map bH) ((e2::xs).map aH)=dY [124]::gW true ((q2::qs).map bH) ((e2::xs).map aH):=rfl;rw[eq2]at s4 hn;obtain⟨s5,s6⟩:=s4;rw[List.length_cons]at hn;rw[if_pos (fo s5),au.jo,ih (e2::xs) (l++[e]) (p++[q]) m (j2+1) (by simpa using h1) (by simp) (λr hr=>hq r (by simp at hr ⊢;exact .inr hr)) (λr hr=>hx r (by simp at hr ⊢;exact .inr hr)) (by omega) s6];simp
theorem Kx (s:List UInt8):DN s=eY s\/DN s=dY s:=(Classical.em _).elim (λh=> .inl (if_pos h)) (λh=> .inr (if_neg h))
theorem wX (h:fg (tk L k) (DN s)):iQ L k=true/\(tk L k).s=s:=by
 unfold iQ;rcases Kx s with q | q
 . rw[q]at h;exact⟨by rw[h.1];rfl,h.2.1⟩
 . rw[q]at h;exact⟨by rw[h.1];rfl,h.2.1⟩
theorem FV:∀s∈DD,∃l,l<7/\(((aC[l]?).getD []).contains s=true/\(∀j,j<7->j≠l->((aC[j]?).getD []).contains s=false))/\s≠[40]/\s≠wV:=by decide +kernel
theorem DZ:∀s∈dt,s≠[105,102]/\s≠[99,97,115,101]/\s≠[102,110]/\s≠[114,97,105,115,101]:=by decide +kernel
theorem va (h:fg (tk L k) (DN s))(hw:s≠w):bC L k w=false:=by
 unfold bC;rw[(wX h).2,decide_eq_false hw,Bool.and_false]
theorem FW {a b:au}(ha:m9 L a)(hb:m9 L b)(hs:DD.contains s=true)(hn:12*((aH a).length+(aH b).length+1)+12<=n){j:Nat}(h1:Sg L k (aH a) j)(h2:fg (tk L j) (DN s))(h3:Sg L (j+1) (aH b) k')(hK:WS L k'):(ps L n).exp k=yes (two s a b) k':=by
 obtain⟨m,rfl⟩:∃m,n=m+1:=⟨n-1,by omega⟩;obtain⟨t,ht1,ht2⟩:=ha.hd h1;obtain⟨l,hl,⟨hin,hout⟩,hs1,hs2⟩:=FV s (by simpa using hs);obtain⟨o1,o2⟩:=wX h2;have hbg:jO L j=false:=by
  unfold jO oN bC;unfold iQ at o1;rw[o2,decide_eq_false hs1,decide_eq_false hs2,Bool.and_false];rw[Bool.or_eq_true,decide_eq_true_eq,decide_eq_true_eq]at o1;rw[decide_eq_false (by omega),decide_eq_false (by omega),decide_eq_false (by omega),decide_eq_false (by omega)];rfl
 have hop:∀i,jN L i j=((aC[i]?).getD []).contains s:=λi=>by unfold jN;rw[o1,o2,Bool.true_and]
 have hno:∀i,i≠l->jN L i j=false:=λi hi=>by
  rw[hop]
  by_cases h7:i<7
  . exact hout i h7 hi
  . rw[List.getElem?_eq_none (by simpa[aC]using h7)];rfl
 have hua:∀m,12*(aH a).length+1<=m->(ps L m).un k=yes a j:=λm hm=>ha.un hm h1 hbg;have hub:∀m,12*(aH b).length+1<=m->(ps L m).un (j+1)=yes b k':=λm hm=>hb.un hm h3 hK.bg;have pa:=ha.pos;have pb:=hb.pos;have at_l:∀m,12*((aH a).length+(aH b).length+1)+4<=m->(ps L m).bin l k=yes (two s a b) k':=λm hm=>by
  obtain⟨m,rfl⟩:∃m',m=m'+1:=⟨m-1,by omega⟩;show iC L (ps L m) l k=_;unfold iC;rw[if_neg (by omega),gD hua (6-l) (l+1) (by omega) (λi hi=>hno i (by omega)) m (by omega),bN];unfold lh;rw[if_pos (by rw[hop];exact hin),o2];split
  . rw[gD hub (7-l) l (by omega) (λi _=>hK.op i) m (by omega),bN]
  . rw[gD hub (6-l) (l+1) (by omega) (λi _=>hK.op i) m (by omega),bN];obtain⟨m,rfl⟩:∃m',m=m'+1:=⟨m-1,by omega⟩;show lh L (ps L m) l _ k'=_;unfold lh;rw[bF (hK.op l)]
 have down:∀d lv,lv+d=l->∀m,12*((aH a).length+(aH b).length+1)+4+d<=m->(ps L m).bin lv k=yes (two s a b) k':=by
  intro d
  induction d with
  | zero=>
    intro lv h m hm;have:lv=l:=by omega
    subst this;exact at_l m (by omega)
  | succ d ih=>
    intro lv h m hm;obtain⟨m,rfl⟩:∃m',m=m'+1:=⟨m-1,by omega⟩;show iC L (ps L m) lv k=_;unfold iC;rw[if_neg (by omega),ih (lv+1) (by omega) m (by omega),bN];unfold lh;rw[bF (hK.op lv)]
 exact jF (ht1.no ht2 (by decide) (by decide)) (ht1.no ht2 (by decide) (by decide)) (ht1.no ht2 (by decide) (by decide)) (ht1.no ht2 (by decide) (by decide)) (down l 0 (by omega) m (by omega)) hK.hn
theorem FX {a:au}(ha:m9 L a)(hs:dt.contains s=true)(hn:12*((aH a).length+1)+12<=n)(h2:fg (tk L k) (DN s))(h3:Sg L (k+1) (aH a) k')(hK:WS L k'):(ps L n).exp k=yes (.mk 15 0 s [a] [] []) k':=by
 obtain⟨m,rfl⟩:∃m,n=m+1:=⟨n-1,by omega⟩;obtain⟨o1,o2⟩:=wX h2;obtain⟨w1,w2,w3,w4⟩:=DZ s (by simpa using hs);have hu:∀m,12*(aH a).length+2<=m->(ps L m).un k=yes (.mk 15 0 s [a] [] []) k':=λm hm=>by
  obtain⟨m,rfl⟩:∃m',m=m'+1:=⟨m-1,by omega⟩;show wN L (ps L m) k=_;unfold wN;rw[if_pos (show unOp L k=true by unfold unOp;rw[o1,o2,hs];rfl),ha.un (by omega) h3 hK.bg,bN,o2]
 exact jF (va h2 w1) (va h2 w2) (va h2 w3) (va h2 w4) (gD hu 7 0 rfl (λi _=>hK.op i) m (by omega)) hK.hn
theorem FY {a b:au}(ha:m9 L a)(hb:m9 L b)(hn:12*((aH a).length+(aH b).length)+12<=n){j:Nat}(h1:Sg L k (aH a) j)(h3:Sg L j (aH b) k')(hK:WS L k'):(ps L n).exp k=yes (.mk 6 0 [] [a,b] [] []) k':=by
 obtain⟨m,rfl⟩:∃m,n=m+1:=⟨n-1,by omega⟩;obtain⟨t,ht1,ht2⟩:=ha.hd h1;obtain⟨u,hu1,hu2⟩:=hb.hd h3;have pa:=ha.pos;have hu:∀m,12*((aH a).length+(aH b).length)+1<=m->(ps L m).un k=yes (.mk 6 0 [] [a,b] [] []) k':=λm hm=>by
  obtain⟨m,rfl⟩:∃m',m=m'+1:=⟨m-1,by omega⟩;show wN L (ps L m) k=_;unfold wN;rw[bF (ht1.un ht2),ha.1 m k j (by omega) h1,bN];unfold oP;rw[if_pos (hu1.bg hu2),hb.1 m j k' (by omega) h3,bN];obtain⟨m,rfl⟩:∃m',m=m'+1:=⟨m-1,by omega⟩;show oP L (ps L m) _ k'=_;unfold oP;rw[bF hK.bg]
 exact jF (ht1.no ht2 (by decide) (by decide)) (ht1.no ht2 (by decide) (by decide)) (ht1.no ht2 (by decide) (by decide)) (ht1.no ht2 (by decide) (by decide)) (gD hu 7 0 rfl (λi _=>hK.op i) m (by omega)) hK.hn
end
end
end Go.Proofs.YthjhonhhbddhkaaDoor
