/- Texts of this claim, side by side. -/
import Derived.Test.YthjhonhhbddhkaaDoorG3
import Derived.Laws.Tables
import Derived.ShapedOpen
import Derived.Deep.Slices
import Derived.Lib.LaidTab
import Derived.Test.YthjhonhhbddhkaaDoorG4
import Derived.Test.YthjhonhhbddhkaaDoorG5
namespace Go.Ev
open Go.RowKit (Below)
noncomputable section
set_option maxRecDepth 100000
set_option linter.unusedVariables false
set_option linter.unusedSimpArgs false
section
variable {P:Program}{W:World}{φ:cK}
def mg (W:World)(k:Nat):Option (Array Value):=match W.heap[k]? with
 | some (.cells c _ _)=>some c
 | _=>none
def jU (W:World):cK:=(List.range W.heap.size).map λk=>some ⟨k,0,0,mg W k⟩
theorem qJ (W:World):(jU W).length=W.heap.size:=by simp[jU]
theorem mh {k:Nat}{e:iz}(h:(jU W)[k]? = some (some e)):k<W.heap.size/\e=⟨k,0,0,mg W k⟩:=by
 unfold jU at h;rw[List.getElem?_map]at h
 by_cases hk:k<W.heap.size
 . rw[List.getElem?_range hk]at h;simp at h;exact⟨hk,h.symm⟩
 . rw[List.getElem?_eq_none (by simp;omega)]at h;cases h
theorem yk {k:Nat}(h:k<W.heap.size):(jU W)[k]? = some (some ⟨k,0,0,mg W k⟩):=by
 unfold jU;rw[List.getElem?_map,List.getElem?_range h];rfl
theorem lb (k:Nat):hp (.leaf:T OB) k=none:=by simp[hp]
theorem Ya (hg:P.globals.size<=W.heap.size):HR P W (jU W) (hp .leaf) W where
 below:= .refl _ _
 qw:=λk ob h=>by rw[lb]at h;cases h
 pc:=λk e h=>by obtain⟨h1,rfl⟩:=mh h;exact h1
 inj:=λk k' ob ob' e e' _ _ h=>by rw[lb]at h;cases h
 obj:=λk ob e h=>by rw[lb]at h;cases h
 gl:=λk hk=>⟨_,yk (by omega),rfl⟩
 ng:=λk e c h hf=>by
  obtain⟨h1,rfl⟩:=mh h;unfold mg at hf
  dsimp only at hf ⊢
  split at hf
  . rename_i c' el fz hc;cases hf;exact⟨el,fz,hc⟩
  . cases hf
 sq:=λk k' e e' c ob _ _ _ h=>by rw[lb]at h;cases h
theorem B2 (h:W.ShapedOpen P)(hw:P.globals.size<(begin P (λ_ _=>0) default).world.heap.size):P.globals.size<=W.heap.size:=by
 obtain⟨o,_,h1,_⟩:=h.2 P.globals.size (Nat.le_refl _) hw;have:=(Array.getElem?_eq_some_iff.1 h1).1;omega
theorem EU {a:Addr}{v:Value}(h:W.cell? a=some v):a.block<W.heap.size/\a.spot=none/\∃c,mg W a.block=some c/\c[a.off]? = some v:=by
 unfold World.cell? at h;unfold mg;split at h
 . rename_i c el fz hc;split at h
   . cases h
   . rename_i hs;refine⟨(Array.getElem?_eq_some_iff.1 hc).1,by simpa using hs,c,by rw[hc],h⟩
 . cases h
theorem ve (a:Addr):a.add 0=a:=rfl
theorem SY {a:Addr}{len cap s:Nat}{es:List Value}(hlen:es.length=len)(hs:∀x,x∈es->x.cells.toList.length=s)(hpos:0<s)(hcap:len<=cap)
 (hx:∀(i:Nat) (x:Value),es[i]? = some x->∃cs,W.cells? 0 (a.add (i*s)) s=some cs/\LR (jU W) x.cells.toList cs):VR (jU W) (aM s es) (.slice (some a) len cap):=by
 cases es with
 | nil=>subst hlen;exact .sn s a cap
 | cons x0 es=>
   obtain⟨cs0,h0,hl0⟩:=hx 0 x0 rfl;obtain⟨_,hn0,hc0⟩:=World.cells?_some h0;have e0:=hc0 0 hpos;rw[Nat.zero_mul,ve,ve,List.getElem?_eq_getElem (by omega)]at e0;obtain⟨hb,hsp,c,hc,_⟩:=EU e0;obtain⟨b,o,sp⟩:=a
   dsimp only at hb hsp hc
   subst hsp;have key:∀(i j:Nat) (x v:Value),(x0::es)[i]? = some x->x.cells.toList[j]? = some v->∃v',c[o+i*s+j]? = some v'/\VR (jU W) v v':=by
    intro i j x v hi hj;obtain⟨cs,h1,h2⟩:=hx i x hi;obtain⟨_,hn,hc1⟩:=World.cells?_some h1;have hjs:j<s:=by
     have:=(List.getElem?_eq_some_iff.1 hj).1;rw[hs x (List.mem_of_getElem? hi)]at this;exact this
    have e1:=hc1 j hjs;rw[List.getElem?_eq_getElem (by omega)]at e1;have e2:=e1;rw[dH,dH]at e1;obtain⟨_,_,c',hc',e3⟩:=EU e1
    dsimp only at hc' e3
    rw[hc]at hc';cases hc';exact⟨_,e3,h2.at_ j v _ hj (List.getElem?_eq_getElem _)⟩
   have hrow:=VR.row (φ:=jU W) (k:=b) (o:=o) (c':=cap) (c:=c) (es:=x0::es) (s:=s) (yk hb) hc hs (λ_=> ?_) (by omega) (λi j x v v' hi hj hv=> ?_)
   . subst hlen;exact hrow
   . have hx1:(x0::es)[es.length]? = some ((x0::es)[es.length]'(by simp)):=List.getElem?_eq_getElem _;have hl:=hs _ (List.mem_of_getElem? hx1);obtain⟨v',h1,_⟩:=key es.length (s-1) _ _ hx1 (List.getElem?_eq_getElem (by omega));have:=(Array.getElem?_eq_some_iff.1 h1).1;have e5:(x0::es).length*s=es.length*s+s:=by rw[List.length_cons,Nat.succ_mul]
     omega
   . obtain⟨v'',h1,h2⟩:=key i j x v hi hj;rw[h1]at hv;cases hv;exact h2
end
end
end Go.Ev
namespace Go.Ev
noncomputable section
set_option maxRecDepth 100000
set_option linter.unusedVariables false
set_option linter.unusedSimpArgs false
section
variable {P:Program}{pl:kP}{X:Ext}{H H0 H1:T OB}{nx nx0 av:Nat}{v u:Value}{R:Go.Ev.Out->T OB->Nat->Prop}
abbrev au (l:List UInt8):Value:=Value.string ⟨⟨l⟩⟩
def hZ (l:List UInt8):List Value:=l.map λx=> .int .u8 (.ofNat x.toNat)
@[simp] theorem SZ (l:List UInt8):(hZ l).length=l.length:=by simp[hZ]
theorem ja (a b:List UInt8):hZ (a++b)=hZ a++hZ b:=by simp[hZ]
theorem rA (l:List UInt8):(hZ l).all aj=true:=by
 induction l with
 | nil=>rfl
 | cons a l ih=>simp[hZ,aj]
theorem Gu (l:List UInt8):strOf (hZ l)=some l:=by
 induction l with
 | nil=>rfl
 | cons a l ih=>
   show(match strOf (hZ l)with | some r=>some (a.toNat.toUInt8::r) | none=>none)=_;rw[ih];simp
theorem aY (a:List UInt8):(⟨⟨a⟩⟩:ByteArray).size=a.length:=rfl
theorem tz {s:Sem Value}{w:Value}(h:cb P s=some w)(hw:flat w=true):fV P s=some w:=by
 show rP (cb P (vS s))=_;have e:cb P (vS s)=some (Next.value w):=by
  show cb P (s >>= λv=>pure (Next.value v))=_;rw[bE,h];rfl
 rw[e];show(rM w λv=>bif flat v then some v else none)=_;rw[kR,hw];rfl
theorem vh {s d:TypeId}{b off n c:Nat}{l:List Value}{r:List UInt8}{e:TypeId}(hq:eJ P s d=true)(h:cA H b l e)(hn:off+n<=l.length)(hr:(l.drop off).take n=hZ r):
 dk P H s d (some (.slice (some ⟨b,off,none⟩) n c))=some (au r):=by
 obtain⟨tr,h1,h2⟩:=h;show(bif eJ P s d then ud (H.get (bits b)) (λm tr=>bif Nat.ble (off+n) m then af (qS tr n off) (λl=>af (strOf l) (λr=>some (Value.string ⟨⟨r⟩⟩)) none) none else none) none else none)=_;rw[hq,cond_true,h1];show(bif Nat.ble (off+n) l.length then af (qS tr n off) (λl=>af (strOf l) (λr=>some (Value.string ⟨⟨r⟩⟩)) none) none else none)=_;rw[Nat.ble_eq_true_of_le hn,cond_true,jS h2 n off hn,ax,hr,Gu];rfl
theorem B3 {s d e:TypeId}(hs:P.underlying s=some (.slice e))(he:P.underlying e=some (.int .u8))(hd:P.underlying d=some .string):dk P H s d (some (.slice none 0 0))=some (au []):=by
 show zd P s d (.slice none 0 0)=_;show(fV P (convert s d (.slice none 0 0)))=_;have e1:cb P (convert s d (.slice none 0 0))=some (au []):=by
  unfold convert;simp only[bE,dc hs,dc hd,Option.bind_some];simp only[bE,dc he,Option.bind_some];simp[Conv.bytesToString];rfl
 exact tz e1 rfl
theorem jb {s d:TypeId}{k k':IntKind}{n:Int}{ds:TypeDesc}(hs:P.underlying s=some ds)(hd:P.underlying d=some (.int k)):dk P H s d (some (.int k' n))=some (.int k (k.wrap n)):=by
 show zd P s d (.int k' n)=_;show(fV P (convert s d (.int k' n)))=_;have e1:cb P (convert s d (.int k' n))=some (.int k (k.wrap n)):=by
  unfold convert;simp only[bE,dc hs,dc hd,Option.bind_some];rfl
 exact tz e1 rfl
theorem yl (k:IntKind)(n:Int):iw P .neg (some (.int k n))=some (.int k (k.wrap (0-n))):=by
 show fV P (Op.unary .neg (.int k n))=_;have e:Op.unary .neg (.int k n)=pure (.int k (k.wrap (0-n))):=rfl;rw[e];exact ee rfl
theorem Am {t e:TypeId}{s b off len i:Nat}(hu:P.underlying t=some (.array len e))(hs:aN P e=some s)(hi:i<len)(k:IntKind):bc P t (some (.pointer (some ⟨b,off,none⟩))) (some (.int k (i:Int)))=some (.pointer (some ⟨b,off+i*s,none⟩)):=by
 show iS (i:Int) (HC P t (some (.pointer (some ⟨b,off,none⟩)))) none=_;rw[fm];show m_ P t (λlen s=>bif Nat.blt i len then bo (Nat.add off (Nat.mul i s)) (λo=>some (Value.pointer (some ⟨b,o,none⟩)))else none) none=_;unfold m_;rw[hu];simp only;rw[hs,ax,show Nat.blt i len=true from Nat.ble_eq_true_of_le hi,cond_true,aP];rfl
theorem An {t e:TypeId}{s b off len i:Nat}(hu:P.underlying t=some (.array len e))(hs:aN P e=some s)(hi:i<len)(hl:len<9223372036854775808)(k:IntKind):
 bA P H t (some (.pointer (some ⟨b,off,none⟩))) (some (some (.int k (i:Int)))) (some none) (some none)=some (.slice (some ⟨b,off+i*s,none⟩) (len-i) (len-i)):=by
 show m_ P t (λn s=>af (some i) (λl=>af (some n) (λh=>iT b off n s l h) none) none) none=_;unfold m_;rw[hu];simp only;rw[hs,ax];show iT b off len s i len=_;unfold iT;rw[Nat.ble_eq_true_of_le (Nat.le_of_lt hi),Nat.ble_eq_true_of_le (Nat.le_refl _),show Nat.blt len eO=true from Nat.ble_eq_true_of_le (by unfold eO;omega)];simp only[Bool.and_self,cond_true,aP];rw[show Nat.beq len i=false from by rw[Bool.eq_false_iff];intro h;rw[Nat.beq_eq]at h;omega];rfl
theorem vi {t u e:TypeId}{b:ByteArray}{base:Option Addr}{sl sc:Nat}(hu:P.underlying t=some (.slice e))(hs:aN P e=some 1)(hq:nA P u=true)(hsm:br P e 1 (sl+b.size)=true):
 cO P H nx [t,u] (some [.slice base sl sc,.string b])=og P H nx e 1 base sl sc b.size (hZ b.data.toList):=by
 show(bif nA P u then dt P t (λe s=>bif br P e s (sl+b.size)&&Nat.beq s 1 then og P H nx e s base sl sc b.size (b.data.toList.map λx=> .int .u8 (.ofNat x.toNat))else .bad) .bad else .bad)=_;rw[hq,cond_true];unfold dt;rw[hu];simp only;rw[hs,ax,hsm];rfl
theorem Wq.VP {t u e:TypeId}{r:List UInt8}{k:Value->T OB->Nat->Q}(hu:P.underlying t=some (.slice e))(hs:aN P e=some 1)(hq:nA P u=true)(hsm:br P e 1 r.length=true)(h:Ag nx0 H0 nx H)
 (h0:r=[]->aF P pl X (k (.slice none 0 0) H nx) nx0 H0 R)
 (hk:∀H',r≠[]->cA H' nx (hZ r) e->(∀b l e,b<nx->cA H b l e->cA H' b l e)->Ag nx0 H0 (nx+1) H'->aF P pl X (k (.slice (some ⟨nx,0,none⟩) r.length eO) H' (nx+1)) nx0 H0 R):
 aF P pl X (aR (cO P H nx [t,u] (some [.slice none 0 0,au r])) k) nx0 H0 R:=by
 rw[vi hu hs hq (by rw[Nat.zero_add];exact hsm)];show aF P pl X (aR (bif Nat.beq 0 0&&Nat.beq 0 0 then(bif Nat.beq r.length 0 then .val (.slice none 0 0) H nx else gP H nx e r.length (hZ r))else .bad) k) nx0 H0 R;cases r with
 | nil=>exact h0 rfl
 | cons x r=>
   show aF P pl X (aR (gP H nx e (x::r).length (hZ (x::r))) k) nx0 H0 R;rw[g_];exact Wq.new (q:=λH n=>k (.slice (some ⟨nx,0,none⟩) (x::r).length eO) H n) h λH' a b c=>hk H' (by simp) a b c
theorem Wq.Yb {t u e e':TypeId}{b n:Nat}{l:List Value}{r:List UInt8}{k:Value->T OB->Nat->Q}(hu:P.underlying t=some (.slice e))(hs:aN P e=some 1)(hq:nA P u=true)(hb:cA H b l e')(hs':aN P e'=some 1)(hl:l.length=n)
 (hsm:br P e 1 (n+r.length)=true) (h:Ag nx0 H0 nx H) (hbn:nx0<=b) (hbx:b<nx)
 (hk:∀H',cA H' nx (l++hZ r) e->(∀c l e,c≠b->c<nx->cA H c l e->cA H' c l e)->Ag nx0 H0 (nx+1) H'->aF P pl X (k (.slice (some ⟨nx,0,none⟩) (n+r.length) eO) H' (nx+1)) nx0 H0 R):
 aF P pl X (aR (cO P H nx [t,u] (some [.slice (some ⟨b,0,none⟩) n eO,au r])) k) nx0 H0 R:=by
 rw[vi hu hs hq hsm];obtain⟨tr,h1,h2⟩:=hb;have e1:og P H nx e 1 (some ⟨b,0,none⟩) n eO r.length (hZ r)=gP (Ev.set H (bits b) (some .dead)) nx e (n+r.length) (l++hZ r):=by
  show uf P H nx e 1 b 0 n eO r.length (hZ r)=_;unfold uf;rw[h1];have eu:Nat.beq eO eO=true:=Nat.beq_refl _;simp only[dV,eu,cond_true];unfold Q2 rT;rw[h1];show(bif Nat.beq 0 0&&Nat.ble (n*1) l.length&&af (aN P e') (λz=>Nat.beq z 1) false&&(hZ r).all aj then _ else _)=_;rw[hs',ax,Nat.beq_refl,hl,Nat.ble_eq_true_of_le (by omega),rA];have:qS tr (n*1) 0=some l:=by rw[Nat.mul_one,<- hl,jS h2 _ _ (by omega)];simp
  rw[this,Nat.beq_refl];show dp (bits b) H (some .dead) (λH=>gP H nx e (n+r.length) (l++hZ r))=_;rw[aL]
 show aF P pl X (aR (og P H nx e 1 (some ⟨b,0,none⟩) n eO r.length (hZ r)) k) nx0 H0 R;rw[e1,g_];exact Wq.new (q:=λH n'=>k (.slice (some ⟨nx,0,none⟩) (n+r.length) eO) H n') (h.set hbn _) λH' ha hb hc=>hk H' ha (λc l e hcb hcn hi=>hb c l e hcn (hi.other hcb _)) hc
end
section
variable {P:Program}{pl:kP}{X:Ext}{H H0 H1:T OB}{nx nx0 av:Nat}{v u:Value}{R:Go.Ev.Out->T OB->Nat->Prop}
theorem bD {t:TypeId}(hu:P.underlying t=some .string){l:List UInt8}{i:Nat}{c:UInt8}(h:l[i]? = some c)(k:IntKind):cC P t (some (au l)) (some (.int k (i:Int)))=some (.int .u8 (c.toNat:Int)):=by
 show A6 P t (au l) (.int k i)=_;show fV P (Instr.index t (au l) (.int k i))=_;have hi:i<l.length:=(List.getElem?_eq_some_iff.1 h).1;have e0:(⟨⟨l⟩⟩:ByteArray)[i]? = some c:=by
  rw[ByteArray.getElem?_lt' _ _ hi];exact(List.getElem?_eq_getElem hi).symm.trans h
 have e1:cb P (Instr.index t (au l) (.int k i))=some (.int .u8 (c.toNat:Int)):=by
  unfold Instr.index;simp only[asIntOf,bE,dc hu,Option.bind_some];have h0:(0:Int)<=(i:Int):=by omega
  have:cb P (pure (k,(i:Int)):Sem (IntKind×Int))=some (k,(i:Int)):=rfl;simp only[this,Option.bind_some,h0,if_true,Int.toNat_natCast,e0];rfl
 exact tz e1 rfl
theorem Gv (t:TypeId)(q:Bool)(k k':IntKind)(a:Int)(n:Nat)(hn:n<=k.bits):cZ P H .shr t q (some (.int k a)) (some (.int k' (n:Int)))=some (.int k (a.fdiv (2^n))):=by
 rw[kX rfl rfl rfl rfl];have e0:ze P .shr t (.int k a) (.int k' (n:Int))=fV P (binOp .shr t (.int k a) (.int k' (n:Int))):=rfl;have e:binOp .shr t (.int k a) (.int k' (n:Int))=pure (.int k (a.fdiv (2^n))):=by
  show Op.shift .shr k a k' (n:Int)=_;unfold Op.shift;rw[if_neg (by omega)];simp only[Int.toNat_natCast,Nat.min_eq_left hn]
 rw[e0,e];exact ee rfl
theorem Gx (t:TypeId)(q:Bool)(k:IntKind)(a b:Int):cZ P H .and t q (some (.int k a)) (some (.int k b))=some (.int k (k.wrap ((BitVec.ofInt k.bits a &&& BitVec.ofInt k.bits b).toNat:Int))):=by
 rw[dP];have e:binOp .and t (.int k a) (.int k b)=pure (.int k (k.wrap ((BitVec.ofInt k.bits a &&& BitVec.ofInt k.bits b).toNat:Int))):=by simp[binOp,Op.intBits]
 rw[e];exact ee rfl
def BS (e:TypeId)(nx0:Nat)(H:T OB)(nx:Nat)(r:List UInt8)(sl:Value):Prop:=
 (r=[]/\sl= .slice none 0 0)\/∃b c,nx0<=b/\b<nx/\cA H b (hZ r) e/\(c=eO\/c=r.length)/\sl= .slice (some ⟨b,0,none⟩) r.length c
theorem BS.nil (e:TypeId)(nx0:Nat)(H:T OB)(nx:Nat):BS e nx0 H nx [] (.slice none 0 0):= .inl ⟨rfl,rfl⟩
theorem Wq.Ao {t e:TypeId}{n:Nat}{r x:List UInt8}{sl:Value}{vs:List (Nat×Value)}{z:List Value}{k:Value->T OB->Nat->Q}(hu:P.underlying t=some (.slice e))(hs:aN P e=some 1)(hz:bT P e=some z)(hsl:BS e nx0 H nx r sl)(hn:x.length=n)
 (hg:(Nat.ble (n*1) 16777216&&Nat.blt 0 (n*1)&&Nat.blt 0 z.length)=true) (hf:Instr.fill (λi=>some (i*1,1)) (bH z (n*1)) vs=some ⟨hZ x⟩) (hsm:∀m,m<=r.length+x.length->br P e 1 m=true) (h:Ag nx0 H0 nx H)
 (hk:∀H' sl' nx',BS e nx0 H' nx' (r++x) sl'->Ag nx0 H0 nx' H'->nx<=nx'->aF P pl X (k sl' H' nx') nx0 H0 R):
 aF P pl X (aR (aJ P H nx t n (some vs)) λv H nx=>aR (cO P H nx [t,t] (some [sl,v])) k) nx0 H0 R:=by
 have hn0:0<x.length:=by
  rw[hn];simp only[Bool.and_eq_true]at hg;have:=Nat.lt_of_lt_of_le (Nat.zero_lt_one) (Nat.le_of_ble_eq_true hg.1.2);omega
 refine Wq.row hu hs hz hg hf h λH1 hb1 cc hA1=> ?_;have hx1:ny H1 1 (.slice (some ⟨nx,0,none⟩) n n)=some (n,hZ x):=BJ hb1 (by simp;exact hn);rcases hsl with⟨rfl,rfl⟩ | ⟨b,c,hb0,hbx,hb,hc,rfl⟩
 . refine Wq.MN hu hs rfl hx1 (hsm _ (by simp;omega)) hA1 (λh0=>by omega) λH2 _ hb2 _ hA2=> ?_;refine hk _ _ _ ?_ hA2 (by omega);exact .inr ⟨nx+1,eO,by have:=h.1;omega,by omega,by simpa using hb2,.inl rfl,by rw[List.nil_append,hn]⟩
 . have hb':=cc _ _ _ hbx hb;rcases hc with rfl | rfl
   . refine Wq.app hu hs hb' hs (by simp) rfl hx1 (rA x) (hsm _ (by omega)) hA1 hb0 (by omega) λH2 hb2 _ hA2=> ?_;refine hk _ _ _ ?_ hA2 (by omega);exact .inr ⟨nx+1,eO,by have:=h.1;omega,by omega,by rw[ja];exact hb2,.inl rfl,by rw[List.length_append,hn]⟩
   . rw[mL rfl];unfold dt;rw[hu];simp only[hs,ax,hx1,hsm (r.length+n) (by omega),cond_true];obtain⟨tr,h1,h2⟩:=hb'
     by_cases hr:r.length=eO
     . have hh:=hsm r.length (by omega);exact absurd hh (by
        unfold br;intro q;split at q
        . simp only[Bool.and_eq_true]at q;have:=Nat.le_of_ble_eq_true q.1.2;unfold eO at hr;omega
        . cases q)
     . have e1:og P H1 (nx+1) e 1 (some ⟨b,0,none⟩) r.length r.length n (hZ x)=gP H1 (nx+1) e (r.length+n) (hZ r++hZ x):=by
        show uf P H1 (nx+1) e 1 b 0 r.length r.length n (hZ x)=_;unfold uf;rw[h1];have eu:Nat.beq r.length eO=false:=by
         rw[Bool.eq_false_iff];intro q;rw[Nat.beq_eq]at q;exact hr q
        have el:Nat.ble (r.length+n) r.length=false:=by
         rw[Bool.eq_false_iff];intro q;have:=Nat.le_of_ble_eq_true q;omega
        simp only[dV,eu,cond_false,el];unfold qu;rw[show Nat.ble (0+r.length*1) (hZ r).length=true from Nat.ble_eq_true_of_le (by simp),show Nat.blt 0 n=true from Nat.ble_eq_true_of_le (by omega)];have:qS tr (r.length*1) 0=some (hZ r):=by rw[jS h2 _ _ (by simp)];simp[List.take_of_length_le]
        simp only[Bool.and_self,cond_true,this,ax]
       rw[e1,g_];refine Wq.new (q:=λH n'=>k (.slice (some ⟨nx+1,0,none⟩) (r.length+n) eO) H n') hA1 λH2 hb2 _ hA2=> ?_;refine hk _ _ _ ?_ hA2 (by omega);exact .inr ⟨nx+1,eO,by have:=h.1;omega,by omega,by rw[ja];exact hb2,.inl rfl,by rw[List.length_append,hn]⟩
theorem vj {s d e:TypeId}{r:List UInt8}{sl:Value}(hs:P.underlying s=some (.slice e))(he:P.underlying e=some (.int .u8))(hd:P.underlying d=some .string)(hq:eJ P s d=true){e':TypeId}(h:BS e' nx0 H nx r sl):dk P H s d (some sl)=some (au r):=by
 rcases h with⟨rfl,rfl⟩ | ⟨b,c,hb0,hbx,hb,hc,rfl⟩
 . exact B3 hs he hd
 . exact vh hq hb (by simp) (by rw[List.drop_zero,List.take_of_length_le (by simp)])
end
end
end Go.Ev
namespace Go.Ev
open Go.RowKit (Below)
noncomputable section
set_option maxRecDepth 100000
set_option linter.unusedVariables false
set_option linter.unusedSimpArgs false
section
def S0 {β:Type}(l:List (Nat×List Value)):T OB->(T OB->β)->β:=
 @List.rec (Nat×List Value) (λ_=>T OB->(T OB->β)->β) (λH k=>k H)
  (λx _ ih H k=>fk x.2 0 .leaf λt=>bo x.2.length λn=>dp (bits x.1) H (some (.ro n t)) λH=>ih H k) l
def nn:List (Nat×List Value)->T OB->T OB
 | [],H=>H
 | x::l,H=>nn l (set H (bits x.1) (some (.ro x.2.length (e8 x.2 0 .leaf))))
theorem EV {β:Type}:∀(l:List (Nat×List Value)) (H:T OB) (k:T OB->β),S0 l H k=k (nn l H)
 | [],H,k=>rfl
 | x::l,H,k=>by
   show(fk x.2 0 .leaf λt=>bo x.2.length λn=>dp (bits x.1) H (some (.ro n t)) λH=>S0 l H k)=_;rw[du,aP,aL];exact EV l _ k
theorem tA:∀(l:List (Nat×List Value)) (H:T OB) (k:Nat) (ob:OB),hp (nn l H) k=some ob->(∃x∈l,x.1=k/\ob= .ro x.2.length (e8 x.2 0 .leaf))\/hp H k=some ob
 | [],H,k,ob,h=> .inr h
 | x::l,H,k,ob,h=>by
   rcases tA l _ k ob h with⟨y,hy,h1,h2⟩ | h
   . exact .inl ⟨y,by simp[hy],h1,h2⟩
   . rw[bw]at h
     by_cases hk:k=x.1
     . subst hk;rw[da]at h;cases h;exact .inl ⟨x,by simp,rfl,rfl⟩
     . rw[aK _ hk]at h;exact .inr h
variable {P:Program}{W:World}{φ:cK}
def mN (l:List ByteArray):DataW Unit:= .agg (l.map λz=> .lit (.string z.data.toList))
theorem uv {P:Program}{w:World}{base:Nat}{sp:Nat->Bool}{held:Bool}{fuel:Nat}{t e:TypeId}{n:Nat}{cs:List Value}{l:List ByteArray}{p:List MemPlace}
 (ht:P.underlying t=some (.array n e)) (he:P.underlying e=some .string) (hce:P.cellsOf e=1) (hct:P.cellsOf t=n)
 (h:DataW.trod (λ_=>()) P w base sp held fuel t cs=some (mN l,p)):cs=l.map Value.string:=by
 cases fuel with
 | zero=>simp[DataW.trod]at h
 | succ fuel=>
   simp only[DataW.trod,ht,hce,hct,Nat.mul_one]at h;split at h
   . rename_i hl;obtain⟨xs,hm,hx⟩:=Option.map_eq_some_iff.1 h;have hxs:xs.map (·.1)=l.map λz=>(DataW.lit (.string z.data.toList):DataW Unit):=by
      have:=congrArg Prod.fst hx;simpa[mN]using this
     have hxl:xs.length=n:=by simpa using Lib.mapM_length hm
     have hzl:l.length=n:=by
      have:=congrArg List.length hxs;simp at this;omega
     apply List.ext_getElem?;intro i
     by_cases hi:i<n
     . obtain⟨b,hb,hf⟩:=Lib.mapM_at hm i i (by simp[hi]);obtain⟨z,hc,rfl,_⟩:=DataW.trod_string he hf;have h1:cs[i]? = some (.string z):=by
        have:=congrArg (·[0]?) hc;simpa[List.getElem?_take,List.getElem?_drop]using this
       have h2:(xs.map (·.1))[i]? = some (DataW.lit (.string z.data.toList):DataW Unit):=by simp[hb]
       rw[hxs]at h2;simp only[List.getElem?_map,Option.map_eq_some_iff,DataW.lit.injEq,Lit.string.injEq]at h2;obtain⟨z',hz',hz2⟩:=h2;have:z'=z:=by
        cases z;cases z';simp at hz2;simp[hz2]
       simp[h1,hz',this]
     . rw[List.getElem?_eq_none (by omega),List.getElem?_eq_none (by simp;omega)]
   . cases h
theorem mi {P:Program}{W:World}{name:String}{l:List ByteArray}{rest:List (String×DataW Unit)}{g:Nat}{t e:TypeId}{n:Nat}
 (hg:P.globalNamed name=some g) (hty:(P.globals[g]?).map (·.type)=some t) (ht:P.underlying t=some (.array n e)) (he:P.underlying e=some .string) (hce:P.cellsOf e=1) (hct:P.cellsOf t=n)
 (h:laidMet P ((name,mN l)::rest) W):∃c el fz,W.heap[g]? = some (.cells c el fz)/\c.toList=l.map Value.string:=by
 obtain⟨ps,⟨g',t',cs,fuel,p,q,hg',ht',hvar,hd,_,_⟩,_⟩:=h;obtain rfl:=Option.some.inj (hg.symm.trans hg');obtain rfl:=Option.some.inj (hty.symm.trans ht');have hcs:=uv ht he hce hct hd;unfold World.var? at hvar;rw[hg]at hvar;simp only[Option.bind_some]at hvar;split at hvar
 . rename_i c el fz hb;cases hvar;exact⟨_,_,_,hb,hcs⟩
 . cases hvar
end
end
end Go.Ev
namespace Go.Ev
noncomputable section
set_option maxRecDepth 100000
set_option linter.unusedVariables false
set_option linter.unusedSimpArgs false
section
variable {P:Program}{pl:kP}{X:Ext}{H H0 H1:T OB}{nx nx0 av:Nat}{v u:Value}{R:Go.Ev.Out->T OB->Nat->Prop}
def A2 (H:T OB)(b:Nat)(es:List MapEntry)(c:Nat):Prop:=H.get (bits b)=some (.map es c)
theorem A2.other {b c:Nat}{es:List MapEntry}{n:Nat}(h:A2 H b es n)(hc:b≠c)(x:Option OB):A2 (Ev.set H (bits c) x) b es n:=by
 unfold A2 at h ⊢;rw[get_at,if_neg hc];exact h
theorem Wq.VQ {k:Value->T OB->Nat->Q}(h:Ag nx0 H0 nx H)
 (hk:∀H',A2 H' nx [] 0->(∀b l e,b<nx->cA H b l e->cA H' b l e)->(∀b es c,b<nx->A2 H b es c->A2 H' b es c)->Ag nx0 H0 (nx+1) H'->aF P pl X (k (.map (some nx)) H' (nx+1)) nx0 H0 R):aF P pl X (aR (eQ H nx) k) nx0 H0 R:=by
 have e1:aR (eQ H nx) k=k (.map (some nx)) (Ev.set H (bits nx) (some (.map [] 0))) (nx+1):=by
  unfold eQ;rw[aL,aP];rfl
 rw[e1];exact hk _ (by unfold A2;rw[get_at,if_pos rfl]) (λb l e hb h=>h.other (by omega) _) (λb es c hb h=>h.other (by omega) _) (h.succ.set h.1 _)
theorem Wq.od {t kt et:TypeId}{d:TypeDesc}{b:Nat}{es:List MapEntry}{c:Nat}{kv x:Value}{k:Value->T OB->Nat->Q}(hu:P.underlying t=some (.map kt et))(hd:P.underlying kt=some d)(hkk:jy d=true)(hb:A2 H b es c)(hf:Instr.findNow d kv es 0=some none)(h:Ag nx0 H0 nx H)(hbn:nx0<=b)
 (hk:∀H',A2 H' b (es++[⟨kv,x,c⟩]) (c+1)->(∀c l e,c≠b->cA H c l e->cA H' c l e)->(∀c es n,c≠b->A2 H c es n->A2 H' c es n)->Ag nx0 H0 nx H'->aF P pl X (k undef H' nx) nx0 H0 R):
 aF P pl X (aR (bt P H nx t (some (.map (some b))) (some kv) (some x)) k) nx0 H0 R:=by
 have e1:bt P H nx t (some (.map (some b))) (some kv) (some x)= .val undef (Ev.set H (bits b) (some (.map (es++[⟨kv,x,c⟩]) (c+1)))) nx:=by
  unfold bt na;rw[hu];simp only;rw[hd,ax,hkk,cond_true];show vN (H.get (bits b)) (λes c=>HF H nx b es c kv x (Instr.findNow d kv es 0)) .bad=_;unfold A2 at hb;rw[hb];show HF H nx b es c kv x (Instr.findNow d kv es 0)=_;rw[hf];show Ev.bo (Nat.succ c) (λc'=>dp (bits b) H (some (.map (es++[⟨kv,x,c⟩]) c')) λH=>fj.val undef H nx)=_;rw[aP,aL]
 rw[e1];exact hk _ (by unfold A2;rw[get_at,if_pos rfl]) (λc l e hc h=>h.other hc _) (λc es n hc h=>h.other hc _) (h.set hbn _)
theorem Ap {t kt et:TypeId}{d:TypeDesc}{b:Nat}{es:List MapEntry}{c:Nat}{kv:Value}{ok:Bool}(hu:P.underlying t=some (.map kt et))(hd:P.underlying kt=some d)(hkk:jy d=true)(hb:A2 H b es c):
 cg P H t (some (.map (some b))) (some kv) ok=CR P et ok (Instr.findNow d kv es 0):=by
 unfold cg na;rw[hu];simp only;rw[hd,ax,hkk,cond_true];unfold A2 at hb;unfold A_;simp only[hb,ax]
def qV (H:T OB)(b:Nat)(l:List Value):Prop:=∃tr,H.get (bits b)=some (.ro l.length tr)/\∀i,i<l.length->tr.get (bits i)=l[i]?
theorem qV.ag {b:Nat}{l:List Value}(h:qV H b l)(hA:Ag nx H av H1)(hb:b<nx):qV H1 b l:=by
 obtain⟨tr,h1,h2⟩:=h;exact⟨tr,(show hp H1 b=_ from(hA.2 b hb).trans h1),h2⟩
theorem qe {b off:Nat}{l:List Value}{t:TypeId}{u:Value}(h:qV H b l)(ha:dG P t=some false)(hu:l[off]? = some u):ai P H t (some (.pointer (some ⟨b,off,none⟩)))=some u:=by
 obtain⟨tr,h1,h2⟩:=h;have hlt:=(List.getElem?_eq_some_iff.1 hu).1;show ly P H t b off=_;unfold ly;rw[h1];show lP P l.length tr t off=_;unfold lP;rw[ha,ax];show rN l.length tr off=_;unfold rN;have e1:Nat.blt off l.length=true:=Nat.ble_eq_true_of_le hlt;rw[e1,h2 off hlt,hu];rfl
theorem mj {t e:TypeId}{s b off len:Nat}(hu:P.underlying t=some (.array len e))(hs:aN P e=some s)(h0:0<len)(hl:len<9223372036854775808):
 bA P H t (some (.pointer (some ⟨b,off,none⟩))) (some none) (some none) (some none)=some (.slice (some ⟨b,off,none⟩) len len):=by
 show m_ P t (λn s=>af (some 0) (λl=>af (some n) (λh=>iT b off n s l h) none) none) none=_;unfold m_;rw[hu];simp only;rw[hs,ax];show iT b off len s 0 len=_;unfold iT;rw[Nat.ble_eq_true_of_le (Nat.zero_le _),Nat.ble_eq_true_of_le (Nat.le_refl _),show Nat.blt len eO=true from Nat.ble_eq_true_of_le (by unfold eO;omega)];simp only[Bool.and_self,cond_true,aP];rw[show Nat.beq len 0=false from by rw[Bool.eq_false_iff];intro h;rw[Nat.beq_eq]at h;omega];simp
theorem dE {t:TypeId}(hu:P.underlying t=some .string){l:List UInt8}{lo hi:Nat}(h1:lo<=hi)(h2:hi<=l.length)(k k':IntKind):
 bA P H t (some (au l)) (some (some (.int k (lo:Int)))) (some (some (.int k' (hi:Int)))) (some none)=some (au ((l.drop lo).take (hi-lo))):=by
 show rQ P t (au l) (some (some (.int k (lo:Int)))) (some (some (.int k' (hi:Int)))) (some none)=_;show fV P (Instr.sliceAt t (au l) (some (.int k (lo:Int))) (some (.int k' (hi:Int))) none)=_;have e0:(⟨⟨l⟩⟩:ByteArray).extract lo hi=⟨⟨(l.drop lo).take (hi-lo)⟩⟩:=by
  apply ByteArray.ext;rw[ByteArray.data_extract];apply Array.ext';simp
 have e1:cb P (Instr.sliceAt t (au l) (some (.int k (lo:Int))) (some (.int k' (hi:Int))) none)=some (au ((l.drop lo).take (hi-lo))):=by
  unfold Instr.sliceAt;simp only[bE,dc hu,Option.bind_some];unfold Instr.slice;simp only[bE,dc hu,Option.bind_some];unfold Instr.sliceBounds Instr.sliceBound;simp only[bE,asIntOf,Option.isSome];have pp:∀{α:Type} (a:α),cb P (pure a:Sem α)=some a:=λ_=>rfl;rw[if_neg (by decide)];simp only[bE,pp,Option.bind_some];have c1:(0:Int)<=(hi:Int)/\(hi:Int)<=((⟨⟨l⟩⟩:ByteArray).size:Int):=⟨by omega,by rw[aY];omega⟩;have c2:(0:Int)<=(lo:Int)/\(lo:Int)<=(((hi:Int).toNat:Nat):Int):=⟨by omega,by omega⟩;rw[if_pos c1];simp only[pp,Option.bind_some];rw[if_pos c2];simp only[pp,Option.bind_some,Int.toNat_natCast,e0]
 exact tz e1 rfl
end
end
end Go.Ev
namespace Go.Proofs.YthjhonhhbddhkaaDoor
open Go.Ev Go.RowKit
noncomputable section
set_option maxRecDepth 100000
set_option linter.unusedVariables false
set_option linter.unusedSimpArgs false
set_option maxHeartbeats 8000000
section
variable {X:Ext}
theorem ao {i:Nat}(h:i<9223372036854775807):IntKind.i64.wrap ((i:Int)+1)=((i+1:Nat):Int):=by rw[bS (by omega)];omega
theorem Wq.each {nx0:Nat}{H0:T OB}{α σ:Type}(l:List α)(q:Nat->σ->T OB->Nat->Q)(R:List α->σ->Value)(hend:∀s H1 av,Ag nx0 H0 av H1->Wq P pl X (q l.length s H1 av) nx0 H0 (R [] s))
 (hstep:∀i a t s H1 av,l[i]? = some a->i<l.length->l.drop (i+1)=t->Ag nx0 H0 av H1->(∀s H2 nx2,Ag nx0 H0 nx2 H2->Wq P pl X (q (i+1) s H2 nx2) nx0 H0 (R t s))->Wq P pl X (q i s H1 av) nx0 H0 (R (a::t) s))
 (s:σ) (H1:T OB) (av:Nat) (hA:Ag nx0 H0 av H1):Wq P pl X (q 0 s H1 av) nx0 H0 (R l s):=by
 have h:=Wq.up l.length q (λi s=>R (l.drop i) s) (λs H1 av h=>by simpa using hend s H1 av h)
  (λi s H1 av hi ih hA=>by
   have:=hstep i l[i] _ s H1 av (List.getElem?_eq_getElem hi) hi rfl hA ih;simp only[List.drop_eq_getElem_cons hi];exact this) 0 s H1 av (Nat.zero_le _) hA
 simpa using h
theorem aA {α:Type}(l:List α):decide ((l.length:Int)<(l.length:Int))=false:=by simp
theorem aE {α:Type}{l:List α}{i:Nat}(h:i<l.length):decide ((i:Int)<(l.length:Int))=true:=by simp[h]
abbrev w (n:Int):Int:=IntKind.i64.wrap n
theorem Wq.gF {nx0:Nat}{H0:T OB}{nx:Nat}{H:T OB}{u v:Value}(e:u=v)(h:Ag nx0 H0 nx H):Wq P pl X (.ret ⟨.ret u,false,H,nx⟩) nx0 H0 v:=by subst e;exact Wq.ret h
theorem Wq.jmp {nx0:Nat}{H0:T OB}{R:Go.Ev.Out->T OB->Nat->Prop}{q:bu}{t:Q}(e:aI P pl q=t)(hq:∀k,pj X q k=k)(h:aF P pl X t nx0 H0 R):aF P pl X (.jump q) nx0 H0 R:=Wq.jump hq (by rw[e];exact h)
theorem Wq.put {nx0:Nat}{H0:T OB}{nx:Nat}{H:T OB}{R:Go.Ev.Out->T OB->Nat->Prop}{b off:Nat}{l l':List Value}{e t:TypeId}{u:Value}{k:Value->T OB->Nat->Q}(hb:cA H b l e)(hs:aN P t=some 1)(hc:u.cells.toList=[u])(ho:aj u=true)
 (hn:off<l.length) (hl:l.set off u=l') (h:Ag nx0 H0 nx H) (hbn:nx0<=b) (hk:∀H',cA H' b l' e->(∀c l e,c≠b->cA H c l e->cA H' c l e)->Ag nx0 H0 nx H'->aF P pl X (k undef H' nx) nx0 H0 R):
 aF P pl X (aR (cI P H nx t (some (.pointer (some ⟨b,off,none⟩))) (some u)) k) nx0 H0 R:=by
 refine Wq.store hb hs (by omega) (by rw[hc];rfl) (by rw[hc];simp[ho]) h hbn λH' hb' hh hA'=>hk H' ?_ hh hA';rw[hc]at hb';have e1:jD l [u] off=l':=by
  rw[<- hl,List.set_eq_take_append_cons_drop,if_pos hn];unfold jD;simp
 rw[e1]at hb';exact hb'
theorem Wq.jc {nx0:Nat}{H0:T OB}{nx:Nat}{H:T OB}{R:Go.Ev.Out->T OB->Nat->Prop}{f:FuncId}{args:List Value}{u:Value}{k p:Value->T OB->Nat->Q}(hp:Pure P pl X f args u)(h:Ag nx0 H0 nx H)
 (hk:∀H' nx',Ag nx0 H0 nx' H'->nx<=nx'->(∀b l e,b<nx->cA H b l e->cA H' b l e)->aF P pl X (k u H' nx') nx0 H0 R):aF P pl X (bQ (.call f args false none H nx) k p) nx0 H0 R:=by
 obtain⟨H1,av,h1,h2⟩:=hp H nx;obtain⟨v,H2,nx2,h3,hR,h4⟩:=hk H1 av (h.trans h1) h1.1 (λb l e hb h=>h.ag h1 hb);refine⟨v,H2,nx2,h3,hR,?_⟩;show af (F P pl X (.call f args false none H nx)) (λr=>(match r.o with | .ret v=>k v r.H r.nx | .gv v=>p v r.H r.nx:Q).run (F P pl X)) none=_;rw[h2];exact h4
end
theorem bl:P.underlying 9=some .string:=by kernel_rfl
abbrev b8 (c:UInt8):Value:= .int .u8 (c.toNat:Int)
theorem drop_cons {α:Type}{l t:List α}{a:α}{i:Nat}(h:l.drop i=a::t):l[i]? = some a/\i<l.length/\l.drop (i+1)=t:=by
 have hi:i<l.length:=by
  apply Classical.byContradiction;intro q;rw[List.drop_of_length_le (by omega)]at h;cases h
 rw[List.drop_eq_getElem_cons hi]at h;injection h with h1 h2
 exact⟨by rw[List.getElem?_eq_getElem hi,h1],hi,h2⟩
theorem drop_nil {α:Type}{l:List α}{i:Nat}(h:l.drop i=[])(hi:i<=l.length):i=l.length:=by
 have:=congrArg List.length h;simp at this;omega
def cL (c:UInt8):Bool:=decide (97<=c.toNat)&&decide (c.toNat<=122)
def cW (c:UInt8):Bool:=decide (65<=c.toNat)&&decide (c.toNat<=90)
def ck (c:UInt8):Bool:=decide (48<=c.toNat)&&decide (c.toNat<=57)
def kf (c:UInt8):Bool:=cL c||(cW c||(ck c||(decide (c.toNat=95)||decide (c.toNat=39))))
def nq:List (List UInt8):=[[97,110,100],[97,110,100,97,108,115,111],[99,97,115,101],[100,97,116,97,116,121,112,101],[100,105,118],[101,108,115,101],[101,110,100],[101,120,99,101,112,116,105,111,110],[102,110],[102,117,110],[104,97,110,100,108,101],[105,102],[105,110],[105,116,111,115],[108,101,116],[109,111,100],[110,111,116],[111,102],[111,114,100],[111,114,101,108,115,101],[114,97,105,115,101],[114,101,102],[115,105,122,101],[115,116,114],[116,104,101,110],[118,97,108]]
def bC:List (List UInt8):=[[45,62],[61,62],[58,58],[58,61],[60,61],[62,61],[60,62],[61],[60],[62],[43],[45],[42],[94],[33],[126],[40],[41],[44],[59],[124],[95]]
def cX:List (List UInt8):=[[126],[33],[110,111,116],[114,101,102],[115,105,122,101],[115,116,114],[111,114,100],[105,116,111,115]]
def vk:List UInt8->Bool
 | []=>false
 | c::_=>cW c
def kh (s:List UInt8):Int:=if(vk s||(decide (s=[116,114,117,101])||(decide (s=[102,97,108,115,101])||decide (s=[110,105,108]))))=true then 4 else if nq.contains s=true then 6 else 3
def isWord:List UInt8->Bool
 | []=>false
 | c::r=>(cL c||cW c)&&r.all kf
def isVar:List UInt8->Bool
 | a::b::r=>decide (a.toNat=39)&&(cL b&&r.all λc=> !decide (c.toNat=39)&&kf c)
 | _=>false
structure Tok where
 k:Int
 s:List UInt8
 n:Int
 at_:Int
abbrev Tok.c (t:Tok):List Value:=[i64 t.k,au t.s,i64 t.n,i64 t.at_]
abbrev Tok.v (t:Tok):Value:= .agg ⟨t.c⟩
def aV (t:Tok):Bool:=
 if t.k=0 then decide (t.s=[])&&decide (t.n=0)
 else if t.k=1 then decide (t.s=[])&&(decide (0<=t.n)&&decide (t.n<=4611686018427387903))
 else if t.k=2 then decide (t.n=0)
 else if t.k=7 then decide (t.n=0)&&bC.contains t.s
 else if t.k=5 then isVar t.s&&decide (t.n=0)
 else if t.k=3\/t.k=4\/t.k=6 then isWord t.s&&(decide (t.n=0)&&decide (kh t.s=t.k))
 else false
def aC:List (List (List UInt8)):=[[[111,114,101,108,115,101]],[[97,110,100,97,108,115,111]],[[58,61]],[[61],[60,62],[60],[60,61],[62],[62,61]],[[58,58]],[[43],[45],[94]],[[42],[100,105,118],[109,111,100]]]
abbrev lvl (l:List (List UInt8)):Value:=aM 1 (l.map au)
def iM:List (Nat×List Value):=[(0,bC.map au),(1,nq.map au),(2,cX.map au),(3,aC.map lvl)]
def dY (nx0:Nat)(H0:T OB):Prop:=4<=nx0/\∀x∈iM,qV H0 x.1 x.2
theorem dY.ag {nx0 nx:Nat}{H0 H:T OB}(h:dY nx0 H0)(hA:Ag nx0 H0 nx H):dY nx H:=⟨by have:=h.1;have:=hA.1;omega,λx hx=>(h.2 x hx).ag hA (by
 have h7:=h.1;simp only[iM,List.mem_cons,List.not_mem_nil,or_false]at hx;rcases hx with rfl | rfl | rfl | rfl<;>(show _<nx0;omega))⟩
theorem dY.P7 {nx0:Nat}{H0:T OB}(h:dY nx0 H0):qV H0 0 (bC.map au):=h.2 (0,bC.map au) (by simp[iM])
theorem dY.keys {nx0:Nat}{H0:T OB}(h:dY nx0 H0):qV H0 1 (nq.map au):=h.2 (1,nq.map au) (by simp[iM])
theorem dY.levels {nx0:Nat}{H0:T OB}(h:dY nx0 H0):qV H0 3 (aC.map lvl):=h.2 (3,aC.map lvl) (by simp[iM])
theorem dY.words {nx0:Nat}{H0:T OB}(h:dY nx0 H0):qV H0 2 (cX.map au):=h.2 (2,cX.map au) (by simp[iM])
abbrev X0:Ext:=λf args=>bif Nat.beq f 7 then(match args with | []=>some (.bool true) | _=>none)else none
abbrev P0 (f:FuncId)(args:List Value)(v:Value):Prop:=Pure P pl X0 f args v
theorem Aq (c:UInt8):P0 39 [b8 c] (.bool (cL c)):=Pure.of rfl λH nx=>by
 rw[ZI];simp only[ab];unfold cL;refine Wq.ite (λh=> ?_) (λh=> ?_)
 . refine Wq.gF ?_ (.refl _ _);rw[show decide (97<=c.toNat)=true from by simp;omega,Bool.true_and];congr 1;rw[decide_eq_decide];omega
 . refine Wq.gF ?_ (.refl _ _);rw[show decide (97<=c.toNat)=false from by simp;omega];rfl
theorem EW (c:UInt8):P0 40 [b8 c] (.bool (cW c)):=Pure.of rfl λH nx=>by
 rw[ZJ];simp only[ab];unfold cW;refine Wq.ite (λh=> ?_) (λh=> ?_)
 . refine Wq.gF ?_ (.refl _ _);rw[show decide (65<=c.toNat)=true from by simp;omega,Bool.true_and];congr 1;rw[decide_eq_decide];omega
 . refine Wq.gF ?_ (.refl _ _);rw[show decide (65<=c.toNat)=false from by simp;omega];rfl
theorem EX (c:UInt8):P0 36 [b8 c] (.bool (ck c)):=Pure.of rfl λH nx=>by
 rw[ZF];simp only[ab];unfold ck;refine Wq.ite (λh=> ?_) (λh=> ?_)
 . refine Wq.gF ?_ (.refl _ _);rw[show decide (48<=c.toNat)=true from by simp;omega,Bool.true_and];congr 1;rw[decide_eq_decide];omega
 . refine Wq.gF ?_ (.refl _ _);rw[show decide (48<=c.toNat)=false from by simp;omega];rfl
theorem EY (c:UInt8):P0 43 [b8 c] (.bool (kf c)):=Pure.of rfl λH nx=>by
 rw[ZM];unfold kf;refine Wq.call (Aq c) (.refl _ _) λH1 av hA1=> ?_;simp only[ab];cases cL c with
 | true=>exact Wq.ret hA1
 | false=>
   simp only[ab,Bool.false_or];refine Wq.call (EW c) hA1 λH2 nx2 hA2=> ?_;simp only[ab];cases cW c with
   | true=>exact Wq.ret hA2
   | false=>
     simp only[ab,Bool.false_or];refine Wq.call (EX c) hA2 λH3 nx3 hA3=> ?_;simp only[ab];cases ck c with
     | true=>exact Wq.ret hA3
     | false=>
       simp only[ab,Bool.false_or];refine Wq.ite (λh=> ?_) (λh=> ?_)
       . refine Wq.gF ?_ hA3;rw[show decide (c.toNat=95)=true from by simp;omega];rfl
       . refine Wq.gF ?_ hA3;rw[show decide (c.toNat=95)=false from by simp;omega,Bool.false_or];congr 1;rw[decide_eq_decide];omega
theorem JH {nx0:Nat}{H0:T OB}(b:Nat)(l:List (List UInt8))(s:List UInt8)(hb:qV H0 b (l.map au))(hbx:b<nx0)(hl:l.length<1000000)(cp:Nat):∀(r:List (List UInt8)) (i:Nat) (H:T OB) (nx:Nat),l.drop i=r->i<=l.length->Ag nx0 H0 nx H->
 Wq P pl X0 (.jump (EC (au s) (.slice (some ⟨b,0,none⟩) l.length cp) (i64 (l.length:Int)) (i64 (i:Int)) H nx)) nx0 H0 (.bool (r.contains s)):=by
 intro r
 induction r with
 | nil=>
   intro i H nx hd hi hA;have hil:=drop_nil hd hi;refine Wq.jmp (P2 ..) (λ_=>rfl) ?_;simp only[ab,hil,aA];exact Wq.ret hA
 | cons x r ih=>
   intro i H nx hd hi hA;obtain⟨hg,hlt,hd'⟩:=drop_cons hd;have hg':(l.map au)[0+i*1]? = some (au x):=by simp[hg]
   refine Wq.jmp (P2 ..) (λ_=>rfl) ?_;simp only[ab,aE hlt,IG hlt,qe (hb.ag hA hbx) nm hg',ao (show i<9223372036854775807 by omega)];refine Wq.ite (λh=> ?_) (λh=> ?_)
   . exact Wq.gF (by have:x=s:=by simpa using h
                     subst this;simp) hA
   . have hne:x≠s:=λq=>h (by rw[q]);have:((x::r).contains s)=r.contains s:=by rw[List.contains_cons,show(s == x)=false from by simp;exact λq=>hne q.symm,Bool.false_or]
     rw[this];exact ih (i+1) H nx hd' (by omega) hA
def PT (f:FuncId)(args:List Value)(v:Value):Prop:=∀H nx,dY nx H->∃H' nx',Ag nx H nx' H'/\F P pl X0 (.call f args false none H nx)=some ⟨.ret v,false,H',nx'⟩
theorem PT.of {f:FuncId}{args:List Value}{v:Value}(hx:X0 f args=none)(h:∀H nx,dY nx H->Wq P pl X0 (aI P pl (.call f args false none H nx)) nx H v):PT f args v:=λH nx hT=>by
 obtain⟨_,H',nx',h1,⟨_,rfl,rfl⟩,h2⟩:=h H nx hT;refine⟨H',nx',h1,?_⟩;rw[p5];show @Option.rec Value (λ_=>Option Rt) _ (λv=>some ⟨.ret v,false,H,nx⟩) (X0 f args)=_;rw[hx];exact h2
theorem Wq.qK {nx0:Nat}{H0:T OB}{nx:Nat}{H:T OB}{R:Go.Ev.Out->T OB->Nat->Prop}{f:FuncId}{args:List Value}{u:Value}{k p:Value->T OB->Nat->Q}(hT:dY nx0 H0)(hp:PT f args u)(h:Ag nx0 H0 nx H)
 (hk:∀H' nx',Ag nx0 H0 nx' H'->aF P pl X0 (k u H' nx') nx0 H0 R):aF P pl X0 (bQ (.call f args false none H nx) k p) nx0 H0 R:=by
 obtain⟨H1,av,h1,h2⟩:=hp H nx (hT.ag h);obtain⟨v,H2,nx2,h3,hR,h4⟩:=hk H1 av (h.trans h1);refine⟨v,H2,nx2,h3,hR,?_⟩;show af (F P pl X0 (.call f args false none H nx)) (λr=>(match r.o with | .ret v=>k v r.H r.nx | .gv v=>p v r.H r.nx:Q).run (F P pl X0)) none=_;rw[h2];exact h4
theorem VS (H:T OB):bA P H 103 (some (.pointer (some ⟨0,0,none⟩))) (some none) (some none) (some none)=some (.slice (some ⟨0,0,none⟩) 22 22):=mj (len:=22) (e:=9) (by kernel_rfl) mX (by omega) (by omega)
theorem S1 (H:T OB):bA P H 122 (some (.pointer (some ⟨1,0,none⟩))) (some none) (some none) (some none)=some (.slice (some ⟨1,0,none⟩) 26 26):=mj (len:=26) (e:=9) (by kernel_rfl) mX (by omega) (by omega)
theorem Gy {nx0:Nat}{H0:T OB}{nx:Nat}{H:T OB}(hT:dY nx0 H0)(s:List UInt8)(hA:Ag nx0 H0 nx H):Wq P pl X0 (aI P pl (.call 44 [.slice (some ⟨1,0,none⟩) 26 26,au s] false none H nx)) nx0 H0 (.bool (nq.contains s)):=by
 rw[Y8];simp only[ab];exact JH 1 nq s hT.keys (by have:=hT.1;omega) (by decide) 26 nq 0 H nx rfl (Nat.zero_le _) hA
theorem B4 {nx0:Nat}{H0:T OB}{nx:Nat}{H:T OB}(hT:dY nx0 H0)(s:List UInt8)(hA:Ag nx0 H0 nx H):Wq P pl X0 (aI P pl (.call 44 [.slice (some ⟨0,0,none⟩) 22 22,au s] false none H nx)) nx0 H0 (.bool (bC.contains s)):=by
 rw[Y8];simp only[ab];exact JH 0 bC s hT.P7 (by have:=hT.1;omega) (by decide) 22 bC 0 H nx rfl (Nat.zero_le _) hA
theorem P8 (c:UInt8)(r:List UInt8):PT 42 [au (c::r)] (i64 (kh (c::r))):=PT.of rfl λH nx hT=>by
 rw[ZL];have hix:=bD (P:=P) bl (l:=c::r) (i:=0) (c:=c) rfl .i64;rw[show((0:Nat):Int)=0 from rfl]at hix;have L6:∀(b:Bool) H1 av,Ag nx H av H1->b=(vk (c::r)||(decide (c::r=[116,114,117,101])||(decide (c::r=[102,97,108,115,101])||decide (c::r=[110,105,108]))))->Wq P pl X0 (.jump (vd (au (c::r)) b H1 av)) nx H (i64 (kh (c::r))):=by
  intro b H1 av hA1 hb;refine Wq.jmp (VA ..) (λ_=>rfl) ?_;unfold kh;rw[<- hb];refine Wq.bK (λh=> ?_) (λh=> ?_)
  . rw[if_pos h];exact Wq.ret hA1
  . rw[if_neg (by rw[h];decide)];simp only[ab,S1];refine Wq.Iz rfl (Gy hT _ hA1) λH2 nx2 hA2=> ?_;simp only[ab];refine Wq.bK (λh2=> ?_) (λh2=> ?_)
    . rw[if_pos h2];exact Wq.ret hA2
    . rw[if_neg (by rw[h2];decide)];exact Wq.ret hA2
 have hb:∀l:List UInt8,decide ((⟨⟨c::r⟩⟩:ByteArray)=⟨⟨l⟩⟩)=decide (c::r=l):=λl=>by rw[decide_eq_decide];simp
 simp only[ab,hix];refine Wq.call (EW c) (.refl _ _) λH1 av hA1=> ?_;simp only[ab,hb];refine Wq.bK (λh=>L6 _ _ _ hA1 (by show true=(cW c||_);rw[h];rfl)) (λh0=> ?_);refine Wq.bK (λh=>L6 _ _ _ hA1 (by show true=(cW c||_);rw[h0,h];rfl)) (λh1=> ?_);refine Wq.bK (λh=>L6 _ _ _ hA1 (by show true=(cW c||_);rw[h0,h1,h];rfl)) (λh2=> ?_);exact L6 _ _ _ hA1 (by show _=(cW c||_);rw[h0,h1,h2];rfl)
section
variable {nx0:Nat}{H0:T OB}
theorem MX (t:Tok)(hl:t.s.length<9223372036854775807):∀(r:List UInt8) (i:Nat) (H:T OB) (nx:Nat),t.s.drop i=r->i<=t.s.length->Ag nx0 H0 nx H->
 Wq P pl X0 (.jump (w9 (aa t.v) (i64 (i:Int)) H nx)) nx0 H0 (.bool ((r.all λc=> !decide (c.toNat=39)&&kf c)&&decide (t.n=0))):=by
 intro r
 induction r with
 | nil=>
   intro i H nx hd hi hA;have hil:=drop_nil hd hi;refine Wq.jmp (Jd ..) (λ_=>rfl) ?_;simp only[ab,aT _ bl,aY,hil,aA];exact Wq.ret hA
 | cons c r ih=>
   intro i H nx hd hi hA;obtain⟨hg,hlt,hd'⟩:=drop_cons hd;have L36:∀(b:Bool) H1 av,Ag nx0 H0 av H1->b= !(!decide (c.toNat=39)&&kf c)->Wq P pl X0 (.jump (w_ (aa t.v) (i64 (i:Int)) b H1 av)) nx0 H0 (.bool (((c::r).all λc=> !decide (c.toNat=39)&&kf c)&&decide (t.n=0))):=by
    intro b H1 av hA1 hb;refine Wq.jmp (RX ..) (λ_=>rfl) ?_;rw[List.all_cons];refine Wq.bK (λh=> ?_) (λh=> ?_)
    . rw[h]at hb;have:(!decide (c.toNat=39)&&kf c)=false:=by rw[<- Bool.not_inj_iff,<- hb];rfl
      exact Wq.gF (by rw[this];rfl) hA1
    . rw[h]at hb;have:(!decide (c.toNat=39)&&kf c)=true:=by rw[<- Bool.not_inj_iff,<- hb];rfl
      rw[this,Bool.true_and];simp only[ab,ao (show i<9223372036854775807 by omega)];exact ih (i+1) H1 av hd' (by omega) hA1
   refine Wq.jmp (Jd ..) (λ_=>rfl) ?_;simp only[ab,aT _ bl,aY,aE hlt,bD bl hg];have e39:decide ((c.toNat:Int)=39)=decide (c.toNat=39):=by rw[decide_eq_decide];omega
   rw[e39];refine Wq.bK (λh=>L36 _ _ _ hA (by rw[h];rfl)) (λh=> ?_);refine Wq.call (EY c) hA λH1 av hA1=> ?_;simp only[ab];exact L36 _ _ _ hA1 (by rw[h];rfl)
theorem MY (hT:dY nx0 H0)(t:Tok)(a:UInt8)(s:List UInt8)(hs:t.s=a::s)(hl:t.s.length<9223372036854775807):∀(r:List UInt8) (i:Nat) (H:T OB) (nx:Nat),t.s.drop i=r->i<=t.s.length->Ag nx0 H0 nx H->
 Wq P pl X0 (.jump (xe (aa t.v) (i64 (i:Int)) H nx)) nx0 H0 (.bool (r.all kf&&(decide (t.n=0)&&decide (kh t.s=t.k)))):=by
 intro r
 induction r with
 | nil=>
   intro i H nx hd hi hA;have hil:=drop_nil hd hi;refine Wq.jmp (Jf ..) (λ_=>rfl) ?_;simp only[ab,aT _ bl,aY,hil,aA];rw[List.all_nil,Bool.true_and];have p98:=P8 a s;rw[<- hs]at p98;refine Wq.bK (λh=> ?_) (λh=> ?_)
   . rw[h,Bool.true_and];refine Wq.qK hT p98 hA λH1 av hA1=> ?_;simp only[ab,Bool.and_true];exact Wq.ret hA1
   . rw[h,Bool.false_and];exact Wq.ret hA
 | cons c r ih=>
   intro i H nx hd hi hA;obtain⟨hg,hlt,hd'⟩:=drop_cons hd;refine Wq.jmp (Jf ..) (λ_=>rfl) ?_;simp only[ab,aT _ bl,aY,aE hlt,bD bl hg];refine Wq.call (EY c) hA λH1 av hA1=> ?_;simp only[ab];rw[List.all_cons];cases kf c with
   | false=>exact Wq.ret hA1
   | true=>
     simp only[ab,ao (show i<9223372036854775807 by omega),Bool.true_and];exact ih (i+1) H1 av hd' (by omega) hA1
theorem JI (t:Tok)(hl:t.s.length<9223372036854775807):PT 24 [t.v] (.bool (aV t)):=PT.of rfl λH nx hT=>by
 rw[Zu];refine Wq.iZ (.refl _ _) λhA=> ?_;have hE:decide ((⟨⟨t.s⟩⟩:ByteArray)=⟨⟨[]⟩⟩)=decide (t.s=[]):=by rw[decide_eq_decide];simp
 simp only[ab,hE];unfold aV;refine Wq.ite (λh=> ?_) (λh0=> ?_)
 . rw[if_pos h];refine Wq.bK (λh=> ?_) (λh=> ?_)
   . rw[h,Bool.true_and];exact Wq.ret hA
   . rw[h,Bool.false_and];exact Wq.ret hA
 rw[if_neg h0];refine Wq.ite (λh=> ?_) (λh1=> ?_)
 . rw[if_pos h];refine Wq.bK (λh=> ?_) (λh=> ?_)
   . rw[h,Bool.true_and];refine Wq.bK (λh=> ?_) (λh=> ?_)
     . rw[h,Bool.true_and];exact Wq.ret hA
     . rw[h,Bool.false_and];exact Wq.ret hA
   . rw[h,Bool.false_and];exact Wq.ret hA
 rw[if_neg h1];refine Wq.ite (λh=> ?_) (λh2=> ?_)
 . rw[if_pos h];exact Wq.ret hA
 rw[if_neg h2];refine Wq.ite (λh=> ?_) (λh7=> ?_)
 . rw[if_pos h];refine Wq.bK (λh=> ?_) (λh=> ?_)
   . rw[h,Bool.true_and];simp only[ab,VS];refine Wq.Iz rfl (B4 hT _ hA) λH2 nx2 hA2=> ?_;simp only[ab];exact Wq.ret hA2
   . rw[h,Bool.false_and];exact Wq.ret hA
 rw[if_neg h7];refine Wq.ite (λh=> ?_) (λh5=> ?_)
 . rw[if_pos h];have L26:∀(b:Bool) H1 av,Ag nx H av H1->(b=true->isVar t.s=false)->(b=false->∃c d r,t.s=c::d::r/\isVar t.s=r.all λc=> !decide (c.toNat=39)&&kf c)->Wq P pl X0 (.jump (ti (aa t.v) b H1 av)) nx H (.bool (isVar t.s&&decide (t.n=0))):=by
    intro b H1 av hA1 hb1 hb2;refine Wq.jmp (RW ..) (λ_=>rfl) ?_;refine Wq.bK (λh=> ?_) (λh=> ?_)
    . rw[hb1 h];exact Wq.ret hA1
    . obtain⟨c,d,r,hs,hv⟩:=hb2 h;rw[hv];exact MX t hl r 2 H1 av (by rw[hs];rfl) (by rw[hs];simp) hA1
   simp only[ab,aT _ bl,aY];refine Wq.ite (λhl2=>L26 _ _ _ hA (λ_=> ?_) (λq=>by cases q)) (λhl2=> ?_)
   . match hs:t.s with
     | []=>rfl
     | [a]=>rfl
     | a::b::r=>rw[hs]at hl2;simp at hl2;omega
   obtain⟨a,b,r,hs⟩:∃a b r,t.s=a::b::r:=by
    match hs:t.s with
    | []=>rw[hs]at hl2;simp at hl2
    | [a]=>rw[hs]at hl2;simp at hl2
    | a::b::r=>exact⟨a,b,r,rfl⟩
   have i0:=bD (P:=P) bl (l:=t.s) (i:=0) (c:=a) (by rw[hs];rfl) .i64;have i1:=bD (P:=P) bl (l:=t.s) (i:=1) (c:=b) (by rw[hs];rfl) .i64;rw[show((0:Nat):Int)=0 from rfl]at i0;rw[show((1:Nat):Int)=1 from rfl]at i1;have hv:isVar t.s=(decide (a.toNat=39)&&(cL b&&r.all λc=> !decide (c.toNat=39)&&kf c)):=by rw[hs];rfl
   have e39:decide ((a.toNat:Int)=39)=decide (a.toNat=39):=by rw[decide_eq_decide];omega
   simp only[ab,i0,i1,e39];refine Wq.bK (λh=>L26 _ _ _ hA (λ_=> ?_) (λq=>by cases q)) (λh=> ?_)
   . rw[hv,show decide (a.toNat=39)=false from by rw[<- Bool.not_inj_iff,h];rfl];rfl
   have ha:decide (a.toNat=39)=true:=by rw[<- Bool.not_inj_iff,h];rfl
   refine Wq.call (Aq b) hA λH1 av hA1=> ?_;simp only[ab];refine L26 _ _ _ hA1 (λq=> ?_) (λq=>⟨a,b,r,hs,?_⟩)
   . rw[hv,show cL b=false from by rw[<- Bool.not_inj_iff,q];rfl];simp
   . rw[hv,ha,show cL b=true from by rw[<- Bool.not_inj_iff,q];rfl];rfl
 rw[if_neg h5];have L46:Wq P pl X0 (.jump (tj (aa t.v) true H (nx+1))) nx H (.bool (isWord t.s&&(decide (t.n=0)&&decide (kh t.s=t.k)))):=by
  refine Wq.jmp (Jc ..) (λ_=>rfl) ?_;cases hs:t.s with
  | nil=>
    have e1:decide ((⟨⟨t.s⟩⟩:ByteArray)=⟨⟨[]⟩⟩)=true:=by rw[hs];simp
    simp only[ab,e1];refine Wq.jmp (Je ..) (λ_=>rfl) ?_;exact Wq.ret hA
  | cons a r=>
    rw[<- hs];have i0:=bD (P:=P) bl (l:=a::r) (i:=0) (c:=a) rfl .i64;rw[show((0:Nat):Int)=0 from rfl]at i0;have hne:decide ((⟨⟨a::r⟩⟩:ByteArray)=⟨⟨[]⟩⟩)=false:=by simp
    have hw:isWord t.s=((cL a||cW a)&&r.all kf):=by rw[hs];rfl
    have L48:∀(b:Bool) H1 av,Ag nx H av H1->b= !(cL a||cW a)->Wq P pl X0 (.jump (tn (aa t.v) b H1 av)) nx H (.bool (isWord t.s&&(decide (t.n=0)&&decide (kh t.s=t.k)))):=by
     intro b H1 av hA1 hb;refine Wq.jmp (Je ..) (λ_=>rfl) ?_;rw[hw];refine Wq.bK (λh=> ?_) (λh=> ?_)
     . have:(cL a||cW a)=false:=by rw[<- Bool.not_inj_iff,<- hb,h];rfl
       exact Wq.gF (by rw[this];rfl) hA1
     . have h1:(cL a||cW a)=true:=by rw[<- Bool.not_inj_iff,<- hb,h];rfl
       rw[h1,Bool.true_and];exact MY hT t a r hs hl r 1 H1 av (by rw[hs];rfl) (by rw[hs];simp) hA1
    have e0:cC P 9 (some (au t.s)) (some (.int .i64 0))=some (.int .u8 (a.toNat:Int)):=by rw[hs];exact i0
    have e1:decide ((⟨⟨t.s⟩⟩:ByteArray)=⟨⟨[]⟩⟩)=false:=by rw[hs];exact hne
    simp only[ab,e0,e1];refine Wq.call (Aq a) hA λH1 av hA1=> ?_;simp only[ab];cases nh:cL a with
    | true=>
      simp only[ab];exact L48 false _ _ hA1 (by rw[nh];rfl)
    | false=>
      simp only[ab];refine Wq.call (EW a) hA1 λH2 nx2 hA2=> ?_;simp only[ab];exact L48 (!cW a) _ _ hA2 (by rw[nh];rfl)
 refine Wq.ite (λh3=> ?_) (λh3=> ?_)
 . rw[if_pos (Or.inl h3),show decide (t.k=3)=true from by simp[h3]];exact L46
 refine Wq.ite (λh4=> ?_) (λh4=> ?_)
 . rw[if_pos (Or.inr (Or.inl h4)),show decide (t.k=4)=true from by simp[h4]];exact L46
 by_cases h6:t.k=6
 . rw[if_pos (Or.inr (Or.inr h6)),show decide (t.k=6)=true from by simp[h6]];exact L46
 . rw[if_neg (by omega),show decide (t.k=6)=false from by simp[h6]];refine Wq.jmp (Jc ..) (λ_=>rfl) ?_;exact Wq.ret hA
end
inductive aB where
 | mk (k n:Int) (s:List UInt8) (l:List aB)
inductive aO where
 | mk (k:Int) (s:List UInt8) (l:List aO)
structure cS where
 s:List UInt8
 arg:List aO
structure Data where
 vars:List (List UInt8)
 s:List UInt8
 cons:List cS
mutual
inductive aq where
 | mk (k n:Int) (s:List UInt8) (l:List aq) (p:List aB) (d:List aG)
inductive aG where
 | mk (k:Int) (p:aB) (e:aq) (f:List Fn) (x:Data) (c:cS)
inductive Fn where
 | mk (s:List UInt8) (p:List aB) (b:aq)
end
def aB.k:aB->Int | .mk k _ _ _=>k
def aB.n:aB->Int | .mk _ n _ _=>n
def aB.s:aB->List UInt8 | .mk _ _ s _=>s
def aB.l:aB->List aB | .mk _ _ _ l=>l
def aO.k:aO->Int | .mk k _ _=>k
def aO.s:aO->List UInt8 | .mk _ s _=>s
def aO.l:aO->List aO | .mk _ _ l=>l
def aq.k:aq->Int | .mk k _ _ _ _ _=>k
def aq.n:aq->Int | .mk _ n _ _ _ _=>n
def aq.s:aq->List UInt8 | .mk _ _ s _ _ _=>s
def aq.l:aq->List aq | .mk _ _ _ l _ _=>l
def aq.p:aq->List aB | .mk _ _ _ _ p _=>p
def aq.d:aq->List aG | .mk _ _ _ _ _ d=>d
def aG.k:aG->Int | .mk k _ _ _ _ _=>k
def aG.p:aG->aB | .mk _ p _ _ _ _=>p
def aG.e:aG->aq | .mk _ _ e _ _ _=>e
def aG.f:aG->List Fn | .mk _ _ _ f _ _=>f
def aG.x:aG->Data | .mk _ _ _ _ x _=>x
def aG.c:aG->cS | .mk _ _ _ _ _ c=>c
def Fn.s:Fn->List UInt8 | .mk s _ _=>s
def Fn.p:Fn->List aB | .mk _ p _=>p
def Fn.b:Fn->aq | .mk _ _ b=>b
mutual
def aB.cs:aB->List Value
 | .mk k n s l=>[i64 k,i64 n,au s,aM 4 (Ar l)]
def Ar:List aB->List Value
 | []=>[]
 | p::l=> .agg ⟨p.cs⟩::Ar l
end
mutual
def aO.cs:aO->List Value
 | .mk k s l=>[i64 k,au s,aM 3 (JJ l)]
def JJ:List aO->List Value
 | []=>[]
 | p::l=> .agg ⟨p.cs⟩::JJ l
end
def aB.v (p:aB):Value:= .agg ⟨p.cs⟩
def aO.v (p:aO):Value:= .agg ⟨p.cs⟩
abbrev bL (l:List aB):Value:=aM 4 (l.map aB.v)
abbrev fu (l:List aO):Value:=aM 3 (l.map aO.v)
abbrev ml (l:List (List UInt8)):Value:=aM 1 (l.map au)
def cS.cs (c:cS):List Value:=[au c.s,fu c.arg]
def cS.v (c:cS):Value:= .agg ⟨c.cs⟩
abbrev oT (l:List cS):Value:=aM 2 (l.map cS.v)
def Data.cs (x:Data):List Value:=[ml x.vars,au x.s,oT x.cons]
def Data.v (x:Data):Value:= .agg ⟨x.cs⟩
mutual
def aq.cs:aq->List Value
 | .mk k n s l p d=>[i64 k,i64 n,au s,aM 6 (As l),bL p,aM 17 (At d)]
def aG.cs:aG->List Value
 | .mk k p e f x c=>i64 k::(p.cs++(e.cs++(aM 8 (JK f)::(x.cs++c.cs))))
def Fn.cs:Fn->List Value
 | .mk s p b=>au s::bL p::b.cs
def As:List aq->List Value
 | []=>[]
 | p::l=> .agg ⟨p.cs⟩::As l
def At:List aG->List Value
 | []=>[]
 | p::l=> .agg ⟨p.cs⟩::At l
def JK:List Fn->List Value
 | []=>[]
 | p::l=> .agg ⟨p.cs⟩::JK l
end
def aq.v (p:aq):Value:= .agg ⟨p.cs⟩
def aG.v (p:aG):Value:= .agg ⟨p.cs⟩
def Fn.v (p:Fn):Value:= .agg ⟨p.cs⟩
abbrev eB (l:List aq):Value:=aM 6 (l.map aq.v)
abbrev ca (l:List aG):Value:=aM 17 (l.map aG.v)
abbrev tB (l:List Fn):Value:=aM 8 (l.map Fn.v)
theorem JL (l:List aB):Ar l=l.map aB.v:=by
 induction l with
 | nil=>rw[Ar];rfl
 | cons s l ih=>rw[Ar,ih];rfl
theorem MZ (l:List aO):JJ l=l.map aO.v:=by
 induction l with
 | nil=>rw[JJ];rfl
 | cons s l ih=>rw[JJ,ih];rfl
theorem JM (l:List aq):As l=l.map aq.v:=by
 induction l with
 | nil=>rw[As];rfl
 | cons s l ih=>rw[As,ih];rfl
theorem JN (l:List aG):At l=l.map aG.v:=by
 induction l with
 | nil=>rw[At];rfl
 | cons s l ih=>rw[At,ih];rfl
theorem M0 (l:List Fn):JK l=l.map Fn.v:=by
 induction l with
 | nil=>rw[JK];rfl
 | cons s l ih=>rw[JK,ih];rfl
theorem aB.fe (p:aB):p.cs=[i64 p.k,i64 p.n,au p.s,bL p.l]:=by cases p;rw[aB.cs,JL];rfl
theorem aO.fe (p:aO):p.cs=[i64 p.k,au p.s,fu p.l]:=by cases p;rw[aO.cs,MZ];rfl
theorem aq.fe (p:aq):p.cs=[i64 p.k,i64 p.n,au p.s,eB p.l,bL p.p,ca p.d]:=by cases p;rw[aq.cs,JM,JN];rfl
theorem Fn.fe (p:Fn):p.cs=[au p.s,bL p.p,i64 p.b.k,i64 p.b.n,au p.b.s,eB p.b.l,bL p.b.p,ca p.b.d]:=by cases p;rw[Fn.cs,aq.fe];rfl
theorem aG.fe (p:aG):p.cs=[i64 p.k,i64 p.p.k,i64 p.p.n,au p.p.s,bL p.p.l,i64 p.e.k,i64 p.e.n,au p.e.s,eB p.e.l,bL p.e.p,ca p.e.d,tB p.f,ml p.x.vars,au p.x.s,oT p.x.cons,au p.c.s,fu p.c.arg]:=by cases p;rw[aG.cs,aq.fe,aB.fe,M0];rfl
theorem aB.aW (p:aB):p.v= .agg ⟨[i64 p.k,i64 p.n,au p.s,bL p.l]⟩:=by rw[aB.v,aB.fe]
theorem aO.aW (p:aO):p.v= .agg ⟨[i64 p.k,au p.s,fu p.l]⟩:=by rw[aO.v,aO.fe]
theorem aq.aW (p:aq):p.v= .agg ⟨[i64 p.k,i64 p.n,au p.s,eB p.l,bL p.p,ca p.d]⟩:=by rw[aq.v,aq.fe]
theorem Fn.aW (p:Fn):p.v= .agg ⟨[au p.s,bL p.p,i64 p.b.k,i64 p.b.n,au p.b.s,eB p.b.l,bL p.b.p,ca p.b.d]⟩:=by rw[Fn.v,Fn.fe]
theorem cS.aW (p:cS):p.v= .agg ⟨[au p.s,fu p.arg]⟩:=rfl
theorem Data.aW (p:Data):p.v= .agg ⟨[ml p.vars,au p.s,oT p.cons]⟩:=rfl
theorem aG.aW (p:aG):p.v= .agg ⟨[i64 p.k,i64 p.p.k,i64 p.p.n,au p.p.s,bL p.p.l,i64 p.e.k,i64 p.e.n,au p.e.s,eB p.e.l,bL p.e.p,ca p.e.d,tB p.f,ml p.x.vars,au p.x.s,oT p.x.cons,au p.c.s,fu p.c.arg]⟩:=by rw[aG.v,aG.fe]
theorem aB.ind {p:aB->Prop}(h:∀t:aB,(∀c,c∈t.l->p c)->p t)(t:aB):p t:=
 aB.rec (motive_1:=p) (motive_2:=λl=>∀c,c∈l->p c) (λk n s l h1=>h _ h1) (λc hc=>nomatch hc) (λa l h1 h2 c hc=>(List.mem_cons.1 hc).elim (λe=>e ▸ h1) (h2 c)) t
theorem aO.ind {p:aO->Prop}(h:∀t:aO,(∀c,c∈t.l->p c)->p t)(t:aO):p t:=
 aO.rec (motive_1:=p) (motive_2:=λl=>∀c,c∈l->p c) (λk s l h1=>h _ h1) (λc hc=>nomatch hc) (λa l h1 h2 c hc=>(List.mem_cons.1 hc).elim (λe=>e ▸ h1) (h2 c)) t
theorem aq.ind {p:aq->Prop}{q:aG->Prop}(h:∀t:aq,(∀c,c∈t.l->p c)->(∀c,c∈t.d->q c)->p t)(h':∀t:aG,p t.e->(∀f,f∈t.f->p f.b)->q t)(t:aq):p t:=
 aq.rec (motive_1:=p) (motive_2:=q) (motive_3:=λf=>p f.b) (motive_4:=λl=>∀c,c∈l->p c) (motive_5:=λl=>∀c,c∈l->q c) (motive_6:=λl=>∀f,f∈l->p f.b)
  (λk n s l pt d h1 h2=>h _ h1 h2) (λk pt e f x c h1 h2=>h' _ h1 h2) (λs pt b h1=>h1)
  (λc hc=>nomatch hc) (λa l h1 h2 c hc=>(List.mem_cons.1 hc).elim (λe=>e ▸ h1) (h2 c))
  (λc hc=>nomatch hc) (λa l h1 h2 c hc=>(List.mem_cons.1 hc).elim (λe=>e ▸ h1) (h2 c))
  (λc hc=>nomatch hc) (λa l h1 h2 c hc=>(List.mem_cons.1 hc).elim (λe=>e ▸ h1) (h2 c)) t
theorem aG.ind {p:aq->Prop}{q:aG->Prop}(h:∀t:aq,(∀c,c∈t.l->p c)->(∀c,c∈t.d->q c)->p t)(h':∀t:aG,p t.e->(∀f,f∈t.f->p f.b)->q t)(t:aG):q t:=h' t (aq.ind h h' _) λf _=>aq.ind h h' _
abbrev dQ:Nat:=1125899906842624
abbrev gi (s:List UInt8):Prop:=s.length<140737488355328
abbrev rg (n:Int):Prop:= -9223372036854775808<=n/\n<9223372036854775808
mutual
def aB.ok:aB->Prop
 | .mk k n s l=>rg n/\gi s/\l.length<dQ/\tC l
def tC:List aB->Prop
 | []=>True
 | p::l=>p.ok/\tC l
end
mutual
def aO.ok:aO->Prop
 | .mk k s l=>gi s/\l.length<dQ/\Au l
def Au:List aO->Prop
 | []=>True
 | p::l=>p.ok/\Au l
end
def cS.ok (c:cS):Prop:=gi c.s/\c.arg.length<dQ/\∀t,t∈c.arg->t.ok
def Data.ok (x:Data):Prop:=(x.vars.length<dQ/\∀s,s∈x.vars->gi s)/\gi x.s/\x.cons.length<dQ/\∀c,c∈x.cons->c.ok
mutual
def aq.ok:aq->Prop
 | .mk k n s l p d=>rg n/\gi s/\(l.length<dQ/\tD l)/\(p.length<dQ/\∀q,q∈p->q.ok)/\d.length<dQ/\tE d
def aG.ok:aG->Prop
 | .mk k p e f x c=>p.ok/\e.ok/\(f.length<dQ/\Av f)/\x.ok/\c.ok
def Fn.ok:Fn->Prop
 | .mk s p b=>gi s/\(p.length<dQ/\∀q,q∈p->q.ok)/\b.ok
def tD:List aq->Prop
 | []=>True
 | p::l=>p.ok/\tD l
def tE:List aG->Prop
 | []=>True
 | p::l=>p.ok/\tE l
def Av:List Fn->Prop
 | []=>True
 | p::l=>p.ok/\Av l
end
theorem B5 (l:List aB):tC l↔∀c,c∈l->c.ok:=by
 induction l with
 | nil=>simp[tC]
 | cons s l ih=>simp[tC,ih]
theorem Gz (l:List aO):Au l↔∀c,c∈l->c.ok:=by
 induction l with
 | nil=>simp[Au]
 | cons s l ih=>simp[Au,ih]
theorem B6 (l:List aq):tD l↔∀c,c∈l->c.ok:=by
 induction l with
 | nil=>simp[tD]
 | cons s l ih=>simp[tD,ih]
theorem B7 (l:List aG):tE l↔∀c,c∈l->c.ok:=by
 induction l with
 | nil=>simp[tE]
 | cons s l ih=>simp[tE,ih]
theorem GA (l:List Fn):Av l↔∀c,c∈l->c.ok:=by
 induction l with
 | nil=>simp[Av]
 | cons s l ih=>simp[Av,ih]
theorem aB.bm (p:aB):p.ok↔rg p.n/\gi p.s/\p.l.length<dQ/\∀c,c∈p.l->c.ok:=by cases p;rw[aB.ok,B5];rfl
theorem aO.bm (p:aO):p.ok↔gi p.s/\p.l.length<dQ/\∀c,c∈p.l->c.ok:=by cases p;rw[aO.ok,Gz];rfl
theorem aq.bm (p:aq):p.ok↔rg p.n/\gi p.s/\(p.l.length<dQ/\∀c,c∈p.l->c.ok)/\(p.p.length<dQ/\∀c,c∈p.p->c.ok)/\p.d.length<dQ/\∀c,c∈p.d->c.ok:=by cases p;rw[aq.ok,B6,B7];rfl
theorem aG.bm (p:aG):p.ok↔p.p.ok/\p.e.ok/\(p.f.length<dQ/\∀c,c∈p.f->c.ok)/\p.x.ok/\p.c.ok:=by cases p;rw[aG.ok,GA];rfl
theorem Fn.bm (p:Fn):p.ok↔gi p.s/\(p.p.length<dQ/\∀c,c∈p.p->c.ok)/\p.b.ok:=by cases p;rw[Fn.ok];rfl
theorem JO (e:aq):ae P 44 (some (aa e.v)) 0=some (aa (i64 e.k)):=by rw[aq.aW];kernel_rfl
theorem JP (e:aq):ae P 44 (some (aa e.v)) 1=some (aa (i64 e.n)):=by rw[aq.aW];kernel_rfl
theorem JQ (e:aq):ae P 44 (some (aa e.v)) 2=some (aa (au e.s)):=by rw[aq.aW];kernel_rfl
theorem JR (e:aq):ae P 44 (some (aa e.v)) 3=some (aa (eB e.l)):=by rw[aq.aW];kernel_rfl
theorem JS (e:aq):ae P 44 (some (aa e.v)) 4=some (aa (bL e.p)):=by rw[aq.aW];kernel_rfl
theorem JT (e:aq):ae P 44 (some (aa e.v)) 5=some (aa (ca e.d)):=by rw[aq.aW];kernel_rfl
theorem VT (H:T OB)(e:aq):ai P H 44 (some (aa e.v))=some e.v:=by rw[aq.aW];kernel_rfl
theorem M1 (e:aq):e.v.cells.toList.length=6:=by rw[aq.aW];rfl
theorem M3 (e:aq):e.v.cells.toList.all aj=true:=by rw[aq.aW];rfl
theorem JU (e:aG):ae P 54 (some (aa e.v)) 0=some (aa (i64 e.k)):=by rw[aG.aW];kernel_rfl
theorem JV (e:aG):ae P 54 (some (aa e.v)) 1=some (aa (e.p.v)):=by rw[aG.aW];rw[aB.aW];kernel_rfl
theorem JW (e:aG):ae P 54 (some (aa e.v)) 2=some (aa (e.e.v)):=by rw[aG.aW];rw[aq.aW];kernel_rfl
theorem JX (e:aG):ae P 54 (some (aa e.v)) 3=some (aa (tB e.f)):=by rw[aG.aW];kernel_rfl
theorem JY (e:aG):ae P 54 (some (aa e.v)) 4=some (aa (e.x.v)):=by rw[aG.aW];rw[Data.aW];kernel_rfl
theorem JZ (e:aG):ae P 54 (some (aa e.v)) 5=some (aa (e.c.v)):=by rw[aG.aW];rw[cS.aW];kernel_rfl
theorem S2 (H:T OB)(e:aG):ai P H 54 (some (aa e.v))=some e.v:=by rw[aG.aW];kernel_rfl
theorem M4 (e:aG):e.v.cells.toList.length=17:=by rw[aG.aW];rfl
theorem M5 (e:aG):e.v.cells.toList.all aj=true:=by rw[aG.aW];rfl
theorem P9 (e:Fn):ae P 64 (some (aa e.v)) 0=some (aa (au e.s)):=by rw[Fn.aW];kernel_rfl
theorem P_ (e:Fn):ae P 64 (some (aa e.v)) 1=some (aa (bL e.p)):=by rw[Fn.aW];kernel_rfl
theorem Qa (e:Fn):ae P 64 (some (aa e.v)) 2=some (aa (e.b.v)):=by rw[Fn.aW];rw[aq.aW];kernel_rfl
theorem Yc (H:T OB)(e:Fn):ai P H 64 (some (aa e.v))=some e.v:=by rw[Fn.aW];kernel_rfl
theorem XL (e:Fn):e.v.cells.toList.length=8:=by rw[Fn.aW];rfl
theorem XM (e:Fn):e.v.cells.toList.all aj=true:=by rw[Fn.aW];rfl
theorem EZ (e:Data):ae P 49 (some (aa e.v)) 0=some (aa (ml e.vars)):=by rw[Data.aW];kernel_rfl
theorem E0 (e:Data):ae P 49 (some (aa e.v)) 1=some (aa (au e.s)):=by rw[Data.aW];kernel_rfl
theorem E1 (e:Data):ae P 49 (some (aa e.v)) 2=some (aa (oT e.cons)):=by rw[Data.aW];kernel_rfl
theorem Qb (H:T OB)(e:Data):ai P H 49 (some (aa e.v))=some e.v:=by rw[Data.aW];kernel_rfl
theorem J0 (e:cS):ae P 52 (some (aa e.v)) 0=some (aa (au e.s)):=by rw[cS.aW];kernel_rfl
theorem J1 (e:cS):ae P 52 (some (aa e.v)) 1=some (aa (fu e.arg)):=by rw[cS.aW];kernel_rfl
theorem VU (H:T OB)(e:cS):ai P H 52 (some (aa e.v))=some e.v:=by rw[cS.aW];kernel_rfl
theorem VV (e:cS):e.v.cells.toList.length=2:=by rw[cS.aW];rfl
theorem VW (e:cS):e.v.cells.toList.all aj=true:=by rw[cS.aW];rfl
theorem J2 (e:aB):ae P 41 (some (aa e.v)) 0=some (aa (i64 e.k)):=by rw[aB.aW];kernel_rfl
theorem J3 (e:aB):ae P 41 (some (aa e.v)) 1=some (aa (i64 e.n)):=by rw[aB.aW];kernel_rfl
theorem J4 (e:aB):ae P 41 (some (aa e.v)) 2=some (aa (au e.s)):=by rw[aB.aW];kernel_rfl
theorem J5 (e:aB):ae P 41 (some (aa e.v)) 3=some (aa (bL e.l)):=by rw[aB.aW];kernel_rfl
theorem VX (H:T OB)(e:aB):ai P H 41 (some (aa e.v))=some e.v:=by rw[aB.aW];kernel_rfl
theorem GB (e:aB):e.v.cells.toList.length=4:=by rw[aB.aW];rfl
theorem GC (e:aB):e.v.cells.toList.all aj=true:=by rw[aB.aW];rfl
theorem J6 (e:aO):ae P 84 (some (aa e.v)) 0=some (aa (i64 e.k)):=by rw[aO.aW];kernel_rfl
theorem J7 (e:aO):ae P 84 (some (aa e.v)) 1=some (aa (au e.s)):=by rw[aO.aW];kernel_rfl
theorem J8 (e:aO):ae P 84 (some (aa e.v)) 2=some (aa (fu e.l)):=by rw[aO.aW];kernel_rfl
theorem VY (H:T OB)(e:aO):ai P H 84 (some (aa e.v))=some e.v:=by rw[aO.aW];kernel_rfl
theorem GD (e:aO):e.v.cells.toList.length=3:=by rw[aO.aW];rfl
theorem GF (e:aO):e.v.cells.toList.all aj=true:=by rw[aO.aW];rfl
theorem az:type_of% (And.intro @JO (And.intro @JP (And.intro @JQ (And.intro @JR (And.intro @JS (And.intro @JT (And.intro @VT (And.intro @JU (And.intro @JV (And.intro @JW (And.intro @JX (And.intro @JY (And.intro @JZ (And.intro @S2 (And.intro @P9 (And.intro @P_ (And.intro @Qa (And.intro @Yc (And.intro @EZ (And.intro @E0 (And.intro @E1 (And.intro @Qb (And.intro @J0 (And.intro @J1 (And.intro @VU (And.intro @J2 (And.intro @J3 (And.intro @J4 (And.intro @J5 (And.intro @VX (And.intro @J6 (And.intro @J7 (And.intro @J8 @VY))))))))))))))))))))))))))))))))):=And.intro @JO (And.intro @JP (And.intro @JQ (And.intro @JR (And.intro @JS (And.intro @JT (And.intro @VT (And.intro @JU (And.intro @JV (And.intro @JW (And.intro @JX (And.intro @JY (And.intro @JZ (And.intro @S2 (And.intro @P9 (And.intro @P_ (And.intro @Qa (And.intro @Yc (And.intro @EZ (And.intro @E0 (And.intro @E1 (And.intro @Qb (And.intro @J0 (And.intro @J1 (And.intro @VU (And.intro @J2 (And.intro @J3 (And.intro @J4 (And.intro @J5 (And.intro @VX (And.intro @J6 (And.intro @J7 (And.intro @J8 @VY))))))))))))))))))))))))))))))))
section
variable {nx0:Nat}{H0:T OB}
def mx (a b:Int):Int:=if b>a then b else a
theorem jV (ts:Array TypeId)(t:TypeId)(a b:Int):kJ P .max ts t (some [.int .i64 a,.int .i64 b])=some (i64 (mx a b)):=MO ts t a b
mutual
def Aw:aB->Int
 | .mk _ _ _ l=>w (lD l 0+1)
def lD:List aB->Int->Int
 | [],n=>n
 | p::l,n=>lD l (mx n (Aw p))
end
mutual
def UJ:aO->Int
 | .mk _ _ l=>w (uw l 0+1)
def uw:List aO->Int->Int
 | [],n=>n
 | p::l,n=>uw l (mx n (UJ p))
end
def vl:List cS->Int->Int
 | [],n=>n
 | c::l,n=>vl l (uw c.arg n)
mutual
def ld:aq->Int
 | .mk _ _ _ l p d=>w (lD p (Ax l (jd d 0))+1)
def M6:aG->Int
 | .mk k p e f x c=>if k=1 then mx (Aw p) (ld e)else if k=5 then ld e else if k=2 then GG f 0 else if k=3 then vl x.cons 0 else if k=4 then uw c.arg 0 else 0
def Yd:Fn->Int->Int
 | .mk _ p b,n=>lD p (mx n (ld b))
def Ax:List aq->Int->Int
 | [],n=>n
 | e::l,n=>Ax l (mx n (ld e))
def jd:List aG->Int->Int
 | [],n=>n
 | d::l,n=>jd l (mx n (w (M6 d+1)))
def GG:List Fn->Int->Int
 | [],n=>n
 | f::l,n=>GG l (Yd f n)
end
theorem M7 (p:aB):Aw p=w (lD p.l 0+1):=by cases p;rw[Aw];rfl
theorem S3 (p:aO):UJ p=w (uw p.l 0+1):=by cases p;rw[UJ];rfl
theorem M8 (p:aq):ld p=w (lD p.p (Ax p.l (jd p.d 0))+1):=by cases p;rw[ld];rfl
theorem S4 (d:aG):M6 d=if d.k=1 then mx (Aw d.p) (ld d.e)else if d.k=5 then ld d.e else if d.k=2 then GG d.f 0 else if d.k=3 then vl d.x.cons 0 else if d.k=4 then uw d.c.arg 0 else 0:=by cases d;rw[M6];rfl
theorem S5 (f:Fn)(n:Int):Yd f n=lD f.p (mx n (ld f.b)):=by cases f;rw[Yd];rfl
theorem cM {n:Nat}(h:n<dQ):n<9223372036854775807:=Nat.lt_trans h (by decide)
theorem S6 (l:List aB)(hl:l.length<dQ)(ih:∀c,c∈l->P0 27 [c.v] (i64 (Aw c)))(s:Int)(H:T OB)(nx:Nat)(hA:Ag nx0 H0 nx H):Wq P pl X0 (.jump (Af (i64 s) (bL l) (i64 (l.length:Int)) (i64 ((0:Nat):Int)) H nx)) nx0 H0 (i64 (w (lD (l) s+1))):=
 Wq.each (l) (λi s H nx=> .jump (Af (i64 s) (bL l) (i64 (l.length:Int)) (i64 (i:Int)) H nx)) (λt s=>i64 (w (lD t s+1))) (λs H1 av hA1=>by
  refine Wq.jmp (PV ..) (λ_=>rfl) ?_;simp only[ab,az,List.length_map,aA];exact Wq.ret hA1) (λi a t s H1 av hg hlt hd hA1 ih'=>by
  have hg':((l).map aB.v)[i]? = some (aB.v a):=by simp[hg]
  have hm:=List.mem_of_getElem? hg;refine Wq.jmp (PV ..) (λ_=>rfl) ?_;simp only[ab,az,List.length_map,aE hlt,ke hg'];refine Wq.var cR dj rfl (GB _) (GC _) hA1 λH2 nx2 hA2=> ?_;refine Wq.call (ih a hm) hA2 λH3 nx3 hA3=> ?_;simp only[ab,jV];simp only[ab,ao (show i<9223372036854775807 by have:=cM hl;omega)];exact ih' _ _ _ hA3) s H nx hA
theorem J9 (e:aB)(h:e.ok):P0 27 [e.v] (i64 (Aw e)):=by
 refine aB.ind (p:=λe=>e.ok->P0 27 [e.v] (i64 (Aw e))) (λe ih h=> ?_) e h;rw[aB.bm]at h;refine Pure.of rfl λH nx=> ?_;rw[Zw];refine Wq.iZ (.refl _ _) λhA=> ?_;simp only[ab,az,List.length_map];rw[M7];exact S6 e.l h.2.2.1 (λc hc=>ih c hc (h.2.2.2 c hc)) 0 H _ hA
theorem S7 (l:List aO)(hl:l.length<dQ)(ih:∀c,c∈l->P0 29 [c.v] (i64 (UJ c)))(s:Int)(H:T OB)(nx:Nat)(hA:Ag nx0 H0 nx H):Wq P pl X0 (.jump (Ah (i64 s) (fu l) (i64 (l.length:Int)) (i64 ((0:Nat):Int)) H nx)) nx0 H0 (i64 (w (uw (l) s+1))):=
 Wq.each (l) (λi s H nx=> .jump (Ah (i64 s) (fu l) (i64 (l.length:Int)) (i64 (i:Int)) H nx)) (λt s=>i64 (w (uw t s+1))) (λs H1 av hA1=>by
  refine Wq.jmp (PX ..) (λ_=>rfl) ?_;simp only[ab,az,List.length_map,aA];exact Wq.ret hA1) (λi a t s H1 av hg hlt hd hA1 ih'=>by
  have hg':((l).map aO.v)[i]? = some (aO.v a):=by simp[hg]
  have hm:=List.mem_of_getElem? hg;refine Wq.jmp (PX ..) (λ_=>rfl) ?_;simp only[ab,az,List.length_map,aE hlt,qH hg'];refine Wq.var dy ej rfl (GD _) (GF _) hA1 λH2 nx2 hA2=> ?_;refine Wq.call (ih a hm) hA2 λH3 nx3 hA3=> ?_;simp only[ab,jV];simp only[ab,ao (show i<9223372036854775807 by have:=cM hl;omega)];exact ih' _ _ _ hA3) s H nx hA
theorem Qc (e:aO)(h:e.ok):P0 29 [e.v] (i64 (UJ e)):=by
 refine aO.ind (p:=λe=>e.ok->P0 29 [e.v] (i64 (UJ e))) (λe ih h=> ?_) e h;rw[aO.bm]at h;refine Pure.of rfl λH nx=> ?_;rw[Zy];refine Wq.iZ (.refl _ _) λhA=> ?_;simp only[ab,az,List.length_map];rw[S3];exact S7 e.l h.2.1 (λc hc=>ih c hc (h.2.2 c hc)) 0 H _ hA
theorem VZ (d:aG)(h:d.ok)(hE:P0 28 [d.e.v] (i64 (ld d.e)))(hF:∀f,f∈d.f->P0 28 [f.b.v] (i64 (ld f.b))):P0 14 [d.v] (i64 (w (M6 d+1))):=Pure.of rfl λH nx=>by
 rw[aG.bm]at h;obtain⟨hp,he,⟨hfl,hf⟩,hx,hc⟩:=h;rw[Zl];refine Wq.iZ (.refl _ _) λhA=> ?_;have L70:∀(n:Int) H1 av,Ag nx H av H1->Wq P pl X0 (.jump (te (i64 n) H1 av)) nx H (i64 (w (n+1))):=λn H1 av hA1=>by
  refine Wq.jmp (RK ..) (λ_=>rfl) ?_;simp only[ab];exact Wq.ret hA1
 simp only[ab,az,List.length_map];rw[S4];refine Wq.ite (λh1=> ?_) (λh1=> ?_)
 . rw[if_pos h1];refine Wq.call (J9 _ hp) hA λH2 nx2 hA2=> ?_;refine Wq.call hE hA2 λH3 nx3 hA3=> ?_;simp only[ab,jV];exact L70 _ _ _ hA3
 rw[if_neg h1];refine Wq.ite (λh2=> ?_) (λh2=> ?_)
 . rw[if_neg (by omega),if_pos h2];refine Wq.each (d.f) (λi s H nx=> .jump (wN (i64 s) (tB d.f) (i64 (d.f.length:Int)) (i64 (i:Int)) H nx)) (λt s=>i64 (w (GG t s+1))) (λs0 H0 nx0 hA0=> ?_) (λi0 a0 t0 s0 H0 nx0 hg0 hlt0 hd0 hA0 ih0=> ?_) (0) _ _ hA
   . refine Wq.jmp (I0 ..) (λ_=>rfl) ?_;simp only[ab,az,List.length_map,aA];exact Wq.ret hA0
   . have hx0:((d.f).map Fn.v)[i0]? = some (Fn.v a0):=by simp[hg0]
     have hm0:=List.mem_of_getElem? hg0;refine Wq.jmp (I0 ..) (λ_=>rfl) ?_;simp only[ab,az,List.length_map,aE hlt0,Ea hx0];refine Wq.var hU mc rfl (XL _) (XM _) hA0 λH2 nx2 hA2=> ?_;refine Wq.call (hF a0 hm0) hA2 λH3 nx3 hA3=> ?_;simp only[ab,az,List.length_map,jV];have hpl:=((Fn.bm a0).1 (hf a0 hm0)).2.1;rw[GG,S5];refine Wq.each (a0.p) (λi s H nx=> .jump (wQ (i64 s) (tB d.f) (i64 (d.f.length:Int)) (i64 (i0:Int)) (bL a0.p) (i64 (a0.p.length:Int)) (i64 (i:Int)) H nx)) (λt s=>i64 (w (GG t0 (lD t s)+1))) (λs8 H8 nx8 hA8=> ?_) (λi8 a8 t8 s8 H8 nx8 hg8 hlt8 hd8 hA8 ih8=> ?_) (mx s0 (ld a0.b)) _ _ hA3
     . refine Wq.jmp (I3 ..) (λ_=>rfl) ?_;simp only[ab,az,List.length_map,aA];simp only[ab,ao (show i0<9223372036854775807 by have:=cM hfl;omega)];exact ih0 _ _ _ hA8
     . have hx8:((a0.p).map aB.v)[i8]? = some (aB.v a8):=by simp[hg8]
       have hm8:=List.mem_of_getElem? hg8;refine Wq.jmp (I3 ..) (λ_=>rfl) ?_;simp only[ab,az,List.length_map,aE hlt8,ke hx8];refine Wq.var cR dj rfl (GB _) (GC _) hA8 λH2 nx2 hA2=> ?_;refine Wq.call (J9 a8 (hpl.2 a8 hm8)) hA2 λH3 nx3 hA3=> ?_;simp only[ab,jV];simp only[ab,ao (show i8<9223372036854775807 by have:=cM hpl.1;omega)];exact ih8 _ _ _ hA3
 refine Wq.ite (λh3=> ?_) (λh3=> ?_)
 . rw[if_neg (by omega),if_neg h2,if_pos h3];refine Wq.each (d.x.cons) (λi s H nx=> .jump (wO (i64 s) (oT d.x.cons) (i64 (d.x.cons.length:Int)) (i64 (i:Int)) H nx)) (λt s=>i64 (w (vl t s+1))) (λs0 H0 nx0 hA0=> ?_) (λi0 a0 t0 s0 H0 nx0 hg0 hlt0 hd0 hA0 ih0=> ?_) (0) _ _ hA
   . refine Wq.jmp (I1 ..) (λ_=>rfl) ?_;simp only[ab,az,List.length_map,aA];exact Wq.ret hA0
   . have hx0:((d.x.cons).map cS.v)[i0]? = some (cS.v a0):=by simp[hg0]
     have hm0:=List.mem_of_getElem? hg0;refine Wq.jmp (I1 ..) (λ_=>rfl) ?_;simp only[ab,az,List.length_map,aE hlt0,Ec hx0];refine Wq.var jF mb rfl (VV _) (VW _) hA0 λH2 nx2 hA2=> ?_;have hpl:=(hx.2.2.2 a0 hm0).2;rw[vl];refine Wq.each (a0.arg) (λi s H nx=> .jump (wR (i64 s) (oT d.x.cons) (i64 (d.x.cons.length:Int)) (i64 (i0:Int)) (fu a0.arg) (i64 (a0.arg.length:Int)) (i64 (i:Int)) H nx)) (λt s=>i64 (w (vl t0 (uw t s)+1))) (λs8 H8 nx8 hA8=> ?_) (λi8 a8 t8 s8 H8 nx8 hg8 hlt8 hd8 hA8 ih8=> ?_) (s0) _ _ hA2
     . refine Wq.jmp (I4 ..) (λ_=>rfl) ?_;simp only[ab,az,List.length_map,aA];simp only[ab,ao (show i0<9223372036854775807 by have:=cM (show d.x.cons.length<dQ from hx.2.2.1);omega)];exact ih0 _ _ _ hA8
     . have hx8:((a0.arg).map aO.v)[i8]? = some (aO.v a8):=by simp[hg8]
       have hm8:=List.mem_of_getElem? hg8;refine Wq.jmp (I4 ..) (λ_=>rfl) ?_;simp only[ab,az,List.length_map,aE hlt8,qH hx8];refine Wq.var dy ej rfl (GD _) (GF _) hA8 λH2 nx2 hA2=> ?_;refine Wq.call (Qc a8 (hpl.2 a8 hm8)) hA2 λH3 nx3 hA3=> ?_;simp only[ab,jV];simp only[ab,ao (show i8<9223372036854775807 by have:=cM hpl.1;omega)];exact ih8 _ _ _ hA3
 refine Wq.ite (λh4=> ?_) (λh4=> ?_)
 . rw[if_neg (by omega),if_neg h2,if_neg h3,if_pos h4];refine Wq.each (d.c.arg) (λi s H nx=> .jump (wP (i64 s) (fu d.c.arg) (i64 (d.c.arg.length:Int)) (i64 (i:Int)) H nx)) (λt s=>i64 (w (uw t s+1))) (λs0 H0 nx0 hA0=> ?_) (λi0 a0 t0 s0 H0 nx0 hg0 hlt0 hd0 hA0 ih0=> ?_) (0) _ _ hA
   . refine Wq.jmp (I2 ..) (λ_=>rfl) ?_;simp only[ab,az,List.length_map,aA];exact Wq.ret hA0
   . have hx0:((d.c.arg).map aO.v)[i0]? = some (aO.v a0):=by simp[hg0]
     have hm0:=List.mem_of_getElem? hg0;refine Wq.jmp (I2 ..) (λ_=>rfl) ?_;simp only[ab,az,List.length_map,aE hlt0,qH hx0];refine Wq.var dy ej rfl (GD _) (GF _) hA0 λH2 nx2 hA2=> ?_;refine Wq.call (Qc a0 (hc.2.2 a0 hm0)) hA2 λH3 nx3 hA3=> ?_;simp only[ab,jV];simp only[ab,ao (show i0<9223372036854775807 by have:=cM hc.2.1;omega)];exact ih0 _ _ _ hA3
 refine Wq.ite (λh5=> ?_) (λh5=> ?_)
 . rw[if_pos h5];refine Wq.call hE hA λH3 nx3 hA3=> ?_;exact L70 _ _ _ hA3
 . rw[if_neg h5,if_neg h2,if_neg h3,if_neg h4];exact L70 _ _ _ hA
theorem Qd (l:List aG)(hl:l.length<dQ)(ih:∀d,d∈l->P0 14 [d.v] (i64 (w (M6 d+1)))):P0 8 [ca l] (i64 (jd l 0)):=Pure.of rfl λH nx=>by
 rw[q8];simp only[ab,az,List.length_map];refine Wq.each (l) (λi s H nx=> .jump (MW (i64 s) (ca l) (i64 (l.length:Int)) (i64 (i:Int)) H nx)) (λt s=>i64 (jd t s)) (λs0 H0 nx0 hA0=> ?_) (λi0 a0 t0 s0 H0 nx0 hg0 hlt0 hd0 hA0 ih0=> ?_) (0) _ _ (.refl _ _)
 . refine Wq.jmp (Vx ..) (λ_=>rfl) ?_;simp only[ab,az,List.length_map,aA];exact Wq.ret hA0
 . have hx0:((l).map aG.v)[i0]? = some (aG.v a0):=by simp[hg0]
   have hm0:=List.mem_of_getElem? hg0;refine Wq.jmp (Vx ..) (λ_=>rfl) ?_;simp only[ab,az,List.length_map,aE hlt0,Ac hx0];refine Wq.var dx fJ rfl (M4 _) (M5 _) hA0 λH2 nx2 hA2=> ?_;refine Wq.call (ih a0 hm0) hA2 λH3 nx3 hA3=> ?_;simp only[ab,jV];rw[jd];simp only[ab,ao (show i0<9223372036854775807 by have:=cM hl;omega)];exact ih0 _ _ _ hA3
theorem S8 (e:aq)(h:e.ok)(h1:∀c,c∈e.l->P0 28 [c.v] (i64 (ld c)))(h2:∀d,d∈e.d->P0 14 [d.v] (i64 (w (M6 d+1)))):P0 28 [e.v] (i64 (ld e)):=Pure.of rfl λH nx=>by
 rw[aq.bm]at h;obtain⟨hr,hs,⟨hl,hl'⟩,⟨hp,hp'⟩,hd,hd'⟩:=h;rw[Zx];refine Wq.iZ (.refl _ _) λhA=> ?_;simp only[ab,az,List.length_map];refine Wq.call (Qd _ hd h2) hA λH1 av hA1=> ?_;rw[M8];refine Wq.each (e.l) (λi s H nx=> .jump (Ez (aa e.v) (i64 s) (eB e.l) (i64 (e.l.length:Int)) (i64 (i:Int)) H nx)) (λt s=>i64 (w (lD e.p (Ax t s)+1))) (λs0 H0 nx0 hA0=> ?_) (λi0 a0 t0 s0 H0 nx0 hg0 hlt0 hd0 hA0 ih0=> ?_) (jd e.d 0) _ _ hA1
 . refine Wq.jmp (PW ..) (λ_=>rfl) ?_;simp only[ab,az,List.length_map,aA];refine Wq.each (e.p) (λi s H nx=> .jump (xg (i64 s) (bL e.p) (i64 (e.p.length:Int)) (i64 (i:Int)) H nx)) (λt s=>i64 (w (lD t s+1))) (λs8 H8 nx8 hA8=> ?_) (λi8 a8 t8 s8 H8 nx8 hg8 hlt8 hd8 hA8 ih8=> ?_) (s0) _ _ hA0
   . refine Wq.jmp (Jg ..) (λ_=>rfl) ?_;simp only[ab,az,List.length_map,aA];exact Wq.ret hA8
   . have hx8:((e.p).map aB.v)[i8]? = some (aB.v a8):=by simp[hg8]
     have hm8:=List.mem_of_getElem? hg8;refine Wq.jmp (Jg ..) (λ_=>rfl) ?_;simp only[ab,az,List.length_map,aE hlt8,ke hx8];refine Wq.var cR dj rfl (GB _) (GC _) hA8 λH2 nx2 hA2=> ?_;refine Wq.call (J9 _ (hp' _ hm8)) hA2 λH3 nx3 hA3=> ?_;simp only[ab,jV];simp only[ab,ao (show i8<9223372036854775807 by have:=cM hp;omega)];exact ih8 _ _ _ hA3
 . have hx0:((e.l).map aq.v)[i0]? = some (aq.v a0):=by simp[hg0]
   have hm0:=List.mem_of_getElem? hg0;refine Wq.jmp (PW ..) (λ_=>rfl) ?_;simp only[ab,az,List.length_map,aE hlt0,i_ hx0];refine Wq.var bI cj rfl (M1 _) (M3 _) hA0 λH2 nx2 hA2=> ?_;refine Wq.call (h1 _ hm0) hA2 λH3 nx3 hA3=> ?_;simp only[ab,jV];rw[Ax];simp only[ab,ao (show i0<9223372036854775807 by have:=cM hl;omega)];exact ih0 _ _ _ hA3
theorem M9:(∀e:aq,e.ok->P0 28 [e.v] (i64 (ld e)))/\∀d:aG,d.ok->P0 14 [d.v] (i64 (w (M6 d+1))):=by
 have A:∀e:aq,(∀c,c∈e.l->c.ok->P0 28 [c.v] (i64 (ld c)))->(∀c,c∈e.d->c.ok->P0 14 [c.v] (i64 (w (M6 c+1))))->e.ok->P0 28 [e.v] (i64 (ld e)):=λe h1 h2 h=>by
  have h':=(aq.bm e).1 h;exact S8 e h (λc hc=>h1 c hc (h'.2.2.1.2 c hc)) λd hd=>h2 d hd (h'.2.2.2.2.2 d hd)
 have B:∀d:aG,(d.e.ok->P0 28 [d.e.v] (i64 (ld d.e)))->(∀f,f∈d.f->f.b.ok->P0 28 [f.b.v] (i64 (ld f.b)))->d.ok->P0 14 [d.v] (i64 (w (M6 d+1))):=λd h1 h2 h=>by
  have h':=(aG.bm d).1 h;exact VZ d h (h1 h'.2.1) λf hf=>h2 f hf ((Fn.bm f).1 (h'.2.2.1.2 f hf)).2.2
 exact⟨aq.ind A B,aG.ind A B⟩
theorem V0 (l:List aG)(hl:l.length<dQ)(h:∀d,d∈l->d.ok):P0 8 [ca l] (i64 (jd l 0)):=Qd l hl λd hd=>M9.2 d (h d hd)
end
section
variable {nx0:Nat}{H0:T OB}
def qW (s:Nat)(l:List Value)(v:Value):Prop:=v=aM s l\/(l=[]/\v= .slice none 0 0)
theorem qW.row (s:Nat)(l:List Value):qW s l (aM s l):= .inl rfl
theorem J_ {l:List Value}{v:Value}(h:qW 4 l v)(H:T OB)(nx:Nat)(k:Value->T OB->Nat->Q):fM P 39 v H nx k=k (aM 4 l) H nx:=by
 rcases h with rfl | ⟨rfl,rfl⟩<;>kernel_rfl
theorem S9 {l:List Value}{v:Value}(h:qW 6 l v)(H:T OB)(nx:Nat)(k:Value->T OB->Nat->Q):fM P 42 v H nx k=k (aM 6 l) H nx:=by
 rcases h with rfl | ⟨rfl,rfl⟩<;>kernel_rfl
theorem S_ {l:List Value}{v:Value}(h:qW 17 l v)(H:T OB)(nx:Nat)(k:Value->T OB->Nat->Q):fM P 23 v H nx k=k (aM 17 l) H nx:=by
 rcases h with rfl | ⟨rfl,rfl⟩<;>kernel_rfl
theorem Ta {l:List Value}{v:Value}(h:qW 3 l v)(H:T OB)(nx:Nat)(k:Value->T OB->Nat->Q):fM P 50 v H nx k=k (aM 3 l) H nx:=by
 rcases h with rfl | ⟨rfl,rfl⟩<;>kernel_rfl
theorem Tc {l:List Value}{v:Value}(h:qW 1 l v)(H:T OB)(nx:Nat)(k:Value->T OB->Nat->Q):fM P 46 v H nx k=k (aM 1 l) H nx:=by
 rcases h with rfl | ⟨rfl,rfl⟩<;>kernel_rfl
theorem Td {l:List Value}{v:Value}(h:qW 2 l v)(H:T OB)(nx:Nat)(k:Value->T OB->Nat->Q):fM P 47 v H nx k=k (aM 2 l) H nx:=by
 rcases h with rfl | ⟨rfl,rfl⟩<;>kernel_rfl
def Ka (p:aB)(v:Value):Prop:=∃d,v= .agg ⟨[i64 p.k,i64 p.n,au p.s,d]⟩/\qW 4 (p.l.map aB.v) d
def GH (e:aq)(v:Value):Prop:=∃a b c,v= .agg ⟨[i64 e.k,i64 e.n,au e.s,a,b,c]⟩/\qW 6 (e.l.map aq.v) a/\qW 4 (e.p.map aB.v) b/\qW 17 (e.d.map aG.v) c
def Te (e:cS)(v:Value):Prop:=∃a,v= .agg ⟨[au e.s,a]⟩/\qW 3 (e.arg.map aO.v) a
def Qe (e:Data)(v:Value):Prop:=∃a b,v= .agg ⟨[a,au e.s,b]⟩/\qW 1 (e.vars.map au) a/\qW 2 (e.cons.map cS.v) b
theorem aB.vv (p:aB):Ka p p.v:=⟨_,p.aW,.row _ _⟩
theorem aq.vv (p:aq):GH p p.v:=⟨_,_,_,p.aW,.row _ _,.row _ _,.row _ _⟩
theorem cS.vv (p:cS):Te p p.v:=⟨_,p.aW,.row _ _⟩
theorem V1 (a b c d:Value)(H:T OB)(nx:Nat)(k:Value->T OB->Nat->Q):fl P 41 (.agg ⟨[a,b,c,d]⟩) H nx k=fM P 39 d H nx λd H nx=>k (.agg ⟨[a,b,c,d]⟩) H nx:=by kernel_rfl
theorem V2 (a b c d e f:Value)(H:T OB)(nx:Nat)(k:Value->T OB->Nat->Q):fl P 44 (.agg ⟨[a,b,c,d,e,f]⟩) H nx k=fM P 42 d H nx λd H nx=>fM P 39 e H nx λe H nx=>fM P 23 f H nx λf H nx=>k (.agg ⟨[a,b,c,d,e,f]⟩) H nx:=by kernel_rfl
theorem V3 (a b:Value)(H:T OB)(nx:Nat)(k:Value->T OB->Nat->Q):fl P 52 (.agg ⟨[a,b]⟩) H nx k=fM P 50 b H nx λb H nx=>k (.agg ⟨[a,b]⟩) H nx:=by kernel_rfl
theorem V4 (a b c:Value)(H:T OB)(nx:Nat)(k:Value->T OB->Nat->Q):fl P 49 (.agg ⟨[a,b,c]⟩) H nx k=fM P 46 a H nx λa H nx=>fM P 47 c H nx λc H nx=>k (.agg ⟨[a,b,c]⟩) H nx:=by kernel_rfl
theorem V5 {p:aB}{v:Value}(h:Ka p v)(H:T OB)(nx:Nat)(k:Value->T OB->Nat->Q):fl P 41 v H nx k=k p.v H nx:=by
 obtain⟨d,rfl,h⟩:=h;rw[V1,J_ h,p.aW]
theorem frExp {p:aq}{v:Value}(h:GH p v)(H:T OB)(nx:Nat)(k:Value->T OB->Nat->Q):fl P 44 v H nx k=k p.v H nx:=by
 obtain⟨a,b,c,rfl,h1,h2,h3⟩:=h;rw[V2,S9 h1,J_ h2,S_ h3,p.aW]
theorem V6 {p:cS}{v:Value}(h:Te p v)(H:T OB)(nx:Nat)(k:Value->T OB->Nat->Q):fl P 52 v H nx k=k p.v H nx:=by
 obtain⟨d,rfl,h⟩:=h;rw[V3,Ta h,p.aW]
theorem Tf {p:Data}{v:Value}(h:Qe p v)(H:T OB)(nx:Nat)(k:Value->T OB->Nat->Q):fl P 49 v H nx k=k p.v H nx:=by
 obtain⟨d,b,rfl,h,h2⟩:=h;rw[V4,Tc h,Td h2,p.aW]
def cP {α:Type}(a b:α):Bool:=@decide (a=b) (Classical.propDecidable _)
theorem Qf {α:Type}{a b:α}(h:a=b):cP a b=true:=by unfold cP;simp[h]
theorem jG {α:Type}{a b:α}(h:a≠b):cP a b=false:=by unfold cP;simp[h]
theorem gd {α:Type}{a b:α}:cP a b=true↔a=b:=by unfold cP;simp
theorem gG {α:Type}(a:α):cP a a=true:=Qf rfl
theorem mO {α β:Type}{a b:α}{c d:β}(h:a=b↔c=d):cP a b=cP c d:=by
 rw[Bool.eq_iff_iff,gd,gd];exact h
theorem dz (a b:List UInt8):decide ((⟨⟨a⟩⟩:ByteArray)=⟨⟨b⟩⟩)=decide (a=b):=by rw[decide_eq_decide];simp
theorem Wq.gj {p:Prop}[Decidable p]{R:Value->T OB->Nat->Prop}{x y:Q}(h:¬p->dJ P pl X0 x nx0 H0 R)(h':p->dJ P pl X0 y nx0 H0 R):dJ P pl X0 (Ev.bK (!decide p) x y) nx0 H0 R:=
 Wq.bK (λq=>h (by simpa using q)) (λq=>h' (by simpa using q))
theorem Wq.Ye (I:T OB->Nat->Prop){α:Type}(l m:List α)(hlm:l.length=m.length)(q:Nat->T OB->Nat->Q)(r:Bool)(hend:∀H1 av,I H1 av->Ag nx0 H0 av H1->Wq P pl X0 (q l.length H1 av) nx0 H0 (.bool r))
 (hstep:∀(i:Nat) (a b:α) (t u:List α) H1 av,l[i]? = some a->m[i]? = some b->i<l.length->I H1 av->Ag nx0 H0 av H1->(∀H2 nx2,I H2 nx2->Ag nx0 H0 nx2 H2->Wq P pl X0 (q (i+1) H2 nx2) nx0 H0 (.bool (cP t u&&r)))->Wq P pl X0 (q i H1 av) nx0 H0 (.bool (cP a b&&(cP t u&&r)))) (H1:T OB) (av:Nat) (hI:I H1 av) (hA:Ag nx0 H0 av H1):
 Wq P pl X0 (q 0 H1 av) nx0 H0 (.bool (cP l m&&r)):=by
 have key:∀(t u:List α) (i:Nat),l.drop i=t->m.drop i=u->i<=l.length->∀H1 av,I H1 av->Ag nx0 H0 av H1->Wq P pl X0 (q i H1 av) nx0 H0 (.bool (cP t u&&r)):=by
  intro t
  induction t with
  | nil=>
    intro u i hd hu hi H1 av hI hA;have hil:=drop_nil hd hi;have:u=[]:=by rw[<- hu,List.drop_of_length_le (by omega)]
    rw[this,gG,Bool.true_and,hil];exact hend H1 av hI hA
  | cons a t ih=>
    intro u i hd hu hi H1 av hI hA;obtain⟨hg,hlt,hd'⟩:=drop_cons hd;cases u with
    | nil=>
      have:=drop_nil hu (by omega);omega
    | cons b u=>
      obtain⟨hg2,hlt2,hd2⟩:=drop_cons hu;have:cP (a::t) (b::u)=(cP a b&&cP t u):=by
       rw[Bool.eq_iff_iff];simp[gd]
      rw[this,Bool.and_assoc];exact hstep i a b t u H1 av hg hg2 hlt hI hA λH2 nx2 h1 h2=>ih u (i+1) hd' hd2 (by omega) H2 nx2 h1 h2
 have:=key l m 0 rfl rfl (Nat.zero_le _) H1 av hI hA;exact this
theorem Wq.zip {α:Type}(l m:List α)(hlm:l.length=m.length)(q:Nat->T OB->Nat->Q)(r:Bool)(hend:∀H1 av,Ag nx0 H0 av H1->Wq P pl X0 (q l.length H1 av) nx0 H0 (.bool r))
 (hstep:∀(i:Nat) (a b:α) (t u:List α) H1 av,l[i]? = some a->m[i]? = some b->i<l.length->Ag nx0 H0 av H1->(∀H2 nx2,Ag nx0 H0 nx2 H2->Wq P pl X0 (q (i+1) H2 nx2) nx0 H0 (.bool (cP t u&&r)))->Wq P pl X0 (q i H1 av) nx0 H0 (.bool (cP a b&&(cP t u&&r)))) (H1:T OB) (av:Nat) (hA:Ag nx0 H0 av H1):
 Wq P pl X0 (q 0 H1 av) nx0 H0 (.bool (cP l m&&r)):=by
 have key:∀(t u:List α) (i:Nat),l.drop i=t->m.drop i=u->i<=l.length->∀H1 av,Ag nx0 H0 av H1->Wq P pl X0 (q i H1 av) nx0 H0 (.bool (cP t u&&r)):=by
  intro t
  induction t with
  | nil=>
    intro u i hd hu hi H1 av hA;have hil:=drop_nil hd hi;have:u=[]:=by rw[<- hu,List.drop_of_length_le (by omega)]
    rw[this,gG,Bool.true_and,hil];exact hend H1 av hA
  | cons a t ih=>
    intro u i hd hu hi H1 av hA;obtain⟨hg,hlt,hd'⟩:=drop_cons hd;cases u with
    | nil=>
      have:=drop_nil hu (by omega);omega
    | cons b u=>
      obtain⟨hg2,hlt2,hd2⟩:=drop_cons hu;have:cP (a::t) (b::u)=(cP a b&&cP t u):=by
       rw[Bool.eq_iff_iff];simp[gd]
      rw[this,Bool.and_assoc];exact hstep i a b t u H1 av hg hg2 hlt hA λH2 nx2 h2=>ih u (i+1) hd' hd2 (by omega) H2 nx2 h2
 have:=key l m 0 rfl rfl (Nat.zero_le _) H1 av hA;exact this
theorem Qg (l m:List aB)(hl:l.length<dQ)(ih:∀a,a∈l->∀b,P0 17 [a.v,b.v] (.bool (cP a b))):P0 21 [bL l,bL m] (.bool (cP l m)):=Pure.of rfl λH nx=>by
 rw[Zr];simp only[ab,az,List.length_map];refine Wq.gj (λh=> ?_) (λh=> ?_)
 . exact Wq.gF (by rw[jG (λq=>h (by rw[q]))]) (.refl _ _)
 have hlm:l.length=m.length:=by omega
 have:=Wq.zip (nx0:=nx) (H0:=H) l m hlm (λi H nx=> .jump (wW (bL l) (bL m) (i64 (i:Int)) H nx)) true (λH1 av hA1=> ?_) (λi a b t u H1 av hg hg2 hlt hA1 ih'=> ?_) H nx (.refl _ _)
 . rw[Bool.and_true]at this;exact this
 . refine Wq.jmp (I9 ..) (λ_=>rfl) ?_;simp only[ab,az,List.length_map,aA];exact Wq.ret hA1
 . have hx:(l.map aB.v)[i]? = some a.v:=by simp[hg]
   have hx2:(m.map aB.v)[i]? = some b.v:=by simp[hg2]
   refine Wq.jmp (I9 ..) (λ_=>rfl) ?_;simp only[ab,az,List.length_map,aE hlt,ke hx,ke hx2];refine Wq.call (ih a (List.mem_of_getElem? hg) b) hA1 λH2 nx2 hA2=> ?_;cases hE:cP a b with
   | false=>simp only[ab,Bool.false_and];exact Wq.ret hA2
   | true=>
     simp only[ab,Bool.true_and,ao (show i<9223372036854775807 by have:=cM hl;omega)];exact ih' _ _ hA2
theorem Tg (p q:aB)(v:Value)(hv:Ka p v)(ih:P0 21 [bL p.l,bL q.l] (.bool (cP p.l q.l))):P0 17 [v,q.v] (.bool (cP p q)):=Pure.of rfl λH nx=>by
 rw[Zn,V5 hv];refine Wq.iZ (.refl _ _) λhA=> ?_;refine Wq.iZ hA λhA=> ?_;simp only[ab,az,List.length_map,dz];refine Wq.ite (λh1=> ?_) (λh1=>Wq.gF (by rw[jG (λh=>h1 (by rw[h]))]) hA);refine Wq.ite (λh2=> ?_) (λh2=>Wq.gF (by rw[jG (λh=>h2 (by rw[h]))]) hA);refine Wq.ite (λh3=> ?_) (λh3=>Wq.gF (by rw[jG (λh=>h3 (by rw[h]))]) hA);refine Wq.call ih hA λH2 nx2 hA2=> ?_;refine Wq.gF ?_ hA2;rw[mO];cases p;cases q;simp only[aB.k,aB.n,aB.s,aB.l]at h1 h2 h3 ⊢;simp[h1,h2,h3]
theorem Qh (p:aB)(hp:p.ok):∀(q:aB) (v:Value),Ka p v->P0 17 [v,q.v] (.bool (cP p q)):=by
 refine aB.ind (p:=λp=>p.ok->∀(q:aB) (v:Value),Ka p v->P0 17 [v,q.v] (.bool (cP p q))) (λp ih hp q v hv=> ?_) p hp;rw[aB.bm]at hp;exact Tg p q v hv (Qg p.l q.l hp.2.2.1 λa ha b=>ih a ha (hp.2.2.2 a ha) b _ a.vv)
theorem Kb (l m:List aB)(hl:l.length<dQ)(h:∀a,a∈l->a.ok):P0 21 [bL l,bL m] (.bool (cP l m)):=Qg l m hl λa ha b=>Qh a (h a ha) b _ a.vv
theorem Kc (l m:List aO)(hl:l.length<dQ)(ih:∀a,a∈l->∀m',P0 35 [fu a.l,fu m'] (.bool (cP a.l m'))):P0 35 [fu l,fu m] (.bool (cP l m)):=Pure.of rfl λH nx=>by
 rw[ZE];simp only[ab,az,List.length_map];refine Wq.gj (λh=> ?_) (λh=> ?_)
 . exact Wq.gF (by rw[jG (λq=>h (by rw[q]))]) (.refl _ _)
 have hlm:l.length=m.length:=by omega
 have:=Wq.zip (nx0:=nx) (H0:=H) l m hlm (λi H nx=> .jump (xr (fu l) (fu m) (i64 (i:Int)) H nx)) true (λH1 av hA1=> ?_) (λi a b t u H1 av hg hg2 hlt hA1 ih'=> ?_) H nx (.refl _ _)
 . rw[Bool.and_true]at this;exact this
 . refine Wq.jmp (Jl ..) (λ_=>rfl) ?_;simp only[ab,az,List.length_map,aA];exact Wq.ret hA1
 . have hx:(l.map aO.v)[i]? = some a.v:=by simp[hg]
   have hx2:(m.map aO.v)[i]? = some b.v:=by simp[hg2]
   have L16:∀(r:Bool) H2 nx2,Ag nx H nx2 H2->r= !cP a b->Wq P pl X0 (.jump (tp (fu l) (fu m) (i64 (i:Int)) r H2 nx2)) nx H (.bool (cP a b&&(cP t u&&true))):=by
    intro r H2 nx2 hA2 hr;refine Wq.jmp (R5 ..) (λ_=>rfl) ?_;cases hE:cP a b with
    | false=>rw[hE]at hr;rw[hr];exact Wq.ret hA2
    | true=>
      rw[hE]at hr;rw[hr];simp only[ab,Bool.true_and,ao (show i<9223372036854775807 by have:=cM hl;omega)];exact ih' _ _ hA2
   refine Wq.jmp (Jl ..) (λ_=>rfl) ?_;simp only[ab,az,List.length_map,aE hlt,qH hx,qH hx2,dz];refine Wq.gj (λh1=>L16 _ _ _ hA1 (by rw[jG (λh=>h1 (by rw[h]))];rfl)) (λh1=> ?_);refine Wq.gj (λh2=>L16 _ _ _ hA1 (by rw[jG (λh=>h2 (by rw[h]))];rfl)) (λh2=> ?_);refine Wq.call (ih a (List.mem_of_getElem? hg) b.l) hA1 λH2 nx2 hA2=> ?_;simp only[ab];refine L16 _ _ _ hA2 (congrArg _ (mO ?_));cases a;cases b;simp only[aO.k,aO.s,aO.l]at h1 h2 ⊢;simp[h1,h2]
theorem Th (a:aO)(ha:a.ok):∀m,P0 35 [fu a.l,fu m] (.bool (cP a.l m)):=by
 refine aO.ind (p:=λa=>a.ok->∀m,P0 35 [fu a.l,fu m] (.bool (cP a.l m))) (λp ih hp m=> ?_) a ha;rw[aO.bm]at hp;exact Kc p.l m hp.2.1 λa ha m'=>ih a ha (hp.2.2 a ha) m'
theorem V7 (l m:List aO)(hl:l.length<dQ)(h:∀a,a∈l->a.ok):P0 35 [fu l,fu m] (.bool (cP l m)):=Kc l m hl λa ha m'=>Th a (h a ha) m'
theorem Qi (p q:cS)(hp:p.ok)(v:Value)(hv:Te p v):P0 19 [v,q.v] (.bool (cP p q)):=Pure.of rfl λH nx=>by
 rw[Zp,V6 hv];refine Wq.iZ (.refl _ _) λhA=> ?_;refine Wq.iZ hA λhA=> ?_;simp only[ab,az,List.length_map,dz];refine Wq.ite (λh1=> ?_) (λh1=>Wq.gF (by rw[jG (λh=>h1 (by rw[h]))]) hA);refine Wq.call (V7 p.arg q.arg hp.2.1 hp.2.2) hA λH2 nx2 hA2=> ?_;refine Wq.gF ?_ hA2;rw[mO];cases p;cases q;simp only at h1 ⊢;simp[h1]
theorem V8 (p q:Data)(hp:p.ok)(v:Value)(hv:Qe p v):P0 20 [v,q.v] (.bool (cP p q)):=Pure.of rfl λH nx=>by
 rw[Zq,Tf hv];refine Wq.iZ (.refl _ _) λhA=> ?_;refine Wq.iZ hA λhA=> ?_;have L6:∀H1 av,Ag nx H av H1->p≠q->Wq P pl X0 (.jump (Ae (aa p.v) (aa q.v) true H1 av)) nx H (.bool (cP p q)):=by
  intro H1 av hA1 h;refine Wq.jmp (PQ ..) (λ_=>rfl) ?_;rw[jG h];exact Wq.ret hA1
 simp only[ab,az,List.length_map,dz];refine Wq.gj (λh1=>L6 _ _ hA λh=>h1 (by rw[h])) (λh1=> ?_);refine Wq.gj (λh2=>L6 _ _ hA λh=>h2 (by rw[h])) (λh2=> ?_);refine Wq.jmp (PQ ..) (λ_=>rfl) ?_;refine Wq.gj (λh3=> ?_) (λh3=> ?_)
 . rw[jG λh=>h3 (by rw[h])];exact Wq.ret hA
 have e0:cP p q=(cP p.vars q.vars&&(cP p.cons q.cons&&true)):=by
  rw[Bool.and_true,Bool.eq_iff_iff,Bool.and_eq_true,gd,gd,gd];cases p;cases q;simp only at h1 ⊢;simp[h1]
 rw[e0];refine Wq.zip (nx0:=nx) (H0:=H) p.vars q.vars (by omega) (λi H nx=> .jump (wU (aa p.v) (aa q.v) (i64 (i:Int)) H nx)) _ (λH1 av hA1=> ?_) (λi a b t u H1 av hg hg2 hlt hA1 ih'=> ?_) _ _ hA
 . refine Wq.jmp (I7 ..) (λ_=>rfl) ?_;simp only[ab,az,List.length_map,aA];refine Wq.zip (nx0:=nx) (H0:=H) p.cons q.cons (by omega) (λi H nx=> .jump (wV (aa p.v) (aa q.v) (i64 (i:Int)) H nx)) _ (λH1 av hA1=> ?_) (λi a b t u H1 av hg hg2 hlt hA1 ih'=> ?_) _ _ hA1
   . refine Wq.jmp (I8 ..) (λ_=>rfl) ?_;simp only[ab,az,List.length_map,aA];exact Wq.ret hA1
   . have hx:(p.cons.map cS.v)[i]? = some a.v:=by simp[hg]
     have hx2:(q.cons.map cS.v)[i]? = some b.v:=by simp[hg2]
     refine Wq.jmp (I8 ..) (λ_=>rfl) ?_;simp only[ab,az,List.length_map,aE hlt,Ec hx,Ec hx2];refine Wq.call (Qi a b (hp.2.2.2 a (List.mem_of_getElem? hg)) _ a.vv) hA1 λH2 nx2 hA2=> ?_;cases hE:cP a b with
     | false=>simp only[ab,Bool.false_and];exact Wq.ret hA2
     | true=>
       simp only[ab,Bool.true_and,ao (show i<9223372036854775807 by have:=cM hp.2.2.1;omega)];exact ih' _ _ hA2
 . have hx:(p.vars.map au)[i]? = some (au a):=by simp[hg]
   have hx2:(q.vars.map au)[i]? = some (au b):=by simp[hg2]
   refine Wq.jmp (I7 ..) (λ_=>rfl) ?_;simp only[ab,az,List.length_map,aE hlt,Eb hx,Eb hx2,dz];refine Wq.gj (λh=> ?_) (λh=> ?_)
   . rw[jG h];exact Wq.ret hA1
   . rw[Qf h];simp only[ab,Bool.true_and,ao (show i<9223372036854775807 by have:=cM hp.1.1;omega)];exact ih' _ _ hA1
end
section
variable {nx0:Nat}{H0:T OB}
theorem Ti (e q:aq)(he:e.ok)(v:Value)(hv:GH e v)(h1:∀a,a∈e.l->∀b:aq,P0 18 [a.v,b.v] (.bool (cP a b)))(h2:∀m,P0 11 [ca e.d,ca m] (.bool (cP e.d m))):P0 18 [v,q.v] (.bool (cP e q)):=Pure.of rfl λH nx=>by
 rw[aq.bm]at he;rw[Zo,frExp hv];refine Wq.iZ (.refl _ _) λhA=> ?_;refine Wq.iZ hA λhA=> ?_;have L6:∀H1 av,Ag nx H av H1->e≠q->Wq P pl X0 (.jump (qI (aa e.v) (aa q.v) true H1 av)) nx H (.bool (cP e q)):=by
  intro H1 av hA1 h;refine Wq.jmp (PO ..) (λ_=>rfl) ?_;rw[jG h];exact Wq.ret hA1
 simp only[ab,az,List.length_map,dz];refine Wq.gj (λg1=>L6 _ _ hA λh=>g1 (by rw[h])) (λg1=> ?_);refine Wq.gj (λg2=>L6 _ _ hA λh=>g2 (by rw[h])) (λg2=> ?_);refine Wq.gj (λg3=>L6 _ _ hA λh=>g3 (by rw[h])) (λg3=> ?_);refine Wq.gj (λg4=>L6 _ _ hA λh=>g4 (by rw[h])) (λg4=> ?_);refine Wq.call (Kb e.p q.p he.2.2.2.1.1 he.2.2.2.1.2) hA λH1 av hA1=> ?_;cases g5:cP e.p q.p with
 | false=>
   simp only[ab];exact L6 _ _ hA1 λh=>by rw[h,gG]at g5;cases g5
 | true=>
   simp only[ab];refine Wq.call (h2 q.d) hA1 λH2 nx2 hA2=> ?_;cases g6:cP e.d q.d with
   | false=>
     simp only[ab];exact L6 _ _ hA2 λh=>by rw[h,gG]at g6;cases g6
   | true=>
     simp only[ab];refine Wq.jmp (PO ..) (λ_=>rfl) ?_;have e0:cP e q=(cP e.l q.l&&true):=by
      rw[Bool.and_true,mO];rw[gd]at g5 g6;cases e;cases q;simp only[aq.k,aq.n,aq.s,aq.p,aq.d,aq.l]at g1 g2 g3 g5 g6 ⊢;simp[g1,g2,g3,g5,g6]
     rw[e0];refine Wq.zip (nx0:=nx) (H0:=H) e.l q.l (by omega) (λi H nx=> .jump (wT (aa e.v) (aa q.v) (i64 (i:Int)) H nx)) _ (λH1 av hA1=> ?_) (λi a b t u H1 av hg hg2 hlt hA1 ih'=> ?_) _ _ hA2
     . refine Wq.jmp (I6 ..) (λ_=>rfl) ?_;simp only[ab,az,List.length_map,aA];exact Wq.ret hA1
     . have hx:(e.l.map aq.v)[i]? = some a.v:=by simp[hg]
       have hx2:(q.l.map aq.v)[i]? = some b.v:=by simp[hg2]
       refine Wq.jmp (I6 ..) (λ_=>rfl) ?_;simp only[ab,az,List.length_map,aE hlt,i_ hx,i_ hx2];refine Wq.call (h1 a (List.mem_of_getElem? hg) b) hA1 λH2 nx2 hA2=> ?_;cases hE:cP a b with
       | false=>simp only[ab,Bool.false_and];exact Wq.ret hA2
       | true=>
         simp only[ab,Bool.true_and,ao (show i<9223372036854775807 by have:=cM he.2.2.1.1;omega)];exact ih' _ _ hA2
def Tj (d:aG)(v:Value):Prop:=∃a1 a2 a3 a4 a5 a6 a7 a8,v= .agg ⟨[i64 d.k,i64 d.p.k,i64 d.p.n,au d.p.s,a1,i64 d.e.k,i64 d.e.n,au d.e.s,a2,a3,a4,a5,a6,au d.x.s,a7,au d.c.s,a8]⟩/\
 qW 4 (d.p.l.map aB.v) a1/\qW 6 (d.e.l.map aq.v) a2/\qW 4 (d.e.p.map aB.v) a3/\qW 17 (d.e.d.map aG.v) a4/\qW 8 (d.f.map Fn.v) a5/\qW 1 (d.x.vars.map au) a6/\qW 2 (d.x.cons.map cS.v) a7/\qW 3 (d.c.arg.map aO.v) a8
theorem aG.vv (d:aG):Tj d d.v:=⟨_,_,_,_,_,_,_,_,d.aW,.row _ _,.row _ _,.row _ _,.row _ _,.row _ _,.row _ _,.row _ _,.row _ _⟩
theorem Qj {H:T OB}{b:Nat}{c0 c1 c2 c3 c4 c5 c6 c7 c8 c9 c10 c11 c12 c13 c14 c15 c16:Value}(h:cA H b [c0,c1,c2,c3,c4,c5,c6,c7,c8,c9,c10,c11,c12,c13,c14,c15,c16] 54):
 ai P H 3 (some (.pointer (some ⟨b,0,none⟩)))=some c0/\ai P H 41 (some (.pointer (some ⟨b,1,none⟩)))=some (.agg ⟨[c1,c2,c3,c4]⟩)/\ai P H 44 (some (.pointer (some ⟨b,5,none⟩)))=some (.agg ⟨[c5,c6,c7,c8,c9,c10]⟩)/\
 ai P H 45 (some (.pointer (some ⟨b,11,none⟩)))=some c11/\ai P H 49 (some (.pointer (some ⟨b,12,none⟩)))=some (.agg ⟨[c12,c13,c14]⟩)/\ai P H 52 (some (.pointer (some ⟨b,15,none⟩)))=some (.agg ⟨[c15,c16]⟩):=
 ⟨ah h oR rfl,bU h ft dj (by simp),bU h dN cj (by simp),ah h wJ rfl,bU h IU PJ (by simp),bU h tb mb (by simp)⟩
theorem qL {H:T OB}{b:Nat}{d:aG}(h:cA H b d.cs 54):
 ai P H 3 (some (.pointer (some ⟨b,0,none⟩)))=some (i64 d.k)/\ai P H 41 (some (.pointer (some ⟨b,1,none⟩)))=some d.p.v/\ai P H 44 (some (.pointer (some ⟨b,5,none⟩)))=some d.e.v/\
 ai P H 45 (some (.pointer (some ⟨b,11,none⟩)))=some (tB d.f)/\ai P H 49 (some (.pointer (some ⟨b,12,none⟩)))=some d.x.v/\ai P H 52 (some (.pointer (some ⟨b,15,none⟩)))=some d.c.v:=by
 rw[aG.fe]at h;have:=Qj h;rw[aB.aW,aq.aW];exact this
theorem vm {H:T OB}{b:Nat}{f:Fn}(h:cA H b f.cs 64):ai P H 9 (some (.pointer (some ⟨b,0,none⟩)))=some (au f.s)/\ai P H 39 (some (.pointer (some ⟨b,1,none⟩)))=some (bL f.p)/\ai P H 44 (some (.pointer (some ⟨b,2,none⟩)))=some f.b.v:=by
 rw[Fn.fe]at h;rw[aq.aW];exact⟨ah h nm rfl,ah h iB rfl,bU h dN cj (by simp)⟩
theorem Qk {d:aG}{v:Value}(h:Tj d v)(H:T OB):ai P H 54 (some (aa v))=some v/\v.cells.toList.length=17/\v.cells.toList.all aj=true:=by
 obtain⟨a1,a2,a3,a4,a5,a6,a7,a8,rfl,h1,h2,h3,h4,h5,h6,h7,h8⟩:=h;refine⟨by kernel_rfl,rfl,?_⟩;have key:∀s l x,qW s l x->aj x=true:=λs l x h=>by rcases h with rfl | ⟨_,rfl⟩<;>rfl
 simp[Value.cells,key _ _ _ h1,key _ _ _ h2,key _ _ _ h3,key _ _ _ h4,key _ _ _ h5,key _ _ _ h6,key _ _ _ h7,key _ _ _ h8]
theorem Kd {l:List Value}{v:Value}(h:qW 8 l v):cv P #[45] 3 (some [v])=some (i64 (l.length:Int)):=by
 rcases h with rfl | ⟨rfl,rfl⟩
 . exact wD _ _ _
 . exact wE _
theorem M_ (d q:aG):cP d q=(decide (d.k=q.k)&&(cP d.p q.p&&(cP d.e q.e&&(cP d.c q.c&&(cP d.x q.x&&cP d.f q.f))))):=by
 rw[Bool.eq_iff_iff];simp only[Bool.and_eq_true,gd,decide_eq_true_eq];cases d;cases q;simp only[aG.k,aG.p,aG.e,aG.c,aG.x,aG.f,aG.mk.injEq];exact⟨λ⟨a,b,c,d,e,f⟩=>⟨a,b,c,f,e,d⟩,λ⟨a,b,c,d,e,f⟩=>⟨a,b,c,f,e,d⟩⟩
theorem Tk (d q:Fn):cP d q=(decide (d.s=q.s)&&(cP d.p q.p&&cP d.b q.b)):=by
 rw[Bool.eq_iff_iff];simp only[Bool.and_eq_true,gd,decide_eq_true_eq];cases d;cases q;simp only[Fn.s,Fn.p,Fn.b,Fn.mk.injEq]
theorem Yf (l m:List aG)(vs:List Value)(hl:l.length<dQ)(hok:∀d,d∈l->d.ok)(hn:vs.length=l.length)(hvs:∀(i:Nat) d v,l[i]? = some d->vs[i]? = some v->Tj d v)
 (hE:∀d,d∈l->∀v,GH d.e v->∀q:aq,P0 18 [v,q.v] (.bool (cP d.e q))) (hF:∀d,d∈l->∀f,f∈d.f->∀q:aq,P0 18 [f.b.v,q.v] (.bool (cP f.b q))) (hlm:l.length=m.length) (H1:T OB) (av:Nat) (hA:Ag nx0 H0 av H1):
 Wq P pl X0 (.jump (tc (aM 17 vs) (ca m) (i64 ((0:Nat):Int)) H1 av)) nx0 H0 (.bool (cP l m)):=by
 have:=Wq.zip l m hlm (λi H nx=> .jump (tc (aM 17 vs) (ca m) (i64 (i:Int)) H nx)) true (λH1 av hA1=> ?_) (λi d q t u H1 av hg hg2 hlt hA1 ih'=> ?_) H1 av hA
 . rw[Bool.and_true]at this;exact this
 . refine Wq.jmp (IX ..) (λ_=>rfl) ?_;simp only[ab,az,List.length_map,hn,aA];exact Wq.ret hA1
 have hx:vs[i]? = some (vs[i]'(by omega)):=List.getElem?_eq_getElem _;generalize hv0:vs[i]'(by omega)=v at hx;have hv:=hvs i d v hg hx;have hx2:(m.map aG.v)[i]? = some q.v:=by simp[hg2]
 have hd:=List.mem_of_getElem? hg;have ok:=(aG.bm d).1 (hok d hd);refine Wq.jmp (IX ..) (λ_=>rfl) ?_;obtain⟨l1,l2,l3⟩:=Qk hv H1;simp only[ab,az,List.length_map,hn,aE hlt,Ac hx,Ac hx2,l1];refine Wq.alloc dx hA1 λH2 hb2 _ hA2=> ?_;refine Wq.alloc dx hA2 λH3 hb3 k3 hA3=> ?_;refine Wq.store (k3 _ _ _ (by omega) hb2) fJ (by simp) l2 l3 hA3 (by have:=hA1.1;omega) λH4 hb4 k4 hA4=> ?_;simp only[ab,l1,(Qk hv H4).1,S2];refine Wq.store (k4 _ _ _ (by omega) hb3) fJ (by simp) (M4 q) (M5 q) hA4 (by have:=hA1.1;omega) λH5 hb5 k5 hA5=> ?_;have hb1:cA H5 av v.cells.toList 54:=by
  have:=k5 _ _ _ (by omega) hb4;obtain⟨a1,a2,a3,a4,a5,a6,a7,a8,rfl,_⟩:=hv;exact this
 have hb2:cA H5 (av+1) q.cs 54:=by
  rw[aG.aW]at hb5;rw[aG.fe];exact hb5
 clear hb5 hb4 hb3 k3 k4 k5;obtain⟨a1,a2,a3,a4,a5,a6,a7,a8,rfl,i1,i2,i3,i4,i5,i6,i7,i8⟩:=hv;have D:=λH' (h:cA H' av (Value.agg ⟨[i64 d.k,i64 d.p.k,i64 d.p.n,au d.p.s,a1,i64 d.e.k,i64 d.e.n,au d.e.s,a2,a3,a4,a5,a6,au d.x.s,a7,au d.c.s,a8]⟩).cells.toList 54)=>Qj (H:=H') h;have L18:∀H' nx',Ag nx0 H0 nx' H'->cP d q=false->Wq P pl X0 (.jump (me (aM 17 vs) (ca m) (i64 (i:Int)) (.pointer (some ⟨av,0,none⟩)) (.pointer (some ⟨av+1,0,none⟩)) true H' nx')) nx0 H0 (.bool (cP d q&&(cP t u&&true))):=by
  intro H' nx' hA' h;refine Wq.jmp (IY ..) (λ_=>rfl) ?_;rw[h];exact Wq.ret hA'
 rw[M_]at L18 ⊢;simp only[ab,wu,wv,wx,oP,wy,wz,(D _ hb1).1,(qL hb2).1];refine Wq.gj (λg1=>L18 _ _ hA5 (by simp[g1])) (λg1=> ?_);rw[show decide (d.k=q.k)=true by simp[g1],Bool.true_and]at L18 ⊢;simp only[ab,(D _ hb1).2.1,(qL hb2).2.1];refine Wq.jc (Qh d.p ok.1 q.p _ ⟨a1,rfl,i1⟩) hA5 λH6 nx6 hA6 n6 k6=> ?_;replace hb1:=k6 _ _ _ (by omega) hb1;replace hb2:=k6 _ _ _ (by omega) hb2;cases g2:cP d.p q.p with
 | false=>rw[g2]at L18;simp only[ab];exact L18 _ _ hA6 rfl
 | true=>
 rw[g2,Bool.true_and]at L18;rw[Bool.true_and];simp only[ab,(D _ hb1).2.2.1,(qL hb2).2.2.1];refine Wq.jc (hE d hd _ ⟨a2,a3,a4,rfl,i2,i3,i4⟩ q.e) hA6 λH7 nx7 hA7 n7 k7=> ?_;replace hb1:=k7 _ _ _ (by omega) hb1;replace hb2:=k7 _ _ _ (by omega) hb2;cases g3:cP d.e q.e with
 | false=>rw[g3]at L18;simp only[ab];exact L18 _ _ hA7 rfl
 | true=>
 rw[g3,Bool.true_and]at L18;rw[Bool.true_and];simp only[ab,(D _ hb1).2.2.2.1,(qL hb2).2.2.2.1,Kd i5,wD,List.length_map];refine Wq.gj (λg4=>L18 _ _ hA7 (by rw[show cP d.f q.f=false from jG λh=>g4 (by rw[h])];simp)) (λg4=> ?_);have hfl:d.f.length=q.f.length:=by omega
 simp only[ab,(D _ hb1).2.2.2.2.2,(qL hb2).2.2.2.2.2];refine Wq.jc (Qi d.c q.c ok.2.2.2.2 _ ⟨a8,rfl,i8⟩) hA7 λH8 nx8 hA8 n8 k8=> ?_;replace hb1:=k8 _ _ _ (by omega) hb1;replace hb2:=k8 _ _ _ (by omega) hb2;cases g5:cP d.c q.c with
 | false=>rw[g5]at L18;simp only[ab];exact L18 _ _ hA8 rfl
 | true=>
 rw[g5,Bool.true_and]at L18;rw[Bool.true_and];simp only[ab,(D _ hb1).2.2.2.2.1,(qL hb2).2.2.2.2.1];refine Wq.jc (V8 d.x q.x ok.2.2.2.1 _ ⟨a6,a7,rfl,i6,i7⟩) hA8 λH9 nx9 hA9 n9 k9=> ?_;replace hb1:=k9 _ _ _ (by omega) hb1;replace hb2:=k9 _ _ _ (by omega) hb2;cases g6:cP d.x q.x with
 | false=>rw[g6]at L18;simp only[ab];exact L18 _ _ hA9 rfl
 | true=>
 rw[Bool.true_and];simp only[ab];refine Wq.jmp (IY ..) (λ_=>rfl) ?_;have hn1:nx0<=av:=hA1.1;have hn9:av+2<=nx9:=by omega
 clear L18 g1 g2 g3 g4 g5 g6 n6 n7 n8 n9 k6 k7 k8 k9 hA5 hA6 hA7 hA8 hA4 hA3 hA2;refine Wq.Ye (λH nx=>(cA H av (Value.agg ⟨[i64 d.k,i64 d.p.k,i64 d.p.n,au d.p.s,a1,i64 d.e.k,i64 d.e.n,au d.e.s,a2,a3,a4,a5,a6,au d.x.s,a7,au d.c.s,a8]⟩).cells.toList 54/\cA H (av+1) q.cs 54)/\av+2<=nx) d.f q.f hfl (λj H nx=> .jump (wL (aM 17 vs) (ca m) (i64 (i:Int)) (.pointer (some ⟨av,0,none⟩)) (.pointer (some ⟨av+1,0,none⟩)) (i64 (j:Int)) H nx)) _ (λHz nz hI hB1=> ?_) (λj a b t' u' Hz nz kg kg2 klt hI hB1 jh=> ?_) _ _ ⟨⟨hb1,hb2⟩,hn9⟩ hA9
 . refine Wq.jmp (IZ ..) (λ_=>rfl) ?_;simp only[ab,oP,(D _ hI.1.1).2.2.2.1,Kd i5,List.length_map,aA,ao (show i<9223372036854775807 by have:=cM hl;omega)];exact ih' _ _ hB1
 have jx:(d.f.map Fn.v)[j]? = some a.v:=by simp[kg]
 have jx2:(q.f.map Fn.v)[j]? = some b.v:=by simp[kg2]
 have ha:=List.mem_of_getElem? kg;have e5:a5=tB d.f:=by
  rcases i5 with h | ⟨h,_⟩
  . exact h
  . rw[h]at jx;cases jx
 subst e5;have oka:=(Fn.bm a).1 (ok.2.2.1.2 a ha);obtain⟨⟨hb1,hb2⟩,hn2⟩:=hI;refine Wq.jmp (IZ ..) (λ_=>rfl) ?_;simp only[ab,az,List.length_map,oP,(D _ hb1).2.2.2.1,(qL hb2).2.2.2.1,aE klt,Ea jx,Ea jx2];refine Wq.alloc hU hB1 λH2 hc1 s2 hB2=> ?_;refine Wq.alloc hU hB2 λH3 hc2 s3 hB3=> ?_;replace hb1:=s3 _ _ _ (by omega) (s2 _ _ _ (by omega) hb1);replace hb2:=s3 _ _ _ (by omega) (s2 _ _ _ (by omega) hb2);refine Wq.store (s3 _ _ _ (by omega) hc1) mc (by simp) (XL a) (XM a) hB3 (by have:=hB1.1;omega) λH4 hc1 s4 hB4=> ?_;replace hb1:=s4 _ _ _ (by omega) hb1;replace hb2:=s4 _ _ _ (by omega) hb2;simp only[ab,Yc,(qL hb2).2.2.2.1];refine Wq.store (s4 _ _ _ (by omega) hc2) mc (by simp) (XL b) (XM b) hB4 (by have:=hB1.1;omega) λH5 hc2 s5 hB5=> ?_;replace hb1:=s5 _ _ _ (by omega) hb1;replace hb2:=s5 _ _ _ (by omega) hb2;replace hc1:cA H5 nz a.cs 64:=by
  have:=s5 _ _ _ (by omega) hc1;rw[Fn.aW]at this;rw[Fn.fe];exact this
 replace hc2:cA H5 (nz+1) b.cs 64:=by
  rw[Fn.aW]at hc2;rw[Fn.fe];exact hc2
 clear s2 s3 s4 s5 hB2 hB3 hB4;have M30:∀(r:Bool) H' nx',nz<=nx'->r=cP a b->cA H' av (Value.agg ⟨[i64 d.k,i64 d.p.k,i64 d.p.n,au d.p.s,a1,i64 d.e.k,i64 d.e.n,au d.e.s,a2,a3,a4,tB d.f,a6,au d.x.s,a7,au d.c.s,a8]⟩).cells.toList 54->cA H' (av+1) q.cs 54->Ag nx0 H0 nx' H'->Wq P pl X0 (.jump (td (aM 17 vs) (ca m) (i64 (i:Int)) (.pointer (some ⟨av,0,none⟩)) (.pointer (some ⟨av+1,0,none⟩)) (i64 (j:Int)) (!r) H' nx')) nx0 H0 (.bool (cP a b&&(cP t' u'&&(cP t u&&true)))):=by
  intro r H' nx' hn hr g1 g2 hA';refine Wq.jmp (RH ..) (λ_=>rfl) ?_;rw[<- hr];cases r with
  | false=>exact Wq.ret hA'
  | true=>
    simp only[ab,Bool.true_and,ao (show j<9223372036854775807 by have:=cM ok.2.2.1.1;omega)];exact jh _ _ ⟨⟨g1,g2⟩,by omega⟩ hA'
 have hz:=Tk a b;simp only[ab,wA,wB,wC,(vm hc1).1,(vm hc2).1,dz];refine Wq.gj (λg1=>M30 false _ _ (by omega) (by rw[hz];simp[g1]) hb1 hb2 hB5) (λg1=> ?_);simp only[ab,(vm hc1).2.1,(vm hc2).2.1];refine Wq.jc (Kb a.p b.p oka.2.1.1 oka.2.1.2) hB5 λH6 nx6 hB6 n6 k6=> ?_;replace hb1:=k6 _ _ _ (by omega) hb1;replace hb2:=k6 _ _ _ (by omega) hb2;replace hc1:=k6 _ _ _ (by omega) hc1;replace hc2:=k6 _ _ _ (by omega) hc2;cases g2:cP a.p b.p with
 | false=>simp only[ab];exact M30 false _ _ (by omega) (by rw[hz];simp[g2]) hb1 hb2 hB6
 | true=>
 simp only[ab,(vm hc1).2.2,(vm hc2).2.2];refine Wq.jc (hF d hd a ha b.b) hB6 λH7 nx7 hB7 n7 k7=> ?_;replace hb1:=k7 _ _ _ (by omega) hb1;replace hb2:=k7 _ _ _ (by omega) hb2;simp only[ab];exact M30 _ _ _ (by omega) (by rw[hz];simp[g1,g2]) hb1 hb2 hB7
theorem tF (es:List Value)(H:T OB)(nx:Nat)(k:Value->T OB->Nat->Q):fl P 23 (aM 17 es) H nx k=k (aM 17 es) H nx:=by kernel_rfl
theorem Ql (l m:List aG)(hl:l.length<dQ)(hok:∀d,d∈l->d.ok)(hE:∀d,d∈l->∀v,GH d.e v->∀q:aq,P0 18 [v,q.v] (.bool (cP d.e q)))(hF:∀d,d∈l->∀f,f∈d.f->∀q:aq,P0 18 [f.b.v,q.v] (.bool (cP f.b q))):P0 11 [ca l,ca m] (.bool (cP l m)):=Pure.of rfl λH nx=>by
 rw[Vy,tF,tF];simp only[ab,az,List.length_map];refine Wq.gj (λh=> ?_) (λh=> ?_)
 . exact Wq.gF (by rw[jG (λq=>h (by rw[q]))]) (.refl _ _)
 exact Yf l m _ hl hok (by simp) (λi d v h1 h2=>by
  rw[List.getElem?_map,h1]at h2;cases h2;exact d.vv) hE hF (by omega) _ _ (.refl _ _)
def je (e:aq):Prop:=∀(q:aq) (v:Value),GH e v->P0 18 [v,q.v] (.bool (cP e q))
theorem E2:(∀e:aq,e.ok->je e)/\∀d:aG,d.ok->je d.e/\∀f,f∈d.f->je f.b:=by
 have A:∀e:aq,(∀c,c∈e.l->c.ok->je c)->(∀d,d∈e.d->d.ok->je d.e/\∀f,f∈d.f->je f.b)->e.ok->je e:=λe h1 h2 h q v hv=>by
  have h':=(aq.bm e).1 h;exact Ti e q h v hv (λa ha b=>h1 a ha (h'.2.2.1.2 a ha) b _ a.vv) λm=>Ql e.d m h'.2.2.2.2.1 h'.2.2.2.2.2 (λd hd v hv q=>(h2 d hd (h'.2.2.2.2.2 d hd)).1 q v hv) λd hd f hf q=>(h2 d hd (h'.2.2.2.2.2 d hd)).2 f hf q _ f.b.vv
 have B:∀d:aG,(d.e.ok->je d.e)->(∀f,f∈d.f->f.b.ok->je f.b)->d.ok->je d.e/\∀f,f∈d.f->je f.b:=λd h1 h2 h=>by
  have h':=(aG.bm d).1 h;exact⟨h1 h'.2.1,λf hf=>h2 f hf ((Fn.bm f).1 (h'.2.2.1.2 f hf)).2.2⟩
 exact⟨aq.ind A B,aG.ind A B⟩
end
section
variable {nx0:Nat}{H0:T OB}
theorem Na:bT P 9=some [.string ⟨⟨[]⟩⟩]:=by kernel_rfl
def il:List (List UInt8):=[[111,114,101,108,115,101],[97,110,100,97,108,115,111],[58,61],[61],[60,62],[60],[60,61],[62],[62,61],[58,58],[43],[45],[94],[42],[100,105,118],[109,111,100]]
theorem Yg (a:UInt8)(r:List UInt8):cC P 9 (some (au (a::r))) (some (.int .i64 0))=some (b8 a):=by
 have:=bD (P:=P) bl (l:=a::r) (i:=0) (c:=a) rfl .i64;exact this
theorem Za (a b:UInt8)(r:List UInt8):cC P 9 (some (au (a::b::r))) (some (.int .i64 1))=some (b8 b):=bD (P:=P) bl (l:=a::b::r) (i:=1) (c:=b) rfl .i64
theorem Zb (a b c:UInt8)(r:List UInt8):cC P 9 (some (au (a::b::c::r))) (some (.int .i64 2))=some (b8 c):=bD (P:=P) bl (l:=a::b::c::r) (i:=2) (c:=c) rfl .i64
end
section
variable {nx0:Nat}{H0:T OB}
def first(s:List UInt8)(n:Nat):Bool:=match s with
 | []=>false
 | c::_=>decide (c.toNat=n)
theorem Qm:P.underlying 2=some (.int .i64):=by kernel_rfl
theorem E3:P.underlying 3=some (.int .i64):=by kernel_rfl
theorem vn:P.underlying 5=some (.int .u8):=by kernel_rfl
theorem jW:bT P 5=some [.int .u8 0]:=by kernel_rfl
theorem Tl (H:T OB)(k:IntKind)(n:Int):dk P H 5 2 (some (.int k n))=some (i64 (IntKind.i64.wrap n)):=jb vn Qm
theorem Ke (H:T OB)(k:IntKind)(n:Int):dk P H 5 3 (some (.int k n))=some (i64 (IntKind.i64.wrap n)):=jb vn E3
theorem To (H:T OB)(n:Int):dk P H 3 5 (some (i64 n))=some (.int .u8 (IntKind.u8.wrap n)):=jb E3 vn
theorem Tp (H:T OB)(a:Int):cZ P H .quo 2 true (some (i64 a)) (some (i64 10))=some (i64 (IntKind.i64.wrap (a.tdiv 10))):=p6 _ _ _ _ _ (by decide)
theorem wrap_u8 (n:Int):IntKind.u8.wrap n=n%256:=by
 unfold IntKind.wrap;simp[IntKind.bits,IntKind.signed]
end
section
variable {nx0:Nat}{H0:T OB}
theorem lf {H:T OB}{l:List UInt8}{lo:Nat}(h1:lo<=l.length):bA P H 9 (some (au l)) (some (some (i64 (lo:Int)))) (some none) (some none)=some (au (l.drop lo)):=by
 show rQ P 9 (au l) (some (some (i64 (lo:Int)))) (some none) (some none)=_;show fV P (Instr.sliceAt 9 (au l) (some (i64 (lo:Int))) none none)=_;have e0:(⟨⟨l⟩⟩:ByteArray).extract lo l.length=⟨⟨l.drop lo⟩⟩:=by
  apply ByteArray.ext;rw[ByteArray.data_extract];apply Array.ext';simp[List.take_of_length_le]
 have e1:cb P (Instr.sliceAt 9 (au l) (some (i64 (lo:Int))) none none)=some (au (l.drop lo)):=by
  unfold Instr.sliceAt;simp only[bE,dc bl,Option.bind_some];unfold Instr.slice;simp only[bE,dc bl,Option.bind_some];unfold Instr.sliceBounds Instr.sliceBound;simp only[bE,asIntOf,Option.isSome];have pp:∀{α:Type} (a:α),cb P (pure a:Sem α)=some a:=λ_=>rfl;rw[if_neg (by decide)];simp only[bE,pp,Option.bind_some];have c2:(0:Int)<=(lo:Int)/\(lo:Int)<=((⟨⟨l⟩⟩:ByteArray).size:Int):=⟨by omega,by rw[aY];omega⟩;rw[if_pos c2];simp only[pp,Option.bind_some,Int.toNat_natCast,aY,e0]
 exact tz e1 rfl
theorem BS.cc {nx0:Nat}{e:TypeId}{nx nx':Nat}{H H':T OB}{r:List UInt8}{sl:Value}(h:BS e nx0 H nx r sl)(hn:nx<=nx')(hk:∀b l e,b<nx->cA H b l e->cA H' b l e):BS e nx0 H' nx' r sl:=by
 rcases h with h | ⟨b,c,h1,h2,h3,h4,h5⟩
 . exact .inl h
 . exact .inr ⟨b,c,h1,by omega,hk _ _ _ h2 h3,h4,h5⟩
theorem Yh (n:Nat):br P 5 1 n=(Nat.ble n 1048576&&true):=by kernel_rfl
theorem ki {n:Nat}(h:n<=1048576):br P 5 1 n=true:=by rw[Yh,Nat.ble_eq_true_of_le h];rfl
theorem V9 (c:UInt8):Instr.fill (λi=>some (i*1,1)) (bH [Value.int .u8 0] (1*1)) [(0,b8 c)]=some ⟨hZ [c]⟩:=by kernel_rfl
theorem Nb:eJ P 92 9=true:=by kernel_rfl
def aU (k:Int)(s:List UInt8):Bool:=aV ⟨k,s,0,0⟩
theorem Kf (s:List UInt8):aU 3 s=(isWord s&&decide (kh s=3)):=by simp[aU,aV]
theorem Kg (s:List UInt8):aU 4 s=(isWord s&&decide (kh s=4)):=by simp[aU,aV]
theorem Kh (s:List UInt8):aU 5 s=isVar s:=by simp[aU,aV]
theorem ym (n:Int):a9 P 70 (some [(0,i64 1),(2,i64 n)])=some (Tok.v ⟨1,[],n,0⟩):=aX dS (by kernel_rfl)
theorem gf (k:Int)(s:List UInt8):a9 P 70 (some [(0,i64 k),(1,au s)])=some (Tok.v ⟨k,s,0,0⟩):=aX dS (by kernel_rfl)
end
section
variable {nx0:Nat}{H0:T OB}
mutual
def aB.z:aB->Nat
 | .mk _ _ s l=>1+s.length/8+bB l
def bB:List aB->Nat
 | []=>0
 | p::l=>p.z+bB l
end
mutual
def aO.z:aO->Nat
 | .mk _ s l=>1+s.length/8+eF l
def eF:List aO->Nat
 | []=>0
 | p::l=>p.z+eF l
end
def cS.z (c:cS):Nat:=1+c.s.length/8+eF c.arg
def dT:List (List UInt8)->Nat
 | []=>0
 | s::l=>1+s.length/8+dT l
def fw:List cS->Nat
 | []=>0
 | c::l=>c.z+fw l
def Data.z (x:Data):Nat:=dT x.vars+x.s.length/8+fw x.cons
mutual
def aq.z:aq->Nat
 | .mk _ _ s l p d=>1+s.length/8+bO l+bB p+ek d
def aG.z:aG->Nat
 | .mk _ p e f x c=>1+p.z+e.z+jf f+x.z+c.z
def Fn.z:Fn->Nat
 | .mk s p b=>1+s.length/8+b.z+bB p
def bO:List aq->Nat
 | []=>0
 | e::l=>e.z+bO l
def ek:List aG->Nat
 | []=>0
 | e::l=>e.z+ek l
def jf:List Fn->Nat
 | []=>0
 | e::l=>e.z+jf l
end
theorem aB.fY (p:aB):p.z=1+p.s.length/8+bB p.l:=by cases p;rw[aB.z];rfl
theorem aO.fY (p:aO):p.z=1+p.s.length/8+eF p.l:=by cases p;rw[aO.z];rfl
theorem aq.fY (e:aq):e.z=1+e.s.length/8+bO e.l+bB e.p+ek e.d:=by cases e;rw[aq.z];rfl
theorem aG.fY (d:aG):d.z=1+d.p.z+d.e.z+jf d.f+d.x.z+d.c.z:=by cases d;rw[aG.z];rfl
theorem Fn.fY (f:Fn):f.z=1+f.s.length/8+f.b.z+bB f.p:=by cases f;rw[Fn.z];rfl
theorem GI (l:List aB):l.length<=bB l:=by
 induction l with
 | nil=>simp
 | cons a l ih=>
   rw[bB,List.length_cons];have:1<=a.z:=by rw[aB.fY];omega
   omega
theorem Ki (l:List aO):l.length<=eF l:=by
 induction l with
 | nil=>simp
 | cons a l ih=>
   rw[eF,List.length_cons];have:1<=a.z:=by rw[aO.fY];omega
   omega
def kj (k n:Int)(s:List UInt8)(l:List aB):Bool:=
 (decide (k=3)||decide (n=0))&&(
 if k=1 then decide (s=[])&&decide (l.length=0)
 else if k=2 then aU 3 s&&decide (l.length=0)
 else if k=3 then decide (s=[])&&(decide (l.length=0)&&(decide (-4611686018427387903<=n)&&decide (n<=4611686018427387903)))
 else if k=4 then decide (l.length=0)
 else if k=5 then decide (s=[]) && !decide (l.length=1)
 else if k=6 then if s=[58,58]then(match l with | [q]=>decide (q.k=5)&&decide (q.l.length=2) | _=>false)else aU 4 s&&decide (l.length<=1)
 else false)
mutual
def bx:aB->Bool
 | .mk k n s l=>bz l&&kj k n s l
def bz:List aB->Bool
 | []=>true
 | p::l=>bx p&&bz l
end
theorem h_ (p:aB):bx p=(bz p.l&&kj p.k p.n p.s p.l):=by cases p;rw[bx];rfl
def Ay (k:Int)(s:List UInt8)(n:Nat):Bool:=
 if k=1 then decide (n=0)&&aU 5 s
 else if k=2 then decide (s=[114,101,102])||aU 3 s
 else if k=3 then decide (n=2)&&decide (s=[])
 else if k=4 then decide (2<=n)&&decide (s=[])else false
mutual
def im:aO->Bool
 | .mk k s l=>lE l&&Ay k s l.length
def lE:List aO->Bool
 | []=>true
 | p::l=>im p&&lE l
end
theorem yn (p:aO):im p=(lE p.l&&Ay p.k p.s p.l.length):=by cases p;rw[im];rfl
def jg (c:cS):Bool:=aU 4 c.s&&(decide (c.arg.length<=1)&&lE c.arg)
def jX:List cS->Bool
 | []=>true
 | c::l=>jg c&&jX l
def jY:List (List UInt8)->Bool
 | []=>true
 | s::l=>aU 5 s&&jY l
def kl (e:aq):aq:= .mk e.k (if e.k=1 then e.n else 0) (if e.k=2\/e.k=3\/e.k=4\/e.k=14\/e.k=15 then e.s else[]) (if e.k=1\/e.k=2\/e.k=3\/e.k=4 then[]else e.l) (if e.k=7\/e.k=9\/e.k=12 then e.p else[]) (if e.k=10 then e.d else[])
abbrev Tq:aB:= .mk 0 0 [] []
abbrev Tr:aq:= .mk 0 0 [] [] [] []
abbrev Kj:Data:=⟨[],[],[]⟩
abbrev Ts:cS:=⟨[],[]⟩
def dL (d:aG):aG:= .mk d.k (if d.k=1 then d.p else Tq) (if d.k=1\/d.k=5 then d.e else Tr) (if d.k=2 then d.f else[]) (if d.k=3 then d.x else Kj) (if d.k=4 then d.c else Ts)
def fx (k n:Int)(s:List UInt8)(len np:Nat)(ds:List aG):Bool:=
 if k=1 then decide (0<=n)&&decide (n<=4611686018427387903)
 else if k=2 then true
 else if k=3 then aU 3 s
 else if k=4 then aU 4 s
 else if k=5 then !decide (len=1)
 else if k=13 then decide (1<len)
 else if k=6 then decide (len=2)
 else if k=7 then decide (0<len)&&decide (np=len)
 else if k=8 then decide (len=3)
 else if k=9\/k=12 then decide (1<len)&&decide (np+1=len)
 else if k=11 then decide (len=1)
 else if k=14 then decide (len=2)&&il.contains s
 else if k=15 then decide (len=1)&&cX.contains s
 else if k=10 then(ds.all λd=>decide (d.k=1)||decide (d.k=2))&&decide (len=1)
 else false
mutual
def bh:aq->Bool
 | .mk k n s l p d=>ba l&&(cP (kl (.mk k n s l p d)) (.mk k n s l p d)&&(bz p&&(de d&&fx k n s l.length p.length d)))
def eo:aG->Bool
 | .mk k p e f x c=>if k=1 then cP (dL (.mk k p e f x c)) (.mk k p e f x c)&&(bx p&&bh e)
   else if k=5 then cP (dL (.mk k p e f x c)) (.mk k p e f x c)&&bh e
   else if k=2 then qM f&&(decide (0<f.length)&&cP (dL (.mk k p e f x c)) (.mk k p e f x c))
   else if k=3 then jY x.vars&&(jX x.cons&&(aU 3 x.s&&(decide (0<x.cons.length)&&cP (dL (.mk k p e f x c)) (.mk k p e f x c))))
   else if k=4 then jg c&&cP (dL (.mk k p e f x c)) (.mk k p e f x c)
   else false
def E4:Fn->Bool
 | .mk s p b=>aU 3 s&&(decide (0<p.length)&&(bz p&&bh b))
def ba:List aq->Bool
 | []=>true
 | e::l=>bh e&&ba l
def de:List aG->Bool
 | []=>true
 | e::l=>eo e&&de l
def qM:List Fn->Bool
 | []=>true
 | e::l=>E4 e&&qM l
end
theorem yo (e:aq):bh e=(ba e.l&&(cP (kl e) e&&(bz e.p&&(de e.d&&fx e.k e.n e.s e.l.length e.p.length e.d)))):=by cases e;rw[bh];rfl
theorem tG (e:Fn):E4 e=(aU 3 e.s&&(decide (0<e.p.length)&&(bz e.p&&bh e.b))):=by cases e;rw[E4];rfl
theorem iN (d:aG):eo d=(if d.k=1 then cP (dL d) d&&(bx d.p&&bh d.e)
 else if d.k=5 then cP (dL d) d&&bh d.e
 else if d.k=2 then qM d.f&&(decide (0<d.f.length)&&cP (dL d) d)
 else if d.k=3 then jY d.x.vars&&(jX d.x.cons&&(aU 3 d.x.s&&(decide (0<d.x.cons.length)&&cP (dL d) d)))
 else if d.k=4 then jg d.c&&cP (dL d) d else false):=by cases d;rw[eo];rfl
end
section
variable {nx0:Nat}{H0:T OB}
theorem jH (n:Nat):decide ((n:Int)=0)=decide (n=0):=by rw[decide_eq_decide];omega
theorem nat_eq (n:Nat)(m:Nat):decide ((n:Int)=(m:Int))=decide (n=m):=by rw[decide_eq_decide];omega
theorem E5 (n:Nat):decide ((n:Int)=1)=decide (n=1):=nat_eq n 1
theorem yp (n:Nat):decide ((n:Int)=2)=decide (n=2):=nat_eq n 2
theorem E6 (n:Nat):decide ((n:Int)<=1)=decide (n<=1):=by rw[decide_eq_decide];omega
theorem Nc (n:Nat):decide (2<=(n:Int))=decide (2<=n):=by rw[decide_eq_decide];omega
theorem jI (n:Nat):decide (1<(n:Int))=decide (1<n):=by rw[decide_eq_decide];omega
theorem jJ (n:Nat):decide (0<(n:Int))=decide (0<n):=by rw[decide_eq_decide];omega
end
section
variable {nx0:Nat}{H0:T OB}
theorem Tt (a:Nat)(b:Nat):decide ((a:Int)<(b:Int))=decide (a<b):=by rw[decide_eq_decide];omega
end
section
variable {nx0:Nat}{H0:T OB}
abbrev ptr (b:Nat):Value:= .pointer (some ⟨b,0,none⟩)
abbrev Az (l:List Tok):List Value:=l.flatMap Tok.c
theorem AA (l:List Tok):(Az l).length=l.length*4:=by
 induction l with
 | nil=>rfl
 | cons a l ih=>
   show(a.c++Az l).length=_;rw[List.length_append,ih,List.length_cons];show 4+l.length*4=(l.length+1)*4;omega
def TS (nx0:Nat)(H:T OB)(nx:Nat)(l:List Tok)(sl:Value):Prop:=(l=[]/\sl= .slice none 0 0)\/∃b,nx0<=b/\b<nx/\cA H b (Az l) 70/\sl= .slice (some ⟨b,0,none⟩) l.length eO
def Out (fr:Nat->List Value->TypeId->Prop)(bp nx0:Nat)(H:T OB)(nx:Nat)(l:List Tok)(b:Bool):Prop:=nx0<=bp/\bp<nx/\∃sl,cA H bp [sl,.bool b] 88/\TS nx0 H nx l sl/\(∀c o n u,sl= .slice (some ⟨c,o,none⟩) n u->c≠bp)/\∀x l e,fr x l e->x<nx/\cA H x l e/\x≠bp/\∀c o n u,sl= .slice (some ⟨c,o,none⟩) n u->c≠x
theorem Out.cc {fr:Nat->List Value->TypeId->Prop}{bp nx nx':Nat}{H H':T OB}{l:List Tok}{b:Bool}(h:Out fr bp nx0 H nx l b)(hn:nx<=nx')(hk:∀b l e,b<nx->cA H b l e->cA H' b l e):Out fr bp nx0 H' nx' l b:=by
 obtain⟨h1,h2,sl,h3,h4,h5,h6⟩:=h;refine⟨h1,by omega,sl,hk _ _ _ h2 h3,?_,h5,λx l e hx=>by
  obtain⟨a,b,c⟩:=h6 x l e hx;exact⟨by omega,hk _ _ _ a b,c⟩⟩
 rcases h4 with h | ⟨c,q1,q2,q3,q4⟩
 . exact .inl h
 . exact .inr ⟨c,q1,by omega,hk _ _ _ q2 q3,q4⟩
def Go (l0:List Tok)(b0:Bool)(ok:Bool)(ts:List Tok)(n:Nat)(l:List Tok)(b:Bool):Prop:=b=(b0 || !ok)/\(b=false->l=l0++ts)/\l.length<=l0.length+n
theorem Go.start (l:List Tok)(b:Bool):Go l b true [] 0 l b:=⟨by simp,λ_=>by simp,by omega⟩
theorem Go.trans {l0 l1 l2 ts1 ts2:List Tok}{b0 b1 b2 ok1 ok2:Bool}{n1 n2:Nat}(h1:Go l0 b0 ok1 ts1 n1 l1 b1)(h2:Go l1 b1 ok2 ts2 n2 l2 b2):Go l0 b0 (ok1&&ok2) (ts1++ts2) (n1+n2) l2 b2:=by
 obtain⟨a1,a2,a3⟩:=h1;obtain⟨c1,c2,c3⟩:=h2;refine⟨by rw[c1,a1];cases b0<;>cases ok1<;>cases ok2<;>rfl,λh=> ?_,by omega⟩;rw[c2 h];have:b1=false:=by rw[h]at c1;cases b1 with
  | false=>rfl
  | true=>simp at c1
 rw[a2 this,List.append_assoc]
def St (fr:Nat->List Value->TypeId->Prop)(bp nx0:Nat)(H0:T OB)(l0:List Tok)(b0:Bool)(ok:Bool)(ts:List Tok)(n:Nat)(H:T OB)(nx:Nat):Prop:=dY nx0 H0/\Ag nx0 H0 nx H/\∃l b,Out fr bp nx0 H nx l b/\Go l0 b0 ok ts n l b
variable {fr:Nat->List Value->TypeId->Prop}{bp:Nat}{l0:List Tok}{b0:Bool}
theorem St.cc {ok:Bool}{ts:List Tok}{n nx nx':Nat}{H H':T OB}(h:St fr bp nx0 H0 l0 b0 ok ts n H nx)(hA:Ag nx H nx' H'):St fr bp nx0 H0 l0 b0 ok ts n H' nx':=by
 obtain⟨h0,h1,l,b,h2,h3⟩:=h;exact⟨h0,h1.trans hA,l,b,h2.cc hA.1 λb l e hb hi=>hi.ag hA hb,h3⟩
theorem St.Kk {ok:Bool}{ts:List Tok}{n nx nx':Nat}{H H':T OB}(h:St fr bp nx0 H0 l0 b0 ok ts n H nx)(hA:Ag nx0 H0 nx' H')(hn:nx<=nx')(hk:∀b l e,b<nx->cA H b l e->cA H' b l e):St fr bp nx0 H0 l0 b0 ok ts n H' nx':=by
 obtain⟨h0,h1,l,b,h2,h3⟩:=h;exact⟨h0,hA,l,b,h2.cc hn hk,h3⟩
theorem St.mono {ok ok':Bool}{ts ts':List Tok}{n n' nx:Nat}{H:T OB}(h:St fr bp nx0 H0 l0 b0 ok ts n H nx)(e:ok=ok')(et:ok'=true->ts=ts')(en:n<=n'):St fr bp nx0 H0 l0 b0 ok' ts' n' H nx:=by
 obtain⟨h0,h1,l,b,h2,h3,h4,h5⟩:=h;refine⟨h0,h1,l,b,h2,by rw[h3,e],λq=> ?_,by omega⟩;have:ok'=true:=by
  rw[q,e]at h3;cases ok' with
  | true=>rfl
  | false=>cases b0<;>cases h3
 rw[h4 q,et this]
abbrev dW (fr:Nat->List Value->TypeId->Prop)(bp nx0:Nat)(H0:T OB)(l0:List Tok)(b0:Bool)(ok:Bool)(ts:List Tok)(n:Nat):Value->T OB->Nat->Prop:=λu H nx=>u= .tuple ⟨[]⟩/\St fr bp nx0 H0 l0 b0 ok ts n H nx
theorem Wq.done {ok ok':Bool}{ts ts':List Tok}{n n' nx:Nat}{H:T OB}(h:St fr bp nx0 H0 l0 b0 ok ts n H nx)(e:ok=ok')(et:ok'=true->ts=ts')(en:n<=n'):dJ P pl X0 (.ret ⟨.ret (.tuple ⟨[]⟩),false,H,nx⟩) nx0 H0 (dW fr bp nx0 H0 l0 b0 ok' ts' n'):=Wq.uu h.2.1 ⟨rfl,h.mono e et en⟩
def gH (f:FuncId)(args:List Value)(ok:Bool)(ts:List Tok)(n:Nat):Prop:=∀fr bp nx0 H0 l0 b0 H nx,l0.length+n<=100000->St fr bp nx0 H0 l0 b0 true [] 0 H nx->dJ P pl X0 (aI P pl (.call f (ptr bp::args) false none H nx)) nx0 H0 (dW fr bp nx0 H0 l0 b0 ok ts n)
variable {ok:Bool}{ts:List Tok}{n nx:Nat}{H:T OB}{R:Value->T OB->Nat->Prop}
theorem Wq.aZ {f:FuncId}{args:List Value}{ok':Bool}{ts':List Tok}{n':Nat}{k p:Value->T OB->Nat->Q}(h:gH f args ok' ts' n')(hx:X0 f (ptr bp::args)=none)(hS:St fr bp nx0 H0 l0 b0 ok ts n H nx)(hl:l0.length+(n+n')<=100000)
 (hk:∀u H' nx',St fr bp nx0 H0 l0 b0 (ok&&ok') (ts++ts') (n+n') H' nx'->dJ P pl X0 (k u H' nx') nx0 H0 R):dJ P pl X0 (bQ (.call f (ptr bp::args) false none H nx) k p) nx0 H0 R:=by
 obtain⟨h0,h1,l,b,h2,h3⟩:=hS;refine Wq.va hx (h fr bp nx0 H0 l b H nx (by have:=h3.2.2;omega) ⟨h0,h1,l,b,h2,.start l b⟩) λu H' nx' hA hu=> ?_;obtain⟨_,q0,q1,l',b',q2,q3⟩:=hu;exact hk u H' nx' ⟨q0,q1,l',b',q2,h3.trans q3⟩
theorem Wq.nr {f:FuncId}{args:List Value}{u:Value}{k p:Value->T OB->Nat->Q}(h:P0 f args u)(hS:St fr bp nx0 H0 l0 b0 ok ts n H nx)(hk:∀H' nx',St fr bp nx0 H0 l0 b0 ok ts n H' nx'->dJ P pl X0 (k u H' nx') nx0 H0 R):dJ P pl X0 (bQ (.call f args false none H nx) k p) nx0 H0 R:=
 Wq.jc h hS.2.1 λH' nx' hA hn hkp=>hk H' nx' (hS.Kk hA hn hkp)
theorem Wq.B8 {f:FuncId}{args:List Value}{u:Value}{k p:Value->T OB->Nat->Q}(h:PT f args u)(hS:St fr bp nx0 H0 l0 b0 ok ts n H nx)(hk:∀H' nx',St fr bp nx0 H0 l0 b0 ok ts n H' nx'->dJ P pl X0 (k u H' nx') nx0 H0 R):dJ P pl X0 (bQ (.call f args false none H nx) k p) nx0 H0 R:=by
 obtain⟨H1,av,h1,h2⟩:=h H nx (hS.1.ag hS.2.1);obtain⟨v,H2,nx2,h3,hR,h4⟩:=hk H1 av (hS.cc h1);refine⟨v,H2,nx2,h3,hR,?_⟩;show af (F P pl X0 (.call f args false none H nx)) (λr=>(match r.o with | .ret v=>k v r.H r.nx | .gv v=>p v r.H r.nx:Q).run (F P pl X0)) none=_;rw[h2];exact h4
theorem St.succ (h:St fr bp nx0 H0 l0 b0 ok ts n H nx):St fr bp nx0 H0 l0 b0 ok ts n H (nx+1):=h.cc (Ag.refl nx H).succ
theorem Wq.qf {k:Nat->Q}(h:St fr bp nx0 H0 l0 b0 ok ts n H nx)(hk:St fr bp nx0 H0 l0 b0 ok ts n H (nx+1)->dJ P pl X0 (k (nx+1)) nx0 H0 R):dJ P pl X0 (Ev.bo (Nat.succ nx) k) nx0 H0 R:=Wq.bo (hk h.succ)
theorem Wq.fi {e t:TypeId}{l:List Value}{s:Nat}{x:Value}{k:T OB->Nat->Q}(hz:bT P e=some l)(hs:aN P t=some s)(hl:l.length=s)(hx:x.cells.toList.length=s)(hone:x.cells.toList.all aj=true)
 (h:St fr bp nx0 H0 l0 b0 ok ts n H nx) (hk:∀H' nx',St fr bp nx0 H0 l0 b0 ok ts n H' nx'->dJ P pl X0 (k H' nx') nx0 H0 R):dJ P pl X0 (aR (cD P H nx e) λp H nx=>cV P H nx t (some p) x k) nx0 H0 R:=
 Wq.Rv hz hs hl hx hone h.2.1 λH' nx' hA hn hkp=>hk H' nx' (h.Kk hA hn hkp)
theorem St.bad (h:St fr bp nx0 H0 l0 b0 ok ts n H nx):ai P H 4 (some (.pointer (some ⟨bp,1,none⟩)))=some (.bool (b0 || !ok)):=by
 obtain⟨_,_,l,b,⟨_,_,sl,h1,_,_⟩,h3,_⟩:=h;rw[ah h1 IT rfl,h3]
theorem Kl {n:Nat}(h:n<=1048576):br P 70 4 n=true:=by
 have:br P 70 4 n=(Nat.ble n 1048576&&true):=by kernel_rfl
 rw[this,Nat.ble_eq_true_of_le h];rfl
theorem Km (a b c d:Value):Instr.fill (λi=>some (i*4,4)) (bH [Value.int .i64 0,Value.string ⟨⟨[]⟩⟩,Value.int .i64 0,Value.int .i64 0] (1*4)) [(0,.agg ⟨[a,b,c,d]⟩)]=some ⟨[a,b,c,d]⟩:=by kernel_rfl
theorem Out.mark {l:List Tok}{b:Bool}(h:Out fr bp nx0 H nx l b)(hA:Ag nx0 H0 nx H)(c:Bool){k:Value->T OB->Nat->Q}(hk:∀H',Out fr bp nx0 H' nx l c->Ag nx0 H0 nx H'->dJ P pl X0 (k undef H' nx) nx0 H0 R):
 dJ P pl X0 (aR (cI P H nx 4 (some (.pointer (some ⟨bp,1,none⟩))) (some (.bool c))) k) nx0 H0 R:=by
 obtain⟨h1,h2,sl,h3,h4,h5,h6⟩:=h;refine Wq.put h3 X8 rfl rfl (by simp) rfl hA h1 λH' hb cc hA'=>hk H' ⟨h1,h2,sl,hb,?_,h5,λx l e hx=>by
  obtain⟨p,q,r,t⟩:=h6 x l e hx;exact⟨p,cc _ _ _ r q,r,t⟩⟩ hA'
 rcases h4 with h | ⟨c,q1,q2,q3,q4⟩
 . exact .inl h
 . exact .inr ⟨c,q1,q2,cc _ _ _ (h5 _ _ _ _ q4) q3,q4⟩
theorem Wq.tok (t:Tok){k p:Value->T OB->Nat->Q}(hS:St fr bp nx0 H0 l0 b0 ok ts n H nx)(hl:l0.length+(n+1)<=100000)(hk:∀u H' nx',St fr bp nx0 H0 l0 b0 ok (ts++[t]) (n+1) H' nx'->dJ P pl X0 (k u H' nx') nx0 H0 R):
 dJ P pl X0 (aR (aJ P H nx 35 1 (some [(0,t.v)])) λv H nx=>bQ (.call 31 [ptr bp,v] false none H nx) k p) nx0 H0 R:=by
 obtain⟨h0,hA,l,b,hO,hG⟩:=hS;obtain⟨h1,h2,sl,h3,h4,h5,h6⟩:=hO;have hn0:=hA.1;have hlen:=hG.2.2;refine Wq.row kZ eA dS rfl (Km _ _ _ _) hA λH1 hb1 keep1 hA1=> ?_;refine Wq.va (R1:=λu H' nx'=>Out fr bp nx0 H' nx' (l++[t]) b) rfl ?_ λu H2 nx2 hA2 hu=>hk u H2 nx2 ⟨h0,hA2,l++[t],b,hu,hG.1,λq=>by rw[hG.2.1 q,List.append_assoc],by rw[List.length_append,List.length_singleton];omega⟩;rw[ZA];have hch:chunk true 4 1 [i64 t.k,au t.s,i64 t.n,i64 t.at_]=some [t.v]:=kY 4 [[i64 t.k,au t.s,i64 t.n,i64 t.at_]] (by simp);refine Wq.UI kZ eA nO rfl hb1 rfl (by rw[Nat.ble_eq_true_of_le (Nat.le_refl _),Bool.or_true]) hch rfl hA1 hA.1 λH2 keep2 hA2=> ?_;have h3':=keep2 _ _ _ (show bp≠nx by omega) (keep1 _ _ _ h2 h3);simp only[ab,oQ];rw[ah h3' wI (off:=0) (u:=sl) rfl];simp only[ab];have hxs:ny H2 4 (aM 4 [t.v])=some (1,t.c):=z7 4 [t.v];rcases h4 with⟨rfl,rfl⟩ | ⟨c,q1,q2,q3,rfl⟩
 . refine Wq.MN kZ eA rfl hxs (Kl (by decide)) hA2 (λq=>by cases q) λH3 _ hb3 keep3 hA3=> ?_;have h3'':=keep3 _ _ _ (by omega) h3';refine Wq.put h3'' PG rfl rfl (by simp) rfl hA3 h1 λH4 hb4 keep4 hA4=> ?_;exact Wq.uu hA4 ⟨h1,by omega,_,hb4,.inr ⟨nx+1+1,by omega,by omega,keep4 _ _ _ (by omega) (by simpa using hb3),rfl⟩,λc o n u q=>by cases q;omega,λx l e hx=>by
    obtain⟨p,q,r,t⟩:=h6 x l e hx;exact⟨by omega,keep4 _ _ _ r (keep3 _ _ _ (by omega) (keep2 _ _ _ (by omega) (keep1 _ _ _ p q))),r,λc o n u q=>by cases q;omega⟩⟩
 . have hcb:=h5 _ _ _ _ rfl;have q3':=keep2 _ _ _ (show c≠nx by omega) (keep1 _ _ _ q2 q3);refine Wq.app kZ eA q3' eA (AA l) rfl hxs rfl (Kl (by omega)) hA2 q1 (by omega) λH3 hb3 keep3 hA3=> ?_;have h3'':=keep3 _ _ _ (λq=>hcb q.symm) (by omega) h3';refine Wq.put h3'' PG rfl rfl (by simp) rfl hA3 h1 λH4 hb4 keep4 hA4=> ?_;refine Wq.uu hA4 ⟨h1,by omega,_,hb4,.inr ⟨nx+1+1,by omega,by omega,keep4 _ _ _ (by omega) ?_,by rw[List.length_append];rfl⟩,λc o n u q=>by cases q;omega,λx l e hx=>by
    obtain⟨p,q,r,t⟩:=h6 x l e hx;exact⟨by omega,keep4 _ _ _ r (keep3 _ _ _ (λq=>t _ _ _ _ rfl q.symm) (by omega) (keep2 _ _ _ (by omega) (keep1 _ _ _ p q))),r,λc o n u q=>by cases q;omega⟩⟩
   have e:Az (l++[t])=Az l++t.c:=by simp[Az]
   rw[e];exact hb3
end
section
abbrev Bx:=Nat×List Value×TypeId
structure Hp (nx0:Nat)(H0:T OB)(F:List Bx)(H:T OB)(nx:Nat):Prop where
 yq:dY nx0 H0
 ag:Ag nx0 H0 nx H
 yr:(F.map Prod.fst).Nodup
 all:∀x∈F,nx0<=x.1/\x.1<nx/\cA H x.1 x.2.1 x.2.2
variable {nx0 nx nx':Nat}{H0 H H':T OB}{F A B G:List Bx}{s:Bx}{R:Go.Ev.Out->T OB->Nat->Prop}{b:Nat}{l:List Value}{e t:TypeId}
theorem Hp.mem (h:Hp nx0 H0 F H nx){x:Bx}(hx:x∈F):cA H x.1 x.2.1 x.2.2:=(h.all x hx).2.2
theorem Hp.at_ (h:Hp nx0 H0 F H nx)(i:Nat)(hi:F[i]? = some (b,l,e)):cA H b l e:=h.mem (List.mem_of_getElem? hi)
theorem Hp.cc (h:Hp nx0 H0 F H nx)(hA:Ag nx0 H0 nx' H')(hn:nx<=nx')(hk:∀b l e,b<nx->cA H b l e->cA H' b l e):Hp nx0 H0 F H' nx':=
 ⟨h.yq,hA,h.yr,λx hx=>by obtain⟨h1,h2,h3⟩:=h.all x hx;exact⟨h1,by omega,hk _ _ _ h2 h3⟩⟩
theorem Hp.new (h:Hp nx0 H0 F H nx)(hb:cA H' nx l e)(hk:∀b l e,b<nx->cA H b l e->cA H' b l e)(hA:Ag nx0 H0 (nx+1) H'):Hp nx0 H0 ((nx,l,e)::F) H' (nx+1):=by
 have h':=h.cc hA (Nat.le_succ _) hk;refine⟨h.yq,hA,?_,λx hx=> ?_⟩
 . rw[List.map_cons,List.nodup_cons];refine⟨λq=> ?_,h.yr⟩;obtain⟨y,hy,e⟩:=List.mem_map.1 q;have:=(h.all y hy).2.1;omega
 . rcases List.mem_cons.1 hx with rfl | hx
   . exact⟨h.ag.1,Nat.lt_succ_self _,hb⟩
   . exact h'.all x hx
theorem Hp.perm {F':List Bx}(h:Hp nx0 H0 F H nx)(hp:F.Perm F'):Hp nx0 H0 F' H nx:=⟨h.yq,h.ag,(hp.map _).nodup_iff.1 h.yr,λx hx=>h.all x (hp.mem_iff.2 hx)⟩
theorem Hp.sub {F':List Bx}(h:Hp nx0 H0 F H nx)(hp:F'.Sublist F):Hp nx0 H0 F' H nx:=⟨h.yq,h.ag,(hp.map _).nodup h.yr,λx hx=>h.all x (hp.subset hx)⟩
theorem Hp.swap {x y:Bx}(h:Hp nx0 H0 (x::y::F) H nx):Hp nx0 H0 (y::x::F) H nx:=h.perm (List.Perm.swap y x F)
theorem Hp.oU {x y:Bx}(h:Hp nx0 H0 (x::y::F) H nx):Hp nx0 H0 (x::F) H nx:=h.sub (by simp)
theorem Hp.od {l':List Value}(h:Hp nx0 H0 (A++(b,l,e)::B) H nx)(hb:cA H' b l' e)(hk:∀c l e,c≠b->cA H c l e->cA H' c l e)(hA:Ag nx0 H0 nx H'):Hp nx0 H0 (A++(b,l',e)::B) H' nx:=by
 have hd:=h.yr;refine⟨h.yq,hA,by simpa using hd,λx hx=> ?_⟩;simp only[List.map_append,List.map_cons]at hd;rw[List.nodup_append]at hd;obtain⟨h1,h2,h3⟩:=hd;rw[List.nodup_cons]at h2;have hm:=h.all (b,l,e) (by simp);rcases List.mem_append.1 hx with hx | hx
 . obtain⟨g1,g2,g3⟩:=h.all x (by simp[hx]);exact⟨g1,g2,hk _ _ _ (λq=>h3 x.1 (List.mem_map_of_mem hx) b (by simp) q) g3⟩
 . rcases List.mem_cons.1 hx with rfl | hx
   . exact⟨hm.1,hm.2.1,hb⟩
   . obtain⟨g1,g2,g3⟩:=h.all x (by simp[hx]);exact⟨g1,g2,hk _ _ _ (λq=>h2.1 (q ▸ List.mem_map_of_mem hx)) g3⟩
theorem Hp.kill (h:Hp nx0 H0 (A++(b,l,e)::B) H nx)(hk:∀c l e,c≠b->cA H c l e->cA H' c l e)(hA:Ag nx0 H0 nx' H')(hn:nx<=nx'):Hp nx0 H0 (A++B) H' nx':=by
 have hd:=h.yr;simp only[List.map_append,List.map_cons]at hd;rw[List.nodup_append]at hd;obtain⟨h1,h2,h3⟩:=hd;rw[List.nodup_cons]at h2;have h':=h.sub (F':=A++B) (by simp);refine⟨h.yq,hA,h'.yr,λx hx=> ?_⟩;obtain⟨g1,g2,g3⟩:=h'.all x hx;refine⟨g1,by omega,hk _ _ _ (λq=> ?_) g3⟩;rcases List.mem_append.1 hx with hx | hx
 . exact h3 x.1 (List.mem_map_of_mem hx) b (by simp) q
 . exact h2.1 (q ▸ List.mem_map_of_mem hx)
theorem Hq.alloc {k:Value->T OB->Nat->Q}(hz:bT P e=some l)(h:Hp nx0 H0 (s::F) H nx)(hk:∀b H' nx',Hp nx0 H0 (s::(b,l,e)::F) H' nx'->aF P pl X0 (k (ptr b) H' nx') nx0 H0 R):aF P pl X0 (aR (cD P H nx e) k) nx0 H0 R:=
 Wq.alloc hz h.ag λH' hb cc hA=>hk nx H' _ (h.new hb cc hA).swap
theorem Hq.box {u:Value}{k:Value->T OB->Nat->Q}(h:Hp nx0 H0 (s::F) H nx)(hk:∀b H' nx',Hp nx0 H0 (s::(b,u.cells.toList,e)::F) H' nx'->aF P pl X0 (k (ptr b) H' nx') nx0 H0 R):aF P pl X0 (aR (jz H nx e (some u)) k) nx0 H0 R:=
 Wq.box h.ag λH' hb cc hA=>hk nx H' _ (h.new hb cc hA).swap
theorem Hq.var {sz:Nat}{x:Value}{k:T OB->Nat->Q}(hz:bT P e=some l)(hs:aN P t=some sz)(hl:l.length=sz)(hx:x.cells.toList.length=sz)(hone:x.cells.toList.all aj=true)
 (h:Hp nx0 H0 F H nx) (hk:∀H' nx',Hp nx0 H0 F H' nx'->aF P pl X0 (k H' nx') nx0 H0 R):aF P pl X0 (aR (cD P H nx e) λp H nx=>cV P H nx t (some p) x k) nx0 H0 R:=
 Wq.Rv hz hs hl hx hone h.ag λH' nx' hA hn cc=>hk H' nx' (h.cc hA hn cc)
theorem Hq.call {f:FuncId}{args:List Value}{u:Value}{k p:Value->T OB->Nat->Q}(hp:P0 f args u)(h:Hp nx0 H0 F H nx)(hk:∀H' nx',Hp nx0 H0 F H' nx'->aF P pl X0 (k u H' nx') nx0 H0 R):aF P pl X0 (bQ (.call f args false none H nx) k p) nx0 H0 R:=
 Wq.jc hp h.ag λH' nx' hA hn cc=>hk H' nx' (h.cc hA hn cc)
theorem Hq.qK {f:FuncId}{args:List Value}{u:Value}{k p:Value->T OB->Nat->Q}(hp:PT f args u)(h:Hp nx0 H0 F H nx)(hk:∀H' nx',Hp nx0 H0 F H' nx'->aF P pl X0 (k u H' nx') nx0 H0 R):aF P pl X0 (bQ (.call f args false none H nx) k p) nx0 H0 R:=by
 obtain⟨H1,av,h1,h2⟩:=hp H nx (h.yq.ag h.ag);obtain⟨v,H2,nx2,h3,hR,h4⟩:=hk H1 av (h.cc (h.ag.trans h1) h1.1 λb l e hb hi=>hi.ag h1 hb);refine⟨v,H2,nx2,h3,hR,?_⟩;show af (Go.Ev.F P pl X0 (.call f args false none H nx)) (λr=>(match r.o with | .ret v=>k v r.H r.nx | .gv v=>p v r.H r.nx:Q).run (Go.Ev.F P pl X0)) none=_;rw[h2];exact h4
theorem Hq.row {sz n:Nat}{vs:List (Nat×Value)}{z:List Value}{k:Value->T OB->Nat->Q}(hu:P.underlying t=some (.slice e))(hs:aN P e=some sz)(hz:bT P e=some z)
 (hg:(Nat.ble (n*sz) 16777216&&Nat.blt 0 (n*sz)&&Nat.blt 0 z.length)=true) (hf:Instr.fill (λi=>some (i*sz,sz)) (bH z (n*sz)) vs=some ⟨l⟩) (h:Hp nx0 H0 (s::F) H nx)
 (hk:∀b H' nx',Hp nx0 H0 (s::(b,l,e)::F) H' nx'->aF P pl X0 (k (.slice (some ⟨b,0,none⟩) n n) H' nx') nx0 H0 R):aF P pl X0 (aR (aJ P H nx t n (some vs)) k) nx0 H0 R:=
 Wq.row hu hs hz hg hf h.ag λH' hb cc hA=>hk nx H' _ (h.new hb cc hA).swap
theorem Hq.store (A:List Bx){off sz:Nat}{u:Value}{k:Value->T OB->Nat->Q}(h:Hp nx0 H0 (A++(b,l,e)::B) H nx)(hs:aN P t=some sz)(hn:off+sz<=l.length)(hl:u.cells.toList.length=sz)(hone:u.cells.toList.all aj=true)
 (hk:∀H',Hp nx0 H0 (A++(b,jD l u.cells.toList off,e)::B) H' nx->aF P pl X0 (k undef H' nx) nx0 H0 R):aF P pl X0 (aR (cI P H nx t (some (.pointer (some ⟨b,off,none⟩))) (some u)) k) nx0 H0 R:=by
 have hm:=h.all (b,l,e) (by simp);exact Wq.store hm.2.2 hs hn hl hone h.ag hm.1 λH' hb cc hA=>hk H' (h.od hb cc hA)
theorem Hq.put (A:List Bx){off:Nat}{u:Value}{l':List Value}{k:Value->T OB->Nat->Q}(h:Hp nx0 H0 (A++(b,l,e)::B) H nx)(hs:aN P t=some 1)(hc:u.cells.toList=[u])(ho:aj u=true)(hn:off<l.length)(hl:l.set off u=l')
 (hk:∀H',Hp nx0 H0 (A++(b,l',e)::B) H' nx->aF P pl X0 (k undef H' nx) nx0 H0 R):aF P pl X0 (aR (cI P H nx t (some (.pointer (some ⟨b,off,none⟩))) (some u)) k) nx0 H0 R:=by
 have hm:=h.all (b,l,e) (by simp);exact Wq.put hm.2.2 hs hc ho hn hl h.ag hm.1 λH' hb cc hA=>hk H' (h.od hb cc hA)
def cY (vs:List Value):List Value:=vs.flatMap λv=>v.cells.toList
def qX (a:Bool)(sz:Nat)(vs:List Value):Prop:=∀v∈vs,v.cells.toList.length=sz/\v.cells.toList.all aj=true/\(if a then ∃cs,v= .agg ⟨cs⟩else sz=1/\v.cells.toList=[v])
theorem nS {a:Bool}{sz:Nat}:∀{vs:List Value},qX a sz vs->(cY vs).length=vs.length*sz
 | [],_=>by simp[cY]
 | v::vs,h=>by
   have ih:=nS (vs:=vs) λx hx=>h x (by simp[hx]);show(v.cells.toList++cY vs).length=_;rw[List.length_append,ih,(h v (by simp)).1,List.length_cons,Nat.add_mul];omega
theorem qX.chunk {a:Bool}{sz:Nat}{vs:List Value}(h:qX a sz vs):chunk a sz vs.length (cY vs)=some vs:=by
 cases a with
 | true=>
   have:∀vs:List Value,qX true sz vs->∃es:List (List Value),vs=es.map (λx=> .agg ⟨x⟩)/\(∀x∈es,x.length=sz)/\cY vs=es.flatten:=by
    intro vs
    induction vs with
    | nil=>exact λ_=>⟨[],rfl,by simp,rfl⟩
    | cons v vs ih=>
      intro h;obtain⟨es,e1,e2,e3⟩:=ih λx hx=>h x (by simp[hx]);obtain⟨h1,h2,h3⟩:=h v (by simp);rw[if_pos rfl]at h3;obtain⟨cs,rfl⟩:=h3;refine⟨cs::es,by rw[e1];rfl,λx hx=> ?_,?_⟩
      . rcases List.mem_cons.1 hx with rfl | hx
        . exact h1
        . exact e2 x hx
      . rw[List.flatten_cons,<- e3];rfl
   obtain⟨es,e1,e2,e3⟩:=this vs h;rw[e3,e1,List.length_map];exact kY sz es e2
 | false=>
   have e:sz=1\/vs=[]:=by
    cases vs with
    | nil=>exact .inr rfl
    | cons v vs=>exact .inl (h v (by simp)).2.2.1
   have e2:cY vs=vs:=by
    clear e
    induction vs with
    | nil=>rfl
    | cons v vs ih=>
      show v.cells.toList++cY vs=_;rw[ih λx hx=>h x (by simp[hx]),(h v (by simp)).2.2.2];rfl
   rw[e2];rcases e with rfl | rfl
   . exact l_ vs
   . rfl
theorem qX.cons {a:Bool}{sz:Nat}{v:Value}{vs:List Value}(h:qX a sz [v])(hs:qX a sz vs):qX a sz (vs++[v]):=λx hx=>by
 rcases List.mem_append.1 hx with hx | hx
 . exact hs x hx
 . exact h x hx
def Gw (a:Bool)(sz:Nat)(e:TypeId)(vs:List Value)(sl:Value)(G:List Bx):Prop:=qX a sz vs/\((vs=[]/\sl= .slice none 0 0/\G=[])\/∃b c,sl= .slice (some ⟨b,0,none⟩) vs.length c/\(c=eO\/c=vs.length)/\0<vs.length/\G=[(b,cY vs,e)])
theorem Gw.nil (a:Bool)(sz:Nat)(e:TypeId):Gw a sz e [] (.slice none 0 0) []:=⟨λv hv=>by simp at hv,.inl ⟨rfl,rfl,rfl⟩⟩
theorem Gw.one {a:Bool}{sz:Nat}{vs:List Value}{n:Nat}(h:qX a sz vs)(hn:vs.length=n)(h0:0<n):Gw a sz e vs (.slice (some ⟨b,0,none⟩) n n) [(b,cY vs,e)]:=⟨h,.inr ⟨b,n,by rw[hn],.inr hn.symm,by omega,rfl⟩⟩
theorem Hq.UI (A:List Bx){a:Bool}{sz:Nat}{vs:List Value}{sl:Value}{k:Value->T OB->Nat->Q}(hu:P.underlying t=some (.slice e))(hs:aN P e=some sz)(ha:dG P e=some a)(hpos:(Nat.blt 0 sz&&(a||Nat.beq sz 1))=true)
 (hG:Gw a sz e vs sl G) (h:Hp nx0 H0 (A++(G++B)) H nx) (hk:∀H' nx',Hp nx0 H0 (A++B) H' nx'->aF P pl X0 (k (aM sz vs) H' nx') nx0 H0 R):aF P pl X0 (fl P t sl H nx k) nx0 H0 R:=by
 obtain⟨hE,⟨rfl,rfl,rfl⟩ | ⟨b,c,rfl,hc,h0,rfl⟩⟩:=hG
 . have e1:fl P t (.slice none 0 0) H nx k=k (aM sz []) H nx:=by
    unfold fl;rw[hu];show fM P t (.slice none 0 0) H nx k=_;unfold fM;rw[hu];show(bif Nat.beq 0 0&&Nat.beq 0 0 then af (aN P e) (λs=>k (aM s []) H nx) .bad else .bad)=_;rw[hs];rfl
   rw[e1];exact hk H nx h
 . have hm:=h.all (b,cY vs,e) (by simp);refine Wq.UI hu hs ha hpos hm.2.2 (nS hE) ?_ hE.chunk ?_ h.ag hm.1 λH' cc hA=>hk H' _ (h.kill cc hA (Nat.le_succ _))
   . rcases hc with rfl | rfl
     . rfl
     . rw[Nat.ble_eq_true_of_le (Nat.le_refl _),Bool.or_true]
   . rw[List.all_eq_true];intro v hv;obtain⟨_,h2,h3⟩:=hE v hv;cases a with
     | true=>rfl
     | false=>
       rw[if_neg (by simp)]at h3;rw[h3.2]at h2;simpa using h2
theorem Wq.Yi {e':TypeId}{sz n m:Nat}{x:Value}{xs:List Value}{k:Value->T OB->Nat->Q}(hu:P.underlying t=some (.slice e))(hs:aN P e=some sz)(hb:cA H b l e')(hl:l.length=n*sz)(hx:isStr x=false)(hxs:ny H sz x=some (m,xs))(hm:0<m)(hn:n<eO)
 (hsm:br P e sz (n+m)=true) (h:Ag nx0 H0 nx H)
 (hk:∀H',cA H' nx (l++xs) e->(∀c l e,c<nx->cA H c l e->cA H' c l e)->Ag nx0 H0 (nx+1) H'->aF P pl X0 (k (.slice (some ⟨nx,0,none⟩) (n+m) eO) H' (nx+1)) nx0 H0 R):
 aF P pl X0 (aR (cO P H nx [t,t] (some [.slice (some ⟨b,0,none⟩) n n,x])) k) nx0 H0 R:=by
 rw[mL hx];unfold dt;rw[hu];simp only[hs,ax,hxs,hsm,cond_true];obtain⟨tr,h1,h2⟩:=hb;have e1:og P H nx e sz (some ⟨b,0,none⟩) n n m xs=gP H nx e (n+m) (l++xs):=by
  show uf P H nx e sz b 0 n n m xs=_;unfold uf;rw[h1];have eu:Nat.beq n eO=false:=by
   cases hq:Nat.beq n eO with
   | false=>rfl
   | true=>have:=Nat.eq_of_beq_eq_true hq;omega
  have ev:Nat.ble (n+m) n=false:=by
   cases hq:Nat.ble (n+m) n with
   | false=>rfl
   | true=>have:=Nat.le_of_ble_eq_true hq;omega
  simp only[dV,eu,ev,cond_false];unfold qu;have:qS tr (n*sz) 0=some l:=by rw[<- hl,jS h2 _ _ (by omega)];simp
  rw[this,Nat.zero_add,hl,Nat.ble_eq_true_of_le (Nat.le_refl _)];have e0:Nat.blt 0 m=true:=Nat.ble_eq_true_of_le hm;rw[e0];rfl
 rw[e1,g_];exact Wq.new (q:=λH n'=>k (.slice (some ⟨nx,0,none⟩) (n+m) eO) H n') h λH' ha hb hc=>hk H' ha hb hc
theorem Nd:(1048576:Nat)<eO:=by decide +kernel
theorem Hq.add (A:List Bx){a:Bool}{sz:Nat}{v:Value}{vs:List Value}{sl:Value}{k:Value->T OB->Nat->Q}(hu:P.underlying t=some (.slice e))(hs:aN P e=some sz)(hsm:br P e sz (vs.length+1)=true)(hsmall:vs.length+1<=1048576)(hv:qX a sz [v])
 (hG:Gw a sz e vs sl G) (h:Hp nx0 H0 (s::(b,v.cells.toList,e)::(A++(G++B))) H nx)
 (hk:∀sl' G' H' nx',Gw a sz e (vs++[v]) sl' G'->Hp nx0 H0 (s::(A++(G'++B))) H' nx'->aF P pl X0 (k sl' H' nx') nx0 H0 R):
 aF P pl X0 (aR (cO P H nx [t,t] (some [sl,.slice (some ⟨b,0,none⟩) 1 1])) k) nx0 H0 R:=by
 have hv1:=(hv v (by simp)).1;have hxs:ny H sz (.slice (some ⟨b,0,none⟩) 1 1)=some (1,v.cells.toList):=BJ (h.at_ 1 rfl) (by rw[hv1,Nat.one_mul]);have hone:v.cells.toList.all aj=true:=(hv v (by simp)).2.1;have hd:=h.oU;obtain⟨hE,hG⟩:=hG;have ecl:cY vs++v.cells.toList=cY (vs++[v]):=by simp[cY]
 have hnew:∀av,Gw a sz e (vs++[v]) (.slice (some ⟨av,0,none⟩) (vs.length+1) eO) [(av,cY (vs++[v]),e)]:=λav=>⟨hv.cons hE,.inr ⟨av,eO,by rw[List.length_append];rfl,.inl rfl,by simp,rfl⟩⟩;have ins:∀{H':T OB} {x:Bx},Hp nx0 H0 (x::s::(A++B)) H' (nx+1)->Hp nx0 H0 (s::(A++([x]++B))) H' (nx+1):=λh=>h.perm (by
  refine(List.Perm.swap _ _ _).trans (List.Perm.cons _ ?_);exact(List.perm_middle (l₁:=A) (l₂:=B)).symm)
 rcases hG with⟨rfl,rfl,rfl⟩ | ⟨b',c,rfl,hc,h0,rfl⟩
 . refine Wq.MN hu hs rfl hxs (by simpa using hsm) h.ag (λq=>by cases q) λH' _ hb cc hA=> ?_;have hb':cA H' nx (cY ([]++[v])) e:=by rw[<- ecl];simpa[cY]using hb
   exact hk _ _ _ _ (hnew nx) (ins (hd.new hb' cc hA))
 . have hcl:=nS hE;have hm:=h.all (b',cY vs,e) (by simp);rcases hc with rfl | rfl
   . refine Wq.app hu hs hm.2.2 hs hcl rfl hxs hone hsm h.ag hm.1 hm.2.1 λH' hb cc hA=> ?_;rw[ecl]at hb;have hk':Hp nx0 H0 (s::(A++B)) H nx:=hd.sub (by simp);have hne:∀x∈s::(A++B),x.1≠b':=by
      have hdd:=hd.yr;have:((s::A++(b',cY vs,e)::B).map Prod.fst).Nodup:=hdd;simp only[List.map_append,List.map_cons]at this;rw[List.nodup_append]at this;obtain⟨_,g2,g3⟩:=this;rw[List.nodup_cons]at g2;intro x hx q;rcases List.mem_append.1 (show x∈(s::A)++B from hx)with hx | hx
      . exact g3 x.1 (List.mem_map_of_mem (f:=Prod.fst) hx) b' (by simp) q
      . exact g2.1 (q ▸ List.mem_map_of_mem hx)
     refine hk _ _ _ _ (hnew nx) (ins ⟨h.yq,hA,?_,λx hx=> ?_⟩)
     . rw[List.map_cons,List.nodup_cons];refine⟨λq=> ?_,hk'.yr⟩;obtain⟨y,hy,e⟩:=List.mem_map.1 q;have:=(hk'.all y hy).2.1;have e':y.1=nx:=e;omega
     . rcases List.mem_cons.1 hx with rfl | hx
       . exact⟨h.ag.1,Nat.lt_succ_self _,hb⟩
       . obtain⟨g1,g2,g3⟩:=hk'.all x hx;exact⟨g1,by omega,cc _ _ _ (hne x hx) g2 g3⟩
   . refine Wq.Yi hu hs hm.2.2 hcl rfl hxs (by decide) (by have:=Nd;omega) hsm h.ag λH' hb cc hA=> ?_;rw[ecl]at hb;have hk':Hp nx0 H0 (s::(A++B)) H nx:=hd.sub (by simp);exact hk _ _ _ _ (hnew nx) (ins (hk'.new hb cc hA))
end
section
variable {nx0 nx nx':Nat}{H0 H H':T OB}{F A B G G':List Bx}{s:Bx}{R:Go.Ev.Out->T OB->Nat->Prop}{b:Nat}{l:List Value}{e t:TypeId}
def dA (n:Nat)(t:TypeId)(v u:Value)(G:List Bx):Prop:=∀(d:Nat),n<=d->∀(nx0 nx:Nat) (H0 H:T OB) (s:Bx) (B:List Bx) (k:Value->T OB->Nat->Q) (R:Go.Ev.Out->T OB->Nat->Prop),Hp nx0 H0 (s::(G++B)) H nx->
 (∀H' nx',Hp nx0 H0 (s::B) H' nx'->aF P pl X0 (k u H' nx') nx0 H0 R)->aF P pl X0 (kQ P d t v H nx k) nx0 H0 R
def fZ (n:Nat)(offs:List (Nat×TypeId))(cs us:List Value)(G:List Bx):Prop:=∀(d:Nat),n<=d->∀(nx0 nx:Nat) (H0 H:T OB) (s:Bx) (B:List Bx) (k:List Value->T OB->Nat->Q) (R:Go.Ev.Out->T OB->Nat->Prop),Hp nx0 H0 (s::(G++B)) H nx->
 (∀H' nx',Hp nx0 H0 (s::B) H' nx'->aF P pl X0 (k us H' nx') nx0 H0 R)->aF P pl X0 (F6 (kQ P d) offs cs H nx k) nx0 H0 R
def iO (n:Nat)(offs:List (Nat×TypeId))(v u:Value)(G:List Bx):Prop:=∀(d:Nat),n<=d->∀(nx0 nx:Nat) (H0 H:T OB) (s:Bx) (B:List Bx) (k:Value->T OB->Nat->Q) (R:Go.Ev.Out->T OB->Nat->Prop),Hp nx0 H0 (s::(G++B)) H nx->
 (∀H' nx',Hp nx0 H0 (s::B) H' nx'->aF P pl X0 (k u H' nx') nx0 H0 R)->aF P pl X0 (lU (kQ P d) offs v H nx k) nx0 H0 R
def km (n:Nat)(offs:List (Nat×TypeId))(vs us:List Value)(G:List Bx):Prop:=∀(d:Nat),n<=d->∀(nx0 nx:Nat) (H0 H:T OB) (s:Bx) (B:List Bx) (k:List Value->T OB->Nat->Q) (R:Go.Ev.Out->T OB->Nat->Prop),Hp nx0 H0 (s::(G++B)) H nx->
 (∀H' nx',Hp nx0 H0 (s::B) H' nx'->aF P pl X0 (k us H' nx') nx0 H0 R)->aF P pl X0 (lV (lU (kQ P d) offs) vs H nx k) nx0 H0 R
theorem dA.mono {n m:Nat}{v u:Value}(h:dA n t v u G)(hm:n<=m):dA m t v u G:=λd hd=>h d (by omega)
theorem iO.mono {n m:Nat}{offs:List (Nat×TypeId)}{v u:Value}(h:iO n offs v u G)(hm:n<=m):iO m offs v u G:=λd hd=>h d (by omega)
theorem fZ.nil {n:Nat}{cs:List Value}:fZ n [] cs cs []:=λd hd nx0 nx H0 H s B k R h hk=>hk H nx h
theorem fZ.cons {n:Nat}{p:Nat×TypeId}{offs:List (Nat×TypeId)}{cs us:List Value}{v u:Value}(hc:cs[p.1]? = some v)(h1:dA n p.2 v u G)(h2:fZ n offs (cs.set p.1 u) us G'):fZ n (p::offs) cs us (G++G'):=λd hd nx0 nx H0 H s B k R h hk=>by
 show aF P pl X0 (af cs[p.1]? (λv=>kQ P d p.2 v H nx λv H nx=>F6 (kQ P d) offs (cs.set p.1 v) H nx k) .bad) nx0 H0 R;rw[hc,ax];rw[List.append_assoc]at h;exact h1 d hd nx0 nx H0 H s (G'++B) _ R h λH' nx' h'=>h2 d hd nx0 nx' H0 H' s B k R h' hk
theorem iO.of {n:Nat}{offs:List (Nat×TypeId)}{cs us:List Value}(h:fZ n offs cs us G):iO n offs (.agg ⟨cs⟩) (.agg ⟨us⟩) G:=λd hd nx0 nx H0 H s B k R h1 hk=>h d hd nx0 nx H0 H s B _ R h1 hk
theorem iO.au {n:Nat}{offs:List (Nat×TypeId)}(a:ByteArray):iO n offs (.string a) (.string a) []:=λd hd nx0 nx H0 H s B k R h1 hk=>hk H nx h1
theorem km.nil {n:Nat}{offs:List (Nat×TypeId)}:km n offs [] [] []:=λd hd nx0 nx H0 H s B k R h hk=>hk H nx h
theorem km.cons {n:Nat}{offs:List (Nat×TypeId)}{v u:Value}{vs us:List Value}(h1:iO n offs v u G)(h2:km n offs vs us G'):km n offs (v::vs) (u::us) (G++G'):=λd hd nx0 nx H0 H s B k R h hk=>by
 rw[List.append_assoc]at h;exact h1 d hd nx0 nx H0 H s (G'++B) _ R h λH' nx' h'=>h2 d hd nx0 nx' H0 H' s B _ R h' hk
theorem km.id {n:Nat}{offs:List (Nat×TypeId)}:∀{vs:List Value},(∀v∈vs,iO n offs v v [])->km n offs vs vs []
 | [],_=>km.nil
 | v::vs,h=>km.cons (h v (by simp)) (km.id λx hx=>h x (by simp[hx]))
theorem yu {d sz:Nat}{v:Value}{k:Value->T OB->Nat->Q}(hu:P.underlying t=some (.slice e)):kQ P (d+1) t v H nx k=fM P t v H nx λu H nx=>bif zj v then ib u (λs es=>lV (lU (kQ P d) (ei P 4 e)) es H nx λes H nx=>bif es.all λx=>Nat.beq x.cells.toList.length s then k (aM s es) H nx else .bad) .bad else k u H nx:=by
 show(fM P t v H nx λu H nx=>bif zj v then(match P.underlying t with | some (.slice e)=>ib u (λs es=>lV (lU (kQ P d) (ei P 4 e)) es H nx λes H nx=>bif es.all λx=>Nat.beq x.cells.toList.length s then k (aM s es) H nx else .bad) .bad | _=>k u H nx)else k u H nx)=_;rw[hu]
theorem AB {sz:Nat}{k:Value->T OB->Nat->Q}(hu:P.underlying t=some (.slice e))(hs:aN P e=some sz):fM P t (.slice none 0 0) H nx k=k (aM sz []) H nx:=by
 unfold fM;rw[hu];show(bif Nat.beq 0 0&&Nat.beq 0 0 then af (aN P e) (λs=>k (aM s []) H nx) .bad else .bad)=_;rw[hs];rfl
theorem AD {sz:Nat}{es:List Value}{k:Value->T OB->Nat->Q}(hu:P.underlying t=some (.slice e)):fM P t (aM sz es) H nx k=k (aM sz es) H nx:=by
 unfold fM;rw[hu];rfl
theorem dA.nil {sz:Nat}(hu:P.underlying t=some (.slice e))(hs:aN P e=some sz):dA 0 t (.slice none 0 0) (aM sz []) []:=λd hd nx0 nx H0 H s B k R h hk=>by
 cases d with
 | zero=>
   show aF P pl X0 (fM P t (.slice none 0 0) H nx k) nx0 H0 R;rw[AB hu hs];exact hk H nx h
 | succ d=>
   rw[yu (sz:=sz) hu,AB hu hs];exact hk H nx h
theorem dA.row {sz:Nat}{es:List Value}(hu:P.underlying t=some (.slice e)):dA 0 t (aM sz es) (aM sz es) []:=λd hd nx0 nx H0 H s B k R h hk=>by
 cases d with
 | zero=>
   show aF P pl X0 (fM P t (aM sz es) H nx k) nx0 H0 R;rw[AD hu];exact hk H nx h
 | succ d=>
   rw[yu (sz:=sz) hu,AD hu];exact hk H nx h
theorem dA.er {a:Bool}{sz n c:Nat}{vs us:List Value}{offs:List (Nat×TypeId)}(hu:P.underlying t=some (.slice e))(hs:aN P e=some sz)(ha:dG P e=some a)(hpos:(Nat.blt 0 sz&&(a||Nat.beq sz 1))=true)(ho:ei P 4 e=offs)(hE:qX a sz vs)(hc:c=eO\/c=vs.length)(h0:0<vs.length)
 (hL:km n offs vs us G) (hus:∀u∈us,u.cells.toList.length=sz):dA (n+1) t (.slice (some ⟨b,0,none⟩) vs.length c) (aM sz us) ((b,cY vs,e)::G):=λd hd nx0 nx H0 H s B k R h hk=>by
 cases d with
 | zero=>omega
 | succ d=>
   rw[yu (sz:=sz) hu,Ru hu];refine Hq.UI [s] (B:=G++B) hu hs ha hpos (G:=[(b,cY vs,e)]) ⟨hE,.inr ⟨b,c,rfl,hc,h0,rfl⟩⟩ h λH' nx' h'=> ?_;show aF P pl X0 (lV (lU (kQ P d) (ei P 4 e)) vs H' nx' λes H nx=>bif es.all λx=>Nat.beq x.cells.toList.length sz then k (aM sz es) H nx else .bad) nx0 H0 R;rw[ho];refine hL d (by omega) nx0 nx' H0 H' s B _ R h' λH2 nx2 h2=> ?_;have e:(us.all λx=>Nat.beq x.cells.toList.length sz)=true:=by
    rw[List.all_eq_true];intro x hx;rw[hus x hx,Nat.beq_refl]
   rw[e];exact hk H2 nx2 h2
theorem dA.gw {a:Bool}{sz n:Nat}{vs us:List Value}{sl:Value}{offs:List (Nat×TypeId)}(hu:P.underlying t=some (.slice e))(hs:aN P e=some sz)(ha:dG P e=some a)(hpos:(Nat.blt 0 sz&&(a||Nat.beq sz 1))=true)(ho:ei P 4 e=offs)(hG:Gw a sz e vs sl G)
 (hL:km n offs vs us []) (hus:∀u∈us,u.cells.toList.length=sz) (h0:vs=[]->us=[]):dA (n+1) t sl (aM sz us) G:=by
 obtain⟨hE,⟨rfl,rfl,rfl⟩ | ⟨b,c,rfl,hc,h1,rfl⟩⟩:=hG
 . rw[h0 rfl];exact(dA.nil hu hs).mono (Nat.zero_le _)
 . exact dA.er hu hs ha hpos ho hE hc h1 hL hus
theorem Hp.mv (A:List Bx){x:Bx}(h:Hp nx0 H0 (s::(A++x::B)) H nx):Hp nx0 H0 (s::x::(A++B)) H nx:=h.perm (List.Perm.cons _ List.perm_middle)
theorem vo {l c:List Value}(h:c.length=l.length):jD l c 0=c:=by
 unfold jD;simp[h]
theorem Hq.fin {n sz:Nat}{cs:List Value}{u:Value}{offs:List (Nat×TypeId)}{k:Value->T OB->Nat->Q}(h:Hp nx0 H0 (s::(b,l,e)::(G++B)) H nx)(hs:aN P t=some sz)(hag:dG P t=some true)(ho:ei P 4 t=offs)(hl:l.length=sz)(hc:cs.length=sz)(h1:cs.all aj=true)
 (hz:iO n offs (.agg ⟨cs⟩) u G) (hn:n<=100000) (hk:∀H' nx',Hp nx0 H0 (s::B) H' nx'->aF P pl X0 (k u H' nx') nx0 H0 R):
 aF P pl X0 (aR (cI P H nx t (some (.pointer (some ⟨b,0,none⟩))) (some (.agg ⟨cs⟩))) λ_ H nx=>af (ai P H t (some (.pointer (some ⟨b,0,none⟩)))) (λx=>ch P t x H nx k) .bad) nx0 H0 R:=by
 refine Hq.store [s] h hs (by omega) hc h1 λH' h'=> ?_;rw[show jD l (Value.agg ⟨cs⟩).cells.toList 0=cs from vo (by show cs.length=_;omega)]at h';have hb:cA H' b cs e:=h'.at_ 1 rfl;rw[bU hb hag hs (by omega)];have e2:((cs.drop 0).take sz)=cs:=by rw[List.drop_zero,<- hc,List.take_length]
 rw[e2,ax];unfold ch;show aF P pl X0 (lU (kQ P 100000) (ei P 4 t) (.agg ⟨cs⟩) H' nx k) nx0 H0 R;rw[ho];exact hz 100000 hn nx0 nx H0 H' s B k R (Hp.oU h') hk
theorem gI:ei P 4 44=[(3,42),(4,39),(5,23)]:=by kernel_rfl
theorem jK:ei P 4 41=[(3,39)]:=by kernel_rfl
theorem qg:ei P 4 84=[(2,50)]:=by kernel_rfl
theorem Kn:ei P 4 52=[(1,50)]:=by kernel_rfl
theorem Qn:ei P 4 64=[(1,39),(5,42),(6,39),(7,23)]:=by kernel_rfl
theorem qN:ei P 4 54=[(4,39),(8,42),(9,39),(10,23),(11,45),(12,46),(14,47),(16,50)]:=by kernel_rfl
theorem Yj:ei P 4 9=[]:=by kernel_rfl
end
section
inductive kn (α:Type) where
 | ok (a:α) (k:Nat)
 | bad (at_:Int)
abbrev PR (α:Type):=Option (kn α)
def bd {α β:Type}(x:PR α)(f:α->Nat->PR β):PR β:=match x with
 | none=>none
 | some (.bad a)=>some (.bad a)
 | some (.ok a k)=>f a k
theorem E7 {α β:Type}{a:α}{k:Nat}{f:α->Nat->PR β}:bd (some (.ok a k)) f=f a k:=rfl
theorem yv {α β:Type}{a:Int}{f:α->Nat->PR β}:bd (some (.bad a)) f=some (.bad a):=rfl
variable (L:List Tok)
def tk (k:Nat):Tok:=(L[k]?).getD ⟨0,[],0,0⟩
def ko (k:Nat):Bool:=decide ((tk L k).k=7)||decide ((tk L k).k=6)
def bP (k:Nat)(s:List UInt8):Bool:=ko L k&&decide ((tk L k).s=s)
def jL {α:Type}(k:Nat):PR α:=some (.bad (tk L k).at_)
def yes {α:Type}(a:α)(k:Nat):PR α:=some (.ok a k)
def aQ {α:Type}(s:List UInt8)(k:Nat)(f:Nat->PR α):PR α:=if bP L k s=true then f (k+1)else jL L k
def bY {α:Type}(c:Int)(k:Nat)(f:Tok->Nat->PR α):PR α:=if(tk L k).k=c then f (tk L k) (k+1)else jL L k
def skip (s:List UInt8)(k:Nat):Nat:=if bP L k s=true then k+1 else k
def gV (lvl k:Nat):Bool:=ko L k&&((aC[lvl]?).getD []).contains (tk L k).s
def unOp (k:Nat):Bool:=ko L k&&cX.contains (tk L k).s
def mY (k:Nat):Bool:=decide ((tk L k).k=1)||(decide ((tk L k).k=2)||(decide ((tk L k).k=3)||decide ((tk L k).k=4)))
def js (k:Nat):Bool:=mY L k||(bP L k [40]||bP L k [108,101,116])
def jZ (k:Nat):Bool:=mY L k||(bP L k [40]||(bP L k [95]||bP L k [126]))
def eZ (k:Nat):Bool:=decide ((tk L k).k=3)||bP L k [114,101,102]
def aq.add:aq->aq->aq
 | .mk k n s l p d,b=> .mk k n s (l++[b]) p d
def aq.mm:aq->aB->aq->aq
 | .mk k n s l p d,q,b=> .mk k n s (l++[b]) (p++[q]) d
abbrev two (op:List UInt8)(a b:aq):aq:= .mk 14 0 op [a,b] [] []
abbrev gk:aq:= .mk 0 0 [] [] [] []
abbrev f_:aB:= .mk 0 0 [] []
abbrev dF:Data:=⟨[],[],[]⟩
abbrev fO:cS:=⟨[],[]⟩
abbrev GJ:aG:= .mk 0 f_ gk [] dF fO
abbrev Ko (a b:aB):aB:= .mk 6 0 [58,58] [.mk 5 0 [] [a,b]]
structure PS where
 exp:Nat->PR aq
 j4:aq->Nat->PR aq
 bin:Nat->Nat->PR aq
 jt:Nat->aq->Nat->PR aq
 un:Nat->PR aq
 ju:aq->Nat->PR aq
 atom:Nat->PR aq
 cU:List UInt8->aq->Nat->PR aq
 lt:Nat->PR aq
 iD:List aG->Nat->PR (List aG)
 pat:Nat->PR aB
 cm:Nat->PR aB
 iP:List aB->Nat->PR (List aB)
 gJ:Nat->PR aO
 ff:List aO->Nat->PR (List aO)
 post:Nat->PR aO
 rC:List aO->Nat->PR (List aO)
 dZ:aO->Nat->PR aO
 iH:Nat->PR cS
 bind:Nat->PR (Option aG)
 ji:List Fn->Nat->PR (List Fn)
 fn:Nat->PR Fn
 tH:List aB->Nat->PR (List aB)
 dec:Nat->PR (Option aG)
 data:Nat->PR Data
 iq:List (List UInt8)->Nat->PR (List (List UInt8))
 iQ:List cS->Nat->PR (List cS)
 cq:List aG->Nat->PR (List aG)
def PS.none:PS:=⟨λ_=> .none,λ_ _=> .none,λ_ _=> .none,λ_ _ _=> .none,λ_=> .none,λ_ _=> .none,λ_=> .none,λ_ _ _=> .none,λ_=> .none,λ_ _=> .none,λ_=> .none,λ_=> .none,λ_ _=> .none,λ_=> .none,λ_ _=> .none,λ_=> .none,λ_ _=> .none,λ_ _=> .none,
 λ_=> .none,λ_=> .none,λ_ _=> .none,λ_=> .none,λ_ _=> .none,λ_=> .none,λ_=> .none,λ_ _=> .none,λ_ _=> .none,λ_ _=> .none⟩
variable (p:PS)
def qY (e:aq)(k:Nat):PR aq:=bd (p.pat k) λq k=>aQ L [61,62] k λk=>bd (p.exp k) λx k=>if bP L k [124]=true then p.j4 (e.mm q x) (k+1)else yes (e.mm q x) k
def jv (k:Nat):PR aq:=
 if bP L k [105,102]=true then bd (p.exp (k+1)) λa k=>aQ L [116,104,101,110] k λk=>bd (p.exp k) λb k=>aQ L [101,108,115,101] k λk=>bd (p.exp k) λc k=>yes (.mk 8 0 [] [a,b,c] [] []) k
 else if bP L k [99,97,115,101]=true then bd (p.exp (k+1)) λa k=>aQ L [111,102] k λk=>p.j4 (.mk 9 0 [] [a] [] []) k
 else if bP L k [102,110]=true then p.j4 (.mk 7 0 [] [] [] []) (k+1)
 else if bP L k [114,97,105,115,101]=true then bd (p.exp (k+1)) λa k=>yes (.mk 11 0 [] [a] [] []) k
 else bd (p.bin 0 k) λa k=>if bP L k [104,97,110,100,108,101]=true then p.j4 (.mk 12 0 [] [a] [] []) (k+1)else yes a k
def mZ (lvl:Nat)(a:aq)(k:Nat):PR aq:=
 if gV L lvl k=true then(if lvl=2\/lvl=4 then bd (p.bin lvl (k+1)) λb k'=>yes (two (tk L k).s a b) k' else bd (p.bin (lvl+1) (k+1)) λb k'=>p.jt lvl (two (tk L k).s a b) k')else yes a k
def lI (lvl k:Nat):PR aq:=if lvl=7 then p.un k else bd (p.bin (lvl+1) k) λa k=>mZ L p lvl a k
def nT (a:aq)(k:Nat):PR aq:=if js L k=true then bd (p.atom k) λb k=>p.ju (.mk 6 0 [] [a,b] [] []) k else yes a k
def A3 (k:Nat):PR aq:=if unOp L k=true then bd (p.un (k+1)) λa k'=>yes (.mk 15 0 (tk L k).s [a] [] []) k' else bd (p.atom k) λa k=>nT L p a k
def kp (s:List UInt8)(e:aq)(k:Nat):PR aq:=if bP L k s=true then bd (p.exp (k+1)) λb k=>p.cU s (e.add b) k else yes e k
def fK (k:Nat):PR aq:=
 if(tk L k).k=1 then yes (.mk 1 (tk L k).n [] [] [] []) (k+1)
 else if(tk L k).k=2 then yes (.mk 2 0 (tk L k).s [] [] []) (k+1)
 else if(tk L k).k=3 then yes (.mk 3 0 (tk L k).s [] [] []) (k+1)
 else if(tk L k).k=4 then yes (.mk 4 0 (tk L k).s [] [] []) (k+1)
 else if bP L k [108,101,116]=true then p.lt (k+1)
 else aQ L [40] k λk=>if bP L k [41]=true then yes (.mk 5 0 [] [] [] []) (k+1)else bd (p.exp k) λa k=>
  if bP L k [44]=true then bd (kp L p [44] (.mk 5 0 [] [a] [] []) k) λe k=>aQ L [41] k λk=>yes e k
  else if bP L k [59]=true then bd (kp L p [59] (.mk 13 0 [] [a] [] []) k) λe k=>aQ L [41] k λk=>yes e k
  else aQ L [41] k λk=>yes a k
def m4 (ds:List aG)(k:Nat):PR (List aG):=if bP L k [105,110]=true then yes ds (k+1)else bd (p.bind k) λd k=>match d with
 | some d=>p.iD (ds++[d]) (skip L [59] k)
 | none=>jL L k
def Hy (k:Nat):PR aq:=bd (m4 L p [] k) λds k=>bd (p.exp k) λa k=>
 if bP L k [59]=true then bd (kp L p [59] (.mk 13 0 [] [a] [] []) k) λa k=>aQ L [101,110,100] k λk=>yes (.mk 10 0 [] [a] [] ds) k
 else aQ L [101,110,100] k λk=>yes (.mk 10 0 [] [a] [] ds) k
def oV (k:Nat):PR aB:=if(tk L k).k=4 then(if jZ L (k+1)=true then bd (p.cm (k+1)) λb k'=>yes (.mk 6 0 (tk L k).s [b]) k' else yes (.mk 6 0 (tk L k).s []) (k+1))else p.cm k
def oW (k:Nat):PR aB:=bd (oV L p k) λa k=>if bP L k [58,58]=true then bd (p.pat (k+1)) λb k=>yes (Ko a b) k else yes a k
def mn (l:List aB)(k:Nat):PR (List aB):=if bP L k [44]=true then bd (p.pat (k+1)) λb k=>p.iP (l++[b]) k else yes l k
def dB (k:Nat):PR aB:=
 if(tk L k).k=1 then yes (.mk 3 (tk L k).n [] []) (k+1)
 else if(tk L k).k=2 then yes (.mk 4 0 (tk L k).s []) (k+1)
 else if(tk L k).k=3 then yes (.mk 2 0 (tk L k).s []) (k+1)
 else if(tk L k).k=4 then yes (.mk 6 0 (tk L k).s []) (k+1)
 else if bP L k [95]=true then yes (.mk 1 0 [] []) (k+1)
 else if bP L k [126]=true then bY L 1 (k+1) λt k=>yes (.mk 3 (IntKind.i64.wrap (-t.n)) [] []) k
 else aQ L [40] k λk=>if bP L k [41]=true then yes (.mk 5 0 [] []) (k+1)else bd (p.pat k) λa k=>
  if bP L k [44]=true then bd (mn L p [a] k) λl k=>aQ L [41] k λk=>yes (.mk 5 0 [] l) k else aQ L [41] k λk=>yes a k
def mo (l:List aO)(k:Nat):PR (List aO):=if bP L k [42]=true then bd (p.post (k+1)) λb k=>p.ff (l++[b]) k else yes l k
def kq (k:Nat):PR aO:=bd (p.post k) λa k=>if bP L k [42]=true then bd (mo L p [a] k) λl k=>yes (.mk 4 [] l) k else yes a k
def lJ (k:Nat):PR aO:=bd (kq L p k) λa k=>if bP L k [45,62]=true then bd (p.gJ (k+1)) λb k=>yes (.mk 3 [] [a,b]) k else yes a k
def oX (l:List aO)(k:Nat):PR (List aO):=if bP L k [44]=true then bd (p.gJ (k+1)) λb k=>p.rC (l++[b]) k else yes l k
def gK (a:aO)(k:Nat):PR aO:=if eZ L k=true then p.dZ (.mk 2 (tk L k).s [a]) (k+1)else yes a k
def jj (k:Nat):PR aO:=
 if(tk L k).k=5 then yes (.mk 1 (tk L k).s []) (k+1)
 else if eZ L k=true then yes (.mk 2 (tk L k).s []) (k+1)
 else aQ L [40] k λk=>bd (p.gJ k) λa k=>
  if bP L k [44]=true then bd (oX L p [a] k) λl k=>aQ L [41] k λk=>if eZ L k=true then yes (.mk 2 (tk L k).s l) (k+1)else jL L k
  else aQ L [41] k λk=>yes a k
def jM (k:Nat):PR aO:=bd (jj L p k) λa k=>gK L p a k
def qZ (k:Nat):PR cS:=bY L 4 k λt k=>if bP L k [111,102]=true then bd (p.gJ (k+1)) λa k=>yes ⟨t.s,[a]⟩ k else yes ⟨t.s,[]⟩ k
def nU (l:List Fn)(k:Nat):PR (List Fn):=if bP L k [97,110,100]=true then bd (p.fn (k+1)) λf k=>p.ji (l++[f]) k else yes l k
def jN (k:Nat):PR (Option aG):=
 if bP L k [118,97,108]=true then bd (p.pat (k+1)) λa k=>aQ L [61] k λk=>bd (p.exp k) λe k=>yes (some (.mk 1 a e [] dF fO)) k
 else if bP L k [102,117,110]=true then bd (p.fn (k+1)) λf k=>bd (nU L p [f] k) λl k=>yes (some (.mk 2 f_ gk l dF fO)) k
 else yes none k
def m5 (l:List aB)(k:Nat):PR (List aB):=if jZ L k=true then bd (p.cm k) λq k=>p.tH (l++[q]) k else yes l k
def HA (k:Nat):PR Fn:=bY L 3 k λt k=>bd (p.cm k) λq k=>bd (m5 L p [q] k) λl k=>aQ L [61] k λk=>bd (p.exp k) λe k=>yes (.mk t.s l e) k
def fi (l:List (List UInt8))(k:Nat):PR (List (List UInt8)):=if bP L k [44]=true then bY L 5 (k+1) λt k=>p.iq (l++[t.s]) k else yes l k
def ir (l:List cS)(k:Nat):PR (List cS):=if bP L k [124]=true then bd (p.iH (k+1)) λc k=>p.iQ (l++[c]) k else yes l k
def nu (k:Nat):PR (List (List UInt8)):=
 if(tk L k).k=5 then yes [(tk L k).s] (k+1)
 else if bP L k [40]=true then bY L 5 (k+1) λt k=>bd (fi L p [t.s] k) λl k=>aQ L [41] k λk=>yes l k
 else yes [] k
def lF (k:Nat):PR Data:=bd (nu L p k) λvs k=>bY L 3 k λt k=>aQ L [61] k λk=>bd (p.iH k) λc k=>bd (ir L p [c] k) λl k=>yes ⟨vs,t.s,l⟩ k
def kr (k:Nat):PR (Option aG):=
 if bP L k [100,97,116,97,116,121,112,101]=true then bd (p.data (k+1)) λx k=>yes (some (.mk 3 f_ gk [] x fO)) k
 else if bP L k [101,120,99,101,112,116,105,111,110]=true then bd (p.iH (k+1)) λc k=>yes (some (.mk 4 f_ gk [] dF c)) k
 else p.bind k
abbrev q7 (e:aq):aG:= .mk 5 f_ e [] dF fO
def jO (ds:List aG)(k:Nat):PR (List aG):=
 if(tk L k).k=0 then yes ds k else bd (p.dec k) λd k=>match d with
  | some d=>p.cq (ds++[d]) (skip L [59] k)
  | none=>bd (p.exp k) λe k=>p.cq (ds++[q7 e]) (skip L [59] k)
def yw:PS where
 exp:=jv L p
 j4:=qY L p
 bin:=lI L p
 jt:=mZ L p
 un:=A3 L p
 ju:=nT L p
 atom:=fK L p
 cU:=kp L p
 lt:=Hy L p
 iD:=m4 L p
 pat:=oW L p
 cm:=dB L p
 iP:=mn L p
 gJ:=lJ L p
 ff:=mo L p
 post:=jM L p
 rC:=oX L p
 dZ:=gK L p
 iH:=qZ L p
 bind:=jN L p
 ji:=nU L p
 fn:=HA L p
 tH:=m5 L p
 dec:=kr L p
 data:=lF L p
 iq:=fi L p
 iQ:=ir L p
 cq:=jO L p
def ps:Nat->PS
 | 0=>PS.none
 | n+1=>yw L (ps n)
end
section
variable {nx0:Nat}{H0:T OB}
variable {fr:Nat->List Value->TypeId->Prop}{bp:Nat}{l0:List Tok}{b0:Bool}{ok:Bool}{ts:List Tok}{n nx:Nat}{H:T OB}{R:Value->T OB->Nat->Prop}
abbrev cN (s:List UInt8):Tok:=⟨7,s,0,0⟩
abbrev eg (s:List UInt8):Tok:=⟨6,s,0,0⟩
theorem Kp (f:FuncId)(k:Int)(s:List UInt8)(hf:X0 f [au s]=none)(hq:∀H nx,aI P pl (.call f [au s] false none H nx)=aR (cD P H nx 70) (λx0 H nx=>af (a9 P 70 (some [(0,i64 k),(1,au s)])) (λx1=>aR (cI P H nx 70 (some x0) (some x1)) (λx2 H nx=>af (ai P H 70 (some x0)) (λx3=> .ret ⟨.ret x3,false,H,nx⟩) .bad)) .bad)):
 P0 f [au s] (Tok.v ⟨k,s,0,0⟩):=Pure.of hf λH nx=>by
 rw[hq];refine Wq.alloc dS (.refl _ _) λH1 hb _ hA1=> ?_;simp only[ab,gf];refine Wq.store hb eA (by simp) rfl rfl hA1 (by omega) λH2 hb _ hA2=> ?_;have hb':cA H2 nx (Tok.c ⟨k,s,0,0⟩) 70:=hb;rw[bU hb' nO eA (by simp)];exact Wq.ret hA2
theorem Qo (s:List UInt8):P0 32 [au s] (Tok.v (cN s)):=Kp 32 7 s rfl λH nx=>ZB ..
theorem Kq (s:List UInt8):P0 51 [au s] (Tok.v (eg s)):=Kp 51 6 s rfl λH nx=>ZT ..
theorem Wq.lK (s:List UInt8){k p p':Value->T OB->Nat->Q}(hS:St fr bp nx0 H0 l0 b0 ok ts n H nx)(hl:l0.length+(n+1)<=100000)(hk:∀u H' nx',St fr bp nx0 H0 l0 b0 ok (ts++[cN s]) (n+1) H' nx'->dJ P pl X0 (k u H' nx') nx0 H0 R):
 dJ P pl X0 (bQ (.call 32 [au s] false none H nx) (λx H nx=>aR (aJ P H nx 35 1 (some [(0,x)])) λv H nx=>bQ (.call 31 [ptr bp,v] false none H nx) k p) p') nx0 H0 R:=
 Wq.nr (Qo s) hS λH1 av hS1=>Wq.tok (cN s) hS1 hl hk
theorem Wq.key (s:List UInt8){k p p':Value->T OB->Nat->Q}(hS:St fr bp nx0 H0 l0 b0 ok ts n H nx)(hl:l0.length+(n+1)<=100000)(hk:∀u H' nx',St fr bp nx0 H0 l0 b0 ok (ts++[eg s]) (n+1) H' nx'->dJ P pl X0 (k u H' nx') nx0 H0 R):
 dJ P pl X0 (bQ (.call 51 [au s] false none H nx) (λx H nx=>aR (aJ P H nx 35 1 (some [(0,x)])) λv H nx=>bQ (.call 31 [ptr bp,v] false none H nx) k p) p') nx0 H0 R:=
 Wq.nr (Kq s) hS λH1 av hS1=>Wq.tok (eg s) hS1 hl hk
theorem cf (c:Bool):gH 49 [.bool c] c [] 0:=λfr bp nx0 H0 l0 b0 H nx hl hS=>by
 obtain⟨h0,hA,l,b,hO,hG⟩:=hS;rw[ZR];have hb:=St.bad (⟨h0,hA,l,b,hO,hG⟩:St fr bp nx0 H0 l0 b0 true [] 0 H nx);simp only[ab,gb,hb,Bool.or_false];have e0:b=b0:=by rw[hG.1];simp
 cases b0 with
 | true=>
   simp only[ab];refine hO.mark hA true λH1 hO1 hA1=> ?_;exact Wq.uu hA1 ⟨rfl,h0,hA1,l,true,hO1,by simp,nofun,hG.2.2⟩
 | false=>
   simp only[ab];refine hO.mark hA (!c) λH1 hO1 hA1=> ?_;exact Wq.uu hA1 ⟨rfl,h0,hA1,l,!c,hO1,by simp,λq=>hG.2.1 e0,hG.2.2⟩
theorem Wq.bad {k:Value->T OB->Nat->Q}(hS:St fr bp nx0 H0 l0 b0 ok ts n H nx)(hk:∀H',St fr bp nx0 H0 l0 b0 false ts n H' nx->dJ P pl X0 (k undef H' nx) nx0 H0 R):dJ P pl X0 (aR (cI P H nx 4 (some (.pointer (some ⟨bp,1,none⟩))) (some (.bool true))) k) nx0 H0 R:=by
 obtain⟨h0,hA,l,b,hO,hG⟩:=hS;refine hO.mark hA true λH1 hO1 hA1=>hk H1 ⟨h0,hA1,l,true,hO1,by simp,nofun,hG.2.2⟩
theorem St.V_ {ok ok':Bool}{ts ts':List Tok}{n n' nx:Nat}{H:T OB}(h:St fr bp nx0 H0 l0 b0 ok ts n H nx)(hb:(b0 || !ok)=true)(e:b0=false->ok=false->ok'=false)(en:n<=n'):St fr bp nx0 H0 l0 b0 ok' ts' n' H nx:=by
 obtain⟨h0,h1,l,b,h2,h3,h4,h5⟩:=h;refine⟨h0,h1,l,b,h2,?_,λq=> ?_,by omega⟩
 . rw[h3,hb];cases b0 with
   | true=>rfl
   | false=>rw[e rfl (by simpa using hb)];rfl
 . rw[h3,hb]at q;cases q
theorem Wq.skip {ok':Bool}{ts':List Tok}{n':Nat}(h:St fr bp nx0 H0 l0 b0 ok ts n H nx)(hb:(b0 || !ok)=true)(e:b0=false->ok=false->ok'=false)(en:n<=n'):dJ P pl X0 (.ret ⟨.ret (.tuple ⟨[]⟩),false,H,nx⟩) nx0 H0 (dW fr bp nx0 H0 l0 b0 ok' ts' n'):=Wq.uu h.2.1 ⟨rfl,h.V_ hb e en⟩
theorem eG (t:Tok)(hl:t.s.length<9223372036854775807):gH 54 [t.v] (aV t) [t] 1:=λfr bp nx0 H0 l0 b0 H nx hn hS=>by
 rw[ZW];refine Wq.qf hS λhS=> ?_;simp only[ab];refine Wq.B8 (JI t hl) hS λH1 av hS1=> ?_;simp only[ab];refine Wq.aZ (cf _) rfl hS1 (by omega) λu H2 nx2 hS2=> ?_;refine Wq.tok t hS2 (by omega) λu H3 nx3 hS3=> ?_;exact Wq.done hS3 (by simp) (λ_=>by simp) (by omega)
def lL (k:Int):Bool:=decide (k=1)||(decide (k=2)||(decide (k=3)||(decide (k=4)||(decide (k=5)||(decide (k=13)||decide (k=10))))))
theorem Tu (e:aq):P0 86 [e.v] (.bool (lL e.k)):=Pure.of rfl λH nx=>by
 rw[q86];refine Wq.iZ (.refl _ _) λhA=> ?_;have L:∀b,b=lL e.k->Wq P pl X0 (.jump (la b H (nx+1))) nx H (.bool (lL e.k)):=by
  intro b hb;refine Wq.jmp (SL ..) (λ_=>rfl) ?_;rw[<- hb];cases b<;>exact Wq.ret hA
 simp only[ab,az,List.length_map];unfold lL at L ⊢;refine Wq.ite (λg=>L _ (by simp[g])) (λg1=> ?_);refine Wq.ite (λg=>L _ (by simp[g])) (λg2=> ?_);refine Wq.ite (λg=>L _ (by simp[g])) (λg3=> ?_);refine Wq.ite (λg=>L _ (by simp[g])) (λg4=> ?_);refine Wq.ite (λg=>L _ (by simp[g])) (λg5=> ?_);refine Wq.ite (λg=>L _ (by simp[g])) (λg6=> ?_);exact L _ (by simp[g1,g2,g3,g4,g5,g6])
def tI (s:List UInt8):Tok:=if(match s with | []=>false | c::_=>cL c)=true then eg s else cN s
theorem Kr (a:UInt8)(r:List UInt8):P0 73 [au (a::r)] (tI (a::r)).v:=Pure.of rfl λH nx=>by
 rw[q73];refine Wq.alloc dS (.refl _ _) λH1 hb _ hA1=> ?_;have e1:decide (97<=(a.toNat:Int))=decide (97<=a.toNat):=by rw[decide_eq_decide];omega
 have e2:decide ((a.toNat:Int)<=122)=decide (a.toNat<=122):=by rw[decide_eq_decide];omega
 have L:∀b,b=cL a->Wq P pl X0 (.jump (EK (au (a::r)) (.pointer (some ⟨nx,0,none⟩)) b H1 (nx+1))) nx H (tI (a::r)).v:=by
  intro b hb0;refine Wq.jmp (VH ..) (λ_=>rfl) ?_;unfold tI;show Wq P pl X0 _ nx H (if cL a=true then eg (a::r)else cN (a::r)).v;rw[<- hb0];cases b with
  | true=>
    refine Wq.bK (λ_=> ?_) (λh=>by cases h);refine Wq.jc (Kq _) hA1 λH2 nx2 hA2 n2 k2=> ?_;refine Wq.store (k2 _ _ _ (by omega) hb) eA (by simp) rfl rfl hA2 (by omega) λH3 hb3 _ hA3=> ?_;have hb':cA H3 nx (Tok.c (eg (a::r))) 70:=hb3;rw[Gt,bU hb' nO eA (by simp)];exact Wq.ret hA3
  | false=>
    refine Wq.bK (λh=>by cases h) (λ_=> ?_);refine Wq.jc (Qo _) hA1 λH2 nx2 hA2 n2 k2=> ?_;refine Wq.store (k2 _ _ _ (by omega) hb) eA (by simp) rfl rfl hA2 (by omega) λH3 hb3 _ hA3=> ?_;have hb':cA H3 nx (Tok.c (cN (a::r))) 70:=hb3;rw[Gt,bU hb' nO eA (by simp)];exact Wq.ret hA3
 unfold cL at L;simp only[ab,Yg,e1,e2];refine Wq.bK (λh=>L _ (by rw[h,Bool.true_and])) (λh=>L _ (by rw[h,Bool.false_and]))
theorem Tv (l:List (List UInt8))(hl:l.length<dQ)(s:List UInt8):∀(r:List (List UInt8)) (i:Nat) (H:T OB) (nx:Nat),l.drop i=r->i<=l.length->Ag nx0 H0 nx H->Wq P pl X0 (.jump (Aj (au s) (ml l) (i64 (l.length:Int)) (i64 (i:Int)) H nx)) nx0 H0 (.bool (r.contains s)):=by
 intro r
 induction r with
 | nil=>
   intro i H nx hd hi hA;have hil:=drop_nil hd hi;refine Wq.jmp (EL ..) (λ_=>rfl) ?_;simp only[ab,az,List.length_map,hil,aA];exact Wq.ret hA
 | cons x r ih=>
   intro i H nx hd hi hA;obtain⟨hg,hlt,hd'⟩:=drop_cons hd;have hg':(l.map au)[i]? = some (au x):=by simp[hg]
   refine Wq.jmp (EL ..) (λ_=>rfl) ?_;simp only[ab,az,List.length_map,aE hlt,Eb hg',dz,ao (show i<9223372036854775807 by have:=cM hl;omega)];refine Wq.ite (λh=> ?_) (λh=> ?_)
   . exact Wq.gF (by subst h;simp) hA
   . have:((x::r).contains s)=r.contains s:=by rw[List.contains_cons,show(s == x)=false from by simp;exact λq=>h q.symm,Bool.false_or]
     rw[this];exact ih (i+1) H nx hd' (by omega) hA
theorem Ks (l:List (List UInt8))(hl:l.length<dQ)(s:List UInt8):P0 74 [ml l,au s] (.bool (l.contains s)):=Pure.of rfl λH nx=>by
 rw[Y_];simp only[ab,az,List.length_map];exact Tv l hl s l 0 H nx rfl (Nat.zero_le _) (.refl _ _)
theorem Nf (b:Nat)(l:List (List UInt8))(s:List UInt8)(hb:qV H0 b (l.map au))(hbx:b<nx0)(hl:l.length<1000000)(cp:Nat):∀(r:List (List UInt8)) (i:Nat) (H:T OB) (nx:Nat),l.drop i=r->i<=l.length->Ag nx0 H0 nx H->
 Wq P pl X0 (.jump (Aj (au s) (.slice (some ⟨b,0,none⟩) l.length cp) (i64 (l.length:Int)) (i64 (i:Int)) H nx)) nx0 H0 (.bool (r.contains s)):=by
 intro r
 induction r with
 | nil=>
   intro i H nx hd hi hA;have hil:=drop_nil hd hi;refine Wq.jmp (EL ..) (λ_=>rfl) ?_;simp only[ab,hil,aA];exact Wq.ret hA
 | cons x r ih=>
   intro i H nx hd hi hA;obtain⟨hg,hlt,hd'⟩:=drop_cons hd;have hg':(l.map au)[0+i*1]? = some (au x):=by simp[hg]
   refine Wq.jmp (EL ..) (λ_=>rfl) ?_;simp only[ab,aE hlt,IG hlt,qe (hb.ag hA hbx) nm hg',ao (show i<9223372036854775807 by omega),dz];refine Wq.ite (λh=> ?_) (λh=> ?_)
   . exact Wq.gF (by subst h;simp) hA
   . have:((x::r).contains s)=r.contains s:=by rw[List.contains_cons,show(s == x)=false from by simp;exact λq=>h q.symm,Bool.false_or]
     rw[this];exact ih (i+1) H nx hd' (by omega) hA
theorem B9 (H:T OB):bA P H 132 (some (.pointer (some ⟨2,0,none⟩))) (some none) (some none) (some none)=some (.slice (some ⟨2,0,none⟩) 8 8):=mj (len:=8) (e:=9) (by kernel_rfl) mX (by omega) (by omega)
theorem E8 (s:List UInt8):PT 74 [.slice (some ⟨2,0,none⟩) 8 8,au s] (.bool (cX.contains s)):=PT.of rfl λH nx hT=>by
 rw[Y_];simp only[ab];exact Nf 2 cX s hT.words (by have:=hT.1;omega) (by decide) 8 cX 0 H nx rfl (Nat.zero_le _) (.refl _ _)
theorem tJ {b s:Nat}{l:List Value}{t:TypeId}{H:T OB}(h:qV H b l)(ha:dG P t=some true)(hs:aN P t=some s)(hl:l.length=s):ai P H t (some (.pointer (some ⟨b,0,none⟩)))=some (.agg ⟨l⟩):=by
 obtain⟨tr,h1,h2⟩:=h;show ly P H t b 0=_;unfold ly;rw[h1];show lP P l.length tr t 0=_;unfold lP;rw[ha,ax];show rO P l.length tr t 0=_;unfold rO;rw[hs,ax,jS h2 s 0 (by omega),Nat.ble_eq_true_of_le (show 0+s<=l.length by omega)];simp[<- hl]
theorem Ku:cC P 140 (some (.agg ⟨aC.map lvl⟩)) (some (i64 0))=some (lvl [[111,114,101,108,115,101]]):=by kernel_rfl
theorem Kv:cC P 140 (some (.agg ⟨aC.map lvl⟩)) (some (i64 1))=some (lvl [[97,110,100,97,108,115,111]]):=by kernel_rfl
theorem Kw:cC P 140 (some (.agg ⟨aC.map lvl⟩)) (some (i64 2))=some (lvl [[58,61]]):=by kernel_rfl
theorem Kx:cC P 140 (some (.agg ⟨aC.map lvl⟩)) (some (i64 3))=some (lvl [[61],[60,62],[60],[60,61],[62],[62,61]]):=by kernel_rfl
theorem Ky:cC P 140 (some (.agg ⟨aC.map lvl⟩)) (some (i64 4))=some (lvl [[58,58]]):=by kernel_rfl
theorem Kz:cC P 140 (some (.agg ⟨aC.map lvl⟩)) (some (i64 5))=some (lvl [[43],[45],[94]]):=by kernel_rfl
theorem KA:cC P 140 (some (.agg ⟨aC.map lvl⟩)) (some (i64 6))=some (lvl [[42],[100,105,118],[109,111,100]]):=by kernel_rfl
theorem Tw (i:Nat)(x:List (List UInt8))(h:aC[i]? = some x):cC P 140 (some (.agg ⟨aC.map lvl⟩)) (some (i64 (i:Int)))=some (lvl x):=by
 match i,h with
 | 0,h=>exact(Option.some.inj (show some ([[111,114,101,108,115,101]]:List (List UInt8))=some x from h)) ▸ Ku
 | 1,h=>exact(Option.some.inj (show some ([[97,110,100,97,108,115,111]]:List (List UInt8))=some x from h)) ▸ Kv
 | 2,h=>exact(Option.some.inj (show some ([[58,61]]:List (List UInt8))=some x from h)) ▸ Kw
 | 3,h=>exact(Option.some.inj (show some ([[61],[60,62],[60],[60,61],[62],[62,61]]:List (List UInt8))=some x from h)) ▸ Kx
 | 4,h=>exact(Option.some.inj (show some ([[58,58]]:List (List UInt8))=some x from h)) ▸ Ky
 | 5,h=>exact(Option.some.inj (show some ([[43],[45],[94]]:List (List UInt8))=some x from h)) ▸ Kz
 | 6,h=>exact(Option.some.inj (show some ([[42],[100,105,118],[109,111,100]]:List (List UInt8))=some x from h)) ▸ KA
 | i+7,h=>exact absurd h (by simp[aC])
theorem Tx (s:List UInt8):PT 71 [au s] (.bool (il.contains s)):=PT.of rfl λH nx hT=>by
 rw[q71,Gt,tJ hT.levels MU Rz rfl];simp only[ab];have e:il.contains s=aC.any λl=>l.contains s:=by
  have:il=aC.flatten:=by decide
  rw[this,Bool.eq_iff_iff];simp
 rw[e];refine Wq.each aC (λi (_:Unit) H nx=> .jump (EJ (au s) (.agg ⟨aC.map lvl⟩) (i64 (i:Int)) H nx)) (λt (_:Unit)=> .bool (t.any λl=>l.contains s)) (λ_ H1 av hA1=> ?_) (λi a t _ H1 av hg hlt hd hA1 ih=> ?_) () _ _ (.refl _ _)
 . refine Wq.jmp (P5 ..) (λ_=>rfl) ?_;simp only[ab,show decide ((aC.length:Int)<7)=false from by decide];exact Wq.ret hA1
 . refine Wq.jmp (P5 ..) (λ_=>rfl) ?_;have hlt':i<7:=hlt;simp only[ab,show decide ((i:Int)<7)=true from by simp;omega,Tw i a hg];have hal:a.length<dQ:=by
    have:∀x∈aC,x.length<10:=by decide
    exact Nat.lt_trans (this a (List.mem_of_getElem? hg)) (by decide)
   refine Wq.call (Ks a hal s) hA1 λH2 nx2 hA2=> ?_;rw[List.any_cons];cases a.contains s with
   | true=>exact Wq.ret hA2
   | false=>
     simp only[ab,ao (show i<9223372036854775807 by omega),Bool.false_or];exact ih () _ _ hA2
def bR (e:aq)(m:Int)(a b c d:Bool):Bool:=(decide (m<0)||decide ((e.l.length:Int)=m))&&((a||decide (e.s=[]))&&((b||decide (e.n=0))&&((c||decide (e.p.length=0))&&(d||decide (e.d.length=0)))))
theorem fg (e:aq)(m:Int)(a b c d:Bool):gH 68 [e.v,i64 m,.bool a,.bool b,.bool c,.bool d] (bR e m a b c d) [] 0:=λfr bp nx0 H0 l0 b0 H nx hn hS=>by
 rw[Z9];refine Wq.qf hS λhS=> ?_;have L:∀r,r=bR e m a b c d->dJ P pl X0 (bQ (.call 49 [ptr bp,.bool r] false none H (nx+1)) (λx H nx=> .ret ⟨.ret (.tuple ⟨[]⟩),false,H,nx⟩) gg) nx0 H0 (dW fr bp nx0 H0 l0 b0 (bR e m a b c d) [] 0):=by
  intro r hr;subst hr;refine Wq.aZ (cf _) rfl hS (by omega) λu H2 nx2 hS2=> ?_;exact Wq.done hS2 (by simp) (λ_=>rfl) (by omega)
 simp only[ab,az,List.length_map,dz,jH];unfold bR at L ⊢;generalize decide (m<0)=x1 at*;generalize decide ((e.l.length:Int)=m)=x2 at*;generalize decide (e.s=[])=x3 at*;generalize decide (e.n=0)=x4 at*;generalize decide (e.p.length=0)=x5 at*;generalize decide (e.d.length=0)=x6 at*;cases x1<;>cases a<;>cases b<;>cases c<;>cases d<;>cases x2<;>cases x3<;>cases x4<;>cases x5<;>first | exact L _ rfl | (cases x6<;>exact L _ rfl)
end
end
end Go.Proofs.YthjhonhhbddhkaaDoor
