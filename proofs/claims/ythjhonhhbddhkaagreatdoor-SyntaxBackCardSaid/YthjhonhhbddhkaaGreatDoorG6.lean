/- Texts of this claim, side by side. -/
import Derived.Test.YthjhonhhbddhkaaGreatDoorG3
import Derived.Laws.Tables
import Derived.ShapedOpen
import Derived.Deep.Slices
import Derived.Lib.LaidTab
import Derived.Test.YthjhonhhbddhkaaGreatDoorG4
import Derived.Test.YthjhonhhbddhkaaGreatDoorG5
open List renaming length_map->aa,length_append->aj,mem_of_getElem?->ak,length_cons->ao,getElem?_eq_some_iff->ar,getElem?_eq_getElem->au,mem_cons->aG,mem_singleton->aP,append_assoc->bn,getElem?_eq_none->bt,getElem?_drop->bL,getElem?_take->bR,getElem?_map->bS,nil_append->cj,not_mem_nil->cO,all_cons->cW,length_nil->c_,drop_zero->dq,drop_eq_getElem_cons->dA,ext_getElem?->eE,flatMap_cons->fj,take_of_length_le->fl,range->fB,getElem?_range->gX,rec->jL,contains_cons->jX
open And renaming intro->ab
open Bool renaming and_eq_true->ae,true_and->ai,false_and->aE,and_true->aW,or_eq_true->bl,and_assoc->bw,false_or->bG,not_true->cM,eq_iff_iff->dk,not_inj_iff->eY,not_false->fk,or_true->gK,true_or->gL,and_self->gO
open Nat renaming ble_eq_true_of_le->av,le_refl->ax,beq->ay,zero_le->aN,ble->bj,zero_add->bN,blt->bY,beq_refl->cm,succ->cS,le_of_ble_eq_true->dS,mod_lt->dV,lt_of_lt_of_le->eh,mod_eq_of_lt->hY,add->iq,succ_mul->ir,mul_one->jk,min_eq_left->jR
open Array renaming getElem?_eq_some_iff->aU,ext'->eU
open Option renaming bind_some->ba,map_eq_some_iff->bO,rec->gm,isSome->iL
open UInt8 renaming ofNat->dh,toNat_ofNat'->gn
namespace Go.Ev
open Go.RowKit (Below)
noncomputable section
set_option maxRecDepth 100000
set_option linter.unusedVariables false
set_option linter.unusedSimpArgs false
section
variable {P:Program}{W:World}{φ:fq}
def oX (W:World)(k:Nat):Option (Array Value):=match W.heap[k]? with
 | some (.cells c _ _)=>some c
 | _=>none
def jB (W:World):fq:=(fB W.heap.size).map λk=>some ⟨k,0,0,oX W k⟩
theorem uV (W:World):(jB W).length=W.heap.size:=by simp[jB]
theorem oY {k:Nat}{e:lh}(h:(jB W)[k]? = some (some e)):k<W.heap.size/\e=⟨k,0,0,oX W k⟩:=by
 unfold jB at h;rw[bS]at h
 by_cases hk:k<W.heap.size
 . rw[gX hk]at h;simp at h;exact⟨hk,h.symm⟩
 . rw[bt (by simp;omega)]at h;cases h
theorem C4 {k:Nat}(h:k<W.heap.size):(jB W)[k]? = some (some ⟨k,0,0,oX W k⟩):=by
 unfold jB;rw[bS,gX h];rfl
theorem nM (k:Nat):hp (.leaf:T OB) k=none:=by simp[hp]
theorem aeK (hg:P.globals.size<=W.heap.size):HR P W (jB W) (hp .leaf) W where
 below:= .refl _ _
 uJ:=λk ob h=>by rw[nM]at h;cases h
 tu:=λk e h=>by obtain⟨h1,rfl⟩:=oY h;exact h1
 inj:=λk k' ob ob' e e' _ _ h=>by rw[nM]at h;cases h
 obj:=λk ob e h=>by rw[nM]at h;cases h
 gl:=λk hk=>⟨_,C4 (by omega),rfl⟩
 qH:=λk e c h hf=>by
  obtain⟨h1,rfl⟩:=oY h;unfold oX at hf
  dsimp only at hf ⊢
  split at hf
  . rename_i c' el fz hc;cases hf;exact⟨el,fz,hc⟩
  . cases hf
 xJ:=λk k' e e' c ob _ _ _ h=>by rw[nM]at h;cases h
theorem GQ (h:W.ShapedOpen P)(hw:P.globals.size<(begin P (λ_ _=>0) default).world.heap.size):P.globals.size<=W.heap.size:=by
 obtain⟨o,_,h1,_⟩:=h.2 P.globals.size (ax _) hw;have:=(aU.1 h1).1;omega
theorem Kk {a:Addr}{v:Value}(h:W.cell? a=some v):a.block<W.heap.size/\a.spot=none/\∃c,oX W a.block=some c/\c[a.off]? = some v:=by
 unfold World.cell? at h;unfold oX;split at h
 . rename_i c el fz hc;split at h
   . cases h
   . rename_i hs;refine⟨(aU.1 hc).1,by simpa using hs,c,by rw[hc],h⟩
 . cases h
theorem AE (a:Addr):a.add 0=a:=rfl
theorem OY {a:Addr}{len cap s:Nat}{es:List Value}(hlen:es.length=len)(hs:∀x,x∈es->x.cells.toList.length=s)(hpos:0<s)(hcap:len<=cap)
 (hx:∀(i:Nat) (x:Value),es[i]? = some x->∃cs,W.cells? 0 (a.add (i*s)) s=some cs/\LR (jB W) x.cells.toList cs):VR (jB W) (bM s es) (.slice (some a) len cap):=by
 cases es with
 | nil=>subst hlen;exact .xH s a cap
 | cons x0 es=>
   obtain⟨cs0,h0,hl0⟩:=hx 0 x0 rfl;obtain⟨_,hn0,hc0⟩:=World.cells?_some h0;have e0:=hc0 0 hpos;rw[Nat.zero_mul,AE,AE,au (by omega)]at e0;obtain⟨hb,hsp,c,hc,_⟩:=Kk e0;obtain⟨b,o,sp⟩:=a
   dsimp only at hb hsp hc
   subst hsp;have key:∀(i j:Nat) (x v:Value),(x0::es)[i]? = some x->x.cells.toList[j]? = some v->∃v',c[o+i*s+j]? = some v'/\VR (jB W) v v':=by
    intro i j x v hi hj;obtain⟨cs,h1,h2⟩:=hx i x hi;obtain⟨_,hn,hc1⟩:=World.cells?_some h1;have hjs:j<s:=by
     have:=(ar.1 hj).1;rw[hs x (ak hi)]at this;exact this
    have e1:=hc1 j hjs;rw[au (by omega)]at e1;have e2:=e1;rw[gg,gg]at e1;obtain⟨_,_,c',hc',e3⟩:=Kk e1
    dsimp only at hc' e3
    rw[hc]at hc';cases hc';exact⟨_,e3,h2.at_ j v _ hj (au _)⟩
   have hrow:=VR.row (φ:=jB W) (k:=b) (o:=o) (c':=cap) (c:=c) (es:=x0::es) (s:=s) (C4 hb) hc hs (λ_=> ?_) (by omega) (λi j x v v' hi hj hv=> ?_)
   . subst hlen;exact hrow
   . have hx1:(x0::es)[es.length]? = some ((x0::es)[es.length]'(by simp)):=au _;have hl:=hs _ (ak hx1);obtain⟨v',h1,_⟩:=key es.length (s-1) _ _ hx1 (au (by omega));have:=(aU.1 h1).1;have e5:(x0::es).length*s=es.length*s+s:=by rw[ao,ir]
     omega
   . obtain⟨v'',h1,h2⟩:=key i j x v hi hj;rw[h1]at hv;cases hv;exact h2
end
end
end Go.Ev
namespace Go.Ev
noncomputable section
set_option maxRecDepth 100000
set_option linter.unusedVariables false
set_option linter.unusedSimpArgs false
section
variable {P:Program}{pl:ny}{X:Ext}{H H0 H1:T OB}{nx nx0 aI:Nat}{v u:Value}{R:Go.Ev.Out->T OB->Nat->Prop}
abbrev aK (l:List UInt8):Value:=Value.string ⟨⟨l⟩⟩
def kM (l:List UInt8):List Value:=l.map λx=> .int .u8 (.ofNat x.toNat)
@[simp] theorem Y2 (l:List UInt8):(kM l).length=l.length:=by simp[kM]
theorem lV (a b:List UInt8):kM (a++b)=kM a++kM b:=by simp[kM]
theorem wQ (l:List UInt8):(kM l).all aC=true:=by
 induction l with
 | nil=>rfl
 | cons a l ih=>simp[kM,aC]
theorem LS (l:List UInt8):strOf (kM l)=some l:=by
 induction l with
 | nil=>rfl
 | cons a l ih=>
   show(match strOf (kM l)with | some r=>some (a.toNat.toUInt8::r) | none=>none)=_;rw[ih];simp
theorem GR (a b:List UInt8):(⟨⟨a⟩⟩:ByteArray)++⟨⟨b⟩⟩=⟨⟨a++b⟩⟩:=by
 apply ByteArray.ext;apply eU;simp
theorem aT (a:List UInt8):(⟨⟨a⟩⟩:ByteArray).size=a.length:=rfl
theorem ud (t:TypeId)(q:Bool)(a b:List UInt8)(h:a.length+b.length<=9223372036854775807):dx P H .add t q (some (aK a)) (some (aK b))=some (aK (a++b)):=by
 rw[GF t q _ _ (by rw[aT,aT];exact h),GR]
theorem ue {s:Sem Value}{w:Value}(h:dW P s=some w)(hw:flat w=true):fV P s=some w:=by
 show xi (dW P (vS s))=_;have e:dW P (vS s)=some (Next.value w):=by
  show dW P (s >>= λv=>pure (Next.value v))=_;rw[cB,h];rfl
 rw[e];show(xf w λv=>bif flat v then some v else none)=_;rw[nB,hw];rfl
theorem uf {s d:TypeId}{b off n c:Nat}{l:List Value}{r:List UInt8}{e:TypeId}(hq:iy P s d=true)(h:dO H b l e)(hn:off+n<=l.length)(hr:(l.drop off).take n=kM r):
 ec P H s d (some (.slice (some ⟨b,off,none⟩) n c))=some (aK r):=by
 obtain⟨tr,h1,h2⟩:=h;show(bif iy P s d then zB (H.get (bits b)) (λm tr=>bif bj (off+n) m then aw (vd tr n off) (λl=>aw (strOf l) (λr=>some (Value.string ⟨⟨r⟩⟩)) none) none else none) none else none)=_;rw[hq,cond_true,h1];show(bif bj (off+n) l.length then aw (vd tr n off) (λl=>aw (strOf l) (λr=>some (Value.string ⟨⟨r⟩⟩)) none) none else none)=_;rw[av hn,cond_true,mH h2 n off hn,aZ,hr,LS];rfl
theorem GS {s d e:TypeId}(hs:P.underlying s=some (.slice e))(he:P.underlying e=some (.int .u8))(hd:P.underlying d=some .string):ec P H s d (some (.slice none 0 0))=some (aK []):=by
 show DT P s d (.slice none 0 0)=_;show(fV P (convert s d (.slice none 0 0)))=_;have e1:dW P (convert s d (.slice none 0 0))=some (aK []):=by
  unfold convert;simp only[cB,eW hs,eW hd,ba];simp only[cB,eW he,ba];simp[Conv.bytesToString];rfl
 exact ue e1 rfl
theorem kN {s d:TypeId}{k k':IntKind}{n:Int}{ds:TypeDesc}(hs:P.underlying s=some ds)(hd:P.underlying d=some (.int k)):ec P H s d (some (.int k' n))=some (.int k (k.wrap n)):=by
 show DT P s d (.int k' n)=_;show(fV P (convert s d (.int k' n)))=_;have e1:dW P (convert s d (.int k' n))=some (.int k (k.wrap n)):=by
  unfold convert;simp only[cB,eW hs,eW hd,ba];rfl
 exact ue e1 rfl
theorem wR (k:IntKind)(n:Int):HP P .neg (some (.int k n))=some (.int k (k.wrap (0-n))):=by
 show fV P (Op.unary .neg (.int k n))=_;have e:Op.unary .neg (.int k n)=pure (.int k (k.wrap (0-n))):=rfl;rw[e];exact gF rfl
theorem E4 {t e:TypeId}{s b off len i:Nat}(hu:P.underlying t=some (.array len e))(hs:bT P e=some s)(hi:i<len)(k:IntKind):cq P t (some (.pointer (some ⟨b,off,none⟩))) (some (.int k (i:Int)))=some (.pointer (some ⟨b,off+i*s,none⟩)):=by
 show lI (i:Int) (MP P t (some (.pointer (some ⟨b,off,none⟩)))) none=_;rw[iY];show qD P t (λlen s=>bif bY i len then eF (iq off (Nat.mul i s)) (λo=>some (Value.pointer (some ⟨b,o,none⟩)))else none) none=_;unfold qD;rw[hu];simp only;rw[hs,aZ,show bY i len=true from av hi,cond_true,bW];rfl
theorem E5 {t e:TypeId}{s b off len i:Nat}(hu:P.underlying t=some (.array len e))(hs:bT P e=some s)(hi:i<len)(hl:len<9223372036854775808)(k:IntKind):
 cw P H t (some (.pointer (some ⟨b,off,none⟩))) (some (some (.int k (i:Int)))) (some none) (some none)=some (.slice (some ⟨b,off+i*s,none⟩) (len-i) (len-i)):=by
 show qD P t (λn s=>aw (some i) (λl=>aw (some n) (λh=>lJ b off n s l h) none) none) none=_;unfold qD;rw[hu];simp only;rw[hs,aZ];show lJ b off len s i len=_;unfold lJ;rw[av (Nat.le_of_lt hi),av (ax _),show bY len iw=true from av (by unfold iw;omega)];simp only[gO,cond_true,bW];rw[show ay len i=false from by rw[Bool.eq_false_iff];intro h;rw[Nat.beq_eq]at h;omega];rfl
theorem AF {t u e:TypeId}{b:ByteArray}{base:Option Addr}{sl sc:Nat}(hu:P.underlying t=some (.slice e))(hs:bT P e=some 1)(hq:re P u=true)(hsm:da P e 1 (sl+b.size)=true):
 fe P H nx [t,u] (some [.slice base sl sc,.string b])=rU P H nx e 1 base sl sc b.size (kM b.data.toList):=by
 show(bif re P u then fU P t (λe s=>bif da P e s (sl+b.size)&&ay s 1 then rU P H nx e s base sl sc b.size (b.data.toList.map λx=> .int .u8 (.ofNat x.toNat))else .bad) .bad else .bad)=_;rw[hq,cond_true];unfold fU;rw[hu];simp only;rw[hs,aZ,hsm];rfl
theorem Wq.abr {t u e:TypeId}{r:List UInt8}{k:Value->T OB->Nat->Q}(hu:P.underlying t=some (.slice e))(hs:bT P e=some 1)(hq:re P u=true)(hsm:da P e 1 r.length=true)(h:Ag nx0 H0 nx H)
 (h0:r=[]->bA P pl X (k (.slice none 0 0) H nx) nx0 H0 R)
 (hk:∀H',r≠[]->dO H' nx (kM r) e->(∀b l e,b<nx->dO H b l e->dO H' b l e)->Ag nx0 H0 (nx+1) H'->bA P pl X (k (.slice (some ⟨nx,0,none⟩) r.length iw) H' (nx+1)) nx0 H0 R):
 bA P pl X (bU (fe P H nx [t,u] (some [.slice none 0 0,aK r])) k) nx0 H0 R:=by
 rw[AF hu hs hq (by rw[bN];exact hsm)];show bA P pl X (bU (bif ay 0 0&&ay 0 0 then(bif ay r.length 0 then .val (.slice none 0 0) H nx else kD H nx e r.length (kM r))else .bad) k) nx0 H0 R;cases r with
 | nil=>exact h0 rfl
 | cons x r=>
   show bA P pl X (bU (kD H nx e (x::r).length (kM (x::r))) k) nx0 H0 R;rw[kU];exact Wq.new (q:=λH n=>k (.slice (some ⟨nx,0,none⟩) (x::r).length iw) H n) h λH' a b c=>hk H' (by simp) a b c
theorem Wq.aeL {t u e e':TypeId}{b n:Nat}{l:List Value}{r:List UInt8}{k:Value->T OB->Nat->Q}(hu:P.underlying t=some (.slice e))(hs:bT P e=some 1)(hq:re P u=true)(hb:dO H b l e')(hs':bT P e'=some 1)(hl:l.length=n)
 (hsm:da P e 1 (n+r.length)=true) (h:Ag nx0 H0 nx H) (hbn:nx0<=b) (hbx:b<nx)
 (hk:∀H',dO H' nx (l++kM r) e->(∀c l e,c≠b->c<nx->dO H c l e->dO H' c l e)->Ag nx0 H0 (nx+1) H'->bA P pl X (k (.slice (some ⟨nx,0,none⟩) (n+r.length) iw) H' (nx+1)) nx0 H0 R):
 bA P pl X (bU (fe P H nx [t,u] (some [.slice (some ⟨b,0,none⟩) n iw,aK r])) k) nx0 H0 R:=by
 rw[AF hu hs hq hsm];obtain⟨tr,h1,h2⟩:=hb;have e1:rU P H nx e 1 (some ⟨b,0,none⟩) n iw r.length (kM r)=kD (Ev.set H (bits b) (some .dead)) nx e (n+r.length) (l++kM r):=by
  show zD P H nx e 1 b 0 n iw r.length (kM r)=_;unfold zD;rw[h1];have eu:ay iw iw=true:=cm _;simp only[gM,eu,cond_true];unfold XA xk;rw[h1];show(bif ay 0 0&&bj (n*1) l.length&&aw (bT P e') (λz=>ay z 1) false&&(kM r).all aC then _ else _)=_;rw[hs',aZ,cm,hl,av (by omega),wQ];have:vd tr (n*1) 0=some l:=by rw[jk,<- hl,mH h2 _ _ (by omega)];simp
  rw[this,cm];show fQ (bits b) H (some .dead) (λH=>kD H nx e (n+r.length) (l++kM r))=_;rw[bQ]
 show bA P pl X (bU (rU P H nx e 1 (some ⟨b,0,none⟩) n iw r.length (kM r)) k) nx0 H0 R;rw[e1,kU];exact Wq.new (q:=λH n'=>k (.slice (some ⟨nx,0,none⟩) (n+r.length) iw) H n') (h.set hbn _) λH' ha hb hc=>hk H' ha (λc l e hcb hcn hi=>hb c l e hcn (hi.other hcb _)) hc
end
section
variable {P:Program}{pl:ny}{X:Ext}{H H0 H1:T OB}{nx nx0 aI:Nat}{v u:Value}{R:Go.Ev.Out->T OB->Nat->Prop}
theorem bF {t:TypeId}(hu:P.underlying t=some .string){l:List UInt8}{i:Nat}{c:UInt8}(h:l[i]? = some c)(k:IntKind):eB P t (some (aK l)) (some (.int k (i:Int)))=some (.int .u8 (c.toNat:Int)):=by
 show F0 P t (aK l) (.int k i)=_;show fV P (Instr.index t (aK l) (.int k i))=_;have hi:i<l.length:=(ar.1 h).1;have e0:(⟨⟨l⟩⟩:ByteArray)[i]? = some c:=by
  rw[ByteArray.getElem?_lt' _ _ hi];exact(au hi).symm.trans h
 have e1:dW P (Instr.index t (aK l) (.int k i))=some (.int .u8 (c.toNat:Int)):=by
  unfold Instr.index;simp only[asIntOf,cB,eW hu,ba];have h0:(0:Int)<=(i:Int):=by omega
  have:dW P (pure (k,(i:Int)):Sem (IntKind×Int))=some (k,(i:Int)):=rfl;simp only[this,ba,h0,if_true,Int.toNat_natCast,e0];rfl
 exact ue e1 rfl
theorem LU (t:TypeId)(q:Bool)(k k':IntKind)(a:Int)(n:Nat)(hn:n<=k.bits):dx P H .shr t q (some (.int k a)) (some (.int k' (n:Int)))=some (.int k (a.fdiv (2^n))):=by
 rw[lQ rfl rfl rfl rfl];have e0:A5 P .shr t (.int k a) (.int k' (n:Int))=fV P (binOp .shr t (.int k a) (.int k' (n:Int))):=rfl;have e:binOp .shr t (.int k a) (.int k' (n:Int))=pure (.int k (a.fdiv (2^n))):=by
  show Op.shift .shr k a k' (n:Int)=_;unfold Op.shift;rw[if_neg (by omega)];simp only[Int.toNat_natCast,jR hn]
 rw[e0,e];exact gF rfl
theorem LV (t:TypeId)(q:Bool)(k:IntKind)(a b:Int):dx P H .and t q (some (.int k a)) (some (.int k b))=some (.int k (k.wrap ((BitVec.ofInt k.bits a &&& BitVec.ofInt k.bits b).toNat:Int))):=by
 rw[gA];have e:binOp .and t (.int k a) (.int k b)=pure (.int k (k.wrap ((BitVec.ofInt k.bits a &&& BitVec.ofInt k.bits b).toNat:Int))):=by simp[binOp,Op.intBits]
 rw[e];exact gF rfl
def BS (e:TypeId)(nx0:Nat)(H:T OB)(nx:Nat)(r:List UInt8)(sl:Value):Prop:=
 (r=[]/\sl= .slice none 0 0)\/∃b c,nx0<=b/\b<nx/\dO H b (kM r) e/\(c=iw\/c=r.length)/\sl= .slice (some ⟨b,0,none⟩) r.length c
theorem BS.nil (e:TypeId)(nx0:Nat)(H:T OB)(nx:Nat):BS e nx0 H nx [] (.slice none 0 0):= .inl ⟨rfl,rfl⟩
theorem Wq.rF {t e:TypeId}{n:Nat}{r x:List UInt8}{sl:Value}{vs:List (Nat×Value)}{z:List Value}{k:Value->T OB->Nat->Q}(hu:P.underlying t=some (.slice e))(hs:bT P e=some 1)(hz:dD P e=some z)(hsl:BS e nx0 H nx r sl)(hn:x.length=n)
 (hg:(bj (n*1) 16777216&&bY 0 (n*1)&&bY 0 z.length)=true) (hf:Instr.fill (λi=>some (i*1,1)) (cI z (n*1)) vs=some ⟨kM x⟩) (hsm:∀m,m<=r.length+x.length->da P e 1 m=true) (h:Ag nx0 H0 nx H)
 (hk:∀H' sl' nx',BS e nx0 H' nx' (r++x) sl'->Ag nx0 H0 nx' H'->nx<=nx'->bA P pl X (k sl' H' nx') nx0 H0 R):
 bA P pl X (bU (bC P H nx t n (some vs)) λv H nx=>bU (fe P H nx [t,t] (some [sl,v])) k) nx0 H0 R:=by
 have hn0:0<x.length:=by
  rw[hn];simp only[ae]at hg;have:=eh (Nat.zero_lt_one) (dS hg.1.2);omega
 refine Wq.row hu hs hz hg hf h λH1 hb1 dZ hA1=> ?_;have hx1:qv H1 1 (.slice (some ⟨nx,0,none⟩) n n)=some (n,kM x):=Bt hb1 (by simp;exact hn);rcases hsl with⟨rfl,rfl⟩ | ⟨b,c,hb0,hbx,hb,hc,rfl⟩
 . refine Wq.Nz hu hs rfl hx1 (hsm _ (by simp;omega)) hA1 (λh0=>by omega) λH2 _ hb2 _ hA2=> ?_;refine hk _ _ _ ?_ hA2 (by omega);exact .inr ⟨nx+1,iw,by have:=h.1;omega,by omega,by simpa using hb2,.inl rfl,by rw[cj,hn]⟩
 . have hb':=dZ _ _ _ hbx hb;rcases hc with rfl | rfl
   . refine Wq.app hu hs hb' hs (by simp) rfl hx1 (wQ x) (hsm _ (by omega)) hA1 hb0 (by omega) λH2 hb2 _ hA2=> ?_;refine hk _ _ _ ?_ hA2 (by omega);exact .inr ⟨nx+1,iw,by have:=h.1;omega,by omega,by rw[lV];exact hb2,.inl rfl,by rw[aj,hn]⟩
   . rw[p4 rfl];unfold fU;rw[hu];simp only[hs,aZ,hx1,hsm (r.length+n) (by omega),cond_true];obtain⟨tr,h1,h2⟩:=hb'
     by_cases hr:r.length=iw
     . have hh:=hsm r.length (by omega);exact absurd hh (by
        unfold da;intro q;split at q
        . simp only[ae]at q;have:=dS q.1.2;unfold iw at hr;omega
        . cases q)
     . have e1:rU P H1 (nx+1) e 1 (some ⟨b,0,none⟩) r.length r.length n (kM x)=kD H1 (nx+1) e (r.length+n) (kM r++kM x):=by
        show zD P H1 (nx+1) e 1 b 0 r.length r.length n (kM x)=_;unfold zD;rw[h1];have eu:ay r.length iw=false:=by
         rw[Bool.eq_false_iff];intro q;rw[Nat.beq_eq]at q;exact hr q
        have el:bj (r.length+n) r.length=false:=by
         rw[Bool.eq_false_iff];intro q;have:=dS q;omega
        simp only[gM,eu,cond_false,el];unfold uH;rw[show bj (0+r.length*1) (kM r).length=true from av (by simp),show bY 0 n=true from av (by omega)];have:vd tr (r.length*1) 0=some (kM r):=by rw[mH h2 _ _ (by simp)];simp[fl]
        simp only[gO,cond_true,this,aZ]
       rw[e1,kU];refine Wq.new (q:=λH n'=>k (.slice (some ⟨nx+1,0,none⟩) (r.length+n) iw) H n') hA1 λH2 hb2 _ hA2=> ?_;refine hk _ _ _ ?_ hA2 (by omega);exact .inr ⟨nx+1,iw,by have:=h.1;omega,by omega,by rw[lV];exact hb2,.inl rfl,by rw[aj,hn]⟩
theorem mY {s d e:TypeId}{r:List UInt8}{sl:Value}(hs:P.underlying s=some (.slice e))(he:P.underlying e=some (.int .u8))(hd:P.underlying d=some .string)(hq:iy P s d=true){e':TypeId}(h:BS e' nx0 H nx r sl):ec P H s d (some sl)=some (aK r):=by
 rcases h with⟨rfl,rfl⟩ | ⟨b,c,hb0,hbx,hb,hc,rfl⟩
 . exact GS hs he hd
 . exact uf hq hb (by simp) (by rw[dq,fl (by simp)])
end
end
end Go.Ev
namespace Go.Ev
open Go.RowKit (Below)
noncomputable section
set_option maxRecDepth 100000
set_option linter.unusedVariables false
set_option linter.unusedSimpArgs false
section
def Y3 {β:Type}(l:List (Nat×List Value)):T OB->(T OB->β)->β:=
 @jL (Nat×List Value) (λ_=>T OB->(T OB->β)->β) (λH k=>k H)
  (λx _ ih H k=>iX x.2 0 .leaf λt=>eF x.2.length λn=>fQ (bits x.1) H (some (.ro n t)) λH=>ih H k) l
def qM:List (Nat×List Value)->T OB->T OB
 | [],H=>H
 | x::l,H=>qM l (set H (bits x.1) (some (.ro x.2.length (iQ x.2 0 .leaf))))
theorem Kl {β:Type}:∀(l:List (Nat×List Value)) (H:T OB) (k:T OB->β),Y3 l H k=k (qM l H)
 | [],H,k=>rfl
 | x::l,H,k=>by
   show(iX x.2 0 .leaf λt=>eF x.2.length λn=>fQ (bits x.1) H (some (.ro n t)) λH=>Y3 l H k)=_;rw[fW,bW,bQ];exact Kl l _ k
theorem yR:∀(l:List (Nat×List Value)) (H:T OB) (k:Nat) (ob:OB),hp (qM l H) k=some ob->(∃x∈l,x.1=k/\ob= .ro x.2.length (iQ x.2 0 .leaf))\/hp H k=some ob
 | [],H,k,ob,h=> .inr h
 | x::l,H,k,ob,h=>by
   rcases yR l _ k ob h with⟨y,hy,h1,h2⟩ | h
   . exact .inl ⟨y,by simp[hy],h1,h2⟩
   . rw[dc]at h
     by_cases hk:k=x.1
     . subst hk;rw[fH]at h;cases h;exact .inl ⟨x,by simp,rfl,rfl⟩
     . rw[bP _ hk]at h;exact .inr h
variable {P:Program}{W:World}{φ:fq}
def qg (l:List ByteArray):DataW Unit:= .agg (l.map λz=> .lit (.string z.data.toList))
theorem zM {P:Program}{w:World}{base:Nat}{sp:Nat->Bool}{held:Bool}{fuel:Nat}{t e:TypeId}{n:Nat}{cs:List Value}{l:List ByteArray}{p:List MemPlace}
 (ht:P.underlying t=some (.array n e)) (he:P.underlying e=some .string) (hce:P.cellsOf e=1) (hct:P.cellsOf t=n)
 (h:DataW.trod (λ_=>()) P w base sp held fuel t cs=some (qg l,p)):cs=l.map Value.string:=by
 cases fuel with
 | zero=>simp[DataW.trod]at h
 | succ fuel=>
   simp only[DataW.trod,ht,hce,hct,jk]at h;split at h
   . rename_i hl;obtain⟨xs,hm,hx⟩:=bO.1 h;have hxs:xs.map (·.1)=l.map λz=>(DataW.lit (.string z.data.toList):DataW Unit):=by
      have:=congrArg Prod.fst hx;simpa[qg]using this
     have hxl:xs.length=n:=by simpa using Lib.mapM_length hm
     have hzl:l.length=n:=by
      have:=congrArg List.length hxs;simp at this;omega
     apply eE;intro i
     by_cases hi:i<n
     . obtain⟨b,hb,hf⟩:=Lib.mapM_at hm i i (by simp[hi]);obtain⟨z,hc,rfl,_⟩:=DataW.trod_string he hf;have h1:cs[i]? = some (.string z):=by
        have:=congrArg (·[0]?) hc;simpa[bR,bL]using this
       have h2:(xs.map (·.1))[i]? = some (DataW.lit (.string z.data.toList):DataW Unit):=by simp[hb]
       rw[hxs]at h2;simp only[bS,bO,DataW.lit.injEq,Lit.string.injEq]at h2;obtain⟨z',hz',hz2⟩:=h2;have:z'=z:=by
        cases z;cases z';simp at hz2;simp[hz2]
       simp[h1,hz',this]
     . rw[bt (by omega),bt (by simp;omega)]
   . cases h
theorem oZ {P:Program}{W:World}{name:String}{l:List ByteArray}{rest:List (String×DataW Unit)}{g:Nat}{t e:TypeId}{n:Nat}
 (hg:P.globalNamed name=some g) (hty:(P.globals[g]?).map (·.type)=some t) (ht:P.underlying t=some (.array n e)) (he:P.underlying e=some .string) (hce:P.cellsOf e=1) (hct:P.cellsOf t=n)
 (h:laidMet P ((name,qg l)::rest) W):∃c el fz,W.heap[g]? = some (.cells c el fz)/\c.toList=l.map Value.string:=by
 obtain⟨ps,⟨g',t',cs,fuel,p,q,hg',ht',hvar,hd,_,_⟩,_⟩:=h;obtain rfl:=Option.some.inj (hg.symm.trans hg');obtain rfl:=Option.some.inj (hty.symm.trans ht');have hcs:=zM ht he hce hct hd;unfold World.var? at hvar;rw[hg]at hvar;simp only[ba]at hvar;split at hvar
 . rename_i c el fz hb;cases hvar;exact⟨_,_,_,hb,hcs⟩
 . cases hvar
end
end
end Go.Ev
namespace Go.Ev
noncomputable section
set_option maxRecDepth 100000
set_option linter.unusedVariables false
set_option linter.unusedSimpArgs false
section
variable {P:Program}{pl:ny}{X:Ext}{H H0 H1:T OB}{nx nx0 aI:Nat}{v u:Value}{R:Go.Ev.Out->T OB->Nat->Prop}
def FX (H:T OB)(b:Nat)(es:List MapEntry)(c:Nat):Prop:=H.get (bits b)=some (.map es c)
theorem FX.other {b c:Nat}{es:List MapEntry}{n:Nat}(h:FX H b es n)(hc:b≠c)(x:Option OB):FX (Ev.set H (bits c) x) b es n:=by
 unfold FX at h ⊢;rw[get_at,if_neg hc];exact h
theorem Wq.abt {k:Value->T OB->Nat->Q}(h:Ag nx0 H0 nx H)
 (hk:∀H',FX H' nx [] 0->(∀b l e,b<nx->dO H b l e->dO H' b l e)->(∀b es c,b<nx->FX H b es c->FX H' b es c)->Ag nx0 H0 (nx+1) H'->bA P pl X (k (.map (some nx)) H' (nx+1)) nx0 H0 R):bA P pl X (bU (iI H nx) k) nx0 H0 R:=by
 have e1:bU (iI H nx) k=k (.map (some nx)) (Ev.set H (bits nx) (some (.map [] 0))) (nx+1):=by
  unfold iI;rw[bQ,bW];rfl
 rw[e1];exact hk _ (by unfold FX;rw[get_at,if_pos rfl]) (λb l e hb h=>h.other (by omega) _) (λb es c hb h=>h.other (by omega) _) (h.succ.set h.1 _)
theorem Wq.rS {t kt et:TypeId}{d:TypeDesc}{b:Nat}{es:List MapEntry}{c:Nat}{kv x:Value}{k:Value->T OB->Nat->Q}(hu:P.underlying t=some (.map kt et))(hd:P.underlying kt=some d)(hkk:mh d=true)(hb:FX H b es c)(hf:Instr.findNow d kv es 0=some none)(h:Ag nx0 H0 nx H)(hbn:nx0<=b)
 (hk:∀H',FX H' b (es++[⟨kv,x,c⟩]) (c+1)->(∀c l e,c≠b->dO H c l e->dO H' c l e)->(∀c es n,c≠b->FX H c es n->FX H' c es n)->Ag nx0 H0 nx H'->bA P pl X (k undef H' nx) nx0 H0 R):
 bA P pl X (bU (db P H nx t (some (.map (some b))) (some kv) (some x)) k) nx0 H0 R:=by
 have e1:db P H nx t (some (.map (some b))) (some kv) (some x)= .val undef (Ev.set H (bits b) (some (.map (es++[⟨kv,x,c⟩]) (c+1)))) nx:=by
  unfold db qE;rw[hu];simp only;rw[hd,aZ,hkk,cond_true];show A7 (H.get (bits b)) (λes c=>MS H nx b es c kv x (Instr.findNow d kv es 0)) .bad=_;unfold FX at hb;rw[hb];show MS H nx b es c kv x (Instr.findNow d kv es 0)=_;rw[hf];show Ev.eF (cS c) (λc'=>fQ (bits b) H (some (.map (es++[⟨kv,x,c⟩]) c')) λH=>iV.val undef H nx)=_;rw[bW,bQ]
 rw[e1];exact hk _ (by unfold FX;rw[get_at,if_pos rfl]) (λc l e hc h=>h.other hc _) (λc es n hc h=>h.other hc _) (h.set hbn _)
theorem E6 {t kt et:TypeId}{d:TypeDesc}{b:Nat}{es:List MapEntry}{c:Nat}{kv:Value}{ok:Bool}(hu:P.underlying t=some (.map kt et))(hd:P.underlying kt=some d)(hkk:mh d=true)(hb:FX H b es c):
 eA P H t (some (.map (some b))) (some kv) ok=HS P et ok (Instr.findNow d kv es 0):=by
 unfold eA qE;rw[hu];simp only;rw[hd,aZ,hkk,cond_true];unfold FX at hb;unfold F5;simp only[hb,aZ]
def vi (H:T OB)(b:Nat)(l:List Value):Prop:=∃tr,H.get (bits b)=some (.ro l.length tr)/\∀i,i<l.length->tr.get (bits i)=l[i]?
theorem vi.ag {b:Nat}{l:List Value}(h:vi H b l)(hA:Ag nx H aI H1)(hb:b<nx):vi H1 b l:=by
 obtain⟨tr,h1,h2⟩:=h;exact⟨tr,(show hp H1 b=_ from(hA.2 b hb).trans h1),h2⟩
theorem ug {b off:Nat}{l:List Value}{t:TypeId}{u:Value}(h:vi H b l)(ha:gf P t=some false)(hu:l[off]? = some u):aA P H t (some (.pointer (some ⟨b,off,none⟩)))=some u:=by
 obtain⟨tr,h1,h2⟩:=h;have hlt:=(ar.1 hu).1;show nX P H t b off=_;unfold nX;rw[h1];show oz P l.length tr t off=_;unfold oz;rw[ha,aZ];show xg l.length tr off=_;unfold xg;have e1:bY off l.length=true:=av hlt;rw[e1,h2 off hlt,hu];rfl
theorem o0 {t e:TypeId}{s b off len:Nat}(hu:P.underlying t=some (.array len e))(hs:bT P e=some s)(h0:0<len)(hl:len<9223372036854775808):
 cw P H t (some (.pointer (some ⟨b,off,none⟩))) (some none) (some none) (some none)=some (.slice (some ⟨b,off,none⟩) len len):=by
 show qD P t (λn s=>aw (some 0) (λl=>aw (some n) (λh=>lJ b off n s l h) none) none) none=_;unfold qD;rw[hu];simp only;rw[hs,aZ];show lJ b off len s 0 len=_;unfold lJ;rw[av (aN _),av (ax _),show bY len iw=true from av (by unfold iw;omega)];simp only[gO,cond_true,bW];rw[show ay len 0=false from by rw[Bool.eq_false_iff];intro h;rw[Nat.beq_eq]at h;omega];simp
theorem gd {t:TypeId}(hu:P.underlying t=some .string){l:List UInt8}{lo hi:Nat}(h1:lo<=hi)(h2:hi<=l.length)(k k':IntKind):
 cw P H t (some (aK l)) (some (some (.int k (lo:Int)))) (some (some (.int k' (hi:Int)))) (some none)=some (aK ((l.drop lo).take (hi-lo))):=by
 show tz P t (aK l) (some (some (.int k (lo:Int)))) (some (some (.int k' (hi:Int)))) (some none)=_;show fV P (Instr.sliceAt t (aK l) (some (.int k (lo:Int))) (some (.int k' (hi:Int))) none)=_;have e0:(⟨⟨l⟩⟩:ByteArray).extract lo hi=⟨⟨(l.drop lo).take (hi-lo)⟩⟩:=by
  apply ByteArray.ext;rw[ByteArray.data_extract];apply eU;simp
 have e1:dW P (Instr.sliceAt t (aK l) (some (.int k (lo:Int))) (some (.int k' (hi:Int))) none)=some (aK ((l.drop lo).take (hi-lo))):=by
  unfold Instr.sliceAt;simp only[cB,eW hu,ba];unfold Instr.slice;simp only[cB,eW hu,ba];unfold Instr.sliceBounds Instr.sliceBound;simp only[cB,asIntOf,iL];have pp:∀{α:Type} (a:α),dW P (pure a:Sem α)=some a:=λ_=>rfl;rw[if_neg (by decide)];simp only[cB,pp,ba];have c1:(0:Int)<=(hi:Int)/\(hi:Int)<=((⟨⟨l⟩⟩:ByteArray).size:Int):=⟨by omega,by rw[aT];omega⟩;have c2:(0:Int)<=(lo:Int)/\(lo:Int)<=(((hi:Int).toNat:Nat):Int):=⟨by omega,by omega⟩;rw[if_pos c1];simp only[pp,ba];rw[if_pos c2];simp only[pp,ba,Int.toNat_natCast,e0]
 exact ue e1 rfl
end
end
end Go.Ev
namespace Go.Proofs.YthjhonhhbddhkaaGreatDoor
open Go.Ev Go.RowKit
noncomputable section
set_option maxRecDepth 100000
set_option linter.unusedVariables false
set_option linter.unusedSimpArgs false
set_option maxHeartbeats 8000000
section
variable {X:Ext}
theorem az {i:Nat}(h:i<9223372036854775807):IntKind.i64.wrap ((i:Int)+1)=((i+1:Nat):Int):=by rw[aS (by omega)];omega
theorem Wq.each {nx0:Nat}{H0:T OB}{α σ:Type}(l:List α)(q:Nat->σ->T OB->Nat->Q)(R:List α->σ->Value)(hend:∀s H1 aI,Ag nx0 H0 aI H1->Wq P pl X (q l.length s H1 aI) nx0 H0 (R [] s))
 (hstep:∀i a t s H1 aI,l[i]? = some a->i<l.length->l.drop (i+1)=t->Ag nx0 H0 aI H1->(∀s H2 nx2,Ag nx0 H0 nx2 H2->Wq P pl X (q (i+1) s H2 nx2) nx0 H0 (R t s))->Wq P pl X (q i s H1 aI) nx0 H0 (R (a::t) s))
 (s:σ) (H1:T OB) (aI:Nat) (hA:Ag nx0 H0 aI H1):Wq P pl X (q 0 s H1 aI) nx0 H0 (R l s):=by
 have h:=Wq.up l.length q (λi s=>R (l.drop i) s) (λs H1 aI h=>by simpa using hend s H1 aI h)
  (λi s H1 aI hi ih hA=>by
   have:=hstep i l[i] _ s H1 aI (au hi) hi rfl hA ih;simp only[dA hi];exact this) 0 s H1 aI (aN _) hA
 simpa using h
theorem aF {α:Type}(l:List α):decide ((l.length:Int)<(l.length:Int))=false:=by simp
theorem aJ {α:Type}{l:List α}{i:Nat}(h:i<l.length):decide ((i:Int)<(l.length:Int))=true:=by simp[h]
abbrev w (n:Int):Int:=IntKind.i64.wrap n
theorem Wq.ij {nx0:Nat}{H0:T OB}{nx:Nat}{H:T OB}{u v:Value}(e:u=v)(h:Ag nx0 H0 nx H):Wq P pl X (.ret ⟨.ret u,false,H,nx⟩) nx0 H0 v:=by subst e;exact Wq.ret h
theorem Wq.jmp {nx0:Nat}{H0:T OB}{R:Go.Ev.Out->T OB->Nat->Prop}{q:bV}{t:Q}(e:aX P pl q=t)(hq:∀k,tD X q k=k)(h:bA P pl X t nx0 H0 R):bA P pl X (.jump q) nx0 H0 R:=Wq.jump hq (by rw[e];exact h)
theorem Wq.put {nx0:Nat}{H0:T OB}{nx:Nat}{H:T OB}{R:Go.Ev.Out->T OB->Nat->Prop}{b off:Nat}{l l':List Value}{e t:TypeId}{u:Value}{k:Value->T OB->Nat->Q}(hb:dO H b l e)(hs:bT P t=some 1)(hc:u.cells.toList=[u])(ho:aC u=true)
 (hn:off<l.length) (hl:l.set off u=l') (h:Ag nx0 H0 nx H) (hbn:nx0<=b) (hk:∀H',dO H' b l' e->(∀c l e,c≠b->dO H c l e->dO H' c l e)->Ag nx0 H0 nx H'->bA P pl X (k undef H' nx) nx0 H0 R):
 bA P pl X (bU (eD P H nx t (some (.pointer (some ⟨b,off,none⟩))) (some u)) k) nx0 H0 R:=by
 refine Wq.store hb hs (by omega) (by rw[hc];rfl) (by rw[hc];simp[ho]) h hbn λH' hb' hh hA'=>hk H' ?_ hh hA';rw[hc]at hb';have e1:mn l [u] off=l':=by
  rw[<- hl,List.set_eq_take_append_cons_drop,if_pos hn];unfold mn;simp
 rw[e1]at hb';exact hb'
theorem Wq.gZ {nx0:Nat}{H0:T OB}{nx:Nat}{H:T OB}{R:Go.Ev.Out->T OB->Nat->Prop}{f:FuncId}{args:List Value}{u:Value}{k p:Value->T OB->Nat->Q}(hp:Pure P pl X f args u)(h:Ag nx0 H0 nx H)
 (hk:∀H' nx',Ag nx0 H0 nx' H'->nx<=nx'->(∀b l e,b<nx->dO H b l e->dO H' b l e)->bA P pl X (k u H' nx') nx0 H0 R):bA P pl X (dm (.call f args false none H nx) k p) nx0 H0 R:=by
 obtain⟨H1,aI,h1,h2⟩:=hp H nx;obtain⟨v,H2,nx2,h3,hR,h4⟩:=hk H1 aI (h.trans h1) h1.1 (λb l e hb h=>h.ag h1 hb);refine⟨v,H2,nx2,h3,hR,?_⟩;show aw (F P pl X (.call f args false none H nx)) (λr=>(match r.o with | .ret v=>k v r.H r.nx | .j_ v=>p v r.H r.nx:Q).run (F P pl X)) none=_;rw[h2];exact h4
end
theorem bq:P.underlying 9=some .string:=by kernel_rfl
abbrev b8 (c:UInt8):Value:= .int .u8 (c.toNat:Int)
theorem drop_cons {α:Type}{l t:List α}{a:α}{i:Nat}(h:l.drop i=a::t):l[i]? = some a/\i<l.length/\l.drop (i+1)=t:=by
 have hi:i<l.length:=by
  apply Classical.byContradiction;intro q;rw[List.drop_of_length_le (by omega)]at h;cases h
 rw[dA hi]at h;injection h with h1 h2
 exact⟨by rw[au hi,h1],hi,h2⟩
theorem drop_nil {α:Type}{l:List α}{i:Nat}(h:l.drop i=[])(hi:i<=l.length):i=l.length:=by
 have:=congrArg List.length h;simp at this;omega
def cV (c:UInt8):Bool:=decide (97<=c.toNat)&&decide (c.toNat<=122)
def cX (c:UInt8):Bool:=decide (65<=c.toNat)&&decide (c.toNat<=90)
def cu (c:UInt8):Bool:=decide (48<=c.toNat)&&decide (c.toNat<=57)
def kB (c:UInt8):Bool:=cV c||(cX c||(cu c||(decide (c.toNat=95)||decide (c.toNat=39))))
def kj:List (List UInt8):=[[97,110,100],[97,110,100,97,108,115,111],[99,97,115,101],[100,97,116,97,116,121,112,101],[100,105,118],[101,108,115,101],[101,110,100],[101,120,99,101,112,116,105,111,110],[102,110],[102,117,110],[104,97,110,100,108,101],[105,102],[105,110],[105,116,111,115],[108,101,116],[109,111,100],[110,111,116],[111,102],[111,114,100],[111,114,101,108,115,101],[114,97,105,115,101],[114,101,102],[115,105,122,101],[115,116,114],[116,104,101,110],[118,97,108]]
def bB:List (List UInt8):=[[45,62],[61,62],[58,58],[58,61],[60,61],[62,61],[60,62],[61],[60],[62],[43],[45],[42],[94],[33],[126],[40],[41],[44],[59],[124],[95]]
def fh:List (List UInt8):=[[126],[33],[110,111,116],[114,101,102],[115,105,122,101],[115,116,114],[111,114,100],[105,116,111,115]]
def lH:List UInt8->Bool
 | []=>false
 | c::_=>cX c
def iA (s:List UInt8):Int:=if(lH s||(decide (s=[116,114,117,101])||(decide (s=[102,97,108,115,101])||decide (s=[110,105,108]))))=true then 4 else if kj.contains s=true then 6 else 3
def isWord:List UInt8->Bool
 | []=>false
 | c::r=>(cV c||cX c)&&r.all kB
def isVar:List UInt8->Bool
 | a::b::r=>decide (a.toNat=39)&&(cV b&&r.all λc=> !decide (c.toNat=39)&&kB c)
 | _=>false
structure Tok where
 k:Int
 s:List UInt8
 n:Int
 at_:Int
abbrev Tok.c (t:Tok):List Value:=[i64 t.k,aK t.s,i64 t.n,i64 t.at_]
abbrev Tok.v (t:Tok):Value:= .agg ⟨t.c⟩
def cP (t:Tok):Bool:=
 if t.k=0 then decide (t.s=[])&&decide (t.n=0)
 else if t.k=1 then decide (t.s=[])&&(decide (0<=t.n)&&decide (t.n<=4611686018427387903))
 else if t.k=2 then decide (t.n=0)
 else if t.k=7 then decide (t.n=0)&&bB.contains t.s
 else if t.k=5 then isVar t.s&&decide (t.n=0)
 else if t.k=3\/t.k=4\/t.k=6 then isWord t.s&&(decide (t.n=0)&&decide (iA t.s=t.k))
 else false
def bx:List (List (List UInt8)):=[[[111,114,101,108,115,101]],[[97,110,100,97,108,115,111]],[[58,61]],[[61],[60,62],[60],[60,61],[62],[62,61]],[[58,58]],[[43],[45],[94]],[[42],[100,105,118],[109,111,100]]]
abbrev lvl (l:List (List UInt8)):Value:=bM 1 (l.map aK)
def lD:List (Nat×List Value):=[(0,bB.map aK),(1,kj.map aK),(2,bx.map lvl),(3,fh.map aK)]
def g_ (nx0:Nat)(H0:T OB):Prop:=4<=nx0/\∀x∈lD,vi H0 x.1 x.2
theorem g_.ag {nx0 nx:Nat}{H0 H:T OB}(h:g_ nx0 H0)(hA:Ag nx0 H0 nx H):g_ nx H:=⟨by have:=h.1;have:=hA.1;omega,λx hx=>(h.2 x hx).ag hA (by
 have h7:=h.1;simp only[lD,aG,cO,or_false]at hx;rcases hx with rfl | rfl | rfl | rfl<;>(show _<nx0;omega))⟩
theorem g_.WH {nx0:Nat}{H0:T OB}(h:g_ nx0 H0):vi H0 0 (bB.map aK):=h.2 (0,bB.map aK) (by simp[lD])
theorem g_.keys {nx0:Nat}{H0:T OB}(h:g_ nx0 H0):vi H0 1 (kj.map aK):=h.2 (1,kj.map aK) (by simp[lD])
theorem g_.levels {nx0:Nat}{H0:T OB}(h:g_ nx0 H0):vi H0 2 (bx.map lvl):=h.2 (2,bx.map lvl) (by simp[lD])
theorem g_.words {nx0:Nat}{H0:T OB}(h:g_ nx0 H0):vi H0 3 (fh.map aK):=h.2 (3,fh.map aK) (by simp[lD])
abbrev X0:Ext:=λf args=>bif ay f 11 then(match args with | []=>some (.bool true) | _=>none)else none
abbrev P0 (f:FuncId)(args:List Value)(v:Value):Prop:=Pure P pl X0 f args v
theorem E7 (c:UInt8):P0 55 [b8 c] (.bool (cV c)):=Pure.of rfl λH nx=>by
 rw[q55];simp only[af];unfold cV;refine Wq.ite (λh=> ?_) (λh=> ?_)
 . refine Wq.ij ?_ (.refl _ _);rw[show decide (97<=c.toNat)=true from by simp;omega,ai];congr 1;rw[decide_eq_decide];omega
 . refine Wq.ij ?_ (.refl _ _);rw[show decide (97<=c.toNat)=false from by simp;omega];rfl
theorem Km (c:UInt8):P0 57 [b8 c] (.bool (cX c)):=Pure.of rfl λH nx=>by
 rw[q57];simp only[af];unfold cX;refine Wq.ite (λh=> ?_) (λh=> ?_)
 . refine Wq.ij ?_ (.refl _ _);rw[show decide (65<=c.toNat)=true from by simp;omega,ai];congr 1;rw[decide_eq_decide];omega
 . refine Wq.ij ?_ (.refl _ _);rw[show decide (65<=c.toNat)=false from by simp;omega];rfl
theorem Kn (c:UInt8):P0 99 [b8 c] (.bool (cu c)):=Pure.of rfl λH nx=>by
 rw[q99];simp only[af];unfold cu;refine Wq.ite (λh=> ?_) (λh=> ?_)
 . refine Wq.ij ?_ (.refl _ _);rw[show decide (48<=c.toNat)=true from by simp;omega,ai];congr 1;rw[decide_eq_decide];omega
 . refine Wq.ij ?_ (.refl _ _);rw[show decide (48<=c.toNat)=false from by simp;omega];rfl
theorem Ko (c:UInt8):P0 56 [b8 c] (.bool (kB c)):=Pure.of rfl λH nx=>by
 rw[q56];unfold kB;refine Wq.call (E7 c) (.refl _ _) λH1 aI hA1=> ?_;simp only[af];cases cV c with
 | true=>exact Wq.ret hA1
 | false=>
   simp only[af,bG];refine Wq.call (Km c) hA1 λH2 nx2 hA2=> ?_;simp only[af];cases cX c with
   | true=>exact Wq.ret hA2
   | false=>
     simp only[af,bG];refine Wq.call (Kn c) hA2 λH3 nx3 hA3=> ?_;simp only[af];cases cu c with
     | true=>exact Wq.ret hA3
     | false=>
       simp only[af,bG];refine Wq.ite (λh=> ?_) (λh=> ?_)
       . refine Wq.ij ?_ hA3;rw[show decide (c.toNat=95)=true from by simp;omega];rfl
       . refine Wq.ij ?_ hA3;rw[show decide (c.toNat=95)=false from by simp;omega,bG];congr 1;rw[decide_eq_decide];omega
theorem OZ {nx0:Nat}{H0:T OB}(b:Nat)(l:List (List UInt8))(s:List UInt8)(hb:vi H0 b (l.map aK))(hbx:b<nx0)(hl:l.length<1000000)(cp:Nat):∀(r:List (List UInt8)) (i:Nat) (H:T OB) (nx:Nat),l.drop i=r->i<=l.length->Ag nx0 H0 nx H->
 Wq P pl X0 (.jump (JN (aK s) (.slice (some ⟨b,0,none⟩) l.length cp) (i64 (l.length:Int)) (i64 (i:Int)) H nx)) nx0 H0 (.bool (r.contains s)):=by
 intro r
 induction r with
 | nil=>
   intro i H nx hd hi hA;have hil:=drop_nil hd hi;refine Wq.jmp (Wp ..) (λ_=>rfl) ?_;simp only[af,hil,aF];exact Wq.ret hA
 | cons x r ih=>
   intro i H nx hd hi hA;obtain⟨hg,hlt,hd'⟩:=drop_cons hd;have hg':(l.map aK)[0+i*1]? = some (aK x):=by simp[hg]
   refine Wq.jmp (Wp ..) (λ_=>rfl) ?_;simp only[af,aJ hlt,NL hlt,ug (hb.ag hA hbx) oT hg',az (show i<9223372036854775807 by omega)];refine Wq.ite (λh=> ?_) (λh=> ?_)
   . exact Wq.ij (by have:x=s:=by simpa using h
                     subst this;simp) hA
   . have hne:x≠s:=λq=>h (by rw[q]);have:((x::r).contains s)=r.contains s:=by rw[jX,show(s == x)=false from by simp;exact λq=>hne q.symm,bG]
     rw[this];exact ih (i+1) H nx hd' (by omega) hA
def PT (f:FuncId)(args:List Value)(v:Value):Prop:=∀H nx,g_ nx H->∃H' nx',Ag nx H nx' H'/\F P pl X0 (.call f args false none H nx)=some ⟨.ret v,false,H',nx'⟩
theorem PT.of {f:FuncId}{args:List Value}{v:Value}(hx:X0 f args=none)(h:∀H nx,g_ nx H->Wq P pl X0 (aX P pl (.call f args false none H nx)) nx H v):PT f args v:=λH nx hT=>by
 obtain⟨_,H',nx',h1,⟨_,rfl,rfl⟩,h2⟩:=h H nx hT;refine⟨H',nx',h1,?_⟩;rw[tS];show @gm Value (λ_=>Option Rt) _ (λv=>some ⟨.ret v,false,H,nx⟩) (X0 f args)=_;rw[hx];exact h2
theorem Wq.uW {nx0:Nat}{H0:T OB}{nx:Nat}{H:T OB}{R:Go.Ev.Out->T OB->Nat->Prop}{f:FuncId}{args:List Value}{u:Value}{k p:Value->T OB->Nat->Q}(hT:g_ nx0 H0)(hp:PT f args u)(h:Ag nx0 H0 nx H)
 (hk:∀H' nx',Ag nx0 H0 nx' H'->bA P pl X0 (k u H' nx') nx0 H0 R):bA P pl X0 (dm (.call f args false none H nx) k p) nx0 H0 R:=by
 obtain⟨H1,aI,h1,h2⟩:=hp H nx (hT.ag h);obtain⟨v,H2,nx2,h3,hR,h4⟩:=hk H1 aI (h.trans h1);refine⟨v,H2,nx2,h3,hR,?_⟩;show aw (F P pl X0 (.call f args false none H nx)) (λr=>(match r.o with | .ret v=>k v r.H r.nx | .j_ v=>p v r.H r.nx:Q).run (F P pl X0)) none=_;rw[h2];exact h4
theorem abu (H:T OB):cw P H 99 (some (.pointer (some ⟨0,0,none⟩))) (some none) (some none) (some none)=some (.slice (some ⟨0,0,none⟩) 22 22):=o0 (len:=22) (e:=9) (by kernel_rfl) lU (by omega) (by omega)
theorem Y4 (H:T OB):cw P H 144 (some (.pointer (some ⟨1,0,none⟩))) (some none) (some none) (some none)=some (.slice (some ⟨1,0,none⟩) 26 26):=o0 (len:=26) (e:=9) (by kernel_rfl) lU (by omega) (by omega)
theorem LW {nx0:Nat}{H0:T OB}{nx:Nat}{H:T OB}(hT:g_ nx0 H0)(s:List UInt8)(hA:Ag nx0 H0 nx H):Wq P pl X0 (aX P pl (.call 54 [.slice (some ⟨1,0,none⟩) 26 26,aK s] false none H nx)) nx0 H0 (.bool (kj.contains s)):=by
 rw[q54];simp only[af];exact OZ 1 kj s hT.keys (by have:=hT.1;omega) (by decide) 26 kj 0 H nx rfl (aN _) hA
theorem GU {nx0:Nat}{H0:T OB}{nx:Nat}{H:T OB}(hT:g_ nx0 H0)(s:List UInt8)(hA:Ag nx0 H0 nx H):Wq P pl X0 (aX P pl (.call 54 [.slice (some ⟨0,0,none⟩) 22 22,aK s] false none H nx)) nx0 H0 (.bool (bB.contains s)):=by
 rw[q54];simp only[af];exact OZ 0 bB s hT.WH (by have:=hT.1;omega) (by decide) 22 bB 0 H nx rfl (aN _) hA
theorem WI (c:UInt8)(r:List UInt8):PT 58 [aK (c::r)] (i64 (iA (c::r))):=PT.of rfl λH nx hT=>by
 rw[q58];have hix:=bF (P:=P) bq (l:=c::r) (i:=0) (c:=c) rfl .i64;rw[show((0:Nat):Int)=0 from rfl]at hix;have L6:∀(b:Bool) H1 aI,Ag nx H aI H1->b=(lH (c::r)||(decide (c::r=[116,114,117,101])||(decide (c::r=[102,97,108,115,101])||decide (c::r=[110,105,108]))))->Wq P pl X0 (.jump (AB (aK (c::r)) b H1 aI)) nx H (i64 (iA (c::r))):=by
  intro b H1 aI hA1 hb;refine Wq.jmp (abn ..) (λ_=>rfl) ?_;unfold iA;rw[<- hb];refine Wq.bK (λh=> ?_) (λh=> ?_)
  . rw[if_pos h];exact Wq.ret hA1
  . rw[if_neg (by rw[h];decide)];simp only[af,Y4];refine Wq.Bu rfl (LW hT _ hA1) λH2 nx2 hA2=> ?_;simp only[af];refine Wq.bK (λh2=> ?_) (λh2=> ?_)
    . rw[if_pos h2];exact Wq.ret hA2
    . rw[if_neg (by rw[h2];decide)];exact Wq.ret hA2
 have hb:∀l:List UInt8,decide ((⟨⟨c::r⟩⟩:ByteArray)=⟨⟨l⟩⟩)=decide (c::r=l):=λl=>by rw[decide_eq_decide];simp
 simp only[af,hix];refine Wq.call (Km c) (.refl _ _) λH1 aI hA1=> ?_;simp only[af,hb];refine Wq.bK (λh=>L6 _ _ _ hA1 (by show true=(cX c||_);rw[h];rfl)) (λh0=> ?_);refine Wq.bK (λh=>L6 _ _ _ hA1 (by show true=(cX c||_);rw[h0,h];rfl)) (λh1=> ?_);refine Wq.bK (λh=>L6 _ _ _ hA1 (by show true=(cX c||_);rw[h0,h1,h];rfl)) (λh2=> ?_);exact L6 _ _ _ hA1 (by show _=(cX c||_);rw[h0,h1,h2];rfl)
section
variable {nx0:Nat}{H0:T OB}
theorem Tx (t:Tok)(hl:t.s.length<9223372036854775807):∀(r:List UInt8) (i:Nat) (H:T OB) (nx:Nat),t.s.drop i=r->i<=t.s.length->Ag nx0 H0 nx H->
 Wq P pl X0 (.jump (BR (ah t.v) (i64 (i:Int)) H nx)) nx0 H0 (.bool ((r.all λc=> !decide (c.toNat=39)&&kB c)&&decide (t.n=0))):=by
 intro r
 induction r with
 | nil=>
   intro i H nx hd hi hA;have hil:=drop_nil hd hi;refine Wq.jmp (N7 ..) (λ_=>rfl) ?_;simp only[af,aV _ bq,aT,hil,aF];exact Wq.ret hA
 | cons c r ih=>
   intro i H nx hd hi hA;obtain⟨hg,hlt,hd'⟩:=drop_cons hd;have L36:∀(b:Bool) H1 aI,Ag nx0 H0 aI H1->b= !(!decide (c.toNat=39)&&kB c)->Wq P pl X0 (.jump (BT (ah t.v) (i64 (i:Int)) b H1 aI)) nx0 H0 (.bool (((c::r).all λc=> !decide (c.toNat=39)&&kB c)&&decide (t.n=0))):=by
    intro b H1 aI hA1 hb;refine Wq.jmp (Yo ..) (λ_=>rfl) ?_;rw[cW];refine Wq.bK (λh=> ?_) (λh=> ?_)
    . rw[h]at hb;have:(!decide (c.toNat=39)&&kB c)=false:=by rw[<- eY,<- hb];rfl
      exact Wq.ij (by rw[this];rfl) hA1
    . rw[h]at hb;have:(!decide (c.toNat=39)&&kB c)=true:=by rw[<- eY,<- hb];rfl
      rw[this,ai];simp only[af,az (show i<9223372036854775807 by omega)];exact ih (i+1) H1 aI hd' (by omega) hA1
   refine Wq.jmp (N7 ..) (λ_=>rfl) ?_;simp only[af,aV _ bq,aT,aJ hlt,bF bq hg];have e39:decide ((c.toNat:Int)=39)=decide (c.toNat=39):=by rw[decide_eq_decide];omega
   rw[e39];refine Wq.bK (λh=>L36 _ _ _ hA (by rw[h];rfl)) (λh=> ?_);refine Wq.call (Ko c) hA λH1 aI hA1=> ?_;simp only[af];exact L36 _ _ _ hA1 (by rw[h];rfl)
theorem Ty (hT:g_ nx0 H0)(t:Tok)(a:UInt8)(s:List UInt8)(hs:t.s=a::s)(hl:t.s.length<9223372036854775807):∀(r:List UInt8) (i:Nat) (H:T OB) (nx:Nat),t.s.drop i=r->i<=t.s.length->Ag nx0 H0 nx H->
 Wq P pl X0 (.jump (BV (ah t.v) (i64 (i:Int)) H nx)) nx0 H0 (.bool (r.all kB&&(decide (t.n=0)&&decide (iA t.s=t.k)))):=by
 intro r
 induction r with
 | nil=>
   intro i H nx hd hi hA;have hil:=drop_nil hd hi;refine Wq.jmp (N9 ..) (λ_=>rfl) ?_;simp only[af,aV _ bq,aT,hil,aF];rw[List.all_nil,ai];have p98:=WI a s;rw[<- hs]at p98;refine Wq.bK (λh=> ?_) (λh=> ?_)
   . rw[h,ai];refine Wq.uW hT p98 hA λH1 aI hA1=> ?_;simp only[af,aW];exact Wq.ret hA1
   . rw[h,aE];exact Wq.ret hA
 | cons c r ih=>
   intro i H nx hd hi hA;obtain⟨hg,hlt,hd'⟩:=drop_cons hd;refine Wq.jmp (N9 ..) (λ_=>rfl) ?_;simp only[af,aV _ bq,aT,aJ hlt,bF bq hg];refine Wq.call (Ko c) hA λH1 aI hA1=> ?_;simp only[af];rw[cW];cases kB c with
   | false=>exact Wq.ret hA1
   | true=>
     simp only[af,az (show i<9223372036854775807 by omega),ai];exact ih (i+1) H1 aI hd' (by omega) hA1
theorem O0 (t:Tok)(hl:t.s.length<9223372036854775807):PT 33 [t.v] (.bool (cP t)):=PT.of rfl λH nx hT=>by
 rw[q33];refine Wq.gi (.refl _ _) λhA=> ?_;have hE:decide ((⟨⟨t.s⟩⟩:ByteArray)=⟨⟨[]⟩⟩)=decide (t.s=[]):=by rw[decide_eq_decide];simp
 simp only[af,hE];unfold cP;refine Wq.ite (λh=> ?_) (λh0=> ?_)
 . rw[if_pos h];refine Wq.bK (λh=> ?_) (λh=> ?_)
   . rw[h,ai];exact Wq.ret hA
   . rw[h,aE];exact Wq.ret hA
 rw[if_neg h0];refine Wq.ite (λh=> ?_) (λh1=> ?_)
 . rw[if_pos h];refine Wq.bK (λh=> ?_) (λh=> ?_)
   . rw[h,ai];refine Wq.bK (λh=> ?_) (λh=> ?_)
     . rw[h,ai];exact Wq.ret hA
     . rw[h,aE];exact Wq.ret hA
   . rw[h,aE];exact Wq.ret hA
 rw[if_neg h1];refine Wq.ite (λh=> ?_) (λh2=> ?_)
 . rw[if_pos h];exact Wq.ret hA
 rw[if_neg h2];refine Wq.ite (λh=> ?_) (λh7=> ?_)
 . rw[if_pos h];refine Wq.bK (λh=> ?_) (λh=> ?_)
   . rw[h,ai];simp only[af,abu];refine Wq.Bu rfl (GU hT _ hA) λH2 nx2 hA2=> ?_;simp only[af];exact Wq.ret hA2
   . rw[h,aE];exact Wq.ret hA
 rw[if_neg h7];refine Wq.ite (λh=> ?_) (λh5=> ?_)
 . rw[if_pos h];have L26:∀(b:Bool) H1 aI,Ag nx H aI H1->(b=true->isVar t.s=false)->(b=false->∃c d r,t.s=c::d::r/\isVar t.s=r.all λc=> !decide (c.toNat=39)&&kB c)->Wq P pl X0 (.jump (yB (ah t.v) b H1 aI)) nx H (.bool (isVar t.s&&decide (t.n=0))):=by
    intro b H1 aI hA1 hb1 hb2;refine Wq.jmp (Yn ..) (λ_=>rfl) ?_;refine Wq.bK (λh=> ?_) (λh=> ?_)
    . rw[hb1 h];exact Wq.ret hA1
    . obtain⟨c,d,r,hs,hv⟩:=hb2 h;rw[hv];exact Tx t hl r 2 H1 aI (by rw[hs];rfl) (by rw[hs];simp) hA1
   simp only[af,aV _ bq,aT];refine Wq.ite (λhl2=>L26 _ _ _ hA (λ_=> ?_) (λq=>by cases q)) (λhl2=> ?_)
   . match hs:t.s with
     | []=>rfl
     | [a]=>rfl
     | a::b::r=>rw[hs]at hl2;simp at hl2;omega
   obtain⟨a,b,r,hs⟩:∃a b r,t.s=a::b::r:=by
    match hs:t.s with
    | []=>rw[hs]at hl2;simp at hl2
    | [a]=>rw[hs]at hl2;simp at hl2
    | a::b::r=>exact⟨a,b,r,rfl⟩
   have i0:=bF (P:=P) bq (l:=t.s) (i:=0) (c:=a) (by rw[hs];rfl) .i64;have i1:=bF (P:=P) bq (l:=t.s) (i:=1) (c:=b) (by rw[hs];rfl) .i64;rw[show((0:Nat):Int)=0 from rfl]at i0;rw[show((1:Nat):Int)=1 from rfl]at i1;have hv:isVar t.s=(decide (a.toNat=39)&&(cV b&&r.all λc=> !decide (c.toNat=39)&&kB c)):=by rw[hs];rfl
   have e39:decide ((a.toNat:Int)=39)=decide (a.toNat=39):=by rw[decide_eq_decide];omega
   simp only[af,i0,i1,e39];refine Wq.bK (λh=>L26 _ _ _ hA (λ_=> ?_) (λq=>by cases q)) (λh=> ?_)
   . rw[hv,show decide (a.toNat=39)=false from by rw[<- eY,h];rfl];rfl
   have ha:decide (a.toNat=39)=true:=by rw[<- eY,h];rfl
   refine Wq.call (E7 b) hA λH1 aI hA1=> ?_;simp only[af];refine L26 _ _ _ hA1 (λq=> ?_) (λq=>⟨a,b,r,hs,?_⟩)
   . rw[hv,show cV b=false from by rw[<- eY,q];rfl];simp
   . rw[hv,ha,show cV b=true from by rw[<- eY,q];rfl];rfl
 rw[if_neg h5];have L46:Wq P pl X0 (.jump (yC (ah t.v) true H (nx+1))) nx H (.bool (isWord t.s&&(decide (t.n=0)&&decide (iA t.s=t.k)))):=by
  refine Wq.jmp (N6 ..) (λ_=>rfl) ?_;cases hs:t.s with
  | nil=>
    have e1:decide ((⟨⟨t.s⟩⟩:ByteArray)=⟨⟨[]⟩⟩)=true:=by rw[hs];simp
    simp only[af,e1];refine Wq.jmp (N8 ..) (λ_=>rfl) ?_;exact Wq.ret hA
  | cons a r=>
    rw[<- hs];have i0:=bF (P:=P) bq (l:=a::r) (i:=0) (c:=a) rfl .i64;rw[show((0:Nat):Int)=0 from rfl]at i0;have hne:decide ((⟨⟨a::r⟩⟩:ByteArray)=⟨⟨[]⟩⟩)=false:=by simp
    have hw:isWord t.s=((cV a||cX a)&&r.all kB):=by rw[hs];rfl
    have L48:∀(b:Bool) H1 aI,Ag nx H aI H1->b= !(cV a||cX a)->Wq P pl X0 (.jump (yD (ah t.v) b H1 aI)) nx H (.bool (isWord t.s&&(decide (t.n=0)&&decide (iA t.s=t.k)))):=by
     intro b H1 aI hA1 hb;refine Wq.jmp (N8 ..) (λ_=>rfl) ?_;rw[hw];refine Wq.bK (λh=> ?_) (λh=> ?_)
     . have:(cV a||cX a)=false:=by rw[<- eY,<- hb,h];rfl
       exact Wq.ij (by rw[this];rfl) hA1
     . have h1:(cV a||cX a)=true:=by rw[<- eY,<- hb,h];rfl
       rw[h1,ai];exact Ty hT t a r hs hl r 1 H1 aI (by rw[hs];rfl) (by rw[hs];simp) hA1
    have e0:eB P 9 (some (aK t.s)) (some (.int .i64 0))=some (.int .u8 (a.toNat:Int)):=by rw[hs];exact i0
    have e1:decide ((⟨⟨t.s⟩⟩:ByteArray)=⟨⟨[]⟩⟩)=false:=by rw[hs];exact hne
    simp only[af,e0,e1];refine Wq.call (E7 a) hA λH1 aI hA1=> ?_;simp only[af];cases oJ:cV a with
    | true=>
      simp only[af];exact L48 false _ _ hA1 (by rw[oJ];rfl)
    | false=>
      simp only[af];refine Wq.call (Km a) hA1 λH2 nx2 hA2=> ?_;simp only[af];exact L48 (!cX a) _ _ hA2 (by rw[oJ];rfl)
 refine Wq.ite (λh3=> ?_) (λh3=> ?_)
 . rw[if_pos (Or.inl h3),show decide (t.k=3)=true from by simp[h3]];exact L46
 refine Wq.ite (λh4=> ?_) (λh4=> ?_)
 . rw[if_pos (Or.inr (Or.inl h4)),show decide (t.k=4)=true from by simp[h4]];exact L46
 by_cases h6:t.k=6
 . rw[if_pos (Or.inr (Or.inr h6)),show decide (t.k=6)=true from by simp[h6]];exact L46
 . rw[if_neg (by omega),show decide (t.k=6)=false from by simp[h6]];refine Wq.jmp (N6 ..) (λ_=>rfl) ?_;exact Wq.ret hA
end
inductive bk where
 | mk (k n:Int) (s:List UInt8) (l:List bk)
inductive bI where
 | mk (k:Int) (s:List UInt8) (l:List bI)
structure eO where
 s:List UInt8
 arg:List bI
structure Data where
 vars:List (List UInt8)
 s:List UInt8
 cons:List eO
mutual
inductive aO where
 | mk (k n:Int) (s:List UInt8) (l:List aO) (p:List bk) (d:List bm)
inductive bm where
 | mk (k:Int) (p:bk) (e:aO) (f:List Fn) (x:Data) (c:eO)
inductive Fn where
 | mk (s:List UInt8) (p:List bk) (b:aO)
end
def bk.k:bk->Int | .mk k _ _ _=>k
def bk.n:bk->Int | .mk _ n _ _=>n
def bk.s:bk->List UInt8 | .mk _ _ s _=>s
def bk.l:bk->List bk | .mk _ _ _ l=>l
def bI.k:bI->Int | .mk k _ _=>k
def bI.s:bI->List UInt8 | .mk _ s _=>s
def bI.l:bI->List bI | .mk _ _ l=>l
def aO.k:aO->Int | .mk k _ _ _ _ _=>k
def aO.n:aO->Int | .mk _ n _ _ _ _=>n
def aO.s:aO->List UInt8 | .mk _ _ s _ _ _=>s
def aO.l:aO->List aO | .mk _ _ _ l _ _=>l
def aO.p:aO->List bk | .mk _ _ _ _ p _=>p
def aO.d:aO->List bm | .mk _ _ _ _ _ d=>d
def bm.k:bm->Int | .mk k _ _ _ _ _=>k
def bm.p:bm->bk | .mk _ p _ _ _ _=>p
def bm.e:bm->aO | .mk _ _ e _ _ _=>e
def bm.f:bm->List Fn | .mk _ _ _ f _ _=>f
def bm.x:bm->Data | .mk _ _ _ _ x _=>x
def bm.c:bm->eO | .mk _ _ _ _ _ c=>c
def Fn.s:Fn->List UInt8 | .mk s _ _=>s
def Fn.p:Fn->List bk | .mk _ p _=>p
def Fn.b:Fn->aO | .mk _ _ b=>b
mutual
def bk.cs:bk->List Value
 | .mk k n s l=>[i64 k,i64 n,aK s,bM 4 (E8 l)]
def E8:List bk->List Value
 | []=>[]
 | p::l=> .agg ⟨p.cs⟩::E8 l
end
mutual
def bI.cs:bI->List Value
 | .mk k s l=>[i64 k,aK s,bM 3 (O1 l)]
def O1:List bI->List Value
 | []=>[]
 | p::l=> .agg ⟨p.cs⟩::O1 l
end
def bk.v (p:bk):Value:= .agg ⟨p.cs⟩
def bI.v (p:bI):Value:= .agg ⟨p.cs⟩
abbrev cL (l:List bk):Value:=bM 4 (l.map bk.v)
abbrev iB (l:List bI):Value:=bM 3 (l.map bI.v)
abbrev kl (l:List (List UInt8)):Value:=bM 1 (l.map aK)
def eO.cs (c:eO):List Value:=[aK c.s,iB c.arg]
def eO.v (c:eO):Value:= .agg ⟨c.cs⟩
abbrev mZ (l:List eO):Value:=bM 2 (l.map eO.v)
def Data.cs (x:Data):List Value:=[kl x.vars,aK x.s,mZ x.cons]
def Data.v (x:Data):Value:= .agg ⟨x.cs⟩
mutual
def aO.cs:aO->List Value
 | .mk k n s l p d=>[i64 k,i64 n,aK s,bM 6 (E9 l),cL p,bM 17 (E_ d)]
def bm.cs:bm->List Value
 | .mk k p e f x c=>i64 k::(p.cs++(e.cs++(bM 8 (O2 f)::(x.cs++c.cs))))
def Fn.cs:Fn->List Value
 | .mk s p b=>aK s::cL p::b.cs
def E9:List aO->List Value
 | []=>[]
 | p::l=> .agg ⟨p.cs⟩::E9 l
def E_:List bm->List Value
 | []=>[]
 | p::l=> .agg ⟨p.cs⟩::E_ l
def O2:List Fn->List Value
 | []=>[]
 | p::l=> .agg ⟨p.cs⟩::O2 l
end
def aO.v (p:aO):Value:= .agg ⟨p.cs⟩
def bm.v (p:bm):Value:= .agg ⟨p.cs⟩
def Fn.v (p:Fn):Value:= .agg ⟨p.cs⟩
abbrev fK (l:List aO):Value:=bM 6 (l.map aO.v)
abbrev cb (l:List bm):Value:=bM 17 (l.map bm.v)
abbrev vj (l:List Fn):Value:=bM 8 (l.map Fn.v)
theorem Fa (l:List bk):E8 l=l.map bk.v:=by
 induction l with
 | nil=>rw[E8];rfl
 | cons s l ih=>rw[E8,ih];rfl
theorem Kp (l:List bI):O1 l=l.map bI.v:=by
 induction l with
 | nil=>rw[O1];rfl
 | cons s l ih=>rw[O1,ih];rfl
theorem Fb (l:List aO):E9 l=l.map aO.v:=by
 induction l with
 | nil=>rw[E9];rfl
 | cons s l ih=>rw[E9,ih];rfl
theorem Fc (l:List bm):E_ l=l.map bm.v:=by
 induction l with
 | nil=>rw[E_];rfl
 | cons s l ih=>rw[E_,ih];rfl
theorem Kq (l:List Fn):O2 l=l.map Fn.v:=by
 induction l with
 | nil=>rw[O2];rfl
 | cons s l ih=>rw[O2,ih];rfl
theorem bk.ia (p:bk):p.cs=[i64 p.k,i64 p.n,aK p.s,cL p.l]:=by cases p;rw[bk.cs,Fa];rfl
theorem bI.ia (p:bI):p.cs=[i64 p.k,aK p.s,iB p.l]:=by cases p;rw[bI.cs,Kp];rfl
theorem aO.ia (p:aO):p.cs=[i64 p.k,i64 p.n,aK p.s,fK p.l,cL p.p,cb p.d]:=by cases p;rw[aO.cs,Fb,Fc];rfl
theorem Fn.ia (p:Fn):p.cs=[aK p.s,cL p.p,i64 p.b.k,i64 p.b.n,aK p.b.s,fK p.b.l,cL p.b.p,cb p.b.d]:=by cases p;rw[Fn.cs,aO.ia];rfl
theorem bm.ia (p:bm):p.cs=[i64 p.k,i64 p.p.k,i64 p.p.n,aK p.p.s,cL p.p.l,i64 p.e.k,i64 p.e.n,aK p.e.s,fK p.e.l,cL p.e.p,cb p.e.d,vj p.f,kl p.x.vars,aK p.x.s,mZ p.x.cons,aK p.c.s,iB p.c.arg]:=by cases p;rw[bm.cs,aO.ia,bk.ia,Kq];rfl
theorem bk.bX (p:bk):p.v= .agg ⟨[i64 p.k,i64 p.n,aK p.s,cL p.l]⟩:=by rw[bk.v,bk.ia]
theorem bI.bX (p:bI):p.v= .agg ⟨[i64 p.k,aK p.s,iB p.l]⟩:=by rw[bI.v,bI.ia]
theorem aO.bX (p:aO):p.v= .agg ⟨[i64 p.k,i64 p.n,aK p.s,fK p.l,cL p.p,cb p.d]⟩:=by rw[aO.v,aO.ia]
theorem Fn.bX (p:Fn):p.v= .agg ⟨[aK p.s,cL p.p,i64 p.b.k,i64 p.b.n,aK p.b.s,fK p.b.l,cL p.b.p,cb p.b.d]⟩:=by rw[Fn.v,Fn.ia]
theorem eO.bX (p:eO):p.v= .agg ⟨[aK p.s,iB p.arg]⟩:=rfl
theorem Data.bX (p:Data):p.v= .agg ⟨[kl p.vars,aK p.s,mZ p.cons]⟩:=rfl
theorem bm.bX (p:bm):p.v= .agg ⟨[i64 p.k,i64 p.p.k,i64 p.p.n,aK p.p.s,cL p.p.l,i64 p.e.k,i64 p.e.n,aK p.e.s,fK p.e.l,cL p.e.p,cb p.e.d,vj p.f,kl p.x.vars,aK p.x.s,mZ p.x.cons,aK p.c.s,iB p.c.arg]⟩:=by rw[bm.v,bm.ia]
theorem bk.ind {p:bk->Prop}(h:∀t:bk,(∀c,c∈t.l->p c)->p t)(t:bk):p t:=
 bk.rec (motive_1:=p) (motive_2:=λl=>∀c,c∈l->p c) (λk n s l h1=>h _ h1) (λc hc=>nomatch hc) (λa l h1 h2 c hc=>(aG.1 hc).elim (λe=>e ▸ h1) (h2 c)) t
theorem bI.ind {p:bI->Prop}(h:∀t:bI,(∀c,c∈t.l->p c)->p t)(t:bI):p t:=
 bI.rec (motive_1:=p) (motive_2:=λl=>∀c,c∈l->p c) (λk s l h1=>h _ h1) (λc hc=>nomatch hc) (λa l h1 h2 c hc=>(aG.1 hc).elim (λe=>e ▸ h1) (h2 c)) t
theorem aO.ind {p:aO->Prop}{q:bm->Prop}(h:∀t:aO,(∀c,c∈t.l->p c)->(∀c,c∈t.d->q c)->p t)(h':∀t:bm,p t.e->(∀f,f∈t.f->p f.b)->q t)(t:aO):p t:=
 aO.rec (motive_1:=p) (motive_2:=q) (motive_3:=λf=>p f.b) (motive_4:=λl=>∀c,c∈l->p c) (motive_5:=λl=>∀c,c∈l->q c) (motive_6:=λl=>∀f,f∈l->p f.b)
  (λk n s l pt d h1 h2=>h _ h1 h2) (λk pt e f x c h1 h2=>h' _ h1 h2) (λs pt b h1=>h1)
  (λc hc=>nomatch hc) (λa l h1 h2 c hc=>(aG.1 hc).elim (λe=>e ▸ h1) (h2 c))
  (λc hc=>nomatch hc) (λa l h1 h2 c hc=>(aG.1 hc).elim (λe=>e ▸ h1) (h2 c))
  (λc hc=>nomatch hc) (λa l h1 h2 c hc=>(aG.1 hc).elim (λe=>e ▸ h1) (h2 c)) t
theorem bm.ind {p:aO->Prop}{q:bm->Prop}(h:∀t:aO,(∀c,c∈t.l->p c)->(∀c,c∈t.d->q c)->p t)(h':∀t:bm,p t.e->(∀f,f∈t.f->p f.b)->q t)(t:bm):q t:=h' t (aO.ind h h' _) λf _=>aO.ind h h' _
abbrev ei:Nat:=1125899906842624
abbrev oy (s:List UInt8):Prop:=s.length<140737488355328
abbrev rg (n:Int):Prop:= -9223372036854775808<=n/\n<9223372036854775808
mutual
def bk.ok:bk->Prop
 | .mk k n s l=>rg n/\oy s/\l.length<ei/\yS l
def yS:List bk->Prop
 | []=>True
 | p::l=>p.ok/\yS l
end
mutual
def bI.ok:bI->Prop
 | .mk k s l=>oy s/\l.length<ei/\Fe l
def Fe:List bI->Prop
 | []=>True
 | p::l=>p.ok/\Fe l
end
def eO.ok (c:eO):Prop:=oy c.s/\c.arg.length<ei/\∀t,t∈c.arg->t.ok
def Data.ok (x:Data):Prop:=(x.vars.length<ei/\∀s,s∈x.vars->oy s)/\oy x.s/\x.cons.length<ei/\∀c,c∈x.cons->c.ok
mutual
def aO.ok:aO->Prop
 | .mk k n s l p d=>rg n/\oy s/\(l.length<ei/\yT l)/\(p.length<ei/\∀q,q∈p->q.ok)/\d.length<ei/\yU d
def bm.ok:bm->Prop
 | .mk k p e f x c=>p.ok/\e.ok/\(f.length<ei/\Ff f)/\x.ok/\c.ok
def Fn.ok:Fn->Prop
 | .mk s p b=>oy s/\(p.length<ei/\∀q,q∈p->q.ok)/\b.ok
def yT:List aO->Prop
 | []=>True
 | p::l=>p.ok/\yT l
def yU:List bm->Prop
 | []=>True
 | p::l=>p.ok/\yU l
def Ff:List Fn->Prop
 | []=>True
 | p::l=>p.ok/\Ff l
end
theorem GV (l:List bk):yS l↔∀c,c∈l->c.ok:=by
 induction l with
 | nil=>simp[yS]
 | cons s l ih=>simp[yS,ih]
theorem LX (l:List bI):Fe l↔∀c,c∈l->c.ok:=by
 induction l with
 | nil=>simp[Fe]
 | cons s l ih=>simp[Fe,ih]
theorem GW (l:List aO):yT l↔∀c,c∈l->c.ok:=by
 induction l with
 | nil=>simp[yT]
 | cons s l ih=>simp[yT,ih]
theorem GX (l:List bm):yU l↔∀c,c∈l->c.ok:=by
 induction l with
 | nil=>simp[yU]
 | cons s l ih=>simp[yU,ih]
theorem LY (l:List Fn):Ff l↔∀c,c∈l->c.ok:=by
 induction l with
 | nil=>simp[Ff]
 | cons s l ih=>simp[Ff,ih]
theorem bk.br (p:bk):p.ok↔rg p.n/\oy p.s/\p.l.length<ei/\∀c,c∈p.l->c.ok:=by cases p;rw[bk.ok,GV];rfl
theorem bI.br (p:bI):p.ok↔oy p.s/\p.l.length<ei/\∀c,c∈p.l->c.ok:=by cases p;rw[bI.ok,LX];rfl
theorem aO.br (p:aO):p.ok↔rg p.n/\oy p.s/\(p.l.length<ei/\∀c,c∈p.l->c.ok)/\(p.p.length<ei/\∀c,c∈p.p->c.ok)/\p.d.length<ei/\∀c,c∈p.d->c.ok:=by cases p;rw[aO.ok,GW,GX];rfl
theorem bm.br (p:bm):p.ok↔p.p.ok/\p.e.ok/\(p.f.length<ei/\∀c,c∈p.f->c.ok)/\p.x.ok/\p.c.ok:=by cases p;rw[bm.ok,LY];rfl
theorem Fn.br (p:Fn):p.ok↔oy p.s/\(p.p.length<ei/\∀c,c∈p.p->c.ok)/\p.b.ok:=by cases p;rw[Fn.ok];rfl
theorem O3 (e:aO):aq P 44 (some (ah e.v)) 0=some (ah (i64 e.k)):=by rw[aO.bX];kernel_rfl
theorem O4 (e:aO):aq P 44 (some (ah e.v)) 1=some (ah (i64 e.n)):=by rw[aO.bX];kernel_rfl
theorem O5 (e:aO):aq P 44 (some (ah e.v)) 2=some (ah (aK e.s)):=by rw[aO.bX];kernel_rfl
theorem O6 (e:aO):aq P 44 (some (ah e.v)) 3=some (ah (fK e.l)):=by rw[aO.bX];kernel_rfl
theorem O7 (e:aO):aq P 44 (some (ah e.v)) 4=some (ah (cL e.p)):=by rw[aO.bX];kernel_rfl
theorem O8 (e:aO):aq P 44 (some (ah e.v)) 5=some (ah (cb e.d)):=by rw[aO.bX];kernel_rfl
theorem abv (H:T OB)(e:aO):aA P H 44 (some (ah e.v))=some e.v:=by rw[aO.bX];kernel_rfl
theorem LZ (e:aO):e.v.cells.toList.length=6:=by rw[aO.bX];rfl
theorem L0 (e:aO):e.v.cells.toList.all aC=true:=by rw[aO.bX];rfl
theorem O9 (e:bm):aq P 57 (some (ah e.v)) 0=some (ah (i64 e.k)):=by rw[bm.bX];kernel_rfl
theorem O_ (e:bm):aq P 57 (some (ah e.v)) 1=some (ah (e.p.v)):=by rw[bm.bX];rw[bk.bX];kernel_rfl
theorem Pa (e:bm):aq P 57 (some (ah e.v)) 2=some (ah (e.e.v)):=by rw[bm.bX];rw[aO.bX];kernel_rfl
theorem Pb (e:bm):aq P 57 (some (ah e.v)) 3=some (ah (vj e.f)):=by rw[bm.bX];kernel_rfl
theorem Pc (e:bm):aq P 57 (some (ah e.v)) 4=some (ah (e.x.v)):=by rw[bm.bX];rw[Data.bX];kernel_rfl
theorem Pd (e:bm):aq P 57 (some (ah e.v)) 5=some (ah (e.c.v)):=by rw[bm.bX];rw[eO.bX];kernel_rfl
theorem Y5 (H:T OB)(e:bm):aA P H 57 (some (ah e.v))=some e.v:=by rw[bm.bX];kernel_rfl
theorem Pe (e:bm):e.v.cells.toList.length=17:=by rw[bm.bX];rfl
theorem Pf (e:bm):e.v.cells.toList.all aC=true:=by rw[bm.bX];rfl
theorem WJ (e:Fn):aq P 65 (some (ah e.v)) 0=some (ah (aK e.s)):=by rw[Fn.bX];kernel_rfl
theorem WK (e:Fn):aq P 65 (some (ah e.v)) 1=some (ah (cL e.p)):=by rw[Fn.bX];kernel_rfl
theorem WL (e:Fn):aq P 65 (some (ah e.v)) 2=some (ah (e.b.v)):=by rw[Fn.bX];rw[aO.bX];kernel_rfl
theorem lFn (H:T OB)(e:Fn):aA P H 65 (some (ah e.v))=some e.v:=by rw[Fn.bX];kernel_rfl
theorem nFn (e:Fn):e.v.cells.toList.length=8:=by rw[Fn.bX];rfl
theorem oFn (e:Fn):e.v.cells.toList.all aC=true:=by rw[Fn.bX];rfl
theorem Kr (e:Data):aq P 52 (some (ah e.v)) 0=some (ah (kl e.vars)):=by rw[Data.bX];kernel_rfl
theorem Ks (e:Data):aq P 52 (some (ah e.v)) 1=some (ah (aK e.s)):=by rw[Data.bX];kernel_rfl
theorem Ku (e:Data):aq P 52 (some (ah e.v)) 2=some (ah (mZ e.cons)):=by rw[Data.bX];kernel_rfl
theorem WM (H:T OB)(e:Data):aA P H 52 (some (ah e.v))=some e.v:=by rw[Data.bX];kernel_rfl
theorem abw (e:Data):e.v.cells.toList.length=3:=by rw[Data.bX];rfl
theorem abx (e:Data):e.v.cells.toList.all aC=true:=by rw[Data.bX];rfl
theorem Pg (e:eO):aq P 55 (some (ah e.v)) 0=some (ah (aK e.s)):=by rw[eO.bX];kernel_rfl
theorem GY (e:eO):aq P 55 (some (ah e.v)) 1=some (ah (iB e.arg)):=by rw[eO.bX];kernel_rfl
theorem aby (H:T OB)(e:eO):aA P H 55 (some (ah e.v))=some e.v:=by rw[eO.bX];kernel_rfl
theorem Y6 (e:eO):e.v.cells.toList.length=2:=by rw[eO.bX];rfl
theorem Y7 (e:eO):e.v.cells.toList.all aC=true:=by rw[eO.bX];rfl
theorem Ph (e:bk):aq P 47 (some (ah e.v)) 0=some (ah (i64 e.k)):=by rw[bk.bX];kernel_rfl
theorem Pj (e:bk):aq P 47 (some (ah e.v)) 1=some (ah (i64 e.n)):=by rw[bk.bX];kernel_rfl
theorem Pm (e:bk):aq P 47 (some (ah e.v)) 2=some (ah (aK e.s)):=by rw[bk.bX];kernel_rfl
theorem Pn (e:bk):aq P 47 (some (ah e.v)) 3=some (ah (cL e.l)):=by rw[bk.bX];kernel_rfl
theorem abz (H:T OB)(e:bk):aA P H 47 (some (ah e.v))=some e.v:=by rw[bk.bX];kernel_rfl
theorem GZ (e:bk):e.v.cells.toList.length=4:=by rw[bk.bX];rfl
theorem G0 (e:bk):e.v.cells.toList.all aC=true:=by rw[bk.bX];rfl
theorem Po (e:bI):aq P 138 (some (ah e.v)) 0=some (ah (i64 e.k)):=by rw[bI.bX];kernel_rfl
theorem Pp (e:bI):aq P 138 (some (ah e.v)) 1=some (ah (aK e.s)):=by rw[bI.bX];kernel_rfl
theorem Pq (e:bI):aq P 138 (some (ah e.v)) 2=some (ah (iB e.l)):=by rw[bI.bX];kernel_rfl
theorem abA (H:T OB)(e:bI):aA P H 138 (some (ah e.v))=some e.v:=by rw[bI.bX];kernel_rfl
theorem L1 (e:bI):e.v.cells.toList.length=3:=by rw[bI.bX];rfl
theorem L2 (e:bI):e.v.cells.toList.all aC=true:=by rw[bI.bX];rfl
theorem aL:type_of% (ab @O3 (ab @O4 (ab @O5 (ab @O6 (ab @O7 (ab @O8 (ab @abv (ab @O9 (ab @O_ (ab @Pa (ab @Pb (ab @Pc (ab @Pd (ab @Y5 (ab @WJ (ab @WK (ab @WL (ab @lFn (ab @Kr (ab @Ks (ab @Ku (ab @WM (ab @Pg (ab @GY (ab @aby (ab @Ph (ab @Pj (ab @Pm (ab @Pn (ab @abz (ab @Po (ab @Pp (ab @Pq @abA))))))))))))))))))))))))))))))))):=ab @O3 (ab @O4 (ab @O5 (ab @O6 (ab @O7 (ab @O8 (ab @abv (ab @O9 (ab @O_ (ab @Pa (ab @Pb (ab @Pc (ab @Pd (ab @Y5 (ab @WJ (ab @WK (ab @WL (ab @lFn (ab @Kr (ab @Ks (ab @Ku (ab @WM (ab @Pg (ab @GY (ab @aby (ab @Ph (ab @Pj (ab @Pm (ab @Pn (ab @abz (ab @Po (ab @Pp (ab @Pq @abA))))))))))))))))))))))))))))))))
section
variable {nx0:Nat}{H0:T OB}
def mx (a b:Int):Int:=if b>a then b else a
theorem mK (ts:Array TypeId)(t:TypeId)(a b:Int):nk P .max ts t (some [.int .i64 a,.int .i64 b])=some (i64 (mx a b)):=Sp ts t a b
mutual
def yV:bk->Int
 | .mk _ _ _ l=>w (kF l 0+1)
def kF:List bk->Int->Int
 | [],n=>n
 | p::l,n=>kF l (mx n (yV p))
end
mutual
def Tz:bI->Int
 | .mk _ _ l=>w (rG l 0+1)
def rG:List bI->Int->Int
 | [],n=>n
 | p::l,n=>rG l (mx n (Tz p))
end
def sQ:List eO->Int->Int
 | [],n=>n
 | c::l,n=>sQ l (rG c.arg n)
mutual
def km:aO->Int
 | .mk _ _ _ l p d=>w (kF p (yW l (lW d 0))+1)
def FY:bm->Int
 | .mk k p e f x c=>if k=1 then mx (yV p) (km e)else if k=5 then km e else if k=2 then C5 f 0 else if k=3 then sQ x.cons 0 else if k=4 then rG c.arg 0 else 0
def fnD:Fn->Int->Int
 | .mk _ p b,n=>kF p (mx n (km b))
def yW:List aO->Int->Int
 | [],n=>n
 | e::l,n=>yW l (mx n (km e))
def lW:List bm->Int->Int
 | [],n=>n
 | d::l,n=>lW l (mx n (w (FY d+1)))
def C5:List Fn->Int->Int
 | [],n=>n
 | f::l,n=>C5 l (fnD f n)
end
theorem Kv (p:bk):yV p=w (kF p.l 0+1):=by cases p;rw[yV];rfl
theorem Pr (p:bI):Tz p=w (rG p.l 0+1):=by cases p;rw[Tz];rfl
theorem Kw (p:aO):km p=w (kF p.p (yW p.l (lW p.d 0))+1):=by cases p;rw[km];rfl
theorem G5 (d:bm):FY d=if d.k=1 then mx (yV d.p) (km d.e)else if d.k=5 then km d.e else if d.k=2 then C5 d.f 0 else if d.k=3 then sQ d.x.cons 0 else if d.k=4 then rG d.c.arg 0 else 0:=by cases d;rw[FY];rfl
theorem Pt (f:Fn)(n:Int):fnD f n=kF f.p (mx n (km f.b)):=by cases f;rw[fnD];rfl
theorem cv {n:Nat}(h:n<ei):n<9223372036854775807:=Nat.lt_trans h (by decide)
theorem sR (a b:Int):P0 48 [i64 a,i64 b] (i64 (mx a b)):=Pure.of rfl λH nx=>by
 rw[q48];simp only[af];unfold mx;refine Wq.ite (λh=> ?_) (λh=> ?_)
 . rw[if_neg (by omega)];exact Wq.ret (.refl _ _)
 . by_cases h2:b>a
   . rw[if_pos h2];exact Wq.ret (.refl _ _)
   . rw[if_neg h2];exact Wq.ij (by rw[show b=a by omega]) (.refl _ _)
theorem Y8 (e:bk)(hl:e.l.length<ei)(ih:∀c,c∈e.l->P0 93 [c.v] (i64 (yV c)))(s:Int)(H:T OB)(nx:Nat)(hA:Ag nx0 H0 nx H):Wq P pl X0 (.jump (E0 (ah e.v) (i64 s) (i64 ((0:Nat):Int)) H nx)) nx0 H0 (i64 (w (kF (e.l) s+1))):=
 Wq.each (e.l) (λi s H nx=> .jump (E0 (ah e.v) (i64 s) (i64 (i:Int)) H nx)) (λt s=>i64 (w (kF t s+1))) (λs H1 aI hA1=>by
  refine Wq.jmp (WA ..) (λ_=>rfl) ?_;simp only[af,aL,aa,aF];exact Wq.ij (by rw[Int.add_comm,kF]) hA1) (λi a t s H1 aI hg hlt hd hA1 ih'=>by
  have hg':((e.l).map bk.v)[i]? = some (bk.v a):=by simp[hg]
  have hm:=ak hg;refine Wq.jmp (WA ..) (λ_=>rfl) ?_;simp only[af,aL,aa,aJ hlt,jI hg'];refine Wq.call (ih a hm) hA1 λH2 nx2 hA2=> ?_;refine Wq.call (sR _ _) hA2 λH3 nx3 hA3=> ?_;simp only[af,az (show i<9223372036854775807 by have:=cv hl;omega)];exact ih' _ _ _ hA3) s H nx hA
theorem Pu (e:bk)(h:e.ok):P0 93 [e.v] (i64 (yV e)):=by
 refine bk.ind (p:=λe=>e.ok->P0 93 [e.v] (i64 (yV e))) (λe ih h=> ?_) e h;rw[bk.br]at h;refine Pure.of rfl λH nx=> ?_;rw[q93];refine Wq.gi (.refl _ _) λhA=> ?_;rw[Kv];exact Y8 e h.2.2.1 (λc hc=>ih c hc (h.2.2.2 c hc)) 0 H _ hA
theorem Y9 (l:List bk)(hl:l.length<ei)(ih:∀c,c∈l->P0 96 [c.v] (i64 (yV c)))(s:Int)(H:T OB)(nx:Nat)(hA:Ag nx0 H0 nx H):Wq P pl X0 (.jump (E2 (i64 s) (cL l) (i64 (l.length:Int)) (i64 ((0:Nat):Int)) H nx)) nx0 H0 (i64 (w (kF (l) s+1))):=
 Wq.each (l) (λi s H nx=> .jump (E2 (i64 s) (cL l) (i64 (l.length:Int)) (i64 (i:Int)) H nx)) (λt s=>i64 (w (kF t s+1))) (λs H1 aI hA1=>by
  refine Wq.jmp (WD ..) (λ_=>rfl) ?_;simp only[af,aL,aa,aF];exact Wq.ret hA1) (λi a t s H1 aI hg hlt hd hA1 ih'=>by
  have hg':((l).map bk.v)[i]? = some (bk.v a):=by simp[hg]
  have hm:=ak hg;refine Wq.jmp (WD ..) (λ_=>rfl) ?_;simp only[af,aL,aa,aJ hlt,jI hg'];refine Wq.var fx fJ rfl (GZ _) (G0 _) hA1 λH2 nx2 hA2=> ?_;refine Wq.call (ih a hm) hA2 λH3 nx3 hA3=> ?_;simp only[af,mK];simp only[af,az (show i<9223372036854775807 by have:=cv hl;omega)];exact ih' _ _ _ hA3) s H nx hA
theorem Pv (e:bk)(h:e.ok):P0 96 [e.v] (i64 (yV e)):=by
 refine bk.ind (p:=λe=>e.ok->P0 96 [e.v] (i64 (yV e))) (λe ih h=> ?_) e h;rw[bk.br]at h;refine Pure.of rfl λH nx=> ?_;rw[q96];refine Wq.gi (.refl _ _) λhA=> ?_;simp only[af,aL,aa];rw[Kv];exact Y9 e.l h.2.2.1 (λc hc=>ih c hc (h.2.2.2 c hc)) 0 H _ hA
theorem Y_ (e:bI)(hl:e.l.length<ei)(ih:∀c,c∈e.l->P0 95 [c.v] (i64 (Tz c)))(s:Int)(H:T OB)(nx:Nat)(hA:Ag nx0 H0 nx H):Wq P pl X0 (.jump (E1 (ah e.v) (i64 s) (i64 ((0:Nat):Int)) H nx)) nx0 H0 (i64 (w (rG (e.l) s+1))):=
 Wq.each (e.l) (λi s H nx=> .jump (E1 (ah e.v) (i64 s) (i64 (i:Int)) H nx)) (λt s=>i64 (w (rG t s+1))) (λs H1 aI hA1=>by
  refine Wq.jmp (WC ..) (λ_=>rfl) ?_;simp only[af,aL,aa,aF];exact Wq.ij (by rw[Int.add_comm,rG]) hA1) (λi a t s H1 aI hg hlt hd hA1 ih'=>by
  have hg':((e.l).map bI.v)[i]? = some (bI.v a):=by simp[hg]
  have hm:=ak hg;refine Wq.jmp (WC ..) (λ_=>rfl) ?_;simp only[af,aL,aa,aJ hlt,mr hg'];refine Wq.call (ih a hm) hA1 λH2 nx2 hA2=> ?_;refine Wq.call (sR _ _) hA2 λH3 nx3 hA3=> ?_;simp only[af,az (show i<9223372036854775807 by have:=cv hl;omega)];exact ih' _ _ _ hA3) s H nx hA
theorem abB (e:bI)(h:e.ok):P0 95 [e.v] (i64 (Tz e)):=by
 refine bI.ind (p:=λe=>e.ok->P0 95 [e.v] (i64 (Tz e))) (λe ih h=> ?_) e h;rw[bI.br]at h;refine Pure.of rfl λH nx=> ?_;rw[q95];refine Wq.gi (.refl _ _) λhA=> ?_;rw[Pr];exact Y_ e h.2.1 (λc hc=>ih c hc (h.2.2 c hc)) 0 H _ hA
theorem Za (l:List bI)(hl:l.length<ei)(ih:∀c,c∈l->P0 98 [c.v] (i64 (Tz c)))(s:Int)(H:T OB)(nx:Nat)(hA:Ag nx0 H0 nx H):Wq P pl X0 (.jump (E3 (i64 s) (iB l) (i64 (l.length:Int)) (i64 ((0:Nat):Int)) H nx)) nx0 H0 (i64 (w (rG (l) s+1))):=
 Wq.each (l) (λi s H nx=> .jump (E3 (i64 s) (iB l) (i64 (l.length:Int)) (i64 (i:Int)) H nx)) (λt s=>i64 (w (rG t s+1))) (λs H1 aI hA1=>by
  refine Wq.jmp (WG ..) (λ_=>rfl) ?_;simp only[af,aL,aa,aF];exact Wq.ret hA1) (λi a t s H1 aI hg hlt hd hA1 ih'=>by
  have hg':((l).map bI.v)[i]? = some (bI.v a):=by simp[hg]
  have hm:=ak hg;refine Wq.jmp (WG ..) (λ_=>rfl) ?_;simp only[af,aL,aa,aJ hlt,mr hg'];refine Wq.var ff fA rfl (L1 _) (L2 _) hA1 λH2 nx2 hA2=> ?_;refine Wq.call (ih a hm) hA2 λH3 nx3 hA3=> ?_;simp only[af,mK];simp only[af,az (show i<9223372036854775807 by have:=cv hl;omega)];exact ih' _ _ _ hA3) s H nx hA
theorem WN (e:bI)(h:e.ok):P0 98 [e.v] (i64 (Tz e)):=by
 refine bI.ind (p:=λe=>e.ok->P0 98 [e.v] (i64 (Tz e))) (λe ih h=> ?_) e h;rw[bI.br]at h;refine Pure.of rfl λH nx=> ?_;rw[q98];refine Wq.gi (.refl _ _) λhA=> ?_;simp only[af,aL,aa];rw[Pr];exact Za e.l h.2.1 (λc hc=>ih c hc (h.2.2 c hc)) 0 H _ hA
theorem Wq.base {aI:Nat}{H1:T OB}{q:Q}{v:Value}(hA:Ag nx0 H0 aI H1)(h:Wq P pl X0 q aI H1 v):Wq P pl X0 q nx0 H0 v:=by
 obtain⟨u,H',nx',h1,h2,h3⟩:=h;exact⟨u,H',nx',hA.trans h1,h2,h3⟩
theorem Kx (v:Value)(k:Nat)(hk:k<ei)(l:List bI)(hl:l.length<ei)(hok:∀c,c∈l->c.ok)(hv:∀nx2 H2,Ag nx0 H0 nx2 H2->∃p x,cq P 50 (some v) (some (i64 (k:Int)))=some p/\aq P 55 (some p) 1=some x/\aA P H2 53 (some x)=some (iB l))(R:Int->Value)
 (hc:∀s H nx,Ag nx0 H0 nx H->Wq P pl X0 (.jump (yG (i64 s) v (i64 ((k+1:Nat):Int)) H nx)) nx0 H0 (R s)) (s:Int) (H:T OB) (nx:Nat) (hA:Ag nx0 H0 nx H):Wq P pl X0 (.jump (yH (i64 s) v (i64 (k:Int)) (i64 ((0:Nat):Int)) H nx)) nx0 H0 (R (rG l s)):=
 Wq.each l (λi s H nx=> .jump (yH (i64 s) v (i64 (k:Int)) (i64 (i:Int)) H nx)) (λt s=>R (rG t s)) (λs H1 aI hA1=>by
  obtain⟨p,x,h1,h2,h3⟩:=hv aI H1 hA1;refine Wq.jmp (Om ..) (λ_=>rfl) ?_;simp only[af,aL,aa,h1,h2,h3,aF,az (show k<9223372036854775807 by have:=cv hk;omega)];exact hc s H1 aI hA1) (λi a t s H1 aI hg hlt hd hA1 ih'=>by
  have hg':(l.map bI.v)[i]? = some a.v:=by simp[hg]
  have hm:=ak hg;obtain⟨p,x,h1,h2,h3⟩:=hv aI H1 hA1;refine Wq.jmp (Om ..) (λ_=>rfl) ?_;simp only[af,aL,aa,h1,h2,h3,aJ hlt,mr hg'];refine Wq.call (abB a (hok a hm)) hA1 λH2 nx2 hA2=> ?_;refine Wq.call (sR _ _) hA2 λH3 nx3 hA3=> ?_;simp only[af,az (show i<9223372036854775807 by have:=cv hl;omega)];exact ih' _ _ _ hA3) s H nx hA
theorem abC (a b:Value):Instr.fill (λi=>some (i*2,2)) (cI [Value.string ⟨⟨[]⟩⟩,Value.slice none 0 0] (1*2)) [(0,.agg ⟨[a,b]⟩)]=some ⟨[a,b]⟩:=by kernel_rfl
theorem TA (b:Nat):cq P 50 (some (.slice (some ⟨b,0,none⟩) 1 1)) (some (i64 ((0:Nat):Int)))=some (.pointer (some ⟨b,0+0*2,none⟩)):=yp (by kernel_rfl) (by omega) .i64
theorem abD (d:bm)(h:d.ok)(hE:P0 94 [d.e.v] (i64 (km d.e)))(hF:∀f,f∈d.f->P0 94 [f.b.v] (i64 (km f.b))):P0 49 [d.v] (i64 (FY d)):=Pure.of rfl λH nx=>by
 rw[bm.br]at h;obtain⟨hp,he,⟨hfl,hf⟩,hx,hc⟩:=h;rw[q49];refine Wq.gi (.refl _ _) λhA=> ?_;have L58:∀(n:Int) H1 aI,Ag nx H aI H1->Wq P pl X0 (.jump (B4 (i64 n) H1 aI)) nx H (i64 n):=λn H1 aI hA1=>by
  refine Wq.jmp (Yw ..) (λ_=>rfl) ?_;exact Wq.ret hA1
 have L12:∀(v:Value) (H1:T OB) (aI:Nat),d.k≠4->v=mZ d.x.cons->Ag nx H aI H1->Wq P pl X0 (.jump (B3 (ah d.v) (i64 0) v H1 aI)) nx H (i64 (FY d)):=by
  intro v H1 aI h4 hv hA1;subst hv;rw[G5];refine Wq.jmp (Oj ..) (λ_=>rfl) ?_;simp only[af,aL,aa];refine Wq.ite (λh1=> ?_) (λh1=> ?_)
  . rw[if_pos h1];refine Wq.call (Pu _ hp) hA1 λH2 nx2 hA2=> ?_;refine Wq.call hE hA2 λH3 nx3 hA3=> ?_;refine Wq.call (sR _ _) hA3 λH4 nx4 hA4=> ?_;exact L58 _ _ _ hA4
  rw[if_neg h1];refine Wq.ite (λh5=> ?_) (λh5=> ?_)
  . rw[if_pos h5];refine Wq.call hE hA1 λH3 nx3 hA3=> ?_;exact L58 _ _ _ hA3
  rw[if_neg h5];refine Wq.ite (λh2=> ?_) (λh2=> ?_)
  . rw[if_pos h2];refine Wq.each (d.f) (λi s H nx=> .jump (B5 (ah d.v) (i64 s) (i64 (i:Int)) H nx)) (λt s=>i64 (C5 t s)) (λs0 H0 nx0 hA0=> ?_) (λi0 a0 t0 s0 H0 nx0 hg0 hlt0 hd0 hA0 ih0=> ?_) (0) _ _ hA1
    . refine Wq.jmp (Ok ..) (λ_=>rfl) ?_;simp only[af,aL,aa,aF];exact Wq.ret hA0
    . have hx0:((d.f).map Fn.v)[i0]? = some (Fn.v a0):=by simp[hg0]
      have hm0:=ak hg0;refine Wq.jmp (Ok ..) (λ_=>rfl) ?_;simp only[af,aL,aa,aJ hlt0,oS hx0];refine Wq.call (hF a0 hm0) hA0 λH2 nx2 hA2=> ?_;refine Wq.call (sR _ _) hA2 λH3 nx3 hA3=> ?_;have hpl:=((Fn.br a0).1 (hf a0 hm0)).2.1;rw[C5,Pt];refine Wq.each (a0.p) (λi s H nx=> .jump (B6 (ah d.v) (i64 s) (i64 (i0:Int)) (i64 (i:Int)) H nx)) (λt s=>i64 (C5 t0 (kF t s))) (λs8 H8 nx8 hA8=> ?_) (λi8 a8 t8 s8 H8 nx8 hg8 hlt8 hd8 hA8 ih8=> ?_) (mx s0 (km a0.b)) _ _ hA3
      . refine Wq.jmp (Ol ..) (λ_=>rfl) ?_;simp only[af,aL,aa,aF,oS hx0];simp only[af,az (show i0<9223372036854775807 by have:=cv hfl;omega)];exact ih0 _ _ _ hA8
      . have hx8:((a0.p).map bk.v)[i8]? = some (bk.v a8):=by simp[hg8]
        have hm8:=ak hg8;refine Wq.jmp (Ol ..) (λ_=>rfl) ?_;simp only[af,aL,aa,aJ hlt8,jI hx8,oS hx0];refine Wq.call (Pu a8 (hpl.2 a8 hm8)) hA8 λH2 nx2 hA2=> ?_;refine Wq.call (sR _ _) hA2 λH3 nx3 hA3=> ?_;simp only[af,az (show i8<9223372036854775807 by have:=cv hpl.1;omega)];exact ih8 _ _ _ hA3
  rw[if_neg h2];have h4':decide (d.k=4)=false:=by simp[h4]
  rw[h4'];refine Wq.ite (λh3=> ?_) (λh3=> ?_)
  . rw[if_pos h3,show decide (d.k=3)=true by simp[h3]];refine Wq.jmp (GM ..) (λ_=>rfl) ?_;simp only[af];refine Wq.each (d.x.cons) (λi s H nx=> .jump (yG (i64 s) (mZ d.x.cons) (i64 (i:Int)) H nx)) (λt s=>i64 (sQ t s)) (λs0 H0 nx0 hA0=> ?_) (λi0 a0 t0 s0 H0 nx0 hg0 hlt0 hd0 hA0 ih0=> ?_) (0) _ _ hA1
    . refine Wq.jmp (B7 ..) (λ_=>rfl) ?_;simp only[af,aL,aa,aF];exact Wq.ret hA0
    . have hx0:((d.x.cons).map eO.v)[i0]? = some (eO.v a0):=by simp[hg0]
      have hm0:=ak hg0;refine Wq.jmp (B7 ..) (λ_=>rfl) ?_;simp only[af,aL,aa,aJ hlt0,uT hx0];have hc0:=hx.2.2.2 a0 hm0;rw[sQ];refine Kx _ _ (by have:=hx.2.2.1;omega) a0.arg hc0.2.1 hc0.2.2 (λnx2 H2 _=>⟨_,_,uT hx0 .i64,GY a0,?_⟩) (λs=>i64 (sQ t0 s)) ih0 _ _ _ hA0;simp only[af]
  . rw[if_neg h3,if_neg h4];refine Wq.jmp (GM ..) (λ_=>rfl) ?_;exact Wq.ret hA1
 simp only[af,aL,aa];refine Wq.ite (λh4=> ?_) (λh4=> ?_)
 . rw[G5,if_neg (by omega),if_neg (by omega),if_neg (by omega),if_neg (by omega),if_pos h4];rw[eO.bX];refine Wq.row tT mX lB rfl (abC _ _) hA λH2 hb2 _ hA2=> ?_;refine Wq.jmp (Oj ..) (λ_=>rfl) ?_;simp only[af,aL,aa,h4];refine Wq.jmp (GM ..) (λ_=>rfl) ?_;simp only[af];refine Wq.jmp (B7 ..) (λ_=>rfl) ?_;simp only[af];refine Wq.base hA2 ?_;refine Kx _ 0 (by decide) d.c.arg hc.2.1 hc.2.2 (λnx3 H3 hA3=>⟨_,_,TA _,ND _ _,aB (hb2.ag hA3 (by omega)) BJ rfl⟩) i64 (λs H nx hA=> ?_) 0 _ _ (.refl _ _);refine Wq.jmp (B7 ..) (λ_=>rfl) ?_;simp only[af];exact Wq.ret hA
 . exact L12 _ _ _ h4 rfl hA
theorem WO (l:List bm)(hl:l.length<ei)(ih:∀d,d∈l->P0 49 [d.v] (i64 (FY d))):P0 23 [cb l] (i64 (lW l 0)):=Pure.of rfl λH nx=>by
 rw[q23];refine Wq.each (l) (λi s H nx=> .jump (JI (cb l) (i64 s) (i64 (i:Int)) H nx)) (λt s=>i64 (lW t s)) (λs0 H0 nx0 hA0=> ?_) (λi0 a0 t0 s0 H0 nx0 hg0 hlt0 hd0 hA0 ih0=> ?_) (0) _ _ (.refl _ _)
 . refine Wq.jmp (Wh ..) (λ_=>rfl) ?_;simp only[af,aL,aa,aF];exact Wq.ret hA0
 . have hx0:((l).map bm.v)[i0]? = some (bm.v a0):=by simp[hg0]
   have hm0:=ak hg0;refine Wq.jmp (Wh ..) (λ_=>rfl) ?_;simp only[af,aL,aa,aJ hlt0,sG hx0];refine Wq.call (ih a0 hm0) hA0 λH2 nx2 hA2=> ?_;simp only[af,Int.add_comm 1];refine Wq.call (sR _ _) hA2 λH3 nx3 hA3=> ?_;rw[lW];simp only[af,az (show i0<9223372036854775807 by have:=cv hl;omega)];exact ih0 _ _ _ hA3
theorem Zb (e:aO)(h:e.ok)(h1:∀c,c∈e.l->P0 94 [c.v] (i64 (km c)))(h2:∀d,d∈e.d->P0 49 [d.v] (i64 (FY d))):P0 94 [e.v] (i64 (km e)):=Pure.of rfl λH nx=>by
 rw[aO.br]at h;obtain⟨hr,hs,⟨hl,hl'⟩,⟨hp,hp'⟩,hd,hd'⟩:=h;rw[q94];refine Wq.gi (.refl _ _) λhA=> ?_;simp only[af,aL,aa];refine Wq.call (WO _ hd h2) hA λH1 aI hA1=> ?_;rw[Kw];refine Wq.each (e.l) (λi s H nx=> .jump (JU (ah e.v) (i64 s) (i64 (i:Int)) H nx)) (λt s=>i64 (w (kF e.p (yW t s)+1))) (λs0 H0 nx0 hA0=> ?_) (λi0 a0 t0 s0 H0 nx0 hg0 hlt0 hd0 hA0 ih0=> ?_) (lW e.d 0) _ _ hA1
 . refine Wq.jmp (WB ..) (λ_=>rfl) ?_;simp only[af,aL,aa,aF];refine Wq.each (e.p) (λi s H nx=> .jump (Cx (ah e.v) (i64 s) (i64 (i:Int)) H nx)) (λt s=>i64 (w (kF t s+1))) (λs8 H8 nx8 hA8=> ?_) (λi8 a8 t8 s8 H8 nx8 hg8 hlt8 hd8 hA8 ih8=> ?_) (s0) _ _ hA0
   . refine Wq.jmp (OH ..) (λ_=>rfl) ?_;simp only[af,aL,aa,aF];exact Wq.ij (by rw[Int.add_comm];rfl) hA8
   . have hx8:((e.p).map bk.v)[i8]? = some (bk.v a8):=by simp[hg8]
     have hm8:=ak hg8;refine Wq.jmp (OH ..) (λ_=>rfl) ?_;simp only[af,aL,aa,aJ hlt8,jI hx8];refine Wq.call (Pu _ (hp' _ hm8)) hA8 λH2 nx2 hA2=> ?_;refine Wq.call (sR _ _) hA2 λH3 nx3 hA3=> ?_;simp only[af,az (show i8<9223372036854775807 by have:=cv hp;omega)];exact ih8 _ _ _ hA3
 . have hx0:((e.l).map aO.v)[i0]? = some (aO.v a0):=by simp[hg0]
   have hm0:=ak hg0;refine Wq.jmp (WB ..) (λ_=>rfl) ?_;simp only[af,aL,aa,aJ hlt0,kE hx0];refine Wq.call (h1 _ hm0) hA0 λH2 nx2 hA2=> ?_;refine Wq.call (sR _ _) hA2 λH3 nx3 hA3=> ?_;rw[yW];simp only[af,az (show i0<9223372036854775807 by have:=cv hl;omega)];exact ih0 _ _ _ hA3
theorem TB:(∀e:aO,e.ok->P0 94 [e.v] (i64 (km e)))/\∀d:bm,d.ok->P0 49 [d.v] (i64 (FY d)):=by
 have A:∀e:aO,(∀c,c∈e.l->c.ok->P0 94 [c.v] (i64 (km c)))->(∀c,c∈e.d->c.ok->P0 49 [c.v] (i64 (FY c)))->e.ok->P0 94 [e.v] (i64 (km e)):=λe h1 h2 h=>by
  have h':=(aO.br e).1 h;exact Zb e h (λc hc=>h1 c hc (h'.2.2.1.2 c hc)) λd hd=>h2 d hd (h'.2.2.2.2.2 d hd)
 have B:∀d:bm,(d.e.ok->P0 94 [d.e.v] (i64 (km d.e)))->(∀f,f∈d.f->f.b.ok->P0 94 [f.b.v] (i64 (km f.b)))->d.ok->P0 49 [d.v] (i64 (FY d)):=λd h1 h2 h=>by
  have h':=(bm.br d).1 h;exact abD d h (h1 h'.2.1) λf hf=>h2 f hf ((Fn.br f).1 (h'.2.2.1.2 f hf)).2.2
 exact⟨aO.ind A B,bm.ind A B⟩
theorem abE (d:bm)(h:d.ok)(hE:P0 97 [d.e.v] (i64 (km d.e)))(hF:∀f,f∈d.f->P0 97 [f.b.v] (i64 (km f.b))):P0 50 [d.v] (i64 (w (FY d+1))):=Pure.of rfl λH nx=>by
 rw[bm.br]at h;obtain⟨hp,he,⟨hfl,hf⟩,hx,hc⟩:=h;rw[q50];refine Wq.gi (.refl _ _) λhA=> ?_;have L70:∀(n:Int) H1 aI,Ag nx H aI H1->Wq P pl X0 (.jump (yI (i64 n) H1 aI)) nx H (i64 (w (n+1))):=λn H1 aI hA1=>by
  refine Wq.jmp (Yx ..) (λ_=>rfl) ?_;simp only[af];exact Wq.ret hA1
 simp only[af,aL,aa];rw[G5];refine Wq.ite (λh1=> ?_) (λh1=> ?_)
 . rw[if_pos h1];refine Wq.call (Pv _ hp) hA λH2 nx2 hA2=> ?_;refine Wq.call hE hA2 λH3 nx3 hA3=> ?_;simp only[af,mK];exact L70 _ _ _ hA3
 rw[if_neg h1];refine Wq.ite (λh2=> ?_) (λh2=> ?_)
 . rw[if_neg (by omega),if_pos h2];refine Wq.each (d.f) (λi s H nx=> .jump (B8 (i64 s) (vj d.f) (i64 (d.f.length:Int)) (i64 (i:Int)) H nx)) (λt s=>i64 (w (C5 t s+1))) (λs0 H0 nx0 hA0=> ?_) (λi0 a0 t0 s0 H0 nx0 hg0 hlt0 hd0 hA0 ih0=> ?_) (0) _ _ hA
   . refine Wq.jmp (On ..) (λ_=>rfl) ?_;simp only[af,aL,aa,aF];exact Wq.ret hA0
   . have hx0:((d.f).map Fn.v)[i0]? = some (Fn.v a0):=by simp[hg0]
     have hm0:=ak hg0;refine Wq.jmp (On ..) (λ_=>rfl) ?_;simp only[af,aL,aa,aJ hlt0,oS hx0];refine Wq.var ki oh rfl (nFn _) (oFn _) hA0 λH2 nx2 hA2=> ?_;refine Wq.call (hF a0 hm0) hA2 λH3 nx3 hA3=> ?_;simp only[af,aL,aa,mK];have hpl:=((Fn.br a0).1 (hf a0 hm0)).2.1;rw[C5,Pt];refine Wq.each (a0.p) (λi s H nx=> .jump (Ca (i64 s) (vj d.f) (i64 (d.f.length:Int)) (i64 (i0:Int)) (cL a0.p) (i64 (a0.p.length:Int)) (i64 (i:Int)) H nx)) (λt s=>i64 (w (C5 t0 (kF t s)+1))) (λs8 H8 nx8 hA8=> ?_) (λi8 a8 t8 s8 H8 nx8 hg8 hlt8 hd8 hA8 ih8=> ?_) (mx s0 (km a0.b)) _ _ hA3
     . refine Wq.jmp (Ot ..) (λ_=>rfl) ?_;simp only[af,aL,aa,aF];simp only[af,az (show i0<9223372036854775807 by have:=cv hfl;omega)];exact ih0 _ _ _ hA8
     . have hx8:((a0.p).map bk.v)[i8]? = some (bk.v a8):=by simp[hg8]
       have hm8:=ak hg8;refine Wq.jmp (Ot ..) (λ_=>rfl) ?_;simp only[af,aL,aa,aJ hlt8,jI hx8];refine Wq.var fx fJ rfl (GZ _) (G0 _) hA8 λH2 nx2 hA2=> ?_;refine Wq.call (Pv a8 (hpl.2 a8 hm8)) hA2 λH3 nx3 hA3=> ?_;simp only[af,mK];simp only[af,az (show i8<9223372036854775807 by have:=cv hpl.1;omega)];exact ih8 _ _ _ hA3
 refine Wq.ite (λh3=> ?_) (λh3=> ?_)
 . rw[if_neg (by omega),if_neg h2,if_pos h3];refine Wq.each (d.x.cons) (λi s H nx=> .jump (B9 (i64 s) (mZ d.x.cons) (i64 (d.x.cons.length:Int)) (i64 (i:Int)) H nx)) (λt s=>i64 (w (sQ t s+1))) (λs0 H0 nx0 hA0=> ?_) (λi0 a0 t0 s0 H0 nx0 hg0 hlt0 hd0 hA0 ih0=> ?_) (0) _ _ hA
   . refine Wq.jmp (Oo ..) (λ_=>rfl) ?_;simp only[af,aL,aa,aF];exact Wq.ret hA0
   . have hx0:((d.x.cons).map eO.v)[i0]? = some (eO.v a0):=by simp[hg0]
     have hm0:=ak hg0;refine Wq.jmp (Oo ..) (λ_=>rfl) ?_;simp only[af,aL,aa,aJ hlt0,uT hx0];refine Wq.var lB mX rfl (Y6 _) (Y7 _) hA0 λH2 nx2 hA2=> ?_;have hpl:=(hx.2.2.2 a0 hm0).2;rw[sQ];refine Wq.each (a0.arg) (λi s H nx=> .jump (Cb (i64 s) (mZ d.x.cons) (i64 (d.x.cons.length:Int)) (i64 (i0:Int)) (iB a0.arg) (i64 (a0.arg.length:Int)) (i64 (i:Int)) H nx)) (λt s=>i64 (w (sQ t0 (rG t s)+1))) (λs8 H8 nx8 hA8=> ?_) (λi8 a8 t8 s8 H8 nx8 hg8 hlt8 hd8 hA8 ih8=> ?_) (s0) _ _ hA2
     . refine Wq.jmp (Ou ..) (λ_=>rfl) ?_;simp only[af,aL,aa,aF];simp only[af,az (show i0<9223372036854775807 by have:=cv (show d.x.cons.length<ei from hx.2.2.1);omega)];exact ih0 _ _ _ hA8
     . have hx8:((a0.arg).map bI.v)[i8]? = some (bI.v a8):=by simp[hg8]
       have hm8:=ak hg8;refine Wq.jmp (Ou ..) (λ_=>rfl) ?_;simp only[af,aL,aa,aJ hlt8,mr hx8];refine Wq.var ff fA rfl (L1 _) (L2 _) hA8 λH2 nx2 hA2=> ?_;refine Wq.call (WN a8 (hpl.2 a8 hm8)) hA2 λH3 nx3 hA3=> ?_;simp only[af,mK];simp only[af,az (show i8<9223372036854775807 by have:=cv hpl.1;omega)];exact ih8 _ _ _ hA3
 refine Wq.ite (λh4=> ?_) (λh4=> ?_)
 . rw[if_neg (by omega),if_neg h2,if_neg h3,if_pos h4];refine Wq.each (d.c.arg) (λi s H nx=> .jump (B_ (i64 s) (iB d.c.arg) (i64 (d.c.arg.length:Int)) (i64 (i:Int)) H nx)) (λt s=>i64 (w (rG t s+1))) (λs0 H0 nx0 hA0=> ?_) (λi0 a0 t0 s0 H0 nx0 hg0 hlt0 hd0 hA0 ih0=> ?_) (0) _ _ hA
   . refine Wq.jmp (Oq ..) (λ_=>rfl) ?_;simp only[af,aL,aa,aF];exact Wq.ret hA0
   . have hx0:((d.c.arg).map bI.v)[i0]? = some (bI.v a0):=by simp[hg0]
     have hm0:=ak hg0;refine Wq.jmp (Oq ..) (λ_=>rfl) ?_;simp only[af,aL,aa,aJ hlt0,mr hx0];refine Wq.var ff fA rfl (L1 _) (L2 _) hA0 λH2 nx2 hA2=> ?_;refine Wq.call (WN a0 (hc.2.2 a0 hm0)) hA2 λH3 nx3 hA3=> ?_;simp only[af,mK];simp only[af,az (show i0<9223372036854775807 by have:=cv hc.2.1;omega)];exact ih0 _ _ _ hA3
 refine Wq.ite (λh5=> ?_) (λh5=> ?_)
 . rw[if_pos h5];refine Wq.call hE hA λH3 nx3 hA3=> ?_;exact L70 _ _ _ hA3
 . rw[if_neg h5,if_neg h2,if_neg h3,if_neg h4];exact L70 _ _ _ hA
theorem WQ (l:List bm)(hl:l.length<ei)(ih:∀d,d∈l->P0 50 [d.v] (i64 (w (FY d+1)))):P0 27 [cb l] (i64 (lW l 0)):=Pure.of rfl λH nx=>by
 rw[q27];simp only[af,aL,aa];refine Wq.each (l) (λi s H nx=> .jump (JJ (i64 s) (cb l) (i64 (l.length:Int)) (i64 (i:Int)) H nx)) (λt s=>i64 (lW t s)) (λs0 H0 nx0 hA0=> ?_) (λi0 a0 t0 s0 H0 nx0 hg0 hlt0 hd0 hA0 ih0=> ?_) (0) _ _ (.refl _ _)
 . refine Wq.jmp (Wj ..) (λ_=>rfl) ?_;simp only[af,aL,aa,aF];exact Wq.ret hA0
 . have hx0:((l).map bm.v)[i0]? = some (bm.v a0):=by simp[hg0]
   have hm0:=ak hg0;refine Wq.jmp (Wj ..) (λ_=>rfl) ?_;simp only[af,aL,aa,aJ hlt0,sG hx0];refine Wq.var fO gQ rfl (Pe _) (Pf _) hA0 λH2 nx2 hA2=> ?_;refine Wq.call (ih a0 hm0) hA2 λH3 nx3 hA3=> ?_;simp only[af,mK];rw[lW];simp only[af,az (show i0<9223372036854775807 by have:=cv hl;omega)];exact ih0 _ _ _ hA3
theorem Zc (e:aO)(h:e.ok)(h1:∀c,c∈e.l->P0 97 [c.v] (i64 (km c)))(h2:∀d,d∈e.d->P0 50 [d.v] (i64 (w (FY d+1)))):P0 97 [e.v] (i64 (km e)):=Pure.of rfl λH nx=>by
 rw[aO.br]at h;obtain⟨hr,hs,⟨hl,hl'⟩,⟨hp,hp'⟩,hd,hd'⟩:=h;rw[q97];refine Wq.gi (.refl _ _) λhA=> ?_;simp only[af,aL,aa];refine Wq.call (WQ _ hd h2) hA λH1 aI hA1=> ?_;rw[Kw];refine Wq.each (e.l) (λi s H nx=> .jump (JV (ah e.v) (i64 s) (fK e.l) (i64 (e.l.length:Int)) (i64 (i:Int)) H nx)) (λt s=>i64 (w (kF e.p (yW t s)+1))) (λs0 H0 nx0 hA0=> ?_) (λi0 a0 t0 s0 H0 nx0 hg0 hlt0 hd0 hA0 ih0=> ?_) (lW e.d 0) _ _ hA1
 . refine Wq.jmp (WE ..) (λ_=>rfl) ?_;simp only[af,aL,aa,aF];refine Wq.each (e.p) (λi s H nx=> .jump (Cy (i64 s) (cL e.p) (i64 (e.p.length:Int)) (i64 (i:Int)) H nx)) (λt s=>i64 (w (kF t s+1))) (λs8 H8 nx8 hA8=> ?_) (λi8 a8 t8 s8 H8 nx8 hg8 hlt8 hd8 hA8 ih8=> ?_) (s0) _ _ hA0
   . refine Wq.jmp (OI ..) (λ_=>rfl) ?_;simp only[af,aL,aa,aF];exact Wq.ret hA8
   . have hx8:((e.p).map bk.v)[i8]? = some (bk.v a8):=by simp[hg8]
     have hm8:=ak hg8;refine Wq.jmp (OI ..) (λ_=>rfl) ?_;simp only[af,aL,aa,aJ hlt8,jI hx8];refine Wq.var fx fJ rfl (GZ _) (G0 _) hA8 λH2 nx2 hA2=> ?_;refine Wq.call (Pv _ (hp' _ hm8)) hA2 λH3 nx3 hA3=> ?_;simp only[af,mK];simp only[af,az (show i8<9223372036854775807 by have:=cv hp;omega)];exact ih8 _ _ _ hA3
 . have hx0:((e.l).map aO.v)[i0]? = some (aO.v a0):=by simp[hg0]
   have hm0:=ak hg0;refine Wq.jmp (WE ..) (λ_=>rfl) ?_;simp only[af,aL,aa,aJ hlt0,kE hx0];refine Wq.var de dE rfl (LZ _) (L0 _) hA0 λH2 nx2 hA2=> ?_;refine Wq.call (h1 _ hm0) hA2 λH3 nx3 hA3=> ?_;simp only[af,mK];rw[yW];simp only[af,az (show i0<9223372036854775807 by have:=cv hl;omega)];exact ih0 _ _ _ hA3
theorem TC:(∀e:aO,e.ok->P0 97 [e.v] (i64 (km e)))/\∀d:bm,d.ok->P0 50 [d.v] (i64 (w (FY d+1))):=by
 have A:∀e:aO,(∀c,c∈e.l->c.ok->P0 97 [c.v] (i64 (km c)))->(∀c,c∈e.d->c.ok->P0 50 [c.v] (i64 (w (FY c+1))))->e.ok->P0 97 [e.v] (i64 (km e)):=λe h1 h2 h=>by
  have h':=(aO.br e).1 h;exact Zc e h (λc hc=>h1 c hc (h'.2.2.1.2 c hc)) λd hd=>h2 d hd (h'.2.2.2.2.2 d hd)
 have B:∀d:bm,(d.e.ok->P0 97 [d.e.v] (i64 (km d.e)))->(∀f,f∈d.f->f.b.ok->P0 97 [f.b.v] (i64 (km f.b)))->d.ok->P0 50 [d.v] (i64 (w (FY d+1))):=λd h1 h2 h=>by
  have h':=(bm.br d).1 h;exact abE d h (h1 h'.2.1) λf hf=>h2 f hf ((Fn.br f).1 (h'.2.2.1.2 f hf)).2.2
 exact⟨aO.ind A B,bm.ind A B⟩
theorem abF (l:List bm)(hl:l.length<ei)(h:∀d,d∈l->d.ok):P0 27 [cb l] (i64 (lW l 0)):=WQ l hl λd hd=>TC.2 d (h d hd)
theorem abG (l:List bm)(hl:l.length<ei)(h:∀d,d∈l->d.ok):P0 23 [cb l] (i64 (lW l 0)):=WO l hl λd hd=>TB.2 d (h d hd)
end
section
variable {nx0:Nat}{H0:T OB}
def ka (s:Nat)(l:List Value)(v:Value):Prop:=v=bM s l\/(l=[]/\v= .slice none 0 0)
theorem ka.row (s:Nat)(l:List Value):ka s l (bM s l):= .inl rfl
theorem ka.nil (s:Nat):ka s [] (.slice none 0 0):= .inr ⟨rfl,rfl⟩
theorem Pw {l:List Value}{v:Value}(h:ka 4 l v)(H:T OB)(nx:Nat)(k:Value->T OB->Nat->Q):jw P 42 v H nx k=k (bM 4 l) H nx:=by
 rcases h with rfl | ⟨rfl,rfl⟩<;>kernel_rfl
theorem Zd {l:List Value}{v:Value}(h:ka 6 l v)(H:T OB)(nx:Nat)(k:Value->T OB->Nat->Q):jw P 41 v H nx k=k (bM 6 l) H nx:=by
 rcases h with rfl | ⟨rfl,rfl⟩<;>kernel_rfl
theorem Ze {l:List Value}{v:Value}(h:ka 17 l v)(H:T OB)(nx:Nat)(k:Value->T OB->Nat->Q):jw P 24 v H nx k=k (bM 17 l) H nx:=by
 rcases h with rfl | ⟨rfl,rfl⟩<;>kernel_rfl
theorem Zf {l:List Value}{v:Value}(h:ka 3 l v)(H:T OB)(nx:Nat)(k:Value->T OB->Nat->Q):jw P 53 v H nx k=k (bM 3 l) H nx:=by
 rcases h with rfl | ⟨rfl,rfl⟩<;>kernel_rfl
theorem Zg {l:List Value}{v:Value}(h:ka 1 l v)(H:T OB)(nx:Nat)(k:Value->T OB->Nat->Q):jw P 49 v H nx k=k (bM 1 l) H nx:=by
 rcases h with rfl | ⟨rfl,rfl⟩<;>kernel_rfl
theorem Zh {l:List Value}{v:Value}(h:ka 2 l v)(H:T OB)(nx:Nat)(k:Value->T OB->Nat->Q):jw P 50 v H nx k=k (bM 2 l) H nx:=by
 rcases h with rfl | ⟨rfl,rfl⟩<;>kernel_rfl
def Px (p:bk)(v:Value):Prop:=∃d,v= .agg ⟨[i64 p.k,i64 p.n,aK p.s,d]⟩/\ka 4 (p.l.map bk.v) d
def vk (e:aO)(v:Value):Prop:=∃a b c,v= .agg ⟨[i64 e.k,i64 e.n,aK e.s,a,b,c]⟩/\ka 6 (e.l.map aO.v) a/\ka 4 (e.p.map bk.v) b/\ka 17 (e.d.map bm.v) c
def Zi (e:eO)(v:Value):Prop:=∃a,v= .agg ⟨[aK e.s,a]⟩/\ka 3 (e.arg.map bI.v) a
def WR (e:Data)(v:Value):Prop:=∃a b,v= .agg ⟨[a,aK e.s,b]⟩/\ka 1 (e.vars.map aK) a/\ka 2 (e.cons.map eO.v) b
theorem bk.vv (p:bk):Px p p.v:=⟨_,p.bX,.row _ _⟩
theorem aO.vv (p:aO):vk p p.v:=⟨_,_,_,p.bX,.row _ _,.row _ _,.row _ _⟩
theorem eO.vv (p:eO):Zi p p.v:=⟨_,p.bX,.row _ _⟩
theorem abH (a b c d:Value)(H:T OB)(nx:Nat)(k:Value->T OB->Nat->Q):gD P 47 (.agg ⟨[a,b,c,d]⟩) H nx k=jw P 42 d H nx λd H nx=>k (.agg ⟨[a,b,c,d]⟩) H nx:=by kernel_rfl
theorem abI (a b c d e f:Value)(H:T OB)(nx:Nat)(k:Value->T OB->Nat->Q):gD P 44 (.agg ⟨[a,b,c,d,e,f]⟩) H nx k=jw P 41 d H nx λd H nx=>jw P 42 e H nx λe H nx=>jw P 24 f H nx λf H nx=>k (.agg ⟨[a,b,c,d,e,f]⟩) H nx:=by kernel_rfl
theorem abJ (a b:Value)(H:T OB)(nx:Nat)(k:Value->T OB->Nat->Q):gD P 55 (.agg ⟨[a,b]⟩) H nx k=jw P 53 b H nx λb H nx=>k (.agg ⟨[a,b]⟩) H nx:=by kernel_rfl
theorem abK (a b c:Value)(H:T OB)(nx:Nat)(k:Value->T OB->Nat->Q):gD P 52 (.agg ⟨[a,b,c]⟩) H nx k=jw P 49 a H nx λa H nx=>jw P 50 c H nx λc H nx=>k (.agg ⟨[a,b,c]⟩) H nx:=by kernel_rfl
theorem abL {p:bk}{v:Value}(h:Px p v)(H:T OB)(nx:Nat)(k:Value->T OB->Nat->Q):gD P 47 v H nx k=k p.v H nx:=by
 obtain⟨d,rfl,h⟩:=h;rw[abH,Pw h,p.bX]
theorem frExp {p:aO}{v:Value}(h:vk p v)(H:T OB)(nx:Nat)(k:Value->T OB->Nat->Q):gD P 44 v H nx k=k p.v H nx:=by
 obtain⟨a,b,c,rfl,h1,h2,h3⟩:=h;rw[abI,Zd h1,Pw h2,Ze h3,p.bX]
theorem abM {p:eO}{v:Value}(h:Zi p v)(H:T OB)(nx:Nat)(k:Value->T OB->Nat->Q):gD P 55 v H nx k=k p.v H nx:=by
 obtain⟨d,rfl,h⟩:=h;rw[abJ,Zf h,p.bX]
theorem Zj {p:Data}{v:Value}(h:WR p v)(H:T OB)(nx:Nat)(k:Value->T OB->Nat->Q):gD P 52 v H nx k=k p.v H nx:=by
 obtain⟨d,b,rfl,h,h2⟩:=h;rw[abK,Zg h,Zh h2,p.bX]
def fo {α:Type}(a b:α):Bool:=@decide (a=b) (Classical.propDecidable _)
theorem WT {α:Type}{a b:α}(h:a=b):fo a b=true:=by unfold fo;simp[h]
theorem mw {α:Type}{a b:α}(h:a≠b):fo a b=false:=by unfold fo;simp[h]
theorem jN {α:Type}{a b:α}:fo a b=true↔a=b:=by unfold fo;simp
theorem sS {α:Type}(a:α):fo a a=true:=WT rfl
theorem m4 {α β:Type}{a b:α}{c d:β}(h:a=b↔c=d):fo a b=fo c d:=by
 rw[dk,jN,jN];exact h
theorem dL (a b:List UInt8):decide ((⟨⟨a⟩⟩:ByteArray)=⟨⟨b⟩⟩)=decide (a=b):=by rw[decide_eq_decide];simp
theorem Wq.jr {p:Prop}[Decidable p]{R:Value->T OB->Nat->Prop}{x y:Q}(h:¬p->e8 P pl X0 x nx0 H0 R)(h':p->e8 P pl X0 y nx0 H0 R):e8 P pl X0 (Ev.bK (!decide p) x y) nx0 H0 R:=
 Wq.bK (λq=>h (by simpa using q)) (λq=>h' (by simpa using q))
theorem Wq.aeM (I:T OB->Nat->Prop){α:Type}(l m:List α)(hlm:l.length=m.length)(q:Nat->T OB->Nat->Q)(r:Bool)(hend:∀H1 aI,I H1 aI->Ag nx0 H0 aI H1->Wq P pl X0 (q l.length H1 aI) nx0 H0 (.bool r))
 (hstep:∀(i:Nat) (a b:α) (t u:List α) H1 aI,l[i]? = some a->m[i]? = some b->i<l.length->I H1 aI->Ag nx0 H0 aI H1->(∀H2 nx2,I H2 nx2->Ag nx0 H0 nx2 H2->Wq P pl X0 (q (i+1) H2 nx2) nx0 H0 (.bool (fo t u&&r)))->Wq P pl X0 (q i H1 aI) nx0 H0 (.bool (fo a b&&(fo t u&&r)))) (H1:T OB) (aI:Nat) (hI:I H1 aI) (hA:Ag nx0 H0 aI H1):
 Wq P pl X0 (q 0 H1 aI) nx0 H0 (.bool (fo l m&&r)):=by
 have key:∀(t u:List α) (i:Nat),l.drop i=t->m.drop i=u->i<=l.length->∀H1 aI,I H1 aI->Ag nx0 H0 aI H1->Wq P pl X0 (q i H1 aI) nx0 H0 (.bool (fo t u&&r)):=by
  intro t
  induction t with
  | nil=>
    intro u i hd hu hi H1 aI hI hA;have hil:=drop_nil hd hi;have:u=[]:=by rw[<- hu,List.drop_of_length_le (by omega)]
    rw[this,sS,ai,hil];exact hend H1 aI hI hA
  | cons a t ih=>
    intro u i hd hu hi H1 aI hI hA;obtain⟨hg,hlt,hd'⟩:=drop_cons hd;cases u with
    | nil=>
      have:=drop_nil hu (by omega);omega
    | cons b u=>
      obtain⟨hg2,hlt2,hd2⟩:=drop_cons hu;have:fo (a::t) (b::u)=(fo a b&&fo t u):=by
       rw[dk];simp[jN]
      rw[this,bw];exact hstep i a b t u H1 aI hg hg2 hlt hI hA λH2 nx2 h1 h2=>ih u (i+1) hd' hd2 (by omega) H2 nx2 h1 h2
 have:=key l m 0 rfl rfl (aN _) H1 aI hI hA;exact this
theorem Wq.zip {α:Type}(l m:List α)(hlm:l.length=m.length)(q:Nat->T OB->Nat->Q)(r:Bool)(hend:∀H1 aI,Ag nx0 H0 aI H1->Wq P pl X0 (q l.length H1 aI) nx0 H0 (.bool r))
 (hstep:∀(i:Nat) (a b:α) (t u:List α) H1 aI,l[i]? = some a->m[i]? = some b->i<l.length->Ag nx0 H0 aI H1->(∀H2 nx2,Ag nx0 H0 nx2 H2->Wq P pl X0 (q (i+1) H2 nx2) nx0 H0 (.bool (fo t u&&r)))->Wq P pl X0 (q i H1 aI) nx0 H0 (.bool (fo a b&&(fo t u&&r)))) (H1:T OB) (aI:Nat) (hA:Ag nx0 H0 aI H1):
 Wq P pl X0 (q 0 H1 aI) nx0 H0 (.bool (fo l m&&r)):=by
 have key:∀(t u:List α) (i:Nat),l.drop i=t->m.drop i=u->i<=l.length->∀H1 aI,Ag nx0 H0 aI H1->Wq P pl X0 (q i H1 aI) nx0 H0 (.bool (fo t u&&r)):=by
  intro t
  induction t with
  | nil=>
    intro u i hd hu hi H1 aI hA;have hil:=drop_nil hd hi;have:u=[]:=by rw[<- hu,List.drop_of_length_le (by omega)]
    rw[this,sS,ai,hil];exact hend H1 aI hA
  | cons a t ih=>
    intro u i hd hu hi H1 aI hA;obtain⟨hg,hlt,hd'⟩:=drop_cons hd;cases u with
    | nil=>
      have:=drop_nil hu (by omega);omega
    | cons b u=>
      obtain⟨hg2,hlt2,hd2⟩:=drop_cons hu;have:fo (a::t) (b::u)=(fo a b&&fo t u):=by
       rw[dk];simp[jN]
      rw[this,bw];exact hstep i a b t u H1 aI hg hg2 hlt hA λH2 nx2 h2=>ih u (i+1) hd' hd2 (by omega) H2 nx2 h2
 have:=key l m 0 rfl rfl (aN _) H1 aI hA;exact this
theorem WU (l m:List bk)(hl:l.length<ei)(ih:∀a,a∈l->∀b,P0 29 [a.v,b.v] (.bool (fo a b))):P0 32 [cL l,cL m] (.bool (fo l m)):=Pure.of rfl λH nx=>by
 rw[q32];simp only[af,aL,aa];refine Wq.jr (λh=> ?_) (λh=> ?_)
 . exact Wq.ij (by rw[mw (λq=>h (by rw[q]))]) (.refl _ _)
 have hlm:l.length=m.length:=by omega
 have:=Wq.zip (nx0:=nx) (H0:=H) l m hlm (λi H nx=> .jump (BQ (cL l) (cL m) (i64 (i:Int)) H nx)) true (λH1 aI hA1=> ?_) (λi a b t u H1 aI hg hg2 hlt hA1 ih'=> ?_) H nx (.refl _ _)
 . rw[aW]at this;exact this
 . refine Wq.jmp (N5 ..) (λ_=>rfl) ?_;simp only[af,aL,aa,aF];exact Wq.ret hA1
 . have hx:(l.map bk.v)[i]? = some a.v:=by simp[hg]
   have hx2:(m.map bk.v)[i]? = some b.v:=by simp[hg2]
   refine Wq.jmp (N5 ..) (λ_=>rfl) ?_;simp only[af,aL,aa,aJ hlt,jI hx,jI hx2];refine Wq.call (ih a (ak hg) b) hA1 λH2 nx2 hA2=> ?_;cases hE:fo a b with
   | false=>simp only[af,aE];exact Wq.ret hA2
   | true=>
     simp only[af,ai,az (show i<9223372036854775807 by have:=cv hl;omega)];exact ih' _ _ hA2
theorem Zk (p q:bk)(v:Value)(hv:Px p v)(ih:P0 32 [cL p.l,cL q.l] (.bool (fo p.l q.l))):P0 29 [v,q.v] (.bool (fo p q)):=Pure.of rfl λH nx=>by
 rw[q29,abL hv];refine Wq.gi (.refl _ _) λhA=> ?_;refine Wq.gi hA λhA=> ?_;simp only[af,aL,aa,dL];refine Wq.ite (λh1=> ?_) (λh1=>Wq.ij (by rw[mw (λh=>h1 (by rw[h]))]) hA);refine Wq.ite (λh2=> ?_) (λh2=>Wq.ij (by rw[mw (λh=>h2 (by rw[h]))]) hA);refine Wq.ite (λh3=> ?_) (λh3=>Wq.ij (by rw[mw (λh=>h3 (by rw[h]))]) hA);refine Wq.call ih hA λH2 nx2 hA2=> ?_;refine Wq.ij ?_ hA2;rw[m4];cases p;cases q;simp only[bk.k,bk.n,bk.s,bk.l]at h1 h2 h3 ⊢;simp[h1,h2,h3]
theorem WV (p:bk)(hp:p.ok):∀(q:bk) (v:Value),Px p v->P0 29 [v,q.v] (.bool (fo p q)):=by
 refine bk.ind (p:=λp=>p.ok->∀(q:bk) (v:Value),Px p v->P0 29 [v,q.v] (.bool (fo p q))) (λp ih hp q v hv=> ?_) p hp;rw[bk.br]at hp;exact Zk p q v hv (WU p.l q.l hp.2.2.1 λa ha b=>ih a ha (hp.2.2.2 a ha) b _ a.vv)
theorem Py (l m:List bk)(hl:l.length<ei)(h:∀a,a∈l->a.ok):P0 32 [cL l,cL m] (.bool (fo l m)):=WU l m hl λa ha b=>WV a (h a ha) b _ a.vv
theorem Pz (l m:List bI)(hl:l.length<ei)(ih:∀a,a∈l->∀m',P0 53 [iB a.l,iB m'] (.bool (fo a.l m'))):P0 53 [iB l,iB m] (.bool (fo l m)):=Pure.of rfl λH nx=>by
 rw[q53];simp only[af,aL,aa];refine Wq.jr (λh=> ?_) (λh=> ?_)
 . exact Wq.ij (by rw[mw (λq=>h (by rw[q]))]) (.refl _ _)
 have hlm:l.length=m.length:=by omega
 have:=Wq.zip (nx0:=nx) (H0:=H) l m hlm (λi H nx=> .jump (Cl (iB l) (iB m) (i64 (i:Int)) H nx)) true (λH1 aI hA1=> ?_) (λi a b t u H1 aI hg hg2 hlt hA1 ih'=> ?_) H nx (.refl _ _)
 . rw[aW]at this;exact this
 . refine Wq.jmp (Oy ..) (λ_=>rfl) ?_;simp only[af,aL,aa,aF];exact Wq.ret hA1
 . have hx:(l.map bI.v)[i]? = some a.v:=by simp[hg]
   have hx2:(m.map bI.v)[i]? = some b.v:=by simp[hg2]
   have L16:∀(r:Bool) H2 nx2,Ag nx H nx2 H2->r= !fo a b->Wq P pl X0 (.jump (yK (iB l) (iB m) (i64 (i:Int)) r H2 nx2)) nx H (.bool (fo a b&&(fo t u&&true))):=by
    intro r H2 nx2 hA2 hr;refine Wq.jmp (YF ..) (λ_=>rfl) ?_;cases hE:fo a b with
    | false=>rw[hE]at hr;rw[hr];exact Wq.ret hA2
    | true=>
      rw[hE]at hr;rw[hr];simp only[af,ai,az (show i<9223372036854775807 by have:=cv hl;omega)];exact ih' _ _ hA2
   refine Wq.jmp (Oy ..) (λ_=>rfl) ?_;simp only[af,aL,aa,aJ hlt,mr hx,mr hx2,dL];refine Wq.jr (λh1=>L16 _ _ _ hA1 (by rw[mw (λh=>h1 (by rw[h]))];rfl)) (λh1=> ?_);refine Wq.jr (λh2=>L16 _ _ _ hA1 (by rw[mw (λh=>h2 (by rw[h]))];rfl)) (λh2=> ?_);refine Wq.call (ih a (ak hg) b.l) hA1 λH2 nx2 hA2=> ?_;simp only[af];refine L16 _ _ _ hA2 (congrArg _ (m4 ?_));cases a;cases b;simp only[bI.k,bI.s,bI.l]at h1 h2 ⊢;simp[h1,h2]
theorem Zl (a:bI)(ha:a.ok):∀m,P0 53 [iB a.l,iB m] (.bool (fo a.l m)):=by
 refine bI.ind (p:=λa=>a.ok->∀m,P0 53 [iB a.l,iB m] (.bool (fo a.l m))) (λp ih hp m=> ?_) a ha;rw[bI.br]at hp;exact Pz p.l m hp.2.1 λa ha m'=>ih a ha (hp.2.2 a ha) m'
theorem abN (l m:List bI)(hl:l.length<ei)(h:∀a,a∈l->a.ok):P0 53 [iB l,iB m] (.bool (fo l m)):=Pz l m hl λa ha m'=>Zl a (h a ha) m'
theorem WW (p q:eO)(hp:p.ok)(v:Value)(hv:Zi p v):P0 30 [v,q.v] (.bool (fo p q)):=Pure.of rfl λH nx=>by
 rw[q30,abM hv];refine Wq.gi (.refl _ _) λhA=> ?_;refine Wq.gi hA λhA=> ?_;simp only[af,aL,aa,dL];refine Wq.ite (λh1=> ?_) (λh1=>Wq.ij (by rw[mw (λh=>h1 (by rw[h]))]) hA);refine Wq.call (abN p.arg q.arg hp.2.1 hp.2.2) hA λH2 nx2 hA2=> ?_;refine Wq.ij ?_ hA2;rw[m4];cases p;cases q;simp only at h1 ⊢;simp[h1]
theorem abO (p q:Data)(hp:p.ok)(v:Value)(hv:WR p v):P0 31 [v,q.v] (.bool (fo p q)):=Pure.of rfl λH nx=>by
 rw[q31,Zj hv];refine Wq.gi (.refl _ _) λhA=> ?_;refine Wq.gi hA λhA=> ?_;have L6:∀H1 aI,Ag nx H aI H1->p≠q->Wq P pl X0 (.jump (EX (ah p.v) (ah q.v) true H1 aI)) nx H (.bool (fo p q)):=by
  intro H1 aI hA1 h;refine Wq.jmp (Wk ..) (λ_=>rfl) ?_;rw[mw h];exact Wq.ret hA1
 simp only[af,aL,aa,dL];refine Wq.jr (λh1=>L6 _ _ hA λh=>h1 (by rw[h])) (λh1=> ?_);refine Wq.jr (λh2=>L6 _ _ hA λh=>h2 (by rw[h])) (λh2=> ?_);refine Wq.jmp (Wk ..) (λ_=>rfl) ?_;refine Wq.jr (λh3=> ?_) (λh3=> ?_)
 . rw[mw λh=>h3 (by rw[h])];exact Wq.ret hA
 have e0:fo p q=(fo p.vars q.vars&&(fo p.cons q.cons&&true)):=by
  rw[aW,dk,ae,jN,jN,jN];cases p;cases q;simp only at h1 ⊢;simp[h1]
 rw[e0];refine Wq.zip (nx0:=nx) (H0:=H) p.vars q.vars (by omega) (λi H nx=> .jump (BO (ah p.v) (ah q.v) (i64 (i:Int)) H nx)) _ (λH1 aI hA1=> ?_) (λi a b t u H1 aI hg hg2 hlt hA1 ih'=> ?_) _ _ hA
 . refine Wq.jmp (N3 ..) (λ_=>rfl) ?_;simp only[af,aL,aa,aF];refine Wq.zip (nx0:=nx) (H0:=H) p.cons q.cons (by omega) (λi H nx=> .jump (BP (ah p.v) (ah q.v) (i64 (i:Int)) H nx)) _ (λH1 aI hA1=> ?_) (λi a b t u H1 aI hg hg2 hlt hA1 ih'=> ?_) _ _ hA1
   . refine Wq.jmp (N4 ..) (λ_=>rfl) ?_;simp only[af,aL,aa,aF];exact Wq.ret hA1
   . have hx:(p.cons.map eO.v)[i]? = some a.v:=by simp[hg]
     have hx2:(q.cons.map eO.v)[i]? = some b.v:=by simp[hg2]
     refine Wq.jmp (N4 ..) (λ_=>rfl) ?_;simp only[af,aL,aa,aJ hlt,uT hx,uT hx2];refine Wq.call (WW a b (hp.2.2.2 a (ak hg)) _ a.vv) hA1 λH2 nx2 hA2=> ?_;cases hE:fo a b with
     | false=>simp only[af,aE];exact Wq.ret hA2
     | true=>
       simp only[af,ai,az (show i<9223372036854775807 by have:=cv hp.2.2.1;omega)];exact ih' _ _ hA2
 . have hx:(p.vars.map aK)[i]? = some (aK a):=by simp[hg]
   have hx2:(q.vars.map aK)[i]? = some (aK b):=by simp[hg2]
   refine Wq.jmp (N3 ..) (λ_=>rfl) ?_;simp only[af,aL,aa,aJ hlt,yr hx,yr hx2,dL];refine Wq.jr (λh=> ?_) (λh=> ?_)
   . rw[mw h];exact Wq.ret hA1
   . rw[WT h];simp only[af,ai,az (show i<9223372036854775807 by have:=cv hp.1.1;omega)];exact ih' _ _ hA1
end
section
variable {nx0:Nat}{H0:T OB}
theorem Zm (e q:aO)(he:e.ok)(v:Value)(hv:vk e v)(h1:∀a,a∈e.l->∀b:aO,P0 25 [a.v,b.v] (.bool (fo a b)))(h2:∀m,P0 14 [cb e.d,cb m] (.bool (fo e.d m))):P0 25 [v,q.v] (.bool (fo e q)):=Pure.of rfl λH nx=>by
 rw[aO.br]at he;rw[q25,frExp hv];refine Wq.gi (.refl _ _) λhA=> ?_;refine Wq.gi hA λhA=> ?_;have L6:∀H1 aI,Ag nx H aI H1->e≠q->Wq P pl X0 (.jump (uU (ah e.v) (ah q.v) true H1 aI)) nx H (.bool (fo e q)):=by
  intro H1 aI hA1 h;refine Wq.jmp (Wi ..) (λ_=>rfl) ?_;rw[mw h];exact Wq.ret hA1
 simp only[af,aL,aa,dL];refine Wq.jr (λg1=>L6 _ _ hA λh=>g1 (by rw[h])) (λg1=> ?_);refine Wq.jr (λg2=>L6 _ _ hA λh=>g2 (by rw[h])) (λg2=> ?_);refine Wq.jr (λg3=>L6 _ _ hA λh=>g3 (by rw[h])) (λg3=> ?_);refine Wq.jr (λg4=>L6 _ _ hA λh=>g4 (by rw[h])) (λg4=> ?_);refine Wq.call (Py e.p q.p he.2.2.2.1.1 he.2.2.2.1.2) hA λH1 aI hA1=> ?_;cases g5:fo e.p q.p with
 | false=>
   simp only[af];exact L6 _ _ hA1 λh=>by rw[h,sS]at g5;cases g5
 | true=>
   simp only[af];refine Wq.call (h2 q.d) hA1 λH2 nx2 hA2=> ?_;cases g6:fo e.d q.d with
   | false=>
     simp only[af];exact L6 _ _ hA2 λh=>by rw[h,sS]at g6;cases g6
   | true=>
     simp only[af];refine Wq.jmp (Wi ..) (λ_=>rfl) ?_;have e0:fo e q=(fo e.l q.l&&true):=by
      rw[aW,m4];rw[jN]at g5 g6;cases e;cases q;simp only[aO.k,aO.n,aO.s,aO.p,aO.d,aO.l]at g1 g2 g3 g5 g6 ⊢;simp[g1,g2,g3,g5,g6]
     rw[e0];refine Wq.zip (nx0:=nx) (H0:=H) e.l q.l (by omega) (λi H nx=> .jump (BM (ah e.v) (ah q.v) (i64 (i:Int)) H nx)) _ (λH1 aI hA1=> ?_) (λi a b t u H1 aI hg hg2 hlt hA1 ih'=> ?_) _ _ hA2
     . refine Wq.jmp (N2 ..) (λ_=>rfl) ?_;simp only[af,aL,aa,aF];exact Wq.ret hA1
     . have hx:(e.l.map aO.v)[i]? = some a.v:=by simp[hg]
       have hx2:(q.l.map aO.v)[i]? = some b.v:=by simp[hg2]
       refine Wq.jmp (N2 ..) (λ_=>rfl) ?_;simp only[af,aL,aa,aJ hlt,kE hx,kE hx2];refine Wq.call (h1 a (ak hg) b) hA1 λH2 nx2 hA2=> ?_;cases hE:fo a b with
       | false=>simp only[af,aE];exact Wq.ret hA2
       | true=>
         simp only[af,ai,az (show i<9223372036854775807 by have:=cv he.2.2.1.1;omega)];exact ih' _ _ hA2
def zN (d:bm)(v:Value):Prop:=∃a1 a2 a3 a4 a5 a6 a7 a8,v= .agg ⟨[i64 d.k,i64 d.p.k,i64 d.p.n,aK d.p.s,a1,i64 d.e.k,i64 d.e.n,aK d.e.s,a2,a3,a4,a5,a6,aK d.x.s,a7,aK d.c.s,a8]⟩/\
 ka 4 (d.p.l.map bk.v) a1/\ka 6 (d.e.l.map aO.v) a2/\ka 4 (d.e.p.map bk.v) a3/\ka 17 (d.e.d.map bm.v) a4/\ka 8 (d.f.map Fn.v) a5/\ka 1 (d.x.vars.map aK) a6/\ka 2 (d.x.cons.map eO.v) a7/\ka 3 (d.c.arg.map bI.v) a8
theorem bm.vv (d:bm):zN d d.v:=⟨_,_,_,_,_,_,_,_,d.bX,.row _ _,.row _ _,.row _ _,.row _ _,.row _ _,.row _ _,.row _ _,.row _ _⟩
theorem WX {H:T OB}{b:Nat}{c0 c1 c2 c3 c4 c5 c6 c7 c8 c9 c10 c11 c12 c13 c14 c15 c16:Value}(h:dO H b [c0,c1,c2,c3,c4,c5,c6,c7,c8,c9,c10,c11,c12,c13,c14,c15,c16] 57):
 aA P H 3 (some (.pointer (some ⟨b,0,none⟩)))=some c0/\aA P H 47 (some (.pointer (some ⟨b,1,none⟩)))=some (.agg ⟨[c1,c2,c3,c4]⟩)/\aA P H 44 (some (.pointer (some ⟨b,5,none⟩)))=some (.agg ⟨[c5,c6,c7,c8,c9,c10]⟩)/\
 aA P H 48 (some (.pointer (some ⟨b,11,none⟩)))=some c11/\aA P H 52 (some (.pointer (some ⟨b,12,none⟩)))=some (.agg ⟨[c12,c13,c14]⟩)/\aA P H 55 (some (.pointer (some ⟨b,15,none⟩)))=some (.agg ⟨[c15,c16]⟩):=
 ⟨aB h sH rfl,cR h jc fJ (by simp),cR h fY dE (by simp),aB h BH rfl,cR h NU NW (by simp),cR h yx mX (by simp)⟩
theorem uX {H:T OB}{b:Nat}{d:bm}(h:dO H b d.cs 57):
 aA P H 3 (some (.pointer (some ⟨b,0,none⟩)))=some (i64 d.k)/\aA P H 47 (some (.pointer (some ⟨b,1,none⟩)))=some d.p.v/\aA P H 44 (some (.pointer (some ⟨b,5,none⟩)))=some d.e.v/\
 aA P H 48 (some (.pointer (some ⟨b,11,none⟩)))=some (vj d.f)/\aA P H 52 (some (.pointer (some ⟨b,12,none⟩)))=some d.x.v/\aA P H 55 (some (.pointer (some ⟨b,15,none⟩)))=some d.c.v:=by
 rw[bm.ia]at h;have:=WX h;rw[bk.bX,aO.bX];exact this
theorem AG {H:T OB}{b:Nat}{f:Fn}(h:dO H b f.cs 65):aA P H 9 (some (.pointer (some ⟨b,0,none⟩)))=some (aK f.s)/\aA P H 42 (some (.pointer (some ⟨b,1,none⟩)))=some (cL f.p)/\aA P H 44 (some (.pointer (some ⟨b,2,none⟩)))=some f.b.v:=by
 rw[Fn.ia]at h;rw[aO.bX];exact⟨aB h oT rfl,aB h lj rfl,cR h fY dE (by simp)⟩
theorem PA {d:bm}{v:Value}(h:zN d v)(H:T OB):aA P H 57 (some (ah v))=some v/\v.cells.toList.length=17/\v.cells.toList.all aC=true:=by
 obtain⟨a1,a2,a3,a4,a5,a6,a7,a8,rfl,h1,h2,h3,h4,h5,h6,h7,h8⟩:=h;refine⟨by kernel_rfl,rfl,?_⟩;have key:∀s l x,ka s l x->aC x=true:=λs l x h=>by rcases h with rfl | ⟨_,rfl⟩<;>rfl
 simp[Value.cells,key _ _ _ h1,key _ _ _ h2,key _ _ _ h3,key _ _ _ h4,key _ _ _ h5,key _ _ _ h6,key _ _ _ h7,key _ _ _ h8]
theorem PB {l:List Value}{v:Value}(h:ka 8 l v):e_ P #[48] 3 (some [v])=some (i64 (l.length:Int)):=by
 rcases h with rfl | ⟨rfl,rfl⟩
 . exact BE _ _ _
 . exact BF _
theorem TD (d q:bm):fo d q=(decide (d.k=q.k)&&(fo d.p q.p&&(fo d.e q.e&&(fo d.c q.c&&(fo d.x q.x&&fo d.f q.f))))):=by
 rw[dk];simp only[ae,jN,decide_eq_true_eq];cases d;cases q;simp only[bm.k,bm.p,bm.e,bm.c,bm.x,bm.f,bm.mk.injEq];exact⟨λ⟨a,b,c,d,e,f⟩=>⟨a,b,c,f,e,d⟩,λ⟨a,b,c,d,e,f⟩=>⟨a,b,c,f,e,d⟩⟩
theorem Zn (d q:Fn):fo d q=(decide (d.s=q.s)&&(fo d.p q.p&&fo d.b q.b)):=by
 rw[dk];simp only[ae,jN,decide_eq_true_eq];cases d;cases q;simp only[Fn.s,Fn.p,Fn.b,Fn.mk.injEq]
theorem abP (l m:List bm)(vs:List Value)(hl:l.length<ei)(hok:∀d,d∈l->d.ok)(hn:vs.length=l.length)(hvs:∀(i:Nat) d v,l[i]? = some d->vs[i]? = some v->zN d v)
 (hE:∀d,d∈l->∀v,vk d.e v->∀q:aO,P0 25 [v,q.v] (.bool (fo d.e q))) (hF:∀d,d∈l->∀f,f∈d.f->∀q:aO,P0 25 [f.b.v,q.v] (.bool (fo f.b q))) (hlm:l.length=m.length) (H1:T OB) (aI:Nat) (hA:Ag nx0 H0 aI H1):
 Wq P pl X0 (.jump (yz (bM 17 vs) (cb m) (i64 ((0:Nat):Int)) H1 aI)) nx0 H0 (.bool (fo l m)):=by
 have:=Wq.zip l m hlm (λi H nx=> .jump (yz (bM 17 vs) (cb m) (i64 (i:Int)) H nx)) true (λH1 aI hA1=> ?_) (λi d q t u H1 aI hg hg2 hlt hA1 ih'=> ?_) H1 aI hA
 . rw[aW]at this;exact this
 . refine Wq.jmp (NZ ..) (λ_=>rfl) ?_;simp only[af,aL,aa,hn,aF];exact Wq.ret hA1
 have hx:vs[i]? = some (vs[i]'(by omega)):=au _;generalize hv0:vs[i]'(by omega)=v at hx;have hv:=hvs i d v hg hx;have hx2:(m.map bm.v)[i]? = some q.v:=by simp[hg2]
 have hd:=ak hg;have ok:=(bm.br d).1 (hok d hd);refine Wq.jmp (NZ ..) (λ_=>rfl) ?_;obtain⟨l1,l2,l3⟩:=PA hv H1;simp only[af,aL,aa,hn,aJ hlt,sG hx,sG hx2,l1];refine Wq.alloc fO hA1 λH2 hb2 _ hA2=> ?_;refine Wq.alloc fO hA2 λH3 hb3 k3 hA3=> ?_;refine Wq.store (k3 _ _ _ (by omega) hb2) gQ (by simp) l2 l3 hA3 (by have:=hA1.1;omega) λH4 hb4 k4 hA4=> ?_;simp only[af,l1,(PA hv H4).1,Y5];refine Wq.store (k4 _ _ _ (by omega) hb3) gQ (by simp) (Pe q) (Pf q) hA4 (by have:=hA1.1;omega) λH5 hb5 k5 hA5=> ?_;have hb1:dO H5 aI v.cells.toList 57:=by
  have:=k5 _ _ _ (by omega) hb4;obtain⟨a1,a2,a3,a4,a5,a6,a7,a8,rfl,_⟩:=hv;exact this
 have hb2:dO H5 (aI+1) q.cs 57:=by
  rw[bm.bX]at hb5;rw[bm.ia];exact hb5
 clear hb5 hb4 hb3 k3 k4 k5;obtain⟨a1,a2,a3,a4,a5,a6,a7,a8,rfl,i1,i2,i3,i4,i5,i6,i7,i8⟩:=hv;have D:=λH' (h:dO H' aI (Value.agg ⟨[i64 d.k,i64 d.p.k,i64 d.p.n,aK d.p.s,a1,i64 d.e.k,i64 d.e.n,aK d.e.s,a2,a3,a4,a5,a6,aK d.x.s,a7,aK d.c.s,a8]⟩).cells.toList 57)=>WX (H:=H') h;have L18:∀H' nx',Ag nx0 H0 nx' H'->fo d q=false->Wq P pl X0 (.jump (oW (bM 17 vs) (cb m) (i64 (i:Int)) (.pointer (some ⟨aI,0,none⟩)) (.pointer (some ⟨aI+1,0,none⟩)) true H' nx')) nx0 H0 (.bool (fo d q&&(fo t u&&true))):=by
  intro H' nx' hA' h;refine Wq.jmp (N0 ..) (λ_=>rfl) ?_;rw[h];exact Wq.ret hA'
 rw[TD]at L18 ⊢;simp only[af,Bw,By,vJ,sE,Bz,BA,(D _ hb1).1,(uX hb2).1];refine Wq.jr (λg1=>L18 _ _ hA5 (by simp[g1])) (λg1=> ?_);rw[show decide (d.k=q.k)=true by simp[g1],ai]at L18 ⊢;simp only[af,(D _ hb1).2.1,(uX hb2).2.1];refine Wq.gZ (WV d.p ok.1 q.p _ ⟨a1,rfl,i1⟩) hA5 λH6 nx6 hA6 n6 k6=> ?_;replace hb1:=k6 _ _ _ (by omega) hb1;replace hb2:=k6 _ _ _ (by omega) hb2;cases g2:fo d.p q.p with
 | false=>rw[g2]at L18;simp only[af];exact L18 _ _ hA6 rfl
 | true=>
 rw[g2,ai]at L18;rw[ai];simp only[af,(D _ hb1).2.2.1,(uX hb2).2.2.1];refine Wq.gZ (hE d hd _ ⟨a2,a3,a4,rfl,i2,i3,i4⟩ q.e) hA6 λH7 nx7 hA7 n7 k7=> ?_;replace hb1:=k7 _ _ _ (by omega) hb1;replace hb2:=k7 _ _ _ (by omega) hb2;cases g3:fo d.e q.e with
 | false=>rw[g3]at L18;simp only[af];exact L18 _ _ hA7 rfl
 | true=>
 rw[g3,ai]at L18;rw[ai];simp only[af,(D _ hb1).2.2.2.1,(uX hb2).2.2.2.1,PB i5,BE,aa];refine Wq.jr (λg4=>L18 _ _ hA7 (by rw[show fo d.f q.f=false from mw λh=>g4 (by rw[h])];simp)) (λg4=> ?_);have hfl:d.f.length=q.f.length:=by omega
 simp only[af,(D _ hb1).2.2.2.2.2,(uX hb2).2.2.2.2.2];refine Wq.gZ (WW d.c q.c ok.2.2.2.2 _ ⟨a8,rfl,i8⟩) hA7 λH8 nx8 hA8 n8 k8=> ?_;replace hb1:=k8 _ _ _ (by omega) hb1;replace hb2:=k8 _ _ _ (by omega) hb2;cases g5:fo d.c q.c with
 | false=>rw[g5]at L18;simp only[af];exact L18 _ _ hA8 rfl
 | true=>
 rw[g5,ai]at L18;rw[ai];simp only[af,(D _ hb1).2.2.2.2.1,(uX hb2).2.2.2.2.1];refine Wq.gZ (abO d.x q.x ok.2.2.2.1 _ ⟨a6,a7,rfl,i6,i7⟩) hA8 λH9 nx9 hA9 n9 k9=> ?_;replace hb1:=k9 _ _ _ (by omega) hb1;replace hb2:=k9 _ _ _ (by omega) hb2;cases g6:fo d.x q.x with
 | false=>rw[g6]at L18;simp only[af];exact L18 _ _ hA9 rfl
 | true=>
 rw[ai];simp only[af];refine Wq.jmp (N0 ..) (λ_=>rfl) ?_;have hn1:nx0<=aI:=hA1.1;have hn9:aI+2<=nx9:=by omega
 clear L18 g1 g2 g3 g4 g5 g6 n6 n7 n8 n9 k6 k7 k8 k9 hA5 hA6 hA7 hA8 hA4 hA3 hA2;refine Wq.aeM (λH nx=>(dO H aI (Value.agg ⟨[i64 d.k,i64 d.p.k,i64 d.p.n,aK d.p.s,a1,i64 d.e.k,i64 d.e.n,aK d.e.s,a2,a3,a4,a5,a6,aK d.x.s,a7,aK d.c.s,a8]⟩).cells.toList 57/\dO H (aI+1) q.cs 57)/\aI+2<=nx) d.f q.f hfl (λj H nx=> .jump (BK (bM 17 vs) (cb m) (i64 (i:Int)) (.pointer (some ⟨aI,0,none⟩)) (.pointer (some ⟨aI+1,0,none⟩)) (i64 (j:Int)) H nx)) _ (λHz nz hI hB1=> ?_) (λj a b t' u' Hz nz kg kg2 klt hI hB1 jh=> ?_) _ _ ⟨⟨hb1,hb2⟩,hn9⟩ hA9
 . refine Wq.jmp (N1 ..) (λ_=>rfl) ?_;simp only[af,sE,(D _ hI.1.1).2.2.2.1,PB i5,aa,aF,az (show i<9223372036854775807 by have:=cv hl;omega)];exact ih' _ _ hB1
 have jx:(d.f.map Fn.v)[j]? = some a.v:=by simp[kg]
 have jx2:(q.f.map Fn.v)[j]? = some b.v:=by simp[kg2]
 have ha:=ak kg;have e5:a5=vj d.f:=by
  rcases i5 with h | ⟨h,_⟩
  . exact h
  . rw[h]at jx;cases jx
 subst e5;have oka:=(Fn.br a).1 (ok.2.2.1.2 a ha);obtain⟨⟨hb1,hb2⟩,hn2⟩:=hI;refine Wq.jmp (N1 ..) (λ_=>rfl) ?_;simp only[af,aL,aa,sE,(D _ hb1).2.2.2.1,(uX hb2).2.2.2.1,aJ klt,oS jx,oS jx2];refine Wq.alloc ki hB1 λH2 hc1 s2 hB2=> ?_;refine Wq.alloc ki hB2 λH3 hc2 s3 hB3=> ?_;replace hb1:=s3 _ _ _ (by omega) (s2 _ _ _ (by omega) hb1);replace hb2:=s3 _ _ _ (by omega) (s2 _ _ _ (by omega) hb2);refine Wq.store (s3 _ _ _ (by omega) hc1) oh (by simp) (nFn a) (oFn a) hB3 (by have:=hB1.1;omega) λH4 hc1 s4 hB4=> ?_;replace hb1:=s4 _ _ _ (by omega) hb1;replace hb2:=s4 _ _ _ (by omega) hb2;simp only[af,lFn,(uX hb2).2.2.2.1];refine Wq.store (s4 _ _ _ (by omega) hc2) oh (by simp) (nFn b) (oFn b) hB4 (by have:=hB1.1;omega) λH5 hc2 s5 hB5=> ?_;replace hb1:=s5 _ _ _ (by omega) hb1;replace hb2:=s5 _ _ _ (by omega) hb2;replace hc1:dO H5 nz a.cs 65:=by
  have:=s5 _ _ _ (by omega) hc1;rw[Fn.bX]at this;rw[Fn.ia];exact this
 replace hc2:dO H5 (nz+1) b.cs 65:=by
  rw[Fn.bX]at hc2;rw[Fn.ia];exact hc2
 clear s2 s3 s4 s5 hB2 hB3 hB4;have M30:∀(r:Bool) H' nx',nz<=nx'->r=fo a b->dO H' aI (Value.agg ⟨[i64 d.k,i64 d.p.k,i64 d.p.n,aK d.p.s,a1,i64 d.e.k,i64 d.e.n,aK d.e.s,a2,a3,a4,vj d.f,a6,aK d.x.s,a7,aK d.c.s,a8]⟩).cells.toList 57->dO H' (aI+1) q.cs 57->Ag nx0 H0 nx' H'->Wq P pl X0 (.jump (yA (bM 17 vs) (cb m) (i64 (i:Int)) (.pointer (some ⟨aI,0,none⟩)) (.pointer (some ⟨aI+1,0,none⟩)) (i64 (j:Int)) (!r) H' nx')) nx0 H0 (.bool (fo a b&&(fo t' u'&&(fo t u&&true)))):=by
  intro r H' nx' hn hr g1 g2 hA';refine Wq.jmp (Yj ..) (λ_=>rfl) ?_;rw[<- hr];cases r with
  | false=>exact Wq.ret hA'
  | true=>
    simp only[af,ai,az (show j<9223372036854775807 by have:=cv ok.2.2.1.1;omega)];exact jh _ _ ⟨⟨g1,g2⟩,by omega⟩ hA'
 have hz:=Zn a b;simp only[af,BB,BC,BD,(AG hc1).1,(AG hc2).1,dL];refine Wq.jr (λg1=>M30 false _ _ (by omega) (by rw[hz];simp[g1]) hb1 hb2 hB5) (λg1=> ?_);simp only[af,(AG hc1).2.1,(AG hc2).2.1];refine Wq.gZ (Py a.p b.p oka.2.1.1 oka.2.1.2) hB5 λH6 nx6 hB6 n6 k6=> ?_;replace hb1:=k6 _ _ _ (by omega) hb1;replace hb2:=k6 _ _ _ (by omega) hb2;replace hc1:=k6 _ _ _ (by omega) hc1;replace hc2:=k6 _ _ _ (by omega) hc2;cases g2:fo a.p b.p with
 | false=>simp only[af];exact M30 false _ _ (by omega) (by rw[hz];simp[g2]) hb1 hb2 hB6
 | true=>
 simp only[af,(AG hc1).2.2,(AG hc2).2.2];refine Wq.gZ (hF d hd a ha b.b) hB6 λH7 nx7 hB7 n7 k7=> ?_;replace hb1:=k7 _ _ _ (by omega) hb1;replace hb2:=k7 _ _ _ (by omega) hb2;simp only[af];exact M30 _ _ _ (by omega) (by rw[hz];simp[g1,g2]) hb1 hb2 hB7
theorem yX (es:List Value)(H:T OB)(nx:Nat)(k:Value->T OB->Nat->Q):gD P 24 (bM 17 es) H nx k=k (bM 17 es) H nx:=by kernel_rfl
theorem WY (l m:List bm)(hl:l.length<ei)(hok:∀d,d∈l->d.ok)(hE:∀d,d∈l->∀v,vk d.e v->∀q:aO,P0 25 [v,q.v] (.bool (fo d.e q)))(hF:∀d,d∈l->∀f,f∈d.f->∀q:aO,P0 25 [f.b.v,q.v] (.bool (fo f.b q))):P0 14 [cb l,cb m] (.bool (fo l m)):=Pure.of rfl λH nx=>by
 rw[q14,yX,yX];simp only[af,aL,aa];refine Wq.jr (λh=> ?_) (λh=> ?_)
 . exact Wq.ij (by rw[mw (λq=>h (by rw[q]))]) (.refl _ _)
 exact abP l m _ hl hok (by simp) (λi d v h1 h2=>by
  rw[bS,h1]at h2;cases h2;exact d.vv) hE hF (by omega) _ _ (.refl _ _)
def lX (e:aO):Prop:=∀(q:aO) (v:Value),vk e v->P0 25 [v,q.v] (.bool (fo e q))
theorem wS:(∀e:aO,e.ok->lX e)/\∀d:bm,d.ok->lX d.e/\∀f,f∈d.f->lX f.b:=by
 have A:∀e:aO,(∀c,c∈e.l->c.ok->lX c)->(∀d,d∈e.d->d.ok->lX d.e/\∀f,f∈d.f->lX f.b)->e.ok->lX e:=λe h1 h2 h q v hv=>by
  have h':=(aO.br e).1 h;exact Zm e q h v hv (λa ha b=>h1 a ha (h'.2.2.1.2 a ha) b _ a.vv) λm=>WY e.d m h'.2.2.2.2.1 h'.2.2.2.2.2 (λd hd v hv q=>(h2 d hd (h'.2.2.2.2.2 d hd)).1 q v hv) λd hd f hf q=>(h2 d hd (h'.2.2.2.2.2 d hd)).2 f hf q _ f.b.vv
 have B:∀d:bm,(d.e.ok->lX d.e)->(∀f,f∈d.f->f.b.ok->lX f.b)->d.ok->lX d.e/\∀f,f∈d.f->lX f.b:=λd h1 h2 h=>by
  have h':=(bm.br d).1 h;exact⟨h1 h'.2.1,λf hf=>h2 f hf ((Fn.br f).1 (h'.2.2.1.2 f hf)).2.2⟩
 exact⟨aO.ind A B,bm.ind A B⟩
theorem PC {b:Nat}{cs:List Value}{H:T OB}{nx:Nat}{R:Value->T OB->Nat->Prop}{k:Value->T OB->Nat->Q}(hb:dO H b cs 57)(hl:cs.length=17)(h:Ag nx0 H0 nx H)(hbn:nx0<=b)
 (hk:∀H',(∀c l e,c≠b->dO H c l e->dO H' c l e)->Ag nx0 H0 (nx+1) H'->e8 P pl X0 (k (bM 17 [.agg ⟨cs⟩]) H' (nx+1)) nx0 H0 R):e8 P pl X0 (gD P 24 (.slice (some ⟨b,0,none⟩) 1 1) H nx k) nx0 H0 R:=by
 refine Wq.VU jT gQ lT rfl hb (by omega) (by rw[av (ax _),gK]) ?_ (by simp[Ev.bK]) h hbn hk;have:=lR 17 [cs] (by simp[hl]);simpa using this
theorem abQ (d q:bm)(hd:d.ok)(v:Value)(hv:zN d v)(b1 b2:Nat)(hne:b1≠b2)(H:T OB)(nx:Nat)(h1:dO H b1 v.cells.toList 57)(h2:dO H b2 q.cs 57)(n1:nx0<=b1)(n2:nx0<=b2)(hA:Ag nx0 H0 nx H):
 Wq P pl X0 (aX P pl (.call 14 [.slice (some ⟨b1,0,none⟩) 1 1,.slice (some ⟨b2,0,none⟩) 1 1] false none H nx)) nx0 H0 (.bool (fo d q)):=by
 have e0:fo d q=fo [d] [q]:=m4 (by simp);have hv17:=(PA hv H).2.1;rw[q14,e0];refine PC h1 hv17 hA n1 λH1 k1 hA1=> ?_;refine PC (k1 _ _ _ (λq=>hne q.symm) h2) (by rw[bm.ia];rfl) hA1 n2 λH2 k2 hA2=> ?_;simp only[af,GG,ao,Int.reduceEq,decide_true,cM];have ev:(Value.agg ⟨v.cells.toList⟩)=v:=by
  obtain⟨a1,a2,a3,a4,a5,a6,a7,a8,rfl,_⟩:=hv;rfl
 rw[ev];have hb:=wS.2 d hd;exact abP [d] [q] [v] (show 1<ei by decide) (λc hc=>by rw[aP.1 hc];exact hd) rfl (λi c w h3 h4=>by
  cases i with
  | zero=>cases h3;cases h4;exact hv
  | succ i=>cases h3) (λc hc w hw q=>by rw[aP.1 hc]at hw ⊢;exact hb.1 q w hw) (λc hc f hf q=>by rw[aP.1 hc]at hf;exact hb.2 f hf q _ f.b.vv) rfl _ _ hA2
end
section
variable {nx0:Nat}{H0:T OB}
theorem C6 (c:UInt8)(lo hi:Nat):P0 144 [b8 c,.int .u8 (lo:Int),.int .u8 (hi:Int)] (.bool (decide (lo<=c.toNat)&&decide (c.toNat<=hi))):=Pure.of rfl λH nx=>by
 rw[aea];simp only[af];have e1:decide ((lo:Int)<=(c.toNat:Int))=decide (lo<=c.toNat):=by rw[decide_eq_decide];omega
 have e2:decide ((c.toNat:Int)<=(hi:Int))=decide (c.toNat<=hi):=by rw[decide_eq_decide];omega
 rw[e1];refine Wq.bK (λh=> ?_) (λh=> ?_)
 . rw[h,ai,<- e2];exact Wq.ret (.refl _ _)
 . rw[h,aE];exact Wq.ret (.refl _ _)
theorem G6 (c:UInt8):P0 144 [b8 c,.int .u8 97,.int .u8 122] (.bool (cV c)):=C6 c 97 122
theorem C7 (c:UInt8):P0 144 [b8 c,.int .u8 65,.int .u8 90] (.bool (cX c)):=C6 c 65 90
theorem C8 (c:UInt8):P0 144 [b8 c,.int .u8 48,.int .u8 57] (.bool (cu c)):=C6 c 48 57
theorem PD (c:UInt8):decide ((c.toNat:Int)=39)=decide (c.toNat=39):=by rw[decide_eq_decide];omega
theorem abR (c:UInt8):decide ((c.toNat:Int)=95)=decide (c.toNat=95):=by rw[decide_eq_decide];omega
theorem PF (c:UInt8):P0 156 [b8 c] (.bool (kB c)):=Pure.of rfl λH nx=>by
 rw[ael];unfold kB;refine Wq.call (G6 c) (.refl _ _) λH1 aI hA1=> ?_;simp only[af,PD,abR];refine Wq.bK (λh=>by rw[h,gL];exact Wq.ret hA1) (λh=> ?_);rw[h,bG];refine Wq.call (C7 c) hA1 λH2 nx2 hA2=> ?_;simp only[af];refine Wq.bK (λh=>by rw[h,gL];exact Wq.ret hA2) (λh=> ?_);rw[h,bG];refine Wq.call (C8 c) hA2 λH3 nx3 hA3=> ?_;simp only[af];refine Wq.bK (λh=>by rw[h,gL];exact Wq.ret hA3) (λh=> ?_);rw[h,bG];refine Wq.bK (λh=>by rw[h,gL];exact Wq.ret hA3) (λh=> ?_);rw[h,bG];exact Wq.ret hA3
theorem WZ (l:List (List UInt8))(hl:l.length<ei)(s:List UInt8):∀(r:List (List UInt8)) (i:Nat) (H:T OB) (nx:Nat),l.drop i=r->i<=l.length->Ag nx0 H0 nx H->Wq P pl X0 (.jump (CG (kl l) (aK s) (i64 (i:Int)) H nx)) nx0 H0 (.bool (r.contains s)):=by
 intro r
 induction r with
 | nil=>
   intro i H nx hd hi hA;have hil:=drop_nil hd hi;refine Wq.jmp (OP ..) (λ_=>rfl) ?_;simp only[af,aL,aa,hil,aF];exact Wq.ret hA
 | cons x r ih=>
   intro i H nx hd hi hA;obtain⟨hg,hlt,hd'⟩:=drop_cons hd;have hg':(l.map aK)[i]? = some (aK x):=by simp[hg]
   refine Wq.jmp (OP ..) (λ_=>rfl) ?_;simp only[af,aL,aa,aJ hlt,yr hg',dL,az (show i<9223372036854775807 by have:=cv hl;omega)];refine Wq.ite (λh=> ?_) (λh=> ?_)
   . exact Wq.ij (by subst h;simp) hA
   . have:((x::r).contains s)=r.contains s:=by rw[jX,show(s == x)=false from by simp;exact λq=>h q.symm,bG]
     rw[this];exact ih (i+1) H nx hd' (by omega) hA
theorem abS (es:List Value)(H:T OB)(nx:Nat)(k:Value->T OB->Nat->Q):gD P 49 (bM 1 es) H nx k=k (bM 1 es) H nx:=by kernel_rfl
theorem G7 (l:List (List UInt8))(hl:l.length<ei)(s:List UInt8):P0 115 [kl l,aK s] (.bool (l.contains s)):=Pure.of rfl λH nx=>by
 rw[abp,abS];exact WZ l hl s l 0 H nx rfl (aN _) (.refl _ _)
theorem sT:dD P 9=some [.string ⟨⟨[]⟩⟩]:=by kernel_rfl
theorem Wq.XB {b n:Nat}{l:List (List UInt8)}{H:T OB}{nx:Nat}{R:Value->T OB->Nat->Prop}{k:Value->T OB->Nat->Q}(hb:dO H b (l.map aK) 9)(hl:l.length=n)(h:Ag nx0 H0 nx H)(hbn:nx0<=b)
 (hk:∀H',(∀c l e,c≠b->dO H c l e->dO H' c l e)->Ag nx0 H0 (nx+1) H'->e8 P pl X0 (k (kl l) H' (nx+1)) nx0 H0 R):e8 P pl X0 (gD P 49 (.slice (some ⟨b,0,none⟩) n n) H nx k) nx0 H0 R:=by
 subst hl;have hch:chunk false 1 l.length (l.map aK)=some (l.map aK):=by
  have:=mo (l.map aK);rwa[aa]at this
 exact Wq.VU mI lU oT rfl hb (by simp) (by rw[av (ax _),gK]) hch (by simp[Ev.bK]) h hbn hk
theorem Zo:Instr.fill (λi=>some (i*1,1)) (cI [Value.string ⟨⟨[]⟩⟩] (26*1)) [(0,(.string ⟨⟨[97,110,100]⟩⟩)),(1,(.string ⟨⟨[97,110,100,97,108,115,111]⟩⟩)),(2,(.string ⟨⟨[99,97,115,101]⟩⟩)),(3,(.string ⟨⟨[100,97,116,97,116,121,112,101]⟩⟩)),(4,(.string ⟨⟨[100,105,118]⟩⟩)),(5,(.string ⟨⟨[101,108,115,101]⟩⟩)),(6,(.string ⟨⟨[101,110,100]⟩⟩)),(7,(.string ⟨⟨[101,120,99,101,112,116,105,111,110]⟩⟩)),(8,(.string ⟨⟨[102,110]⟩⟩)),(9,(.string ⟨⟨[102,117,110]⟩⟩)),(10,(.string ⟨⟨[104,97,110,100,108,101]⟩⟩)),(11,(.string ⟨⟨[105,102]⟩⟩)),(12,(.string ⟨⟨[105,110]⟩⟩)),(13,(.string ⟨⟨[105,116,111,115]⟩⟩)),(14,(.string ⟨⟨[108,101,116]⟩⟩)),(15,(.string ⟨⟨[109,111,100]⟩⟩)),(16,(.string ⟨⟨[110,111,116]⟩⟩)),(17,(.string ⟨⟨[111,102]⟩⟩)),(18,(.string ⟨⟨[111,114,100]⟩⟩)),(19,(.string ⟨⟨[111,114,101,108,115,101]⟩⟩)),(20,(.string ⟨⟨[114,97,105,115,101]⟩⟩)),(21,(.string ⟨⟨[114,101,102]⟩⟩)),(22,(.string ⟨⟨[115,105,122,101]⟩⟩)),(23,(.string ⟨⟨[115,116,114]⟩⟩)),(24,(.string ⟨⟨[116,104,101,110]⟩⟩)),(25,(.string ⟨⟨[118,97,108]⟩⟩))]=some ⟨kj.map aK⟩:=by kernel_rfl
theorem Zp:P0 157 [] (kl kj):=Pure.of rfl λH nx=>by
 rw[aem];refine Wq.row mI lU sT rfl (Zo) (.refl _ _) λH1 hb1 _ hA1=> ?_;refine Wq.XB (l:=kj) hb1 rfl hA1 (ax _) λH2 _ hA2=> ?_;exact Wq.ret hA2
theorem Zq:Instr.fill (λi=>some (i*1,1)) (cI [Value.string ⟨⟨[]⟩⟩] (22*1)) [(0,(.string ⟨⟨[45,62]⟩⟩)),(1,(.string ⟨⟨[61,62]⟩⟩)),(2,(.string ⟨⟨[58,58]⟩⟩)),(3,(.string ⟨⟨[58,61]⟩⟩)),(4,(.string ⟨⟨[60,61]⟩⟩)),(5,(.string ⟨⟨[62,61]⟩⟩)),(6,(.string ⟨⟨[60,62]⟩⟩)),(7,(.string ⟨⟨[61]⟩⟩)),(8,(.string ⟨⟨[60]⟩⟩)),(9,(.string ⟨⟨[62]⟩⟩)),(10,(.string ⟨⟨[43]⟩⟩)),(11,(.string ⟨⟨[45]⟩⟩)),(12,(.string ⟨⟨[42]⟩⟩)),(13,(.string ⟨⟨[94]⟩⟩)),(14,(.string ⟨⟨[33]⟩⟩)),(15,(.string ⟨⟨[126]⟩⟩)),(16,(.string ⟨⟨[40]⟩⟩)),(17,(.string ⟨⟨[41]⟩⟩)),(18,(.string ⟨⟨[44]⟩⟩)),(19,(.string ⟨⟨[59]⟩⟩)),(20,(.string ⟨⟨[124]⟩⟩)),(21,(.string ⟨⟨[95]⟩⟩))]=some ⟨bB.map aK⟩:=by kernel_rfl
theorem Zr:P0 116 [] (kl bB):=Pure.of rfl λH nx=>by
 rw[adU];refine Wq.row mI lU sT rfl (Zq) (.refl _ _) λH1 hb1 _ hA1=> ?_;refine Wq.XB (l:=bB) hb1 rfl hA1 (ax _) λH2 _ hA2=> ?_;exact Wq.ret hA2
theorem Zs:Instr.fill (λi=>some (i*1,1)) (cI [Value.string ⟨⟨[]⟩⟩] (8*1)) [(0,(.string ⟨⟨[126]⟩⟩)),(1,(.string ⟨⟨[33]⟩⟩)),(2,(.string ⟨⟨[110,111,116]⟩⟩)),(3,(.string ⟨⟨[114,101,102]⟩⟩)),(4,(.string ⟨⟨[115,105,122,101]⟩⟩)),(5,(.string ⟨⟨[115,116,114]⟩⟩)),(6,(.string ⟨⟨[111,114,100]⟩⟩)),(7,(.string ⟨⟨[105,116,111,115]⟩⟩))]=some ⟨fh.map aK⟩:=by kernel_rfl
theorem Zt:P0 142 [] (kl fh):=Pure.of rfl λH nx=>by
 rw[ad8];refine Wq.row mI lU sT rfl (Zs) (.refl _ _) λH1 hb1 _ hA1=> ?_;refine Wq.XB (l:=fh) hb1 rfl hA1 (ax _) λH2 _ hA2=> ?_;exact Wq.ret hA2
def lY:List (List UInt8):=[[111,114,101,108,115,101],[97,110,100,97,108,115,111],[58,61],[61],[60,62],[60],[60,61],[62],[62,61],[58,58],[43],[45],[94],[42],[100,105,118],[109,111,100]]
theorem TF:Instr.fill (λi=>some (i*1,1)) (cI [Value.string ⟨⟨[]⟩⟩] (16*1)) [(0,(.string ⟨⟨[111,114,101,108,115,101]⟩⟩)),(1,(.string ⟨⟨[97,110,100,97,108,115,111]⟩⟩)),(2,(.string ⟨⟨[58,61]⟩⟩)),(3,(.string ⟨⟨[61]⟩⟩)),(4,(.string ⟨⟨[60,62]⟩⟩)),(5,(.string ⟨⟨[60]⟩⟩)),(6,(.string ⟨⟨[60,61]⟩⟩)),(7,(.string ⟨⟨[62]⟩⟩)),(8,(.string ⟨⟨[62,61]⟩⟩)),(9,(.string ⟨⟨[58,58]⟩⟩)),(10,(.string ⟨⟨[43]⟩⟩)),(11,(.string ⟨⟨[45]⟩⟩)),(12,(.string ⟨⟨[94]⟩⟩)),(13,(.string ⟨⟨[42]⟩⟩)),(14,(.string ⟨⟨[100,105,118]⟩⟩)),(15,(.string ⟨⟨[109,111,100]⟩⟩))]=some ⟨lY.map aK⟩:=by kernel_rfl
theorem PG (s:List UInt8)(hl:s.length<ei):∀(r:List UInt8) (i:Nat) (H:T OB) (nx:Nat),s.drop i=r->i<=s.length->Ag nx0 H0 nx H->Wq P pl X0 (.jump (vT (aK s) (i64 (i:Int)) H nx)) nx0 H0 (.bool (r.all kB)):=by
 intro r
 induction r with
 | nil=>
   intro i H nx hd hi hA;have hil:=drop_nil hd hi;refine Wq.jmp (J2 ..) (λ_=>rfl) ?_;simp only[af,aV _ bq,aT,hil,aF];exact Wq.ret hA
 | cons c r ih=>
   intro i H nx hd hi hA;obtain⟨hg,hlt,hd'⟩:=drop_cons hd;refine Wq.jmp (J2 ..) (λ_=>rfl) ?_;simp only[af,aV _ bq,aT,aJ hlt,bF bq hg];refine Wq.call (PF c) hA λH1 aI hA1=> ?_;simp only[af];rw[cW];cases kB c with
   | false=>exact Wq.ret hA1
   | true=>
     simp only[af,az (show i<9223372036854775807 by have:=cv hl;omega),ai];exact ih (i+1) H1 aI hd' (by omega) hA1
theorem TG (a:UInt8)(r:List UInt8):eB P 9 (some (aK (a::r))) (some (.int .i64 0))=some (b8 a):=by
 have:=bF (P:=P) bq (l:=a::r) (i:=0) (c:=a) rfl .i64;exact this
theorem ix1 (a b:UInt8)(r:List UInt8):eB P 9 (some (aK (a::b::r))) (some (.int .i64 1))=some (b8 b):=bF (P:=P) bq (l:=a::b::r) (i:=1) (c:=b) rfl .i64
theorem ix2 (a b c:UInt8)(r:List UInt8):eB P 9 (some (aK (a::b::c::r))) (some (.int .i64 2))=some (b8 c):=bF (P:=P) bq (l:=a::b::c::r) (i:=2) (c:=c) rfl .i64
theorem ix3 (a b c d:UInt8)(r:List UInt8):eB P 9 (some (aK (a::b::c::d::r))) (some (.int .i64 3))=some (b8 d):=bF (P:=P) bq (l:=a::b::c::d::r) (i:=3) (c:=d) rfl .i64
theorem Ky (a:UInt8)(r:List UInt8):decide (a::r=[])=false:=by simp
theorem Zu (s:List UInt8)(hl:s.length<ei):P0 112 [aK s] (.bool (isWord s)):=Pure.of rfl λH nx=>by
 rw[adR];cases s with
 | nil=>
   simp only[af,dL];refine Wq.jmp (ON ..) (λ_=>rfl) ?_;exact Wq.ret (.refl _ _)
 | cons a r=>
   have L6:∀(b:Bool) H1 aI,Ag nx H aI H1->b= !(cV a||cX a)->Wq P pl X0 (.jump (yM (aK (a::r)) b H1 aI)) nx H (.bool (isWord (a::r))):=by
    intro b H1 aI hA1 hb;refine Wq.jmp (ON ..) (λ_=>rfl) ?_;show Wq P pl X0 _ nx H (.bool ((cV a||cX a)&&r.all kB));cases hx:cV a||cX a with
    | true=>rw[hx]at hb;rw[hb,ai];exact PG (a::r) hl r 1 H1 aI rfl (by simp) hA1
    | false=>rw[hx]at hb;rw[hb,aE];exact Wq.ret hA1
   simp only[af,dL,Ky,TG];refine Wq.call (G6 a) (.refl _ _) λH1 aI hA1=> ?_;simp only[af];cases oJ:cV a with
   | true=>simp only[af];exact L6 false _ _ hA1 (by rw[oJ];rfl)
   | false=>
     simp only[af];refine Wq.call (C7 a) hA1 λH2 nx2 hA2=> ?_;simp only[af];exact L6 _ _ _ hA2 (by rw[oJ,bG])
theorem PH (s:List UInt8)(hl:s.length<ei):∀(r:List UInt8) (i:Nat) (H:T OB) (nx:Nat),s.drop i=r->i<=s.length->Ag nx0 H0 nx H->Wq P pl X0 (.jump (vU (aK s) (i64 (i:Int)) H nx)) nx0 H0 (.bool (r.all λc=> !decide (c.toNat=39)&&kB c)):=by
 intro r
 induction r with
 | nil=>
   intro i H nx hd hi hA;have hil:=drop_nil hd hi;refine Wq.jmp (J3 ..) (λ_=>rfl) ?_;simp only[af,aV _ bq,aT,hil,aF];exact Wq.ret hA
 | cons c r ih=>
   intro i H nx hd hi hA;obtain⟨hg,hlt,hd'⟩:=drop_cons hd;have L16:∀(b:Bool) H1 aI,Ag nx0 H0 aI H1->b= !(!decide (c.toNat=39)&&kB c)->Wq P pl X0 (.jump (vV (aK s) (i64 (i:Int)) b H1 aI)) nx0 H0 (.bool ((c::r).all λc=> !decide (c.toNat=39)&&kB c)):=by
    intro b H1 aI hA1 hb;refine Wq.jmp (SI ..) (λ_=>rfl) ?_;rw[cW];cases hx:(!decide (c.toNat=39)&&kB c)with
    | false=>rw[hx]at hb;rw[hb,aE];exact Wq.ret hA1
    | true=>
      rw[hx]at hb;rw[hb,ai];simp only[af,az (show i<9223372036854775807 by have:=cv hl;omega)];exact ih (i+1) H1 aI hd' (by omega) hA1
   refine Wq.jmp (J3 ..) (λ_=>rfl) ?_;simp only[af,aV _ bq,aT,aJ hlt,bF bq hg,PD];refine Wq.bK (λh=>L16 _ _ _ hA (by rw[h];rfl)) (λh=> ?_);refine Wq.call (PF c) hA λH1 aI hA1=> ?_;simp only[af];exact L16 _ _ _ hA1 (by rw[h];rfl)
theorem Zv (s:List UInt8)(hl:s.length<ei):P0 114 [aK s] (.bool (isVar s)):=Pure.of rfl λH nx=>by
 rw[adT];have L6t:∀H1 aI,Ag nx H aI H1->isVar s=false->Wq P pl X0 (.jump (yN (aK s) true H1 aI)) nx H (.bool (isVar s)):=by
  intro H1 aI hA1 h;refine Wq.jmp (OO ..) (λ_=>rfl) ?_;rw[h];exact Wq.ret hA1
 match s with
 | []=>simp only[af,aV _ bq,aT];exact L6t _ _ (.refl _ _) rfl
 | [a]=>simp only[af,aV _ bq,aT,ao];exact L6t _ _ (.refl _ _) rfl
 | a::b::r=>
   have e2:decide (((a::b::r).length:Int)<2)=false:=by simp;omega
   simp only[af,aV _ bq,aT,e2,TG,PD];have hv:isVar (a::b::r)=(decide (a.toNat=39)&&(cV b&&r.all λc=> !decide (c.toNat=39)&&kB c)):=rfl;cases ha:decide (a.toNat=39)with
   | false=>simp only[af];exact L6t _ _ (.refl _ _) (by rw[hv,ha];rfl)
   | true=>
     simp only[af,ix1];refine Wq.call (G6 b) (.refl _ _) λH1 aI hA1=> ?_;simp only[af];cases hb:cV b with
     | false=>exact L6t _ _ hA1 (by rw[hv,hb];simp)
     | true=>
       refine Wq.jmp (OO ..) (λ_=>rfl) ?_;rw[hv,ha,hb,ai,ai];exact PH (a::b::r) hl r 2 H1 aI rfl (by simp) hA1
def PJ (s:List UInt8):Int:=if kj.contains s=true then 6 else if(lH s||(decide (s=[116,114,117,101])||(decide (s=[102,97,108,115,101])||decide (s=[110,105,108]))))=true then 4 else 3
theorem PK (s:List UInt8):PJ s=iA s:=by
 unfold PJ iA;have key:kj.contains s=true->(lH s||(decide (s=[116,114,117,101])||(decide (s=[102,97,108,115,101])||decide (s=[110,105,108]))))=false:=by
  intro h;have hm:s∈kj:=by simpa using h
  have:∀k∈kj,(lH k||(decide (k=[116,114,117,101])||(decide (k=[102,97,108,115,101])||decide (k=[110,105,108]))))=false:=by decide
  exact this s hm
 by_cases h:kj.contains s=true
 . rw[if_pos h,key h,if_neg (by decide),if_pos h]
 . rw[if_neg h,if_neg h]
theorem Zw (a:UInt8)(r:List UInt8):P0 113 [aK (a::r)] (i64 (iA (a::r))):=Pure.of rfl λH nx=>by
 rw[adS,<- PK];refine Wq.call Zp (.refl _ _) λH1 aI hA1=> ?_;refine Wq.call (G7 kj (by decide) (a::r)) hA1 λH2 nx2 hA2=> ?_;unfold PJ;simp only[af];refine Wq.bK (λh=>by rw[if_pos h];exact Wq.ret hA2) (λh=> ?_);rw[if_neg (by rw[h];decide)];have L10:∀(b:Bool) H1 aI,Ag nx H aI H1->b=(cX a||(decide (a::r=[116,114,117,101])||(decide (a::r=[102,97,108,115,101])||decide (a::r=[110,105,108]))))->Wq P pl X0 (.jump (p6 b H1 aI)) nx H (i64 (if(lH (a::r)||(decide (a::r=[116,114,117,101])||(decide (a::r=[102,97,108,115,101])||decide (a::r=[110,105,108]))))=true then 4 else 3)):=by
  intro b H1 aI hA1 hb;refine Wq.jmp (SH ..) (λ_=>rfl) ?_;show Wq P pl X0 _ nx H (i64 (if(cX a||(decide (a::r=[116,114,117,101])||(decide (a::r=[102,97,108,115,101])||decide (a::r=[110,105,108]))))=true then 4 else 3));rw[<- hb];cases b
  . exact Wq.ret hA1
  . exact Wq.ret hA1
 simp only[af,TG];refine Wq.call (C7 a) hA2 λH3 nx3 hA3=> ?_;simp only[af,dL];refine Wq.bK (λh=>L10 _ _ _ hA3 (by rw[h];rfl)) (λh0=> ?_);refine Wq.bK (λh=>L10 _ _ _ hA3 (by rw[h0,h];rfl)) (λh1=> ?_);refine Wq.bK (λh=>L10 _ _ _ hA3 (by rw[h0,h1,h];rfl)) (λh2=> ?_);exact L10 _ _ _ hA3 (by rw[h0,h1,h2];rfl)
end
section
variable {nx0:Nat}{H0:T OB}
def first(s:List UInt8)(n:Nat):Bool:=match s with
 | []=>false
 | c::_=>decide (c.toNat=n)
def jd (s:List UInt8):Bool:=match s with
 | []=>false
 | c::_=>cu c
theorem PM:P.underlying 2=some (.int .i64):=by kernel_rfl
theorem Kz:P.underlying 3=some (.int .i64):=by kernel_rfl
theorem qN:P.underlying 5=some (.int .u8):=by kernel_rfl
theorem ik:dD P 5=some [.int .u8 0]:=by kernel_rfl
theorem G8 (H:T OB)(k:IntKind)(n:Int):ec P H 5 2 (some (.int k n))=some (i64 (IntKind.i64.wrap n)):=kN qN PM
theorem G9 (H:T OB)(k:IntKind)(n:Int):ec P H 5 3 (some (.int k n))=some (i64 (IntKind.i64.wrap n)):=kN qN Kz
theorem PN (H:T OB)(n:Int):ec P H 3 5 (some (i64 n))=some (.int .u8 (IntKind.u8.wrap n)):=kN Kz qN
theorem PO (H:T OB)(a:Int):dx P H .quo 2 true (some (i64 a)) (some (i64 10))=some (i64 (IntKind.i64.wrap (a.tdiv 10))):=lG _ _ _ _ _ (by decide)
theorem wrap_u8 (n:Int):IntKind.u8.wrap n=n%256:=by
 unfold IntKind.wrap;simp[IntKind.bits,IntKind.signed]
end
section
variable {nx0:Nat}{H0:T OB}
theorem gG {H:T OB}{l:List UInt8}{lo:Nat}(h1:lo<=l.length):cw P H 9 (some (aK l)) (some (some (i64 (lo:Int)))) (some none) (some none)=some (aK (l.drop lo)):=by
 show tz P 9 (aK l) (some (some (i64 (lo:Int)))) (some none) (some none)=_;show fV P (Instr.sliceAt 9 (aK l) (some (i64 (lo:Int))) none none)=_;have e0:(⟨⟨l⟩⟩:ByteArray).extract lo l.length=⟨⟨l.drop lo⟩⟩:=by
  apply ByteArray.ext;rw[ByteArray.data_extract];apply eU;simp[fl]
 have e1:dW P (Instr.sliceAt 9 (aK l) (some (i64 (lo:Int))) none none)=some (aK (l.drop lo)):=by
  unfold Instr.sliceAt;simp only[cB,eW bq,ba];unfold Instr.slice;simp only[cB,eW bq,ba];unfold Instr.sliceBounds Instr.sliceBound;simp only[cB,asIntOf,iL];have pp:∀{α:Type} (a:α),dW P (pure a:Sem α)=some a:=λ_=>rfl;rw[if_neg (by decide)];simp only[cB,pp,ba];have c2:(0:Int)<=(lo:Int)/\(lo:Int)<=((⟨⟨l⟩⟩:ByteArray).size:Int):=⟨by omega,by rw[aT];omega⟩;rw[if_pos c2];simp only[pp,ba,Int.toNat_natCast,aT,e0]
 exact ue e1 rfl
theorem BS.dZ {nx0:Nat}{e:TypeId}{nx nx':Nat}{H H':T OB}{r:List UInt8}{sl:Value}(h:BS e nx0 H nx r sl)(hn:nx<=nx')(hk:∀b l e,b<nx->dO H b l e->dO H' b l e):BS e nx0 H' nx' r sl:=by
 rcases h with h | ⟨b,c,h1,h2,h3,h4,h5⟩
 . exact .inl h
 . exact .inr ⟨b,c,h1,by omega,hk _ _ _ h2 h3,h4,h5⟩
theorem aeN (n:Nat):da P 5 1 n=(bj n 1048576&&true):=by kernel_rfl
theorem j4 {n:Nat}(h:n<=1048576):da P 5 1 n=true:=by rw[aeN,av h];rfl
theorem Zx (c:UInt8):Instr.fill (λi=>some (i*1,1)) (cI [Value.int .u8 0] (1*1)) [(0,b8 c)]=some ⟨kM [c]⟩:=by kernel_rfl
theorem C9:iy P 120 9=true:=by kernel_rfl
theorem nN {s:List UInt8}(h:isWord s=true):jd s=false/\first s 34=false/\first s 39=false:=by
 cases s with
 | nil=>cases h
 | cons a r=>
   have:(cV a||cX a)=true:=by
    have h':((cV a||cX a)&&r.all kB)=true:=h;rw[ae]at h';exact h'.1
   unfold cV cX at this;unfold jd first cu
   simp only[bl,ae,decide_eq_true_eq,decide_eq_false_iff_not,Bool.and_eq_false_iff]at this ⊢;omega
theorem o4 {s:List UInt8}(h:isVar s=true):jd s=false/\first s 34=false/\first s 39=true:=by
 match s with
 | []=>cases h
 | [_]=>cases h
 | a::b::r=>
   have h':(decide (a.toNat=39)&&(cV b&&r.all λc=> !decide (c.toNat=39)&&kB c))=true:=h;rw[ae,decide_eq_true_eq]at h';unfold jd first cu
   simp only[ae,decide_eq_true_eq,decide_eq_false_iff_not,Bool.and_eq_false_iff];omega
theorem PQ (s:List UInt8):iA s=3\/iA s=4\/iA s=6:=by
 unfold iA;split
 . exact .inr (.inl rfl)
 . split
   . exact .inr (.inr rfl)
   . exact .inl rfl
def ee (k:Int)(s:List UInt8):Bool:=cP ⟨k,s,0,0⟩
theorem wT (n:Int):cA P 31 (some [(0,i64 1),(2,i64 n)])=some (Tok.v ⟨1,[],n,0⟩):=cf ek (by kernel_rfl)
theorem gH (k:Int)(s:List UInt8):cA P 31 (some [(0,i64 k),(1,aK s)])=some (Tok.v ⟨k,s,0,0⟩):=cf ek (by kernel_rfl)
end
def tx (u:Nat)(s:List UInt8):List UInt8:=if u<10 then(48+u).toUInt8::s else tx (u/10) ((48+u%10).toUInt8::s)
termination_by u
decreasing_by omega
theorem yY (k:Nat):∀(u:Nat) (s:List UInt8),u<10^(k+1)->(tx u s).length<=s.length+k+1/\s.length<(tx u s).length:=by
 induction k with
 | zero=>
   intro u s h;rw[tx,if_pos (by simpa using h)];simp
 | succ k ih=>
   intro u s h;rw[tx];split
   . simp
   . have:=ih (u/10) ((48+u%10).toUInt8::s) (by rw[Nat.div_lt_iff_lt_mul (by omega)];rw[Nat.pow_succ]at h;omega);simp only[ao]at this ⊢;omega
def uh (n:Int):List UInt8:=if n<0 then 45::tx n.natAbs []else tx n.natAbs []
theorem yZ (n:Int)(h: -9223372036854775808<=n/\n<9223372036854775808):(uh n).length<=20:=by
 have:=(yY 18 n.natAbs [] (by have:(10:Nat)^(18+1)=10000000000000000000:=by decide
                              omega)).1
 unfold uh;split<;>simp only[ao,c_]at this ⊢ <;> omega
theorem p19:(10:Nat)^(18+1)=10000000000000000000:=by decide
theorem aeO:(10:Nat)^19=10000000000000000000:=by decide
theorem W0 (a0:Int):Instr.fill (λi=>some (i*1,1)) (cI [.int .u8 0] (1*1)) [(0,.int .u8 a0)]=some ⟨[.int .u8 a0]⟩:=by kernel_rfl
theorem fb2 (a0 a1:Int):Instr.fill (λi=>some (i*1,1)) (cI [.int .u8 0] (2*1)) [(0,.int .u8 a0),(1,.int .u8 a1)]=some ⟨[.int .u8 a0,.int .u8 a1]⟩:=by kernel_rfl
theorem fb4 (a0 a1 a2 a3:Int):Instr.fill (λi=>some (i*1,1)) (cI [.int .u8 0] (4*1)) [(0,.int .u8 a0),(1,.int .u8 a1),(2,.int .u8 a2),(3,.int .u8 a3)]=some ⟨[.int .u8 a0,.int .u8 a1,.int .u8 a2,.int .u8 a3]⟩:=by kernel_rfl
theorem KA:P.underlying 167=some (.int .u64):=by kernel_rfl
theorem KB:P.underlying 168=some (.array 20 5):=by kernel_rfl
theorem qh:iy P 120 9=true:=by kernel_rfl
theorem PU (H:T OB)(n:Int):ec P H 2 167 (some (i64 n))=some (.int .u64 (IntKind.u64.wrap n)):=kN PM KA
theorem Fg (H:T OB)(n:Int):ec P H 167 5 (some (.int .u64 n))=some (.int .u8 (IntKind.u8.wrap n)):=kN KA qN
theorem Zy (H:T OB)(n:Int):ec P H 2 5 (some (i64 n))=some (.int .u8 (IntKind.u8.wrap n)):=kN PM qN
theorem wrap_u64 (n:Int):IntKind.u64.wrap n=n%18446744073709551616:=by
 unfold IntKind.wrap;simp[IntKind.bits,IntKind.signed]
theorem C_ {b off i:Nat}(h:i<20)(k:IntKind):cq P 168 (some (.pointer (some ⟨b,off,none⟩))) (some (.int k (i:Int)))=some (.pointer (some ⟨b,off+i,none⟩)):=by
 have:=E4 (P:=P) (b:=b) (off:=off) KB jq h k;rwa[jk]at this
theorem Zz {H:T OB}{b off i:Nat}(h:i<20)(k:IntKind):cw P H 168 (some (.pointer (some ⟨b,off,none⟩))) (some (some (.int k (i:Int)))) (some none) (some none)=some (.slice (some ⟨b,off+i,none⟩) (20-i) (20-i)):=by
 have:=E5 (P:=P) (H:=H) (b:=b) (off:=off) KB jq h (by omega) k;rwa[jk]at this
def FW (r:List UInt8):List Value:=List.replicate (20-r.length) (.int .u8 0)++kM r
theorem wU (d:UInt8)(r:List UInt8)(h:r.length<20):(FW r).set (19-r.length) (.int .u8 d.toNat)=FW (d::r):=by
 unfold FW;rw[List.set_append_left _ _ (by simp;omega)];have e1:20-r.length=(19-r.length)+1:=by omega
 rw[e1,List.replicate_succ',List.set_append_right _ _ (by simp)];simp only[List.length_replicate,Nat.sub_self,List.set_cons_zero,ao];rw[show 20-(r.length+1)=19-r.length from by omega];simp[kM]
theorem lZ (r:List UInt8)(h:r.length<=20):(FW r).length=20:=by simp[FW];omega
theorem wV {nx0:Nat}{H0:T OB}{nx b:Nat}{H:T OB}(r:List UInt8)(hr:0<r.length/\r.length<=20)(hA:Ag nx0 H0 nx H)(hb:dO H b (FW r) 168):
 Wq P pl X0 (.jump (Cr (.pointer (some ⟨b,0,none⟩)) (i64 ((20-r.length:Nat):Int)) H nx)) nx0 H0 (aK r):=by
 refine Wq.jmp (YI ..) (λ_=>rfl) ?_;rw[Zz (by omega),aZ,uf qh hb (by rw[lZ r hr.2];omega) (r:=r),aZ]
 . exact Wq.ret hA
 . unfold FW;rw[bN,List.drop_left' (by simp)];rw[fl (by simp;omega)]
def my (n:Int):List UInt8:=if n<0 then[45]else[]
theorem PV (n:Int):uh n=my n++tx n.natAbs []:=by
 unfold uh my;split<;>rfl
theorem Da (d:Nat)(h:d<10):IntKind.u8.wrap (48+(d:Int))=(((48+d).toUInt8).toNat:Int):=by
 rw[wrap_u8];have:((48+d).toUInt8).toNat=48+d:=by simp;omega
 rw[this];omega
theorem TH {nx0:Nat}{H0:T OB}{b:Nat}(hbn:nx0<=b)(n:Int)(k:Nat):∀(u:Nat) (s:List UInt8) (H:T OB) (nx:Nat),u<10^(k+1)->s.length+k=18->Ag nx0 H0 nx H->dO H b (FW s) 168->
 Wq P pl X0 (.jump (Cq (i64 n) (.int .u64 (u:Int)) (.pointer (some ⟨b,0,none⟩)) (i64 ((20-s.length:Nat):Int)) H nx)) nx0 H0 (aK (my n++tx u s)):=by
 induction k with
 | zero=>
   intro u s H nx hu hs hA hb;have hu:u<10:=by simpa using hu
   refine Wq.jmp (OD ..) (λ_=>rfl) ?_;have e0:IntKind.i64.wrap (((20-s.length:Nat):Int)-1)=((19-s.length:Nat):Int):=by rw[aS (by omega)];omega
   have e1:(u:Int).tmod 10=((u%10:Nat):Int):=by rw[Int.tmod_eq_emod_of_nonneg (by omega)];omega
   have e2:IntKind.u64.wrap (48+((u%10:Nat):Int))=48+((u%10:Nat):Int):=by rw[wrap_u64];omega
   have e3:IntKind.u64.wrap ((u:Int).tdiv 10)=0:=by rw[Int.tdiv_eq_ediv_of_nonneg (by omega),wrap_u64];omega
   rw[tx,if_pos hu];simp only[af,e0,pz 167 true .u64 u 10 (by omega),lG 167 true .u64 u 10 (by omega),e1,e2,Fg,Da _ (dV u (by omega:0<10)),C_ (show 19-s.length<20 by omega),e3,bN];refine Wq.put hb jq rfl rfl (by rw[lZ s (by omega)];omega) (wU _ s (by omega)) hA hbn λH1 hb1 _ hA1=> ?_;rw[show u%10=u from hY hu]at hb1;refine Wq.ite (λhn=> ?_) (λhn=> ?_)
   . have e4:IntKind.i64.wrap (((19-s.length:Nat):Int)-1)=((18-s.length:Nat):Int):=by rw[aS (by omega)];omega
     simp only[af,e4,C_ (show 18-s.length<20 by omega),bN];have:=wU 45 ((48+u).toUInt8::s) (by simp;omega);rw[ao,show 19-(s.length+1)=18-s.length from by omega]at this;refine Wq.put hb1 jq rfl rfl (by rw[lZ _ (by simp;omega)];omega) this hA1 hbn λH2 hb2 _ hA2=> ?_;have:=wV _ (by simp;omega) hA2 hb2;simp only[ao,show 20-(s.length+1+1)=18-s.length from by omega]at this;unfold my;rw[if_pos hn];exact this
   . have:=wV _ (by simp;omega) hA1 hb1;simp only[ao,show 20-(s.length+1)=19-s.length from by omega]at this;unfold my;rw[if_neg hn];exact this
 | succ k ih=>
   intro u s H nx hu hs hA hb;refine Wq.jmp (OD ..) (λ_=>rfl) ?_;have hpow:(10:Nat)^(k+1+1)<=10^19:=Nat.pow_le_pow_right (by omega) (by omega);have h19:(10:Nat)^19=10000000000000000000:=by decide
   have hdiv:u/10<10^(k+1):=by rw[Nat.div_lt_iff_lt_mul (by omega)];rw[Nat.pow_succ]at hu;omega
   have e0:IntKind.i64.wrap (((20-s.length:Nat):Int)-1)=((19-s.length:Nat):Int):=by rw[aS (by omega)];omega
   have e1:(u:Int).tmod 10=((u%10:Nat):Int):=by rw[Int.tmod_eq_emod_of_nonneg (by omega)];omega
   have e2:IntKind.u64.wrap (48+((u%10:Nat):Int))=48+((u%10:Nat):Int):=by rw[wrap_u64];omega
   have e3:IntKind.u64.wrap ((u:Int).tdiv 10)=((u/10:Nat):Int):=by rw[Int.tdiv_eq_ediv_of_nonneg (by omega),wrap_u64];omega
   simp only[af,e0,pz 167 true .u64 u 10 (by omega),lG 167 true .u64 u 10 (by omega),e1,e2,Fg,Da _ (dV u (by omega:0<10)),C_ (show 19-s.length<20 by omega),e3,bN];refine Wq.put hb jq rfl rfl (by rw[lZ s (by omega)];omega) (wU _ s (by omega)) hA hbn λH1 hb1 _ hA1=> ?_;refine Wq.ite (λh0=> ?_) (λh0=> ?_)
   . have hu10:u<10:=by omega
     rw[tx,if_pos hu10];rw[show u%10=u from hY hu10]at hb1;refine Wq.ite (λhn=> ?_) (λhn=> ?_)
     . have e4:IntKind.i64.wrap (((19-s.length:Nat):Int)-1)=((18-s.length:Nat):Int):=by rw[aS (by omega)];omega
       simp only[af,e4,C_ (show 18-s.length<20 by omega),bN];have:=wU 45 ((48+u).toUInt8::s) (by simp;omega);rw[ao,show 19-(s.length+1)=18-s.length from by omega]at this;refine Wq.put hb1 jq rfl rfl (by rw[lZ _ (by simp;omega)];omega) this hA1 hbn λH2 hb2 _ hA2=> ?_;have:=wV _ (by simp;omega) hA2 hb2;simp only[ao,show 20-(s.length+1+1)=18-s.length from by omega]at this;unfold my;rw[if_pos hn];exact this
     . have:=wV _ (by simp;omega) hA1 hb1;simp only[ao,show 20-(s.length+1)=19-s.length from by omega]at this;unfold my;rw[if_neg hn];exact this
   . have:=ih (u/10) ((48+u%10).toUInt8::s) H1 nx hdiv (by simp;omega) hA1 hb1;rw[tx,if_neg (by omega)];simp only[ao,show 20-(s.length+1)=19-s.length from by omega]at this;exact this
theorem abT (n:Int)(h: -9223372036854775808<=n/\n<9223372036854775808):P0 78 [i64 n] (aK (uh n)):=Pure.of rfl λH nx=>by
 rw[q78];have L10:Wq P pl X0 (.jump (Cp (i64 n) (.int .u64 ((n.natAbs:Nat):Int)) H nx)) nx H (aK (uh n)):=by
  refine Wq.jmp (YH ..) (λ_=>rfl) ?_;refine Wq.alloc NS (.refl _ _) λH1 hb1 _ hA1=> ?_;rw[PV];exact TH (ax _) n 18 n.natAbs [] H1 _ (by rw[p19];omega) rfl hA1 hb1
 simp only[af,PU,wR];refine Wq.ite (λhn=> ?_) (λhn=> ?_)
 . have e:IntKind.u64.wrap (0-IntKind.u64.wrap n)=((n.natAbs:Nat):Int):=by rw[wrap_u64,wrap_u64];omega
   rw[e];exact L10
 . have e:IntKind.u64.wrap n=((n.natAbs:Nat):Int):=by rw[wrap_u64];omega
   rw[e];exact L10
theorem PW (left:Int)(h: -9223372036854775808<=left/\left<9223372036854775808):w (left.tdiv 10)=left.tdiv 10/\(left.tdiv 10).natAbs=left.natAbs/10/\(left.tmod 10).natAbs=left.natAbs%10:=by
 have h2:(left.tdiv 10).natAbs=left.natAbs/10:=by rw[Int.natAbs_tdiv];rfl
 refine⟨aS (by omega),h2,by rw[Int.natAbs_tmod];rfl⟩
theorem TJ {nx0:Nat}{H0:T OB}(n:Int)(k:Nat):∀(left:Int) (s:List UInt8) (H:T OB) (nx:Nat),left.natAbs<10^k->k<=19-> -9223372036854775808<=left->left<9223372036854775808->s.length+k<=120->(k=0->s≠[])->Ag nx0 H0 nx H->
 Wq P pl X0 (.jump (yO (i64 n) (aK s) (i64 left) H nx)) nx0 H0 (aK (my n++(if left=0/\s≠[]then s else tx left.natAbs s))):=by
 induction k with
 | zero=>
   intro left s H nx hl hk19 h1 h2 hk hs hA
   have:left=0:=by have:(10:Nat)^0=1:=rfl
                   omega
   subst this;rw[if_pos ⟨rfl,hs rfl⟩];refine Wq.jmp (OQ ..) (λ_=>rfl) ?_;simp only[af,decide_true,cM,cond_false,show decide ((⟨⟨s⟩⟩:ByteArray)=⟨⟨[]⟩⟩)=false from by simp;exact hs rfl];refine Wq.ite (λhn=> ?_) (λhn=> ?_)
   . rw[ud 9 true [45] s (by simp;omega)];refine Wq.ij ?_ hA;unfold my;rw[if_pos hn]
   . refine Wq.ij ?_ hA;unfold my;rw[if_neg hn];rfl
 | succ k ih=>
   intro left s H nx hl hk19 h1 h2 hk hs hA;obtain⟨e1,e2,e3⟩:=PW left ⟨h1,h2⟩;have L16:∀d:Nat,d=left.natAbs%10->(¬(left=0/\s≠[]))->Wq P pl X0 (.jump (p7 (i64 n) (aK s) (i64 left) (i64 (d:Int)) H nx)) nx0 H0 (aK (my n++(if left=0/\s≠[]then s else tx left.natAbs s))):=by
    intro d hd hno;rw[if_neg hno];refine Wq.jmp (SJ ..) (λ_=>rfl) ?_;have hd10:d<10:=by rw[hd];exact dV _ (by omega)
    have e5:IntKind.i64.wrap (48+(d:Int))=48+(d:Int):=aS (by omega);simp only[af,e5,Zy,Da d hd10];refine Wq.row dK jq ik rfl (W0 _) hA λH1 hb1 _ hA1=> ?_;rw[uf qh hb1 (r:=[(48+d).toUInt8]) (by simp) (by simp[kM]),aZ,ud 9 false [(48+d).toUInt8] s (by simp;omega)];simp only[af,lG 2 true .i64 left 10 (by omega),e1];have:=ih (left.tdiv 10) ((48+d).toUInt8::s) H1 _ (by rw[e2,Nat.div_lt_iff_lt_mul (by omega)];rw[Nat.pow_succ]at hl;omega) (by omega) (by omega) (by omega) (by simp;omega) (λ_=>by simp) hA1;have e6:(if left.tdiv 10=0/\(48+d).toUInt8::s≠[]then(48+d).toUInt8::s else tx (left.tdiv 10).natAbs ((48+d).toUInt8::s))=tx left.natAbs s:=by
     rw[tx.eq_def left.natAbs s,e2,hd]
     by_cases hlt:left.natAbs<10
     . rw[if_pos ⟨by omega,by simp⟩,if_pos hlt,hY hlt]
     . rw[if_neg (λq=>by omega),if_neg hlt]
    rw[e6]at this;exact this
   have hm:∀(q:Int),q=left.tmod 10->¬q<0->q=((left.natAbs%10:Nat):Int):=λq hq h=>by rw[<- e3,<- hq];omega
   have hm2:∀(q:Int),q=left.tmod 10->q<0->IntKind.i64.wrap (0-q)=((left.natAbs%10:Nat):Int):=λq hq h=>by
    have:q.natAbs<10:=by rw[hq,e3];exact dV _ (by omega)
    rw[aS (by omega),<- e3,<- hq];omega
   refine Wq.jmp (OQ ..) (λ_=>rfl) ?_;simp only[af,pz 2 true .i64 left 10 (by omega),wR];refine Wq.bK (λh=> ?_) (λh=> ?_)
   . have hne:left≠0:=by simpa using h
     refine Wq.ite (λhn=> ?_) (λhn=> ?_)
     . rw[hm2 _ rfl hn];exact L16 _ rfl (λq=>hne q.1)
     . have:=L16 _ rfl (λq=>hne q.1);rw[<- hm _ rfl hn]at this;exact this
   . have h0:left=0:=by simpa using h
     refine Wq.ite (λhs0=> ?_) (λhs0=> ?_)
     . have hs1:s=[]:=by simpa using hs0
       refine Wq.ite (λhn=> ?_) (λhn=> ?_)
       . rw[hm2 _ rfl hn];exact L16 _ rfl (λq=>q.2 hs1)
       . have:=L16 _ rfl (λq=>q.2 hs1);rw[<- hm _ rfl hn]at this;exact this
     . have hs1:s≠[]:=by simpa using hs0
       rw[if_pos ⟨h0,hs1⟩];refine Wq.ite (λhn=> ?_) (λhn=> ?_)
       . rw[ud 9 true [45] s (by simp;omega)];refine Wq.ij ?_ hA;unfold my;rw[if_pos hn]
       . refine Wq.ij ?_ hA;unfold my;rw[if_neg hn];rfl
theorem ZA (n:Int)(h: -9223372036854775808<=n/\n<9223372036854775808):P0 117 [i64 n] (aK (uh n)):=Pure.of rfl λH nx=>by
 rw[adV,PV];have:=TJ (H0:=H) (nx0:=nx) n 19 n [] H nx (by rw[aeO];omega) (by omega) h.1 h.2 (by simp) (by omega) (.refl _ _);show Wq P pl X0 (.jump (yO (i64 n) (aK []) (i64 n) H nx)) nx H (aK (my n++tx n.natAbs []));simpa using this
def hex:List UInt8:=[48,49,50,51,52,53,54,55,56,57,65,66,67,68,69,70]
def hx (n:Nat):UInt8:=hex.getD n 0
def qc (c:UInt8):List UInt8:=if c.toNat=34\/c.toNat=92 then[92,c]else if c.toNat=10 then[92,110]else if c.toNat=9 then[92,116]else if c.toNat<32\/126<c.toNat then[92,120,hx (c.toNat/16),hx (c.toNat%16)]else[c]
def qs (l:List UInt8):List UInt8:=l.flatMap qc
theorem L3 (c:UInt8):(qc c).length<=4:=by unfold qc;split<;>(try split)<;>(try split)<;>(try split)<;>simp
theorem ui (l:List UInt8):(qs l).length<=4*l.length:=by
 induction l with
 | nil=>simp[qs]
 | cons a l ih=>have:=L3 a;simp only[qs,fj,aj,ao]at ih ⊢;omega
def quote (l:List UInt8):List UInt8:=34::(qs l++[34])
theorem TK {n:Nat}(h:n<16):hex[n]? = some (hx n):=by
 unfold hx;rw[List.getD_eq_getElem?_getD,au (by simpa[hex]using h)];rfl
theorem Db {n:Nat}(h:n<16)(k:IntKind):eB P 9 (some (.string ⟨⟨[48,49,50,51,52,53,54,55,56,57,65,66,67,68,69,70]⟩⟩)) (some (.int k (n:Int)))=some (.int .u8 ((hx n).toNat:Int)):=bF bq (TK h) k
theorem ZB (H:T OB)(c:UInt8):dx P H .shr 5 true (some (.int .u8 (c.toNat:Int))) (some (.int .u64 4))=some (.int .u8 ((c.toNat/16:Nat):Int)):=by
 have:=LU (P:=P) (H:=H) 5 true .u8 .u64 (c.toNat:Int) 4 (by decide);rw[show((4:Nat):Int)=4 from rfl]at this;rw[this];congr 2;rw[Int.fdiv_eq_ediv_of_nonneg _ (by omega)];rw[show(2:Int)^4=16 from by decide];omega
theorem u8_and (H:T OB)(c:UInt8):dx P H .and 5 true (some (.int .u8 (c.toNat:Int))) (some (.int .u8 15))=some (.int .u8 ((c.toNat%16:Nat):Int)):=by
 rw[LV];congr 2;have hc:c.toNat<256:=c.toNat_lt;have e1:(BitVec.ofInt IntKind.u8.bits (c.toNat:Int) &&& BitVec.ofInt IntKind.u8.bits 15).toNat=c.toNat%16:=by
  rw[BitVec.toNat_and,BitVec.toNat_ofInt,BitVec.toNat_ofInt];have hb:IntKind.u8.bits=8:=rfl;rw[hb];have h1:((c.toNat:Int) % ((2^8:Nat):Int)).toNat=c.toNat:=by
   rw[show(2:Nat)^8=256 from by decide];omega
  have h2:((15:Int) % ((2^8:Nat):Int)).toNat=15:=by decide
  rw[h1,h2];exact Nat.and_two_pow_sub_one_eq_mod c.toNat 4
 rw[e1,wrap_u8];omega
theorem u8_quo (H:T OB)(c:UInt8):dx P H .quo 5 true (some (.int .u8 (c.toNat:Int))) (some (.int .u8 16))=some (.int .u8 ((c.toNat/16:Nat):Int)):=by
 rw[lG _ _ _ _ _ (by omega)];congr 2;have hc:c.toNat<256:=c.toNat_lt;rw[Int.tdiv_eq_ediv_of_nonneg (by omega),wrap_u8];omega
theorem ZC (H:T OB)(c:UInt8):dx P H .rem 5 true (some (.int .u8 (c.toNat:Int))) (some (.int .u8 16))=some (.int .u8 ((c.toNat%16:Nat):Int)):=by
 rw[pz _ _ _ _ _ (by omega)];congr 2
theorem Wq.abU {nx0:Nat}{H0:T OB}{nx:Nat}{H:T OB}{R:Value->T OB->Nat->Prop}{r:List UInt8}{sl:Value}{k:Value->T OB->Nat->Q}(hB:BS 5 nx0 H nx r sl)(hr:r≠[])(hA:Ag nx0 H0 nx H)(hk:∀H',Ag nx0 H0 (nx+1) H'->e8 P pl X0 (k (bM 1 (kM r)) H' (nx+1)) nx0 H0 R):e8 P pl X0 (gD P 120 sl H nx k) nx0 H0 R:=by
 rcases hB with⟨rfl,_⟩ | ⟨b,c,hb0,hbx,hb,hc,rfl⟩
 . exact absurd rfl hr
 . have hch:chunk false 1 r.length (kM r)=some (kM r):=by
    have:=mo (kM r);simpa using this
   refine Wq.VU dK jq aa4 rfl hb (by simp) ?_ hch ?_ hA hb0 λH' _ hA'=>hk H' hA'
   . rcases hc with rfl | rfl
     . simp
     . rw[av (ax _),gK]
   . simp[kM]
theorem ZD {nx0:Nat}{H0:T OB}(l:List UInt8)(hl:l.length<9223372036854775807):∀(t:List UInt8) (i:Nat) (r:List UInt8) (sl:Value) (H:T OB) (nx:Nat),l.drop i=t->i<=l.length->r.length+(qs t).length+1<=1048576->BS 5 nx0 H nx r sl->Ag nx0 H0 nx H->
 e8 P pl X0 (.jump (sI (aK l) sl (i64 (i:Int)) H nx)) nx0 H0 (λu H nx=>u=bM 1 (kM (r++(qs t++[34])))):=by
 intro t
 induction t with
 | nil=>
   intro i r sl H nx hd hi hlen hB hA;have hil:=drop_nil hd hi;refine Wq.jmp (Wv ..) (λ_=>rfl) ?_;simp only[af,aV _ bq,aT,hil,aF];refine Wq.rF dK jq ik hB (x:=[34]) rfl rfl (W0 34) (λm hm=>j4 (by simp at hm;simp at hlen;omega)) hA λH1 sl1 aI hB1 hA1 _=> ?_;refine Wq.abU hB1 (by simp) hA1 λH2 hA2=> ?_;exact Wq.mf hA2 (by simp[qs])
 | cons c t ih=>
   intro i r sl H nx hd hi hlen hB hA;obtain⟨hg,hlt,hd'⟩:=drop_cons hd;have hqs:qs (c::t)=qc c++qs t:=rfl;rw[hqs,aj]at hlen;have fin:∀(x:List UInt8) (sl1:Value) H1 aI,Ag nx0 H0 aI H1->BS 5 nx0 H1 aI (r++x) sl1->qc c=x->e8 P pl X0 (.jump (sI (aK l) sl1 (i64 ((i+1:Nat):Int)) H1 aI)) nx0 H0 (λu H nx=>u=bM 1 (kM (r++(qs (c::t)++[34])))):=by
    intro x sl1 H1 aI hA1 hB1 hx;have:=ih (i+1) (r++x) sl1 H1 aI hd' (by omega) (by rw[aj,<- hx];omega) hB1 hA1;rw[hqs,hx];simpa[bn]using this
   have hc8:c.toNat<256:=c.toNat_lt;have L30:∀b:Bool,(b=true↔(c.toNat<32\/126<c.toNat))->¬(c.toNat=34\/c.toNat=92)->c.toNat≠10->c.toNat≠9->e8 P pl X0 (.jump (Ct (aK l) sl (i64 (i:Int)) (b8 c) b H nx)) nx0 H0 (λu H nx=>u=bM 1 (kM (r++(qs (c::t)++[34])))):=by
    intro b hb h1 h2 h3;refine Wq.jmp (YK ..) (λ_=>rfl) ?_;refine Wq.bK (λh=> ?_) (λh=> ?_)
    . have hq:qc c=[92,120,hx (c.toNat/16),hx (c.toNat%16)]:=by unfold qc;rw[if_neg h1,if_neg h2,if_neg h3,if_pos (hb.1 h)]
      rw[hq]at hlen;simp only[af,ZB,u8_and,Db (show c.toNat/16<16 by omega),Db (show c.toNat%16<16 by omega)];refine Wq.rF dK jq ik hB (x:=[92,120,hx (c.toNat/16),hx (c.toNat%16)]) rfl rfl (fb4 92 120 _ _) (λm hm=>j4 (by simp at hm;simp at hlen;omega)) hA λH1 sl1 aI hB1 hA1 _=> ?_;simp only[af,az (show i<9223372036854775807 by omega)];exact fin _ _ _ _ hA1 hB1 hq
    . have hq:qc c=[c]:=by unfold qc;rw[if_neg h1,if_neg h2,if_neg h3,if_neg (λq=>by rw[hb.2 q]at h;cases h)]
      rw[hq]at hlen;refine Wq.rF dK jq ik hB (x:=[c]) rfl rfl (W0 _) (λm hm=>j4 (by simp at hm;simp at hlen;omega)) hA λH1 sl1 aI hB1 hA1 _=> ?_;simp only[af,az (show i<9223372036854775807 by omega)];exact fin _ _ _ _ hA1 hB1 hq
   have L18:∀b:Bool,(b=true↔(c.toNat=34\/c.toNat=92))->e8 P pl X0 (.jump (Cs (aK l) sl (i64 (i:Int)) (b8 c) b H nx)) nx0 H0 (λu H nx=>u=bM 1 (kM (r++(qs (c::t)++[34])))):=by
    intro b hb;refine Wq.jmp (YJ ..) (λ_=>rfl) ?_;refine Wq.bK (λh=> ?_) (λh=> ?_)
    . have hq:qc c=[92,c]:=by unfold qc;rw[if_pos (hb.1 h)]
      rw[hq]at hlen;refine Wq.rF dK jq ik hB (x:=[92,c]) rfl rfl (fb2 92 _) (λm hm=>j4 (by simp at hm;simp at hlen;omega)) hA λH1 sl1 aI hB1 hA1 _=> ?_;simp only[af,az (show i<9223372036854775807 by omega)];exact fin _ _ _ _ hA1 hB1 hq
    have h1:¬(c.toNat=34\/c.toNat=92):=λq=>by rw[hb.2 q]at h;cases h
    simp only[af];refine Wq.ite (λh2=> ?_) (λh2=> ?_)
    . have h2:c.toNat=10:=by omega
      have hq:qc c=[92,110]:=by unfold qc;rw[if_neg h1,if_pos h2]
      rw[hq]at hlen;refine Wq.rF dK jq ik hB (x:=[92,110]) rfl rfl (fb2 92 110) (λm hm=>j4 (by simp at hm;simp at hlen;omega)) hA λH1 sl1 aI hB1 hA1 _=> ?_;simp only[af,az (show i<9223372036854775807 by omega)];exact fin _ _ _ _ hA1 hB1 hq
    have h2:c.toNat≠10:=by omega
    refine Wq.ite (λh3=> ?_) (λh3=> ?_)
    . have h3:c.toNat=9:=by omega
      have hq:qc c=[92,116]:=by unfold qc;rw[if_neg h1,if_neg h2,if_pos h3]
      rw[hq]at hlen;refine Wq.rF dK jq ik hB (x:=[92,116]) rfl rfl (fb2 92 116) (λm hm=>j4 (by simp at hm;simp at hlen;omega)) hA λH1 sl1 aI hB1 hA1 _=> ?_;simp only[af,az (show i<9223372036854775807 by omega)];exact fin _ _ _ _ hA1 hB1 hq
    have h3:c.toNat≠9:=by omega
    refine Wq.ite (λh4=>L30 true (by simp;omega) h1 h2 h3) (λh4=>L30 _ (by rw[decide_eq_true_eq];omega) h1 h2 h3)
   refine Wq.jmp (Wv ..) (λ_=>rfl) ?_;simp only[af,aV _ bq,aT,aJ hlt,bF bq hg];refine Wq.ite (λh1=>L18 true (by simp;omega)) (λh1=>L18 _ (by rw[decide_eq_true_eq];omega))
theorem aeP {nx0:Nat}{H0:T OB}{nx:Nat}{H:T OB}(l:List UInt8)(hl:(qs l).length<=1000000)(hl2:l.length<9223372036854775807)(hA:Ag nx0 H0 nx H):
 e8 P pl X0 (aX P pl (.call 79 [aK l] false none H nx)) nx0 H0 (λu H nx=>u=bM 1 (kM (quote l))):=by
 rw[q79];refine Wq.row dK jq ik rfl (W0 34) hA λH1 hb1 _ hA1=> ?_;exact ZD l hl2 l 0 [34] _ H1 _ rfl (aN _) (by simp;omega) (.inr ⟨nx,1,hA.1,by omega,hb1,.inr rfl,rfl⟩) hA1
theorem TL {nx0:Nat}{H0:T OB}(l:List UInt8)(hl:l.length<9223372036854775807):∀(t:List UInt8) (i:Nat) (r:List UInt8) (sl:Value) (H:T OB) (nx:Nat),l.drop i=t->i<=l.length->r.length+(qs t).length+1<=1048576->BS 5 nx0 H nx r sl->Ag nx0 H0 nx H->
 e8 P pl X0 (.jump (nK (aK l) sl (i64 (i:Int)) H nx)) nx0 H0 (λu _ _=>u=aK (r++(qs t++[34]))):=by
 intro t
 induction t with
 | nil=>
   intro i r sl H nx hd hi hlen hB hA;have hil:=drop_nil hd hi;refine Wq.jmp (OR ..) (λ_=>rfl) ?_;simp only[af,aV _ bq,aT,hil,aF];refine Wq.rF dK jq ik hB (x:=[34]) rfl rfl (W0 34) (λm hm=>j4 (by simp at hm;simp at hlen;omega)) hA λH1 sl1 aI hB1 hA1 _=> ?_;rw[mY dK qN bq qh hB1,aZ];exact Wq.ret hA1
 | cons c t ih=>
   intro i r sl H nx hd hi hlen hB hA;obtain⟨hg,hlt,hd'⟩:=drop_cons hd;have hqs:qs (c::t)=qc c++qs t:=rfl;rw[hqs,aj]at hlen;have fin:∀(x:List UInt8) (sl1:Value) H1 aI,Ag nx0 H0 aI H1->BS 5 nx0 H1 aI (r++x) sl1->qc c=x->e8 P pl X0 (.jump (nK (aK l) sl1 (i64 ((i+1:Nat):Int)) H1 aI)) nx0 H0 (λu _ _=>u=aK (r++(qs (c::t)++[34]))):=by
    intro x sl1 H1 aI hA1 hB1 hx;have:=ih (i+1) (r++x) sl1 H1 aI hd' (by omega) (by rw[aj,<- hx];omega) hB1 hA1;rw[hqs,hx];simpa[bn]using this
   have hc8:c.toNat<256:=c.toNat_lt;have L30:∀b:Bool,(b=true↔(c.toNat<32\/126<c.toNat))->¬(c.toNat=34\/c.toNat=92)->c.toNat≠10->c.toNat≠9->e8 P pl X0 (.jump (vX (aK l) sl (i64 (i:Int)) (b8 c) b H nx)) nx0 H0 (λu _ _=>u=aK (r++(qs (c::t)++[34]))):=by
    intro b hb h1 h2 h3;refine Wq.jmp (SL ..) (λ_=>rfl) ?_;refine Wq.bK (λh=> ?_) (λh=> ?_)
    . have hq:qc c=[92,120,hx (c.toNat/16),hx (c.toNat%16)]:=by unfold qc;rw[if_neg h1,if_neg h2,if_neg h3,if_pos (hb.1 h)]
      rw[hq]at hlen;simp only[af,u8_quo,ZC,Db (show c.toNat/16<16 by omega),Db (show c.toNat%16<16 by omega)];refine Wq.rF dK jq ik hB (x:=[92,120,hx (c.toNat/16),hx (c.toNat%16)]) rfl rfl (fb4 92 120 _ _) (λm hm=>j4 (by simp at hm;simp at hlen;omega)) hA λH1 sl1 aI hB1 hA1 _=> ?_;simp only[af,az (show i<9223372036854775807 by omega)];exact fin _ _ _ _ hA1 hB1 hq
    . have hq:qc c=[c]:=by unfold qc;rw[if_neg h1,if_neg h2,if_neg h3,if_neg (λq=>by rw[hb.2 q]at h;cases h)]
      rw[hq]at hlen;refine Wq.rF dK jq ik hB (x:=[c]) rfl rfl (W0 _) (λm hm=>j4 (by simp at hm;simp at hlen;omega)) hA λH1 sl1 aI hB1 hA1 _=> ?_;simp only[af,az (show i<9223372036854775807 by omega)];exact fin _ _ _ _ hA1 hB1 hq
   have L18:∀b:Bool,(b=true↔(c.toNat=34\/c.toNat=92))->e8 P pl X0 (.jump (vW (aK l) sl (i64 (i:Int)) (b8 c) b H nx)) nx0 H0 (λu _ _=>u=aK (r++(qs (c::t)++[34]))):=by
    intro b hb;refine Wq.jmp (SK ..) (λ_=>rfl) ?_;refine Wq.bK (λh=> ?_) (λh=> ?_)
    . have hq:qc c=[92,c]:=by unfold qc;rw[if_pos (hb.1 h)]
      rw[hq]at hlen;refine Wq.rF dK jq ik hB (x:=[92,c]) rfl rfl (fb2 92 _) (λm hm=>j4 (by simp at hm;simp at hlen;omega)) hA λH1 sl1 aI hB1 hA1 _=> ?_;simp only[af,az (show i<9223372036854775807 by omega)];exact fin _ _ _ _ hA1 hB1 hq
    have h1:¬(c.toNat=34\/c.toNat=92):=λq=>by rw[hb.2 q]at h;cases h
    simp only[af];refine Wq.ite (λh2=> ?_) (λh2=> ?_)
    . have h2:c.toNat=10:=by omega
      have hq:qc c=[92,110]:=by unfold qc;rw[if_neg h1,if_pos h2]
      rw[hq]at hlen;refine Wq.rF dK jq ik hB (x:=[92,110]) rfl rfl (fb2 92 110) (λm hm=>j4 (by simp at hm;simp at hlen;omega)) hA λH1 sl1 aI hB1 hA1 _=> ?_;simp only[af,az (show i<9223372036854775807 by omega)];exact fin _ _ _ _ hA1 hB1 hq
    have h2:c.toNat≠10:=by omega
    refine Wq.ite (λh3=> ?_) (λh3=> ?_)
    . have h3:c.toNat=9:=by omega
      have hq:qc c=[92,116]:=by unfold qc;rw[if_neg h1,if_neg h2,if_pos h3]
      rw[hq]at hlen;refine Wq.rF dK jq ik hB (x:=[92,116]) rfl rfl (fb2 92 116) (λm hm=>j4 (by simp at hm;simp at hlen;omega)) hA λH1 sl1 aI hB1 hA1 _=> ?_;simp only[af,az (show i<9223372036854775807 by omega)];exact fin _ _ _ _ hA1 hB1 hq
    have h3:c.toNat≠9:=by omega
    refine Wq.ite (λh4=>L30 true (by simp;omega) h1 h2 h3) (λh4=>L30 _ (by rw[decide_eq_true_eq];omega) h1 h2 h3)
   refine Wq.jmp (OR ..) (λ_=>rfl) ?_;simp only[af,aV _ bq,aT,aJ hlt,bF bq hg];refine Wq.ite (λh1=>L18 true (by simp;omega)) (λh1=>L18 _ (by rw[decide_eq_true_eq];omega))
theorem ZE (l:List UInt8)(hl:(qs l).length<=1000000)(hl2:l.length<9223372036854775807):P0 118 [aK l] (aK (quote l)):=Pure.of rfl λH nx=>by
 rw[adW];refine Wq.row dK jq ik rfl (W0 34) (.refl _ _) λH1 hb1 _ hA1=> ?_;exact TL l hl2 l 0 [34] _ H1 _ rfl (aN _) (by simp;omega) (.inr ⟨nx,1,ax _,by omega,hb1,.inr rfl,rfl⟩) hA1
def ck (t:Tok):List UInt8:=if t.k=1 then uh t.n else if t.k=2 then quote t.s else t.s
section
variable {nx0:Nat}{H0:T OB}
def dv (c:UInt8):Nat:=c.toNat-48
def js:Nat->List UInt8->Option Nat
 | n,[]=>some n
 | n,c::r=>if cu c=true/\n<=(4611686018427387903-dv c)/10 then js (n*10+dv c) r else none
def TM (s:List UInt8):Option Nat->Value
 | some m=> .tuple ⟨[i64 (m:Int),.bool (!decide (s=[]))]⟩
 | none=> .tuple ⟨[i64 0,.bool false]⟩
theorem kO {c:UInt8}:cu c=true↔48<=c.toNat/\c.toNat<=57:=by unfold cu;simp
theorem dvw {c:UInt8}(h:cu c=true):IntKind.u8.wrap ((c.toNat:Int)-48)=(dv c:Int):=by
 rw[kO]at h;rw[wrap_u8];unfold dv;omega
theorem KC {c:UInt8}(h:cu c=true):dv c<=9:=by
 rw[kO]at h;unfold dv;omega
theorem PX (s:List UInt8)(hl:s.length<ei):∀(r:List UInt8) (i n:Nat) (H:T OB) (nx:Nat),s.drop i=r->i<=s.length->n<=4611686018427387903->Ag nx0 H0 nx H->
 Wq P pl X0 (.jump (CD (aK s) (i64 (n:Int)) (i64 (i:Int)) H nx)) nx0 H0 (TM s (js n r)):=by
 intro r
 induction r with
 | nil=>
   intro i n H nx hd hi h1 hA;have hil:=drop_nil hd hi;refine Wq.jmp (OL ..) (λ_=>rfl) ?_;simp only[af,aV _ bq,aT,hil,aF,dL];exact Wq.ret hA
 | cons c r ih=>
   intro i n H nx hd hi h1 hA;obtain⟨hg,hlt,hd'⟩:=drop_cons hd;have L14:∀(b:Bool) H1 aI,Ag nx0 H0 aI H1->(b=false↔cu c=true/\n<=(4611686018427387903-dv c)/10)->Wq P pl X0 (.jump (vQ (aK s) (i64 (n:Int)) (i64 (i:Int)) b H1 aI)) nx0 H0 (TM s (js n (c::r))):=by
    intro b H1 aI hA1 hb;refine Wq.jmp (SG ..) (λ_=>rfl) ?_;rw[js];cases b with
    | true=>
      rw[if_neg (λq=>by have:=hb.2 q;cases this)];exact Wq.ret hA1
    | false=>
      have hc:=hb.1 rfl;rw[if_pos hc];have h9:=KC hc.1;have h10:=hc.2;have e1:IntKind.i64.wrap ((n:Int)*10)=((n*10:Nat):Int):=by rw[aS (by omega)];omega
      have e2:IntKind.i64.wrap (dv c:Int)=(dv c:Int):=aS (by omega);have e3:IntKind.i64.wrap (((n*10:Nat):Int)+(dv c:Int))=((n*10+dv c:Nat):Int):=by rw[aS (by omega)];omega
      simp only[af,bF bq hg,G8,az (show i<9223372036854775807 by have:=cv hl;omega),dvw hc.1,e1,e2,e3];exact ih (i+1) _ H1 aI hd' (by omega) (by omega) hA1
   refine Wq.jmp (OL ..) (λ_=>rfl) ?_;simp only[af,aV _ bq,aT,aJ hlt,bF bq hg];refine Wq.call (C8 c) hA λH1 aI hA1=> ?_;cases hdg:cu c with
   | false=>
     simp only[af,fk];exact L14 _ _ _ hA1 (by simp[hdg])
   | true=>
     have h9:=KC hdg;have e2:IntKind.i64.wrap (dv c:Int)=(dv c:Int):=aS (by omega);have e4:IntKind.i64.wrap (4611686018427387903-(dv c:Int))=((4611686018427387903-dv c:Nat):Int):=by rw[aS (by omega)];omega
     have e5:IntKind.i64.wrap (((4611686018427387903-dv c:Nat):Int).tdiv 10)=(((4611686018427387903-dv c)/10:Nat):Int):=by
      rw[show((4611686018427387903-dv c:Nat):Int).tdiv 10=(((4611686018427387903-dv c)/10:Nat):Int)from rfl,aS (by omega)]
     simp only[af,cM,G8,dvw hdg,e2,e4,PO,e5];refine L14 _ _ _ hA1 ?_;rw[decide_eq_false_iff_not];simp only[hdg,true_and];omega
theorem ZF (s:List UInt8)(hl:s.length<ei):P0 110 [aK s] (TM s (js 0 s)):=Pure.of rfl λH nx=>by
 rw[adP];exact PX s hl s 0 0 H nx rfl (aN _) (by omega) (.refl _ _)
def eR (c:UInt8):Int:=if cu c=true then(c.toNat:Int)-48 else if(decide (65<=c.toNat)&&decide (c.toNat<=70))=true then(c.toNat:Int)-55 else -1
theorem wW (c:UInt8): -1<=eR c/\eR c<16:=by
 unfold eR;split
 . rename_i h;rw[kO]at h;omega
 . split
   . rename_i h h2;simp only[ae,decide_eq_true_eq]at h2;omega
   . omega
theorem Dc (c:UInt8):P0 180 [b8 c] (i64 (eR c)):=Pure.of rfl λH nx=>by
 rw[aeD];refine Wq.call (C8 c) (.refl _ _) λH1 aI hA1=> ?_;have hc:=c.toNat_lt;have e0:IntKind.i64.wrap (c.toNat:Int)=(c.toNat:Int):=aS (by omega);unfold eR;simp only[af,G9,e0];refine Wq.bK (λh=> ?_) (λh=> ?_)
 . rw[if_pos h];rw[show IntKind.i64.wrap ((c.toNat:Int)-48)=(c.toNat:Int)-48 from aS (by omega)];exact Wq.ret hA1
 rw[if_neg (by rw[h];decide)];refine Wq.call (C6 c 65 70) hA1 λH2 nx2 hA2=> ?_;simp only[af];refine Wq.bK (λh=> ?_) (λh=> ?_)
 . rw[if_pos h];rw[show IntKind.i64.wrap ((c.toNat:Int)-65)=(c.toNat:Int)-65 from aS (by omega),show IntKind.i64.wrap ((c.toNat:Int)-65+10)=(c.toNat:Int)-55 from by rw[aS (by omega)];omega];exact Wq.ret hA2
 rw[if_neg (by rw[h];decide)];exact Wq.ret hA2
def Fh:List UInt8->UInt8×Nat
 | y::z::_=>if 0<=eR y/\0<=eR z then(dh (16*eR y+eR z).toNat,4)else(0,0)
 | _=>(0,0)
def ld:List UInt8->UInt8×Nat
 | []=>(0,0)
 | x::t=>if x.toNat=34 then(34,2)else if x.toNat=92 then(92,2)else if x.toNat=110 then(10,2)else if x.toNat=116 then(9,2)else if x.toNat=120 then Fh t else(0,0)
def eo:List UInt8->UInt8×Nat
 | []=>(0,0)
 | a::t=>if a.toNat<32\/126<a.toNat\/a.toNat=34 then(0,0)else if a.toNat=92 then ld t else(a,1)
theorem fp (x:UInt8)(t:List UInt8):ld (x::t)=if x.toNat=34 then(34,2)else if x.toNat=92 then(92,2)else if x.toNat=110 then(10,2)else if x.toNat=116 then(9,2)else if x.toNat=120 then Fh t else(0,0):=rfl
theorem gB (a:UInt8)(t:List UInt8):eo (a::t)=if a.toNat<32\/126<a.toNat\/a.toNat=34 then(0,0)else if a.toNat=92 then ld t else(a,1):=rfl
theorem wX (s:List UInt8):(eo s).2<=s.length:=by
 cases s with
 | nil=>exact aN _
 | cons a t=>
   rw[gB]
   by_cases h1:a.toNat<32\/126<a.toNat\/a.toNat=34
   . rw[if_pos h1];exact aN _
   rw[if_neg h1]
   by_cases h2:a.toNat=92
   . rw[if_pos h2];cases t with
     | nil=>exact aN _
     | cons x t=>
       rw[fp];have h22:2<=(a::x::t).length:=by simp
       by_cases h3:x.toNat=34
       . rw[if_pos h3];exact h22
       rw[if_neg h3]
       by_cases h3:x.toNat=92
       . rw[if_pos h3];exact h22
       rw[if_neg h3]
       by_cases h3:x.toNat=110
       . rw[if_pos h3];exact h22
       rw[if_neg h3]
       by_cases h3:x.toNat=116
       . rw[if_pos h3];exact h22
       rw[if_neg h3]
       by_cases h3:x.toNat=120
       . rw[if_pos h3]
         match t with
         | []=>exact aN _
         | [_]=>exact aN _
         | y::z::r=>
           show(if 0<=eR y/\0<=eR z then _ else _:UInt8×Nat).2<=_
           by_cases h4:0<=eR y/\0<=eR z
           . rw[if_pos h4];show 4<=(a::x::y::z::r).length;simp
           . rw[if_neg h4];exact aN _
       . rw[if_neg h3];exact aN _
   . rw[if_neg h2];show 1<=(a::t).length;simp
abbrev PY (p:UInt8×Nat):Value:= .tuple ⟨[b8 p.1,i64 (p.2:Int)]⟩
theorem ZG (s:List UInt8)(hs:s≠[])(hl:s.length<ei):P0 155 [aK s] (PY (eo s)):=Pure.of rfl λH nx=>by
 rw[aek];have hA:=Ag.refl nx H;obtain⟨a,t,rfl⟩:∃a t,s=a::t:=by cases s with
  | nil=>exact absurd rfl hs
  | cons a t=>exact⟨a,t,rfl⟩
 have L36f:∀H1 aI,Ag nx H aI H1->eo (a::t)=(0,0)->Wq P pl X0 (.jump (qb (aK (a::t)) false H1 aI)) nx H (PY (eo (a::t))):=by
  intro H1 aI hA1 hb;refine Wq.jmp (Ka ..) (λ_=>rfl) ?_;rw[hb];exact Wq.ret hA1
 have L6:∀(b:Bool) H1 aI,Ag nx H aI H1->(b=true↔(a.toNat<32\/126<a.toNat\/a.toNat=34))->Wq P pl X0 (.jump (uc (aK (a::t)) b H1 aI)) nx H (PY (eo (a::t))):=by
  intro b H1 aI hA1 hb;refine Wq.jmp (YV ..) (λ_=>rfl) ?_;cases b with
  | true=>
    rw[show eo (a::t)=(0,0)from if_pos (hb.1 rfl)];exact Wq.ret hA1
  | false=>
    have hn:¬(a.toNat<32\/126<a.toNat\/a.toNat=34):=λq=>by have:=hb.2 q;cases this
    simp only[af,TG];refine Wq.jr (λh=> ?_) (λh=> ?_)
    . have h:¬a.toNat=92:=by omega
      rw[show eo (a::t)=(a,1)from by rw[gB,if_neg hn,if_neg h]];exact Wq.ret hA1
    have h92:a.toNat=92:=by omega
    have hE:eo (a::t)=ld t:=by rw[gB,if_neg hn,if_pos h92]
    cases t with
    | nil=>
      simp only[af,aV _ bq,aT,ao];rw[hE];exact Wq.ret hA1
    | cons x t=>
      have e2:decide (((a::x::t).length:Int)<2)=false:=by simp;omega
      simp only[af,aV _ bq,aT,e2,ix1];refine Wq.ite (λh=> ?_) (λh1=> ?_)
      . rw[hE,show ld (x::t)=(34,2)from if_pos (by omega)];exact Wq.ret hA1
      refine Wq.ite (λh=> ?_) (λh2=> ?_)
      . rw[hE,show ld (x::t)=(92,2)from by rw[fp];rw[if_neg (by omega),if_pos (by omega)]];exact Wq.ret hA1
      refine Wq.ite (λh=> ?_) (λh3=> ?_)
      . rw[hE,show ld (x::t)=(10,2)from by rw[fp];rw[if_neg (by omega),if_neg (by omega),if_pos (by omega)]];exact Wq.ret hA1
      refine Wq.ite (λh=> ?_) (λh4=> ?_)
      . rw[hE,show ld (x::t)=(9,2)from by rw[fp];rw[if_neg (by omega),if_neg (by omega),if_neg (by omega),if_pos (by omega)]];exact Wq.ret hA1
      have hE2:ld (x::t)=if x.toNat=120 then Fh t else(0,0):=by rw[fp];rw[if_neg (by omega),if_neg (by omega),if_neg (by omega),if_neg (by omega)]
      rw[hE2]at hE;refine Wq.ite (λh=> ?_) (λh5=>L36f _ _ hA1 (by rw[hE,if_neg (by omega)]));rw[if_pos (by omega)]at hE;refine Wq.ite (λh6=> ?_) (λh6=>L36f _ _ hA1 (by
       rw[hE]
       match t with
       | []=>rfl
       | [_]=>rfl
       | y::z::r=>simp at h6;omega))
      obtain⟨y,z,r,rfl⟩:∃y z r,t=y::z::r:=by
       match t with
       | []=>simp at h6
       | [_]=>simp at h6
       | y::z::r=>exact⟨y,z,r,rfl⟩
      have hX:Fh (y::z::r)=if 0<=eR y/\0<=eR z then(dh (16*eR y+eR z).toNat,4)else(0,0):=rfl;rw[hX]at hE;simp only[af,ix2,ix3];refine Wq.call (Dc y) hA1 λH2 nx2 hA2=> ?_;simp only[af];refine Wq.ite (λh7=> ?_) (λh7=>L36f _ _ hA2 (by rw[hE,if_neg (by omega)]));refine Wq.call (Dc z) hA2 λH3 nx3 hA3=> ?_;simp only[af]
      by_cases h8:0<=eR z
      . rw[decide_eq_true h8];refine Wq.jmp (Ka ..) (λ_=>rfl) ?_;have a1:=wW y;have a2:=wW z;have e1:IntKind.i64.wrap (16*eR y)=16*eR y:=aS (by omega);have e3:IntKind.i64.wrap (16*eR y+eR z)=16*eR y+eR z:=aS (by omega);simp only[af,ix2,ix3];refine Wq.call (Dc y) hA3 λH4 nx4 hA4=> ?_;simp only[af];refine Wq.call (Dc z) hA4 λH5 nx5 hA5=> ?_;simp only[af,e1,e3,PN,cg];rw[hE,if_pos ⟨h7,h8⟩];have e4:IntKind.u8.wrap (16*eR y+eR z)=((dh (16*eR y+eR z).toNat).toNat:Int):=by
         rw[wrap_u8,gn];omega
        rw[e4];exact Wq.ret hA5
      . rw[decide_eq_false h8];exact L36f _ _ hA3 (by rw[hE,if_neg (by omega)])
 simp only[af,dL,Ky,TG];refine Wq.ite (λh=>L6 _ _ _ hA (by simp;omega)) (λh=> ?_);refine Wq.ite (λh2=>L6 _ _ _ hA (by simp;omega)) (λh2=> ?_);exact L6 _ _ _ hA (by rw[decide_eq_true_eq];omega)
end
end
end Go.Proofs.YthjhonhhbddhkaaGreatDoor
