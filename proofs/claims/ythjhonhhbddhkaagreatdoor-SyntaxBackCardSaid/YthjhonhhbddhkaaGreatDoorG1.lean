/- Texts of this claim, side by side. -/
import Derived.Orders
import Derived.Laws.Tables
import Derived.Below
import Derived.WalkKit
import Derived.MapKept
import Derived.Laws.BytesString
import Derived.Laws.StructEq
open List renaming length_map->aa,length_append->aj,mem_of_getElem?->ak,length_cons->ao,getElem?_eq_some_iff->ar,getElem?_eq_getElem->au,length_drop->aD,all_eq_true->aM,eq_nil_of_length_eq_zero->aQ,getElem?_append_left->bc,mem_map->bo,getElem?_eq_none->bt,getElem?_drop->bL,getElem?_take->bR,getElem?_map->bS,getElem?_append_right->bZ,length_take->cC,drop_drop->cH,length_singleton->dU,ext_getElem?->eE,range->fB,getElem?_set->gJ,getElem_mem->hU,rec->jL
open Bool renaming and_eq_true->ae,true_and->ai,eq_iff_iff->dk,or_eq_false_iff->dy,not_eq_true'->dY,false_eq_true->jW
open Nat renaming le_refl->ax,beq->ay,ble->bj,blt->bY,beq_refl->cm,succ->cS,le_of_ble_eq_true->dS,mod_lt->dV,mul_le_mul_right->fM,mod_eq_of_lt->hY,add_mul->ic,add->iq,succ_mul->ir,add_assoc->iK,mul_one->jk,le_mul_of_pos_right->j6
open Array renaming length_toList->ch,getElem?_eq_getElem->cE,getElem?_toList->dT,ext'->eU,getElem?_setIfInBounds_ne->fw,getElem?_setIfInBounds_self_of_lt->fF
open Option renaming rec->gm,map_none->jQ
open UInt8 renaming ofNat->dh
namespace Go.Ev
noncomputable section
set_option maxRecDepth 100000
set_option linter.unusedVariables false
set_option linter.unusedSimpArgs false
inductive T (α:Type) where
 | leaf
 | node (x:Option α) (l r:T α)
def qC (f:Nat):Nat->List Bool:=
 @Nat.rec (λ_=>Nat->List Bool) (λ_=>[])
  (λ_ a k=>Nat.casesOn k [] λm=>Nat.casesOn (Nat.mod m 2) (false::a (Nat.div m 2)) λ_=>true::a (Nat.div m 2)) f
def bits (k:Nat):List Bool:=qC k k
def T.get {α:Type}(c:List Bool):T α->Option α:=
 @jL Bool (λ_=>T α->Option α) (λt=>@T.rec α (λ_=>Option α) none (λx _ _ _ _=>x) t)
  (λb _ a t=>@T.rec α (λ_=>Option α) none (λ_ l r _ _=>@Bool.rec (λ_=>Option α) (a l) (a r) b) t) c
def fQ {α β:Type}(d:List Bool):T α->Option α->(T α->β)->β:=
 @jL Bool (λ_=>T α->Option α->(T α->β)->β)
  (λt v k=>@T.rec α (λ_=>β) (k (.node v .leaf .leaf)) (λ_ l r _ _=>k (.node v l r)) t)
  (λb _ a t v k=>@Bool.rec (λ_=>β)
   (@T.rec α (λ_=>β) (a .leaf v λl'=>k (.node none l' .leaf)) (λx l r _ _=>a l v λl'=>k (.node x l' r)) t)
   (@T.rec α (λ_=>β) (a .leaf v λc=>k (.node none .leaf c)) (λx l r _ _=>a r v λc=>k (.node x l c)) t) b) d
def full {α:Type}:Nat->α->T α
 | 0,_=> .leaf
 | d+1,v=> .node (some v) (full d v) (full d v)
def iX {α β:Type}(l:List α):Nat->T α->(T α->β)->β:=
 @jL α (λ_=>Nat->T α->(T α->β)->β) (λ_ t k=>k t)
  (λv _ a i t k=>fQ (bits i) t (some v) λt'=>a (cS i) t' k) l
def vd {α:Type}(t:T α)(n:Nat):Nat->Option (List α):=
 @Nat.rec (λ_=>Nat->Option (List α)) (λ_=>some [])
  (λ_ b i=>Option.casesOn (t.get (bits i)) none λv=>Option.casesOn (b (cS i)) none λl=>some (v::l)) n
def bK {β:Type}(b:Bool)(x y:β):β:=@Bool.rec (λ_=>β) y x b
def eF {β:Type}(n:Nat)(k:Nat->β):β:=match n with | 0=>k 0 | m+1=>k (cS m)
def Xz {β:Type}(n:Int)(k:Int->β):β:=match n with | .ofNat m=>eF m λm=>k (.ofNat m) | .negSucc m=>eF m λm=>k (.negSucc m)
def VG {β:Type}(i:IntKind)(k:IntKind->β):β:=
 match i with | .i8=>k .i8 | .i16=>k .i16 | .i32=>k .i32 | .i64=>k .i64 | .u8=>k .u8 | .u16=>k .u16 | .u32=>k .u32 | .u64=>k .u64
def VH {β:Type}(b:Bool)(k:Bool->β):β:=match b with | true=>k true | false=>k false
def HO {β:Type}(a:Addr)(k:Addr->β):β:=match a with
 | ⟨b,o,none⟩=>eF b λb=>eF o λo=>k ⟨b,o,none⟩
 | ⟨b,o,some s⟩=>k ⟨b,o,some s⟩
def zV {β:Type}(v:Value)(k:Value->β):β:=match v with
 | .bool b=>VH b λb=>k (.bool b)
 | .int i n=>VG i λi=>Xz n λn=>k (.int i n)
 | .pointer none=>k (.pointer none)
 | .pointer (some a)=>HO a λa=>k (.pointer (some a))
 | .slice none l c=>eF l λl=>eF c λc=>k (.slice none l c)
 | .slice (some a) l c=>HO a λa=>eF l λl=>eF c λc=>k (.slice (some a) l c)
 | v=>k v
def DR {β:Type}:List Value->(List Value->β)->β
 | [],k=>k []
 | v::l,k=>zV v λv=>DR l λl=>k (v::l)
def xf {β:Type}(v:Value)(k:Value->β):β:=match v with
 | .agg ⟨l⟩=>DR l λl=>k (.agg ⟨l⟩)
 | .tuple ⟨l⟩=>DR l λl=>k (.tuple ⟨l⟩)
 | v=>zV v k
def mg:Nat->Value->Bool
 | 0,_=>false
 | n+1,v=>match v with
   | .bool _=>true
   | .int _ _=>true
   | .float _ _=>true
   | .complex _ _ _=>true
   | .string _=>true
   | .pointer a=>match a with | none=>true | some _=>false
   | .slice a _ _=>match a with | none=>true | some _=>false
   | .map r=>match r with | none=>true | some _=>false
   | .chan r=>match r with | none=>true | some _=>false
   | .nilFunc=>true
   | .nilIface=>true
   | .iface _ v=>mg n v
   | .agg c=>c.toList.all (mg n)
   | .tuple c=>c.toList.all (mg n)
   | .func _ a b=>a.toList.isEmpty&&b.toList.isEmpty
def flat (v:Value):Bool:=mg 5 v
def bM (s:Nat)(es:List Value):Value:= .func (.yield s) ⟨es⟩ ⟨[.nilFunc]⟩
def ah (v:Value):Value:= .func (.yield 0) ⟨[v]⟩ ⟨[.nilIface]⟩
def kZ {β:Type}(v:Value)(k:Nat->List Value->β)(a:β):β:=match v with
 | .func (.yield s) ⟨es⟩ ⟨[.nilFunc]⟩=>k s es
 | _=>a
def epK {β:Type}(v:Value)(k:Value->β)(a:β):β:=match v with
 | .func (.yield _) ⟨[u]⟩ ⟨[.nilIface]⟩=>k u
 | _=>a
def A4 (i:Int):Bool:=match i with | .ofNat _=>true | .negSucc _=>false
def lI {β:Type}(i:Int)(k:Nat->β)(a:β):β:=bK (A4 i) (eF i.toNat k) a
def iw:Nat:=9223372036854775808
inductive OB where
 | cells (n:Nat) (t:T Value) (elem:TypeId)
 | ro (n:Nat) (t:T Value)
 | dead
 | map (es:List MapEntry) (clock:Nat)
 | iter (m:Option Nat) (since:Nat) (seen:List Nat) (last:Nat)
def dW {α:Type}(P:Program):Sem α->Option α
 | .pure a=>some a
 | .program k=>dW P (k P)
 | .mark _ k=>dW P k
 | _=>none
def cZ (P:Program)(tm:T Value):Operand->Option Value
 | .tmp t=>tm.get (bits t)
 | .const v=>bif flat v then some v else none
 | .global g=>bif bY g P.globals.size then some (.pointer (some ⟨g,0,none⟩))else none
 | .func f=>some (.func (.func f) #[] #[])
def bT (P:Program)(t:TypeId):Option Nat:=match P.info? t with | some i=>some i.size | none=>none
def gf (P:Program)(t:TypeId):Option Bool:=match P.underlying t with
 | some (.struct _)=>some true
 | some (.array _ _)=>some true
 | some _=>some false
 | none=>none
def dD (P:Program)(t:TypeId):Option (List Value):=match P.info? t with
 | some i=>match i.zero with
   | some v=>bif v.cells.toList.all flat then some v.cells.toList else none
   | none=>none
 | none=>none
def aC:Value->Bool
 | .agg _=>false
 | .tuple _=>false
 | _=>true
def ve (P:Program)(tm:T Value):List Operand->Option (List Value)
 | []=>some []
 | x::l=>match cZ P tm x with
   | none=>none
   | some v=>match ve P tm l with
     | none=>none
     | some vs=>some (v::vs)
def aw {α β:Type}(x:Option α)(k:α->β)(a:β):β:=@gm α (λ_=>β) a k x
def DS {β:Type}(v:Option Value)(k:Nat->Nat->β)(a:β):β:=match v with
 | some (.pointer (some ⟨b,off,none⟩))=>k b off
 | _=>a
def gM {β:Type}(x:Option OB)(k:Nat->T Value->TypeId->β)(a:β):β:=match x with
 | some (.cells n t e)=>k n t e
 | _=>a
def zB {β:Type}(x:Option OB)(k:Nat->T Value->β)(a:β):β:=match x with
 | some (.cells n t _)=>k n t
 | some (.ro n t)=>k n t
 | _=>a
def fU {β:Type}(P:Program)(t:TypeId)(k:TypeId->Nat->β)(a:β):β:=match P.underlying t with
 | some (.slice e)=>aw (bT P e) (λs=>k e s) a
 | _=>a
def xg (n:Nat)(tr:T Value)(off:Nat):Option Value:=bif bY off n then tr.get (bits off)else none
def xh (P:Program)(n:Nat)(tr:T Value)(t:TypeId)(off:Nat):Option Value:=
 aw (bT P t) (λs=>bif bj (off+s) n then aw (vd tr s off) (λl=>some (.agg ⟨l⟩)) none else none) none
def oz (P:Program)(n:Nat)(tr:T Value)(t:TypeId)(off:Nat):Option Value:=
 aw (gf P t) (λa=>bif a then xh P n tr t off else xg n tr off) none
def nX (P:Program)(H:T OB)(t:TypeId)(b off:Nat):Option Value:=
 zB (H.get (bits b)) (λn tr=>oz P n tr t off) none
def parts (P:Program)(tm:T Value):List (Nat×Operand)->Option (List (Nat×Value))
 | []=>some []
 | p::l=>match cZ P tm p.2 with
   | none=>none
   | some v=>match parts P tm l with
     | none=>none
     | some vs=>some ((p.1,v)::vs)
def FZ (v:Option Value):Option Nat:=match v with
 | some (.int _ i)=>bif A4 i then some i.toNat else none
 | _=>none
def j8 (P:Program)(tm:T Value)(x:Option Operand):Option (Option Value):=match x with
 | none=>some none
 | some x=>match cZ P tm x with
   | some v=>some (some v)
   | none=>none
def bound (x:Option (Option Value))(d:Nat):Option Nat:=match x with
 | some none=>some d
 | some (some v)=>FZ (some v)
 | none=>none
def xi (r:Option Next):Option Value:=match r with
 | some (.value v)=>xf v λv=>bif flat v then some v else none
 | _=>none
def vS (s:Sem Value):Sem Next:=do pure (.value (<- s))
def fV (P:Program)(s:Sem Value):Option Value:=xi (dW P (vS s))
def HP (P:Program)(b:UnOp)(a:Option Value):Option Value:=aw a (λa=>bif flat a then fV P (Op.unary b a)else none) none
def DT (P:Program)(s d:TypeId)(a:Value):Option Value:=bif flat a then fV P (convert s d a)else none
def HQ (x:Option Value):Bool:=match x with | none=>true | some v=>flat v
def tz (P:Program)(t:TypeId)(a:Value)(b c mx:Option (Option Value)):Option Value:=
 aw b (λb=>aw c (λc=>aw mx (λmx=>bif flat a&&(HQ b&&(HQ c&&HQ mx))then fV P (Instr.sliceAt t a b c mx)else none) none) none) none
def F0 (P:Program)(t:TypeId)(a i:Value):Option Value:=bif flat a&&flat i then fV P (Instr.index t a i)else none
def nk (P:Program)(b:Builtin)(ts:Array TypeId)(a:TypeId)(vs:Option (List Value)):Option Value:=
 aw vs (λl=>bif l.all flat then xi (dW P (builtin b ts a #[] ⟨l⟩))else none) none
def F2 (d:TypeDesc)(x y:Value):Option Bool:=match d,x,y with
 | .pointer _,.pointer (some _),.pointer none=>some false
 | .pointer _,.pointer none,.pointer (some _)=>some false
 | .slice _,.slice (some _) _ _,.slice none _ _=>some false
 | .slice _,.slice none _ _,.slice (some _) _ _=>some false
 | .map _ _,.map (some _),.map none=>some false
 | .map _ _,.map none,.map (some _)=>some false
 | .interface _,.iface _ _,.nilIface=>some false
 | .interface _,.nilIface,.iface _ _=>some false
 | .pointer _,.func (.yield _) ⟨[_]⟩ ⟨[.nilIface]⟩,.pointer none=>some false
 | .pointer _,.pointer none,.func (.yield _) ⟨[_]⟩ ⟨[.nilIface]⟩=>some false
 | .slice _,.func (.yield _) ⟨_::_⟩ ⟨[.nilFunc]⟩,.slice none _ _=>some false
 | .slice _,.slice none _ _,.func (.yield _) ⟨_::_⟩ ⟨[.nilFunc]⟩=>some false
 | _,_,_=>none
def q_ (v:Value):Bool:=match v with
 | .agg _=>true
 | _=>false
def zA (a:Option Bool)(s:Option Nat)(u:Value):Option Value:=
 aw a (λa=>aw s (λs=>bif (bK a (q_ u) (!q_ u))&&ay u.cells.toList.length s then some u else none) none) none
def aA (P:Program)(H:T OB)(t:TypeId)(v:Option Value):Option Value:=match v with
 | some (.pointer (some ⟨b,off,none⟩))=>nX P H t b off
 | some v=>epK v (zA (gf P t) (bT P t)) none
 | none=>none
def xj (c a b:Option Value):Option Value:=match c with
 | some (.bool x)=>bK x a b
 | _=>none
def rT (v:Option Value):Option Value:=match v with
 | some (.pointer (some a))=>some (.pointer (some a))
 | some (.func (.func g) a b)=>some (.func (.func g) a b)
 | some (.iface t v)=>some (.iface t v)
 | some v=>epK v (λ_=>some v) none
 | none=>none
def oA (P:Program)(s:TypeId)(f:Nat):Option Nat:=match P.underlying s with
 | some (.struct fs)=>match fs[f]? with
   | some a=>match bT P a.type with
     | some (_+1)=>some a.offset
     | _=>none
   | none=>none
 | _=>none
def qD {β:Type}(P:Program)(t:TypeId)(k:Nat->Nat->β)(a:β):β:=match P.underlying t with
 | some (.array len e)=>aw (bT P e) (λs=>k len s) a
 | _=>a
def RY (z:Option Nat)(s:Nat)(es:List Value)(i:Nat):Option Value:=aw z (λz=>bif ay s z then aw es[i]? (λu=>some (ah u)) none else none) none
def tA (P:Program)(t:TypeId):Option Nat:=fU P t (λ_ s=>some s) none
def MP (P:Program)(t:TypeId)(x:Option Value)(i:Nat):Option Value:=match x with
 | some (.slice (some ⟨b,off,none⟩) len _)=>aw (tA P t) (λs=>bif bY i len then eF (iq off (Nat.mul i s)) (λo=>some (.pointer (some ⟨b,o,none⟩)))else none) none
 | some (.pointer (some ⟨b,off,none⟩))=>
   qD P t (λlen s=>bif bY i len then eF (iq off (Nat.mul i s)) (λo=>some (.pointer (some ⟨b,o,none⟩)))else none) none
 | some v=>kZ v (λs es=>RY (tA P t) s es i) none
 | none=>none
def cq (P:Program)(t:TypeId)(x a:Option Value):Option Value:=match a with
 | some (.int _ i)=>lI i (MP P t x) none
 | _=>none
def RZ (P:Program)(t:TypeId)(cs:List Value)(i:Nat):Option Value:=match P.underlying t with
    | some (.array len e)=>bif bY i len then(match gf P e with
      | some true=>match bT P e with
        | some s=>bif bj (i*s+s) cs.length then some (.agg ⟨(cs.drop (i*s)).take s⟩)else none
        | none=>none
      | some false=>match bT P e with
        | some s=>cs[i*s]?
        | none=>none
      | none=>none)else none
    | _=>none
def eB (P:Program)(t:TypeId)(x a:Option Value):Option Value:=match a with
 | some (.int k i)=>(match x with
   | some (.agg ⟨cs⟩)=>lI i (RZ P t cs) none
   | some v=>F0 P t v (.int k i)
   | none=>none)
 | _=>none
def bH (v:Option Value)(i:Nat):Option Value:=match v with
 | some (.tuple vs)=>vs.toList[i]?
 | _=>none
def nm (P:Program)(t:TypeId)(f:Nat):Option (Nat×Option Nat):=match P.underlying t with
 | some (.struct fs)=>match fs[f]? with
   | some a=>match gf P a.type with
     | some true=>match bT P a.type with
       | some s=>some (a.offset,some s)
       | none=>none
     | some false=>some (a.offset,none)
     | none=>none
   | none=>none
 | _=>none
def adu (p:Option (Nat×Option Nat))(cs:List Value):Option Value:=match p with
    | some (off,some s)=>bif bj (off+s) cs.length then some (.agg ⟨(cs.drop off).take s⟩)else none
    | some (off,none)=>cs[off]?
    | none=>none
def rdField (P:Program)(t:TypeId)(v:Option Value)(f:Nat):Option Value:=match v with
 | some (.agg ⟨cs⟩)=>adu (nm P t f) cs
 | _=>none
def adv (p:Option (Nat×Option Nat))(cs:List Value):Option Value:=match p with
    | some (off,some s)=>bif bj (off+s) cs.length then some (.agg ⟨(cs.drop off).take s⟩)else none
    | some (off,none)=>aw cs[off]? (λv=>bif aC v then some v else none) none
    | none=>none
def faV (d:Option Nat)(p:Option (Nat×Option Nat))(v:Value):Option Value:=match v with
 | .pointer (some ⟨b,off,none⟩)=>aw d (λd=>eF (iq off d) λo=>some (.pointer (some ⟨b,o,none⟩))) none
 | v=>epK v (λu=>aw d (λ_=>match u with
   | .agg ⟨cs⟩=>aw (adv p cs) (λx=>some (ah x)) none
   | _=>none) none) none
def aq (P:Program)(s:TypeId)(v:Option Value)(f:Nat):Option Value:=aw v (faV (oA P s f) (nm P s f)) none
def lJ (b off d s l h:Nat):Option Value:=
 bif bj l h&&bj h d&&bY d iw then
  eF (Nat.sub h l) λn=>(bif ay d l then some (.slice (some ⟨b,off,none⟩) n 0)else eF (iq off (Nat.mul l s)) λo=>eF (Nat.sub d l) λc=>some (.slice (some ⟨b,o,none⟩) n c))
 else none
def xk (P:Program)(H:T OB)(b s:Nat):Bool:=gM (H.get (bits b)) (λ_ _ el=>aw (bT P el) (λz=>ay z s) false) false
def tB (P:Program)(H:T OB)(b off len s l h:Nat):Option Value:=
 bif bj l h&&bj h len then
  (bif ay l 0 then some (.slice (some ⟨b,off,none⟩) h iw)
   else bif bY l len&&xk P H b s then eF (Nat.sub h l) (λn=>eF (iq off (Nat.mul l s)) λo=>some (.slice (some ⟨b,o,none⟩) n iw))else none)
 else none
def slR (es:List Value)(s l h:Nat):Option Value:=bif bj l h&&bj h es.length then some (bM s ((es.drop l).take (h-l)))else none
def tC (v:Value):Bool:=kZ v (λ_ _=>true) false
def cw (P:Program)(H:T OB)(t:TypeId)(x:Option Value)(c a mx:Option (Option Value)):Option Value:=match x with
 | some (.slice (some ⟨b,off,none⟩) len cap)=>bif (match mx with | some none=>true | _=>false)then
   aw (tA P t) (λs=>aw (bound c 0) (λl=>aw (bound a len) (λh=>bif ay cap iw then tB P H b off len s l h else lJ b off cap s l h) none) none) none else none
 | some (.pointer (some ⟨b,off,none⟩))=>bif (match mx with | some none=>true | _=>false)then
   qD P t (λn s=>aw (bound c 0) (λl=>aw (bound a n) (λh=>lJ b off n s l h) none) none) none else none
 | some v=>bK (tC v) (bif (match mx with | some none=>true | _=>false)then kZ v (λs es=>aw (tA P t) (λz=>bif ay s z then aw (bound c 0) (λl=>aw (bound a es.length) (λh=>slR es s l h) none) none else none) none) none else none) (tz P t v c a mx)
 | none=>none
def kb (P:Program)(t:Option TypeId):Bool:=match t with
 | some t=>match P.underlying t with
   | some (.slice _)=>true
   | _=>false
 | none=>false
def e_ (P:Program)(ts:Array TypeId)(a:TypeId)(vs:Option (List Value)):Option Value:=match vs with
 | some [.slice (some _) n _]=>bif kb P ts[0]? then some (.int .i64 (.ofNat n))else none
 | some [v]=>bK (tC v) (kZ v (λ_ es=>bif kb P ts[0]? then some (.int .i64 (.ofNat es.length))else none) none) (nk P .len ts a (some [v]))
 | _=>none
def MQ (P:Program)(c:BinOp)(t:TypeId)(a b:Value):Option Value:=match P.underlying t with
 | some d=>match F2 d a b with
   | some r=>(match c with
     | .eql=>some (.bool r)
     | .neq=>some (.bool (!r))
     | _=>none)
   | none=>none
 | none=>none
def nn (H:T OB)(b:Nat):Bool:=gM (H.get (bits b)) (λ_ _ _=>true) false
def xm (P:Program)(H:T OB)(c:BinOp)(t:TypeId)(a b:Value):Option Value:=match P.underlying t,a,b with
 | some (.pointer e),.pointer (some ⟨x,i,none⟩),.pointer (some ⟨y,j,none⟩)=>match bT P e with
   | some (_+1)=>bif nn H x&&nn H y then(match c with
     | .eql=>some (.bool (ay x y&&ay i j))
     | .neq=>some (.bool (!(ay x y&&ay i j)))
     | _=>none)else none
   | _=>none
 | _,_,_=>MQ P c t a b
def xn (v:Value):Bool:=match v with
 | .nilIface=>true
 | _=>false
def zC (x:Operand):Bool:=match x with
 | .const _=>true
 | _=>false
def kOp:Operand:= .const .nilIface
def A5 (P:Program)(c:BinOp)(t:TypeId)(a b:Value):Option Value:=fV P (do eqGuard c t kOp kOp a b;binOp c t a b)
def A6 (k:Nat)(v w:Value):Option Bool:=match k,v,w with
 | 0,.int k a,.int k' b=>bif decide (k=k')then some (a == b)else none
 | 1,.string a,.string b=>some (a.toList == b.toList)
 | 2,.bool a,.bool b=>some (a == b)
 | _,_,_=>none
def uG (c:List Nat)(l m:List Value):Option Bool:=match c,l,m with
 | [],[],[]=>some true
 | k::c,a::l,b::m=>aw (A6 k a b) (λr=>aw (uG c l m) (λd=>some (r&&d)) none) none
 | _,_,_=>none
def zW (P:Program)(t:TypeId):Option Nat:=match P.underlying t with
 | some (.int _)=>some 0
 | some .string=>some 1
 | some .bool=>some 2
 | _=>none
def vw (P:Program):List Field->Nat->Option (List Nat)
 | [],_=>some []
 | f::fs,i=>bif !(f.name == "_")&&ay f.offset i then aw (zW P f.type) (λk=>aw (vw P fs (i+1)) (λa=>some (k::a)) none) none else none
def F3 (P:Program)(t:TypeId):Option (List Nat):=match P.underlying t with
 | some (.struct fs)=>bif !P.stoodInHeld t && !P.eqGuardType P.depth t then vw P fs.toList 0 else none
 | _=>none
def eqB (a:BinOp)(r:Bool):Option Value:=match a with
 | .eql=>some (.bool r)
 | .neq=>some (.bool (!r))
 | _=>none
def oB (P:Program)(H:T OB)(c:BinOp)(t:TypeId)(q:Bool)(a b:Value):Option Value:=
 bif flat a&&flat b then(bif q || !(xn a&&xn b)then A5 P c t a b else none)else xm P H c t a b
def MR (n:Option (List Nat))(c:BinOp)(l m:List Value)(a:Option Value):Option Value:=match n with
 | some b=>aw (uG b l m) (eqB c) none
 | none=>a
def F4 (P:Program)(H:T OB)(c:BinOp)(t:TypeId)(q:Bool)(a b:Value):Option Value:=match a,b with
 | .agg ⟨l⟩,.agg ⟨m⟩=>MR (F3 P t) c l m (oB P H c t q (.agg ⟨l⟩) (.agg ⟨m⟩))
 | a,b=>oB P H c t q a b
def dx (P:Program)(H:T OB)(b:BinOp)(t:TypeId)(q:Bool)(x y:Option Value):Option Value:=
 aw x (λa=>aw y (F4 P H b t q a) none) none
def cA (P:Program)(t:TypeId)(ps:Option (List (Nat×Value))):Option Value:=
 aw ps (λvs=>aw (dD P t) (λ_=>aw (P.built t vs) (λcs=>xf (.agg cs) some) none) none) none
def nr (P:Program)(t:TypeId)(v:Option Value):Option Value:=match P.underlying t with
 | some (.interface _)=>none
 | some _=>aw v (λv=>some (.iface t v)) none
 | none=>none
def xo (fn:Fn)(first:List Operand)(a:Option (List Value)):Option Value:=match fn,first with
 | .func g,[]=>aw a (λl=>some (.func (.func g) #[] ⟨l⟩)) none
 | _,_=>none
def xp (P:Program)(t:TypeId):Option Value:=match P.info? t with
 | some i=>(match i.zero with | some z=>bif flat z then some z else none | none=>none)
 | none=>none
def okV (a:Bool)(v:Value)(b:Bool):Value:=bif a then .tuple #[v,.bool b]else v
def DU (P:Program)(t:TypeId):Bool:=match P.underlying t with
 | some (.interface _)=>false
 | some _=>true
 | none=>false
def lK (P:Program)(v:Option Value)(t:TypeId)(a:Bool):Option Value:=bif DU P t then(match v with
    | some (.iface u x)=>bif ay u t then some (okV a x true)else bif a then aw (xp P t) (λz=>some (.tuple #[z,.bool false])) none else none
    | some .nilIface=>bif a then aw (xp P t) (λz=>some (.tuple #[z,.bool false])) none else none
    | _=>none)else none
def mh (d:TypeDesc):Bool:=match d with
 | .int _=>true
 | .string=>true
 | .bool=>true
 | _=>false
def F5 (H:T OB)(m:Option Value):Option (List MapEntry):=match m with
 | some (.map none)=>some []
 | some (.map (some b))=>match H.get (bits b)with
   | some (.map es _)=>some es
   | _=>none
 | _=>none
def qE {β:Type}(P:Program)(t:TypeId)(k:TypeDesc->TypeId->β)(a:β):β:=match P.underlying t with
 | some (.map kt et)=>aw (P.underlying kt) (λd=>bif mh d then k d et else a) a
 | _=>a
def HS (P:Program)(b:TypeId)(a:Bool)(r:Option (Option (Nat×Value))):Option Value:=match r with
 | some (some (_,v))=>some (okV a v true)
 | some none=>aw (xp P b) (λz=>some (okV a z false)) none
 | none=>none
def eA (P:Program)(H:T OB)(t:TypeId)(m k:Option Value)(a:Bool):Option Value:=
 qE P t (λd b=>aw (F5 H m) (λes=>aw k (λk=>HS P b a (Instr.findNow d k es 0)) none) none) none
def strOf (l:List Value):Option (List UInt8):=match l with
 | []=>some []
 | .int .u8 (.ofNat n)::l=>match strOf l with | some r=>some (n.toUInt8::r) | none=>none
 | _=>none
def iy (P:Program)(s d:TypeId):Bool:=match P.underlying s,P.underlying d with
 | some (.slice e),some .string=>(match P.underlying e with | some (.int .u8)=>true | _=>false)
 | _,_=>false
def ec (P:Program)(H:T OB)(s d:TypeId)(x:Option Value):Option Value:=match x with
 | some (.slice (some ⟨b,off,none⟩) n _)=>bif iy P s d then zB (H.get (bits b)) (λm tr=>bif bj (off+n) m then aw (vd tr n off) (λl=>aw (strOf l) (λr=>some (.string ⟨⟨r⟩⟩)) none) none else none) none else none
 | some v=>bK (tC v) (kZ v (λs' es=>bif iy P s d&&ay s' 1 then aw (strOf es) (λr=>some (.string ⟨⟨r⟩⟩)) none else none) none) (DT P s d v)
 | none=>none
def xr (P:Program)(tm:T Value)(o:Oper)(c:Call):Option Value:=match c.callee with
 | .builtin .len=>e_ P c.argTypes o.type (ve P tm c.args.toList)
 | .builtin .max=>nk P .max c.argTypes o.type (ve P tm c.args.toList)
 | .builtin .min=>nk P .min c.argTypes o.type (ve P tm c.args.toList)
 | _=>none
def rd (P:Program)(H:T OB)(tm:T Value)(o:Oper):Option Value:=match o.op with
 | .move x=>cZ P tm x
 | .assign x=>cZ P tm x
 | .pick c a b=>xj (cZ P tm c) (cZ P tm a) (cZ P tm b)
 | .load t x=>aA P H t (cZ P tm x)
 | .nilCheck x=>rT (cZ P tm x)
 | .fieldAddr s x f=>aq P s (cZ P tm x) f
 | .indexAddr t x h=>cq P t (cZ P tm x) (cZ P tm h)
 | .extract x i=>bH (cZ P tm x) i
 | .field t x f=>rdField P t (cZ P tm x) f
 | .slice t x n l mx=>cw P H t (cZ P tm x) (j8 P tm n) (j8 P tm l) (j8 P tm mx)
 | .call c=>xr P tm o c
 | .binOp e t x y _=>dx P H e t (zC x||zC y) (cZ P tm x) (cZ P tm y)
 | .build t ps=>cA P t (parts P tm ps.toList)
 | .makeInterface t x=>nr P t (cZ P tm x)
 | .unOp e _ x=>HP P e (cZ P tm x)
 | .convert s d x=>ec P H s d (cZ P tm x)
 | .makeFunc fn a b=>xo fn a.toList (ve P tm b.toList)
 | .typeAssert x _ t j=>lK P (cZ P tm x) t j
 | .lookup t m k j=>eA P H t (cZ P tm m) (cZ P tm k) j
 | .index t x h=>eB P t (cZ P tm x) (cZ P tm h)
 | _=>none
def F6:Op->Bool
 | .move _=>true
 | .assign _=>true
 | .pick _ _ _=>true
 | .load _ _=>true
 | .nilCheck _=>true
 | .fieldAddr _ _ _=>true
 | .indexAddr _ _ _=>true
 | .extract _ _=>true
 | .field _ _ _=>true
 | .slice _ _ _ _ _=>true
 | .build _ _=>true
 | .makeInterface _ _=>true
 | .binOp _ _ _ _ _=>true
 | .unOp _ _ _=>true
 | .convert _ _ _=>true
 | .index _ _ _=>true
 | .makeFunc _ _ _=>true
 | .typeAssert _ _ _ _=>true
 | .lookup _ _ _ _=>true
 | .call c=>match c.callee with
   | .builtin b=>(match b with | .len=>true | .max=>true | .min=>true | _=>false)
   | _=>false
 | _=>false
def aaJ:Op->Bool
 | .buildSlice _ _ _=>true
 | _=>false
def xu:Op->Bool
 | .alloc _=>true
 | .buildSlice _ _ _=>true
 | _=>false
def DW {β:Type}(H:T OB)(nx:Nat)(e:TypeId)(l:List Value)(k:T OB->Nat->β):β:=
 iX l 0 .leaf λt=>eF l.length λn=>fQ (bits nx) H (some (.cells n t e)) λH=>eF (cS nx) λn=>k H n
def oC (P:Program)(f:FuncId):Bool:=match P.funcs[f]? with
 | some fn=>fn.body.isSome && !(fn.name == "runtime.NumGoroutine")
 | none=>false
inductive iV where
 | val (v:Value) (H:T OB) (nx:Nat)
 | call (f:FuncId) (args:List Value)
 | dfr (f:FuncId) (args:List Value)
 | j_ (v:Value)
 | rcv
 | bad
def nY (nx:Nat):Value:= .pointer (some ⟨nx,0,none⟩)
def eN (P:Program)(H:T OB)(nx:Nat)(e:TypeId):iV:=
 aw (dD P e) (λl=>DW H nx e l λH n=> .val (nY nx) H n) .bad
def mi (H:T OB)(nx:Nat)(e:TypeId)(v:Option Value):iV:=
 aw v (λv=>DW H nx e v.cells.toList λH n=> .val (nY nx) H n) .bad
def eD (P:Program)(H:T OB)(nx:Nat)(t:TypeId)(a v:Option Value):iV:=
 DS a (λb off=>aw v (λv=>gM (H.get (bits b)) (λn tr e=>aw (bT P t) (λs=>
  bif ay v.cells.toList.length s&&bj (off+s) n&&v.cells.toList.all aC then
   iX v.cells.toList off tr λtr=>fQ (bits b) H (some (.cells n tr e)) λH=> .val undef H nx
  else .bad) .bad) .bad) .bad) .bad
def cI (z:List Value)(n:Nat):Array Value:=(Array.range n).map (z.toArray[· % z.toArray.size]!)
def bC (P:Program)(H:T OB)(nx:Nat)(t:TypeId)(len:Nat)(ps:Option (List (Nat×Value))):iV:=
 aw ps (λvs=>fU P t (λe s=>aw (dD P e) (λz=>
  bif bj (len*s) 16777216&&bY 0 (len*s)&&bY 0 z.length then
   aw (Instr.fill (λi=>some (i*s,s)) (cI z (len*s)) vs) (λa=>DW H nx e a.toList λH n=>eF len λlen=> .val (.slice (some ⟨nx,0,none⟩) len len) H n) .bad
  else .bad) .bad) .bad) .bad
def gu (z:List Value):Nat->List Value
 | 0=>[]
 | n+1=>z++gu z n
def Lp (P:Program)(H:T OB)(nx:Nat)(e:TypeId)(l c:Nat):iV:=match P.info? e,dD P e with
    | some i,some z=>
      bif bj l c&&bj (i.bytes*c) 281474976710656&&bj c 274877906944&&ay i.size z.length&&bY 0 i.size then(match z with
       | [z]=>fQ (bits nx) H (some (.cells c (full 40 z) e)) λH=>eF (cS nx) λn=> .val (.slice (some ⟨nx,0,none⟩) l c) H n
       | z=>bif bj (c*i.size) 40000 then DW H nx e (gu z c) λH n=> .val (.slice (some ⟨nx,0,none⟩) l c) H n else .bad)
      else .bad
    | _,_=> .bad
def k0 (P:Program)(H:T OB)(nx:Nat)(t:TypeId)(l c:Option Value):iV:=match l,c,P.underlying t with
 | some (.int .i64 l),some (.int .i64 c),some (.slice e)=>lI l (λl=>lI c (λc=>Lp P H nx e l c) .bad) .bad
 | _,_,_=> .bad
def DX (P:Program)(f:Option Value)(l:Option (List Value)):iV:=match f with
 | some (.func (.func g) ⟨[]⟩ ⟨cap⟩)=>aw l (λl=>bif oC P g then .call g (l++cap)else .bad) .bad
 | _=> .bad
def cellsOf (H:T OB)(s:Nat)(a:Option Addr)(n:Nat):Option (List Value):=match a with
 | none=>bif ay n 0 then some []else none
 | some ⟨b,off,none⟩=>zB (H.get (bits b)) (λm tr=>bif bj (off+n*s) m then vd tr (n*s) off else none) none
 | _=>none
def kD (H:T OB)(nx:Nat)(e:TypeId)(m:Nat)(l:List Value):iV:=
 DW H nx e l λH n=>eF m λm=> .val (.slice (some ⟨nx,0,none⟩) m iw) H n
def XA (P:Program)(H:T OB)(nx:Nat)(e:TypeId)(s b off c d n:Nat)(tr:T Value)(xs:List Value):iV:=
 bif ay off 0&&bj (c*s) n&&xk P H b s&&xs.all aC then
  aw (vd tr (c*s) 0) (λa=>fQ (bits b) H (some .dead) λH=>kD H nx e (c+d) (a++xs)) .bad else .bad
def Lq (H:T OB)(nx:Nat)(s b off a c d n:Nat)(tr:T Value)(el:TypeId)(xs:List Value):iV:=
 bif bj (off+c*s) n&&xs.all aC then
  iX xs (off+a*s) tr λtr=>fQ (bits b) H (some (.cells n tr el)) λH=>eF (a+d) λm=> .val (.slice (some ⟨b,off,none⟩) m c) H nx
 else .bad
def uH (H:T OB)(nx:Nat)(e:TypeId)(s off b c n:Nat)(tr:T Value)(xs:List Value):iV:=
 bif bj (off+b*s) n&&bY 0 c then aw (vd tr (b*s) off) (λa=>kD H nx e (b+c) (a++xs)) .bad else .bad
def zD (P:Program)(H:T OB)(nx:Nat)(e:TypeId)(s b off c f d:Nat)(xs:List Value):iV:=
 gM (H.get (bits b)) (λn tr el=>bif ay f iw then XA P H nx e s b off c d n tr xs
  else bif bj (c+d) f then Lq H nx s b off c f d n tr el xs else uH H nx e s off c d n tr xs) .bad
def da (P:Program)(e:TypeId)(s dj:Nat):Bool:=match P.info? e,dD P e with
 | some i,some z=>ay z.length s&&bY 0 s&&bj dj 1048576&&bj i.bytes 65536
 | _,_=>false
def rU (P:Program)(H:T OB)(nx:Nat)(e:TypeId)(s:Nat)(a:Option Addr)(d f c:Nat)(xs:List Value):iV:=match a with
 | none=>bif ay d 0&&ay f 0 then(bif ay c 0 then .val (.slice none 0 0) H nx else kD H nx e c xs)else .bad
 | some ⟨b,off,none⟩=>zD P H nx e s b off d f c xs
 | _=> .bad
def qv (H:T OB)(s:Nat)(v:Value):Option (Nat×List Value):=match v with
 | .slice b a _=>aw (cellsOf H s b a) (λl=>some (a,l)) none
 | v=>kZ v (λs' es=>bif ay s' s then some (es.length,es.flatMap λu=>u.cells.toList)else none) none
def rV (P:Program)(H:T OB)(nx:Nat)(ts:List TypeId)(l:Option (List Value)):iV:=match l,ts with
 | some [.slice base sl sc,xv],[t,u]=>bif !Nat.beq t u then .bad else fU P t (λe s=>aw (qv H s xv) (λp=>bif da P e s (sl+p.1)then rU P H nx e s base sl sc p.1 p.2 else .bad) .bad) .bad
 | _,_=> .bad
def A7 {β:Type}(x:Option OB)(k:List MapEntry->Nat->β)(a:β):β:=match x with
 | some (.map es c)=>k es c
 | _=>a
def MS (H:T OB)(nx b:Nat)(es:List MapEntry)(c:Nat)(k v:Value)(r:Option (Option (Nat×Value))):iV:=match r with
 | some (some (i,_))=>fQ (bits b) H (some (.map (es.modify i λe=>{ e with key:=k,val:=v }) c)) λH=> .val undef H nx
 | some none=>eF (cS c) λc'=>fQ (bits b) H (some (.map (es++[⟨k,v,c⟩]) c')) λH=> .val undef H nx
 | none=> .bad
def VI (m:Option Value):Option Nat:=match m with
 | some (.map (some b))=>some b
 | _=>none
def db (P:Program)(H:T OB)(nx:Nat)(t:TypeId)(m k v:Option Value):iV:=
 qE P t (λd _=>aw (VI m) (λb=>aw k (λk=>aw v (λv=>A7 (H.get (bits b)) (λes c=>MS H nx b es c k v (Instr.findNow d k es 0)) .bad) .bad) .bad) .bad) .bad
def MT (P:Program)(t:TypeId):Bool:=match P.underlying t with
 | some (.map _ _)=>true
 | _=>false
def po (H:T OB)(nx:Nat)(m:Option Nat)(c:Nat):iV:=
 fQ (bits nx) H (some (.iter m c [] c)) λH=>eF (cS nx) λn=> .val (nY nx) H n
def A8 (P:Program)(H:T OB)(nx:Nat)(t:TypeId)(m:Option Value):iV:=bif MT P t then(match m with
 | some (.map none)=>po H nx none 0
 | some (.map (some b))=>A7 (H.get (bits b)) (λ_ c=>po H nx (some b) c) .bad
 | _=> .bad)else .bad
def xw {β:Type}(x:Option OB)(k:Option Nat->Nat->List Nat->Nat->β)(b:β):β:=match x with
 | some (.iter m s l c)=>k m s l c
 | _=>b
def F7 (H:T OB)(nx r m a c:Nat)(b:List Nat)(l:List MapEntry):iV:=match l with
 | []=> .val (.tuple #[.bool false]) H nx
 | [e]=>bif bY e.born a then fQ (bits r) H (some (.iter (some m) a (b++[e.born]) c)) λH=> .val (.tuple #[.bool true,e.key,e.val]) H nx else .bad
 | _=> .bad
def zX (H:T OB)(nx r m b d:Nat)(a:List Nat):iV:=
 A7 (H.get (bits m)) (λes c=>bif !a.isEmpty && !es.isEmpty&&es.all (λe=>bj d e.born)then .bad else F7 H nx r m b c a (es.filter λe=> !a.contains e.born)) .bad
def F8 (H:T OB)(nx:Nat)(e:Option Value)(a:Bool):iV:=bif a then .bad else
 DS e (λr off=>bif ay off 0 then xw (H.get (bits r)) (λm b c d=>match m with
  | none=> .val (.tuple #[.bool false]) H nx
  | some m=>zX H nx r m b d c) .bad else .bad) .bad
def A9 (H:T OB)(nx:Nat)(es:List MapEntry)(a:Nat):iV:=match es.find? (λe=>e.born == a)with
 | some e=> .val (.tuple #[e.key,e.val]) H nx
 | none=> .bad
def A_ (H:T OB)(nx:Nat)(e:Option Value):iV:=
 DS e (λr off=>bif ay off 0 then xw (H.get (bits r)) (λm _ a b=>aw m (λm=>aw a.getLast? (λd=>A7 (H.get (bits m)) (λes c=>bif ay c b then A9 H nx es d else .bad) .bad) .bad) .bad) .bad else .bad) .bad
def re (P:Program)(t:TypeId):Bool:=match P.underlying t with
 | some .string=>true
 | _=>false
def fe (P:Program)(H:T OB)(nx:Nat)(ts:List TypeId)(l:Option (List Value)):iV:=match l,ts with
 | some [.slice base sl sc,.string b],[t,u]=>bif re P u then fU P t (λe s=>bif da P e s (sl+b.size)&&ay s 1 then rU P H nx e s base sl sc b.size (b.data.toList.map λx=> .int .u8 (.ofNat x.toNat))else .bad) .bad else .bad
 | _,_=>rV P H nx ts l
def lg (P:Program)(H:T OB)(nx:Nat)(tm:T Value)(c:Call):iV:=match c.callee with
 | .value f=>DX P (cZ P tm f) (ve P tm c.args.toList)
 | .builtin .append=>fe P H nx c.argTypes.toList (ve P tm c.args.toList)
 | .builtin .recover=> .rcv
 | .builtin .panic=> .bad
 | _=> .bad
def F9 (v:Option Value):iV:=match v with
 | some (.iface t v)=> .j_ (.iface t v)
 | _=> .bad
def nu (c:iV):iV:=match c with
 | .call f l=> .dfr f l
 | _=> .bad
def iI (H:T OB)(nx:Nat):iV:=fQ (bits nx) H (some (.map [] 0)) λH=>eF (cS nx) λn=> .val (.map (some nx)) H n
def ef (P:Program)(H:T OB)(nx:Nat)(tm:T Value)(o:Oper):iV:=match o.op with
 | .alloc e=>eN P H nx e
 | .box e x=>mi H nx e (cZ P tm x)
 | .store t a x=>eD P H nx t (cZ P tm a) (cZ P tm x)
 | .buildSlice t len ps=>bC P H nx t len (parts P tm ps.toList)
 | .makeSlice t l c=>k0 P H nx t (cZ P tm l) (cZ P tm c)
 | .makeMap _ r=>match r with | none=>iI H nx | some _=> .bad
 | .call c=>lg P H nx tm c
 | .defer c=>nu (lg P H nx tm c)
 | .panic x=>F9 (cZ P tm x)
 | .mapUpdate t m k v=>db P H nx t (cZ P tm m) (cZ P tm k) (cZ P tm v)
 | .insert t m k v=>db P H nx t (cZ P tm m) (cZ P tm k) (cZ P tm v)
 | .range t m=>A8 P H nx t (cZ P tm m)
 | .next d b=>F8 H nx (cZ P tm d) b
 | .entry d=>A_ H nx (cZ P tm d)
 | _=> .bad
def mP (ops:Array Oper)(j:Nat):Option Tmp:=match ops[j]? with
 | some g=>g.dst
 | none=>none
def oD (tm:T Value)(d:Tmp)(a:Bool):Option Bool:=match tm.get (bits d)with
 | some (.bool b)=>some (b == a)
 | some (.tuple _)=>some false
 | _=>none
def dX (tm:T Value)(ops:Array Oper)(o:Oper):Option Bool:=match o.guard with
 | none=>some true
 | some p=>aw (mP ops p.1) (λd=>oD tm d p.2) none
def nv {β:Type}(nt:Nat)(tm:T Value)(b:Option Tmp)(v:Value)(k:T Value->β)(c:β):β:=match b with
 | none=>k tm
 | some d=>bif bY d nt then fQ (bits d) tm (some v) k else c
def direct (o:Oper)(j:Nat):Bool:=o.after.toList.any λe=>Region.binds .any e&&e.on == j
def iP (ops:Array Oper)(done:List Nat)(o:Oper):Bool:=o.after.toList.all λe=> !Region.binds .any e||done.contains e.on
def nZ (ops:Array Oper):List Nat:=(fB ops.size).filter λj=>match ops[j]? with
 | some q=>(match q.dst with
   | none=>false
   | some d=>(fB ops.size).any λi=>match ops[i]? with
     | some p=>(p.looksAt ops).contains d && !direct p j
     | none=>false)
 | none=>false
def oE (a:List Nat)(i:Nat)(o:Oper):Bool:=(F6 o.op||xu o.op) && !a.contains i
def Ba (ops:Array Oper)(a:List Nat):Nat->List Nat->List Nat->Option (List Nat)
 | 0,_,todo=>if todo.isEmpty then some []else none
 | f+1,done,todo=>
   match todo with
   | []=>some []
   | _=>match todo.find? λi=>match ops[i]? with | some o=>oE a i o&&iP ops done o | none=>false with
     | some i=>(Ba ops a f (i::done) (todo.filter (· != i))).map (i:: ·)
     | none=>match todo.filter λi=>match ops[i]? with | some o=>iP ops done o | none=>false with
       | [i]=>(Ba ops a f (i::done) (todo.filter (· != i))).map (i:: ·)
       | _=>none
def rW:Op->Bool
 | .load _ _=>true
 | .slice _ _ _ _ _=>true
 | .lookup _ _ _ _=>true
 | .convert _ _ _=>true
 | .binOp _ _ _ _ _=>true
 | _=>false
def zY (ops:Array Oper):Nat->List Nat->List Nat
 | 0,acc=>acc
 | q+1,acc=>if acc.contains q then(match ops[q]? with
    | some o=>zY ops q (o.after.toList.foldl (λl e=>if Region.binds .any e then e.on::l else l) acc)
    | none=>zY ops q acc)else zY ops q acc
def MU (ops:Array Oper)(i:Nat):List Nat:=match ops[i]? with
 | some o=>zY ops i (o.after.toList.foldl (λl e=>if Region.binds .any e then e.on::l else l) [])
 | none=>[]
def kJ (ops:Array Oper)(a:List Nat):List Nat->List Nat->List (Nat×List Nat)->Bool
 | done,_,[]=>(fB ops.size).all done.contains
 | done,ng,(i,chk)::rest=>match ops[i]? with
   | none=>false
   | some o=> !done.contains i&&iP ops done o&&
     (if oE a i o then kJ ops a (i::done) (if rW o.op then i::ng else ng) rest
      else(!F6 o.op||chk.isEmpty)&&(rest.all λj=>match ops[j.1]? with | some q=> !iP ops done q | none=>false)&&
       (ng.all λp=>chk.contains p||(MU ops i).contains p)&&kJ ops a (i::done) chk rest)
def zE (ops:Array Oper):Bool:=
 (fB ops.size).all λi=>(fB ops.size).all λj=>match ops[i]?,ops[j]? with
  | some p,some q=>
    (match q.dst with
     | none=>true
     | some d=>(!(p.looksAt ops).contains d||direct p j||direct q i)&&(i == j||p.dst != some d))
  | _,_=>true
def acyclic (ops:Array Oper):Bool:=
 (fB ops.size).all λi=>match ops[i]? with | some o=>o.after.toList.all λe=> !Region.binds .any e||bY e.on i | none=>true
def HT (ops:Array Oper)(b:List Nat):List Nat->List Nat->List (Nat×List Nat)
 | _,[]=>[]
 | ng,i::rest=>match ops[i]? with
   | none=>[]
   | some o=>if oE b i o then(i,[])::HT ops b (if rW o.op then i::ng else ng) rest
     else let a:=ng.filter λp=> !(MU ops i).contains p
      (i,a)::HT ops b a rest
def nw (ops:Array Oper):List Nat:=
 match Ba ops (nZ ops++(fB ops.size).filter λj=>match ops[j]? with | some o=>aaJ o.op | none=>false) ops.size [] (fB ops.size)with
 | some _=>nZ ops++(fB ops.size).filter λj=>match ops[j]? with | some o=>aaJ o.op | none=>false
 | none=>nZ ops
def Bb (ops:Array Oper):Option (List (Nat×List Nat)):=
 match Ba ops (nw ops) ops.size [] (fB ops.size)with
 | none=>none
 | some l=>if zE ops&&acyclic ops&&Region.noSelect ops&&kJ ops (nw ops) [] [] (HT ops (nw ops) [] l)then some (HT ops (nw ops) [] l)else none
def MV (c:Value->Value->Bool):List Value->List Value->Bool
 | [],[]=>true
 | a::l,b::m=>c a b&&MV c l m
 | _,_=>false
def Lr:Nat->Value->Value->Bool
 | 0,_,_=>false
 | n+1,v,w=>match v,w with
   | .bool a,.bool b=>a == b
   | .int j a,.int k b=>j == k&&a == b
   | .string a,.string b=>decide (a=b)
   | .pointer none,.pointer none=>true
   | .pointer (some ⟨a,o,none⟩),.pointer (some ⟨b,q,none⟩)=>a == b&&o == q
   | .slice none l c,.slice none m d=>l == m&&c == d
   | .slice (some ⟨a,o,none⟩) l c,.slice (some ⟨b,q,none⟩) m d=>a == b&&o == q&&l == m&&c == d
   | .map none,.map none=>true
   | .map (some a),.map (some b)=>a == b
   | .nilIface,.nilIface=>true
   | .nilFunc,.nilFunc=>true
   | .iface t v,.iface u w=>t == u&&Lr n v w
   | .agg a,.agg b=>MV (Lr n) a.toList b.toList
   | .tuple a,.tuple b=>MV (Lr n) a.toList b.toList
   | _,_=>false
def iW (v w:Value):Bool:=Lr 4 v w||@decide (v=w) (Classical.propDecidable _)
def HU (tm:T Value)(a:Option Tmp)(u:Value):Bool:=match a with
 | none=>true
 | some d=>(match tm.get (bits d)with | some v=>iW u v | none=>false)
def VJ (P:Program)(H:T OB)(tm:T Value)(o:Oper)(w:Option Bool):Bool:=match w with
 | some b=>bK b (aw (rd P H tm o) (HU tm o.dst) false) true
 | none=>false
def held (P:Program)(H:T OB)(tm:T Value)(ops:Array Oper)(p:Nat):Bool:=
 aw ops[p]? (λo=>VJ P H tm o (dX tm ops o)) false
inductive Out where
 | ret (v:Value)
 | j_ (v:Value)
structure Rt where
 o:Out
 rc:Bool
 H:T OB
 nx:Nat
structure Cg where
 fn:FuncId
 nt:Nat
 kd:Bool
 df:List (FuncId×List Value)
 rp:Option Value
 rc:Bool
inductive bV where
 | call (f:FuncId) (args:List Value) (kd:Bool) (rp:Option Value) (H:T OB) (nx:Nat)
 | at(c:Cg) (tm:T Value) (todo:List Item) (H:T OB) (nx:Nat)
inductive Q where
 | ret (r:Rt)
 | ask (c:bV) (k:Rt->Q)
 | jump (c:bV)
 | bad
def Q.run (O:bV->Option Rt)(q:Q):Option Rt:=@Q.rec (λ_=>Option Rt) some (λc _ b=>aw (O c) b none) O none q
structure ny where
 frR:List (Nat×List Nat)
 frA:List (Nat×List Nat)
 XB:List (Nat×List Nat)
 lv:List ((Nat×Nat)×List Nat)
 adw:Bool
def DY (k:Nat):List (Nat×List Nat)->List Nat
 | []=>[]
 | p::l=>bif ay p.1 k then p.2 else DY k l
def MW (k j:Nat):List ((Nat×Nat)×List Nat)->Option (List Nat)
 | []=>none
 | p::l=>bif ay p.1.1 k&&ay p.1.2 j then some p.2 else MW k j l
def chunk (a:Bool)(s:Nat):Nat->List Value->Option (List Value)
 | 0,l=>bif l.isEmpty then some []else none
 | n+1,l=>bif bj s l.length then aw (chunk a s n (l.drop s)) (λr=>bK a (some (.agg ⟨l.take s⟩::r)) (aw l.head? (λv=>some (v::r)) none)) none else none
def R0 (P:Program)(H:T OB)(e:TypeId)(b off n:Nat):Option Value:=
 gM (H.get (bits b)) (λm tr _=>aw (bT P e) (λs=>aw (gf P e) (λa=>bif bj (off+n*s) m&&bY 0 s&&(a||ay s 1)then
  aw (vd tr (n*s) off) (λl=>aw (chunk a s n l) (λes=>bif es.all λx=>bK a true (aC x)then some (bM s es)else none) none) none else none) none) none) none
def aaK (P:Program)(H:T OB)(e:TypeId)(b:Nat):Option Value:=
 gM (H.get (bits b)) (λm tr _=>aw (bT P e) (λs=>aw (gf P e) (λa=>bif ay m s then
  aw (vd tr s 0) (λl=>bK a (some (ah (.agg ⟨l⟩))) (aw l.head? (λv=>bif ay l.length 1&&aC v then some (ah v)else none) none)) none else none) none) none) none
def roB (x:Option OB):OB:=match x with
 | some (.cells n t _)=> .ro n t
 | _=> .dead
def jw (P:Program)(t:TypeId)(v:Value)(H:T OB)(nx:Nat)(k:Value->T OB->Nat->Q):Q:=match P.underlying t with
 | some (.slice e)=>(match v with
   | .slice (some ⟨b,off,none⟩) n c=>bif ay c iw||bj n c then aw (R0 P H e b off n) (λr=>fQ (bits b) H (some (roB (H.get (bits b)))) λH=>eF (cS nx) λnx=>k r H nx) .bad else .bad
   | .slice none n c=>bif ay n 0&&ay c 0 then aw (bT P e) (λs=>k (bM s []) H nx) .bad else .bad
   | v=>k v H nx)
 | some (.pointer e)=>(match v with
   | .pointer (some ⟨b,0,none⟩)=>aw (aaK P H e b) (λr=>fQ (bits b) H (some .dead) λH=>eF (cS nx) λnx=>k r H nx) .bad
   | v=>k v H nx)
 | _=>k v H nx
def R2 (P:Program):List Field->List Value->T OB->Nat->(List Value->T OB->Nat->Q)->Q
 | [],cs,H,nx,k=>k cs H nx
 | f::fs,cs,H,nx,k=>aw cs[f.offset]? (λv=>jw P f.type v H nx λv H nx=>R2 P fs (cs.set f.offset v) H nx k) .bad
def aaL (P:Program)(t:TypeId):Bool:=match P.underlying t with
 | some (.slice _)=>true
 | _=>false
def gD (P:Program)(t:TypeId)(v:Value)(H:T OB)(nx:Nat)(k:Value->T OB->Nat->Q):Q:=match P.underlying t with
 | some (.struct fs)=>(match v with
   | .agg ⟨cs⟩=>R2 P (fs.toList.filter λf=>aaL P f.type) cs H nx λcs H nx=>k (.agg ⟨cs⟩) H nx
   | _=> .bad)
 | _=>jw P t v H nx k
def gY (P:Program):Nat->TypeId->List (Nat×TypeId)
 | 0,_=>[]
 | d+1,t=>match P.underlying t with
   | some (.slice _)=>[(0,t)]
   | some (.struct fs)=>fs.toList.flatMap λf=>(gY P d f.type).map λp=>(f.offset+p.1,p.2)
   | _=>[]
def Ls (a:TypeId->Value->T OB->Nat->(Value->T OB->Nat->Q)->Q):List (Nat×TypeId)->List Value->T OB->Nat->(List Value->T OB->Nat->Q)->Q
 | [],cs,H,nx,k=>k cs H nx
 | p::l,cs,H,nx,k=>aw cs[p.1]? (λv=>a p.2 v H nx λv H nx=>Ls a l (cs.set p.1 v) H nx k) .bad
def oF (a:TypeId->Value->T OB->Nat->(Value->T OB->Nat->Q)->Q)(l:List (Nat×TypeId))(v:Value)(H:T OB)(nx:Nat)(k:Value->T OB->Nat->Q):Q:=match v with
 | .agg ⟨cs⟩=>Ls a l cs H nx λcs H nx=>k (.agg ⟨cs⟩) H nx
 | v=>k v H nx
def oG (f:Value->T OB->Nat->(Value->T OB->Nat->Q)->Q):List Value->T OB->Nat->(List Value->T OB->Nat->Q)->Q
 | [],H,nx,k=>k [] H nx
 | v::l,H,nx,k=>f v H nx λv H nx=>oG f l H nx λl H nx=>k (v::l) H nx
def DZ (v:Value):Bool:=match v with
 | .slice (some _) _ _=>true
 | _=>false
def nA (P:Program):Nat->TypeId->Value->T OB->Nat->(Value->T OB->Nat->Q)->Q
 | 0,t,v,H,nx,k=>jw P t v H nx k
 | d+1,t,v,H,nx,k=>jw P t v H nx λu H nx=>bif DZ v then(match P.underlying t with
   | some (.slice e)=>kZ u (λs es=>oG (oF (nA P d) (gY P 4 e)) es H nx λes H nx=>bif es.all λx=>ay x.cells.toList.length s then k (bM s es) H nx else .bad) .bad
   | _=>k u H nx)else k u H nx
def dM (P:Program)(t:TypeId)(v:Value)(H:T OB)(nx:Nat)(k:Value->T OB->Nat->Q):Q:=bif q_ v then oF (nA P 100000) (gY P 4 t) v H nx k else nA P 100000 t v H nx k
def D0 (P:Program)(ts:Array TypeId):List Nat->List Value->T OB->Nat->(List Value->T OB->Nat->Q)->Q
 | [],vs,H,nx,k=>k vs H nx
 | i::l,vs,H,nx,k=>bif bj 1000 i then aw ts[i-1000]? (λt=>aw vs[i-1000]? (λv=>dM P t v H nx λv H nx=>D0 P ts l (vs.set (i-1000) v) H nx k) .bad) .bad else
   aw ts[i]? (λt=>aw vs[i]? (λv=>gD P t v H nx λv H nx=>D0 P ts l (vs.set i v) H nx k) .bad) .bad
def jy:Value->T OB->Nat->Q:=λv H nx=> .ret ⟨.j_ v,false,H,nx⟩
inductive Mq where
 | ret
 | j_ (v:Value)
def XC (m:Mq):Option Value:=match m with
 | .ret=>none
 | .j_ v=>some v
def Lu (P:Program)(H:T OB)(tm:T Value):List ResultVar->(List Value->Q)->Q
 | [],k=>k []
 | .tmp t::l,k=>aw (tm.get (bits t)) (λv=>Lu P H tm l λvs=>k (v::vs)) .bad
 | .cell a t::l,k=>aw (aA P H t (tm.get (bits a))) (λv=>Lu P H tm l λvs=>k (v::vs)) .bad
def aaM (vs:List Value):Value:=match vs with
 | [v]=>v
 | vs=> .tuple ⟨vs⟩
def XD (P:Program)(pl:ny)(c:Cg)(tm:T Value)(H:T OB)(nx:Nat):Q:=
 aw P.funcs[c.fn]? (λf=>Lu P H tm f.results.toList λvs=>D0 P f.resultTypes (DY c.fn pl.frR) vs H nx λvs H nx=> .ret ⟨.ret (aaM vs),c.rc,H,nx⟩) .bad
def F_ (P:Program)(pl:ny)(c:Cg)(tm:T Value)(m:Mq)(H:T OB)(nx:Nat):Q:=match m with
 | .ret=>XD P pl c tm H nx
 | .j_ v=>aw P.funcs[c.fn]? (λ_=> .ret ⟨.j_ v,c.rc,H,nx⟩) .bad
def bkQ (m:Mq)(r:Rt)(a:Mq->T OB->Nat->Q):Q:=match r.o with
 | .ret _=>a (bK r.rc .ret m) r.H r.nx
 | .j_ _=> .bad
def rX (P:Program)(pl:ny)(c:Cg)(tm:T Value)(l:List (FuncId×List Value)):Mq->T OB->Nat->Q:=
 @jL (FuncId×List Value) (λ_=>Mq->T OB->Nat->Q) (λm H nx=>F_ P pl c tm m H nx)
  (λd _ a m H nx=> .ask (.call d.1 d.2 true (XC m) H nx) λr=>bkQ m r a) l
abbrev Kt:=Cg->T Value->T OB->Nat->Q
def bU (e:iV)(k:Value->T OB->Nat->Q):Q:=match e with
 | .val v H nx=>k v H nx
 | _=> .bad
def dm (q:bV)(k:Value->T OB->Nat->Q)(p:Value->T OB->Nat->Q):Q:= .ask q λr=>match r.o with
 | .ret v=>k v r.H r.nx
 | .j_ v=>p v r.H r.nx
def VK:Op->Bool
 | .call c=>(match c.callee with
   | .builtin b=>(match b with | .append=>false | _=>true)
   | _=>true)
 | .defer _=>true
 | .panic _=>true
 | _=>false
def Bc (tm:T Value)(ops:Array Oper)(g:Option (Nat×Bool))(a b:T Value->Q):Q:=match g with
 | none=>a tm
 | some p=>aw (mP ops p.1) (λd=>match tm.get (bits d)with
   | some (.bool x)=>bK p.2 (bK x (fQ (bits d) tm (some (.bool true)) a) (fQ (bits d) tm (some (.bool false)) b)) (bK x (fQ (bits d) tm (some (.bool true)) b) (fQ (bits d) tm (some (.bool false)) a))
   | some (.tuple _)=>b tm
   | _=> .bad) .bad
def aaN (c:Cg)(k:Cg->Value->Q):Q:=match c.kd,c.rp with
 | true,some v=>k ⟨c.fn,c.nt,c.kd,c.df,none,true⟩ v
 | _,_=>k c .nilIface
def RO {β:Type}(v:Value)(k:Bool->β)(a:β):β:=match v with
 | .bool b=>k b
 | _=>a
def R3 (P:Program)(t:TypeId):Bool:=match P.underlying t with
 | some .bool=>true
 | _=>false
def VL (o:Op):Bool:=match o with
 | .binOp a _ _ _ _=>(match a with | .eql=>true | .neq=>true | .lss=>true | .leq=>true | .gtr=>true | .geq=>true | _=>false)
 | _=>false
def D1 (P:Program)(t:Bool)(nt:Nat)(tm:T Value)(a:Option Tmp)(v:Value)(k:T Value->Q):Q:=
 bK t (RO v (λb=>nv nt tm a (.bool b) k .bad) .bad) (nv nt tm a v k .bad)
def aaO (nt:Nat)(tm:T Value)(H:T OB)(nx:Nat)(a:Option Tmp)(x:Option Value)(k:T Value->T OB->Nat->Q):Q:=
 aw x (λv=>eF (cS nx) λn=>nv nt tm a (ah v) (λtm=>k tm H n) .bad) .bad
def R4 (v:Option Value)(k:Nat->Nat->Q):Q:=match v with
 | some (.pointer (some ⟨b,off,none⟩))=>k b off
 | _=> .bad
def rf (x:Option OB)(k:Nat->T Value->TypeId->Q):Q:=match x with
 | some (.cells n t e)=>k n t e
 | _=> .bad
def HV (P:Program)(nt:Nat)(tm:T Value)(H:T OB)(nx:Nat)(t:TypeId)(d:Tmp)(c:Option Tmp)(a x:Option Value)(k:T Value->T OB->Nat->Q):Q:=
 R4 a λb off=>aw x (λv=>rf (H.get (bits b)) λn _ _=>aw (bT P t) (λs=>
  bif ay off 0&&(ay n s&&(ay v.cells.toList.length s&&v.cells.toList.all aC))then fQ (bits b) H (some .dead) λH=>eF (cS nx) λn=>nv nt tm (some d) (ah v) (λtm=>nv nt tm c undef (λtm=>k tm H n) .bad) .bad else .bad) .bad) .bad
def aaP (t:Nat)(l:List Nat):Bool:=l.any (ay t)
def R5 (pl:ny)(fn:Nat)(o:Oper):Bool:=match o.op with
 | .box _ _=>(match o.dst with | some d=>aaP d (DY fn pl.XB) | none=>false)
 | .store _ (.tmp d) _=>aaP d (DY fn pl.XB)
 | _=>false
def frQ (P:Program)(nt:Nat)(tm:T Value)(H:T OB)(nx:Nat)(o:Oper)(k:T Value->T OB->Nat->Q):Q:=match o.op with
 | .box _ x=>aaO nt tm H nx o.dst (cZ P tm x) k
 | .store t (.tmp d) x=>HV P nt tm H nx t d o.dst (cZ P tm (.tmp d)) (cZ P tm x) k
 | _=> .bad
def VM (o:Oper):Bool:=match o.op with
 | .box _ _=>true
 | _=>false
def adx (P:Program)(pl:ny)(c:Cg)(tm:T Value)(H:T OB)(nx:Nat)(t:TypeId)(b:Option Tmp)(d:Kt)(e:iV):Q:=match e with
 | .call g a=>dm (.call g a false none H nx) (λv H nx=>D1 P (R3 P t) c.nt tm b v (λtm=>d c tm H nx)) (λv H nx=>rX P pl c tm c.df (.j_ v) H nx)
 | .dfr g a=>nv c.nt tm b undef (λtm=>d ⟨c.fn,c.nt,c.kd,(g,a)::c.df,c.rp,c.rc⟩ tm H nx) .bad
 | .j_ v=>rX P pl c tm c.df (.j_ v) H nx
 | .rcv=>aaN c λc v=>nv c.nt tm b v (λtm=>d c tm H nx) .bad
 | _=> .bad
def doR (P:Program)(pl:ny)(c:Cg)(tm:T Value)(H:T OB)(nx:Nat)(a:Kt)(o:Oper):Q:=
 bK (F6 o.op) (aw (rd P H tm o) (λv=>D1 P (R3 P o.type||VL o.op) c.nt tm o.dst v (λtm=>a c tm H nx)) .bad)
  (bK (VK o.op) (adx P pl c tm H nx o.type o.dst a (ef P H nx tm o)) (bK (R5 pl c.fn o) (frQ P c.nt tm H nx o λtm H nx=>a c tm H nx) (bU (ef P H nx tm o) λv H nx=>nv c.nt tm o.dst v (λtm=>a c tm H nx) .bad)))
def opR (P:Program)(pl:ny)(ops:Array Oper)(c:Cg)(tm:T Value)(H:T OB)(nx:Nat)(a:Kt)(o:Oper):Q:=
 Bc tm ops o.guard (λtm=>doR P pl c tm H nx a o) (λtm=>nv c.nt tm o.dst undef (λtm=>a c tm H nx) .bad)
def qF (P:Program)(pl:ny)(ops:Array Oper)(k:Kt)(l:List Nat):Kt:=
 @jL Nat (λ_=>Kt) k (λi _ b c tm H nx=>aw ops[i]? (opR P pl ops c tm H nx b) .bad) l
def xx (P:Program)(H:T OB)(tm:T Value)(ops:Array Oper)(a:List Nat)(k:Q):Q:=bK (a.all (held P H tm ops)) k .bad
def ady (P:Program)(pl:ny)(ops:Array Oper)(b:List Nat)(c:Cg)(tm:T Value)(H:T OB)(nx:Nat)(t:TypeId)(d:Option Tmp)(f:Kt)(e:iV):Q:=match e with
 | .call g a=>dm (.call g a false none H nx) (λv H nx=>D1 P (R3 P t) c.nt tm d v (λtm=>xx P H tm ops b (f c tm H nx))) (λv H nx=>bK c.df.isEmpty (F_ P pl c tm (.j_ v) H nx) .bad)
 | .j_ v=>bK c.df.isEmpty (F_ P pl c tm (.j_ v) H nx) .bad
 | _=> .bad
def doD (P:Program)(pl:ny)(ops:Array Oper)(a:List Nat)(c:Cg)(tm:T Value)(H:T OB)(nx:Nat)(b:Kt)(o:Oper):Q:=
 bK (F6 o.op) (aw (rd P H tm o) (λv=>D1 P (R3 P o.type||VL o.op) c.nt tm o.dst v (λtm=>b c tm H nx)) .bad)
  (bK (xu o.op) (bU (ef P H nx tm o) λv H nx=>nv c.nt tm o.dst v (λtm=>xx P H tm ops a (b c tm H nx)) .bad)
   (bK (VK o.op) (ady P pl ops a c tm H nx o.type o.dst b (ef P H nx tm o))
    (bK (R5 pl c.fn o&&VM o) (frQ P c.nt tm H nx o λtm H nx=>xx P H tm ops a (b c tm H nx)) (bU (ef P H nx tm o) λv H nx=>nv c.nt tm o.dst v (λtm=>xx P H tm ops a (b c tm H nx)) .bad))))
def opD (P:Program)(pl:ny)(ops:Array Oper)(a:List Nat)(c:Cg)(tm:T Value)(H:T OB)(nx:Nat)(b:Kt)(o:Oper):Q:=
 Bc tm ops o.guard (λtm=>doD P pl ops a c tm H nx b o) (λtm=>nv c.nt tm o.dst undef (λtm=>xx P H tm ops a (b c tm H nx)) .bad)
def zZ (P:Program)(pl:ny)(ops:Array Oper)(k:Kt)(l:List (Nat×List Nat)):Kt:=
 @jL (Nat×List Nat) (λ_=>Kt) k (λx _ a c tm H nx=>aw ops[x.1]? (opD P pl ops x.2 c tm H nx a) .bad) l
def XE (P:Program)(pl:ny)(ops:Array Oper)(a:Bool)(k:Kt):Kt:=λc tm H nx=>
 bK a (bK (P.follows .mixedOrders) (aw (Bb ops) (λp=>zZ P pl ops k p c tm H nx) .bad) .bad) (qF P pl ops k (fB ops.size) c tm H nx)
def MX (v:Option Value)(a b:Q):Q:=match v with
 | some (.bool x)=>bK x a b
 | _=> .bad
def aaQ (id:Nat)(c:Code):Nat:=
 @Code.rec (λ_=>Nat) 0 (λ_ _ _=>0) (λ_ _ a b=>iq a b) (λ_ _ _ a b=>iq a b) (λj _ a=>bif ay j id then 0 else a) (λ_ a=>a) (λ_ _ _ _ _ _=>0)
  (λj=>bif ay j id then 1 else 0) (λ_ a=>a) (λ_=>0) (λ_=>0) 0 (λ_=>0) c
def ends (c:Code):Nat:=
 @Code.rec (λ_=>Nat) 1 (λ_ _ _=>1) (λ_ _ a b=>bif ay a 0 then 0 else b) (λ_ _ _ a b=>iq a b) (λj b a=>iq a (aaQ j b)) (λ_ _=>0) (λ_ _ _ _ _ _=>1)
  (λ_=>0) (λ_ a=>a) (λ_=>1) (λ_=>0) 0 (λ_=>0) c
def R6 (c:Code):Bool:=
 @Code.rec (λ_=>Bool) false (λ_ _ _=>false) (λ_ _ a b=>a||b) (λ_ _ _ a b=>a||b) (λ_ _ a=>a) (λ_ _=>true) (λ_ _ _ _ _ _=>false)
  (λ_=>false) (λ_ a=>a) (λ_=>false) (λ_=>false) false (λ_=>false) c
def XF (c:Code):Nat:=
 @Code.rec (λ_=>Nat) 0 (λid _ _=>cS id) (λ_ _ a b=>bif ay a 0 then b else a) (λ_ _ _ a b=>bif ay a 0 then b else a) (λ_ _ a=>a) (λ_ a=>a) (λ_ _ _ _ _ _=>0)
  (λ_=>0) (λ_ a=>a) (λ_=>0) (λ_=>0) 0 (λ_=>0) c
def XG (a:List Item):Nat:=match a with
 | .code cd::_=>Nat.mul 2 (XF cd)
 | .inLoop cd::_=>cS (Nat.mul 2 (XF cd))
 | _=>0
def z6 (tm:T Value)(l:List Nat):T Value:=
 @jL Nat (λ_=>T Value) .leaf (λt _ a=>aw (tm.get (bits t)) (λv=>fQ (bits t) a (some v) id) a) l
def D2 (pl:ny)(fn:Nat)(a:Nat)(tm:T Value):T Value:=match pl.lv with
 | []=>tm
 | l=>aw (MW fn a l) (z6 tm) tm
def D3 (pl:ny)(a:List Item):Kt:=λc tm H nx=> .jump (.at c (D2 pl c.fn (XG a) tm) a H nx)
def Bd (P:Program)(pl:ny):Kt:=λc tm H nx=>rX P pl c tm c.df .ret H nx
def Ga:Kt:=λ_ _ _ _=> .bad
def xy (id:Nat):List (Nat×Kt)->Kt
 | []=>Ga
 | p::l=>bif ay p.1 id then p.2 else xy id l
def adz (a:Code):Bool:=match a with
 | .region _ ops _=>ops.toList.any λo=>o.guard.isSome
 | _=>false
def aaR (pl:ny)(a b:Code):Bool:=pl.adw&&(bY 0 (XF b)&&(bj 2 (ends a)||(R6 a||adz a)))
def z7 (P:Program)(pl:ny)(j:Code):List Item->Kt->List (Nat×Kt)->Kt:=
 @Code.rec (λ_=>List Item->Kt->List (Nat×Kt)->Kt) (λ_ K _=>K) (λ_ ops h _ K _=>XE P pl ops h K)
  (λa b e f k K E=>e (.code b::k) (bK (aaR pl a b) (D3 pl (.code b::k)) (f k K E)) E)
  (λq _ _ e f k K E c tm H nx=>MX (cZ P tm q) (e k K E c tm H nx) (f k K E c tm H nx))
  (λid _ i k K E=>i (.inBlock id::k) K ((id,K)::E)) (λd _ k _ _=>D3 pl (.inLoop d::k)) (λ_ _ _ _ _ _ _ _ _=>Ga)
  (λid _ _ E=>xy id E) (λd i k K E=>i (.inScope d::k) K E) (λ_ _ K _=>K) (λ_ _ _ _=>Ga) (λ_ _ _=>Bd P pl) (λ_ _ _ _=>Ga) j
def evI (P:Program)(pl:ny)(b:List Item):Kt×List (Nat×Kt):=
 @jL Item (λ_=>Kt×List (Nat×Kt)) (Bd P pl,[]) (λe k a=>match e with
  | .code d=>(z7 P pl d k a.1 a.2,a.2)
  | .inBlock id=>(a.1,(id,a.1)::a.2)
  | .inScope _=>a
  | .inLoop c=>(D3 pl (.inLoop c::k),a.2)
  | _=>(Ga,[])) b
def XH (P:Program)(pl:ny)(a:List Item):Kt:=match a with
 | .inLoop body::k=>z7 P pl body (.inLoop body::k) (D3 pl (.inLoop body::k)) (evI P pl k).2
 | a=>(evI P pl a).1
def evF (P:Program)(pl:ny)(f:FuncId)(kd:Bool)(rp:Option Value)(fn:Func)(b:Code)(a:List Value)(H:T OB)(nx:Nat):Q:=
 bif bj a.length fn.ntmps then D0 P fn.params (DY f pl.frA) a H nx λa H nx=>iX a 0 .leaf λtm=>z7 P pl b [] (Bd P pl) [] ⟨f,fn.ntmps,kd,[],rp,false⟩ tm H nx else .bad
def aX (P:Program)(pl:ny)(q:bV):Q:=match q with
 | .call f b kd rp H nx=>aw P.funcs[f]? (λfn=>aw fn.body (λd=>evF P pl f kd rp fn d b H nx) .bad) .bad
 | .at c tm a H nx=>XH P pl a c tm H nx
abbrev Ext:=FuncId->List Value->Option Value
def tD (X:Ext)(q:bV)(k:Option Rt):Option Rt:=match q with
 | .call f a false _ H nx=>@gm Value (λ_=>Option Rt) k (λv=>some ⟨.ret v,false,H,nx⟩) (X f a)
 | _=>k
def FD (P:Program)(pl:ny)(X:Ext)(n:Nat):bV->Option Rt:=
 @Nat.rec (λ_=>bV->Option Rt) (λ_=>none) (λ_ a q=>tD X q ((aX P pl q).run a)) n
@[simp] theorem mQ {α:Type} (a:List Bool):T.get a (.leaf:T α)=none:=by cases a<;>rfl
@[simp] theorem get_nil {α:Type} (x:Option α) (l r:T α):T.get [] (.node x l r)=x:=rfl
@[simp] theorem aaG {α:Type} (a:List Bool) (x:Option α) (l r:T α):T.get (false::a) (.node x l r)=l.get a:=rfl
@[simp] theorem aaS {α:Type} (a:List Bool) (x:Option α) (l r:T α):T.get (true::a) (.node x l r)=r.get a:=rfl
theorem jm {α β:Type}:∀(a:List Bool) (t:T α) (v:Option α) (k:T α->β),fQ a t v k=k (fQ a t v id)
 | [],t,v,k=>by cases t<;>rfl
 | false::a,t,v,k=>by
   cases t with
   | leaf=>exact(jm a .leaf v (λl'=>k (.node none l' .leaf))).trans (congrArg k (jm a .leaf v (λl'=>T.node none l' .leaf)).symm)
   | node x l r=>exact(jm a l v (λl'=>k (.node x l' r))).trans (congrArg k (jm a l v (λl'=>T.node x l' r)).symm)
 | true::a,t,v,k=>by
   cases t with
   | leaf=>exact(jm a .leaf v (λl'=>k (.node none .leaf l'))).trans (congrArg k (jm a .leaf v (λl'=>T.node none .leaf l')).symm)
   | node x l r=>exact(jm a r v (λl'=>k (.node x l l'))).trans (congrArg k (jm a r v (λl'=>T.node x l l')).symm)
def set {α:Type}(t:T α)(a:List Bool)(v:Option α):T α:=fQ a t v id
theorem bQ {α β:Type}(a:List Bool)(t:T α)(v:Option α)(k:T α->β):fQ a t v k=k (set t a v):=jm a t v k
theorem oH {α:Type}(a:List Bool)(v:Option α):set (.leaf:T α) (false::a) v= .node none (set .leaf a v) .leaf:=jm a .leaf v _
theorem qG {α:Type}(a:List Bool)(v:Option α):set (.leaf:T α) (true::a) v= .node none .leaf (set .leaf a v):=jm a .leaf v _
theorem lL {α:Type}(a:List Bool)(v x:Option α)(l r:T α):set (.node x l r) (false::a) v= .node x (set l a v) r:=jm a l v _
theorem mF {α:Type}(a:List Bool)(v x:Option α)(l r:T α):set (.node x l r) (true::a) v= .node x l (set r a v):=jm a r v _
theorem Be {α:Type}(v:Option α):∀(a cs:List Bool) (t:T α),(set t a v).get cs=if cs=a then v else t.get cs
 | [],[],t=>by cases t<;>rfl
 | [],c::cs,t=>by cases t<;>cases c<;>rw[if_neg (by simp)]<;>first | rfl | (rw[mQ];exact mQ _)
 | false::a,[],t=>by cases t<;>simp[oH,lL]
 | true::a,[],t=>by cases t<;>simp[qG,mF]
 | false::a,c::cs,t=>by cases t<;>cases c<;>simp[oH,lL,Be v a cs]
 | true::a,c::cs,t=>by cases t<;>cases c<;>simp[qG,mF,Be v a cs]
def VN:List Bool->Nat
 | []=>0
 | false::l=>2*VN l+1
 | true::l=>2*VN l+2
theorem tE:∀f k,k<=f->VN (qC f k)=k:=by
 intro f
 induction f with
 | zero=>intro k h;cases Nat.le_zero.1 h;rfl
 | succ f b=>
   intro k h;cases k with
   | zero=>rfl
   | succ m=>
     have hd:m/2<=f:=by omega
     have e:qC (f+1) (m+1)=Nat.casesOn (motive:=λ_=>List Bool) (m%2) (false::qC f (m/2)) λ_=>true::qC f (m/2):=rfl;rw[e];rcases Nat.mod_two_eq_zero_or_one m with a | a
     . rw[a];show 2*VN (qC f (m/2))+1=m+1;rw[b _ hd];omega
     . rw[a];show 2*VN (qC f (m/2))+2=m+1;rw[b _ hd];omega
theorem MY {a b:Nat}(h:bits a=bits b):a=b:=by
 have c:=tE a a (ax a);have h2:=tE b b (ax b);unfold bits at h;rw[h]at c;omega
theorem Gb:∀l:List Bool,2^l.length<=VN l+1
 | []=>ax _
 | false::l=>by have:=Gb l;simp only[VN,ao,Nat.pow_succ];omega
 | true::l=>by have:=Gb l;simp only[VN,ao,Nat.pow_succ];omega
theorem D4 {k d:Nat}(h:k+1<2^d):(bits k).length<d:=by
 have b:=Gb (qC k k);rw[tE k k (ax k)]at b;show(qC k k).length<d;rcases Nat.lt_or_ge (qC k k).length d with a | a
 . exact a
 . have:=Nat.pow_le_pow_right (n:=2) (by omega) a;omega
theorem xz {α:Type}(v:α):∀(d:Nat) (a:List Bool),a.length<d->(full d v).get a=some v
 | 0,a,h=>by omega
 | d+1,[],_=>rfl
 | d+1,false::a,h=>xz v d a (by simpa using h)
 | d+1,true::a,h=>xz v d a (by simpa using h)
theorem get_at {α:Type}(t:T α)(i j:Nat)(v:Option α):(set t (bits i) v).get (bits j)=if j=i then v else t.get (bits j):=by
 rw[Be]
 by_cases h:j=i
 . simp[h]
 . rw[if_neg h,if_neg (λe=>h (MY e))]
theorem z8 {α β:Type}:∀(l:List α) (i:Nat) (t:T α) (k:T α->β),iX l i t k=k (iX l i t id)
 | [],_,_,_=>rfl
 | v::l,i,t,k=>by
   have e:∀{γ:Type} (k:T α->γ),iX (v::l) i t k=fQ (bits i) t (some v) λt'=>iX l (i+1) t' k:=λ_=>rfl;rw[e,e,bQ,bQ];exact z8 l (i+1) _ k
def iQ {α:Type}(l:List α)(i:Nat)(t:T α):T α:=iX l i t id
theorem fW {α β:Type}(l:List α)(i:Nat)(t:T α)(k:T α->β):iX l i t k=k (iQ l i t):=z8 l i t k
theorem z9 {α:Type}(i:Nat)(t:T α):iQ [] i t=t:=rfl
theorem xA {α:Type}(v:α)(l:List α)(i:Nat)(t:T α):iQ (v::l) i t=iQ l (i+1) (set t (bits i) (some v)):=by
 show fQ (bits i) t (some v) (λt'=>iX l (i+1) t' id)=_;rw[bQ];rfl
theorem gz {α:Type}:∀(l:List α) (i:Nat) (t:T α) (j:Nat),(iQ l i t).get (bits j)=if i<=j/\j<i+l.length then l[j-i]? else t.get (bits j)
 | [],i,t,j=>by rw[z9,if_neg (by simp)]
 | v::l,i,t,j=>by
   rw[xA,gz l (i+1),get_at]
   by_cases h:j=i
   . subst h;rw[if_neg (by omega),if_pos rfl,if_pos (by simp)];simp
   . rw[if_neg h]
     by_cases a:i+1<=j/\j<i+1+l.length
     . rw[if_pos a,if_pos (by simp;omega)];obtain⟨d,rfl⟩:∃d,j=i+1+d:=⟨j-(i+1),by omega⟩;have c:i+1+d-(i+1)=d:=by omega
       have b:i+1+d-i=d+1:=by omega
       rw[c,b,List.getElem?_cons_succ]
     . rw[if_neg a,if_neg (by simp;omega)]
theorem D5 {α:Type}(t:T α)(i:Nat):vd t 0 i=some []:=rfl
theorem D6 {α:Type}(t:T α)(n i:Nat):vd t (n+1) i=
 Option.casesOn (motive:=λ_=>Option (List α)) (t.get (bits i)) none λv=>Option.casesOn (motive:=λ_=>Option (List α)) (vd t n (i+1)) none λl=>some (v::l):=rfl
theorem xB {α:Type}(t:T α):∀(n i:Nat) (l:List α),vd t n i=some l->l.length=n/\∀j,j<n->t.get (bits (i+j))=l[j]?
 | 0,i,l,h=>by
   rw[D5]at h;cases h;exact⟨rfl,λj c=>by omega⟩
 | n+1,i,l,h=>by
   rw[D6]at h;cases a:t.get (bits i)with
   | none=>rw[a]at h;cases h
   | some v=>
     rw[a]at h;cases b:vd t n (i+1)with
     | none=>rw[b]at h;cases h
     | some l'=>
       rw[b]at h;cases h;obtain⟨d,e⟩:=xB t n (i+1) l' b;refine⟨by simp[d],λj c=> ?_⟩;cases j with
       | zero=>simpa using a
       | succ j=>
         have:=e j (by omega);rw[show i+1+j=i+(j+1)from by omega]at this;simpa using this
theorem bW {β:Type}(n:Nat)(k:Nat->β):eF n k=k n:=by cases n<;>rfl
theorem R7 {β:Type}(n:Int)(k:Int->β):Xz n k=k n:=by cases n<;>simp[Xz,bW]
theorem MZ {β:Type}(i:IntKind)(k:IntKind->β):VG i k=k i:=by cases i<;>rfl
theorem M0 {β:Type}(b:Bool)(k:Bool->β):VH b k=k b:=by cases b<;>rfl
theorem D7 {β:Type}(a:Addr)(k:Addr->β):HO a k=k a:=by
 obtain⟨b,o,s⟩:=a;cases s<;>simp[HO,bW]
theorem D8 {β:Type}(v:Value)(k:Value->β):zV v k=k v:=by
 cases v with
 | pointer a=>cases a<;>simp[zV,D7]
 | slice a l c=>cases a<;>simp[zV,D7,bW]
 | _=>simp[zV,M0,MZ,R7]
theorem xC {β:Type}:∀(l:List Value) (k:List Value->β),DR l k=k l
 | [],_=>rfl
 | v::l,k=>by simp only[DR,D8,xC l]
theorem nB {β:Type}(v:Value)(k:Value->β):xf v k=k v:=by
 cases v with
 | agg c=>obtain⟨l⟩:=c;simp[xf,xC]
 | tuple c=>obtain⟨l⟩:=c;simp[xf,xC]
 | _=>simp only[xf,D8]
@[simp] theorem aZ {α β:Type} (a:α) (k:α->β) (b:β):aw (some a) k b=k a:=rfl
@[simp] theorem aaH {α β:Type} (k:α->β) (a:β):aw none k a=a:=rfl
@[simp] theorem nC {β:Type} (x y:β):bK true x y=x:=rfl
@[simp] theorem xD {β:Type} (x y:β):bK false x y=y:=rfl
theorem aY {α β:Type}{x:Option α}{k:α->Option β}{y:β}(h:aw x k none=some y):∃a,x=some a/\k a=some y:=by
 cases x with
 | none=>cases h
 | some a=>exact⟨a,rfl,h⟩
theorem xE {β:Type}{x:Option OB}{k:Nat->T Value->TypeId->Option β}{y:β}(h:gM x k none=some y):
 ∃n t e,x=some (.cells n t e)/\k n t e=some y:=by
 unfold gM at h;split at h
 . exact⟨_,_,_,rfl,h⟩
 . cases h
theorem xF {β:Type}{x:Option OB}{k:Nat->T Value->Option β}{y:β}(h:zB x k none=some y):
 ∃n t,((∃e,x=some (.cells n t e))\/x=some (.ro n t))/\k n t=some y:=by
 unfold zB at h;split at h
 . exact⟨_,_,.inl ⟨_,rfl⟩,h⟩
 . exact⟨_,_,.inr rfl,h⟩
 . cases h
theorem D9 {β:Type}{P:Program}{t:TypeId}{k:TypeId->Nat->Option β}{y:β}(h:fU P t k none=some y):
 ∃e s,P.underlying t=some (.slice e)/\bT P e=some s/\k e s=some y:=by
 unfold fU at h;split at h
 . rename_i e c;obtain⟨s,b,a⟩:=aY h;exact⟨e,s,c,b,a⟩
 . cases h
@[simp] theorem R8 (n:Nat):A4 (n:Int)=true:=rfl
theorem iY {β:Type}(n:Nat)(k:Nat->β)(a:β):lI (n:Int) k a=k n:=bW n k
theorem z_ {β:Type}{i:Int}{k:Nat->Option β}{y:β}(h:lI i k none=some y):∃n:Nat,i= .ofNat n/\k n=some y:=by
 cases i with
 | ofNat n=>exact⟨n,rfl,(bW n k).symm.trans h⟩
 | negSucc n=>cases h
@[simp] theorem XI {β:Type} (s:Nat) (es:List Value) (k:Nat->List Value->β) (a:β):kZ (bM s es) k a=k s es:=rfl
@[simp] theorem aaI {β:Type} (v:Value) (k:Value->β) (a:β):epK (ah v) k a=k v:=rfl
theorem mR {β:Type}{v:Value}{k:Nat->List Value->Option β}{y:β}(h:kZ v k none=some y):∃s es,v=bM s es/\k s es=some y:=by
 unfold kZ at h;split at h
 . exact⟨_,_,rfl,h⟩
 . cases h
theorem Bf {β:Type}{v:Value}{k:Value->Option β}{y:β}(h:epK v k none=some y):∃f u,v= .func (.yield f) ⟨[u]⟩ ⟨[.nilIface]⟩/\k u=some y:=by
 unfold epK at h;split at h
 . exact⟨_,_,rfl,h⟩
 . cases h
theorem bE {β:Type}{b:Bool}{x:Option β}{y:β}(h:(bif b then x else none)=some y):b=true/\x=some y:=by
 cases b
 . cases h
 . exact⟨rfl,h⟩
end
end Go.Ev
namespace Go.Ev
open Go.RowKit (Below)
noncomputable section
set_option maxRecDepth 100000
set_option linter.unusedVariables false
set_option linter.unusedSimpArgs false
section
structure lh where
 r:Nat
 sz:Nat
 es:Nat
 fz:Option (Array Value)
abbrev fq:=List (Option lh)
def fq.le (φ ψ:fq):Prop:=∀(k:Nat) (e:lh),φ[k]? = some (some e)->ψ[k]? = some (some e)
theorem fq.le_refl (φ:fq):φ.le φ:=λ_ _ h=>h
theorem fq.le_trans {a b c:fq}(h:a.le b)(d:b.le c):a.le c:=λk e q=>d k e (h k e q)
inductive VR (φ:fq):Value->Value->Prop
 | flat (v:Value) (h:flat v=true):VR φ v v
 | ptr {k o:Nat} {e:lh} (h:φ[k]? = some (some e)):VR φ (.pointer (some ⟨k,o,none⟩)) (.pointer (some ⟨e.r,o,none⟩))
 | slice {k o l c c':Nat} {e:lh} (h:φ[k]? = some (some e)) (hc:(c≠iw/\c'=c)\/(c=iw/\l<=c'/\o+c'*e.es<=e.sz)):
  VR φ (.slice (some ⟨k,o,none⟩) l c) (.slice (some ⟨e.r,o,none⟩) l c')
 | map {k:Nat} {e:lh} (h:φ[k]? = some (some e)):VR φ (.map (some k)) (.map (some e.r))
 | iface {t:TypeId} {v v':Value} (h:VR φ v v'):VR φ (.iface t v) (.iface t v')
 | agg {c c':List Value} (hl:c.length=c'.length) (h:∀(i:Nat) (v v':Value),c[i]? = some v->c'[i]? = some v'->VR φ v v'):VR φ (.agg ⟨c⟩) (.agg ⟨c'⟩)
 | tuple {c c':List Value} (hl:c.length=c'.length) (h:∀(i:Nat) (v v':Value),c[i]? = some v->c'[i]? = some v'->VR φ v v'):VR φ (.tuple ⟨c⟩) (.tuple ⟨c'⟩)
 | func {fn:FuncId} {c c':List Value} (hl:c.length=c'.length) (h:∀(i:Nat) (v v':Value),c[i]? = some v->c'[i]? = some v'->VR φ v v'):VR φ (.func (.func fn) #[] ⟨c⟩) (.func (.func fn) #[] ⟨c'⟩)
 | xG (s:Nat):VR φ (bM s []) (.slice none 0 0)
 | xH (s:Nat) (a:Addr) (c':Nat):VR φ (bM s []) (.slice (some a) 0 c')
 | row {k s o c':Nat} {e:lh} {c:Array Value} {es:List Value} (h:φ[k]? = some (some e)) (hf:e.fz=some c) (hs:∀x∈es,x.cells.toList.length=s) (hn:es≠[]->o+es.length*s<=c.size) (hc:es.length<=c')
  (hx:∀(i j:Nat) (x v v':Value),es[i]? = some x->x.cells.toList[j]? = some v->c[o+i*s+j]? = some v'->VR φ v v'):VR φ (bM s es) (.slice (some ⟨e.r,o,none⟩) es.length c')
 | ep {k f o:Nat} {e:lh} {c:Array Value} {u:Value} (h:φ[k]? = some (some e)) (hf:e.fz=some c) (hn:o+u.cells.toList.length<=c.size)
  (hx:∀(j:Nat) (v v':Value),u.cells.toList[j]? = some v->c[o+j]? = some v'->VR φ v v'):VR φ (.func (.yield f) ⟨[u]⟩ ⟨[.nilIface]⟩) (.pointer (some ⟨e.r,o,none⟩))
theorem VR.mono {φ ψ:fq}(b:φ.le ψ){v j:Value}(h:VR φ v j):VR ψ v j:=by
 induction h with
 | flat v h=>exact .flat v h
 | ptr h=>exact .ptr (b _ _ h)
 | slice h i=>exact .slice (b _ _ h) i
 | map h=>exact .map (b _ _ h)
 | iface _ d=>exact .iface d
 | agg e _ d=>exact .agg e d
 | tuple e _ d=>exact .tuple e d
 | func e _ d=>exact .func e d
 | xG s=>exact .xG s
 | xH s a c=>exact .xH s a c
 | row h f k hn i _ d=>exact .row (b _ _ h) f k hn i d
 | ep h f hn _ d=>exact .ep (b _ _ h) f hn d
structure LR (φ:fq)(l l':List Value):Prop where
 len:l.length=l'.length
 at_:∀(i:Nat) (v v':Value),l[i]? = some v->l'[i]? = some v'->VR φ v v'
theorem LR.nil {φ:fq}:LR φ [] []:=⟨rfl,λi v v' h=>by simp at h⟩
theorem LR.cons {φ:fq}{v f:Value}{l l':List Value}(h:VR φ v f)(e:LR φ l l'):LR φ (v::l) (f::l'):=
 ⟨by simp[e.len],λi a b c d=>by
  cases i with
  | zero=>simp at c d;subst c d;exact h
  | succ i=>simp at c d;exact e.at_ i a b c d⟩
theorem LR.mono {φ ψ:fq}(c:φ.le ψ){l l':List Value}(h:LR φ l l'):LR ψ l l':=⟨h.len,λi v d a b=>(h.at_ i v d a b).mono c⟩
theorem LR.get {φ:fq}{l l':List Value}(h:LR φ l l'){i:Nat}{v:Value}(b:l[i]? = some v):∃c,l'[i]? = some c/\VR φ v c:=by
 have d:i<l.length:=(ar.1 b).1;have a:i<l'.length:=h.len ▸ d;exact⟨l'[i],au a,h.at_ i v _ b (au a)⟩
theorem LR.inv {φ:fq}{v:Value}{l l':List Value}(h:LR φ (v::l) l'):∃c m,l'=c::m/\VR φ v c/\LR φ l m:=by
 obtain⟨e,d⟩:=h;cases l' with
 | nil=>simp at e
 | cons c m=>exact⟨c,m,rfl,d 0 v c rfl rfl,by simpa using e,λi a b f j=>d (i+1) a b (by simpa using f) (by simpa using j)⟩
theorem LR.pq {φ:fq}{l':List Value}(h:LR φ [] l'):l'=[]:=by
 have:=h.len;cases l' with
 | nil=>rfl
 | cons _ _=>simp at this
theorem LR.append {φ:fq}{a e b l:List Value}(h:LR φ a e)(f:LR φ b l):LR φ (a++b) (e++l):=
 ⟨by simp[h.len,f.len],λi v k d c=>by
  by_cases j:i<a.length
  . rw[bc j]at d;rw[bc (h.len ▸ j)]at c;exact h.at_ i v k d c
  . rw[bZ (by omega)]at d;rw[bZ (by have:=h.len;omega)]at c;rw[<- h.len]at c;exact f.at_ _ v k d c⟩
theorem LR.take {φ:fq}{a d:List Value}(h:LR φ a d)(n:Nat):LR φ (a.take n) (d.take n):=
 ⟨by simp[h.len],λi v f c b=>by
  rw[bR]at c b;split at c
  . rename_i e;rw[if_pos e]at b;exact h.at_ i v f c b
  . cases c⟩
theorem LR.drop {φ:fq}{a c:List Value}(h:LR φ a c)(n:Nat):LR φ (a.drop n) (c.drop n):=
 ⟨by simp[h.len],λi v e d b=>by
  rw[bL]at d b;exact h.at_ _ v e d b⟩
theorem LR.set {φ:fq}{a d:List Value}(h:LR φ a d)(n:Nat){u f:Value}(k:VR φ u f):LR φ (a.set n u) (d.set n f):=
 ⟨by simp[h.len],λi v l c b=>by
  rw[gJ]at c b;rw[<- h.len]at b
  by_cases e:n=i
  . rw[if_pos e]at c b;split at c
    . rename_i j;rw[if_pos j]at b;cases c;cases b;exact k
    . cases c
  . rw[if_neg e]at c b;exact h.at_ i v l c b⟩
theorem nD:∀(n:Nat) (v:Value),mg n v=true->mg (n+1) v=true
 | 0,_,h=>by cases h
 | n+1,v,h=>by
   have a:=nD n;cases v with
   | iface t v=>exact a v h
   | agg c=>exact aM.2 λx hx=>a x (aM.1 h x hx)
   | tuple c=>exact aM.2 λx hx=>a x (aM.1 h x hx)
   | _=>exact h
theorem Gc {t:TypeId}{v:Value}(h:flat (.iface t v)=true):flat v=true:=nD 4 v h
theorem flat_agg {c:Array Value}(h:flat (.agg c)=true):∀x∈c.toList,flat x=true:=λx hx=>nD 4 x (aM.1 h x hx)
theorem Gd {c:Array Value}(h:flat (.tuple c)=true):∀x∈c.toList,flat x=true:=λx hx=>nD 4 x (aM.1 h x hx)
theorem LR.of_flat {φ:fq}{l:List Value}(h:∀x∈l,Ev.flat x=true):LR φ l l:=
 ⟨rfl,λi v v' b a=>by
  rw[b]at a;cases a;exact .flat v (h v (ak b))⟩
theorem VR.D_ {φ:fq}{v k:Value}(h:VR φ v k):∀n,mg n v=true->k=v:=by
 induction h with
 | flat v _=>exact λ_ _=>rfl
 | ptr _=>intro n h;cases n<;>cases h
 | slice _ _=>intro n h;cases n<;>cases h
 | map _=>intro n h;cases n<;>cases h
 | iface _ f=>
   intro n h;cases n with
   | zero=>cases h
   | succ n=>rw[f n h]
 | @agg c c' e _ f=>
   intro n h;cases n with
   | zero=>cases h
   | succ n=>
     have:c'=c:=eE λi=>by
      by_cases b:i<c.length
      . have d:=au b;have j:=au (e ▸ b:i<c'.length);rw[d,j,f i _ _ d j n (aM.1 h _ (hU b))]
      . rw[bt (by omega),bt (by omega)]
     rw[this]
 | @tuple c c' e _ f=>
   intro n h;cases n with
   | zero=>cases h
   | succ n=>
     have:c'=c:=eE λi=>by
      by_cases b:i<c.length
      . have d:=au b;have j:=au (e ▸ b:i<c'.length);rw[d,j,f i _ _ d j n (aM.1 h _ (hU b))]
      . rw[bt (by omega),bt (by omega)]
     rw[this]
 | @func fn c c' e _ _=>
   intro n h;cases n with
   | zero=>cases h
   | succ n=>
     have d:c.isEmpty=true:=by
      have:((#[]:Array Value).toList.isEmpty&&c.isEmpty)=true:=h;simpa using this
     cases c with
     | nil=>cases c' with
       | nil=>rfl
       | cons _ _=>simp at e
     | cons _ _=>cases d
 | xH s a c=>intro n h;cases n<;>first | (cases h;done) | (exact absurd h (by simp[bM,mg]))
 | xG s=>intro n h;cases n<;>first | (cases h;done) | (exact absurd h (by simp[bM,mg]))
 | row _ _ _ _ _ _ _=>intro n h;cases n<;>first | (cases h;done) | (exact absurd h (by simp[bM,mg]))
 | ep _ _ _ _ _=>intro n h;cases n<;>first | (cases h;done) | (exact absurd h (by simp[mg]))
theorem VR.aR {φ:fq}{v b:Value}(h:VR φ v b)(c:Ev.flat v=true):b=v:=h.D_ 5 c
variable {φ:fq}
theorem VR.iR {k o:Nat}{s:Option Nat}{a:Value}(h:VR φ (.pointer (some ⟨k,o,s⟩)) a):
 ∃e,φ[k]? = some (some e)/\s=none/\a= .pointer (some ⟨e.r,o,none⟩):=by
 cases h with
 | flat _ h=>cases h
 | ptr h=>exact⟨_,h,rfl,rfl⟩
theorem VR.jn {k o l c:Nat}{s:Option Nat}{a:Value}(h:VR φ (.slice (some ⟨k,o,s⟩) l c) a):
 ∃e c',φ[k]? = some (some e)/\s=none/\a= .slice (some ⟨e.r,o,none⟩) l c'/\((c≠iw/\c'=c)\/(c=iw/\l<=c'/\o+c'*e.es<=e.sz)):=by
 cases h with
 | flat _ h=>cases h
 | slice h b=>exact⟨_,_,h,rfl,rfl,b⟩
theorem VR.rY {k:Nat}{a:Value}(h:VR φ (.map (some k)) a):∃e,φ[k]? = some (some e)/\a= .map (some e.r):=by
 cases h with
 | flat _ h=>cases h
 | map h=>exact⟨_,h,rfl⟩
theorem VR.mS {t:TypeId}{v a:Value}(h:VR φ (.iface t v) a):∃u,a= .iface t u/\VR φ v u:=by
 cases h with
 | flat _ h=>exact⟨v,rfl,.flat v (Gc h)⟩
 | iface h=>exact⟨_,rfl,h⟩
theorem VR.pw {c:Array Value}{a:Value}(h:VR φ (.agg c) a):∃c',a= .agg c'/\LR φ c.toList c'.toList:=by
 cases h with
 | flat _ h=>exact⟨c,rfl,.of_flat (flat_agg h)⟩
 | agg b h=>exact⟨_,rfl,b,h⟩
theorem VR.Aa {c:Array Value}{a:Value}(h:VR φ (.tuple c) a):∃c',a= .tuple c'/\LR φ c.toList c'.toList:=by
 cases h with
 | flat _ h=>exact⟨c,rfl,.of_flat (Gd h)⟩
 | tuple b h=>exact⟨_,rfl,b,h⟩
theorem VR.M1 {fn:FuncId}{c:List Value}{b:Value}(h:VR φ (.func (.func fn) ⟨[]⟩ ⟨c⟩) b):∃c',b= .func (.func fn) #[] ⟨c'⟩/\LR φ c c':=by
 cases h with
 | flat _ h=>
   have e:c=[]:=by
    have f:((⟨[]⟩:Array Value).toList.isEmpty&&(⟨c⟩:Array Value).toList.isEmpty)=true:=h;simpa using f
   subst e;exact⟨[],rfl,.nil⟩
 | func d h=>exact⟨_,rfl,d,h⟩
theorem VR.mj {s:Nat}{es:List Value}{d:Value}(h:VR φ (bM s es) d):(es=[]/\(d= .slice none 0 0\/∃(a:Addr) (c':Nat),d= .slice (some a) 0 c'))\/∃(k o c':Nat) (e:lh) (c:Array Value),φ[k]? = some (some e)/\e.fz=some c/\
 (∀x∈es,x.cells.toList.length=s)/\(es≠[]->o+es.length*s<=c.size)/\es.length<=c'/\
 (∀(i j:Nat) (x v d:Value),es[i]? = some x->x.cells.toList[j]? = some v->c[o+i*s+j]? = some d->VR φ v d)/\d= .slice (some ⟨e.r,o,none⟩) es.length c':=by
 generalize b:bM s es=r at h;cases h with
 | flat _ h=>subst b;exact absurd h (by simp[bM,Ev.flat,mg])
 | xG s'=>unfold bM at b;injection b with h1 h2;injection h2 with h2;exact .inl ⟨h2,.inl rfl⟩
 | xH s' a c'=>unfold bM at b;injection b with h1 h2;injection h2 with h2;exact .inl ⟨h2,.inr ⟨a,c',rfl⟩⟩
 | row h f m hn l hx=>
   unfold bM at b;injection b with h1 h2;injection h1 with h1;injection h2 with h2
   subst h1 h2;exact .inr ⟨_,_,_,_,_,h,f,m,hn,l,hx,rfl⟩
 | ep _ _ _ _=>unfold bM at b;injection b with h1 h2 h3;injection h3 with h3;injection h3 with h3;cases h3
 | func _ _=>unfold bM at b;injection b with h1;cases h1
 | _=>cases b
theorem VR.xI {f:Nat}{u:Value}{d:Value}(h:VR φ (.func (.yield f) ⟨[u]⟩ ⟨[.nilIface]⟩) d):∃(k o:Nat) (e:lh) (c:Array Value),φ[k]? = some (some e)/\e.fz=some c/\o+u.cells.toList.length<=c.size/\
 (∀(j:Nat) (v d:Value),u.cells.toList[j]? = some v->c[o+j]? = some d->VR φ v d)/\d= .pointer (some ⟨e.r,o,none⟩):=by
 generalize b:Value.func (.yield f) ⟨[u]⟩ ⟨[.nilIface]⟩=r at h;cases h with
 | flat _ h=>subst b;exact absurd h (by simp[Ev.flat,mg])
 | xG s'=>unfold bM at b;injection b with h1 h2 h3;injection h3 with h3;injection h3 with h3;cases h3
 | xH s' a c'=>unfold bM at b;injection b with h1 h2 h3;injection h3 with h3;injection h3 with h3;cases h3
 | row _ _ _ _ _ _=>unfold bM at b;injection b with h1 h2 h3;injection h3 with h3;injection h3 with h3;cases h3
 | ep h i hn hx=>
   injection b with h1 h2;injection h2 with h2;injection h2 with h2
   subst h2;exact⟨_,_,_,_,h,i,hn,hx,rfl⟩
 | func _ _=>injection b with h1;cases h1
 | _=>cases b
theorem LR.agg {l l':List Value}(h:LR φ l l'):VR φ (.agg ⟨l⟩) (.agg ⟨l'⟩):= .agg h.len h.at_
theorem LR.tuple {l l':List Value}(h:LR φ l l'):VR φ (.tuple ⟨l⟩) (.tuple ⟨l'⟩):= .tuple h.len h.at_
theorem VR.aC {v b:Value}(h:VR φ v b)(a:Ev.aC v=true):b.oneCell'=true:=by
 cases h with
 | flat _ _=>cases v<;>first | rfl | cases a
 | agg _ _=>cases a
 | tuple _ _=>cases a
 | _=>rfl
theorem VR.cells {v d:Value}(h:VR φ v d):LR φ v.cells.toList d.cells.toList:=by
 cases h with
 | agg e h=>exact⟨e,h⟩
 | flat _ h=>
   cases v with
   | agg c=>exact .of_flat (flat_agg h)
   | _=>exact .cons (.flat _ h) .nil
 | xG s=>exact .cons (.xG s) .nil
 | xH s a c=>exact .cons (.xH s a c) .nil
 | row h b i hn f hx=>exact .cons (.row h b i hn f hx) .nil
 | ep h b hn hx=>exact .cons (.ep h b hn hx) .nil
 | _=>exact .cons (by constructor<;>assumption) .nil
def hp (H:T OB)(k:Nat):Option OB:=H.get (bits k)
def rS (g:Nat->Option OB)(k:Nat)(x:Option OB)(j:Nat):Option OB:=if j=k then x else g j
theorem dc (H:T OB)(k:Nat)(x:Option OB):hp (set H (bits k) x)=rS (hp H) k x:=by
 funext j;unfold hp rS;rw[get_at]
@[simp] theorem fH (g:Nat->Option OB) (k:Nat) (x:Option OB):rS g k x k=x:=if_pos rfl
theorem bP (g:Nat->Option OB){k j:Nat}(h:j≠k)(x:Option OB):rS g k x j=g j:=if_neg h
structure MER (φ:fq)(e e':MapEntry):Prop where
 key:VR φ e.key e'.key
 val:VR φ e.val e'.val
 born:e'.born=e.born
inductive uI (φ:fq):List MapEntry->List MapEntry->Prop
 | nil:uI φ [] []
 | cons {e e':MapEntry} {l l':List MapEntry} (h:MER φ e e') (hl:uI φ l l'):uI φ (e::l) (e'::l')
theorem uI.mono {φ ψ:fq}(b:φ.le ψ){l l':List MapEntry}(h:uI φ l l'):uI ψ l l':=by
 induction h with
 | nil=>exact .nil
 | cons h _ c=>exact .cons ⟨h.key.mono b,h.val.mono b,h.born⟩ c
def Bg (φ:fq)(c:Array Value)(n:Nat)(t:T Value):Prop:=∀i,i<n->∀v,t.get (bits i)=some v->∃a,c[i]? = some a/\VR φ v a
theorem Bg.mono {φ ψ:fq}(d:φ.le ψ){c:Array Value}{n:Nat}{t:T Value}(h:Bg φ c n t):Bg ψ c n t:=
 λi e v f=>let⟨v',a,b⟩:=h i e v f;⟨v',a,b.mono d⟩
def Ge (φ:fq)(m m':Option Nat):Prop:=match m,m' with
 | none,none=>True
 | some k,some r=>∃e,φ[k]? = some (some e)/\e.r=r
 | _,_=>False
theorem Ge.mono {φ ψ:fq}(c:φ.le ψ){m m':Option Nat}(h:Ge φ m m'):Ge ψ m m':=by
 cases m<;>cases m'<;>first | exact h | (obtain⟨e,a,b⟩:=h;exact⟨e,c _ _ a,b⟩)
def live:OB->Bool
 | .dead=>false
 | .ro _ _=>false
 | _=>true
def Ea (P:Program)(W:World)(φ:fq)(ob:OB)(e:lh)(w:World):Prop:=match ob with
 | .cells n t el=>W.heap.size<=e.r/\(∃c d,w.heap[e.r]? = some (.cells c d (0,0))/\c.size=e.sz/\n<=e.sz/\Bg φ c n t)/\∀z,bT P el=some z->e.es=z
 | .ro n t=>(e.r<W.heap.size/\∃c d fz,W.heap[e.r]? = some (.cells c d fz)/\n<=c.size/\Bg φ c n t)\/∃(k:Nat) (j:lh) (c:Array Value),φ[k]? = some (some j)/\j.r=e.r/\j.fz=some c/\n<=c.size/\Bg φ c n t
 | .dead=>True
 | .map es c=>W.heap.size<=e.r/\∃h,w.heap[e.r]? = some (.map h c)/\uI φ es h.toList
 | .iter m b i f=>W.heap.size<=e.r/\∃m' a,w.heap[e.r]? = some (.mapIter m' b a f)/\a.toList=i/\Ge φ m m'
theorem Ea.mono {P:Program}{W:World}{φ ψ:fq}(a:φ.le ψ){ob:OB}{e:lh}{w:World}(h:Ea P W φ ob e w):Ea P W ψ ob e w:=by
 cases ob with
 | cells n t el=>obtain⟨b,⟨c,j,d,f,i,p⟩,r⟩:=h;exact⟨b,⟨c,j,d,f,i,p.mono a⟩,r⟩
 | ro n t=>
   rcases h with⟨b,c,j,fz,d,f,i⟩ | ⟨k,s,c,b,d,f,i,p⟩
   . exact .inl ⟨b,c,j,fz,d,f,i.mono a⟩
   . exact .inr ⟨k,s,c,a _ _ b,d,f,i,p.mono a⟩
 | dead=>trivial
 | map es c=>obtain⟨b,q,d,f⟩:=h;exact⟨b,q,d,f.mono a⟩
 | iter m since seen last=>obtain⟨b,m',l,d,f,i⟩:=h;exact⟨b,m',l,d,f,i.mono a⟩
theorem Ea.heap {P:Program}{W:World}{φ:fq}{ob:OB}{e:lh}{w p:World}(l:live ob=true->p.heap[e.r]? = w.heap[e.r]?)(h:Ea P W φ ob e w):Ea P W φ ob e p:=by
 cases ob with
 | cells n t el=>obtain⟨b,⟨c,j,d,f,i,s⟩,q⟩:=h;exact⟨b,⟨c,j,by rw[l rfl];exact d,f,i,s⟩,q⟩
 | ro n t=>exact h
 | dead=>trivial
 | map es c=>obtain⟨b,k,d,f⟩:=h;exact⟨b,k,by rw[l rfl];exact d,f⟩
 | iter m since seen last=>obtain⟨b,m',a,d,f,i⟩:=h;exact⟨b,m',a,by rw[l rfl];exact d,f,i⟩
theorem Ea.aaT {P:Program}{W:World}{φ:fq}{ob:OB}{e:lh}{w:World}(a:live ob=true)(h:Ea P W φ ob e w):W.heap.size<=e.r:=by
 cases ob with
 | ro n t=>cases a
 | dead=>cases a
 | _=>exact h.1
structure HR (P:Program)(W:World)(φ:fq)(g:Nat->Option OB)(w:World):Prop where
 below:Below W.heap.size W w
 uJ:∀(k:Nat) (ob:OB),g k=some ob->k<φ.length
 tu:∀(k:Nat) (e:lh),φ[k]? = some (some e)->e.r<w.heap.size
 inj:∀(k k':Nat) (ob ob':OB) (e e':lh),φ[k]? = some (some e)->φ[k']? = some (some e')->g k=some ob->g k'=some ob'->live ob=true->live ob'=true->e.r=e'.r->k=k'
 obj:∀(k:Nat) (ob:OB) (e:lh),g k=some ob->φ[k]? = some (some e)->Ea P W φ ob e w
 gl:∀(k:Nat),k<P.globals.size->∃e:lh,φ[k]? = some (some e)/\e.r=k
 qH:∀(k:Nat) (e:lh) (c:Array Value),φ[k]? = some (some e)->e.fz=some c->∃el fz,w.heap[e.r]? = some (.cells c el fz)
 xJ:∀(k k':Nat) (e e':lh) (c:Array Value) (ob:OB),φ[k]? = some (some e)->e.fz=some c->φ[k']? = some (some e')->g k'=some ob->live ob=true->e'.r≠e.r
theorem HR.row {P:Program}{W:World}{φ:fq}{g:Nat->Option OB}{w:World}(hH:HR P W φ g w){k n:Nat}{t:T Value}{e:lh}
 (d:(∃el,g k=some (.cells n t el))\/g k=some (.ro n t)) (l:φ[k]? = some (some e)):∃c a fz,w.heap[e.r]? = some (.cells c a fz)/\n<=c.size/\Bg φ c n t:=by
 rcases d with⟨el,d⟩ | d
 . obtain⟨_,⟨c,a,b,h,f,j⟩,_⟩:=hH.obj k _ e d l;exact⟨c,a,(0,0),b,by omega,j⟩
 . rcases hH.obj k _ e d l with⟨i,c,a,fz,b,h,f⟩ | ⟨p,q,c,i,b,h,f,j⟩
   . exact⟨c,a,fz,by rw[hH.below.block e.r i];exact b,h,f⟩
   . obtain⟨a,fz,m⟩:=hH.qH p q c i h;exact⟨c,a,fz,by rw[<- b];exact m,f,j⟩
theorem HR.cells {P:Program}{W:World}{φ:fq}{g:Nat->Option OB}{w:World}(hH:HR P W φ g w){k n:Nat}{t:T Value}{el:TypeId}{e:lh}
 (b:g k=some (.cells n t el)) (d:φ[k]? = some (some e)):∃c a,w.heap[e.r]? = some (.cells c a (0,0))/\c.size=e.sz/\n<=e.sz/\Bg φ c n t:=
 (hH.obj k _ e b d).2.1
theorem HR.es {P:Program}{W:World}{φ:fq}{g:Nat->Option OB}{w:World}(hH:HR P W φ g w){k n:Nat}{t:T Value}{el:TypeId}{e:lh}
 (a:g k=some (.cells n t el)) (b:φ[k]? = some (some e)):∀z,bT P el=some z->e.es=z:=(hH.obj k _ e a b).2.2
theorem gg (b off i:Nat):(⟨b,off,none⟩:Addr).add i=⟨b,off+i,none⟩:=by
 unfold Addr.add;split
 . rename_i h;subst h;rfl
 . rfl
end
end
end Go.Ev
namespace Go.Ev
noncomputable section
set_option maxRecDepth 100000
set_option linter.unusedVariables false
set_option linter.unusedSimpArgs false
section
variable {P:Program}{W w:World}{φ:fq}{H:T OB}{tm:T Value}{ρ:Operand->Value}
theorem uK {α:Type}(P:Program):∀(s:Sem α) (a:α),dW P s=some a->∀w,s.run P w= .ok a w:=by
 intro s
 induction s with
 | pure a=>intro b h w;cases h;rfl
 | program k c=>intro b h w;exact c P b h w
 | mark m k c=>intro b h w;exact c b h w
 | _=>intro b h;cases h
def tv (P:Program)(φ:fq)(tm:T Value)(ρ:Operand->Value)(l:List Operand):Prop:=∀x∈l,∀v,cZ P tm x=some v->VR φ v (ρ x)
theorem Ab {r:Option Next}{v:Value}(h:xi r=some v):r=some (.value v)/\flat v=true:=by
 unfold xi at h;split at h
 . rw[nB]at h;obtain⟨a,b⟩:=bE h;cases b;exact⟨rfl,a⟩
 . cases h
theorem xK {s:Sem Value}{v:Value}(h:fV P s=some v):flat v=true/\∀w,s.run P w= .ok v w:=by
 unfold fV at h;obtain⟨d,c⟩:=Ab h;refine⟨c,λw=> ?_⟩;have a:=uK P _ _ d w;unfold vS at a;rw[Sem.run_bind]at a;cases b:s.run P w with
 | ok u w'=>rw[b]at a;injection a with h6 h7;injection h6 with h6;rw[h6,h7]
 | _=>rw[b]at a;cases a
theorem iZ {a b:Nat}(h:bY a b=true):a<b:=dS h
theorem fI {a b:Nat}(h:bj a b=true):a<=b:=dS h
theorem beq_eq {a b:Nat}(h:ay a b=true):a=b:=Nat.eq_of_beq_eq_true h
theorem eG {t:TypeId}{s:Nat}(h:bT P t=some s)(w:World):(sizeOf t).run P w= .ok s w:=by
 unfold bT at h;split at h
 . rename_i i a;cases h;simp[sizeOf,typeInfo,a]
 . cases h
theorem cJ {t:TypeId}{d:TypeDesc}(h:P.underlying t=some d)(w:World):(underlying t).run P w= .ok d w:=run_underlying h w
theorem jZ {t:TypeId}{b:Bool}(h:gf P t=some b)(w:World):(isAgg t).run P w= .ok b w:=by
 unfold gf at h;unfold isAgg;split at h
 . rename_i i hd;cases h;simp[cJ hd]
 . rename_i n e hd;cases h;simp[cJ hd]
 . rename_i d f c hd;cases h;rw[Sem.run_bind,cJ hd,Result.andThen_ok];split
   . rename_i i;exact absurd rfl (f i)
   . rename_i n e;exact absurd rfl (c n e)
   . rfl
 . cases h
theorem rh {c:Array Value}{n:Nat}{t:T Value}(m:Bg φ c n t)
 {s off:Nat} {l:List Value} (p:vd t s off=some l) (hn:off+s<=n) (oI:n<=c.size):LR φ l ((c.toList.drop off).take s)/\l.length=s:=by
 obtain⟨f,r⟩:=xB t s off l p;have d:((c.toList.drop off).take s).length=s:=by simp;omega
 refine⟨⟨by rw[f,d],λi v v' h b=> ?_⟩,f⟩;have e:i<s:=by have:=(ar.1 h).1;omega
 have j:=r i e;rw[h]at j;obtain⟨u,q,k⟩:=m (off+i) (by omega) v j;rw[bR,if_pos e,bL,dT,q]at b;cases b;exact k
theorem vx {c:Array Value}{r off s:Nat}{el:TypeId}{fz:Nat×Nat}{w:World}(d:w.heap[r]? = some (.cells c el fz))(hs:off+s<=c.size):
 (loadCells ⟨r,off,none⟩ s).run P w= .ok ((c.toList.drop off).take s).toArray w:=by
 have a:((c.toList.drop off).take s).length=s:=by simp;omega
 have:=run_loadCells_list (P:=P) w ⟨r,off,none⟩ ((c.toList.drop off).take s) (λj v b=>by
  rw[gg,cell_of_row w r (off+j) c el fz d];rw[bR]at b;split at b
  . rw[bL]at b;simpa using b
  . cases b)
 rwa[a]at this
theorem Eb (hH:HR P W φ (hp H) w){t:TypeId}{b off:Nat}{v:Value}{e:lh}(G:φ[b]? = some (some e))(h:nX P H t b off=some v):
 ∃i,VR φ v i/\(loadVar t ⟨e.r,off,none⟩).run P w= .ok i w:=by
 unfold nX at h;obtain⟨n,tr,D,y⟩:=xF h;obtain⟨c,p,fz,A,hn,x⟩:=hH.row D G;unfold oz at y;obtain⟨a,C,z⟩:=aY y;unfold loadVar;rw[Sem.run_bind,jZ C,Result.andThen_ok];cases a with
 | true=>
   have d:xh P n tr t off=some v:=z;unfold xh at d;obtain⟨s,E,m⟩:=aY d;obtain⟨q,u⟩:=bE m;obtain⟨l,F,j⟩:=aY u;cases j;have f:off+s<=n:=dS q;obtain⟨B,h8⟩:=rh x F f (by omega);refine⟨_,B.agg,?_⟩;simp only[if_true,Sem.run_bind,eG E,Result.andThen_ok,vx A (show off+s<=c.size by omega)];rfl
 | false=>
   have d:xg n tr off=some v:=z;unfold xg at d;obtain⟨k,m⟩:=bE d;obtain⟨i,u,j⟩:=x off (iZ k) v m;refine⟨i,j,?_⟩;simp only[jW,if_false,run_load,cell_of_row w e.r off c p fz A,u]
section ops
variable {o:Oper}
theorem rZ (hH:HR P W φ (hp H) w){t:TypeId}{xv:Option Value}{y:Value}(F:∀v,xv=some v->VR φ v y){v:Value}(h:aA P H t xv=some v):
 ∃q a,y= .pointer (some a)/\VR φ v q/\(loadVar t a).run P w= .ok q w:=by
 unfold aA at h;split at h
 . obtain⟨e,m,_,p⟩:=(F _ rfl).iR;obtain⟨q,x,J⟩:=Eb hH m h;exact⟨q,_,p,x,J⟩
 . obtain⟨f,u,rfl,h⟩:=Bf h;obtain⟨k,o,e,c,G,I,m,p,x⟩:=(F _ rfl).xI;unfold zA at h;obtain⟨a,D,h⟩:=aY h;obtain⟨s,K,h⟩:=aY h;obtain⟨C,h⟩:=bE h;cases h;simp only[ae]at C;have A:=beq_eq C.2;obtain⟨el,fz,E⟩:=hH.qH k e c G I;have d:=C.1;cases a with
   | true=>
     have d:q_ v=true:=d;cases v with
     | agg cs=>
       have A:cs.toList.length=s:=A;have B:o+s<=c.size:=by
        have m:o+cs.toList.length<=c.size:=m;omega
       refine⟨.agg ⟨(c.toList.drop o).take s⟩,_,x,?_,?_⟩
       . have:VR φ (.agg ⟨cs.toList⟩) (.agg ⟨(c.toList.drop o).take s⟩):=LR.agg ⟨by simp only[cC,aD,ch];simp only[ch]at A;omega,λj a b z i=>by
          rw[bR]at i;split at i
          . rw[bL,dT]at i;exact p j a b z i
          . cases i⟩
         exact this
       . unfold loadVar;rw[Sem.run_bind,jZ D,Result.andThen_ok];simp only[if_true,Sem.run_bind,eG K,Result.andThen_ok,vx E B];rfl
     | _=>cases d
   | false=>
     have d:(!q_ v)=true:=d;have l:v.cells.toList=[v]:=by
      cases v with
      | agg cs=>cases d
      | _=>rfl
     rw[l]at m p;have n:o<c.size:=by
      have m:o+1<=c.size:=m;omega
     refine⟨c[o],_,x,p 0 v c[o] rfl (by simp[n]),?_⟩;unfold loadVar;rw[Sem.run_bind,jZ D,Result.andThen_ok];simp only[jW,if_false,run_load,cell_of_row w e.r o c el fz E,cE n]
 . cases h
theorem R9 (hH:HR P W φ (hp H) w){t:TypeId}{x:Operand}(i:o.op= .load t x)(c:∀v,cZ P tm x=some v->VR φ v (ρ x)){v:Value}
 (h:aA P H t (cZ P tm x)=some v):∃b,VR φ v b/\(execOp ρ o).run P w= .ok (.value b) w:=by
 obtain⟨b,a,f,d,e⟩:=rZ hH c h;exact⟨b,d,by simp[execOp,i,f,Instr.loadAt,Instr.sureAddr,e]⟩
theorem HW {x:Operand}(a:o.op= .move x\/o.op= .assign x)(c:∀v,cZ P tm x=some v->VR φ v (ρ x)){v:Value}
 (h:cZ P tm x=some v) (w:World):∃b,VR φ v b/\(execOp ρ o).run P w= .ok (.value b) w:=
 ⟨ρ x,c v h,by rcases a with a | a<;>simp[execOp,a]⟩
theorem R_ {c a b:Operand}(i:o.op= .pick c a b)(d:∀x∈[c,a,b],∀v,cZ P tm x=some v->VR φ v (ρ x)){v:Value}
 (h:xj (cZ P tm c) (cZ P tm a) (cZ P tm b)=some v) (w:World):∃f,VR φ v f/\(execOp ρ o).run P w= .ok (.value f) w:=by
 unfold xj at h;split at h
 . rename_i x hx;have e:=(d c (by simp) _ hx).aR rfl;cases x with
   | true=>exact⟨ρ a,d a (by simp) v h,by simp[execOp,i,e,asBool]⟩
   | false=>exact⟨ρ b,d b (by simp) v h,by simp[execOp,i,e,asBool]⟩
 . cases h
theorem XJ {x:Operand}(m:o.op= .nilCheck x)(l:∀v,cZ P tm x=some v->VR φ v (ρ x)){v:Value}
 (h:rT (cZ P tm x)=some v) (w:World):∃p,VR φ v p/\(execOp ρ o).run P w= .ok (.value p) w:=by
 unfold rT at h;split at h
 . rename_i a i;cases h;obtain⟨k,off,s⟩:=a;have d:=l _ i;obtain⟨e,z,q,r⟩:=d.iR;exact⟨ρ x,d,by simp[execOp,m,r]⟩
 . rename_i g a b i;cases h;have d:=l _ i;cases j:ρ x with
   | func fn a' b'=>
     rw[j]at d;have n:fn= .func g:=by cases d<;>rfl
     subst n;exact⟨_,d,by simp[execOp,m,j]⟩
   | _=>rw[j]at d;cases d
 . rename_i t u i;cases h;have d:=l _ i;obtain⟨u',j,z⟩:=d.mS;exact⟨ρ x,d,by simp[execOp,m,j]⟩
 . rename_i u _ _ _ i;obtain⟨f,y,rfl,h⟩:=Bf h;cases h;have d:=l _ i;obtain⟨k,o,e,c,_,_,_,_,q⟩:=d.xI;exact⟨ρ x,d,by simp[execOp,m,q]⟩
 . cases h
theorem r8 {s:TypeId}{f d:Nat}(h:oA P s f=some d):
 ∃b a z,P.underlying s=some (.struct b)/\b[f]? = some a/\bT P a.type=some (z+1)/\d=a.offset:=by
 unfold oA at h;split at h
 . rename_i b e;split at h
   . rename_i a c;split at h
     . rename_i z i;cases h;exact⟨b,a,z,e,c,i,rfl⟩
     . cases h
   . cases h
 . cases h
theorem uL {t:TypeId}{f:Nat}{q:Nat×Option Nat}(h:nm P t f=some q):∃b a,P.underlying t=some (.struct b)/\b[f]? = some a/\q.1=a.offset/\
 ((q.2=none/\gf P a.type=some false)\/∃s,q.2=some s/\gf P a.type=some true/\bT P a.type=some s):=by
 unfold nm at h;split at h
 . rename_i b e;split at h
   . rename_i a c;refine⟨b,a,e,c,?_⟩;split at h
     . rename_i d;split at h
       . rename_i s i;cases h;exact⟨rfl,.inr ⟨s,rfl,d,i⟩⟩
       . cases h
     . rename_i d;cases h;exact⟨rfl,.inl ⟨rfl,d⟩⟩
     . cases h
   . cases h
 . cases h
theorem Bh {s:TypeId}{x:Operand}{f:Nat}(Z:o.op= .fieldAddr s x f)(hE:∀v,cZ P tm x=some v->VR φ v (ρ x)){v:Value}
 (h:aq P s (cZ P tm x) f=some v) (w:World):∃K,VR φ v K/\(execOp ρ o).run P w= .ok (.value K) w:=by
 unfold aq at h;obtain⟨y,hy,h⟩:=aY h;have V:=hE y hy;unfold faV at h;split at h
 . obtain⟨d,hd,t⟩:=aY h;rw[bW]at t;cases t;obtain⟨fs,l,z,N,M,S,rfl⟩:=r8 hd;obtain⟨e,t,_,E⟩:=V.iR;refine⟨_,VR.ptr t,?_⟩;simp[execOp,Z,E,Instr.fieldAt,Instr.sureAddr,cJ N,M,fieldPlace,eG S,gg]
 . obtain⟨g,u,rfl,h⟩:=Bf h;obtain⟨d,hd,h⟩:=aY h;split at h
   . obtain⟨D,i,U⟩:=aY h;cases U;clear h;obtain⟨fs,l,z,N,M,S,rfl⟩:=r8 hd;obtain⟨k,I,e,c,X,Y,t,E,h5⟩:=V.xI;clear V hy hE;rename_i cs _ _ _;have t:I+cs.length<=c.size:=t;have E:∀(j:Nat) (v K:Value),cs[j]? = some v->c[I+j]? = some K->VR φ v K:=E;have J:(execOp ρ o).run P w= .ok (.value (.pointer (some ⟨e.r,I+l.offset,none⟩))) w:=by
      simp[execOp,Z,h5,Instr.fieldAt,Instr.sureAddr,cJ N,M,fieldPlace,eG S,gg]
     refine⟨_,?_,J⟩;cases A:nm P s f with
     | none=>rw[A]at i;cases i
     | some q=>
       rw[A]at i;obtain⟨fs',fd',G,L,B,Q⟩:=uL A;rw[N]at G;cases G;rw[M]at L;cases L;obtain⟨qo,qs⟩:=q;have B:qo=l.offset:=B;subst B;rcases Q with⟨C,_⟩ | ⟨s',C,_,_⟩
       . have C:qs=none:=C;subst C;obtain⟨x1,i,n⟩:=aY (show aw cs[l.offset]? (λv=>bif aC v then some v else none) none=some D from i);obtain⟨n,R⟩:=bE n;cases R;have hlt:=(ar.1 i).1;have p:D.cells.toList=[D]:=by cases D<;>first | rfl | cases n
         refine .ep X Y (by rw[p];show I+l.offset+1<=c.size;omega) λj a b m O=> ?_;rw[p]at m;cases j with
         | zero=>cases m;exact E l.offset D b i O
         | succ j=>simp at m
       . have C:qs=some s':=C;subst C;obtain⟨F,i⟩:=bE (show(bif bj (l.offset+s') cs.length then some (Value.agg ⟨(cs.drop l.offset).take s'⟩)else none)=some D from i);cases i;have F:=fI F;refine .ep X Y ?_ λj a b m O=> ?_
         . show I+l.offset+((cs.drop l.offset).take s').length<=c.size;simp only[cC,aD];omega
         . have m:((cs.drop l.offset).take s')[j]? = some a:=m;rw[bR]at m;split at m
           . rw[bL]at m;exact E (l.offset+j) a b m (by rw[<- iK];exact O)
           . cases m
   . cases h
theorem Ac {β:Type}{t:TypeId}{k:Nat->Nat->Option β}{y:β}(h:qD P t k none=some y):
 ∃len e s,P.underlying t=some (.array len e)/\bT P e=some s/\k len s=some y:=by
 unfold qD at h;split at h
 . rename_i len e c;obtain⟨s,b,a⟩:=aY h;exact⟨len,e,s,c,b,a⟩
 . cases h
theorem r9 {t:TypeId}{s:Nat}(h:tA P t=some s):∃e,P.underlying t=some (.slice e)/\bT P e=some s:=by
 unfold tA at h;obtain⟨e,s',a,b,h⟩:=D9 h;cases h;exact⟨e,a,b⟩
theorem Bi {t:TypeId}{x E:Operand}(I:o.op= .indexAddr t x E)(D:∀y∈[x,E],∀v,cZ P tm y=some v->VR φ v (ρ y)){v:Value}
 (h:cq P t (cZ P tm x) (cZ P tm E)=some v) (w:World):∃M,VR φ v M/\(execOp ρ o).run P w= .ok (.value M) w:=by
 unfold cq at h;split at h
 case h_2=>cases h
 rename_i k i0 Q;obtain⟨i,rfl,N⟩:=z_ h;clear h;have h:=N;clear N;have F:=(D E (by simp) _ Q).aR rfl;unfold MP at h;split at h
 . rename_i b off len cp hx;obtain⟨s,J,m⟩:=aY h;obtain⟨e,A,C⟩:=r9 J;obtain⟨d,l⟩:=bE m;rw[bW]at l;cases l;have f:i<len:=iZ d;obtain⟨K,c',p,_,B,_⟩:=(D x (by simp) _ hx).jn;refine⟨_,.ptr (o:=off+i*s) p,?_⟩;simp[execOp,I,B,F,Instr.indexAt,asIntOf,cJ A,eG C,gg,f]
 . rename_i b off hx;obtain⟨len,e,s,A,C,m⟩:=Ac h;obtain⟨d,l⟩:=bE m;rw[bW]at l;cases l;have f:i<len:=iZ d;obtain⟨K,p,_,B⟩:=(D x (by simp) _ hx).iR;refine⟨_,.ptr (o:=off+i*s) p,?_⟩;simp[execOp,I,B,F,Instr.indexAt,Instr.sureAddr,asIntOf,cJ A,eG C,gg,f]
 . rename_i y _ _ hx;obtain⟨s,es,rfl,h⟩:=mR h;unfold RY at h;obtain⟨z,J,m⟩:=aY h;obtain⟨e,A,C⟩:=r9 J;obtain⟨G,l⟩:=bE m;obtain⟨u,n,p⟩:=aY l;have Y:=beq_eq G;subst Y;cases p;clear h m l;have d:i<es.length:=(ar.1 n).1;rcases(D x (by simp) _ hx).mj with⟨rfl,_⟩ | ⟨k',V,c',K,c,S,U,m,l,p,B,Z⟩
   . simp at d
   . have L:=m u (ak n);refine⟨.pointer (some ⟨K.r,V+i*s,none⟩),.ep S U ?_ (λj a b R X=>B i j u a b n R X),?_⟩
     . rw[L];have:=l (by intro q;subst q;simp at d);have O:(i+1)*s<=es.length*s:=fM s d;rw[ir]at O;omega
     . simp[execOp,I,Z,F,Instr.indexAt,asIntOf,cJ A,eG C,gg,d]
 . cases h
theorem Gf {x:Operand}{i:Nat}(j:o.op= .extract x i)(b:∀v,cZ P tm x=some v->VR φ v (ρ x)){v:Value}
 (h:bH (cZ P tm x) i=some v) (w:World):∃a,VR φ v a/\(execOp ρ o).run P w= .ok (.value a) w:=by
 unfold bH at h;split at h
 . rename_i vs hx;obtain⟨c',e,d⟩:=(b _ hx).Aa;obtain⟨a,k,f⟩:=d.get h;refine⟨a,f,?_⟩;have c:c'[i]? = some a:=by simpa using k
   simp[execOp,j,e,Instr.extract,c]
 . cases h
theorem M3 {t:TypeId}{x:Operand}{f:Nat}(y:o.op= .field t x f)(z:∀v,cZ P tm x=some v->VR φ v (ρ x)){v:Value}
 (h:rdField P t (cZ P tm x) f=some v) (w:World):∃i,VR φ v i/\(execOp ρ o).run P w= .ok (.value i) w:=by
 unfold rdField at h;split at h
 case h_2=>cases h
 rename_i cs hx;obtain⟨c',r,j⟩:=(z _ hx).pw;have j:LR φ cs c'.toList:=j;cases b:nm P t f with
 | none=>rw[b]at h;cases h
 | some q=>
   rw[b]at h;obtain⟨fs,a,u,p,c,k⟩:=uL b;obtain⟨A,qs⟩:=q;have c:A=a.offset:=c;subst c;rcases k with⟨d,l⟩ | ⟨s,d,l,C⟩
   . have d:qs=none:=d;subst d;have h:cs[a.offset]? = some v:=h;obtain⟨i,n,B⟩:=j.get h;have D:c'[a.offset]? = some i:=by simpa using n
     exact⟨i,B,by simp[execOp,y,r,Instr.field,cJ u,p,asAgg,part,jZ l,D]⟩
   . have d:qs=some s:=d;subst d;obtain⟨m,n⟩:=bE (show(bif bj (a.offset+s) cs.length then some (Value.agg ⟨(cs.drop a.offset).take s⟩)else none)=some v from h);cases n;have hle':a.offset+s<=cs.length:=dS m;refine⟨_,((j.drop a.offset).take s).agg,?_⟩;have e:(⟨(c'.toList.drop a.offset).take s⟩:Array Value)=c'.extract a.offset (a.offset+s):=by
      apply eU;simp only[Array.toList_extract,List.extract_eq_take_drop];rw[show a.offset+s-a.offset=s from by omega]
     rw[e];simp[execOp,y,r,Instr.field,cJ u,p,asAgg,part,jZ l,eG C]
theorem lF {x:Option Operand}{d n:Nat}(hx:∀y∈x.toList,∀v,cZ P tm y=some v->VR φ v (ρ y))(h:bound (j8 P tm x) d=some n):
 (x=none/\n=d)\/∃y k,x=some y/\ρ y= .int k (.ofNat n):=by
 cases x with
 | none=>cases h;exact .inl ⟨rfl,rfl⟩
 | some y=>
   right;cases a:cZ P tm y with
   | none=>
     have:j8 P tm (some y)=none:=by simp only[j8,a]
     rw[this]at h;cases h
   | some v=>
     have:j8 P tm (some y)=some (some v):=by simp only[j8,a]
     rw[this]at h;have h:FZ (some v)=some n:=h;unfold FZ at h;split at h
     . rename_i k i q;cases q;obtain⟨c,b⟩:=bE h;cases b;cases i with
       | ofNat m=>exact⟨y,k,rfl,(hx y (by simp) _ a).aR rfl⟩
       | negSucc m=>cases c
     . cases h
theorem lM {d c:Option Operand}{isS:Bool}{len b l h:Nat}(oJ:(d=none/\l=0)\/∃y k,d=some y/\ρ y= .int k (.ofNat l))
 (e:(c=none/\h=len)\/∃y k,c=some y/\ρ y= .int k (.ofNat h)) (i:l<=h) (n:h<=b) (w:World):
 (Instr.sliceBounds isS len b (d.map ρ) (c.map ρ) none).run P w= .ok (l,h,b) w:=by
 have e1:(h:Int)<=(b:Int):=by omega
 have e2:(l:Int)<=(h:Int):=by omega
 rcases oJ with⟨rfl,rfl⟩ | ⟨y,k,rfl,f⟩<;>rcases e with⟨rfl,rfl⟩ | ⟨z,j,rfl,m⟩
 . simp[Instr.sliceBounds]
 . simp[Instr.sliceBounds,m,Instr.sliceBound,asIntOf,n]
 . simp[Instr.sliceBounds,f,Instr.sliceBound,asIntOf,i]
 . simp[Instr.sliceBounds,f,m,Instr.sliceBound,asIntOf,i,n]
theorem Ad {b off a s l h r:Nat}{p:lh}{v:Value}(n:φ[b]? = some (some p))(q:p.r=r)(m:lJ b off a s l h=some v):
 l<=h/\h<=a/\VR φ v (.slice (if a=l then some ⟨r,off,none⟩else some ⟨r,off+l*s,none⟩) (h-l) (a-l)):=by
 subst q;unfold lJ at m;obtain⟨i,d⟩:=bE m;simp only[ae]at i;have k:=fI i.1.1;have j:=fI i.1.2;have h11:=iZ i.2;refine⟨k,j,?_⟩;rw[bW]at d;cases f:ay a l with
 | true=>
   rw[f]at d;have d:some (Value.slice (some ⟨b,off,none⟩) (h-l) 0)=some v:=d;cases d;have:=beq_eq f;subst this;rw[if_pos rfl,Nat.sub_self];exact .slice n (.inl ⟨by decide,rfl⟩)
 | false=>
   rw[f]at d;have d:eF (iq off (Nat.mul l s)) (λo=>eF (Nat.sub a l) λc=>some (Value.slice (some ⟨b,o,none⟩) (h-l) c))=some v:=d;rw[bW,bW]at d;cases d;have:a≠l:=λe=>by rw[e]at f;exact absurd (cm l) (by rw[f];decide)
   rw[if_neg this];exact .slice n (.inl ⟨by show a-l≠iw;omega,rfl⟩)
theorem tF {mx:Option Operand}(h:(match j8 P tm mx with | some none=>true | _=>false)=true):mx=none:=by
 cases mx with
 | none=>rfl
 | some y=>
   exfalso;unfold j8 at h;cases a:cZ P tm y<;>simp only[a]at h<;>cases h
theorem Gg {mx:Option Operand}{u:Option Value}(c:∀y∈mx.toList,∀v,cZ P tm y=some v->VR φ v (ρ y))(h:j8 P tm mx=some u)(a:HQ u=true):mx.map ρ=u:=by
 cases mx with
 | none=>cases h;rfl
 | some y=>
   unfold j8 at h;cases b:cZ P tm y with
   | none=>simp only[b]at h;cases h
   | some v=>
     simp only[b]at h;cases h;have a:flat v=true:=a;have:=(c y (by simp) v b).aR a;show some (ρ y)=some v;rw[this]
theorem M4 (hH:HR P W φ (hp H) w){t:TypeId}{x:Operand}{lo A mx:Option Operand}(ho:o.op= .slice t x lo A mx)
 (E:tv P φ tm ρ o.op.operands.toList) {v:Value}
 (h:cw P H t (cZ P tm x) (j8 P tm lo) (j8 P tm A) (j8 P tm mx)=some v):∃v',VR φ v v'/\(execOp ρ o).run P w= .ok (.value v') w:=by
 have K:o.op.operands.toList=[x]++lo.toList++A.toList++mx.toList:=by rw[ho];cases lo<;>cases A<;>cases mx<;>rfl
 unfold cw at h;split at h
 . rename_i b off len X hx;obtain⟨p,h⟩:=bE h;have p:=tF p;subst p;rw[K]at E;obtain⟨F,c',M,_,O,B⟩:=(E x (by simp) _ hx).jn;obtain⟨s,hq,u⟩:=aY h;obtain⟨e,hu,hs⟩:=r9 hq;obtain⟨l,hl,u⟩:=aY u;obtain⟨f,d,u⟩:=aY u;have oJ:=lF (ρ:=ρ) (φ:=φ) (λy C=>E y (by simp[C])) hl;have d:=lF (ρ:=ρ) (φ:=φ) (λy C=>E y (by simp[C])) d;have L:l<=f->f<=c'->(execOp ρ o).run P w= .ok (.value (.slice (if c'=l then some ⟨F.r,off,none⟩else some ⟨F.r,off+l*s,none⟩) (f-l) (c'-l))) w:=by
    intro Y Z;simp only[execOp,ho,O,Instr.sliceAt,Sem.run_bind,cJ hu,Result.andThen_ok,Instr.slice,jQ,lM (P:=P) oJ d Y Z,eG hs,Sem.run_pure]
    by_cases G:c'=l
    . simp[G]
    . simp[G,gg]
   cases D:ay X iw with
   | false=>
     rw[D]at u;have u:lJ b off X s l f=some v:=u;have V:X≠iw:=λe=>by rw[e]at D;exact absurd (cm iw) (by rw[D];decide)
     have G:c'=X:=by
      rcases B with B | B
      . exact B.2
      . exact absurd B.1 V
     subst G;obtain⟨U,I,N⟩:=Ad M rfl u;exact⟨_,N,L U I⟩
   | true=>
     rw[D]at u;have u:tB P H b off len s l f=some v:=u;have hcu:=beq_eq D;have B:len<=c'/\off+c'*F.es<=F.sz:=by
      rcases B with B | B
      . exact absurd hcu B.1
      . exact B.2
     unfold tB at u;obtain⟨U,I⟩:=bE u;simp only[ae]at U;have N:=fI U.1;have h11:=fI U.2;rw[L N (by omega)];cases hb:ay l 0 with
     | true=>
       rw[hb]at I;have I:some (Value.slice (some ⟨b,off,none⟩) f iw)=some v:=I;cases I;have:=beq_eq hb;subst this;have e0:(Value.slice (if c'=0 then some ⟨F.r,off,none⟩else some ⟨F.r,off+0*s,none⟩) (f-0) (c'-0))= .slice (some ⟨F.r,off,none⟩) f c':=by simp
       rw[e0];exact⟨_,.slice M (.inr ⟨rfl,by omega,B.2⟩),rfl⟩
     | false=>
       rw[hb]at I;obtain⟨R,h13⟩:=bE (show(bif bY l len&&xk P H b s then eF (Nat.sub f l) (λn=>eF (iq off (Nat.mul l s)) λo=>some (Value.slice (some ⟨b,o,none⟩) n iw))else none)=some v from I);rw[bW,bW]at h13;cases h13;simp only[ae]at R;have h14:=iZ R.1;have hes:F.es=s:=by
        have m:=R.2;unfold xk at m;cases hg:H.get (bits b)with
        | none=>rw[hg]at m;cases m
        | some ob=>
          rw[hg]at m;cases ob with
          | cells n tr el=>
            have m:aw (bT P el) (λz=>ay z s) false=true:=m;cases Q:bT P el with
            | none=>rw[Q]at m;cases m
            | some z=>
              rw[Q]at m;have m:ay z s=true:=m;have:=beq_eq m;subst this;exact hH.es (show hp H b=some (.cells n tr el)from hg) M z Q
          | _=>cases m
       have:c'≠l:=by omega
       rw[if_neg this];refine⟨_,.slice M (.inr ⟨rfl,by show f-l<=c'-l;omega,?_⟩),rfl⟩;rw[hes]at B;have e1:(c'-l)*s=c'*s-l*s:=Nat.sub_mul c' l s;have e2:l*s<=c'*s:=fM s (by omega);show off+l*s+(c'-l)*F.es<=F.sz;rw[hes,e1];omega
 . rename_i b off hx;obtain⟨p,h⟩:=bE h;have p:=tF p;subst p;rw[K]at E;obtain⟨F,M,_,O⟩:=(E x (by simp) _ hx).iR;obtain⟨n,e,s,hu,hs,u⟩:=Ac h;obtain⟨l,hl,u⟩:=aY u;obtain⟨f,d,u⟩:=aY u;have oJ:=lF (ρ:=ρ) (φ:=φ) (λy C=>E y (by simp[C])) hl;have d:=lF (ρ:=ρ) (φ:=φ) (λy C=>E y (by simp[C])) d;obtain⟨U,I,N⟩:=Ad M rfl u;refine⟨_,N,?_⟩;simp only[execOp,ho,O,Instr.sliceAt,Instr.sureAddr,Sem.run_bind,cJ hu,Result.andThen_ok,jQ,lM (P:=P) oJ d U I,eG hs,Sem.run_pure]
   by_cases G:n=l
   . simp[G]
   . simp[G,gg]
 . rename_i y _ _ hx;cases hr:tC y with
   | true=>
     rw[hr]at h;obtain⟨p,h⟩:=bE (show(bif (match j8 P tm mx with | some none=>true | _=>false)then kZ y (λs es=>aw (tA P t) (λz=>bif ay s z then aw (bound (j8 P tm lo) 0) (λl=>aw (bound (j8 P tm A) es.length) (λh=>slR es s l h) none) none else none) none) none else none)=some v from h);have p:=tF p;subst p;rw[K]at E;obtain⟨s,es,rfl,Y⟩:=mR h;obtain⟨z,hq,Z⟩:=aY Y;obtain⟨e,hu,hs⟩:=r9 hq;obtain⟨hz0,u⟩:=bE Z;have Q:=beq_eq hz0;obtain⟨l,hl,S⟩:=aY u;obtain⟨f,d,M⟩:=aY S;have oJ:=lF (ρ:=ρ) (φ:=φ) (λy C=>E y (by simp[C])) hl;have d:=lF (ρ:=ρ) (φ:=φ) (λy C=>E y (by simp[C])) d;unfold slR at M;obtain⟨O,B⟩:=bE M;simp only[ae]at O;have U:=fI O.1;have I:=fI O.2;cases B;subst Q;clear h Y Z u S M;rcases(E x (by simp) _ hx).mj with⟨rfl,C | ⟨a,c',C⟩⟩ | ⟨k',o',c',F,c,Y,Z,u,S,M,O,C⟩
     rotate_left
     . have e1:f=0:=by simpa using I
       subst e1;have e2:l=0:=by omega
       subst e2;have d:(A=none/\0=0)\/∃y k,A=some y/\ρ y= .int k (.ofNat 0):=d;have L:(execOp ρ o).run P w= .ok (.value (.slice (if c'=0 then some a else some (a.add (0*s))) 0 c')) w:=by
        simp only[execOp,ho,C,Instr.sliceAt,Sem.run_bind,cJ hu,Result.andThen_ok,Instr.slice,jQ,lM (P:=P) oJ d (ax 0) (show 0<=c' by omega),eG hs,Sem.run_pure]
        by_cases G:c'=0
        . simp[G]
        . simp[G]
       rw[L];refine⟨_,?_,rfl⟩;split
       . exact .xH s _ _
       . exact .xH s _ _
     rotate_left
     . have e1:f=0:=by simpa using I
       subst e1;have e2:l=0:=by omega
       subst e2;refine⟨.slice none 0 0,.xG s,?_⟩;have d:(A=none/\0=0)\/∃y k,A=some y/\ρ y= .int k (.ofNat 0):=d;simp only[execOp,ho,C,Instr.sliceAt,Sem.run_bind,cJ hu,Result.andThen_ok,Instr.slice,jQ,lM (P:=P) (isS:=true) oJ d (ax 0) (ax 0),eG hs,Sem.run_pure];rfl
     . have J:((es.drop l).take (f-l)).length=f-l:=by simp only[cC,aD];omega
       have key:∀o2,(o2=o'+l*s\/(es.drop l).take (f-l)=[])->VR φ (bM s ((es.drop l).take (f-l))) (.slice (some ⟨F.r,o2,none⟩) (f-l) (c'-l)):=by
        intro o2 ho2;have h9':VR φ (bM s ((es.drop l).take (f-l))) (.slice (some ⟨F.r,o2,none⟩) ((es.drop l).take (f-l)).length (c'-l)):=by
         refine .row Y Z (λx hx=>u x (List.mem_of_mem_drop (List.mem_of_mem_take hx))) (λV=> ?_) (by rw[J];omega) (λi j x a b A ha hb=> ?_)
         . rcases ho2 with rfl | q
           . rw[J];have N:=S (λq=>V (by rw[q];simp));have h11:f*s<=es.length*s:=fM s I;have R:(f-l)*s=f*s-l*s:=Nat.sub_mul f l s;have h13:l*s<=f*s:=fM s U;rw[R];omega
           . exact absurd q V
         . rcases ho2 with rfl | q
           . rw[bR]at A;split at A
             . rw[bL]at A;refine O (l+i) j x a b A ha ?_;rw[ic,<- iK];exact hb
             . cases A
           . rw[q]at A;simp at A
        rw[J]at h9';exact h9'
       have L:(execOp ρ o).run P w= .ok (.value (.slice (if c'=l then some ⟨F.r,o',none⟩else some ⟨F.r,o'+l*s,none⟩) (f-l) (c'-l))) w:=by
        simp only[execOp,ho,C,Instr.sliceAt,Sem.run_bind,cJ hu,Result.andThen_ok,Instr.slice,jQ,lM (P:=P) oJ d U (show f<=c' by omega),eG hs,Sem.run_pure]
        by_cases G:c'=l
        . simp[G]
        . simp[G,gg]
       rw[L]
       by_cases G:c'=l
       . rw[if_pos G];exact⟨_,key o' (.inr (aQ (by rw[J];omega))),rfl⟩
       . rw[if_neg G];exact⟨_,key _ (.inl rfl),rfl⟩
   | false=>
     rw[hr]at h;have h:tz P t y (j8 P tm lo) (j8 P tm A) (j8 P tm mx)=some v:=h;unfold tz at h;obtain⟨ulo,oJ,Y⟩:=aY h;obtain⟨uhi,d,Z⟩:=aY Y;obtain⟨umx,p,u⟩:=aY Z;obtain⟨S,M⟩:=bE u;simp only[ae]at S;obtain⟨O,B⟩:=xK M;rw[K]at E;refine⟨v,.flat v O,?_⟩;have e1:=Gg (ρ:=ρ) (φ:=φ) (λz Q=>E z (by simp[Q])) oJ S.2.1;have e2:=Gg (ρ:=ρ) (φ:=φ) (λz Q=>E z (by simp[Q])) d S.2.2.1;have e3:=Gg (ρ:=ρ) (φ:=φ) (λz Q=>E z (by simp[Q])) p S.2.2.2;have e4:=(E x (by simp) _ hx).aR S.1;simp only[execOp,ho,e1,e2,e3,e4,Sem.run_bind,B w,Result.andThen_ok];rfl
 . cases h
end ops
end
section
variable {P:Program}{W w:World}{φ:fq}{H:T OB}{tm:T Value}{ρ:Operand->Value}
theorem HX:∀(l l':List Value),LR φ l l'->∀(k off:Nat) (cs b:Array Value),LR φ cs.toList b.toList->
 LR φ ((l.zipIdx k).foldl (λ(cs:Array Value) p=>cs.setIfInBounds (off+p.2) p.1) cs).toList
  ((l'.zipIdx k).foldl (λ(cs:Array Value) p=>cs.setIfInBounds (off+p.2) p.1) b).toList
 | [],l',h,k,off,cs,b,hc=>by
   cases h.pq;exact hc
 | v::l,l',h,k,off,cs,b,hc=>by
   obtain⟨v',m,rfl,d,c⟩:=h.inv;simp only[List.zipIdx_cons,List.foldl_cons];refine HX l m c (k+1) off _ _ ?_;rw[Array.toList_setIfInBounds,Array.toList_setIfInBounds];exact hc.set _ d
inductive PR (φ:fq):List (Nat×Value)->List (Nat×Value)->Prop
 | nil:PR φ [] []
 | cons {i:Nat} {v v':Value} {l l':List (Nat×Value)} (h:VR φ v v') (hl:PR φ l l'):PR φ ((i,v)::l) ((i,v')::l')
theorem vy (b:Nat->Option (Nat×Nat)){vs d:List (Nat×Value)}(h:PR φ vs d):∀(cs a r:Array Value),LR φ cs.toList a.toList->
 Instr.fill b cs vs=some r->∃j,Instr.fill b a d=some j/\LR φ r.toList j.toList:=by
 induction h with
 | nil=>intro cs a r f h;cases h;exact⟨a,rfl,f⟩
 | @cons i v p l l' m _ s=>
   intro cs a r f h;unfold Instr.fill at h ⊢;cases hp:b i with
   | none=>simp only[hp]at h;cases h
   | some q=>
     obtain⟨off,c⟩:=q;simp only[hp]at h ⊢;have e:=m.cells;have n:p.cells.size=v.cells.size:=by have:=e.len;simpa using this.symm
     have k:a.size=cs.size:=by have:=f.len;simpa using this.symm
     rw[n,k];split at h
     . cases h
     . rename_i t;rw[if_neg t];refine s _ _ r ?_ h;rw[<- Array.foldl_toList,<- Array.foldl_toList,Array.toList_zipIdx,Array.toList_zipIdx];exact HX _ _ e 0 off cs a f
theorem r_:∀(ps:List (Nat×Operand)) (vs:List (Nat×Value)),(∀p∈ps,∀v,cZ P tm p.2=some v->VR φ v (ρ p.2))->parts P tm ps=some vs->
 PR φ vs (ps.map λp=>(p.1,ρ p.2))
 | [],vs,_,h=>by cases h;exact .nil
 | p::ps,vs,hE,h=>by
   unfold parts at h;split at h
   . cases h
   . rename_i v c;split at h
     . cases h
     . rename_i d a;cases h;exact .cons (hE p (by simp) v c) (r_ ps d (λq b=>hE q (by simp[b])) a)
theorem kK {t:TypeId}{l:List Value}(h:dD P t=some l):∃i z,P.info? t=some i/\i.zero=some z/\z.cells.toList=l/\∀x∈l,flat x=true:=by
 unfold dD at h;split at h
 . rename_i i a;split at h
   . rename_i z d;obtain⟨c,b⟩:=bE h;cases b;exact⟨i,z,a,d,rfl,λx hx=>aM.1 c x hx⟩
   . cases h
 . cases h
theorem M5 {t:TypeId}{l:List Value}(j:dD P t=some l){vs b:List (Nat×Value)}(h:PR φ vs b){r:Array Value}(a:P.built t vs=some r):
 ∃k,P.built t b=some k/\LR φ r.toList k.toList:=by
 obtain⟨i,z,q,j,u,p⟩:=kK j;have c:LR φ z.cells.toList z.cells.toList:= .of_flat (by rw[u];exact p);unfold Program.built at a ⊢;rw[q]at a ⊢;cases m:P.underlying t with
 | none=>rw[m]at a;cases a
 | some d=>
   rw[m]at a;cases d with
   | struct s=>
     simp only[j]at a ⊢;cases hp:s.toList.mapM (λf=>(P.info? f.type).map λi=>(f.offset,i.size))with
     | none=>simp only[hp]at a;cases a
     | some places=>
       simp only[hp]at a ⊢;exact vy _ h _ _ r c a
   | array n e=>
     simp only[j]at a ⊢;cases hp:P.info? e with
     | none=>simp only[hp]at a;cases a
     | some ie=>
       simp only[hp]at a ⊢;exact vy _ h _ _ r c a
   | _=>cases a
section ops
variable {o:Oper}
theorem M6 {t:TypeId}{ps:Array (Nat×Operand)}(c:o.op= .build t ps)(d:tv P φ tm ρ o.op.operands.toList){v:Value}
 (h:cA P t (parts P tm ps.toList)=some v) (w:World):∃b,VR φ v b/\(execOp ρ o).run P w= .ok (.value b) w:=by
 unfold cA at h;obtain⟨vs,e,h⟩:=aY h;obtain⟨z,j,h⟩:=aY h;obtain⟨cs,m,h⟩:=aY h;rw[nB]at h;cases h;have hp:PR φ vs (ps.toList.map λp=>(p.1,ρ p.2)):=r_ ps.toList vs (λp hp=>d p.2 (by
  rw[c];show p.2∈((ps.toList.map (·.2)).toArray).toList;simp only[List.toList_toArray];exact bo.2 ⟨p,hp,rfl⟩)) e
 obtain⟨a,k,l⟩:=M5 j hp m;refine⟨.agg a,l.agg,?_⟩;have f:P.built t (ps.map λ(i,x)=>(i,ρ x)).toList=some a:=by rw[Array.toList_map];exact k
 simp[execOp,c,run_build w t _ a f]
theorem M7 {t:TypeId}{x:Operand}(i:o.op= .makeInterface t x)(b:∀v,cZ P tm x=some v->VR φ v (ρ x)){v:Value}
 (h:nr P t (cZ P tm x)=some v) (w:World):∃a,VR φ v a/\(execOp ρ o).run P w= .ok (.value a) w:=by
 unfold nr at h;split at h
 . cases h
 . rename_i d hn f;obtain⟨u,e,c⟩:=aY h;cases c;refine⟨_,.iface (t:=t) (b u e),?_⟩;simp only[execOp,i,Instr.makeInterface,Sem.run_bind,cJ f,Result.andThen_ok];rfl
 . cases h
theorem Sa {c:Call}(a:c.callee= .builtin .len)(b:o.op= .call c)(w:World){v:Value}
 (h:(Builtin.len_ c.argTypes o.type (c.args.map ρ)).run P w= .ok v w):(execOp ρ o).run P w= .ok (.value v) w:=by
 simp[execOp,b,resolve,a,invoke,builtin,h]
theorem M8 {b:Builtin}{ts:Array TypeId}{a:TypeId}{vs:Option (List Value)}{v:Value}(h:nk P b ts a vs=some v):∃l,vs=some l/\l.all flat=true/\flat v=true/\∀w,(builtin b ts a #[] ⟨l⟩).run P w= .ok (.value v) w:=by
 unfold nk at h;obtain⟨l,d,h⟩:=aY h;obtain⟨c,h⟩:=bE h;obtain⟨f,e⟩:=Ab h;exact⟨l,d,c,e,λw=>uK P _ _ f w⟩
theorem tG:∀(l:List Operand) (vs:List Value),tv P φ tm ρ l->ve P tm l=some vs->LR φ vs (l.map ρ)
 | [],vs,_,h=>by cases h;exact .nil
 | x::l,vs,hE,h=>by
   unfold ve at h;split at h
   . cases h
   . rename_i v c;split at h
     . cases h
     . rename_i d a;cases h;exact .cons (hE x (by simp) v c) (tG l d (λy b=>hE y (by simp[b])) a)
theorem Gh {c:Call}{b:Builtin}(r:b= .len\/b= .max\/b= .min)(t:c.callee= .builtin b)(p:o.op= .call c)(s:tv P φ tm ρ c.args.toList){v:Value}
 (h:nk P b c.argTypes o.type (ve P tm c.args.toList)=some v) (w:World):∃j,VR φ v j/\(execOp ρ o).run P w= .ok (.value j) w:=by
 obtain⟨l,m,n,q,u⟩:=M8 h;have a:=tG _ _ s m;have x:c.args.toList.map ρ=l:=by
  refine eE λi=> ?_
  by_cases e:i<l.length
  . have d:=au e;have f:=au (a.len ▸ e:i<(c.args.toList.map ρ).length);rw[d,f,(a.at_ i _ _ d f).aR (aM.1 n _ (hU e))]
  . rw[bt (by have:=a.len;omega),bt (by omega)]
 have k:c.args.map ρ=⟨l⟩:=eU (by simpa using x);refine⟨v,.flat v q,?_⟩;have d:=u w;simp only[execOp,p,resolve,t,Sem.run_bind,Sem.run_pure,Result.andThen_ok,invoke,k];rcases r with rfl | rfl | rfl<;>exact d
theorem XK {c:Call}(A:c.callee= .builtin .len)(z:o.op= .call c)(G:tv P φ tm ρ o.op.operands.toList){v:Value}
 (h:e_ P c.argTypes o.type (ve P tm c.args.toList)=some v) (w:World):∃D,VR φ v D/\(execOp ρ o).run P w= .ok (.value D) w:=by
 have p:tv P φ tm ρ c.args.toList:=λx hx v k=>G x (by rw[z];simp[Op.operands,Call.operands,A];simpa using hx) v k;have r:∀{y:Value},ve P tm c.args.toList=some [y]->∃l,c.args.map ρ=#[l]/\VR φ y l:=by
  intro y q;have B:=tG _ _ p q;obtain⟨l,m,K,d,j⟩:=B.inv;have:=j.pq;subst this;exact⟨l,eU (by rw[Array.toList_map];exact K),d⟩
 have f:∀{a:Option Addr} {n u:Nat},c.args.map ρ=#[.slice a n u]->kb P c.argTypes[0]? = true->(execOp ρ o).run P w= .ok (.value (.int .i64 n)) w:=by
  intro a n u i d;unfold kb at d;split at d
  . rename_i t J;split at d
    . rename_i e I;refine Sa A z w ?_;have E:=cJ I;simp[Builtin.len_,J,i,E,goInt]
    . cases d
  . cases d
 unfold e_ at h;split at h
 . rename_i a n u k;obtain⟨d,j⟩:=bE h;cases j;obtain⟨b,off,s⟩:=a;obtain⟨l,i,q⟩:=r k;obtain⟨en,c',h5,_,rfl,_⟩:=q.jn;exact⟨_,.flat _ rfl,f i d⟩
 . rename_i y _ k;cases C:tC y with
   | true=>
     rw[C]at h;obtain⟨s,es,rfl,d⟩:=mR (show kZ y (λ_ es=>bif kb P c.argTypes[0]? then some (Value.int .i64 (.ofNat es.length))else none) none=some v from h);obtain⟨j,F⟩:=bE d;cases F;obtain⟨l,i,q⟩:=r k;refine⟨.int .i64 (.ofNat es.length),.flat _ rfl,?_⟩;rcases q.mj with⟨rfl,rfl | ⟨_,_,rfl⟩⟩ | ⟨_,_,_,_,_,_,_,_,_,_,_,rfl⟩
     . exact f i j
     . exact f i j
     . exact f i j
   | false=>
     rw[C]at h;rw[<- k]at h;exact Gh (.inl rfl) A z p h w
 . cases h
def nE (d:TypeDesc)(x y:Value):Option Bool:=match d,x,y with
 | .pointer _,.pointer (some _),.pointer none=>some false
 | .pointer _,.pointer none,.pointer (some _)=>some false
 | .slice _,.slice (some _) _ _,.slice none _ _=>some false
 | .slice _,.slice none _ _,.slice (some _) _ _=>some false
 | .map _ _,.map (some _),.map none=>some false
 | .map _ _,.map none,.map (some _)=>some false
 | .interface _,.iface _ _,.nilIface=>some false
 | .interface _,.nilIface,.iface _ _=>some false
 | _,_,_=>none
theorem Lv {d:TypeDesc}{a b j l:Value}{r:Bool}(h:F2 d a b=some r)(f:VR φ a j)(i:VR φ b l):nE d j l=some r:=by
 unfold F2 at h;split at h
 . rename_i x;obtain⟨k,o,s⟩:=x;obtain⟨e,_,_,rfl⟩:=f.iR;rw[i.aR rfl];exact h
 . rename_i x;obtain⟨k,o,s⟩:=x;obtain⟨e,_,_,rfl⟩:=i.iR;rw[f.aR rfl];exact h
 . rename_i x _ _ _ _;obtain⟨k,o,s⟩:=x;obtain⟨e,c',_,_,rfl,_⟩:=f.jn;rw[i.aR rfl];exact h
 . rename_i _ _ x _ _;obtain⟨k,o,s⟩:=x;obtain⟨e,c',_,_,rfl,_⟩:=i.jn;rw[f.aR rfl];exact h
 . obtain⟨e,_,rfl⟩:=f.rY;rw[i.aR rfl];exact h
 . obtain⟨e,_,rfl⟩:=i.rY;rw[f.aR rfl];exact h
 . obtain⟨u,rfl,_⟩:=f.mS;rw[i.aR rfl];exact h
 . obtain⟨u,rfl,_⟩:=i.mS;rw[f.aR rfl];exact h
 . obtain⟨k,o,e,c,_,_,_,_,rfl⟩:=f.xI;rw[i.aR rfl];exact h
 . obtain⟨k,o,e,c,_,_,_,_,rfl⟩:=i.xI;rw[f.aR rfl];exact h
 . rename_i q _ _ _;rcases VR.mj (show VR φ (bM _ _) j from f)with⟨q,_⟩ | ⟨k,o,c',e,c,_,_,_,_,_,_,rfl⟩
   . cases q
   . rw[i.aR rfl];exact h
 . rcases VR.mj (show VR φ (bM _ _) l from i)with⟨q,_⟩ | ⟨k,o,c',e,c,_,_,_,_,_,_,rfl⟩
   . cases q
   . rw[f.aR rfl];exact h
 . cases h
theorem Ec {t:TypeId}{d:TypeDesc}(e:P.underlying t=some d){a b:Value}{r:Bool}(h:nE d a b=some r)(n:Nat)(w:World):
 (Op.equalIn (n+1) t a b).run P w= .ok r w:=by
 have c:=cJ e w;unfold nE at h;split at h<;>(try (cases h;done))<;>cases h<;>simp only[Op.equalIn,Sem.run_bind,c,Result.andThen_ok]<;>rfl
theorem Gi {t:TypeId}{d:TypeDesc}(i:P.underlying t=some d){a b:Value}{r:Bool}(h:nE d a b=some r)(w:World):
 (∀c x y,(eqGuard c t x y a b).run P w= .ok () w)/\(binOp .eql t a b).run P w= .ok (.bool r) w/\(binOp .neq t a b).run P w= .ok (.bool (!r)) w:=by
 have e:(Op.equal t a b).run P w= .ok r w:=Ec i h 9999 w;have j:binOp .eql t a b=(do pure (.bool (<- Op.equal t a b))):=by
  unfold nE at h;split at h<;>first | rfl | cases h
 have f:binOp .neq t a b=(do pure (.bool (!(<- Op.equal t a b)))):=by
  unfold nE at h;split at h<;>first | rfl | cases h
 refine⟨λc x y=> ?_,?_,?_⟩
 . unfold nE at h;split at h<;>first | (cases h;done) | (cases c<;>rfl)
 . rw[j,Sem.run_bind,e];rfl
 . rw[f,Sem.run_bind,e];rfl
theorem XL {c:BinOp}{t l:TypeId}{x y:Operand}(i:o.op= .binOp c t x y l){a b v:Value}(j:VR φ a (ρ x))(p:VR φ b (ρ y))
 (h:MQ P c t a b=some v) (w:World):∃e,VR φ v e/\(execOp ρ o).run P w= .ok (.value e) w:=by
 unfold MQ at h;split at h
 . rename_i d m;split at h
   . rename_i r q;obtain⟨f,n,k⟩:=Gi m (Lv q j p) w;split at h
     . cases h;refine⟨_,.flat _ rfl,?_⟩;simp only[execOp,i,Sem.run_bind,f,Result.andThen_ok,n];rfl
     . cases h;refine⟨_,.flat _ rfl,?_⟩;simp only[execOp,i,Sem.run_bind,f,Result.andThen_ok,k];rfl
     . cases h
   . cases h
 . cases h
theorem uM {b:Nat}(h:nn H b=true):∃n t el,hp H b=some (.cells n t el):=by
 unfold nn at h;unfold hp;cases a:H.get (bits b)with
 | none=>rw[a]at h;cases h
 | some ob=>
   rw[a]at h;cases ob with
   | cells n t el=>exact⟨n,t,el,rfl⟩
   | _=>cases h
theorem xL {a:Addr}{c:Array Value}{el:TypeId}{fz:Nat×Nat}(h:w.heap[a.block]? = some (.cells c el fz)):(noView a).run P w= .ok () w:=by
 simp[noView,viewAt,World.shape?,h]
theorem Bj {a b:Addr}{c c':Array Value}{el e:TypeId}(f:w.heap[a.block]? = some (.cells c el (0,0)))(h:w.heap[b.block]? = some (.cells c' e (0,0))):
 (sameAddr a b).run P w= .ok (a == b) w:=by
 have m:∀o,w.frozen? { block:=a.block,off:=o }=false:=λo=>frozen_of_row w a.block o c el f;have k:w.frozen? a=false:=by simp[World.frozen?,f]
 have i:w.frozen? b=false:=by simp[World.frozen?,h]
 have fb:∀o,w.frozen? { block:=b.block,off:=o }=false:=λo=>frozen_of_row w b.block o c' e h;unfold sameAddr;cases d:a.block == b.block with
 | true=>simp
 | false=>
   have l:(a == b)=false:=by
    cases j:a == b with
    | false=>rfl
    | true=>
      have:a=b:=by simpa using j
      rw[this]at d;simp at d
   simp[k,xL f,xL h,mayBeOne,stringish,World.shape?,f,h,m,fb,i,l]
theorem Lw {t e:TypeId}{z:Nat}(k:P.underlying t=some (.pointer e))(p:bT P e=some (z+1)){a b:Addr}{c c':Array Value}{el d:TypeId}
 (j:w.heap[a.block]? = some (.cells c el (0,0))) (l:w.heap[b.block]? = some (.cells c' d (0,0))):
 (∀f x y,(eqGuard f t x y (.pointer (some a)) (.pointer (some b))).run P w= .ok () w)/\(binOp .eql t (.pointer (some a)) (.pointer (some b))).run P w= .ok (.bool (a == b)) w/\
  (binOp .neq t (.pointer (some a)) (.pointer (some b))).run P w= .ok (.bool (!(a == b))) w:=by
 have q:=Bj (P:=P) j l;have m:∀n,(Op.equalIn (n+1) t (.pointer (some a)) (.pointer (some b))).run P w= .ok (a == b) w:=λn=>by
  simp only[Op.equalIn,Sem.run_bind,cJ k,Result.andThen_ok,eG p];rw[if_pos (by omega)];exact q
 have h:(Op.equal t (.pointer (some a)) (.pointer (some b))).run P w= .ok (a == b) w:=m 9999;have r:binOp .eql t (.pointer (some a)) (.pointer (some b))=(do pure (.bool (<- Op.equal t (.pointer (some a)) (.pointer (some b))))):=rfl;have i:binOp .neq t (.pointer (some a)) (.pointer (some b))=(do pure (.bool (!(<- Op.equal t (.pointer (some a)) (.pointer (some b)))))):=rfl;refine⟨λf x y=>by cases f<;>rfl,?_,?_⟩
 . rw[r,Sem.run_bind,h];rfl
 . rw[i,Sem.run_bind,h];rfl
theorem XM (hH:HR P W φ (hp H) w){G:BinOp}{t U:TypeId}{x y:Operand}(C:o.op= .binOp G t x y U){a b v:Value}(J:VR φ a (ρ x))(L:VR φ b (ρ y))
 (h:xm P H G t a b=some v):∃O,VR φ v O/\(execOp ρ o).run P w= .ok (.value O) w:=by
 unfold xm at h;split at h
 . rename_i e M i K j R;split at h
   . rename_i z S;obtain⟨E,h⟩:=bE h;simp only[ae]at E;obtain⟨n,tr,el,m⟩:=uM E.1;obtain⟨n',tr',el',u⟩:=uM E.2;obtain⟨D,d,_,l⟩:=J.iR;obtain⟨F,c,_,p⟩:=L.iR;obtain⟨cx,elx,A,_⟩:=hH.cells m d;obtain⟨cy,ely,B,_⟩:=hH.cells u c;have k:((⟨D.r,i,none⟩:Addr) == ⟨F.r,j,none⟩)=(ay M K&&ay i j):=by
      rw[dk];simp only[beq_iff_eq,ae];constructor
      . intro q;injection q with s f
        have:=hH.inj M K _ _ D F d c m u rfl rfl s;exact⟨by subst this;exact cm _,by subst f;exact cm _⟩
      . rintro⟨s,f⟩;have s:=beq_eq s;have f:=beq_eq f;subst s f;rw[d]at c;cases c;rfl
     obtain⟨N,I,Q⟩:=Lw (P:=P) (w:=w) R S (a:=⟨D.r,i,none⟩) (b:=⟨F.r,j,none⟩) A B;rw[k]at I Q;split at h
     . cases h;exact⟨_,.flat _ rfl,by simp only[execOp,C,l,p,Sem.run_bind,N,Result.andThen_ok,I];rfl⟩
     . cases h;exact⟨_,.flat _ rfl,by simp only[execOp,C,l,p,Sem.run_bind,N,Result.andThen_ok,Q];rfl⟩
     . cases h
   . cases h
 . exact XL C J L h w
theorem Ly {d:BinOp}{t:TypeId}{x y:Operand}{a b:Value}(h:((zC x||zC y) || !(xn a&&xn b))=true):eqGuard d t x y a b=eqGuard d t kOp kOp a b:=by
 cases c:xn a&&xn b with
 | false=>cases a<;>cases b<;>first | rfl | cases c
 | true=>
   rw[c]at h;have i:(zC x||zC y)=true:=by simpa using h
   simp only[ae]at c;have f:a= .nilIface:=by cases a<;>first | rfl | (cases c.1;done)
   have e:b= .nilIface:=by cases b<;>first | rfl | (cases c.2;done)
   subst f e;cases x<;>cases y<;>first | rfl | (simp[zC]at i;done)
theorem Bk {k:Nat}{t:TypeId}(a:zW P t=some k){v u:Value}{r:Bool}(h:A6 k v u=some r)(d:Nat):(Op.equalIn (d+1) t v u).run P w= .ok r w/\(∀{φ:fq} {b:Value},VR φ v b->b=v)/\(∀{φ:fq} {b:Value},VR φ u b->b=u):=by
 unfold zW at a;unfold A6 at h;split at h
 . obtain⟨c,e⟩:=bE h;have c:=of_decide_eq_true c;cases e;clear h;subst c;split at a
   . rename_i q;exact⟨run_equalIn_int w d t _ _ _ _ q,λh=>h.aR rfl,λh=>h.aR rfl⟩
   . cases a
   . cases a
   . cases a
 . cases h;split at a
   . cases a
   . rename_i q;exact⟨run_equalIn_string w d t _ _ q,λh=>h.aR rfl,λh=>h.aR rfl⟩
   . cases a
   . cases a
 . cases h;split at a
   . cases a
   . cases a
   . rename_i q;exact⟨run_equalIn_bool' w d t _ _ q,λh=>h.aR rfl,λh=>h.aR rfl⟩
   . cases a
 . cases h
theorem Lz {t:TypeId}{k:Nat}(a:zW P t=some k):gf P t=some false:=by
 unfold zW at a;unfold gf;split at a<;>simp_all
theorem sb {xs x:Array Value}(d:Nat):∀(j:List Field) (i:Nat) (c:List Nat) (l m:List Value) (r:Bool),vw P j i=some c->uG c l m=some r->LR φ l (xs.toList.drop i)->LR φ m (x.toList.drop i)->
 (Op.eqFields (d+1) xs x j).run P w= .ok r w
 | [],i,c,l,m,r,hf,h,_,_=>by
   cases hf;cases l<;>cases m<;>simp[uG]at h
   subst h;rfl
 | f::j,i,c,l,m,r,hf,h,hx,hy=>by
   obtain⟨q,B⟩:=bE (show(bif !(f.name == "_")&&ay f.offset i then aw (zW P f.type) (λk=>aw (vw P j (i+1)) (λc=>some (k::c)) none) none else none)=some c from hf)
   simp only[ae,dY]at q;have C:=beq_eq q.2;have hn:f.name≠"_" := by simpa using q.1
   obtain⟨k,A,D⟩:=aY B;obtain⟨p,y,R⟩:=aY D;cases R;clear hf B D;cases l with
   | nil=>simp[uG]at h
   | cons a l'=>
   cases m with
   | nil=>simp[uG]at h
   | cons b m'=>
     obtain⟨Z,Q,U⟩:=aY (show aw (A6 k a b) (λr=>aw (uG p l' m') (λK=>some (r&&K)) none) none=some r from h);obtain⟨V,M,O⟩:=aY U;cases O;obtain⟨I,x',n,z,t⟩:=hx.inv;obtain⟨L,y',e,s,u⟩:=hy.inv;obtain⟨N,F,X⟩:=Bk (w:=w) A Q d;have S:=F z;have G:=X s;subst S G;have Y:xs[f.offset]? = some I:=by
      have:=congrArg (·[0]?) n;simpa[bL,C]using this
     have gy:x[f.offset]? = some L:=by
      have:=congrArg (·[0]?) e;simpa[bL,C]using this
     have hp:∀{E:Array Value} {v:Value},E[f.offset]? = some v->(part f.type E f.offset).run P w= .ok v w:=λh=>by simp[part,jZ (Lz A),h]
     have J:=sb d j (i+1) p l' m' V y M (by rw[<- cH,n];exact t) (by rw[<- cH,e];exact u);simp only[Op.eqFields,if_pos hn,Sem.run_bind,hp Y,hp gy,Result.andThen_ok,N];cases Z with
     | true=>simpa using J
     | false=>rfl
theorem XN {d:BinOp}{t B:TypeId}{x y:Operand}(z:o.op= .binOp d t x y B){l m:List Value}(A:VR φ (.agg ⟨l⟩) (ρ x))(D:VR φ (.agg ⟨m⟩) (ρ y)){f:List Nat}(c:F3 P t=some f){v:Value}
 (h:aw (uG f l m) (eqB d) none=some v) (w:World):∃q,VR φ v q/\(execOp ρ o).run P w= .ok (.value q) w:=by
 obtain⟨r,E,h⟩:=aY h;obtain⟨xs,hx,k⟩:=A.pw;obtain⟨e,n,j⟩:=D.pw;unfold F3 at c;split at c
 case h_2=>cases c
 rename_i p u;obtain⟨i,C⟩:=bE c;simp only[ae,dY]at i;have b:P.fieldsOf t=p:=by unfold Program.fieldsOf;rw[u]
 have a:(Op.equalIn 10000 t (.agg xs) (.agg e)).run P w= .ok r w:=by
  rw[run_equalIn_agg w 9999 t xs e (by rw[b];exact u) i.1,b];exact sb 9998 p.toList 0 f l m r C E (by simpa using k) (by simpa using j)
 have s:=run_eqGuard_agg w d t x y xs e i.2;unfold eqB at h;split at h
 . cases h;refine⟨.bool r,.flat _ rfl,?_⟩;simp only[execOp,z,hx,n,Sem.run_bind,s,Result.andThen_ok,run_eql_struct,a];rfl
 . cases h;refine⟨.bool (!r),.flat _ rfl,?_⟩;simp only[execOp,z,hx,n,Sem.run_bind,s,Result.andThen_ok,run_neq_struct,a];rfl
 . cases h
theorem HY (hH:HR P W φ (hp H) w){f:BinOp}{t r:TypeId}{x y:Operand}(i:o.op= .binOp f t x y r){a b:Value}(e:VR φ a (ρ x))(d:VR φ b (ρ y)){v:Value}
 (h:oB P H f t (zC x||zC y) a b=some v):∃j,VR φ v j/\(execOp ρ o).run P w= .ok (.value j) w:=by
 unfold oB at h;cases c:flat a&&flat b with
 | false=>
   rw[c]at h;exact XM hH i e d h
 | true=>
   rw[c]at h;simp only[ae]at c;obtain⟨m,h⟩:=bE (show(bif (zC x||zC y) || !(xn a&&xn b)then A5 P f t a b else none)=some v from h);obtain⟨n,p⟩:=xK h;have q:=e.aR c.1;have l:=d.aR c.2;refine⟨v,.flat v n,?_⟩;have k:=p w;simp only[execOp,i,q,l,Ly m,Sem.run_bind]at k ⊢;rw[k];rfl
theorem XO (hH:HR P W φ (hp H) w){f:BinOp}{t p:TypeId}{x y:Operand}(i:o.op= .binOp f t x y p)(j:tv P φ tm ρ o.op.operands.toList){v:Value}
 (h:dx P H f t (zC x||zC y) (cZ P tm x) (cZ P tm y)=some v):∃k,VR φ v k/\(execOp ρ o).run P w= .ok (.value k) w:=by
 unfold dx at h;obtain⟨a,l,h⟩:=aY h;obtain⟨b,n,h⟩:=aY h;have c:o.op.operands.toList=[x,y]:=by rw[i];rfl
 have e:=j x (by simp[c]) a l;have d:=j y (by simp[c]) b n;unfold F4 at h;split at h
 . unfold MR at h;split at h
   . rename_i ks m;exact XN i e d m h w
   . exact HY hH i e d h
 . exact HY hH i e d h
theorem Sb {fn:Fn}{first a:Array Operand}(f:o.op= .makeFunc fn first a)(i:tv P φ tm ρ o.op.operands.toList){v:Value}
 (h:xo fn first.toList (ve P tm a.toList)=some v) (w:World):∃d,VR φ v d/\(execOp ρ o).run P w= .ok (.value d) w:=by
 unfold xo at h;split at h
 . rename_i g j;obtain⟨l,k,h⟩:=aY h;cases h;have c:first=#[]:=by
    have:first.toList.toArray=#[]:=by rw[j]
    simpa using this
   subst c;have b:=tG a.toList l (λx hx=>i x (by rw[f];simpa[Op.operands]using hx)) k;refine⟨.func (.func g) #[] ⟨a.toList.map ρ⟩,VR.func b.len b.at_,?_⟩;have e:a.map ρ=⟨a.toList.map ρ⟩:=eU (by simp);simp[execOp,f,Instr.makeFunc,e]
 . cases h
theorem tH {t:TypeId}{z:Value}(h:xp P t=some z):(∀w,(zeroValue t).run P w= .ok z w)/\flat z=true:=by
 unfold xp at h;split at h
 . rename_i i a;split at h
   . rename_i z' d;obtain⟨c,b⟩:=bE h;cases b;exact⟨λw=>by simp[zeroValue,typeInfo,a,d],c⟩
   . cases h
 . cases h
theorem Gj {a b:Bool}{v c:Value}(h:VR φ v c):VR φ (okV a v b) (if a then .tuple #[c,.bool b]else c):=by
 cases a with
 | false=>exact h
 | true=>exact(LR.cons h (LR.cons (.flat (.bool b) rfl) LR.nil)).tuple
theorem Gk {t:TypeId}{d:TypeDesc}(e:P.underlying t=some d)(hn:∀b,d= .interface b->False)(h:TypeId)(a:Bool)(w:World):
 (∀v,(Instr.typeAssert (.iface t v) h t a).run P w= .ok (if a then .tuple #[v,.bool true]else v) w)/\
 (∀u v z,u≠t->(zeroValue t).run P w= .ok z w->(Instr.typeAssert (.iface u v) h t true).run P w= .ok (.tuple #[z,.bool false]) w)/\
 (∀z,(zeroValue t).run P w= .ok z w->(Instr.typeAssert .nilIface h t true).run P w= .ok (.tuple #[z,.bool false]) w):=by
 cases d with
 | interface b=>exact absurd rfl (hn b)
 | _=>
   refine⟨λv=> ?_,λu v z f c=> ?_,λz c=> ?_⟩
   . simp only[Instr.typeAssert,Sem.run_bind,cJ e,Result.andThen_ok];simp
   . simp only[Instr.typeAssert,Sem.run_bind,cJ e,Result.andThen_ok];simp[f,c]
   . simp only[Instr.typeAssert,Sem.run_bind,cJ e,Result.andThen_ok];simp[c]
theorem LA {x:Operand}{A t:TypeId}{i:Bool}(p:o.op= .typeAssert x A t i)(r:∀v,cZ P tm x=some v->VR φ v (ρ x)){v:Value}
 (h:lK P (cZ P tm x) t i=some v) (w:World):∃s,VR φ v s/\(execOp ρ o).run P w= .ok (.value s) w:=by
 unfold lK at h;obtain⟨a,h⟩:=bE h;unfold DU at a;split at a
 . cases a
 . rename_i d hn F;obtain⟨E,D,C⟩:=Gk F hn A i w;split at h
   . rename_i u y hx;obtain⟨B,k,n⟩:=(r _ hx).mS;cases j:ay u t with
     | true=>
       rw[j]at h;have h:some (okV i y true)=some v:=h;cases h;have:=beq_eq j;subst this;exact⟨_,Gj (b:=true) n,by simp only[execOp,p,k,Sem.run_bind,E,Result.andThen_ok];rfl⟩
     | false=>
       rw[j]at h;obtain⟨f,h⟩:=bE (show(bif i then aw (xp P t) (λz=>some (Value.tuple #[z,.bool false])) none else none)=some v from h);subst f;obtain⟨z,l,h⟩:=aY h;cases h;obtain⟨c,e⟩:=tH l;have m:u≠t:=λq=>by rw[q]at j;exact absurd (cm t) (by rw[j];decide)
       exact⟨.tuple #[z,.bool false],(LR.cons (.flat z e) (LR.cons (.flat (.bool false) rfl) LR.nil)).tuple,by simp only[execOp,p,k,Sem.run_bind,D u B z m (c w),Result.andThen_ok];rfl⟩
   . rename_i hx;have k:=(r _ hx).aR rfl;obtain⟨f,h⟩:=bE h;subst f;obtain⟨z,l,h⟩:=aY h;cases h;obtain⟨c,e⟩:=tH l;exact⟨.tuple #[z,.bool false],(LR.cons (.flat z e) (LR.cons (.flat (.bool false) rfl) LR.nil)).tuple,by simp only[execOp,p,k,Sem.run_bind,C z (c w),Result.andThen_ok];rfl⟩
   . cases h
 . cases a
theorem zF {d:TypeDesc}(h:mh d=true):(∃k,d= .int k)\/d= .string\/d= .bool:=by
 cases d<;>first | (cases h;done) | simp
theorem run_checkKey {b:Bool}{t:TypeId}{d:TypeDesc}(a:P.underlying t=some d)(hd:mh d=true)(v:Value)(w:World):(Instr.checkKey b 10000 t v).run P w= .ok () w:=by
 have h:∀n,(Instr.checkKey b (n+1) t v).run P w= .ok () w:=λn=>by
  rcases zF hd with⟨k,rfl⟩ | rfl | rfl<;>simp only[Instr.checkKey,Sem.run_bind,cJ a,Result.andThen_ok]<;>rfl
 exact h 9999
theorem Gl {d:TypeDesc}{k i a f:Value}{b:Bool}(e:VR φ k i)(c:VR φ a f)(h:Instr.sameNow d k a=some b):Instr.sameNow d i f=some b:=by
 unfold Instr.sameNow at h;split at h
 . rw[e.aR rfl,c.aR rfl];exact h
 . rw[e.aR rfl,c.aR rfl];exact h
 . rw[e.aR rfl,c.aR rfl];exact h
 . cases h
inductive FR (φ:fq):Option (Nat×Value)->Option (Nat×Value)->Prop
 | none:FR φ none none
 | some {i:Nat} {v v':Value} (h:VR φ v v'):FR φ (some (i,v)) (some (i,v'))
theorem xM {d:TypeDesc}{k f:Value}(n:VR φ k f){l l':List MapEntry}(h:uI φ l l'):∀(i:Nat) (r:Option (Nat×Value)),Instr.findNow d k l i=some r->
 ∃c,Instr.findNow d f l' i=some c/\FR φ r c:=by
 induction h with
 | nil=>intro i r h;cases h;exact⟨none,rfl,.none⟩
 | @cons e e' l l' j _ m=>
   intro i r h;unfold Instr.findNow at h ⊢;cases a:Instr.sameNow d k e.key with
   | none=>rw[a]at h;cases h
   | some b=>
     rw[a]at h;rw[Gl n j.key a];cases b with
     | true=>cases h;exact⟨_,rfl,.some j.val⟩
     | false=>exact m (i+1) r h
theorem run_findKey {t:TypeId}{d:TypeDesc}(a:P.underlying t=some d){k:Value}{es:List MapEntry}{r:Option (Nat×Value)}(h:Instr.findNow d k es 0=some r)(w:World):
 (Instr.findKey t k es).run P w= .ok r w:=by
 simp only[Instr.findKey,Sem.run_bind,cJ a,Result.andThen_ok,h];rfl
theorem Ae {β:Type}{t:TypeId}{k:TypeDesc->TypeId->Option β}{y:β}(h:qE P t k none=some y):
 ∃b a d,P.underlying t=some (.map b a)/\P.underlying b=some d/\mh d=true/\k d a=some y:=by
 unfold qE at h;split at h
 . rename_i b a i;obtain⟨d,e,c⟩:=aY h;obtain⟨j,f⟩:=bE c;exact⟨b,a,d,i,e,j,f⟩
 . cases h
theorem Gm (hH:HR P W φ (hp H) w){m m':Value}(f:VR φ m m'){es:List MapEntry}(h:F5 H (some m)=some es):
 ∃a:Array MapEntry,uI φ es a.toList/\((m'= .map none/\a=#[])\/∃r c,m'= .map (some r)/\w.heap[r]? = some (.map a c)):=by
 unfold F5 at h;split at h
 . rename_i q;cases q;cases h;exact⟨#[],.nil,.inl ⟨f.aR rfl,rfl⟩⟩
 . rename_i b q;cases q;obtain⟨e,k,rfl⟩:=f.rY;cases d:H.get (bits b)with
   | none=>rw[d]at h;cases h
   | some ob=>
     rw[d]at h;cases ob with
     | map es1 c=>
       cases h;obtain⟨_,a,i,j⟩:=hH.obj b _ e (show hp H b=some (.map es c)from d) k;exact⟨a,j,.inr ⟨e.r,c,rfl,i⟩⟩
     | _=>cases h
 . cases h
theorem LB (hH:HR P W φ (hp H) w){t:TypeId}{x k:Operand}{p:Bool}(C:o.op= .lookup t x k p)(I:tv P φ tm ρ [x,k]){v:Value}
 (h:eA P H t (cZ P tm x) (cZ P tm k) p=some v):∃J,VR φ v J/\(execOp ρ o).run P w= .ok (.value J) w:=by
 unfold eA at h;obtain⟨kt,M,d,B,hd,a,h⟩:=Ae h;obtain⟨es,e,h⟩:=aY h;obtain⟨K,L,h⟩:=aY h;cases hx:cZ P tm x with
 | none=>rw[hx]at e;cases e
 | some m=>
   rw[hx]at e;obtain⟨G,E,f⟩:=Gm hH (I x (by simp) m hx) e;have F:=I k (by simp) K L;unfold HS at h;cases s:Instr.findNow d K es 0 with
   | none=>rw[s]at h;cases h
   | some r=>
     rw[s]at h;obtain⟨r',n,q⟩:=xM F E 0 r s;have hchk:=run_checkKey (b:=G.toList.isEmpty) hd a (ρ k) w;have j:=run_findKey hd n w;cases q with
     | @some i u u' A=>
       have h:some (okV p u true)=some v:=h;cases h;refine⟨_,Gj (b:=true) A,?_⟩;rcases f with⟨f,rfl⟩ | ⟨r,c,f,D⟩
       . simp[Instr.findNow]at n
       . simp only[execOp,C,Instr.lookup,Sem.run_bind,cJ B,Result.andThen_ok,f,MapKept.run_getObj_map D,Sem.run_pure,run_checkKey hd a,j]
     | none=>
       have h:aw (xp P M) (λz=>some (okV p z false)) none=some v:=h;obtain⟨z,N,h⟩:=aY h;cases h;obtain⟨l,y⟩:=tH N;refine⟨_,Gj (b:=false) (.flat z y),?_⟩;rcases f with⟨f,rfl⟩ | ⟨r,c,f,D⟩
       . simp only[execOp,C,Instr.lookup,Sem.run_bind,cJ B,Result.andThen_ok,f,Sem.run_pure,run_checkKey hd a,j,l]
       . simp only[execOp,C,Instr.lookup,Sem.run_bind,cJ B,Result.andThen_ok,f,MapKept.run_getObj_map D,Sem.run_pure,run_checkKey hd a,j,l]
theorem tI:∀(l:List Value) (r:List UInt8),strOf l=some r->∃a:List Int,l=a.map (Value.int .u8)/\r=a.map λn=>dh n.toNat
 | [],r,h=>by cases h;exact⟨[],rfl,rfl⟩
 | v::l,r,h=>by
   unfold strOf at h;split at h
   . rename_i q;cases q
   . rename_i n l' q;cases q;cases b:strOf l with
     | none=>rw[b]at h;cases h
     | some e=>
       rw[b]at h;cases h;obtain⟨a,c,d⟩:=tI l e b;exact⟨(n:Int)::a,by rw[c];rfl,by rw[d];rfl⟩
   . cases h
theorem fold_push:∀(a:List Int) (s:ByteArray),a.foldl (λ(r:ByteArray) n=>r.push (dh n.toNat)) s=⟨⟨s.data.toList++a.map λn=>dh n.toNat⟩⟩
 | [],s=>by simp
 | n::a,s=>by
   rw[List.foldl_cons,fold_push a];congr 2;simp[ByteArray.push]
theorem LR.ints {a:List Int}{l':List Value}(h:LR φ (a.map (Value.int .u8)) l'):l'=a.map (Value.int .u8):=by
 have b:=h.len;refine eE λi=> ?_
 by_cases c:i<l'.length
 . have e:=au c;have d:=au (b ▸ c:i<(a.map (Value.int .u8)).length);rw[e,d,(h.at_ i _ _ d e).aR (by simp[Ev.flat,mg])]
 . rw[bt (by omega),bt (by rw[b];omega)]
theorem tJ {s d:TypeId}{x:Operand}(j:o.op= .convert s d x)(b:iy P s d=true){a:Addr}{n c':Nat}{f:List Int}(hx:ρ x= .slice (some a) n c')(c:(loadCells a n).run P w= .ok (f.map (Value.int .u8)).toArray w):
 (execOp ρ o).run P w= .ok (.value (.string ⟨⟨f.map λn=>dh n.toNat⟩⟩)) w:=by
 unfold iy at b;split at b
 . rename_i e i hd;split at b
   . rename_i h;simp only[execOp,j,hx,Sem.run_bind,run_convert_bytes_string w s d e _ n c' i h hd,run_bytesToString w _ n c' f c,Result.andThen_ok,fold_push];rfl
   . cases b
 . cases b
theorem Gn {s d:TypeId}{x:Operand}(j:o.op= .convert s d x)(a:iy P s d=true)(hx:ρ x= .slice none 0 0):
 (execOp ρ o).run P w= .ok (.value (.string ⟨⟨[]⟩⟩)) w:=by
 unfold iy at a;split at a
 . rename_i e h hd;split at a
   . rename_i f;have i:=cJ (w:=w) h;have c:=cJ (w:=w) f;have b:=cJ (w:=w) hd;simp[execOp,j,hx,convert,i,c,b,Conv.bytesToString]
     try rfl
   . cases a
 . cases a
theorem Sc (hH:HR P W φ (hp H) w){s d:TypeId}{x:Operand}(C:o.op= .convert s d x)(hE:tv P φ tm ρ o.op.operands.toList){v:Value}
 (h:ec P H s d (cZ P tm x)=some v):∃V,VR φ v V/\(execOp ρ o).run P w= .ok (.value V) w:=by
 have p:∀v,cZ P tm x=some v->VR φ v (ρ x):=hE x (by rw[C];simp[Op.operands]);unfold ec at h;split at h
 . rename_i b off n cp hx;obtain⟨en,c',X,_,I,_⟩:=(p _ hx).jn;obtain⟨Q,h⟩:=bE h;obtain⟨m,tr,hg,h⟩:=xF h;obtain⟨j,h⟩:=bE h;obtain⟨l,Y,h⟩:=aY h;obtain⟨r,L,h⟩:=aY h;cases h;obtain⟨c,el',fz,f,hn,hc⟩:=hH.row hg X;have j:=fI j;obtain⟨S,U⟩:=rh hc Y j hn;obtain⟨t,rfl,rfl⟩:=tI l r L;have M:=S.ints;refine⟨_,.flat _ rfl,tJ C Q I ?_⟩;rw[<- M];exact vx f (by omega)
 . rename_i y _ hx;cases L:tC y with
   | true=>
     rw[L]at h;obtain⟨s',es,rfl,K⟩:=mR (show kZ y (λs' es=>bif iy P s d&&ay s' 1 then aw (strOf es) (λr=>some (Value.string ⟨⟨r⟩⟩)) none else none) none=some v from h);obtain⟨u,D⟩:=bE K;simp only[ae]at u;have R:=beq_eq u.2;obtain⟨r,O,J⟩:=aY D;cases J;subst R;clear h K D;obtain⟨t,rfl,rfl⟩:=tI es r O;refine⟨_,.flat _ rfl,?_⟩;rcases(p _ hx).mj with⟨q,E | ⟨a,c',E⟩⟩ | ⟨k,Z,c',e,c,D,J,X,I,S,U,E⟩
     . have:t=[]:=by simpa using q
       subst this;exact Gn C u.1 E
     . have:t=[]:=by simpa using q
       subst this;exact tJ C u.1 E rfl
     . rw[aa]at E;refine tJ C u.1 E ?_
       by_cases F:t=[]
       . subst F;rfl
       . have I:=I (by simpa using F);rw[aa,jk]at I;obtain⟨el,fz,f⟩:=hH.qH k e c D J;have M:LR φ (t.map (Value.int .u8)) ((c.toList.drop Z).take t.length):=⟨by simp;omega,λi a b B G=>by
          rw[bR]at G;split at G
          . rw[bL,dT]at G;have A:a.cells.toList=[a]:=by
             rw[bS]at B;cases hn:t[i]? with
             | none=>rw[hn]at B;cases B
             | some z=>rw[hn]at B;cases B;rfl
            refine U i 0 a a b B (by rw[A];rfl) ?_;rw[jk,Nat.add_zero];exact G
          . cases G⟩
         have N:=M.ints;rw[<- N];exact vx f (by omega)
   | false=>
     rw[L]at h;have h:DT P s d y=some v:=h;unfold DT at h;obtain⟨K,u⟩:=bE h;obtain⟨D,J⟩:=xK u;have e:=(p _ hx).aR K;refine⟨v,.flat v D,?_⟩;simp only[execOp,C,e,Sem.run_bind,J w,Result.andThen_ok];rfl
 . cases h
theorem M9 {t:TypeId}{x u:Operand}(l:o.op= .index t x u)(r:tv P φ tm ρ o.op.operands.toList){v:Value}
 (h:eB P t (cZ P tm x) (cZ P tm u)=some v) (w:World):∃n,VR φ v n/\(execOp ρ o).run P w= .ok (.value n) w:=by
 unfold eB at h;split at h
 case h_2=>cases h
 rename_i k i0 C;have A:=(r u (by rw[l];simp[Op.operands]) _ C).aR rfl;split at h
 . rename_i cs hx;obtain⟨i,rfl,a⟩:=z_ h;clear h;obtain⟨c',m,j⟩:=(r x (by rw[l];simp[Op.operands]) _ hx).pw;have j:LR φ cs c'.toList:=j;unfold RZ at a;cases p:P.underlying t with
   | none=>simp only[p]at a;cases a
   | some d=>
     cases d with
     | array len e=>
       simp only[p]at a;obtain⟨c,h⟩:=bE a;have c:=iZ c;cases q:gf P e with
       | none=>simp only[q]at h;cases h
       | some b=>
         simp only[q]at h;cases b with
         | false=>
           cases f:bT P e with
           | none=>simp only[f]at h;cases h
           | some s=>
             simp only[f]at h;obtain⟨n,a,z⟩:=j.get h;have B:c'[i*s]? = some n:=by simpa using a
             exact⟨n,z,by simp[execOp,l,m,A,Instr.index,asIntOf,cJ p,c,part,jZ q,eG f,B]⟩
         | true=>
           cases f:bT P e with
           | none=>simp only[f]at h;cases h
           | some s=>
             simp only[f]at h;obtain⟨hle,a⟩:=bE h;cases a;refine⟨_,((j.drop (i*s)).take s).agg,?_⟩;have D:(⟨(c'.toList.drop (i*s)).take s⟩:Array Value)=c'.extract (i*s) (i*s+s):=by
              apply eU;simp only[Array.toList_extract,List.extract_eq_take_drop];rw[show i*s+s-i*s=s from by omega]
             rw[D];simp[execOp,l,m,A,Instr.index,asIntOf,cJ p,c,part,jZ q,eG f]
     | _=>simp only[p]at a;cases a
 . rename_i y _ hx;unfold F0 at h;obtain⟨m,j⟩:=bE h;simp only[ae]at m;obtain⟨a,z⟩:=xK j;have e:=(r x (by rw[l];simp[Op.operands]) _ hx).aR m.1;refine⟨v,.flat v a,?_⟩;simp only[execOp,l,e,A,Sem.run_bind,z w,Result.andThen_ok];rfl
 . cases h
theorem xN (hH:HR P W φ (hp H) w)(n:tv P φ tm ρ o.op.operands.toList){v:Value}(h:rd P H tm o=some v):
 ∃z,VR φ v z/\(execOp ρ o).run P w= .ok (.value z) w:=by
 unfold rd at h;have l:∀x,o.op.operands.toList=[x]->∀v,cZ P tm x=some v->VR φ v (ρ x):=λx hx=>n x (by simp[hx]);cases j:o.op with
 | move x=>simp only[j]at h;exact HW (.inl j) (l x (by rw[j];rfl)) h w
 | assign x=>simp only[j]at h;exact HW (.inr j) (l x (by rw[j];rfl)) h w
 | pick c a b=>simp only[j]at h;exact R_ j (λx hx=>n x (by rw[j];exact hx)) h w
 | load t x=>simp only[j]at h;exact R9 hH j (l x (by rw[j];rfl)) h
 | nilCheck x=>simp only[j]at h;exact XJ j (l x (by rw[j];rfl)) h w
 | fieldAddr s x f=>simp only[j]at h;exact Bh j (l x (by rw[j];rfl)) h w
 | indexAddr t x E=>simp only[j]at h;exact Bi j (λy u=>n y (by rw[j];exact u)) h w
 | extract x i=>simp only[j]at h;exact Gf j (l x (by rw[j];rfl)) h w
 | field t x f=>simp only[j]at h;exact M3 j (l x (by rw[j];rfl)) h w
 | slice t x lo hi mx=>simp only[j]at h;exact M4 hH j n h
 | call c=>
   simp only[j]at h;unfold xr at h;split at h
   . rename_i p;exact XK p j n h w
   . rename_i p;exact Gh (.inr (.inl rfl)) p j (λx hx v r=>n x (by rw[j];simp[Op.operands,Call.operands,p];simpa using hx) v r) h w
   . rename_i p;exact Gh (.inr (.inr rfl)) p j (λx hx v r=>n x (by rw[j];simp[Op.operands,Call.operands,p];simpa using hx) v r) h w
   . cases h
 | binOp q t x y yt=>simp only[j]at h;exact XO hH j n h
 | build t ps=>simp only[j]at h;exact M6 j n h w
 | makeInterface t x=>simp only[j]at h;exact M7 j (l x (by rw[j];rfl)) h w
 | unOp q _ x=>
   simp only[j]at h;unfold HP at h;obtain⟨y,u,h⟩:=aY h;obtain⟨B,C⟩:=bE h;obtain⟨D,F⟩:=xK C;have e:=(l x (by rw[j];rfl) y u).aR B;refine⟨v,.flat v D,?_⟩;simp only[execOp,j,e,Sem.run_bind,F w,Result.andThen_ok];rfl
 | convert s d x=>simp only[j]at h;exact Sc hH j n h
 | makeFunc fn a b=>simp only[j]at h;exact Sb j n h w
 | typeAssert x xt t A=>simp only[j]at h;exact LA j (l x (by rw[j];rfl)) h w
 | lookup t m k A=>simp only[j]at h;exact LB hH j (by rw[j]at n;exact n) h
 | index t x E=>simp only[j]at h;exact M9 j n h w
 | _=>simp only[j]at h;cases h
end ops
end
end
end Go.Ev
namespace Go.Ev
open Go.RowKit (Below)
noncomputable section
set_option maxRecDepth 100000
set_option linter.unusedVariables false
set_option linter.unusedSimpArgs false
section
variable {P:Program}{W w:World}{φ:fq}{H:T OB}{tm:T Value}{ρ:Operand->Value}{g:Nat->Option OB}
def fR (l:List Value)(e:TypeId):OB:= .cells l.length (iQ l 0 .leaf) e
theorem iS {β:Type}(H:T OB)(nx:Nat)(e:TypeId)(l:List Value)(k:T OB->Nat->β):DW H nx e l k=k (set H (bits nx) (some (fR l e))) (nx+1):=by
 unfold DW;rw[fW,bW,bQ,bW];rfl
def jz (φ φ':fq)(g a:Nat->Option OB):Prop:=∀k,φ[k]? = some none->φ'[k]? = some none/\a k=g k
theorem jz.refl (φ:fq)(g:Nat->Option OB):jz φ φ g g:=λ_ h=>⟨h,rfl⟩
theorem jz.trans {a b c:fq}{g e d:Nat->Option OB}(h:jz a b g e)(f:jz b c e d):jz a c g d:=
 λk q=>⟨(f k (h k q).1).1,((f k (h k q).1).2).trans (h k q).2⟩
theorem fG (φ:fq)(x:Option lh):φ.le (φ++[x]):=λk e h=>by
 rw[bc (ar.1 h).1];exact h
theorem i_ (φ:fq)(x:Option lh):(φ++[x])[φ.length]? = some x:=by simp
theorem dz {φ:fq}{x:Option lh}{k:Nat}{e:lh}(h:(φ++[x])[k]? = some (some e)):φ[k]? = some (some e)\/(k=φ.length/\x=some e):=by
 by_cases a:k<φ.length
 . rw[bc a]at h;exact .inl h
 . rw[bZ (by omega)]at h;have:k-φ.length=0:=by
    have:=(ar.1 h).1;simp at this;omega
   rw[this]at h;simp at h;exact .inr ⟨by omega,h⟩
theorem HR.Se {ψ:fq}(hH:HR P W φ g w)(c:φ.le ψ):∀(k:Nat),k<P.globals.size->∃e:lh,ψ[k]? = some (some e)/\e.r=k:=
 λk d=>let⟨e,a,b⟩:=hH.gl k d;⟨e,c k e a,b⟩
theorem HR.aaU (hH:HR P W φ g w)(ob:Option OB):HR P W (φ++[none]) (rS g φ.length ob) w where
 below:=hH.below
 gl:=hH.Se (fG φ none)
 uJ:=λk o h=>by
  simp only[aj,dU]
  by_cases q:k=φ.length
  . omega
  . rw[bP g q]at h;have:=hH.uJ k o h;omega
 tu:=λk e h=>by
  rcases dz h with h | ⟨_,h⟩
  . exact hH.tu k e h
  . cases h
 inj:=λk j ob l e m h a b d n i s=>by
  rcases dz h with h | ⟨_,h⟩
  . rcases dz a with a | ⟨_,a⟩
    . have p:=(ar.1 h).1;have r:=(ar.1 a).1;rw[bP g (by omega)]at b d;exact hH.inj k j ob l e m h a b d n i s
    . cases a
  . cases h
 obj:=λk ob e b h=>by
  rcases dz h with h | ⟨_,h⟩
  . have p:=(ar.1 h).1;rw[bP g (by omega)]at b;exact(hH.obj k ob e b h).mono (fG φ none)
  . cases h
 qH:=λk e c h f=>by
  rcases dz h with h | ⟨_,h⟩
  . exact hH.qH k e c h f
  . cases h
 xJ:=λk j e m c o h f a b n=>by
  rcases dz h with h | ⟨_,h⟩
  . rcases dz a with a | ⟨_,a⟩
    . have r:=(ar.1 a).1;rw[bP g (by omega)]at b;exact hH.xJ k j e m c o h f a b n
    . cases a
  . cases h
theorem tK {φ:fq}{k:Nat}(b:φ[k]? = some none)(e:lh):φ.le (φ.set k (some e)):=λj x h=>by
 rw[gJ]
 by_cases a:k=j
 . subst a;rw[b]at h;cases h
 . rw[if_neg a];exact h
theorem Sf {φ:fq}{k:Nat}(a:φ[k]? = some none)(e:lh):(φ.set k (some e))[k]? = some (some e):=by
 have:=(ar.1 a).1;simp[this]
theorem k_ {φ:fq}{k j:Nat}{e x:lh}(h:(φ.set k (some e))[j]? = some (some x)):(j≠k/\φ[j]? = some (some x))\/(j=k/\x=e):=by
 rw[gJ]at h
 by_cases a:k=j
 . rw[if_pos a]at h;split at h
   . cases h;exact .inr ⟨a.symm,rfl⟩
   . cases h
 . rw[if_neg a]at h;exact .inl ⟨λq=>a q.symm,h⟩
theorem HR.bind (hH:HR P W φ g w){k:Nat}{ob:OB}(y:φ[k]? = some none)(E:g k=some ob)(o:Obj){sz es:Nat}(u:Ea P W φ ob ⟨w.heap.size,sz,es,none⟩ (w.alloc o)):
 HR P W (φ.set k (some ⟨w.heap.size,sz,es,none⟩)) g (w.alloc o) where
 below:=hH.below.alloc hH.below.size _
 gl:=hH.Se (tK y _)
 uJ:=λk o h=>by rw[List.length_set];exact hH.uJ k o h
 tu:=λj e h=>by
  rw[World.size_alloc];rcases k_ h with⟨_,h⟩ | ⟨_,rfl⟩
  . have:=hH.tu j e h;omega
  . show w.heap.size<w.heap.size+1;omega
 inj:=λa b A C e p h q d x t z i=>by
  rcases k_ h with⟨_,f⟩ | ⟨m,hx⟩
  . rcases k_ q with⟨_,n⟩ | ⟨B,s⟩
    . exact hH.inj a b A C e p f n d x t z i
    . have:=hH.tu a e f;rw[s]at i;have i:e.r=w.heap.size:=i;omega
  . rcases k_ q with⟨_,n⟩ | ⟨B,s⟩
    . have:=hH.tu b p n;rw[hx]at i;have i:w.heap.size=p.r:=i;omega
    . exact m.trans B.symm
 obj:=λa A e d h=>by
  rcases k_ h with⟨_,f⟩ | ⟨m,hx⟩
  . exact((hH.obj a A e d f).heap (λ_=>Below.heap_alloc w _ _ (hH.tu a e f))).mono (tK y _)
  . subst m;subst hx;rw[E]at d;cases d;exact u.mono (tK y _)
 qH:=λa e c h l=>by
  rcases k_ h with⟨_,f⟩ | ⟨m,hx⟩
  . obtain⟨el,fz,i⟩:=hH.qH a e c f l;exact⟨el,fz,by rw[Below.heap_alloc w _ _ (hH.tu a e f)];exact i⟩
  . subst hx;cases l
 xJ:=λa b e p c o h l q d D=>by
  rcases k_ h with⟨_,f⟩ | ⟨m,hx⟩
  . rcases k_ q with⟨_,n⟩ | ⟨B,s⟩
    . exact hH.xJ a b e p c o f l n d D
    . have:=hH.tu a e f;rw[s];show w.heap.size≠e.r;omega
  . subst hx;cases l
def fresh (φ:fq)(r sz es:Nat):fq:=(φ++[none]).set φ.length (some ⟨r,sz,es,none⟩)
theorem mT (φ:fq)(r sz es:Nat):(fresh φ r sz es).length=φ.length+1:=by simp[fresh]
theorem mU (φ:fq)(r sz es:Nat):(fresh φ r sz es)[φ.length]? = some (some ⟨r,sz,es,none⟩):=by simp[fresh]
theorem oK (φ:fq)(r sz es:Nat):φ.le (fresh φ r sz es):=fq.le_trans (fG φ none) (tK (i_ φ none) _)
theorem lO (φ:fq)(r sz es:Nat)(g:Nat->Option OB)(x:Option OB):jz φ (fresh φ r sz es) g (rS g φ.length x):=λk h=>by
 have a:=(ar.1 h).1;refine⟨?_,bP g (by omega) x⟩;unfold fresh;rw[List.getElem?_set_ne (by omega),bc a];exact h
theorem HR.fresh (hH:HR P W φ g w){ob:OB}(o:Obj){sz es:Nat}(a:Ea P W φ ob ⟨w.heap.size,sz,es,none⟩ (w.alloc o)):
 HR P W (Ev.fresh φ w.heap.size sz es) (rS g φ.length (some ob)) (w.alloc o):=
 (hH.aaU (some ob)).bind (i_ φ none) (fH _ _ _) o (a.mono (fG φ none))
theorem HR.drew (hH:HR P W φ g w):HR P W φ g w.drew where
 below:=hH.below.drew
 gl:=hH.gl
 uJ:=hH.uJ
 tu:=hH.tu
 inj:=hH.inj
 obj:=λk ob e b h=>(hH.obj k ob e b h).heap λ_=>rfl
 qH:=λk e c h a=>hH.qH k e c h a
 xJ:=hH.xJ
theorem HR.put {A:World}(hH:HR P W φ g w){b:Nat}{f p:OB}{e:lh}(C:g b=some f)(E:live f=true)(B:φ[b]? = some (some e))(t:Below W.heap.size W A)(oI:A.heap.size=w.heap.size)
 (l:∀r,r≠e.r->A.heap[r]? = w.heap[r]?) (F:Ea P W φ p e A):HR P W φ (rS g b (some p)) A where
 below:=t
 gl:=hH.gl
 uJ:=λk o h=>by
  by_cases d:k=b
  . subst d;exact hH.uJ k _ C
  . rw[bP g d]at h;exact hH.uJ k o h
 tu:=λk x h=>by rw[oI];exact hH.tu k x h
 inj:=λk s L oa' x G h z d i m D I=>by
  have hx:∀j J,rS g b (some p) j=some J->live J=true->∃y,g j=some y/\live y=true:=by
   intro j J h n
   by_cases K:j=b
   . subst K;exact⟨_,C,E⟩
   . rw[bP g K]at h;exact⟨_,h,n⟩
  obtain⟨_,N,M⟩:=hx k _ d m;obtain⟨_,q3,q4⟩:=hx s _ i D;exact hH.inj k s _ _ x G h z N q3 M q4 I
 obj:=λk L x d h=>by
  by_cases a:k=b
  . subst a;rw[fH]at d;cases d;rw[B]at h;cases h;exact F
  . rw[bP g a]at d;refine(hH.obj k L x d h).heap λm=>l _ λq=>a (hH.inj k b _ _ x e h B d C m E q)
 qH:=λk x c h u=>by
  obtain⟨el,fz,I⟩:=hH.qH k x c h u;exact⟨el,fz,by rw[l _ (λq=>hH.xJ k b x e c f h u B C E q.symm)];exact I⟩
 xJ:=λk s x G c o h u z i n=>by
  by_cases a:s=b
  . subst a;rw[B]at z;cases z;exact hH.xJ k s x e c f h u B C E
  . rw[bP g a]at i;exact hH.xJ k s x G c o h u z i n
theorem se (g:Nat->Option OB)(b:Nat)(x y:Option OB):rS (rS g b x) b y=rS g b y:=by
 funext j;unfold rS;split<;>rfl
theorem M_ (g:Nat->Option OB)(b:Nat)(x:Option OB)(h:g b=x):rS g b x=g:=by
 funext j;unfold rS;split
 . rename_i q;subst q;exact h.symm
 . rfl
theorem HR.kill (hH:HR P W φ g w){b n:Nat}{t:T Value}{el:TypeId}{e:lh}(a:g b=some (.cells n t el))(c:φ[b]? = some (some e)):HR P W φ (rS g b (some .dead)) w:=
 hH.put a rfl c hH.below rfl (λ_ _=>rfl) trivial
theorem HR.store (hH:HR P W φ g w){b n j:Nat}{tr:T Value}{el:TypeId}{e:lh}(p:g b=some (.cells n tr el))(s:φ[b]? = some (some e))(hj:j<n)
 {v a:Value} (z:VR φ v a):HR P W φ (rS g b (some (.cells n (set tr (bits j) (some v)) el))) (w.setCell ⟨e.r,j,none⟩ a):=by
 obtain⟨h,⟨c,f,A,oI,hn,x⟩,m⟩:=hH.obj b _ e p s;refine hH.put p rfl s (hH.below.setCell h a) (World.size_setCell ..) (λr l=>heap_setCell_other w ⟨e.r,j,none⟩ r a l) ⟨h,⟨c.setIfInBounds j a,f,heap_setCell_same w e.r j c f a A,by simp[oI],hn,λi t u k=> ?_⟩,m⟩;rw[get_at]at k
 by_cases d:i=j
 . subst d;rw[if_pos rfl]at k;cases k;exact⟨a,by rw[fF (by omega)],z⟩
 . rw[if_neg d]at k;obtain⟨B,y,C⟩:=x i t u k;exact⟨B,by rw[fw (λq=>d q.symm)];exact y,C⟩
theorem kc {b n:Nat}{el:TypeId}{e:lh}(q:φ[b]? = some (some e)):∀(l l':List Value) (off i:Nat) (g:Nat->Option OB) (w:World) (tr:T Value),
 HR P W φ g w->g b=some (.cells n tr el)->LR φ l l'->l.all aC=true->off+i+l.length<=n->
 ∃p,(storeCells ⟨e.r,off,none⟩ l' i).run P w= .ok () p/\HR P W φ (rS g b (some (.cells n (iQ l (off+i) tr) el))) p
 | [],l',off,i,g,w,tr,hH,hg,hl,_,_=>by
   cases hl.pq;exact⟨w,rfl,by rw[z9,M_ g b _ hg];exact hH⟩
 | v::l,l',off,i,g,w,tr,hH,hg,hl,ho,hn=>by
   obtain⟨v',m,rfl,s,x⟩:=hl.inv;have k:aC v=true/\l.all aC=true:=by simpa using ho
   have hlen:off+i+(l.length+1)<=n:=hn;have u:=hH.store hg q (j:=off+i) (by omega) s;obtain⟨c,f,t,oI,hnn,hc⟩:=hH.cells hg q;obtain⟨p,d,h⟩:=kc q l m off (i+1) _ _ (set tr (bits (off+i)) (some v)) u (fH _ _ _) x k.2 (by omega);refine⟨p,?_,?_⟩
   . have a:w.cell? ⟨e.r,off+i,none⟩=some c[off+i]:=by rw[cell_of_row w e.r _ c f _ t];exact cE (by omega)
     simp only[storeCells,Sem.run_bind,gg,run_store P w _ _ _ (s.aC k.1),a,frozen_of_row w e.r _ c f t,jW,if_false,Result.andThen_ok];exact d
   . rw[se]at h;rw[xA];exact h
end
section
variable {P:Program}{W w:World}{φ:fq}{H:T OB}{tm:T Value}{ρ:Operand->Value}{g:Nat->Option OB}
def mG (P:Program)(W:World)(φ:fq)(H:T OB)(w:World)(r:Result Next)(v:Value)(H':T OB)(nx':Nat):Prop:=
 ∃φ' a b x,r= .ok x b/\(x= .value a\/(x= .skip/\a=undef))/\VR φ' v a/\φ.le φ'/\HR P W φ' (hp H') b/\φ'.length=nx'/\jz φ φ' (hp H) (hp H')
theorem Af (l:List Value)(i:Nat)(hi:i<l.length):(iQ l 0 .leaf).get (bits i)=l[i]? := by
 rw[gz,if_pos (by omega)];rfl
theorem Bl {l l':List Value}(a:LR φ l l')(e h:TypeId)(rest:Array Value){es:Nat}(c:∀z,bT P e=some z->es=z)(n:Below W.heap.size W w):
 Ea P W φ (fR l e) ⟨w.heap.size,(l'.toArray++rest).size,es,none⟩ (w.alloc (.cells (l'.toArray++rest) h)):=by
 refine⟨n.size,⟨_,h,Go.heap_alloc_new w _,rfl,by simp[a.len],λi d v f=> ?_⟩,c⟩;rw[Af l i d]at f;obtain⟨m,k,j⟩:=a.get f;refine⟨m,?_,j⟩;have b:i<l'.toArray.size:=by simp;rw[<- a.len];exact d
 rw[Array.getElem?_append_left b];simpa using k
theorem HZ (hH:HR P W φ (hp H) w){l l':List Value}(c:LR φ l l')(e a:TypeId){r:Result Next}{nx:Nat}(ej:φ.length=nx){mk:Nat->Value}{mk':Addr->Value}
 (h:r= .ok (.value (mk' ⟨w.heap.size,0,none⟩)) (w.alloc (.cells l'.toArray a)))
 (f:∀ ψ:fq,∀b:lh,ψ[nx]? = some (some b)->VR ψ (mk nx) (mk' ⟨b.r,0,none⟩)):
 mG P W φ H w r (mk nx) (set H (bits nx) (some (fR l e))) (nx+1):=by
 subst ej;refine⟨fresh φ w.heap.size (l'.toArray++#[]).size ((bT P e).getD 0),_,_,_,h,.inl rfl,?_,oK _ _ _ _,?_,mT _ _ _ _,?_⟩
 . exact f _ _ (mU _ _ _ _)
 . rw[dc];have:=hH.fresh (.cells (l'.toArray++#[]) a) (Bl (P:=P) c e a #[] (es:=(bT P e).getD 0) (λz d=>by rw[d];rfl) hH.below);rw[Array.append_empty]at this;rw[Array.append_empty];exact this
 . rw[dc];exact lO _ _ _ _ _ _
theorem eI {α:Type}{x:Option α}{k:α->iV}{v:Value}{H':T OB}{nx':Nat}(h:aw x k .bad= .val v H' nx'):∃a,x=some a/\k a= .val v H' nx':=by
 cases x with
 | none=>cases h
 | some a=>exact⟨a,rfl,h⟩
theorem fX {b:Bool}{x:iV}{v:Value}{H':T OB}{nx':Nat}(h:(bif b then x else .bad)= .val v H' nx'):b=true/\x= .val v H' nx':=by
 cases b
 . cases h
 . exact⟨rfl,h⟩
theorem xO {x:Option Value}{k:Nat->Nat->iV}{v:Value}{H':T OB}{nx':Nat}(h:DS x k .bad= .val v H' nx'):
 ∃b off,x=some (.pointer (some ⟨b,off,none⟩))/\k b off= .val v H' nx':=by
 unfold DS at h;split at h
 . exact⟨_,_,rfl,h⟩
 . cases h
theorem xP {x:Option OB}{k:Nat->T Value->TypeId->iV}{v:Value}{H':T OB}{nx':Nat}(h:gM x k .bad= .val v H' nx'):
 ∃n t e,x=some (.cells n t e)/\k n t e= .val v H' nx':=by
 unfold gM at h;split at h
 . exact⟨_,_,_,rfl,h⟩
 . cases h
theorem ml {t:TypeId}{k:TypeId->Nat->iV}{v:Value}{H':T OB}{nx':Nat}(h:fU P t k .bad= .val v H' nx'):
 ∃e s,P.underlying t=some (.slice e)/\bT P e=some s/\k e s= .val v H' nx':=by
 unfold fU at h;split at h
 . rename_i e c;obtain⟨s,b,a⟩:=eI h;exact⟨e,s,c,b,a⟩
 . cases h
section ops
variable {o:Oper}{v:Value}{H':T OB}{nx nx':Nat}
theorem Na (hH:HR P W φ (hp H) w)(ej:φ.length=nx){e:TypeId}(k:o.op= .alloc e)(h:eN P H nx e= .val v H' nx'):
 mG P W φ H w ((execOp ρ o).run P w) v H' nx':=by
 unfold eN at h;obtain⟨l,j,h⟩:=eI h;rw[iS]at h;cases h;obtain⟨i,z,f,b,c,d⟩:=kK j;refine HZ (mk:=nY) (mk':=λa=> .pointer (some a)) hH (LR.of_flat d) e e ej ?_ (fun ψ en h=> .ptr h);subst c;simp[execOp,k,Instr.alloc,zeroValue,typeInfo,f,b,newVar,newRow]
theorem XP (hH:HR P W φ (hp H) w)(ej:φ.length=nx){e:TypeId}{x:Operand}(d:o.op= .box e x)(b:∀v,cZ P tm x=some v->VR φ v (ρ x))
 (h:mi H nx e (cZ P tm x)= .val v H' nx'):mG P W φ H w ((execOp ρ o).run P w) v H' nx':=by
 unfold mi at h;obtain⟨u,c,h⟩:=eI h;rw[iS]at h;cases h;refine HZ (mk:=nY) (mk':=λa=> .pointer (some a)) hH (b u c).cells e e ej ?_ (fun ψ en h=> .ptr h);simp[execOp,d,Instr.box,newVar,newRow]
theorem Ed (hH:HR P W φ (hp H) w)(ej:φ.length=nx){t:TypeId}{a x:Operand}(D:o.op= .store t a x)(m:tv P φ tm ρ [a,x])
 (h:eD P H nx t (cZ P tm a) (cZ P tm x)= .val v H' nx'):mG P W φ H w ((execOp ρ o).run P w) v H' nx':=by
 unfold eD at h;obtain⟨b,off,y,h⟩:=xO h;obtain⟨u,C,h⟩:=eI h;obtain⟨n,tr,el,A,h⟩:=xP h;obtain⟨s,z,h⟩:=eI h;obtain⟨f,h⟩:=fX h;rw[fW,bQ]at h;cases h;simp only[ae]at f;have p:=beq_eq f.1.1;have h2:=fI f.1.2;obtain⟨e,r,_,l⟩:=(m a (by simp) _ y).iR;have c:=(m x (by simp) _ C).cells;obtain⟨B,d,j⟩:=kc r u.cells.toList (ρ x).cells.toList off 0 (hp H) w tr hH A c f.2 (by rw[p];omega);refine⟨φ,undef,B,.skip,?_,.inr ⟨rfl,rfl⟩,.flat _ rfl,φ.le_refl,?_,ej,?_⟩
 . have oI:(ρ x).cells.size=s:=by have:=c.len;simp at this p;omega
   simp only[execOp,D,l,Instr.storeAt,Instr.sureAddr,Sem.run_bind,Sem.run_pure,Result.andThen_ok,storeVar,eG z,oI];simp[d]
 . rw[dc];exact j
 . intro k i;refine⟨i,?_⟩;rw[dc,bP];intro q;subst q;rw[r]at i;cases i
theorem sf {z:List Value}(b:∀x∈z,flat x=true)(n:Nat):∀x∈(cI z n).toList,flat x=true:=by
 intro x hx;simp only[cI,Array.toList_map,bo]at hx;obtain⟨i,_,rfl⟩:=hx
 by_cases a:i%z.toArray.size<z.toArray.size
 . rw[getElem!_pos z.toArray _ a];exact b _ (by simp)
 . rw[getElem!_neg z.toArray _ a];rfl
theorem zG (hH:HR P W φ (hp H) w)(ej:φ.length=nx){t:TypeId}{len:Nat}{ps:Array (Nat×Operand)}(F:o.op= .buildSlice t len ps)(L:tv P φ tm ρ o.op.operands.toList)
 (h:bC P H nx t len (parts P tm ps.toList)= .val v H' nx'):mG P W φ H w ((execOp ρ o).run P w) v H' nx':=by
 unfold bC at h;obtain⟨vs,u,h⟩:=eI h;obtain⟨e,s,J,N,h⟩:=ml h;obtain⟨z,M,h⟩:=eI h;obtain⟨y,h⟩:=fX h;obtain⟨b,G,h⟩:=eI h;rw[iS,bW]at h;cases h;simp only[ae]at y;have h1:=fI y.1.1;have E:=iZ y.1.2;obtain⟨i,j,I,C,K,n⟩:=kK M;have hp:PR φ vs (ps.toList.map λp=>(p.1,ρ p.2)):=r_ ps.toList vs (λp hp=>L p.2 (by
  rw[F];show p.2∈((ps.toList.map (·.2)).toArray).toList;simp only[List.toList_toArray];exact bo.2 ⟨p,hp,rfl⟩)) u
 obtain⟨c,l,m⟩:=vy (λi=>some (i*s,s)) hp _ (cI z (len*s)) b (LR.of_flat (sf n _)) G;refine HZ (mk:=λk=> .slice (some ⟨k,0,none⟩) len len) (mk':=λa=> .slice (some a) len len) hH m e e ej ?_ (fun ψ en h=> ?_)
 . have D:z.toArray=j.cells:=by rw[<- K]
   have f:Instr.fill (λi=>some (i*s,s)) (Array.map (λx=>j.cells[x%j.cells.size]!) (Array.range (len*s))) (ps.toList.map λp=>(p.1,ρ p.2))=some c:=by
    rw[<- D];exact l
   have A:(2:Nat)^24=16777216:=by decide
   have r:¬(len*s>2^24):=by rw[A];omega
   have d:¬(len*s=0):=by omega
   simp only[execOp,F,Instr.buildSlice,Sem.run_bind,cJ J,Result.andThen_ok,eG N,if_neg r,if_neg d,Sem.run_pure];have B:(zeroValue e).run P w= .ok j w:=by simp[zeroValue,typeInfo,I,C]
   simp[B,f,newRow]
 . refine .slice h (.inl ⟨?_,rfl⟩);have:len<=len*s:=j6 len (Nat.pos_of_ne_zero (λq=>by rw[q]at E;simp at E));unfold iw;omega
theorem Ee {n:Nat}(h:n<=274877906944):IntKind.i64.wrap (n:Int)=n:=by
 unfold IntKind.wrap;have:IntKind.i64.bits=64:=rfl;have:IntKind.i64.signed=true:=rfl;simp only[*,ai];have a:(n:Int)%2^64=n:=Int.emod_eq_of_lt (by omega) (by omega);rw[a];rw[if_neg (by simp;omega)]
theorem la (z:List Value):∀n,(gu z n).length=n*z.length
 | 0=>by simp[gu]
 | n+1=>by rw[gu,aj,la z n,ir];omega
theorem sh (z:List Value):∀n i,i<n*z.length->(gu z n)[i]? = z[i%z.length]?
 | 0,i,h=>by omega
 | n+1,i,h=>by
   rw[gu]
   by_cases a:i<z.length
   . rw[bc a,hY a]
   . rw[bZ (by omega),sh z n _ (by rw[ir]at h;omega)];rw[<- Nat.mod_eq_sub_mod (by omega)]
theorem H_ {z:List Value}(d:0<z.length)(n:Nat):(cI z (n*z.length))=(gu z n).toArray:=by
 apply Array.ext
 . simp[cI,la]
 . intro i b h2;simp only[cI,Array.size_map,Array.size_range]at b;have c:i%z.length<z.length:=dV _ d;have a:=sh z n i b;rw[au c,au (by rw[la];exact b)]at a;injection a with a
   simp only[cI,Array.getElem_map,Array.getElem_range,List.getElem_toArray,List.size_toArray];rw[a,getElem!_pos z.toArray _ (by simpa using c)];simp
theorem run_makeSlice {t e:TypeId}{i:TypeInfo}{j:Value}{l c:Operand}{d a:Nat}(C:o.op= .makeSlice t l c)(h:ρ l= .int .i64 (.ofNat d))(f:ρ c= .int .i64 (.ofNat a))(B:P.underlying t=some (.slice e))
 (k:P.info? e=some i) (r:i.zero=some j) (oI:i.size=j.cells.size) (h0:0<i.size) (h1:d<=a) (h2:i.bytes*a<=281474976710656) (x:a<=274877906944) (w:World):
 (execOp ρ o).run P w= .ok (.value (.slice (some ⟨w.heap.size,0,none⟩) d a)) (w.alloc (.cells (cI j.cells.toList (a*i.size)) e)):=by
 have u:bT P e=some i.size:=by unfold bT;rw[k]
 have p:∀w,(zeroValue e).run P w= .ok j w:=λw=>by simp[zeroValue,typeInfo,k,r]
 have A:=Ee (n:=d) (by omega);have y:=Ee (n:=a) x;have b1:¬((i.bytes:Int)*(a:Int)>2^48):=by
  have:(i.bytes:Int)*(a:Int)=((i.bytes*a:Nat):Int):=by simp
  rw[this];omega
 have b:(decide ((a:Int)<0)||decide ((i.bytes:Int)*(a:Int)>2^48)||decide ((d:Int)<0)||decide ((d:Int)>(a:Int)))=false:=by
  simp only[dy,decide_eq_false_iff_not];exact⟨⟨⟨by omega,b1⟩,by omega⟩,by omega⟩
 simp only[execOp,C,Instr.makeSlice,Sem.run_bind,cJ B,Result.andThen_ok,h,f,asInt,asIntOf,Sem.run_pure,typeInfo,run_program,k,Int.ofNat_eq_natCast,A,y];simp only[b]
 by_cases s:a=0
 . subst s;have z:Array.range 0=#[]:=eU (by simp);simp[eG u,newRow,cI,z]
 . have m:¬(a*i.size=0):=λq=>by
    rcases Nat.mul_eq_zero.1 q with q | q<;>omega
   simp[eG u,newRow,cI,p];exact λq=>absurd q m
theorem aaV (hH:HR P W φ (hp H) w)(ej:φ.length=nx){t:TypeId}{l c:Operand}(O:o.op= .makeSlice t l c){e:TypeId}(N:P.underlying t=some (.slice e)){B d:Nat}(A:ρ l= .int .i64 (.ofNat B))(p:ρ c= .int .i64 (.ofNat d))
 (h:Lp P H nx e B d= .val v H' nx'):mG P W φ H w ((execOp ρ o).run P w) v H' nx':=by
 unfold Lp at h;split at h
 case h_2=>cases h
 rename_i i z C S;obtain⟨n,h⟩:=fX h;simp only[ae]at n;have L:=fI n.1.1.1.1;have M:=fI n.1.1.1.2;have Q:=fI n.1.1.2;have D:=beq_eq n.1.2;have R:=iZ n.2;subst ej;obtain⟨i',K,s,E,r,u⟩:=kK S;rw[C]at s;cases s;have oI:i.size=K.cells.size:=by rw[D,<- r];simp
 have U:bT P e=some i.size:=by unfold bT;rw[C]
 have b:=run_makeSlice (P:=P) (ρ:=ρ) O A p N C E oI R L M Q w;rw[r,D]at b;split at h
 . rename_i f hb0;rw[bQ,bW]at h;cases h;have j:∀k,k<d->(full 40 f).get (bits k)=some f:=λk m=>xz f 40 _ (D4 (by
    have:(2:Nat)^40=1099511627776:=by decide
    omega))
   rw[H_ (by simp)]at b;refine⟨fresh φ w.heap.size (gu [f] d).toArray.size 1,_,_,_,b,.inl rfl,.slice (mU _ _ _ _) (.inl ⟨by unfold iw;omega,rfl⟩),oK _ _ _ _,?_,mT _ _ _ _,?_⟩
   . rw[dc];refine hH.fresh _ ⟨hH.below.size,⟨_,e,Go.heap_alloc_new w _,rfl,by simp[la],λk m v G=> ?_⟩,λy I=>by rw[U]at I;cases I;rw[D];rfl⟩;rw[j k m]at G;cases G;refine⟨f,?_,.flat f (u f (by simp))⟩;rw[List.getElem?_toArray,sh [f] d k (by simpa using m)];simp[Nat.mod_one]
   . rw[dc];exact lO _ _ _ _ _ _
 . obtain⟨hbig,h⟩:=fX h;rw[iS]at h;cases h;rw[H_ (by omega)]at b;exact HZ (mk:=λk=> .slice (some ⟨k,0,none⟩) B d) (mk':=λa=> .slice (some a) B d) hH (LR.of_flat (l:=gu z d) (λx hx=>by
    obtain⟨k,m,rfl⟩:=List.mem_iff_getElem.1 hx;have q:=m;rw[la]at q;have J:=sh z d k q;rw[au m]at J;exact u _ (ak J.symm))) e e rfl b (fun ψ en F=> .slice F (.inl ⟨by unfold iw;omega,rfl⟩))
theorem Ah {i:Int}{k:Nat->iV}{v:Value}{H':T OB}{nx':Nat}(h:lI i k .bad= .val v H' nx'):∃n:Nat,i= .ofNat n/\k n= .val v H' nx':=by
 cases i with
 | ofNat n=>exact⟨n,rfl,(bW n k).symm.trans h⟩
 | negSucc n=>cases h
theorem Bm (hH:HR P W φ (hp H) w)(ej:φ.length=nx){t:TypeId}{l c:Operand}(k:o.op= .makeSlice t l c)(a:tv P φ tm ρ [l,c])
 (h:k0 P H nx t (cZ P tm l) (cZ P tm c)= .val v H' nx'):mG P W φ H w ((execOp ρ o).run P w) v H' nx':=by
 unfold k0 at h;split at h
 case h_2=>cases h
 rename_i ln0 cn0 e f b j;obtain⟨ln,rfl,d⟩:=Ah h;obtain⟨cn,rfl,i⟩:=Ah d;exact aaV hH ej k j ((a l (by simp) _ f).aR rfl) ((a c (by simp) _ b).aR rfl) i
end ops
end
end
end Go.Ev
