/- Texts of this claim, side by side. -/
import Derived.Orders
import Derived.Laws.Tables
import Derived.Below
import Derived.WalkKit
import Derived.MapKept
import Derived.Laws.BytesString
import Derived.Laws.StructEq
namespace Go.Ev
noncomputable section
set_option maxRecDepth 100000
set_option linter.unusedVariables false
set_option linter.unusedSimpArgs false
inductive T (α:Type) where
 | leaf
 | node (x:Option α) (l r:T α)
def m9 (f:Nat):Nat->List Bool:=
 @Nat.rec (λ_=>Nat->List Bool) (λ_=>[])
  (λ_ ih k=>Nat.casesOn k [] λm=>Nat.casesOn (Nat.mod m 2) (false::ih (Nat.div m 2)) λ_=>true::ih (Nat.div m 2)) f
def bits (k:Nat):List Bool:=m9 k k
def T.get {α:Type}(bs:List Bool):T α->Option α:=
 @List.rec Bool (λ_=>T α->Option α) (λt=>@T.rec α (λ_=>Option α) none (λx _ _ _ _=>x) t)
  (λb _ ih t=>@T.rec α (λ_=>Option α) none (λ_ l r _ _=>@Bool.rec (λ_=>Option α) (ih l) (ih r) b) t) bs
def dp {α β:Type}(bs:List Bool):T α->Option α->(T α->β)->β:=
 @List.rec Bool (λ_=>T α->Option α->(T α->β)->β)
  (λt v k=>@T.rec α (λ_=>β) (k (.node v .leaf .leaf)) (λ_ l r _ _=>k (.node v l r)) t)
  (λb _ ih t v k=>@Bool.rec (λ_=>β)
   (@T.rec α (λ_=>β) (ih .leaf v λl'=>k (.node none l' .leaf)) (λx l r _ _=>ih l v λl'=>k (.node x l' r)) t)
   (@T.rec α (λ_=>β) (ih .leaf v λr'=>k (.node none .leaf r')) (λx l r _ _=>ih r v λr'=>k (.node x l r')) t) b) bs
def full {α:Type}:Nat->α->T α
 | 0,_=> .leaf
 | d+1,v=> .node (some v) (full d v) (full d v)
def fk {α β:Type}(l:List α):Nat->T α->(T α->β)->β:=
 @List.rec α (λ_=>Nat->T α->(T α->β)->β) (λ_ t k=>k t)
  (λv _ ih i t k=>dp (bits i) t (some v) λt'=>ih (Nat.succ i) t' k) l
def qS {α:Type}(t:T α)(n:Nat):Nat->Option (List α):=
 @Nat.rec (λ_=>Nat->Option (List α)) (λ_=>some [])
  (λ_ ih i=>Option.casesOn (t.get (bits i)) none λv=>Option.casesOn (ih (Nat.succ i)) none λl=>some (v::l)) n
def bK {β:Type}(b:Bool)(x y:β):β:=@Bool.rec (λ_=>β) y x b
def bo {β:Type}(n:Nat)(k:Nat->β):β:=match n with | 0=>k 0 | m+1=>k (Nat.succ m)
def Q0 {β:Type}(n:Int)(k:Int->β):β:=match n with | .ofNat m=>bo m λm=>k (.ofNat m) | .negSucc m=>bo m λm=>k (.negSucc m)
def O9 {β:Type}(i:IntKind)(k:IntKind->β):β:=
 match i with | .i8=>k .i8 | .i16=>k .i16 | .i32=>k .i32 | .i64=>k .i64 | .u8=>k .u8 | .u16=>k .u16 | .u32=>k .u32 | .u64=>k .u64
def O_ {β:Type}(b:Bool)(k:Bool->β):β:=match b with | true=>k true | false=>k false
def CP {β:Type}(a:Addr)(k:Addr->β):β:=match a with
 | ⟨b,o,none⟩=>bo b λb=>bo o λo=>k ⟨b,o,none⟩
 | ⟨b,o,some s⟩=>k ⟨b,o,some s⟩
def uA {β:Type}(v:Value)(k:Value->β):β:=match v with
 | .bool b=>O_ b λb=>k (.bool b)
 | .int i n=>O9 i λi=>Q0 n λn=>k (.int i n)
 | .pointer none=>k (.pointer none)
 | .pointer (some a)=>CP a λa=>k (.pointer (some a))
 | .slice none l c=>bo l λl=>bo c λc=>k (.slice none l c)
 | .slice (some a) l c=>CP a λa=>bo l λl=>bo c λc=>k (.slice (some a) l c)
 | v=>k v
def za {β:Type}:List Value->(List Value->β)->β
 | [],k=>k []
 | v::l,k=>uA v λv=>za l λl=>k (v::l)
def rM {β:Type}(v:Value)(k:Value->β):β:=match v with
 | .agg ⟨l⟩=>za l λl=>k (.agg ⟨l⟩)
 | .tuple ⟨l⟩=>za l λl=>k (.tuple ⟨l⟩)
 | v=>uA v k
def jw:Nat->Value->Bool
 | 0,_=>false
 | n+1,v=>match v with
   | .bool _=>true
   | .int _ _=>true
   | .float _ _=>true
   | .complex _ _ _=>true
   | .string _=>true
   | .pointer a=>match a with | none=>true | some _=>false
   | .slice a _ _=>match a with | none=>true | some _=>false
   | .map r=>match r with | none=>true | some _=>false
   | .chan r=>match r with | none=>true | some _=>false
   | .nilFunc=>true
   | .nilIface=>true
   | .iface _ v=>jw n v
   | .agg c=>c.toList.all (jw n)
   | .tuple c=>c.toList.all (jw n)
   | .func _ a b=>a.toList.isEmpty&&b.toList.isEmpty
def flat (v:Value):Bool:=jw 5 v
def aM (s:Nat)(es:List Value):Value:= .func (.yield s) ⟨es⟩ ⟨[.nilFunc]⟩
def aa (v:Value):Value:= .func (.yield 0) ⟨[v]⟩ ⟨[.nilIface]⟩
def ib {β:Type}(v:Value)(k:Nat->List Value->β)(bad:β):β:=match v with
 | .func (.yield s) ⟨es⟩ ⟨[.nilFunc]⟩=>k s es
 | _=>bad
def UA {β:Type}(v:Value)(k:Value->β)(bad:β):β:=match v with
 | .func (.yield _) ⟨[u]⟩ ⟨[.nilIface]⟩=>k u
 | _=>bad
def vL (i:Int):Bool:=match i with | .ofNat _=>true | .negSucc _=>false
def iS {β:Type}(i:Int)(k:Nat->β)(bad:β):β:=bK (vL i) (bo i.toNat k) bad
def eO:Nat:=9223372036854775808
inductive OB where
 | cells (n:Nat) (t:T Value) (elem:TypeId)
 | ro (n:Nat) (t:T Value)
 | dead
 | map (es:List MapEntry) (clock:Nat)
 | iter (m:Option Nat) (since:Nat) (seen:List Nat) (last:Nat)
def cb {α:Type}(P:Program):Sem α->Option α
 | .pure a=>some a
 | .program k=>cb P (k P)
 | .mark _ k=>cb P k
 | _=>none
def bq (P:Program)(tm:T Value):Operand->Option Value
 | .tmp t=>tm.get (bits t)
 | .const v=>bif flat v then some v else none
 | .global g=>bif Nat.blt g P.globals.size then some (.pointer (some ⟨g,0,none⟩))else none
 | .func f=>some (.func (.func f) #[] #[])
def aN (P:Program)(t:TypeId):Option Nat:=match P.info? t with | some i=>some i.size | none=>none
def dG (P:Program)(t:TypeId):Option Bool:=match P.underlying t with
 | some (.struct _)=>some true
 | some (.array _ _)=>some true
 | some _=>some false
 | none=>none
def bT (P:Program)(t:TypeId):Option (List Value):=match P.info? t with
 | some i=>match i.zero with
   | some v=>bif v.cells.toList.all flat then some v.cells.toList else none
   | none=>none
 | none=>none
def aj:Value->Bool
 | .agg _=>false
 | .tuple _=>false
 | _=>true
def qT (P:Program)(tm:T Value):List Operand->Option (List Value)
 | []=>some []
 | x::l=>match bq P tm x with
   | none=>none
   | some v=>match qT P tm l with
     | none=>none
     | some vs=>some (v::vs)
def af {α β:Type}(x:Option α)(k:α->β)(bad:β):β:=@Option.rec α (λ_=>β) bad k x
def zc {β:Type}(v:Option Value)(k:Nat->Nat->β)(bad:β):β:=match v with
 | some (.pointer (some ⟨b,off,none⟩))=>k b off
 | _=>bad
def dV {β:Type}(x:Option OB)(k:Nat->T Value->TypeId->β)(bad:β):β:=match x with
 | some (.cells n t e)=>k n t e
 | _=>bad
def ud {β:Type}(x:Option OB)(k:Nat->T Value->β)(bad:β):β:=match x with
 | some (.cells n t _)=>k n t
 | some (.ro n t)=>k n t
 | _=>bad
def dt {β:Type}(P:Program)(t:TypeId)(k:TypeId->Nat->β)(bad:β):β:=match P.underlying t with
 | some (.slice e)=>af (aN P e) (λs=>k e s) bad
 | _=>bad
def rN (n:Nat)(tr:T Value)(off:Nat):Option Value:=bif Nat.blt off n then tr.get (bits off)else none
def rO (P:Program)(n:Nat)(tr:T Value)(t:TypeId)(off:Nat):Option Value:=
 af (aN P t) (λs=>bif Nat.ble (off+s) n then af (qS tr s off) (λl=>some (.agg ⟨l⟩)) none else none) none
def lP (P:Program)(n:Nat)(tr:T Value)(t:TypeId)(off:Nat):Option Value:=
 af (dG P t) (λa=>bif a then rO P n tr t off else rN n tr off) none
def ly (P:Program)(H:T OB)(t:TypeId)(b off:Nat):Option Value:=
 ud (H.get (bits b)) (λn tr=>lP P n tr t off) none
def parts (P:Program)(tm:T Value):List (Nat×Operand)->Option (List (Nat×Value))
 | []=>some []
 | p::l=>match bq P tm p.2 with
   | none=>none
   | some v=>match parts P tm l with
     | none=>none
     | some vs=>some ((p.1,v)::vs)
def A5 (v:Option Value):Option Nat:=match v with
 | some (.int _ i)=>bif vL i then some i.toNat else none
 | _=>none
def gu (P:Program)(tm:T Value)(x:Option Operand):Option (Option Value):=match x with
 | none=>some none
 | some x=>match bq P tm x with
   | some v=>some (some v)
   | none=>none
def bound (x:Option (Option Value))(d:Nat):Option Nat:=match x with
 | some none=>some d
 | some (some v)=>A5 (some v)
 | none=>none
def rP (r:Option Next):Option Value:=match r with
 | some (.value v)=>rM v λv=>bif flat v then some v else none
 | _=>none
def vS (s:Sem Value):Sem Next:=do pure (.value (<- s))
def fV (P:Program)(s:Sem Value):Option Value:=rP (cb P (vS s))
def iw (P:Program)(op:UnOp)(a:Option Value):Option Value:=af a (λa=>bif flat a then fV P (Op.unary op a)else none) none
def zd (P:Program)(s d:TypeId)(a:Value):Option Value:=bif flat a then fV P (convert s d a)else none
def CQ (x:Option Value):Bool:=match x with | none=>true | some v=>flat v
def rQ (P:Program)(t:TypeId)(a:Value)(lo hi mx:Option (Option Value)):Option Value:=
 af lo (λlo=>af hi (λhi=>af mx (λmx=>bif flat a&&(CQ lo&&(CQ hi&&CQ mx))then fV P (Instr.sliceAt t a lo hi mx)else none) none) none) none
def A6 (P:Program)(t:TypeId)(a i:Value):Option Value:=bif flat a&&flat i then fV P (Instr.index t a i)else none
def kJ (P:Program)(b:Builtin)(ts:Array TypeId)(ty:TypeId)(vs:Option (List Value)):Option Value:=
 af vs (λl=>bif l.all flat then rP (cb P (builtin b ts ty #[] ⟨l⟩))else none) none
def A7 (d:TypeDesc)(x y:Value):Option Bool:=match d,x,y with
 | .pointer _,.pointer (some _),.pointer none=>some false
 | .pointer _,.pointer none,.pointer (some _)=>some false
 | .slice _,.slice (some _) _ _,.slice none _ _=>some false
 | .slice _,.slice none _ _,.slice (some _) _ _=>some false
 | .map _ _,.map (some _),.map none=>some false
 | .map _ _,.map none,.map (some _)=>some false
 | .interface _,.iface _ _,.nilIface=>some false
 | .interface _,.nilIface,.iface _ _=>some false
 | .pointer _,.func (.yield _) ⟨[_]⟩ ⟨[.nilIface]⟩,.pointer none=>some false
 | .pointer _,.pointer none,.func (.yield _) ⟨[_]⟩ ⟨[.nilIface]⟩=>some false
 | .slice _,.func (.yield _) ⟨_::_⟩ ⟨[.nilFunc]⟩,.slice none _ _=>some false
 | .slice _,.slice none _ _,.func (.yield _) ⟨_::_⟩ ⟨[.nilFunc]⟩=>some false
 | _,_,_=>none
def nw (v:Value):Bool:=match v with
 | .agg _=>true
 | _=>false
def uc (a:Option Bool)(s:Option Nat)(u:Value):Option Value:=
 af a (λa=>af s (λs=>bif (bK a (nw u) (!nw u))&&Nat.beq u.cells.toList.length s then some u else none) none) none
def ai (P:Program)(H:T OB)(t:TypeId)(v:Option Value):Option Value:=match v with
 | some (.pointer (some ⟨b,off,none⟩))=>ly P H t b off
 | some v=>UA v (uc (dG P t) (aN P t)) none
 | none=>none
def rR (c a b:Option Value):Option Value:=match c with
 | some (.bool x)=>bK x a b
 | _=>none
def oe (v:Option Value):Option Value:=match v with
 | some (.pointer (some a))=>some (.pointer (some a))
 | some (.func (.func g) a b)=>some (.func (.func g) a b)
 | some (.iface t v)=>some (.iface t v)
 | some v=>UA v (λ_=>some v) none
 | none=>none
def rS (P:Program)(s:TypeId)(f:Nat):Option Nat:=match P.underlying s with
 | some (.struct fs)=>match fs[f]? with
   | some fd=>match aN P fd.type with
     | some (_+1)=>some fd.offset
     | _=>none
   | none=>none
 | _=>none
def m_ {β:Type}(P:Program)(t:TypeId)(k:Nat->Nat->β)(bad:β):β:=match P.underlying t with
 | some (.array len e)=>af (aN P e) (λs=>k len s) bad
 | _=>bad
def Mm (z:Option Nat)(s:Nat)(es:List Value)(i:Nat):Option Value:=af z (λz=>bif Nat.beq s z then af es[i]? (λu=>some (aa u)) none else none) none
def pf (P:Program)(t:TypeId):Option Nat:=dt P t (λ_ s=>some s) none
def HC (P:Program)(t:TypeId)(x:Option Value)(i:Nat):Option Value:=match x with
 | some (.slice (some ⟨b,off,none⟩) len _)=>af (pf P t) (λs=>bif Nat.blt i len then bo (Nat.add off (Nat.mul i s)) (λo=>some (.pointer (some ⟨b,o,none⟩)))else none) none
 | some (.pointer (some ⟨b,off,none⟩))=>
   m_ P t (λlen s=>bif Nat.blt i len then bo (Nat.add off (Nat.mul i s)) (λo=>some (.pointer (some ⟨b,o,none⟩)))else none) none
 | some v=>ib v (λs es=>Mm (pf P t) s es i) none
 | none=>none
def bc (P:Program)(t:TypeId)(x ix:Option Value):Option Value:=match ix with
 | some (.int _ i)=>iS i (HC P t x) none
 | _=>none
def Mn (P:Program)(t:TypeId)(cs:List Value)(i:Nat):Option Value:=match P.underlying t with
    | some (.array len e)=>bif Nat.blt i len then(match dG P e with
      | some true=>match aN P e with
        | some s=>bif Nat.ble (i*s+s) cs.length then some (.agg ⟨(cs.drop (i*s)).take s⟩)else none
        | none=>none
      | some false=>match aN P e with
        | some s=>cs[i*s]?
        | none=>none
      | none=>none)else none
    | _=>none
def cC (P:Program)(t:TypeId)(x ix:Option Value):Option Value:=match ix with
 | some (.int k i)=>(match x with
   | some (.agg ⟨cs⟩)=>iS i (Mn P t cs) none
   | some v=>A6 P t v (.int k i)
   | none=>none)
 | _=>none
def bk (v:Option Value)(i:Nat):Option Value:=match v with
 | some (.tuple vs)=>vs.toList[i]?
 | _=>none
def mF (P:Program)(t:TypeId)(f:Nat):Option (Nat×Option Nat):=match P.underlying t with
 | some (.struct fs)=>match fs[f]? with
   | some fd=>match dG P fd.type with
     | some true=>match aN P fd.type with
       | some s=>some (fd.offset,some s)
       | none=>none
     | some false=>some (fd.offset,none)
     | none=>none
   | none=>none
 | _=>none
def XT (p:Option (Nat×Option Nat))(cs:List Value):Option Value:=match p with
    | some (off,some s)=>bif Nat.ble (off+s) cs.length then some (.agg ⟨(cs.drop off).take s⟩)else none
    | some (off,none)=>cs[off]?
    | none=>none
def rdField (P:Program)(t:TypeId)(v:Option Value)(f:Nat):Option Value:=match v with
 | some (.agg ⟨cs⟩)=>XT (mF P t f) cs
 | _=>none
def XU (p:Option (Nat×Option Nat))(cs:List Value):Option Value:=match p with
    | some (off,some s)=>bif Nat.ble (off+s) cs.length then some (.agg ⟨(cs.drop off).take s⟩)else none
    | some (off,none)=>af cs[off]? (λv=>bif aj v then some v else none) none
    | none=>none
def Y1 (d:Option Nat)(p:Option (Nat×Option Nat))(v:Value):Option Value:=match v with
 | .pointer (some ⟨b,off,none⟩)=>af d (λd=>bo (Nat.add off d) λo=>some (.pointer (some ⟨b,o,none⟩))) none
 | v=>UA v (λu=>af d (λ_=>match u with
   | .agg ⟨cs⟩=>af (XU p cs) (λx=>some (aa x)) none
   | _=>none) none) none
def ae (P:Program)(s:TypeId)(v:Option Value)(f:Nat):Option Value:=af v (Y1 (rS P s f) (mF P s f)) none
def iT (b off cap s l h:Nat):Option Value:=
 bif Nat.ble l h&&Nat.ble h cap&&Nat.blt cap eO then
  bo (Nat.sub h l) λn=>(bif Nat.beq cap l then some (.slice (some ⟨b,off,none⟩) n 0)else bo (Nat.add off (Nat.mul l s)) λo=>bo (Nat.sub cap l) λc=>some (.slice (some ⟨b,o,none⟩) n c))
 else none
def rT (P:Program)(H:T OB)(b s:Nat):Bool:=dV (H.get (bits b)) (λ_ _ el=>af (aN P el) (λz=>Nat.beq z s) false) false
def pg (P:Program)(H:T OB)(b off len s l h:Nat):Option Value:=
 bif Nat.ble l h&&Nat.ble h len then
  (bif Nat.beq l 0 then some (.slice (some ⟨b,off,none⟩) h eO)
   else bif Nat.blt l len&&rT P H b s then bo (Nat.sub h l) (λn=>bo (Nat.add off (Nat.mul l s)) λo=>some (.slice (some ⟨b,o,none⟩) n eO))else none)
 else none
def UB (es:List Value)(s l h:Nat):Option Value:=bif Nat.ble l h&&Nat.ble h es.length then some (aM s ((es.drop l).take (h-l)))else none
def ph (v:Value):Bool:=ib v (λ_ _=>true) false
def bA (P:Program)(H:T OB)(t:TypeId)(x:Option Value)(lo hi mx:Option (Option Value)):Option Value:=match x with
 | some (.slice (some ⟨b,off,none⟩) len cap)=>bif (match mx with | some none=>true | _=>false)then
   af (pf P t) (λs=>af (bound lo 0) (λl=>af (bound hi len) (λh=>bif Nat.beq cap eO then pg P H b off len s l h else iT b off cap s l h) none) none) none else none
 | some (.pointer (some ⟨b,off,none⟩))=>bif (match mx with | some none=>true | _=>false)then
   m_ P t (λn s=>af (bound lo 0) (λl=>af (bound hi n) (λh=>iT b off n s l h) none) none) none else none
 | some v=>bK (ph v) (bif (match mx with | some none=>true | _=>false)then ib v (λs es=>af (pf P t) (λz=>bif Nat.beq s z then af (bound lo 0) (λl=>af (bound hi es.length) (λh=>UB es s l h) none) none else none) none) none else none) (rQ P t v lo hi mx)
 | none=>none
def gA (P:Program)(t:Option TypeId):Bool:=match t with
 | some t=>match P.underlying t with
   | some (.slice _)=>true
   | _=>false
 | none=>false
def cv (P:Program)(ts:Array TypeId)(ty:TypeId)(vs:Option (List Value)):Option Value:=match vs with
 | some [.slice (some _) n _]=>bif gA P ts[0]? then some (.int .i64 (.ofNat n))else none
 | some [v]=>bK (ph v) (ib v (λ_ es=>bif gA P ts[0]? then some (.int .i64 (.ofNat es.length))else none) none) (kJ P .len ts ty (some [v]))
 | _=>none
def HD (P:Program)(op:BinOp)(t:TypeId)(a b:Value):Option Value:=match P.underlying t with
 | some d=>match A7 d a b with
   | some r=>(match op with
     | .eql=>some (.bool r)
     | .neq=>some (.bool (!r))
     | _=>none)
   | none=>none
 | none=>none
def kK (H:T OB)(b:Nat):Bool:=dV (H.get (bits b)) (λ_ _ _=>true) false
def rU (P:Program)(H:T OB)(op:BinOp)(t:TypeId)(a b:Value):Option Value:=match P.underlying t,a,b with
 | some (.pointer e),.pointer (some ⟨x,i,none⟩),.pointer (some ⟨y,j,none⟩)=>match aN P e with
   | some (_+1)=>bif kK H x&&kK H y then(match op with
     | .eql=>some (.bool (Nat.beq x y&&Nat.beq i j))
     | .neq=>some (.bool (!(Nat.beq x y&&Nat.beq i j)))
     | _=>none)else none
   | _=>none
 | _,_,_=>HD P op t a b
def rV (v:Value):Bool:=match v with
 | .nilIface=>true
 | _=>false
def ue (x:Operand):Bool:=match x with
 | .const _=>true
 | _=>false
def XH:Operand:= .const .nilIface
def ze (P:Program)(op:BinOp)(t:TypeId)(a b:Value):Option Value:=fV P (do eqGuard op t XH XH a b;binOp op t a b)
def vM (k:Nat)(v w:Value):Option Bool:=match k,v,w with
 | 0,.int k a,.int k' b=>bif decide (k=k')then some (a == b)else none
 | 1,.string a,.string b=>some (a.toList == b.toList)
 | 2,.bool a,.bool b=>some (a == b)
 | _,_,_=>none
def qq (ks:List Nat)(l m:List Value):Option Bool:=match ks,l,m with
 | [],[],[]=>some true
 | k::ks,a::l,b::m=>af (vM k a b) (λr=>af (qq ks l m) (λr'=>some (r&&r')) none) none
 | _,_,_=>none
def uB (P:Program)(t:TypeId):Option Nat:=match P.underlying t with
 | some (.int _)=>some 0
 | some .string=>some 1
 | some .bool=>some 2
 | _=>none
def rf (P:Program):List Field->Nat->Option (List Nat)
 | [],_=>some []
 | f::fs,i=>bif !(f.name == "_")&&Nat.beq f.offset i then af (uB P f.type) (λk=>af (rf P fs (i+1)) (λks=>some (k::ks)) none) none else none
def A8 (P:Program)(t:TypeId):Option (List Nat):=match P.underlying t with
 | some (.struct fs)=>bif !P.stoodInHeld t && !P.eqGuardType P.depth t then rf P fs.toList 0 else none
 | _=>none
def XV (op:BinOp)(r:Bool):Option Value:=match op with
 | .eql=>some (.bool r)
 | .neq=>some (.bool (!r))
 | _=>none
def lQ (P:Program)(H:T OB)(op:BinOp)(t:TypeId)(q:Bool)(a b:Value):Option Value:=
 bif flat a&&flat b then(bif q || !(rV a&&rV b)then ze P op t a b else none)else rU P H op t a b
def HE (n:Option (List Nat))(op:BinOp)(l m:List Value)(bad:Option Value):Option Value:=match n with
 | some ks=>af (qq ks l m) (XV op) none
 | none=>bad
def A9 (P:Program)(H:T OB)(op:BinOp)(t:TypeId)(q:Bool)(a b:Value):Option Value:=match a,b with
 | .agg ⟨l⟩,.agg ⟨m⟩=>HE (A8 P t) op l m (lQ P H op t q (.agg ⟨l⟩) (.agg ⟨m⟩))
 | a,b=>lQ P H op t q a b
def cZ (P:Program)(H:T OB)(op:BinOp)(t:TypeId)(q:Bool)(x y:Option Value):Option Value:=
 af x (λa=>af y (A9 P H op t q a) none) none
def a9 (P:Program)(t:TypeId)(ps:Option (List (Nat×Value))):Option Value:=
 af ps (λvs=>af (bT P t) (λ_=>af (P.built t vs) (λcs=>rM (.agg cs) some) none) none) none
def kL (P:Program)(t:TypeId)(v:Option Value):Option Value:=match P.underlying t with
 | some (.interface _)=>none
 | some _=>af v (λv=>some (.iface t v)) none
 | none=>none
def rW (fn:Fn)(first:List Operand)(cap:Option (List Value)):Option Value:=match fn,first with
 | .func g,[]=>af cap (λl=>some (.func (.func g) #[] ⟨l⟩)) none
 | _,_=>none
def rX (P:Program)(t:TypeId):Option Value:=match P.info? t with
 | some i=>(match i.zero with | some z=>bif flat z then some z else none | none=>none)
 | none=>none
def okV (ok:Bool)(v:Value)(b:Bool):Value:=bif ok then .tuple #[v,.bool b]else v
def zf (P:Program)(t:TypeId):Bool:=match P.underlying t with
 | some (.interface _)=>false
 | some _=>true
 | none=>false
def iU (P:Program)(v:Option Value)(t:TypeId)(ok:Bool):Option Value:=bif zf P t then(match v with
    | some (.iface u x)=>bif Nat.beq u t then some (okV ok x true)else bif ok then af (rX P t) (λz=>some (.tuple #[z,.bool false])) none else none
    | some .nilIface=>bif ok then af (rX P t) (λz=>some (.tuple #[z,.bool false])) none else none
    | _=>none)else none
def jy (d:TypeDesc):Bool:=match d with
 | .int _=>true
 | .string=>true
 | .bool=>true
 | _=>false
def A_ (H:T OB)(m:Option Value):Option (List MapEntry):=match m with
 | some (.map none)=>some []
 | some (.map (some b))=>match H.get (bits b)with
   | some (.map es _)=>some es
   | _=>none
 | _=>none
def na {β:Type}(P:Program)(t:TypeId)(k:TypeDesc->TypeId->β)(bad:β):β:=match P.underlying t with
 | some (.map kt et)=>af (P.underlying kt) (λd=>bif jy d then k d et else bad) bad
 | _=>bad
def CR (P:Program)(et:TypeId)(ok:Bool)(r:Option (Option (Nat×Value))):Option Value:=match r with
 | some (some (_,v))=>some (okV ok v true)
 | some none=>af (rX P et) (λz=>some (okV ok z false)) none
 | none=>none
def cg (P:Program)(H:T OB)(t:TypeId)(m k:Option Value)(ok:Bool):Option Value:=
 na P t (λd et=>af (A_ H m) (λes=>af k (λk=>CR P et ok (Instr.findNow d k es 0)) none) none) none
def strOf (l:List Value):Option (List UInt8):=match l with
 | []=>some []
 | .int .u8 (.ofNat n)::l=>match strOf l with | some r=>some (n.toUInt8::r) | none=>none
 | _=>none
def eJ (P:Program)(s d:TypeId):Bool:=match P.underlying s,P.underlying d with
 | some (.slice e),some .string=>(match P.underlying e with | some (.int .u8)=>true | _=>false)
 | _,_=>false
def dk (P:Program)(H:T OB)(s d:TypeId)(x:Option Value):Option Value:=match x with
 | some (.slice (some ⟨b,off,none⟩) n _)=>bif eJ P s d then ud (H.get (bits b)) (λm tr=>bif Nat.ble (off+n) m then af (qS tr n off) (λl=>af (strOf l) (λr=>some (.string ⟨⟨r⟩⟩)) none) none else none) none else none
 | some v=>bK (ph v) (ib v (λs' es=>bif eJ P s d&&Nat.beq s' 1 then af (strOf es) (λr=>some (.string ⟨⟨r⟩⟩)) none else none) none) (zd P s d v)
 | none=>none
def rY (P:Program)(tm:T Value)(o:Oper)(c:Call):Option Value:=match c.callee with
 | .builtin .len=>cv P c.argTypes o.type (qT P tm c.args.toList)
 | .builtin .max=>kJ P .max c.argTypes o.type (qT P tm c.args.toList)
 | .builtin .min=>kJ P .min c.argTypes o.type (qT P tm c.args.toList)
 | _=>none
def rd (P:Program)(H:T OB)(tm:T Value)(o:Oper):Option Value:=match o.op with
 | .move x=>bq P tm x
 | .assign x=>bq P tm x
 | .pick c a b=>rR (bq P tm c) (bq P tm a) (bq P tm b)
 | .load t x=>ai P H t (bq P tm x)
 | .nilCheck x=>oe (bq P tm x)
 | .fieldAddr s x f=>ae P s (bq P tm x) f
 | .indexAddr t x ix=>bc P t (bq P tm x) (bq P tm ix)
 | .extract x i=>bk (bq P tm x) i
 | .field t x f=>rdField P t (bq P tm x) f
 | .slice t x lo hi mx=>bA P H t (bq P tm x) (gu P tm lo) (gu P tm hi) (gu P tm mx)
 | .call c=>rY P tm o c
 | .binOp op t x y _=>cZ P H op t (ue x||ue y) (bq P tm x) (bq P tm y)
 | .build t ps=>a9 P t (parts P tm ps.toList)
 | .makeInterface t x=>kL P t (bq P tm x)
 | .unOp op _ x=>iw P op (bq P tm x)
 | .convert s d x=>dk P H s d (bq P tm x)
 | .makeFunc fn a b=>rW fn a.toList (qT P tm b.toList)
 | .typeAssert x _ t ok=>iU P (bq P tm x) t ok
 | .lookup t m k ok=>cg P H t (bq P tm m) (bq P tm k) ok
 | .index t x ix=>cC P t (bq P tm x) (bq P tm ix)
 | _=>none
def Ba:Op->Bool
 | .move _=>true
 | .assign _=>true
 | .pick _ _ _=>true
 | .load _ _=>true
 | .nilCheck _=>true
 | .fieldAddr _ _ _=>true
 | .indexAddr _ _ _=>true
 | .extract _ _=>true
 | .field _ _ _=>true
 | .slice _ _ _ _ _=>true
 | .build _ _=>true
 | .makeInterface _ _=>true
 | .binOp _ _ _ _ _=>true
 | .unOp _ _ _=>true
 | .convert _ _ _=>true
 | .index _ _ _=>true
 | .makeFunc _ _ _=>true
 | .typeAssert _ _ _ _=>true
 | .lookup _ _ _ _=>true
 | .call c=>match c.callee with
   | .builtin b=>(match b with | .len=>true | .max=>true | .min=>true | _=>false)
   | _=>false
 | _=>false
def UR:Op->Bool
 | .buildSlice _ _ _=>true
 | _=>false
def rZ:Op->Bool
 | .alloc _=>true
 | .buildSlice _ _ _=>true
 | _=>false
def zg {β:Type}(H:T OB)(nx:Nat)(e:TypeId)(l:List Value)(k:T OB->Nat->β):β:=
 fk l 0 .leaf λt=>bo l.length λn=>dp (bits nx) H (some (.cells n t e)) λH=>bo (Nat.succ nx) λn=>k H n
def lR (P:Program)(f:FuncId):Bool:=match P.funcs[f]? with
 | some fn=>fn.body.isSome && !(fn.name == "runtime.NumGoroutine")
 | none=>false
inductive fj where
 | val (v:Value) (H:T OB) (nx:Nat)
 | call (f:FuncId) (args:List Value)
 | UC (f:FuncId) (args:List Value)
 | gv (v:Value)
 | UD
 | bad
def lz (nx:Nat):Value:= .pointer (some ⟨nx,0,none⟩)
def cD (P:Program)(H:T OB)(nx:Nat)(e:TypeId):fj:=
 af (bT P e) (λl=>zg H nx e l λH n=> .val (lz nx) H n) .bad
def jz (H:T OB)(nx:Nat)(e:TypeId)(v:Option Value):fj:=
 af v (λv=>zg H nx e v.cells.toList λH n=> .val (lz nx) H n) .bad
def cI (P:Program)(H:T OB)(nx:Nat)(t:TypeId)(a v:Option Value):fj:=
 zc a (λb off=>af v (λv=>dV (H.get (bits b)) (λn tr e=>af (aN P t) (λs=>
  bif Nat.beq v.cells.toList.length s&&Nat.ble (off+s) n&&v.cells.toList.all aj then
   fk v.cells.toList off tr λtr=>dp (bits b) H (some (.cells n tr e)) λH=> .val undef H nx
  else .bad) .bad) .bad) .bad) .bad
def bH (z:List Value)(n:Nat):Array Value:=(Array.range n).map (z.toArray[· % z.toArray.size]!)
def aJ (P:Program)(H:T OB)(nx:Nat)(t:TypeId)(len:Nat)(ps:Option (List (Nat×Value))):fj:=
 af ps (λvs=>dt P t (λe s=>af (bT P e) (λz=>
  bif Nat.ble (len*s) 16777216&&Nat.blt 0 (len*s)&&Nat.blt 0 z.length then
   af (Instr.fill (λi=>some (i*s,s)) (bH z (len*s)) vs) (λcells=>zg H nx e cells.toList λH n=>bo len λlen=> .val (.slice (some ⟨nx,0,none⟩) len len) H n) .bad
  else .bad) .bad) .bad) .bad
def cU (z:List Value):Nat->List Value
 | 0=>[]
 | n+1=>z++cU z n
def F3 (P:Program)(H:T OB)(nx:Nat)(e:TypeId)(l c:Nat):fj:=match P.info? e,bT P e with
    | some i,some z=>
      bif Nat.ble l c&&Nat.ble (i.bytes*c) 281474976710656&&Nat.ble c 274877906944&&Nat.beq i.size z.length&&Nat.blt 0 i.size then(match z with
       | [z]=>dp (bits nx) H (some (.cells c (full 40 z) e)) λH=>bo (Nat.succ nx) λn=> .val (.slice (some ⟨nx,0,none⟩) l c) H n
       | z=>bif Nat.ble (c*i.size) 40000 then zg H nx e (cU z c) λH n=> .val (.slice (some ⟨nx,0,none⟩) l c) H n else .bad)
      else .bad
    | _,_=> .bad
def ic (P:Program)(H:T OB)(nx:Nat)(t:TypeId)(l c:Option Value):fj:=match l,c,P.underlying t with
 | some (.int .i64 l),some (.int .i64 c),some (.slice e)=>iS l (λl=>iS c (λc=>F3 P H nx e l c) .bad) .bad
 | _,_,_=> .bad
def zh (P:Program)(f:Option Value)(l:Option (List Value)):fj:=match f with
 | some (.func (.func g) ⟨[]⟩ ⟨cap⟩)=>af l (λl=>bif lR P g then .call g (l++cap)else .bad) .bad
 | _=> .bad
def cellsOf (H:T OB)(s:Nat)(base:Option Addr)(n:Nat):Option (List Value):=match base with
 | none=>bif Nat.beq n 0 then some []else none
 | some ⟨b,off,none⟩=>ud (H.get (bits b)) (λm tr=>bif Nat.ble (off+n*s) m then qS tr (n*s) off else none) none
 | _=>none
def gP (H:T OB)(nx:Nat)(e:TypeId)(m:Nat)(l:List Value):fj:=
 zg H nx e l λH n=>bo m λm=> .val (.slice (some ⟨nx,0,none⟩) m eO) H n
def Q2 (P:Program)(H:T OB)(nx:Nat)(e:TypeId)(s b off sl xl n:Nat)(tr:T Value)(xs:List Value):fj:=
 bif Nat.beq off 0&&Nat.ble (sl*s) n&&rT P H b s&&xs.all aj then
  af (qS tr (sl*s) 0) (λold=>dp (bits b) H (some .dead) λH=>gP H nx e (sl+xl) (old++xs)) .bad else .bad
def F4 (H:T OB)(nx:Nat)(s b off sl sc xl n:Nat)(tr:T Value)(el:TypeId)(xs:List Value):fj:=
 bif Nat.ble (off+sc*s) n&&xs.all aj then
  fk xs (off+sl*s) tr λtr=>dp (bits b) H (some (.cells n tr el)) λH=>bo (sl+xl) λm=> .val (.slice (some ⟨b,off,none⟩) m sc) H nx
 else .bad
def qu (H:T OB)(nx:Nat)(e:TypeId)(s off sl xl n:Nat)(tr:T Value)(xs:List Value):fj:=
 bif Nat.ble (off+sl*s) n&&Nat.blt 0 xl then af (qS tr (sl*s) off) (λold=>gP H nx e (sl+xl) (old++xs)) .bad else .bad
def uf (P:Program)(H:T OB)(nx:Nat)(e:TypeId)(s b off sl sc xl:Nat)(xs:List Value):fj:=
 dV (H.get (bits b)) (λn tr el=>bif Nat.beq sc eO then Q2 P H nx e s b off sl xl n tr xs
  else bif Nat.ble (sl+xl) sc then F4 H nx s b off sl sc xl n tr el xs else qu H nx e s off sl xl n tr xs) .bad
def br (P:Program)(e:TypeId)(s aQ:Nat):Bool:=match P.info? e,bT P e with
 | some i,some z=>Nat.beq z.length s&&Nat.blt 0 s&&Nat.ble aQ 1048576&&Nat.ble i.bytes 65536
 | _,_=>false
def og (P:Program)(H:T OB)(nx:Nat)(e:TypeId)(s:Nat)(base:Option Addr)(sl sc xl:Nat)(xs:List Value):fj:=match base with
 | none=>bif Nat.beq sl 0&&Nat.beq sc 0 then(bif Nat.beq xl 0 then .val (.slice none 0 0) H nx else gP H nx e xl xs)else .bad
 | some ⟨b,off,none⟩=>uf P H nx e s b off sl sc xl xs
 | _=> .bad
def ny (H:T OB)(s:Nat)(v:Value):Option (Nat×List Value):=match v with
 | .slice xb xl _=>af (cellsOf H s xb xl) (λl=>some (xl,l)) none
 | v=>ib v (λs' es=>bif Nat.beq s' s then some (es.length,es.flatMap λu=>u.cells.toList)else none) none
def oh (P:Program)(H:T OB)(nx:Nat)(ts:List TypeId)(l:Option (List Value)):fj:=match l,ts with
 | some [.slice base sl sc,xv],[t,u]=>bif !Nat.beq t u then .bad else dt P t (λe s=>af (ny H s xv) (λp=>bif br P e s (sl+p.1)then og P H nx e s base sl sc p.1 p.2 else .bad) .bad) .bad
 | _,_=> .bad
def vN {β:Type}(x:Option OB)(k:List MapEntry->Nat->β)(bad:β):β:=match x with
 | some (.map es c)=>k es c
 | _=>bad
def HF (H:T OB)(nx b:Nat)(es:List MapEntry)(c:Nat)(k v:Value)(r:Option (Option (Nat×Value))):fj:=match r with
 | some (some (i,_))=>dp (bits b) H (some (.map (es.modify i λe=>{ e with key:=k,val:=v }) c)) λH=> .val undef H nx
 | some none=>bo (Nat.succ c) λc'=>dp (bits b) H (some (.map (es++[⟨k,v,c⟩]) c')) λH=> .val undef H nx
 | none=> .bad
def Pa (m:Option Value):Option Nat:=match m with
 | some (.map (some b))=>some b
 | _=>none
def bt (P:Program)(H:T OB)(nx:Nat)(t:TypeId)(m k v:Option Value):fj:=
 na P t (λd _=>af (Pa m) (λb=>af k (λk=>af v (λv=>vN (H.get (bits b)) (λes c=>HF H nx b es c k v (Instr.findNow d k es 0)) .bad) .bad) .bad) .bad) .bad
def HG (P:Program)(t:TypeId):Bool:=match P.underlying t with
 | some (.map _ _)=>true
 | _=>false
def mG (H:T OB)(nx:Nat)(m:Option Nat)(c:Nat):fj:=
 dp (bits nx) H (some (.iter m c [] c)) λH=>bo (Nat.succ nx) λn=> .val (lz nx) H n
def vO (P:Program)(H:T OB)(nx:Nat)(t:TypeId)(m:Option Value):fj:=bif HG P t then(match m with
 | some (.map none)=>mG H nx none 0
 | some (.map (some b))=>vN (H.get (bits b)) (λ_ c=>mG H nx (some b) c) .bad
 | _=> .bad)else .bad
def r8 {β:Type}(x:Option OB)(k:Option Nat->Nat->List Nat->Nat->β)(bad:β):β:=match x with
 | some (.iter m s l c)=>k m s l c
 | _=>bad
def Bb (H:T OB)(nx r m since c:Nat)(seen:List Nat)(l:List MapEntry):fj:=match l with
 | []=> .val (.tuple #[.bool false]) H nx
 | [e]=>bif Nat.blt e.born since then dp (bits r) H (some (.iter (some m) since (seen++[e.born]) c)) λH=> .val (.tuple #[.bool true,e.key,e.val]) H nx else .bad
 | _=> .bad
def uC (H:T OB)(nx r m since last:Nat)(seen:List Nat):fj:=
 vN (H.get (bits m)) (λes c=>bif !seen.isEmpty && !es.isEmpty&&es.all (λe=>Nat.ble last e.born)then .bad else Bb H nx r m since c seen (es.filter λe=> !seen.contains e.born)) .bad
def Bc (H:T OB)(nx:Nat)(it:Option Value)(isString:Bool):fj:=bif isString then .bad else
 zc it (λr off=>bif Nat.beq off 0 then r8 (H.get (bits r)) (λm since seen last=>match m with
  | none=> .val (.tuple #[.bool false]) H nx
  | some m=>uC H nx r m since last seen) .bad else .bad) .bad
def vP (H:T OB)(nx:Nat)(es:List MapEntry)(st:Nat):fj:=match es.find? (λe=>e.born == st)with
 | some e=> .val (.tuple #[e.key,e.val]) H nx
 | none=> .bad
def vQ (H:T OB)(nx:Nat)(it:Option Value):fj:=
 zc it (λr off=>bif Nat.beq off 0 then r8 (H.get (bits r)) (λm _ seen last=>af m (λm=>af seen.getLast? (λst=>vN (H.get (bits m)) (λes c=>bif Nat.beq c last then vP H nx es st else .bad) .bad) .bad) .bad) .bad else .bad) .bad
def nA (P:Program)(t:TypeId):Bool:=match P.underlying t with
 | some .string=>true
 | _=>false
def cO (P:Program)(H:T OB)(nx:Nat)(ts:List TypeId)(l:Option (List Value)):fj:=match l,ts with
 | some [.slice base sl sc,.string b],[t,u]=>bif nA P u then dt P t (λe s=>bif br P e s (sl+b.size)&&Nat.beq s 1 then og P H nx e s base sl sc b.size (b.data.toList.map λx=> .int .u8 (.ofNat x.toNat))else .bad) .bad else .bad
 | _,_=>oh P H nx ts l
def iy (P:Program)(H:T OB)(nx:Nat)(tm:T Value)(c:Call):fj:=match c.callee with
 | .value f=>zh P (bq P tm f) (qT P tm c.args.toList)
 | .builtin .append=>cO P H nx c.argTypes.toList (qT P tm c.args.toList)
 | .builtin .recover=> .UD
 | .builtin .panic=> .bad
 | _=> .bad
def Bd (v:Option Value):fj:=match v with
 | some (.iface t v)=> .gv (.iface t v)
 | _=> .bad
def kM (c:fj):fj:=match c with
 | .call f l=> .UC f l
 | _=> .bad
def eQ (H:T OB)(nx:Nat):fj:=dp (bits nx) H (some (.map [] 0)) λH=>bo (Nat.succ nx) λn=> .val (.map (some nx)) H n
def ef (P:Program)(H:T OB)(nx:Nat)(tm:T Value)(o:Oper):fj:=match o.op with
 | .alloc e=>cD P H nx e
 | .box e x=>jz H nx e (bq P tm x)
 | .store t a x=>cI P H nx t (bq P tm a) (bq P tm x)
 | .buildSlice t len ps=>aJ P H nx t len (parts P tm ps.toList)
 | .makeSlice t l c=>ic P H nx t (bq P tm l) (bq P tm c)
 | .makeMap _ r=>match r with | none=>eQ H nx | some _=> .bad
 | .call c=>iy P H nx tm c
 | .defer c=>kM (iy P H nx tm c)
 | .panic x=>Bd (bq P tm x)
 | .mapUpdate t m k v=>bt P H nx t (bq P tm m) (bq P tm k) (bq P tm v)
 | .insert t m k v=>bt P H nx t (bq P tm m) (bq P tm k) (bq P tm v)
 | .range t m=>vO P H nx t (bq P tm m)
 | .next it b=>Bc H nx (bq P tm it) b
 | .entry it=>vQ H nx (bq P tm it)
 | _=> .bad
def j6 (ops:Array Oper)(j:Nat):Option Tmp:=match ops[j]? with
 | some g=>g.dst
 | none=>none
def lS (tm:T Value)(d:Tmp)(want:Bool):Option Bool:=match tm.get (bits d)with
 | some (.bool b)=>some (b == want)
 | some (.tuple _)=>some false
 | _=>none
def bX (tm:T Value)(ops:Array Oper)(o:Oper):Option Bool:=match o.guard with
 | none=>some true
 | some p=>af (j6 ops p.1) (λd=>lS tm d p.2) none
def kN {β:Type}(nt:Nat)(tm:T Value)(dst:Option Tmp)(v:Value)(k:T Value->β)(bad:β):β:=match dst with
 | none=>k tm
 | some d=>bif Nat.blt d nt then dp (bits d) tm (some v) k else bad
def direct (o:Oper)(j:Nat):Bool:=o.after.toList.any λe=>Region.binds .any e&&e.on == j
def e7 (ops:Array Oper)(done:List Nat)(o:Oper):Bool:=o.after.toList.all λe=> !Region.binds .any e||done.contains e.on
def lA (ops:Array Oper):List Nat:=(List.range ops.size).filter λj=>match ops[j]? with
 | some q=>(match q.dst with
   | none=>false
   | some d=>(List.range ops.size).any λi=>match ops[i]? with
     | some p=>(p.looksAt ops).contains d && !direct p j
     | none=>false)
 | none=>false
def lT (an:List Nat)(i:Nat)(o:Oper):Bool:=(Ba o.op||rZ o.op) && !an.contains i
def vR (ops:Array Oper)(an:List Nat):Nat->List Nat->List Nat->Option (List Nat)
 | 0,_,todo=>if todo.isEmpty then some []else none
 | f+1,done,todo=>
   match todo with
   | []=>some []
   | _=>match todo.find? λi=>match ops[i]? with | some o=>lT an i o&&e7 ops done o | none=>false with
     | some i=>(vR ops an f (i::done) (todo.filter (· != i))).map (i:: ·)
     | none=>match todo.filter λi=>match ops[i]? with | some o=>e7 ops done o | none=>false with
       | [i]=>(vR ops an f (i::done) (todo.filter (· != i))).map (i:: ·)
       | _=>none
def oi:Op->Bool
 | .load _ _=>true
 | .slice _ _ _ _ _=>true
 | .lookup _ _ _ _=>true
 | .convert _ _ _=>true
 | .binOp _ _ _ _ _=>true
 | _=>false
def uD (ops:Array Oper):Nat->List Nat->List Nat
 | 0,acc=>acc
 | q+1,acc=>if acc.contains q then(match ops[q]? with
    | some o=>uD ops q (o.after.toList.foldl (λl e=>if Region.binds .any e then e.on::l else l) acc)
    | none=>uD ops q acc)else uD ops q acc
def HH (ops:Array Oper)(i:Nat):List Nat:=match ops[i]? with
 | some o=>uD ops i (o.after.toList.foldl (λl e=>if Region.binds .any e then e.on::l else l) [])
 | none=>[]
def gT (ops:Array Oper)(an:List Nat):List Nat->List Nat->List (Nat×List Nat)->Bool
 | done,_,[]=>(List.range ops.size).all done.contains
 | done,kH,(i,chk)::rest=>match ops[i]? with
   | none=>false
   | some o=> !done.contains i&&e7 ops done o&&
     (if lT an i o then gT ops an (i::done) (if oi o.op then i::kH else kH) rest
      else(!Ba o.op||chk.isEmpty)&&(rest.all λj=>match ops[j.1]? with | some q=> !e7 ops done q | none=>false)&&
       (kH.all λp=>chk.contains p||(HH ops i).contains p)&&gT ops an (i::done) chk rest)
def ug (ops:Array Oper):Bool:=
 (List.range ops.size).all λi=>(List.range ops.size).all λj=>match ops[i]?,ops[j]? with
  | some p,some q=>
    (match q.dst with
     | none=>true
     | some d=>(!(p.looksAt ops).contains d||direct p j||direct q i)&&(i == j||p.dst != some d))
  | _,_=>true
def acyclic (ops:Array Oper):Bool:=
 (List.range ops.size).all λi=>match ops[i]? with | some o=>o.after.toList.all λe=> !Region.binds .any e||Nat.blt e.on i | none=>true
def CS (ops:Array Oper)(an:List Nat):List Nat->List Nat->List (Nat×List Nat)
 | _,[]=>[]
 | kH,i::rest=>match ops[i]? with
   | none=>[]
   | some o=>if lT an i o then(i,[])::CS ops an (if oi o.op then i::kH else kH) rest
     else let chk:=kH.filter λp=> !(HH ops i).contains p
      (i,chk)::CS ops an chk rest
def kO (ops:Array Oper):List Nat:=
 match vR ops (lA ops++(List.range ops.size).filter λj=>match ops[j]? with | some o=>UR o.op | none=>false) ops.size [] (List.range ops.size)with
 | some _=>lA ops++(List.range ops.size).filter λj=>match ops[j]? with | some o=>UR o.op | none=>false
 | none=>lA ops
def vT (ops:Array Oper):Option (List (Nat×List Nat)):=
 match vR ops (kO ops) ops.size [] (List.range ops.size)with
 | none=>none
 | some l=>if ug ops&&acyclic ops&&Region.noSelect ops&&gT ops (kO ops) [] [] (CS ops (kO ops) [] l)then some (CS ops (kO ops) [] l)else none
def HI (eq:Value->Value->Bool):List Value->List Value->Bool
 | [],[]=>true
 | a::l,b::m=>eq a b&&HI eq l m
 | _,_=>false
def F5:Nat->Value->Value->Bool
 | 0,_,_=>false
 | n+1,v,w=>match v,w with
   | .bool a,.bool b=>a == b
   | .int j a,.int k b=>j == k&&a == b
   | .string a,.string b=>decide (a=b)
   | .pointer none,.pointer none=>true
   | .pointer (some ⟨a,o,none⟩),.pointer (some ⟨b,q,none⟩)=>a == b&&o == q
   | .slice none l c,.slice none m d=>l == m&&c == d
   | .slice (some ⟨a,o,none⟩) l c,.slice (some ⟨b,q,none⟩) m d=>a == b&&o == q&&l == m&&c == d
   | .map none,.map none=>true
   | .map (some a),.map (some b)=>a == b
   | .nilIface,.nilIface=>true
   | .nilFunc,.nilFunc=>true
   | .iface t v,.iface u w=>t == u&&F5 n v w
   | .agg a,.agg b=>HI (F5 n) a.toList b.toList
   | .tuple a,.tuple b=>HI (F5 n) a.toList b.toList
   | _,_=>false
def gO (v w:Value):Bool:=F5 4 v w||@decide (v=w) (Classical.propDecidable _)
def CT (tm:T Value)(dst:Option Tmp)(u:Value):Bool:=match dst with
 | none=>true
 | some d=>(match tm.get (bits d)with | some v=>gO u v | none=>false)
def Pb (P:Program)(H:T OB)(tm:T Value)(o:Oper)(w:Option Bool):Bool:=match w with
 | some b=>bK b (af (rd P H tm o) (CT tm o.dst) false) true
 | none=>false
def held (P:Program)(H:T OB)(tm:T Value)(ops:Array Oper)(p:Nat):Bool:=
 af ops[p]? (λo=>Pb P H tm o (bX tm ops o)) false
inductive Out where
 | ret (v:Value)
 | gv (v:Value)
structure Rt where
 o:Out
 rc:Bool
 H:T OB
 nx:Nat
structure Cg where
 fn:FuncId
 nt:Nat
 kd:Bool
 df:List (FuncId×List Value)
 rp:Option Value
 rc:Bool
inductive bu where
 | call (f:FuncId) (args:List Value) (kd:Bool) (rp:Option Value) (H:T OB) (nx:Nat)
 | at(c:Cg) (tm:T Value) (todo:List Item) (H:T OB) (nx:Nat)
inductive Q where
 | ret (r:Rt)
 | ask (c:bu) (k:Rt->Q)
 | jump (c:bu)
 | bad
def Q.run (O:bu->Option Rt)(q:Q):Option Rt:=@Q.rec (λ_=>Option Rt) some (λc _ ih=>af (O c) ih none) O none q
structure kP where
 Zg:List (Nat×List Nat)
 Zh:List (Nat×List Nat)
 Y2:List (Nat×List Nat)
 lv:List ((Nat×Nat)×List Nat)
 XW:Bool
def zi (k:Nat):List (Nat×List Nat)->List Nat
 | []=>[]
 | p::l=>bif Nat.beq p.1 k then p.2 else zi k l
def HJ (k j:Nat):List ((Nat×Nat)×List Nat)->Option (List Nat)
 | []=>none
 | p::l=>bif Nat.beq p.1.1 k&&Nat.beq p.1.2 j then some p.2 else HJ k j l
def chunk (a:Bool)(s:Nat):Nat->List Value->Option (List Value)
 | 0,l=>bif l.isEmpty then some []else none
 | n+1,l=>bif Nat.ble s l.length then af (chunk a s n (l.drop s)) (λr=>bK a (some (.agg ⟨l.take s⟩::r)) (af l.head? (λv=>some (v::r)) none)) none else none
def Mo (P:Program)(H:T OB)(e:TypeId)(b off n:Nat):Option Value:=
 dV (H.get (bits b)) (λm tr _=>af (aN P e) (λs=>af (dG P e) (λa=>bif Nat.ble (off+n*s) m&&Nat.blt 0 s&&(a||Nat.beq s 1)then
  af (qS tr (n*s) off) (λl=>af (chunk a s n l) (λes=>bif es.all λx=>bK a true (aj x)then some (aM s es)else none) none) none else none) none) none) none
def US (P:Program)(H:T OB)(e:TypeId)(b:Nat):Option Value:=
 dV (H.get (bits b)) (λm tr _=>af (aN P e) (λs=>af (dG P e) (λa=>bif Nat.beq m s then
  af (qS tr s 0) (λl=>bK a (some (aa (.agg ⟨l⟩))) (af l.head? (λv=>bif Nat.beq l.length 1&&aj v then some (aa v)else none) none)) none else none) none) none) none
def XX (x:Option OB):OB:=match x with
 | some (.cells n t _)=> .ro n t
 | _=> .dead
def fM (P:Program)(t:TypeId)(v:Value)(H:T OB)(nx:Nat)(k:Value->T OB->Nat->Q):Q:=match P.underlying t with
 | some (.slice e)=>(match v with
   | .slice (some ⟨b,off,none⟩) n c=>bif Nat.beq c eO||Nat.ble n c then af (Mo P H e b off n) (λr=>dp (bits b) H (some (XX (H.get (bits b)))) λH=>bo (Nat.succ nx) λnx=>k r H nx) .bad else .bad
   | .slice none n c=>bif Nat.beq n 0&&Nat.beq c 0 then af (aN P e) (λs=>k (aM s []) H nx) .bad else .bad
   | v=>k v H nx)
 | some (.pointer e)=>(match v with
   | .pointer (some ⟨b,0,none⟩)=>af (US P H e b) (λr=>dp (bits b) H (some .dead) λH=>bo (Nat.succ nx) λnx=>k r H nx) .bad
   | v=>k v H nx)
 | _=>k v H nx
def Mp (P:Program):List Field->List Value->T OB->Nat->(List Value->T OB->Nat->Q)->Q
 | [],cs,H,nx,k=>k cs H nx
 | f::fs,cs,H,nx,k=>af cs[f.offset]? (λv=>fM P f.type v H nx λv H nx=>Mp P fs (cs.set f.offset v) H nx k) .bad
def UT (P:Program)(t:TypeId):Bool:=match P.underlying t with
 | some (.slice _)=>true
 | _=>false
def fl (P:Program)(t:TypeId)(v:Value)(H:T OB)(nx:Nat)(k:Value->T OB->Nat->Q):Q:=match P.underlying t with
 | some (.struct fs)=>(match v with
   | .agg ⟨cs⟩=>Mp P (fs.toList.filter λf=>UT P f.type) cs H nx λcs H nx=>k (.agg ⟨cs⟩) H nx
   | _=> .bad)
 | _=>fM P t v H nx k
def ei (P:Program):Nat->TypeId->List (Nat×TypeId)
 | 0,_=>[]
 | d+1,t=>match P.underlying t with
   | some (.slice _)=>[(0,t)]
   | some (.struct fs)=>fs.toList.flatMap λf=>(ei P d f.type).map λp=>(f.offset+p.1,p.2)
   | _=>[]
def F6 (one:TypeId->Value->T OB->Nat->(Value->T OB->Nat->Q)->Q):List (Nat×TypeId)->List Value->T OB->Nat->(List Value->T OB->Nat->Q)->Q
 | [],cs,H,nx,k=>k cs H nx
 | p::l,cs,H,nx,k=>af cs[p.1]? (λv=>one p.2 v H nx λv H nx=>F6 one l (cs.set p.1 v) H nx k) .bad
def lU (one:TypeId->Value->T OB->Nat->(Value->T OB->Nat->Q)->Q)(l:List (Nat×TypeId))(v:Value)(H:T OB)(nx:Nat)(k:Value->T OB->Nat->Q):Q:=match v with
 | .agg ⟨cs⟩=>F6 one l cs H nx λcs H nx=>k (.agg ⟨cs⟩) H nx
 | v=>k v H nx
def lV (f:Value->T OB->Nat->(Value->T OB->Nat->Q)->Q):List Value->T OB->Nat->(List Value->T OB->Nat->Q)->Q
 | [],H,nx,k=>k [] H nx
 | v::l,H,nx,k=>f v H nx λv H nx=>lV f l H nx λl H nx=>k (v::l) H nx
def zj (v:Value):Bool:=match v with
 | .slice (some _) _ _=>true
 | _=>false
def kQ (P:Program):Nat->TypeId->Value->T OB->Nat->(Value->T OB->Nat->Q)->Q
 | 0,t,v,H,nx,k=>fM P t v H nx k
 | d+1,t,v,H,nx,k=>fM P t v H nx λu H nx=>bif zj v then(match P.underlying t with
   | some (.slice e)=>ib u (λs es=>lV (lU (kQ P d) (ei P 4 e)) es H nx λes H nx=>bif es.all λx=>Nat.beq x.cells.toList.length s then k (aM s es) H nx else .bad) .bad
   | _=>k u H nx)else k u H nx
def ch (P:Program)(t:TypeId)(v:Value)(H:T OB)(nx:Nat)(k:Value->T OB->Nat->Q):Q:=bif nw v then lU (kQ P 100000) (ei P 4 t) v H nx k else kQ P 100000 t v H nx k
def zk (P:Program)(ts:Array TypeId):List Nat->List Value->T OB->Nat->(List Value->T OB->Nat->Q)->Q
 | [],vs,H,nx,k=>k vs H nx
 | i::l,vs,H,nx,k=>bif Nat.ble 1000 i then af ts[i-1000]? (λt=>af vs[i-1000]? (λv=>ch P t v H nx λv H nx=>zk P ts l (vs.set (i-1000) v) H nx k) .bad) .bad else
   af ts[i]? (λt=>af vs[i]? (λv=>fl P t v H nx λv H nx=>zk P ts l (vs.set i v) H nx k) .bad) .bad
def gg:Value->T OB->Nat->Q:=λv H nx=> .ret ⟨.gv v,false,H,nx⟩
inductive Mq where
 | ret
 | gv (v:Value)
def Q3 (m:Mq):Option Value:=match m with
 | .ret=>none
 | .gv v=>some v
def F7 (P:Program)(H:T OB)(tm:T Value):List ResultVar->(List Value->Q)->Q
 | [],k=>k []
 | .tmp t::l,k=>af (tm.get (bits t)) (λv=>F7 P H tm l λvs=>k (v::vs)) .bad
 | .cell a t::l,k=>af (ai P H t (tm.get (bits a))) (λv=>F7 P H tm l λvs=>k (v::vs)) .bad
def UU (vs:List Value):Value:=match vs with
 | [v]=>v
 | vs=> .tuple ⟨vs⟩
def Q4 (P:Program)(pl:kP)(c:Cg)(tm:T Value)(H:T OB)(nx:Nat):Q:=
 af P.funcs[c.fn]? (λf=>F7 P H tm f.results.toList λvs=>zk P f.resultTypes (zi c.fn pl.Zg) vs H nx λvs H nx=> .ret ⟨.ret (UU vs),c.rc,H,nx⟩) .bad
def Be (P:Program)(pl:kP)(c:Cg)(tm:T Value)(m:Mq)(H:T OB)(nx:Nat):Q:=match m with
 | .ret=>Q4 P pl c tm H nx
 | .gv v=>af P.funcs[c.fn]? (λ_=> .ret ⟨.gv v,c.rc,H,nx⟩) .bad
def UW (m:Mq)(r:Rt)(ih:Mq->T OB->Nat->Q):Q:=match r.o with
 | .ret _=>ih (bK r.rc .ret m) r.H r.nx
 | .gv _=> .bad
def om (P:Program)(pl:kP)(c:Cg)(tm:T Value)(l:List (FuncId×List Value)):Mq->T OB->Nat->Q:=
 @List.rec (FuncId×List Value) (λ_=>Mq->T OB->Nat->Q) (λm H nx=>Be P pl c tm m H nx)
  (λd _ ih m H nx=> .ask (.call d.1 d.2 true (Q3 m) H nx) λr=>UW m r ih) l
abbrev Kt:=Cg->T Value->T OB->Nat->Q
def aR (e:fj)(k:Value->T OB->Nat->Q):Q:=match e with
 | .val v H nx=>k v H nx
 | _=> .bad
def bQ (q:bu)(k:Value->T OB->Nat->Q)(p:Value->T OB->Nat->Q):Q:= .ask q λr=>match r.o with
 | .ret v=>k v r.H r.nx
 | .gv v=>p v r.H r.nx
def Pc:Op->Bool
 | .call c=>(match c.callee with
   | .builtin b=>(match b with | .append=>false | _=>true)
   | _=>true)
 | .defer _=>true
 | .panic _=>true
 | _=>false
def vU (tm:T Value)(ops:Array Oper)(g:Option (Nat×Bool))(yes no:T Value->Q):Q:=match g with
 | none=>yes tm
 | some p=>af (j6 ops p.1) (λd=>match tm.get (bits d)with
   | some (.bool x)=>bK p.2 (bK x (dp (bits d) tm (some (.bool true)) yes) (dp (bits d) tm (some (.bool false)) no)) (bK x (dp (bits d) tm (some (.bool true)) no) (dp (bits d) tm (some (.bool false)) yes))
   | some (.tuple _)=>no tm
   | _=> .bad) .bad
def UX (c:Cg)(k:Cg->Value->Q):Q:=match c.kd,c.rp with
 | true,some v=>k ⟨c.fn,c.nt,c.kd,c.df,none,true⟩ v
 | _,_=>k c .nilIface
def Mr {β:Type}(v:Value)(k:Bool->β)(bad:β):β:=match v with
 | .bool b=>k b
 | _=>bad
def Ms (P:Program)(t:TypeId):Bool:=match P.underlying t with
 | some .bool=>true
 | _=>false
def Pd (o:Op):Bool:=match o with
 | .binOp op _ _ _ _=>(match op with | .eql=>true | .neq=>true | .lss=>true | .leq=>true | .gtr=>true | .geq=>true | _=>false)
 | _=>false
def zm (P:Program)(t:Bool)(nt:Nat)(tm:T Value)(dst:Option Tmp)(v:Value)(k:T Value->Q):Q:=
 bK t (Mr v (λb=>kN nt tm dst (.bool b) k .bad) .bad) (kN nt tm dst v k .bad)
def UY (nt:Nat)(tm:T Value)(H:T OB)(nx:Nat)(dst:Option Tmp)(x:Option Value)(k:T Value->T OB->Nat->Q):Q:=
 af x (λv=>bo (Nat.succ nx) λn=>kN nt tm dst (aa v) (λtm=>k tm H n) .bad) .bad
def Mt (v:Option Value)(k:Nat->Nat->Q):Q:=match v with
 | some (.pointer (some ⟨b,off,none⟩))=>k b off
 | _=> .bad
def nB (x:Option OB)(k:Nat->T Value->TypeId->Q):Q:=match x with
 | some (.cells n t e)=>k n t e
 | _=> .bad
def CU (P:Program)(nt:Nat)(tm:T Value)(H:T OB)(nx:Nat)(t:TypeId)(d:Tmp)(dst:Option Tmp)(a x:Option Value)(k:T Value->T OB->Nat->Q):Q:=
 Mt a λb off=>af x (λv=>nB (H.get (bits b)) λn _ _=>af (aN P t) (λs=>
  bif Nat.beq off 0&&(Nat.beq n s&&(Nat.beq v.cells.toList.length s&&v.cells.toList.all aj))then dp (bits b) H (some .dead) λH=>bo (Nat.succ nx) λn=>kN nt tm (some d) (aa v) (λtm=>kN nt tm dst undef (λtm=>k tm H n) .bad) .bad else .bad) .bad) .bad
def UZ (t:Nat)(l:List Nat):Bool:=l.any (Nat.beq t)
def Mu (pl:kP)(fn:Nat)(o:Oper):Bool:=match o.op with
 | .box _ _=>(match o.dst with | some d=>UZ d (zi fn pl.Y2) | none=>false)
 | .store _ (.tmp d) _=>UZ d (zi fn pl.Y2)
 | _=>false
def U0 (P:Program)(nt:Nat)(tm:T Value)(H:T OB)(nx:Nat)(o:Oper)(k:T Value->T OB->Nat->Q):Q:=match o.op with
 | .box _ x=>UY nt tm H nx o.dst (bq P tm x) k
 | .store t (.tmp d) x=>CU P nt tm H nx t d o.dst (bq P tm (.tmp d)) (bq P tm x) k
 | _=> .bad
def Pe (o:Oper):Bool:=match o.op with
 | .box _ _=>true
 | _=>false
def XY (P:Program)(pl:kP)(c:Cg)(tm:T Value)(H:T OB)(nx:Nat)(t:TypeId)(dst:Option Tmp)(ih:Kt)(e:fj):Q:=match e with
 | .call g args=>bQ (.call g args false none H nx) (λv H nx=>zm P (Ms P t) c.nt tm dst v (λtm=>ih c tm H nx)) (λv H nx=>om P pl c tm c.df (.gv v) H nx)
 | .UC g args=>kN c.nt tm dst undef (λtm=>ih ⟨c.fn,c.nt,c.kd,(g,args)::c.df,c.rp,c.rc⟩ tm H nx) .bad
 | .gv v=>om P pl c tm c.df (.gv v) H nx
 | .UD=>UX c λc v=>kN c.nt tm dst v (λtm=>ih c tm H nx) .bad
 | _=> .bad
def Y3 (P:Program)(pl:kP)(c:Cg)(tm:T Value)(H:T OB)(nx:Nat)(ih:Kt)(o:Oper):Q:=
 bK (Ba o.op) (af (rd P H tm o) (λv=>zm P (Ms P o.type||Pd o.op) c.nt tm o.dst v (λtm=>ih c tm H nx)) .bad)
  (bK (Pc o.op) (XY P pl c tm H nx o.type o.dst ih (ef P H nx tm o)) (bK (Mu pl c.fn o) (U0 P c.nt tm H nx o λtm H nx=>ih c tm H nx) (aR (ef P H nx tm o) λv H nx=>kN c.nt tm o.dst v (λtm=>ih c tm H nx) .bad)))
def XZ (P:Program)(pl:kP)(ops:Array Oper)(c:Cg)(tm:T Value)(H:T OB)(nx:Nat)(ih:Kt)(o:Oper):Q:=
 vU tm ops o.guard (λtm=>Y3 P pl c tm H nx ih o) (λtm=>kN c.nt tm o.dst undef (λtm=>ih c tm H nx) .bad)
def nb (P:Program)(pl:kP)(ops:Array Oper)(k:Kt)(l:List Nat):Kt:=
 @List.rec Nat (λ_=>Kt) k (λi _ ih c tm H nx=>af ops[i]? (XZ P pl ops c tm H nx ih) .bad) l
def r9 (P:Program)(H:T OB)(tm:T Value)(ops:Array Oper)(chk:List Nat)(k:Q):Q:=bK (chk.all (held P H tm ops)) k .bad
def X1 (P:Program)(pl:kP)(ops:Array Oper)(chk:List Nat)(c:Cg)(tm:T Value)(H:T OB)(nx:Nat)(t:TypeId)(dst:Option Tmp)(ih:Kt)(e:fj):Q:=match e with
 | .call g args=>bQ (.call g args false none H nx) (λv H nx=>zm P (Ms P t) c.nt tm dst v (λtm=>r9 P H tm ops chk (ih c tm H nx))) (λv H nx=>bK c.df.isEmpty (Be P pl c tm (.gv v) H nx) .bad)
 | .gv v=>bK c.df.isEmpty (Be P pl c tm (.gv v) H nx) .bad
 | _=> .bad
def Y4 (P:Program)(pl:kP)(ops:Array Oper)(chk:List Nat)(c:Cg)(tm:T Value)(H:T OB)(nx:Nat)(ih:Kt)(o:Oper):Q:=
 bK (Ba o.op) (af (rd P H tm o) (λv=>zm P (Ms P o.type||Pd o.op) c.nt tm o.dst v (λtm=>ih c tm H nx)) .bad)
  (bK (rZ o.op) (aR (ef P H nx tm o) λv H nx=>kN c.nt tm o.dst v (λtm=>r9 P H tm ops chk (ih c tm H nx)) .bad)
   (bK (Pc o.op) (X1 P pl ops chk c tm H nx o.type o.dst ih (ef P H nx tm o))
    (bK (Mu pl c.fn o&&Pe o) (U0 P c.nt tm H nx o λtm H nx=>r9 P H tm ops chk (ih c tm H nx)) (aR (ef P H nx tm o) λv H nx=>kN c.nt tm o.dst v (λtm=>r9 P H tm ops chk (ih c tm H nx)) .bad))))
def X2 (P:Program)(pl:kP)(ops:Array Oper)(chk:List Nat)(c:Cg)(tm:T Value)(H:T OB)(nx:Nat)(ih:Kt)(o:Oper):Q:=
 vU tm ops o.guard (λtm=>Y4 P pl ops chk c tm H nx ih o) (λtm=>kN c.nt tm o.dst undef (λtm=>r9 P H tm ops chk (ih c tm H nx)) .bad)
def uE (P:Program)(pl:kP)(ops:Array Oper)(k:Kt)(l:List (Nat×List Nat)):Kt:=
 @List.rec (Nat×List Nat) (λ_=>Kt) k (λx _ ih c tm H nx=>af ops[x.1]? (X2 P pl ops x.2 c tm H nx ih) .bad) l
def Q5 (P:Program)(pl:kP)(ops:Array Oper)(draw:Bool)(k:Kt):Kt:=λc tm H nx=>
 bK draw (bK (P.follows .mixedOrders) (af (vT ops) (λp=>uE P pl ops k p c tm H nx) .bad) .bad) (nb P pl ops k (List.range ops.size) c tm H nx)
def HK (v:Option Value)(a b:Q):Q:=match v with
 | some (.bool x)=>bK x a b
 | _=> .bad
def U1 (id:Nat)(cd:Code):Nat:=
 @Code.rec (λ_=>Nat) 0 (λ_ _ _=>0) (λ_ _ a b=>Nat.add a b) (λ_ _ _ a b=>Nat.add a b) (λj _ a=>bif Nat.beq j id then 0 else a) (λ_ a=>a) (λ_ _ _ _ _ _=>0)
  (λj=>bif Nat.beq j id then 1 else 0) (λ_ a=>a) (λ_=>0) (λ_=>0) 0 (λ_=>0) cd
def ends (cd:Code):Nat:=
 @Code.rec (λ_=>Nat) 1 (λ_ _ _=>1) (λ_ _ a b=>bif Nat.beq a 0 then 0 else b) (λ_ _ _ a b=>Nat.add a b) (λj b a=>Nat.add a (U1 j b)) (λ_ _=>0) (λ_ _ _ _ _ _=>1)
  (λ_=>0) (λ_ a=>a) (λ_=>1) (λ_=>0) 0 (λ_=>0) cd
def Mv (cd:Code):Bool:=
 @Code.rec (λ_=>Bool) false (λ_ _ _=>false) (λ_ _ a b=>a||b) (λ_ _ _ a b=>a||b) (λ_ _ a=>a) (λ_ _=>true) (λ_ _ _ _ _ _=>false)
  (λ_=>false) (λ_ a=>a) (λ_=>false) (λ_=>false) false (λ_=>false) cd
def Q6 (cd:Code):Nat:=
 @Code.rec (λ_=>Nat) 0 (λid _ _=>Nat.succ id) (λ_ _ a b=>bif Nat.beq a 0 then b else a) (λ_ _ _ a b=>bif Nat.beq a 0 then b else a) (λ_ _ a=>a) (λ_ a=>a) (λ_ _ _ _ _ _=>0)
  (λ_=>0) (λ_ a=>a) (λ_=>0) (λ_=>0) 0 (λ_=>0) cd
def Q7 (todo:List Item):Nat:=match todo with
 | .code cd::_=>Nat.mul 2 (Q6 cd)
 | .inLoop cd::_=>Nat.succ (Nat.mul 2 (Q6 cd))
 | _=>0
def uF (tm:T Value)(l:List Nat):T Value:=
 @List.rec Nat (λ_=>T Value) .leaf (λt _ ih=>af (tm.get (bits t)) (λv=>dp (bits t) ih (some v) id) ih) l
def zn (pl:kP)(fn:Nat)(key:Nat)(tm:T Value):T Value:=match pl.lv with
 | []=>tm
 | l=>af (HJ fn key l) (uF tm) tm
def zo (pl:kP)(todo:List Item):Kt:=λc tm H nx=> .jump (.at c (zn pl c.fn (Q7 todo) tm) todo H nx)
def vV (P:Program)(pl:kP):Kt:=λc tm H nx=>om P pl c tm c.df .ret H nx
def Bf:Kt:=λ_ _ _ _=> .bad
def r_ (id:Nat):List (Nat×Kt)->Kt
 | []=>Bf
 | p::l=>bif Nat.beq p.1 id then p.2 else r_ id l
def X3 (cd:Code):Bool:=match cd with
 | .region _ ops _=>ops.toList.any λo=>o.guard.isSome
 | _=>false
def U2 (pl:kP)(a b:Code):Bool:=pl.XW&&(Nat.blt 0 (Q6 b)&&(Nat.ble 2 (ends a)||(Mv a||X3 a)))
def uG (P:Program)(pl:kP)(cd:Code):List Item->Kt->List (Nat×Kt)->Kt:=
 @Code.rec (λ_=>List Item->Kt->List (Nat×Kt)->Kt) (λ_ K _=>K) (λ_ ops draw _ K _=>Q5 P pl ops draw K)
  (λa b iha ihb k K E=>iha (.code b::k) (bK (U2 pl a b) (zo pl (.code b::k)) (ihb k K E)) E)
  (λq _ _ iha ihb k K E c tm H nx=>HK (bq P tm q) (iha k K E c tm H nx) (ihb k K E c tm H nx))
  (λid _ ih k K E=>ih (.inBlock id::k) K ((id,K)::E)) (λbody _ k _ _=>zo pl (.inLoop body::k)) (λ_ _ _ _ _ _ _ _ _=>Bf)
  (λid _ _ E=>r_ id E) (λbody ih k K E=>ih (.inScope body::k) K E) (λ_ _ K _=>K) (λ_ _ _ _=>Bf) (λ_ _ _=>vV P pl) (λ_ _ _ _=>Bf) cd
def XI (P:Program)(pl:kP)(todo:List Item):Kt×List (Nat×Kt):=
 @List.rec Item (λ_=>Kt×List (Nat×Kt)) (vV P pl,[]) (λit k ih=>match it with
  | .code cd=>(uG P pl cd k ih.1 ih.2,ih.2)
  | .inBlock id=>(ih.1,(id,ih.1)::ih.2)
  | .inScope _=>ih
  | .inLoop body=>(zo pl (.inLoop body::k),ih.2)
  | _=>(Bf,[])) todo
def Q8 (P:Program)(pl:kP)(todo:List Item):Kt:=match todo with
 | .inLoop body::k=>uG P pl body (.inLoop body::k) (zo pl (.inLoop body::k)) (XI P pl k).2
 | todo=>(XI P pl todo).1
def X4 (P:Program)(pl:kP)(f:FuncId)(kd:Bool)(rp:Option Value)(fn:Func)(cd:Code)(args:List Value)(H:T OB)(nx:Nat):Q:=
 bif Nat.ble args.length fn.ntmps then zk P fn.params (zi f pl.Zh) args H nx λargs H nx=>fk args 0 .leaf λtm=>uG P pl cd [] (vV P pl) [] ⟨f,fn.ntmps,kd,[],rp,false⟩ tm H nx else .bad
def aI (P:Program)(pl:kP)(q:bu):Q:=match q with
 | .call f args kd rp H nx=>af P.funcs[f]? (λfn=>af fn.body (λcd=>X4 P pl f kd rp fn cd args H nx) .bad) .bad
 | .at c tm todo H nx=>Q8 P pl todo c tm H nx
abbrev Ext:=FuncId->List Value->Option Value
def pj (X:Ext)(q:bu)(k:Option Rt):Option Rt:=match q with
 | .call f args false _ H nx=>@Option.rec Value (λ_=>Option Rt) k (λv=>some ⟨.ret v,false,H,nx⟩) (X f args)
 | _=>k
def FD (P:Program)(pl:kP)(X:Ext)(n:Nat):bu->Option Rt:=
 @Nat.rec (λ_=>bu->Option Rt) (λ_=>none) (λ_ ih q=>pj X q ((aI P pl q).run ih)) n
@[simp] theorem j7 {α:Type} (bs:List Bool):T.get bs (.leaf:T α)=none:=by cases bs<;>rfl
@[simp] theorem get_nil {α:Type} (x:Option α) (l r:T α):T.get [] (.node x l r)=x:=rfl
@[simp] theorem UE {α:Type} (bs:List Bool) (x:Option α) (l r:T α):T.get (false::bs) (.node x l r)=l.get bs:=rfl
@[simp] theorem U3 {α:Type} (bs:List Bool) (x:Option α) (l r:T α):T.get (true::bs) (.node x l r)=r.get bs:=rfl
theorem fG {α β:Type}:∀(bs:List Bool) (t:T α) (v:Option α) (k:T α->β),dp bs t v k=k (dp bs t v id)
 | [],t,v,k=>by cases t<;>rfl
 | false::bs,t,v,k=>by
   cases t with
   | leaf=>exact(fG bs .leaf v (λl'=>k (.node none l' .leaf))).trans (congrArg k (fG bs .leaf v (λl'=>T.node none l' .leaf)).symm)
   | node x l r=>exact(fG bs l v (λl'=>k (.node x l' r))).trans (congrArg k (fG bs l v (λl'=>T.node x l' r)).symm)
 | true::bs,t,v,k=>by
   cases t with
   | leaf=>exact(fG bs .leaf v (λl'=>k (.node none .leaf l'))).trans (congrArg k (fG bs .leaf v (λl'=>T.node none .leaf l')).symm)
   | node x l r=>exact(fG bs r v (λl'=>k (.node x l l'))).trans (congrArg k (fG bs r v (λl'=>T.node x l l')).symm)
def set {α:Type}(t:T α)(bs:List Bool)(v:Option α):T α:=dp bs t v id
theorem aL {α β:Type}(bs:List Bool)(t:T α)(v:Option α)(k:T α->β):dp bs t v k=k (set t bs v):=fG bs t v k
theorem lW {α:Type}(bs:List Bool)(v:Option α):set (.leaf:T α) (false::bs) v= .node none (set .leaf bs v) .leaf:=fG bs .leaf v _
theorem nd {α:Type}(bs:List Bool)(v:Option α):set (.leaf:T α) (true::bs) v= .node none .leaf (set .leaf bs v):=fG bs .leaf v _
theorem iV {α:Type}(bs:List Bool)(v x:Option α)(l r:T α):set (.node x l r) (false::bs) v= .node x (set l bs v) r:=fG bs l v _
theorem jQ {α:Type}(bs:List Bool)(v x:Option α)(l r:T α):set (.node x l r) (true::bs) v= .node x l (set r bs v):=fG bs r v _
theorem vW {α:Type}(v:Option α):∀(bs cs:List Bool) (t:T α),(set t bs v).get cs=if cs=bs then v else t.get cs
 | [],[],t=>by cases t<;>rfl
 | [],c::cs,t=>by cases t<;>cases c<;>rw[if_neg (by simp)]<;>first | rfl | (rw[j7];exact j7 _)
 | false::bs,[],t=>by cases t<;>simp[lW,iV]
 | true::bs,[],t=>by cases t<;>simp[nd,jQ]
 | false::bs,c::cs,t=>by cases t<;>cases c<;>simp[lW,iV,vW v bs cs]
 | true::bs,c::cs,t=>by cases t<;>cases c<;>simp[nd,jQ,vW v bs cs]
def Pf:List Bool->Nat
 | []=>0
 | false::l=>2*Pf l+1
 | true::l=>2*Pf l+2
theorem pn:∀f k,k<=f->Pf (m9 f k)=k:=by
 intro f
 induction f with
 | zero=>intro k h;cases Nat.le_zero.1 h;rfl
 | succ f ih=>
   intro k h;cases k with
   | zero=>rfl
   | succ m=>
     have hd:m/2<=f:=by omega
     have e:m9 (f+1) (m+1)=Nat.casesOn (motive:=λ_=>List Bool) (m%2) (false::m9 f (m/2)) λ_=>true::m9 f (m/2):=rfl;rw[e];rcases Nat.mod_two_eq_zero_or_one m with h2 | h2
     . rw[h2];show 2*Pf (m9 f (m/2))+1=m+1;rw[ih _ hd];omega
     . rw[h2];show 2*Pf (m9 f (m/2))+2=m+1;rw[ih _ hd];omega
theorem HL {a b:Nat}(h:bits a=bits b):a=b:=by
 have h1:=pn a a (Nat.le_refl a);have h2:=pn b b (Nat.le_refl b);unfold bits at h;rw[h]at h1;omega
theorem Bg:∀l:List Bool,2^l.length<=Pf l+1
 | []=>Nat.le_refl _
 | false::l=>by have:=Bg l;simp only[Pf,List.length_cons,Nat.pow_succ];omega
 | true::l=>by have:=Bg l;simp only[Pf,List.length_cons,Nat.pow_succ];omega
theorem zp {k d:Nat}(h:k+1<2^d):(bits k).length<d:=by
 have h1:=Bg (m9 k k);rw[pn k k (Nat.le_refl k)]at h1;show(m9 k k).length<d;rcases Nat.lt_or_ge (m9 k k).length d with h2 | h2
 . exact h2
 . have:=Nat.pow_le_pow_right (n:=2) (by omega) h2;omega
theorem sb {α:Type}(v:α):∀(d:Nat) (bs:List Bool),bs.length<d->(full d v).get bs=some v
 | 0,bs,h=>by omega
 | d+1,[],_=>rfl
 | d+1,false::bs,h=>sb v d bs (by simpa using h)
 | d+1,true::bs,h=>sb v d bs (by simpa using h)
theorem get_at {α:Type}(t:T α)(i j:Nat)(v:Option α):(set t (bits i) v).get (bits j)=if j=i then v else t.get (bits j):=by
 rw[vW]
 by_cases h:j=i
 . simp[h]
 . rw[if_neg h,if_neg (λe=>h (HL e))]
theorem uH {α β:Type}:∀(l:List α) (i:Nat) (t:T α) (k:T α->β),fk l i t k=k (fk l i t id)
 | [],_,_,_=>rfl
 | v::l,i,t,k=>by
   have e:∀{γ:Type} (k:T α->γ),fk (v::l) i t k=dp (bits i) t (some v) λt'=>fk l (i+1) t' k:=λ_=>rfl;rw[e,e,aL,aL];exact uH l (i+1) _ k
def e8 {α:Type}(l:List α)(i:Nat)(t:T α):T α:=fk l i t id
theorem du {α β:Type}(l:List α)(i:Nat)(t:T α)(k:T α->β):fk l i t k=k (e8 l i t):=uH l i t k
theorem uI {α:Type}(i:Nat)(t:T α):e8 [] i t=t:=rfl
theorem se {α:Type}(v:α)(l:List α)(i:Nat)(t:T α):e8 (v::l) i t=e8 l (i+1) (set t (bits i) (some v)):=by
 show dp (bits i) t (some v) (λt'=>fk l (i+1) t' id)=_;rw[aL];rfl
theorem dO {α:Type}:∀(l:List α) (i:Nat) (t:T α) (j:Nat),(e8 l i t).get (bits j)=if i<=j/\j<i+l.length then l[j-i]? else t.get (bits j)
 | [],i,t,j=>by rw[uI,if_neg (by simp)]
 | v::l,i,t,j=>by
   rw[se,dO l (i+1),get_at]
   by_cases h:j=i
   . subst h;rw[if_neg (by omega),if_pos rfl,if_pos (by simp)];simp
   . rw[if_neg h]
     by_cases h2:i+1<=j/\j<i+1+l.length
     . rw[if_pos h2,if_pos (by simp;omega)];obtain⟨d,rfl⟩:∃d,j=i+1+d:=⟨j-(i+1),by omega⟩;have e1:i+1+d-(i+1)=d:=by omega
       have e2:i+1+d-i=d+1:=by omega
       rw[e1,e2,List.getElem?_cons_succ]
     . rw[if_neg h2,if_neg (by simp;omega)]
theorem zq {α:Type}(t:T α)(i:Nat):qS t 0 i=some []:=rfl
theorem zr {α:Type}(t:T α)(n i:Nat):qS t (n+1) i=
 Option.casesOn (motive:=λ_=>Option (List α)) (t.get (bits i)) none λv=>Option.casesOn (motive:=λ_=>Option (List α)) (qS t n (i+1)) none λl=>some (v::l):=rfl
theorem sf {α:Type}(t:T α):∀(n i:Nat) (l:List α),qS t n i=some l->l.length=n/\∀j,j<n->t.get (bits (i+j))=l[j]?
 | 0,i,l,h=>by
   rw[zq]at h;cases h;exact⟨rfl,λj hj=>by omega⟩
 | n+1,i,l,h=>by
   rw[zr]at h;cases hv:t.get (bits i)with
   | none=>rw[hv]at h;cases h
   | some v=>
     rw[hv]at h;cases hl:qS t n (i+1)with
     | none=>rw[hl]at h;cases h
     | some l'=>
       rw[hl]at h;cases h;obtain⟨h1,h2⟩:=sf t n (i+1) l' hl;refine⟨by simp[h1],λj hj=> ?_⟩;cases j with
       | zero=>simpa using hv
       | succ j=>
         have:=h2 j (by omega);rw[show i+1+j=i+(j+1)from by omega]at this;simpa using this
theorem aP {β:Type}(n:Nat)(k:Nat->β):bo n k=k n:=by cases n<;>rfl
theorem Mw {β:Type}(n:Int)(k:Int->β):Q0 n k=k n:=by cases n<;>simp[Q0,aP]
theorem HM {β:Type}(i:IntKind)(k:IntKind->β):O9 i k=k i:=by cases i<;>rfl
theorem HN {β:Type}(b:Bool)(k:Bool->β):O_ b k=k b:=by cases b<;>rfl
theorem zt {β:Type}(a:Addr)(k:Addr->β):CP a k=k a:=by
 obtain⟨b,o,s⟩:=a;cases s<;>simp[CP,aP]
theorem zu {β:Type}(v:Value)(k:Value->β):uA v k=k v:=by
 cases v with
 | pointer a=>cases a<;>simp[uA,zt]
 | slice a l c=>cases a<;>simp[uA,zt,aP]
 | _=>simp[uA,HN,HM,Mw]
theorem sh {β:Type}:∀(l:List Value) (k:List Value->β),za l k=k l
 | [],_=>rfl
 | v::l,k=>by simp only[za,zu,sh l]
theorem kR {β:Type}(v:Value)(k:Value->β):rM v k=k v:=by
 cases v with
 | agg c=>obtain⟨l⟩:=c;simp[rM,sh]
 | tuple c=>obtain⟨l⟩:=c;simp[rM,sh]
 | _=>simp only[rM,zu]
@[simp] theorem ax {α β:Type} (a:α) (k:α->β) (bad:β):af (some a) k bad=k a:=rfl
@[simp] theorem UF {α β:Type} (k:α->β) (bad:β):af none k bad=bad:=rfl
@[simp] theorem rh {β:Type} (x y:β):bK true x y=x:=rfl
@[simp] theorem si {β:Type} (x y:β):bK false x y=y:=rfl
theorem ar {α β:Type}{x:Option α}{k:α->Option β}{y:β}(h:af x k none=some y):∃a,x=some a/\k a=some y:=by
 cases x with
 | none=>cases h
 | some a=>exact⟨a,rfl,h⟩
theorem sj {β:Type}{x:Option OB}{k:Nat->T Value->TypeId->Option β}{y:β}(h:dV x k none=some y):
 ∃n t e,x=some (.cells n t e)/\k n t e=some y:=by
 unfold dV at h;split at h
 . exact⟨_,_,_,rfl,h⟩
 . cases h
theorem sk {β:Type}{x:Option OB}{k:Nat->T Value->Option β}{y:β}(h:ud x k none=some y):
 ∃n t,((∃e,x=some (.cells n t e))\/x=some (.ro n t))/\k n t=some y:=by
 unfold ud at h;split at h
 . exact⟨_,_,.inl ⟨_,rfl⟩,h⟩
 . exact⟨_,_,.inr rfl,h⟩
 . cases h
theorem zv {β:Type}{P:Program}{t:TypeId}{k:TypeId->Nat->Option β}{y:β}(h:dt P t k none=some y):
 ∃e s,P.underlying t=some (.slice e)/\aN P e=some s/\k e s=some y:=by
 unfold dt at h;split at h
 . rename_i e he;obtain⟨s,h1,h2⟩:=ar h;exact⟨e,s,he,h1,h2⟩
 . cases h
@[simp] theorem Mx (n:Nat):vL (n:Int)=true:=rfl
theorem fm {β:Type}(n:Nat)(k:Nat->β)(bad:β):iS (n:Int) k bad=k n:=aP n k
theorem uJ {β:Type}{i:Int}{k:Nat->Option β}{y:β}(h:iS i k none=some y):∃n:Nat,i= .ofNat n/\k n=some y:=by
 cases i with
 | ofNat n=>exact⟨n,rfl,(aP n k).symm.trans h⟩
 | negSucc n=>cases h
@[simp] theorem Q9 {β:Type} (s:Nat) (es:List Value) (k:Nat->List Value->β) (bad:β):ib (aM s es) k bad=k s es:=rfl
@[simp] theorem UG {β:Type} (v:Value) (k:Value->β) (bad:β):UA (aa v) k bad=k v:=rfl
theorem j8 {β:Type}{v:Value}{k:Nat->List Value->Option β}{y:β}(h:ib v k none=some y):∃s es,v=aM s es/\k s es=some y:=by
 unfold ib at h;split at h
 . exact⟨_,_,rfl,h⟩
 . cases h
theorem vX {β:Type}{v:Value}{k:Value->Option β}{y:β}(h:UA v k none=some y):∃f u,v= .func (.yield f) ⟨[u]⟩ ⟨[.nilIface]⟩/\k u=some y:=by
 unfold UA at h;split at h
 . exact⟨_,_,rfl,h⟩
 . cases h
theorem aH {β:Type}{b:Bool}{x:Option β}{y:β}(h:(bif b then x else none)=some y):b=true/\x=some y:=by
 cases b
 . cases h
 . exact⟨rfl,h⟩
end
end Go.Ev
namespace Go.Ev
open Go.RowKit (Below)
noncomputable section
set_option maxRecDepth 100000
set_option linter.unusedVariables false
set_option linter.unusedSimpArgs false
section
structure iz where
 r:Nat
 sz:Nat
 es:Nat
 fz:Option (Array Value)
abbrev cK:=List (Option iz)
def cK.le (φ ψ:cK):Prop:=∀(k:Nat) (e:iz),φ[k]? = some (some e)->ψ[k]? = some (some e)
theorem cK.le_refl (φ:cK):φ.le φ:=λ_ _ h=>h
theorem cK.le_trans {a b c:cK}(h:a.le b)(h':b.le c):a.le c:=λk e q=>h' k e (h k e q)
inductive VR (φ:cK):Value->Value->Prop
 | flat (v:Value) (h:flat v=true):VR φ v v
 | ptr {k o:Nat} {e:iz} (h:φ[k]? = some (some e)):VR φ (.pointer (some ⟨k,o,none⟩)) (.pointer (some ⟨e.r,o,none⟩))
 | slice {k o l c c':Nat} {e:iz} (h:φ[k]? = some (some e)) (hc:(c≠eO/\c'=c)\/(c=eO/\l<=c'/\o+c'*e.es<=e.sz)):
  VR φ (.slice (some ⟨k,o,none⟩) l c) (.slice (some ⟨e.r,o,none⟩) l c')
 | map {k:Nat} {e:iz} (h:φ[k]? = some (some e)):VR φ (.map (some k)) (.map (some e.r))
 | iface {t:TypeId} {v v':Value} (h:VR φ v v'):VR φ (.iface t v) (.iface t v')
 | agg {c c':List Value} (hl:c.length=c'.length) (h:∀(i:Nat) (v v':Value),c[i]? = some v->c'[i]? = some v'->VR φ v v'):VR φ (.agg ⟨c⟩) (.agg ⟨c'⟩)
 | tuple {c c':List Value} (hl:c.length=c'.length) (h:∀(i:Nat) (v v':Value),c[i]? = some v->c'[i]? = some v'->VR φ v v'):VR φ (.tuple ⟨c⟩) (.tuple ⟨c'⟩)
 | func {fn:FuncId} {c c':List Value} (hl:c.length=c'.length) (h:∀(i:Nat) (v v':Value),c[i]? = some v->c'[i]? = some v'->VR φ v v'):VR φ (.func (.func fn) #[] ⟨c⟩) (.func (.func fn) #[] ⟨c'⟩)
 | uh (s:Nat):VR φ (aM s []) (.slice none 0 0)
 | sn (s:Nat) (a:Addr) (c':Nat):VR φ (aM s []) (.slice (some a) 0 c')
 | row {k s o c':Nat} {e:iz} {c:Array Value} {es:List Value} (h:φ[k]? = some (some e)) (hf:e.fz=some c) (hs:∀x∈es,x.cells.toList.length=s) (hn:es≠[]->o+es.length*s<=c.size) (hc:es.length<=c')
  (hx:∀(i j:Nat) (x v v':Value),es[i]? = some x->x.cells.toList[j]? = some v->c[o+i*s+j]? = some v'->VR φ v v'):VR φ (aM s es) (.slice (some ⟨e.r,o,none⟩) es.length c')
 | ep {k f o:Nat} {e:iz} {c:Array Value} {u:Value} (h:φ[k]? = some (some e)) (hf:e.fz=some c) (hn:o+u.cells.toList.length<=c.size)
  (hx:∀(j:Nat) (v v':Value),u.cells.toList[j]? = some v->c[o+j]? = some v'->VR φ v v'):VR φ (.func (.yield f) ⟨[u]⟩ ⟨[.nilIface]⟩) (.pointer (some ⟨e.r,o,none⟩))
theorem VR.mono {φ ψ:cK}(hle:φ.le ψ){v v':Value}(h:VR φ v v'):VR ψ v v':=by
 induction h with
 | flat v h=>exact .flat v h
 | ptr h=>exact .ptr (hle _ _ h)
 | slice h hc=>exact .slice (hle _ _ h) hc
 | map h=>exact .map (hle _ _ h)
 | iface _ ih=>exact .iface ih
 | agg hl _ ih=>exact .agg hl ih
 | tuple hl _ ih=>exact .tuple hl ih
 | func hl _ ih=>exact .func hl ih
 | uh s=>exact .uh s
 | sn s a c=>exact .sn s a c
 | row h hf hs hn hc _ ih=>exact .row (hle _ _ h) hf hs hn hc ih
 | ep h hf hn _ ih=>exact .ep (hle _ _ h) hf hn ih
structure LR (φ:cK)(l l':List Value):Prop where
 len:l.length=l'.length
 at_:∀(i:Nat) (v v':Value),l[i]? = some v->l'[i]? = some v'->VR φ v v'
theorem LR.nil {φ:cK}:LR φ [] []:=⟨rfl,λi v v' h=>by simp at h⟩
theorem LR.cons {φ:cK}{v v':Value}{l l':List Value}(h:VR φ v v')(hl:LR φ l l'):LR φ (v::l) (v'::l'):=
 ⟨by simp[hl.len],λi a b ha hb=>by
  cases i with
  | zero=>simp at ha hb;subst ha hb;exact h
  | succ i=>simp at ha hb;exact hl.at_ i a b ha hb⟩
theorem LR.mono {φ ψ:cK}(hle:φ.le ψ){l l':List Value}(h:LR φ l l'):LR ψ l l':=⟨h.len,λi v v' a b=>(h.at_ i v v' a b).mono hle⟩
theorem LR.get {φ:cK}{l l':List Value}(h:LR φ l l'){i:Nat}{v:Value}(hv:l[i]? = some v):∃v',l'[i]? = some v'/\VR φ v v':=by
 have hi:i<l.length:=(List.getElem?_eq_some_iff.1 hv).1;have hi':i<l'.length:=h.len ▸ hi;exact⟨l'[i],List.getElem?_eq_getElem hi',h.at_ i v _ hv (List.getElem?_eq_getElem hi')⟩
theorem LR.inv {φ:cK}{v:Value}{l l':List Value}(h:LR φ (v::l) l'):∃v' m,l'=v'::m/\VR φ v v'/\LR φ l m:=by
 obtain⟨h1,h2⟩:=h;cases l' with
 | nil=>simp at h1
 | cons v' m=>exact⟨v',m,rfl,h2 0 v v' rfl rfl,by simpa using h1,λi a b ha hb=>h2 (i+1) a b (by simpa using ha) (by simpa using hb)⟩
theorem LR.mH {φ:cK}{l':List Value}(h:LR φ [] l'):l'=[]:=by
 have:=h.len;cases l' with
 | nil=>rfl
 | cons _ _=>simp at this
theorem LR.append {φ:cK}{a a' b b':List Value}(h:LR φ a a')(h':LR φ b b'):LR φ (a++b) (a'++b'):=
 ⟨by simp[h.len,h'.len],λi v v' hv hv'=>by
  by_cases hi:i<a.length
  . rw[List.getElem?_append_left hi]at hv;rw[List.getElem?_append_left (h.len ▸ hi)]at hv';exact h.at_ i v v' hv hv'
  . rw[List.getElem?_append_right (by omega)]at hv;rw[List.getElem?_append_right (by have:=h.len;omega)]at hv';rw[<- h.len]at hv';exact h'.at_ _ v v' hv hv'⟩
theorem LR.take {φ:cK}{a a':List Value}(h:LR φ a a')(n:Nat):LR φ (a.take n) (a'.take n):=
 ⟨by simp[h.len],λi v v' hv hv'=>by
  rw[List.getElem?_take]at hv hv';split at hv
  . rename_i hi;rw[if_pos hi]at hv';exact h.at_ i v v' hv hv'
  . cases hv⟩
theorem LR.drop {φ:cK}{a a':List Value}(h:LR φ a a')(n:Nat):LR φ (a.drop n) (a'.drop n):=
 ⟨by simp[h.len],λi v v' hv hv'=>by
  rw[List.getElem?_drop]at hv hv';exact h.at_ _ v v' hv hv'⟩
theorem LR.set {φ:cK}{a a':List Value}(h:LR φ a a')(n:Nat){u u':Value}(hu:VR φ u u'):LR φ (a.set n u) (a'.set n u'):=
 ⟨by simp[h.len],λi v v' hv hv'=>by
  rw[List.getElem?_set]at hv hv';rw[<- h.len]at hv'
  by_cases h1:n=i
  . rw[if_pos h1]at hv hv';split at hv
    . rename_i h2;rw[if_pos h2]at hv';cases hv;cases hv';exact hu
    . cases hv
  . rw[if_neg h1]at hv hv';exact h.at_ i v v' hv hv'⟩
theorem kS:∀(n:Nat) (v:Value),jw n v=true->jw (n+1) v=true
 | 0,_,h=>by cases h
 | n+1,v,h=>by
   have ih:=kS n;cases v with
   | iface t v=>exact ih v h
   | agg c=>exact List.all_eq_true.2 λx hx=>ih x (List.all_eq_true.1 h x hx)
   | tuple c=>exact List.all_eq_true.2 λx hx=>ih x (List.all_eq_true.1 h x hx)
   | _=>exact h
theorem Bh {t:TypeId}{v:Value}(h:flat (.iface t v)=true):flat v=true:=kS 4 v h
theorem flat_agg {c:Array Value}(h:flat (.agg c)=true):∀x∈c.toList,flat x=true:=λx hx=>kS 4 x (List.all_eq_true.1 h x hx)
theorem Bi {c:Array Value}(h:flat (.tuple c)=true):∀x∈c.toList,flat x=true:=λx hx=>kS 4 x (List.all_eq_true.1 h x hx)
theorem LR.of_flat {φ:cK}{l:List Value}(h:∀x∈l,Ev.flat x=true):LR φ l l:=
 ⟨rfl,λi v v' hv hv'=>by
  rw[hv]at hv';cases hv';exact .flat v (h v (List.mem_of_getElem? hv))⟩
theorem VR.zw {φ:cK}{v v':Value}(h:VR φ v v'):∀n,jw n v=true->v'=v:=by
 induction h with
 | flat v _=>exact λ_ _=>rfl
 | ptr _=>intro n h;cases n<;>cases h
 | slice _ _=>intro n h;cases n<;>cases h
 | map _=>intro n h;cases n<;>cases h
 | iface _ ih=>
   intro n h;cases n with
   | zero=>cases h
   | succ n=>rw[ih n h]
 | @agg c c' hl _ ih=>
   intro n h;cases n with
   | zero=>cases h
   | succ n=>
     have:c'=c:=List.ext_getElem? λi=>by
      by_cases hi:i<c.length
      . have h1:=List.getElem?_eq_getElem hi;have h2:=List.getElem?_eq_getElem (hl ▸ hi:i<c'.length);rw[h1,h2,ih i _ _ h1 h2 n (List.all_eq_true.1 h _ (List.getElem_mem hi))]
      . rw[List.getElem?_eq_none (by omega),List.getElem?_eq_none (by omega)]
     rw[this]
 | @tuple c c' hl _ ih=>
   intro n h;cases n with
   | zero=>cases h
   | succ n=>
     have:c'=c:=List.ext_getElem? λi=>by
      by_cases hi:i<c.length
      . have h1:=List.getElem?_eq_getElem hi;have h2:=List.getElem?_eq_getElem (hl ▸ hi:i<c'.length);rw[h1,h2,ih i _ _ h1 h2 n (List.all_eq_true.1 h _ (List.getElem_mem hi))]
      . rw[List.getElem?_eq_none (by omega),List.getElem?_eq_none (by omega)]
     rw[this]
 | @func fn c c' hl _ _=>
   intro n h;cases n with
   | zero=>cases h
   | succ n=>
     have h1:c.isEmpty=true:=by
      have:((#[]:Array Value).toList.isEmpty&&c.isEmpty)=true:=h;simpa using this
     cases c with
     | nil=>cases c' with
       | nil=>rfl
       | cons _ _=>simp at hl
     | cons _ _=>cases h1
 | sn s a c=>intro n h;cases n<;>first | (cases h;done) | (exact absurd h (by simp[aM,jw]))
 | uh s=>intro n h;cases n<;>first | (cases h;done) | (exact absurd h (by simp[aM,jw]))
 | row _ _ _ _ _ _ _=>intro n h;cases n<;>first | (cases h;done) | (exact absurd h (by simp[aM,jw]))
 | ep _ _ _ _ _=>intro n h;cases n<;>first | (cases h;done) | (exact absurd h (by simp[jw]))
theorem VR.al {φ:cK}{v v':Value}(h:VR φ v v')(hf:Ev.flat v=true):v'=v:=h.zw 5 hf
variable {φ:cK}
theorem VR.e_ {k o:Nat}{s:Option Nat}{v':Value}(h:VR φ (.pointer (some ⟨k,o,s⟩)) v'):
 ∃e,φ[k]? = some (some e)/\s=none/\v'= .pointer (some ⟨e.r,o,none⟩):=by
 cases h with
 | flat _ h=>cases h
 | ptr h=>exact⟨_,h,rfl,rfl⟩
theorem VR.fH {k o l c:Nat}{s:Option Nat}{v':Value}(h:VR φ (.slice (some ⟨k,o,s⟩) l c) v'):
 ∃e c',φ[k]? = some (some e)/\s=none/\v'= .slice (some ⟨e.r,o,none⟩) l c'/\((c≠eO/\c'=c)\/(c=eO/\l<=c'/\o+c'*e.es<=e.sz)):=by
 cases h with
 | flat _ h=>cases h
 | slice h hc=>exact⟨_,_,h,rfl,rfl,hc⟩
theorem VR.oo {k:Nat}{v':Value}(h:VR φ (.map (some k)) v'):∃e,φ[k]? = some (some e)/\v'= .map (some e.r):=by
 cases h with
 | flat _ h=>cases h
 | map h=>exact⟨_,h,rfl⟩
theorem VR.j9 {t:TypeId}{v v':Value}(h:VR φ (.iface t v) v'):∃u,v'= .iface t u/\VR φ v u:=by
 cases h with
 | flat _ h=>exact⟨v,rfl,.flat v (Bh h)⟩
 | iface h=>exact⟨_,rfl,h⟩
theorem VR.mI {c:Array Value}{v':Value}(h:VR φ (.agg c) v'):∃c',v'= .agg c'/\LR φ c.toList c'.toList:=by
 cases h with
 | flat _ h=>exact⟨c,rfl,.of_flat (flat_agg h)⟩
 | agg hl h=>exact⟨_,rfl,hl,h⟩
theorem VR.uK {c:Array Value}{v':Value}(h:VR φ (.tuple c) v'):∃c',v'= .tuple c'/\LR φ c.toList c'.toList:=by
 cases h with
 | flat _ h=>exact⟨c,rfl,.of_flat (Bi h)⟩
 | tuple hl h=>exact⟨_,rfl,hl,h⟩
theorem VR.HO {fn:FuncId}{c:List Value}{v':Value}(h:VR φ (.func (.func fn) ⟨[]⟩ ⟨c⟩) v'):∃c',v'= .func (.func fn) #[] ⟨c'⟩/\LR φ c c':=by
 cases h with
 | flat _ h=>
   have h1:c=[]:=by
    have h0:((⟨[]⟩:Array Value).toList.isEmpty&&(⟨c⟩:Array Value).toList.isEmpty)=true:=h;simpa using h0
   subst h1;exact⟨[],rfl,.nil⟩
 | func hl h=>exact⟨_,rfl,hl,h⟩
theorem VR.jA {s:Nat}{es:List Value}{v':Value}(h:VR φ (aM s es) v'):(es=[]/\(v'= .slice none 0 0\/∃(a:Addr) (c':Nat),v'= .slice (some a) 0 c'))\/∃(k o c':Nat) (e:iz) (c:Array Value),φ[k]? = some (some e)/\e.fz=some c/\
 (∀x∈es,x.cells.toList.length=s)/\(es≠[]->o+es.length*s<=c.size)/\es.length<=c'/\
 (∀(i j:Nat) (x v v':Value),es[i]? = some x->x.cells.toList[j]? = some v->c[o+i*s+j]? = some v'->VR φ v v')/\v'= .slice (some ⟨e.r,o,none⟩) es.length c':=by
 generalize hr:aM s es=r at h;cases h with
 | flat _ h=>subst hr;exact absurd h (by simp[aM,Ev.flat,jw])
 | uh s'=>unfold aM at hr;injection hr with h1 h2;injection h2 with h2;exact .inl ⟨h2,.inl rfl⟩
 | sn s' a c'=>unfold aM at hr;injection hr with h1 h2;injection h2 with h2;exact .inl ⟨h2,.inr ⟨a,c',rfl⟩⟩
 | row h hf hs hn hc hx=>
   unfold aM at hr;injection hr with h1 h2;injection h1 with h1;injection h2 with h2
   subst h1 h2;exact .inr ⟨_,_,_,_,_,h,hf,hs,hn,hc,hx,rfl⟩
 | ep _ _ _ _=>unfold aM at hr;injection hr with h1 h2 h3;injection h3 with h3;injection h3 with h3;cases h3
 | func _ _=>unfold aM at hr;injection hr with h1;cases h1
 | _=>cases hr
theorem VR.so {f:Nat}{u:Value}{v':Value}(h:VR φ (.func (.yield f) ⟨[u]⟩ ⟨[.nilIface]⟩) v'):∃(k o:Nat) (e:iz) (c:Array Value),φ[k]? = some (some e)/\e.fz=some c/\o+u.cells.toList.length<=c.size/\
 (∀(j:Nat) (v v':Value),u.cells.toList[j]? = some v->c[o+j]? = some v'->VR φ v v')/\v'= .pointer (some ⟨e.r,o,none⟩):=by
 generalize hr:Value.func (.yield f) ⟨[u]⟩ ⟨[.nilIface]⟩=r at h;cases h with
 | flat _ h=>subst hr;exact absurd h (by simp[Ev.flat,jw])
 | uh s'=>unfold aM at hr;injection hr with h1 h2 h3;injection h3 with h3;injection h3 with h3;cases h3
 | sn s' a c'=>unfold aM at hr;injection hr with h1 h2 h3;injection h3 with h3;injection h3 with h3;cases h3
 | row _ _ _ _ _ _=>unfold aM at hr;injection hr with h1 h2 h3;injection h3 with h3;injection h3 with h3;cases h3
 | ep h hf hn hx=>
   injection hr with h1 h2;injection h2 with h2;injection h2 with h2
   subst h2;exact⟨_,_,_,_,h,hf,hn,hx,rfl⟩
 | func _ _=>injection hr with h1;cases h1
 | _=>cases hr
theorem LR.agg {l l':List Value}(h:LR φ l l'):VR φ (.agg ⟨l⟩) (.agg ⟨l'⟩):= .agg h.len h.at_
theorem LR.tuple {l l':List Value}(h:LR φ l l'):VR φ (.tuple ⟨l⟩) (.tuple ⟨l'⟩):= .tuple h.len h.at_
theorem VR.aj {v v':Value}(h:VR φ v v')(hv:Ev.aj v=true):v'.oneCell'=true:=by
 cases h with
 | flat _ _=>cases v<;>first | rfl | cases hv
 | agg _ _=>cases hv
 | tuple _ _=>cases hv
 | _=>rfl
theorem VR.cells {v v':Value}(h:VR φ v v'):LR φ v.cells.toList v'.cells.toList:=by
 cases h with
 | agg hl h=>exact⟨hl,h⟩
 | flat _ h=>
   cases v with
   | agg c=>exact .of_flat (flat_agg h)
   | _=>exact .cons (.flat _ h) .nil
 | uh s=>exact .cons (.uh s) .nil
 | sn s a c=>exact .cons (.sn s a c) .nil
 | row h hf hs hn hc hx=>exact .cons (.row h hf hs hn hc hx) .nil
 | ep h hf hn hx=>exact .cons (.ep h hf hn hx) .nil
 | _=>exact .cons (by constructor<;>assumption) .nil
def hp (H:T OB)(k:Nat):Option OB:=H.get (bits k)
def od (g:Nat->Option OB)(k:Nat)(x:Option OB)(j:Nat):Option OB:=if j=k then x else g j
theorem bw (H:T OB)(k:Nat)(x:Option OB):hp (set H (bits k) x)=od (hp H) k x:=by
 funext j;unfold hp od;rw[get_at]
@[simp] theorem da (g:Nat->Option OB) (k:Nat) (x:Option OB):od g k x k=x:=if_pos rfl
theorem aK (g:Nat->Option OB){k j:Nat}(h:j≠k)(x:Option OB):od g k x j=g j:=if_neg h
structure Y5 (φ:cK)(e e':MapEntry):Prop where
 key:VR φ e.key e'.key
 val:VR φ e.val e'.val
 born:e'.born=e.born
inductive qv (φ:cK):List MapEntry->List MapEntry->Prop
 | nil:qv φ [] []
 | cons {e e':MapEntry} {l l':List MapEntry} (h:Y5 φ e e') (hl:qv φ l l'):qv φ (e::l) (e'::l')
theorem qv.mono {φ ψ:cK}(hle:φ.le ψ){l l':List MapEntry}(h:qv φ l l'):qv ψ l l':=by
 induction h with
 | nil=>exact .nil
 | cons h _ ih=>exact .cons ⟨h.key.mono hle,h.val.mono hle,h.born⟩ ih
def vY (φ:cK)(c:Array Value)(n:Nat)(t:T Value):Prop:=∀i,i<n->∀v,t.get (bits i)=some v->∃v',c[i]? = some v'/\VR φ v v'
theorem vY.mono {φ ψ:cK}(hle:φ.le ψ){c:Array Value}{n:Nat}{t:T Value}(h:vY φ c n t):vY ψ c n t:=
 λi hi v hv=>let⟨v',a,b⟩:=h i hi v hv;⟨v',a,b.mono hle⟩
def Bj (φ:cK)(m m':Option Nat):Prop:=match m,m' with
 | none,none=>True
 | some k,some r=>∃e,φ[k]? = some (some e)/\e.r=r
 | _,_=>False
theorem Bj.mono {φ ψ:cK}(hle:φ.le ψ){m m':Option Nat}(h:Bj φ m m'):Bj ψ m m':=by
 cases m<;>cases m'<;>first | exact h | (obtain⟨e,a,b⟩:=h;exact⟨e,hle _ _ a,b⟩)
def live:OB->Bool
 | .dead=>false
 | .ro _ _=>false
 | _=>true
def zx (P:Program)(W:World)(φ:cK)(ob:OB)(e:iz)(w:World):Prop:=match ob with
 | .cells n t el=>W.heap.size<=e.r/\(∃c el',w.heap[e.r]? = some (.cells c el' (0,0))/\c.size=e.sz/\n<=e.sz/\vY φ c n t)/\∀z,aN P el=some z->e.es=z
 | .ro n t=>(e.r<W.heap.size/\∃c el' fz,W.heap[e.r]? = some (.cells c el' fz)/\n<=c.size/\vY φ c n t)\/∃(k:Nat) (e':iz) (c:Array Value),φ[k]? = some (some e')/\e'.r=e.r/\e'.fz=some c/\n<=c.size/\vY φ c n t
 | .dead=>True
 | .map es c=>W.heap.size<=e.r/\∃es',w.heap[e.r]? = some (.map es' c)/\qv φ es es'.toList
 | .iter m since seen last=>W.heap.size<=e.r/\∃m' seen',w.heap[e.r]? = some (.mapIter m' since seen' last)/\seen'.toList=seen/\Bj φ m m'
theorem zx.mono {P:Program}{W:World}{φ ψ:cK}(hle:φ.le ψ){ob:OB}{e:iz}{w:World}(h:zx P W φ ob e w):zx P W ψ ob e w:=by
 cases ob with
 | cells n t el=>obtain⟨h1,⟨c,el',h2,h3,h4,h5⟩,h6⟩:=h;exact⟨h1,⟨c,el',h2,h3,h4,h5.mono hle⟩,h6⟩
 | ro n t=>
   rcases h with⟨h1,c,el',fz,h2,h3,h4⟩ | ⟨k,e',c,h1,h2,h3,h4,h5⟩
   . exact .inl ⟨h1,c,el',fz,h2,h3,h4.mono hle⟩
   . exact .inr ⟨k,e',c,hle _ _ h1,h2,h3,h4,h5.mono hle⟩
 | dead=>trivial
 | map es c=>obtain⟨h1,es',h2,h3⟩:=h;exact⟨h1,es',h2,h3.mono hle⟩
 | iter m since seen last=>obtain⟨h1,m',seen',h2,h3,h4⟩:=h;exact⟨h1,m',seen',h2,h3,h4.mono hle⟩
theorem zx.heap {P:Program}{W:World}{φ:cK}{ob:OB}{e:iz}{w w':World}(hw:live ob=true->w'.heap[e.r]? = w.heap[e.r]?)(h:zx P W φ ob e w):zx P W φ ob e w':=by
 cases ob with
 | cells n t el=>obtain⟨h1,⟨c,el',h2,h3,h4,h5⟩,h6⟩:=h;exact⟨h1,⟨c,el',by rw[hw rfl];exact h2,h3,h4,h5⟩,h6⟩
 | ro n t=>exact h
 | dead=>trivial
 | map es c=>obtain⟨h1,es',h2,h3⟩:=h;exact⟨h1,es',by rw[hw rfl];exact h2,h3⟩
 | iter m since seen last=>obtain⟨h1,m',seen',h2,h3,h4⟩:=h;exact⟨h1,m',seen',by rw[hw rfl];exact h2,h3,h4⟩
theorem zx.U4 {P:Program}{W:World}{φ:cK}{ob:OB}{e:iz}{w:World}(hl:live ob=true)(h:zx P W φ ob e w):W.heap.size<=e.r:=by
 cases ob with
 | ro n t=>cases hl
 | dead=>cases hl
 | _=>exact h.1
structure HR (P:Program)(W:World)(φ:cK)(g:Nat->Option OB)(w:World):Prop where
 below:Below W.heap.size W w
 qw:∀(k:Nat) (ob:OB),g k=some ob->k<φ.length
 pc:∀(k:Nat) (e:iz),φ[k]? = some (some e)->e.r<w.heap.size
 inj:∀(k k':Nat) (ob ob':OB) (e e':iz),φ[k]? = some (some e)->φ[k']? = some (some e')->g k=some ob->g k'=some ob'->live ob=true->live ob'=true->e.r=e'.r->k=k'
 obj:∀(k:Nat) (ob:OB) (e:iz),g k=some ob->φ[k]? = some (some e)->zx P W φ ob e w
 gl:∀(k:Nat),k<P.globals.size->∃e:iz,φ[k]? = some (some e)/\e.r=k
 ng:∀(k:Nat) (e:iz) (c:Array Value),φ[k]? = some (some e)->e.fz=some c->∃el fz,w.heap[e.r]? = some (.cells c el fz)
 sq:∀(k k':Nat) (e e':iz) (c:Array Value) (ob:OB),φ[k]? = some (some e)->e.fz=some c->φ[k']? = some (some e')->g k'=some ob->live ob=true->e'.r≠e.r
theorem HR.row {P:Program}{W:World}{φ:cK}{g:Nat->Option OB}{w:World}(hH:HR P W φ g w){k n:Nat}{t:T Value}{e:iz}
 (hg:(∃el,g k=some (.cells n t el))\/g k=some (.ro n t)) (hk:φ[k]? = some (some e)):∃c el' fz,w.heap[e.r]? = some (.cells c el' fz)/\n<=c.size/\vY φ c n t:=by
 rcases hg with⟨el,hg⟩ | hg
 . obtain⟨_,⟨c,el',h2,h3,h4,h5⟩,_⟩:=hH.obj k _ e hg hk;exact⟨c,el',(0,0),h2,by omega,h5⟩
 . rcases hH.obj k _ e hg hk with⟨h1,c,el',fz,h2,h3,h4⟩ | ⟨k',e',c,h1,h2,h3,h4,h5⟩
   . exact⟨c,el',fz,by rw[hH.below.block e.r h1];exact h2,h3,h4⟩
   . obtain⟨el',fz,h6⟩:=hH.ng k' e' c h1 h3;exact⟨c,el',fz,by rw[<- h2];exact h6,h4,h5⟩
theorem HR.cells {P:Program}{W:World}{φ:cK}{g:Nat->Option OB}{w:World}(hH:HR P W φ g w){k n:Nat}{t:T Value}{el:TypeId}{e:iz}
 (hg:g k=some (.cells n t el)) (hk:φ[k]? = some (some e)):∃c el',w.heap[e.r]? = some (.cells c el' (0,0))/\c.size=e.sz/\n<=e.sz/\vY φ c n t:=
 (hH.obj k _ e hg hk).2.1
theorem HR.es {P:Program}{W:World}{φ:cK}{g:Nat->Option OB}{w:World}(hH:HR P W φ g w){k n:Nat}{t:T Value}{el:TypeId}{e:iz}
 (hg:g k=some (.cells n t el)) (hk:φ[k]? = some (some e)):∀z,aN P el=some z->e.es=z:=(hH.obj k _ e hg hk).2.2
theorem dH (b off i:Nat):(⟨b,off,none⟩:Addr).add i=⟨b,off+i,none⟩:=by
 unfold Addr.add;split
 . rename_i h;subst h;rfl
 . rfl
end
end
end Go.Ev
namespace Go.Ev
noncomputable section
set_option maxRecDepth 100000
set_option linter.unusedVariables false
set_option linter.unusedSimpArgs false
section
variable {P:Program}{W w:World}{φ:cK}{H:T OB}{tm:T Value}{ρ:Operand->Value}
theorem qy {α:Type}(P:Program):∀(s:Sem α) (a:α),cb P s=some a->∀w,s.run P w= .ok a w:=by
 intro s
 induction s with
 | pure a=>intro b h w;cases h;rfl
 | program k ih=>intro b h w;exact ih P b h w
 | mark m k ih=>intro b h w;exact ih b h w
 | _=>intro b h;cases h
def pe (P:Program)(φ:cK)(tm:T Value)(ρ:Operand->Value)(l:List Operand):Prop:=∀x∈l,∀v,bq P tm x=some v->VR φ v (ρ x)
theorem uL {r:Option Next}{v:Value}(h:rP r=some v):r=some (.value v)/\flat v=true:=by
 unfold rP at h;split at h
 . rw[kR]at h;obtain⟨h1,h2⟩:=aH h;cases h2;exact⟨rfl,h1⟩
 . cases h
theorem sr {s:Sem Value}{v:Value}(h:fV P s=some v):flat v=true/\∀w,s.run P w= .ok v w:=by
 unfold fV at h;obtain⟨h3,h4⟩:=uL h;refine⟨h4,λw=> ?_⟩;have h5:=qy P _ _ h3 w;unfold vS at h5;rw[Sem.run_bind]at h5;cases hr:s.run P w with
 | ok u w'=>rw[hr]at h5;injection h5 with h6 h7;injection h6 with h6;rw[h6,h7]
 | _=>rw[hr]at h5;cases h5
theorem fo {a b:Nat}(h:Nat.blt a b=true):a<b:=Nat.le_of_ble_eq_true h
theorem db {a b:Nat}(h:Nat.ble a b=true):a<=b:=Nat.le_of_ble_eq_true h
theorem beq_eq {a b:Nat}(h:Nat.beq a b=true):a=b:=Nat.eq_of_beq_eq_true h
theorem ct {t:TypeId}{s:Nat}(h:aN P t=some s)(w:World):(sizeOf t).run P w= .ok s w:=by
 unfold aN at h;split at h
 . rename_i i hi;cases h;simp[sizeOf,typeInfo,hi]
 . cases h
theorem a_ {t:TypeId}{d:TypeDesc}(h:P.underlying t=some d)(w:World):(underlying t).run P w= .ok d w:=run_underlying h w
theorem gp {t:TypeId}{b:Bool}(h:dG P t=some b)(w:World):(isAgg t).run P w= .ok b w:=by
 unfold dG at h;unfold isAgg;split at h
 . rename_i fs hd;cases h;simp[a_ hd]
 . rename_i n e hd;cases h;simp[a_ hd]
 . rename_i d hn1 hn2 hd;cases h;rw[Sem.run_bind,a_ hd,Result.andThen_ok];split
   . rename_i fs;exact absurd rfl (hn1 fs)
   . rename_i n e;exact absurd rfl (hn2 n e)
   . rfl
 . cases h
theorem nC {c:Array Value}{n:Nat}{t:T Value}(hc:vY φ c n t)
 {s off:Nat} {l:List Value} (hl:qS t s off=some l) (hn:off+s<=n) (lX:n<=c.size):LR φ l ((c.toList.drop off).take s)/\l.length=s:=by
 obtain⟨h1,h2⟩:=sf t s off l hl;have hlen:((c.toList.drop off).take s).length=s:=by simp;omega
 refine⟨⟨by rw[h1,hlen],λi v v' hv hv'=> ?_⟩,h1⟩;have hi:i<s:=by have:=(List.getElem?_eq_some_iff.1 hv).1;omega
 have h3:=h2 i hi;rw[hv]at h3;obtain⟨u,h5,h6⟩:=hc (off+i) (by omega) v h3;rw[List.getElem?_take,if_pos hi,List.getElem?_drop,Array.getElem?_toList,h5]at hv';cases hv';exact h6
theorem ri {c:Array Value}{r off s:Nat}{el:TypeId}{fz:Nat×Nat}{w:World}(hr:w.heap[r]? = some (.cells c el fz))(hs:off+s<=c.size):
 (loadCells ⟨r,off,none⟩ s).run P w= .ok ((c.toList.drop off).take s).toArray w:=by
 have hlen:((c.toList.drop off).take s).length=s:=by simp;omega
 have:=run_loadCells_list (P:=P) w ⟨r,off,none⟩ ((c.toList.drop off).take s) (λj v hv=>by
  rw[dH,cell_of_row w r (off+j) c el fz hr];rw[List.getElem?_take]at hv;split at hv
  . rw[List.getElem?_drop]at hv;simpa using hv
  . cases hv)
 rwa[hlen]at this
theorem zy (hH:HR P W φ (hp H) w){t:TypeId}{b off:Nat}{v:Value}{e:iz}(hb:φ[b]? = some (some e))(h:ly P H t b off=some v):
 ∃v',VR φ v v'/\(loadVar t ⟨e.r,off,none⟩).run P w= .ok v' w:=by
 unfold ly at h;obtain⟨n,tr,h1,h2⟩:=sk h;obtain⟨c,el',fz,hr,hn,hc⟩:=hH.row h1 hb;unfold lP at h2;obtain⟨a,ha,h3⟩:=ar h2;unfold loadVar;rw[Sem.run_bind,gp ha,Result.andThen_ok];cases a with
 | true=>
   have h3':rO P n tr t off=some v:=h3;unfold rO at h3';obtain⟨s,hs,h4⟩:=ar h3';obtain⟨hle,h5⟩:=aH h4;obtain⟨l,hl,h6⟩:=ar h5;cases h6;have hle':off+s<=n:=Nat.le_of_ble_eq_true hle;obtain⟨h7,h8⟩:=nC hc hl hle' (by omega);refine⟨_,h7.agg,?_⟩;simp only[if_true,Sem.run_bind,ct hs,Result.andThen_ok,ri hr (show off+s<=c.size by omega)];rfl
 | false=>
   have h3':rN n tr off=some v:=h3;unfold rN at h3';obtain⟨hlt,h4⟩:=aH h3';obtain⟨v',h5,h6⟩:=hc off (fo hlt) v h4;refine⟨v',h6,?_⟩;simp only[Bool.false_eq_true,if_false,run_load,cell_of_row w e.r off c el' fz hr,h5]
section ops
variable {o:Oper}
theorem ot (hH:HR P W φ (hp H) w){t:TypeId}{xv:Option Value}{y:Value}(hE:∀v,xv=some v->VR φ v y){v:Value}(h:ai P H t xv=some v):
 ∃v' a,y= .pointer (some a)/\VR φ v v'/\(loadVar t a).run P w= .ok v' w:=by
 unfold ai at h;split at h
 . obtain⟨e,h3,_,h4⟩:=(hE _ rfl).e_;obtain⟨v',h5,h6⟩:=zy hH h3 h;exact⟨v',_,h4,h5,h6⟩
 . obtain⟨f,u,rfl,h⟩:=vX h;obtain⟨k,o,e,c,h1,h2,h3,h4,h5⟩:=(hE _ rfl).so;unfold uc at h;obtain⟨a,ha,h⟩:=ar h;obtain⟨s,hs,h⟩:=ar h;obtain⟨hq,h⟩:=aH h;cases h;simp only[Bool.and_eq_true]at hq;have hl:=beq_eq hq.2;obtain⟨el,fz,hr⟩:=hH.ng k e c h1 h2;have hag:=hq.1;cases a with
   | true=>
     have hag:nw v=true:=hag;cases v with
     | agg cs=>
       have hl:cs.toList.length=s:=hl;have h3':o+s<=c.size:=by
        have h3:o+cs.toList.length<=c.size:=h3;omega
       refine⟨.agg ⟨(c.toList.drop o).take s⟩,_,h5,?_,?_⟩
       . have:VR φ (.agg ⟨cs.toList⟩) (.agg ⟨(c.toList.drop o).take s⟩):=LR.agg ⟨by simp only[List.length_take,List.length_drop,Array.length_toList];simp only[Array.length_toList]at hl;omega,λj a b ha' hb'=>by
          rw[List.getElem?_take]at hb';split at hb'
          . rw[List.getElem?_drop,Array.getElem?_toList]at hb';exact h4 j a b ha' hb'
          . cases hb'⟩
         exact this
       . unfold loadVar;rw[Sem.run_bind,gp ha,Result.andThen_ok];simp only[if_true,Sem.run_bind,ct hs,Result.andThen_ok,ri hr h3'];rfl
     | _=>cases hag
   | false=>
     have hag:(!nw v)=true:=hag;have hcell:v.cells.toList=[v]:=by
      cases v with
      | agg cs=>cases hag
      | _=>rfl
     rw[hcell]at h3 h4;have hlt:o<c.size:=by
      have h3:o+1<=c.size:=h3;omega
     refine⟨c[o],_,h5,h4 0 v c[o] rfl (by simp[hlt]),?_⟩;unfold loadVar;rw[Sem.run_bind,gp ha,Result.andThen_ok];simp only[Bool.false_eq_true,if_false,run_load,cell_of_row w e.r o c el fz hr,Array.getElem?_eq_getElem hlt]
 . cases h
theorem My (hH:HR P W φ (hp H) w){t:TypeId}{x:Operand}(ho:o.op= .load t x)(hE:∀v,bq P tm x=some v->VR φ v (ρ x)){v:Value}
 (h:ai P H t (bq P tm x)=some v):∃v',VR φ v v'/\(execOp ρ o).run P w= .ok (.value v') w:=by
 obtain⟨v',a,h4,h5,h6⟩:=ot hH hE h;exact⟨v',h5,by simp[execOp,ho,h4,Instr.loadAt,Instr.sureAddr,h6]⟩
theorem CV {x:Operand}(ho:o.op= .move x\/o.op= .assign x)(hE:∀v,bq P tm x=some v->VR φ v (ρ x)){v:Value}
 (h:bq P tm x=some v) (w:World):∃v',VR φ v v'/\(execOp ρ o).run P w= .ok (.value v') w:=
 ⟨ρ x,hE v h,by rcases ho with ho | ho<;>simp[execOp,ho]⟩
theorem Mz {c a b:Operand}(ho:o.op= .pick c a b)(hE:∀x∈[c,a,b],∀v,bq P tm x=some v->VR φ v (ρ x)){v:Value}
 (h:rR (bq P tm c) (bq P tm a) (bq P tm b)=some v) (w:World):∃v',VR φ v v'/\(execOp ρ o).run P w= .ok (.value v') w:=by
 unfold rR at h;split at h
 . rename_i x hx;have hc:=(hE c (by simp) _ hx).al rfl;cases x with
   | true=>exact⟨ρ a,hE a (by simp) v h,by simp[execOp,ho,hc,asBool]⟩
   | false=>exact⟨ρ b,hE b (by simp) v h,by simp[execOp,ho,hc,asBool]⟩
 . cases h
theorem Q_ {x:Operand}(ho:o.op= .nilCheck x)(hE:∀v,bq P tm x=some v->VR φ v (ρ x)){v:Value}
 (h:oe (bq P tm x)=some v) (w:World):∃v',VR φ v v'/\(execOp ρ o).run P w= .ok (.value v') w:=by
 unfold oe at h;split at h
 . rename_i a ha;cases h;obtain⟨k,off,s⟩:=a;have h1:=hE _ ha;obtain⟨e,h3,h5,h4⟩:=h1.e_;exact⟨ρ x,h1,by simp[execOp,ho,h4]⟩
 . rename_i g a b ha;cases h;have h1:=hE _ ha;cases h2:ρ x with
   | func fn a' b'=>
     rw[h2]at h1;have hfn:fn= .func g:=by cases h1<;>rfl
     subst hfn;exact⟨_,h1,by simp[execOp,ho,h2]⟩
   | _=>rw[h2]at h1;cases h1
 . rename_i t u ha;cases h;have h1:=hE _ ha;obtain⟨u',h2,h3⟩:=h1.j9;exact⟨ρ x,h1,by simp[execOp,ho,h2]⟩
 . rename_i u _ _ _ ha;obtain⟨f,y,rfl,h⟩:=vX h;cases h;have h1:=hE _ ha;obtain⟨k,o,e,c,_,_,_,_,h5⟩:=h1.so;exact⟨ρ x,h1,by simp[execOp,ho,h5]⟩
 . cases h
theorem ou {s:TypeId}{f d:Nat}(h:rS P s f=some d):
 ∃fs fd z,P.underlying s=some (.struct fs)/\fs[f]? = some fd/\aN P fd.type=some (z+1)/\d=fd.offset:=by
 unfold rS at h;split at h
 . rename_i fs hfs;split at h
   . rename_i fd hfd;split at h
     . rename_i z hz;cases h;exact⟨fs,fd,z,hfs,hfd,hz,rfl⟩
     . cases h
   . cases h
 . cases h
theorem qz {t:TypeId}{f:Nat}{q:Nat×Option Nat}(h:mF P t f=some q):∃fs fd,P.underlying t=some (.struct fs)/\fs[f]? = some fd/\q.1=fd.offset/\
 ((q.2=none/\dG P fd.type=some false)\/∃s,q.2=some s/\dG P fd.type=some true/\aN P fd.type=some s):=by
 unfold mF at h;split at h
 . rename_i fs hfs;split at h
   . rename_i fd hfd;refine⟨fs,fd,hfs,hfd,?_⟩;split at h
     . rename_i ha;split at h
       . rename_i s hs;cases h;exact⟨rfl,.inr ⟨s,rfl,ha,hs⟩⟩
       . cases h
     . rename_i ha;cases h;exact⟨rfl,.inl ⟨rfl,ha⟩⟩
     . cases h
   . cases h
 . cases h
theorem vZ {s:TypeId}{x:Operand}{f:Nat}(ho:o.op= .fieldAddr s x f)(hE:∀v,bq P tm x=some v->VR φ v (ρ x)){v:Value}
 (h:ae P s (bq P tm x) f=some v) (w:World):∃v',VR φ v v'/\(execOp ρ o).run P w= .ok (.value v') w:=by
 unfold ae at h;obtain⟨y,hy,h⟩:=ar h;have hV:=hE y hy;unfold Y1 at h;split at h
 . obtain⟨d,hd,h3⟩:=ar h;rw[aP]at h3;cases h3;obtain⟨fs,fd,z,hu,hf,hz,rfl⟩:=ou hd;obtain⟨e,h3,_,h4⟩:=hV.e_;refine⟨_,VR.ptr h3,?_⟩;simp[execOp,ho,h4,Instr.fieldAt,Instr.sureAddr,a_ hu,hf,fieldPlace,ct hz,dH]
 . obtain⟨g,u,rfl,h⟩:=vX h;obtain⟨d,hd,h⟩:=ar h;split at h
   . obtain⟨x',hx',hv'⟩:=ar h;cases hv';clear h;obtain⟨fs,fd,z,hu,hf,hz,rfl⟩:=ou hd;obtain⟨k,o',e,c,h1,h2,h3,h4,h5⟩:=hV.so;clear hV hy hE;rename_i cs _ _ _;have h3:o'+cs.length<=c.size:=h3;have h4:∀(j:Nat) (v v':Value),cs[j]? = some v->c[o'+j]? = some v'->VR φ v v':=h4;have hrun:(execOp ρ o).run P w= .ok (.value (.pointer (some ⟨e.r,o'+fd.offset,none⟩))) w:=by
      simp[execOp,ho,h5,Instr.fieldAt,Instr.sureAddr,a_ hu,hf,fieldPlace,ct hz,dH]
     refine⟨_,?_,hrun⟩;cases hfi:mF P s f with
     | none=>rw[hfi]at hx';cases hx'
     | some q=>
       rw[hfi]at hx';obtain⟨fs',fd',hu',hf',hq1,hq2⟩:=qz hfi;rw[hu]at hu';cases hu';rw[hf]at hf';cases hf';obtain⟨qo,qs⟩:=q;have hq1:qo=fd.offset:=hq1;subst hq1;rcases hq2 with⟨hq,_⟩ | ⟨s',hq,_,_⟩
       . have hq:qs=none:=hq;subst hq;obtain⟨x1,hx',hone⟩:=ar (show af cs[fd.offset]? (λv=>bif aj v then some v else none) none=some x' from hx');obtain⟨hone,hx1⟩:=aH hone;cases hx1;have hlt:=(List.getElem?_eq_some_iff.1 hx').1;have hcell:x'.cells.toList=[x']:=by cases x'<;>first | rfl | cases hone
         refine .ep h1 h2 (by rw[hcell];show o'+fd.offset+1<=c.size;omega) λj a b ha hb=> ?_;rw[hcell]at ha;cases j with
         | zero=>cases ha;exact h4 fd.offset x' b hx' hb
         | succ j=>simp at ha
       . have hq:qs=some s':=hq;subst hq;obtain⟨hle,hx'⟩:=aH (show(bif Nat.ble (fd.offset+s') cs.length then some (Value.agg ⟨(cs.drop fd.offset).take s'⟩)else none)=some x' from hx');cases hx';have hle:=db hle;refine .ep h1 h2 ?_ λj a b ha hb=> ?_
         . show o'+fd.offset+((cs.drop fd.offset).take s').length<=c.size;simp only[List.length_take,List.length_drop];omega
         . have ha:((cs.drop fd.offset).take s')[j]? = some a:=ha;rw[List.getElem?_take]at ha;split at ha
           . rw[List.getElem?_drop]at ha;exact h4 (fd.offset+j) a b ha (by rw[<- Nat.add_assoc];exact hb)
           . cases ha
   . cases h
theorem uM {β:Type}{t:TypeId}{k:Nat->Nat->Option β}{y:β}(h:m_ P t k none=some y):
 ∃len e s,P.underlying t=some (.array len e)/\aN P e=some s/\k len s=some y:=by
 unfold m_ at h;split at h
 . rename_i len e he;obtain⟨s,h1,h2⟩:=ar h;exact⟨len,e,s,he,h1,h2⟩
 . cases h
theorem ov {t:TypeId}{s:Nat}(h:pf P t=some s):∃e,P.underlying t=some (.slice e)/\aN P e=some s:=by
 unfold pf at h;obtain⟨e,s',hu,hs,h⟩:=zv h;cases h;exact⟨e,hu,hs⟩
theorem v5 {t:TypeId}{x ix:Operand}(ho:o.op= .indexAddr t x ix)(hE:∀y∈[x,ix],∀v,bq P tm y=some v->VR φ v (ρ y)){v:Value}
 (h:bc P t (bq P tm x) (bq P tm ix)=some v) (w:World):∃v',VR φ v v'/\(execOp ρ o).run P w= .ok (.value v') w:=by
 unfold bc at h;split at h
 case h_2=>cases h
 rename_i k i0 hi;obtain⟨i,rfl,hh⟩:=uJ h;clear h;have h:=hh;clear hh;have h7:=(hE ix (by simp) _ hi).al rfl;unfold HC at h;split at h
 . rename_i b off len cp hx;obtain⟨s,hq,h3⟩:=ar h;obtain⟨e,hu,hs⟩:=ov hq;obtain⟨hlt,h4⟩:=aH h3;rw[aP]at h4;cases h4;have hlt':i<len:=fo hlt;obtain⟨en,c',h5,_,h6,_⟩:=(hE x (by simp) _ hx).fH;refine⟨_,.ptr (o:=off+i*s) h5,?_⟩;simp[execOp,ho,h6,h7,Instr.indexAt,asIntOf,a_ hu,ct hs,dH,hlt']
 . rename_i b off hx;obtain⟨len,e,s,hu,hs,h3⟩:=uM h;obtain⟨hlt,h4⟩:=aH h3;rw[aP]at h4;cases h4;have hlt':i<len:=fo hlt;obtain⟨en,h5,_,h6⟩:=(hE x (by simp) _ hx).e_;refine⟨_,.ptr (o:=off+i*s) h5,?_⟩;simp[execOp,ho,h6,h7,Instr.indexAt,Instr.sureAddr,asIntOf,a_ hu,ct hs,dH,hlt']
 . rename_i y _ _ hx;obtain⟨s,es,rfl,h⟩:=j8 h;unfold Mm at h;obtain⟨z,hq,h3⟩:=ar h;obtain⟨e,hu,hs⟩:=ov hq;obtain⟨hz0,h4⟩:=aH h3;obtain⟨u,hiu,h5⟩:=ar h4;have hz:=beq_eq hz0;subst hz;cases h5;clear h h3 h4;have hlt:i<es.length:=(List.getElem?_eq_some_iff.1 hiu).1;rcases(hE x (by simp) _ hx).jA with⟨rfl,_⟩ | ⟨k',o',c',en,c,h1,h2,h3,h4,h5,h6,h8⟩
   . simp at hlt
   . have hul:=h3 u (List.mem_of_getElem? hiu);refine⟨.pointer (some ⟨en.r,o'+i*s,none⟩),.ep h1 h2 ?_ (λj a b ha hb=>h6 i j u a b hiu ha hb),?_⟩
     . rw[hul];have:=h4 (by intro q;subst q;simp at hlt);have h9:(i+1)*s<=es.length*s:=Nat.mul_le_mul_right s hlt;rw[Nat.succ_mul]at h9;omega
     . simp[execOp,ho,h8,h7,Instr.indexAt,asIntOf,a_ hu,ct hs,dH,hlt]
 . cases h
theorem Bk {x:Operand}{i:Nat}(ho:o.op= .extract x i)(hE:∀v,bq P tm x=some v->VR φ v (ρ x)){v:Value}
 (h:bk (bq P tm x) i=some v) (w:World):∃v',VR φ v v'/\(execOp ρ o).run P w= .ok (.value v') w:=by
 unfold bk at h;split at h
 . rename_i vs hx;obtain⟨c',h1,h2⟩:=(hE _ hx).uK;obtain⟨v',h3,h4⟩:=h2.get h;refine⟨v',h4,?_⟩;have h5:c'[i]? = some v':=by simpa using h3
   simp[execOp,ho,h1,Instr.extract,h5]
 . cases h
theorem HP {t:TypeId}{x:Operand}{f:Nat}(ho:o.op= .field t x f)(hE:∀v,bq P tm x=some v->VR φ v (ρ x)){v:Value}
 (h:rdField P t (bq P tm x) f=some v) (w:World):∃v',VR φ v v'/\(execOp ρ o).run P w= .ok (.value v') w:=by
 unfold rdField at h;split at h
 case h_2=>cases h
 rename_i cs hx;obtain⟨c',h1,h2⟩:=(hE _ hx).mI;have h2:LR φ cs c'.toList:=h2;cases hfi:mF P t f with
 | none=>rw[hfi]at h;cases h
 | some q=>
   rw[hfi]at h;obtain⟨fs,fd,hu,hf,hq1,hq2⟩:=qz hfi;obtain⟨qo,qs⟩:=q;have hq1:qo=fd.offset:=hq1;subst hq1;rcases hq2 with⟨hq,ha⟩ | ⟨s,hq,ha,hs⟩
   . have hq:qs=none:=hq;subst hq;have h:cs[fd.offset]? = some v:=h;obtain⟨v',h3,h4⟩:=h2.get h;have h5:c'[fd.offset]? = some v':=by simpa using h3
     exact⟨v',h4,by simp[execOp,ho,h1,Instr.field,a_ hu,hf,asAgg,part,gp ha,h5]⟩
   . have hq:qs=some s:=hq;subst hq;obtain⟨hle,h3⟩:=aH (show(bif Nat.ble (fd.offset+s) cs.length then some (Value.agg ⟨(cs.drop fd.offset).take s⟩)else none)=some v from h);cases h3;have hle':fd.offset+s<=cs.length:=Nat.le_of_ble_eq_true hle;refine⟨_,((h2.drop fd.offset).take s).agg,?_⟩;have e:(⟨(c'.toList.drop fd.offset).take s⟩:Array Value)=c'.extract fd.offset (fd.offset+s):=by
      apply Array.ext';simp only[Array.toList_extract,List.extract_eq_take_drop];rw[show fd.offset+s-fd.offset=s from by omega]
     rw[e];simp[execOp,ho,h1,Instr.field,a_ hu,hf,asAgg,part,gp ha,ct hs]
theorem iR {x:Option Operand}{d n:Nat}(hx:∀y∈x.toList,∀v,bq P tm y=some v->VR φ v (ρ y))(h:bound (gu P tm x) d=some n):
 (x=none/\n=d)\/∃y k,x=some y/\ρ y= .int k (.ofNat n):=by
 cases x with
 | none=>cases h;exact .inl ⟨rfl,rfl⟩
 | some y=>
   right;cases hv:bq P tm y with
   | none=>
     have:gu P tm (some y)=none:=by simp only[gu,hv]
     rw[this]at h;cases h
   | some v=>
     have:gu P tm (some y)=some (some v):=by simp only[gu,hv]
     rw[this]at h;have h:A5 (some v)=some n:=h;unfold A5 at h;split at h
     . rename_i k i q;cases q;obtain⟨h1,h2⟩:=aH h;cases h2;cases i with
       | ofNat m=>exact⟨y,k,rfl,(hx y (by simp) _ hv).al rfl⟩
       | negSucc m=>cases h1
     . cases h
theorem iW {lo hi:Option Operand}{isS:Bool}{len cap l h:Nat}(nh:(lo=none/\l=0)\/∃y k,lo=some y/\ρ y= .int k (.ofNat l))
 (hhi:(hi=none/\h=len)\/∃y k,hi=some y/\ρ y= .int k (.ofNat h)) (h1:l<=h) (h2:h<=cap) (w:World):
 (Instr.sliceBounds isS len cap (lo.map ρ) (hi.map ρ) none).run P w= .ok (l,h,cap) w:=by
 have e1:(h:Int)<=(cap:Int):=by omega
 have e2:(l:Int)<=(h:Int):=by omega
 rcases nh with⟨rfl,rfl⟩ | ⟨y,k,rfl,hy⟩<;>rcases hhi with⟨rfl,rfl⟩ | ⟨z,j,rfl,hz⟩
 . simp[Instr.sliceBounds]
 . simp[Instr.sliceBounds,hz,Instr.sliceBound,asIntOf,h2]
 . simp[Instr.sliceBounds,hy,Instr.sliceBound,asIntOf,h1]
 . simp[Instr.sliceBounds,hy,hz,Instr.sliceBound,asIntOf,h1,h2]
theorem uN {b off cap s l h r:Nat}{en:iz}{v:Value}(h5:φ[b]? = some (some en))(hr:en.r=r)(hs:iT b off cap s l h=some v):
 l<=h/\h<=cap/\VR φ v (.slice (if cap=l then some ⟨r,off,none⟩else some ⟨r,off+l*s,none⟩) (h-l) (cap-l)):=by
 subst hr;unfold iT at hs;obtain⟨h8,h9⟩:=aH hs;simp only[Bool.and_eq_true]at h8;have h8':=db h8.1.1;have h10:=db h8.1.2;have h11:=fo h8.2;refine⟨h8',h10,?_⟩;rw[aP]at h9;cases hb:Nat.beq cap l with
 | true=>
   rw[hb]at h9;have h9:some (Value.slice (some ⟨b,off,none⟩) (h-l) 0)=some v:=h9;cases h9;have:=beq_eq hb;subst this;rw[if_pos rfl,Nat.sub_self];exact .slice h5 (.inl ⟨by decide,rfl⟩)
 | false=>
   rw[hb]at h9;have h9:bo (Nat.add off (Nat.mul l s)) (λo=>bo (Nat.sub cap l) λc=>some (Value.slice (some ⟨b,o,none⟩) (h-l) c))=some v:=h9;rw[aP,aP]at h9;cases h9;have:cap≠l:=λe=>by rw[e]at hb;exact absurd (Nat.beq_refl l) (by rw[hb];decide)
   rw[if_neg this];exact .slice h5 (.inl ⟨by show cap-l≠eO;omega,rfl⟩)
theorem po {mx:Option Operand}(h:(match gu P tm mx with | some none=>true | _=>false)=true):mx=none:=by
 cases mx with
 | none=>rfl
 | some y=>
   exfalso;unfold gu at h;cases hv:bq P tm y<;>simp only[hv]at h<;>cases h
theorem Bl {mx:Option Operand}{u:Option Value}(hE:∀y∈mx.toList,∀v,bq P tm y=some v->VR φ v (ρ y))(h:gu P tm mx=some u)(hf:CQ u=true):mx.map ρ=u:=by
 cases mx with
 | none=>cases h;rfl
 | some y=>
   unfold gu at h;cases hv:bq P tm y with
   | none=>simp only[hv]at h;cases h
   | some v=>
     simp only[hv]at h;cases h;have hf:flat v=true:=hf;have:=(hE y (by simp) v hv).al hf;show some (ρ y)=some v;rw[this]
theorem HQ (hH:HR P W φ (hp H) w){t:TypeId}{x:Operand}{lo hi mx:Option Operand}(ho:o.op= .slice t x lo hi mx)
 (hE:pe P φ tm ρ o.op.operands.toList) {v:Value}
 (h:bA P H t (bq P tm x) (gu P tm lo) (gu P tm hi) (gu P tm mx)=some v):∃v',VR φ v v'/\(execOp ρ o).run P w= .ok (.value v') w:=by
 have hops:o.op.operands.toList=[x]++lo.toList++hi.toList++mx.toList:=by rw[ho];cases lo<;>cases hi<;>cases mx<;>rfl
 unfold bA at h;split at h
 . rename_i b off len cap hx;obtain⟨hmx,h⟩:=aH h;have hmx:=po hmx;subst hmx;rw[hops]at hE;obtain⟨en,c',h5,_,h6,h7⟩:=(hE x (by simp) _ hx).fH;obtain⟨s,hq,h3⟩:=ar h;obtain⟨e,hu,hs⟩:=ov hq;obtain⟨l,hl,h3⟩:=ar h3;obtain⟨hh,hhi,h3⟩:=ar h3;have nh:=iR (ρ:=ρ) (φ:=φ) (λy hy=>hE y (by simp[hy])) hl;have hhi:=iR (ρ:=ρ) (φ:=φ) (λy hy=>hE y (by simp[hy])) hhi;have fin:l<=hh->hh<=c'->(execOp ρ o).run P w= .ok (.value (.slice (if c'=l then some ⟨en.r,off,none⟩else some ⟨en.r,off+l*s,none⟩) (hh-l) (c'-l))) w:=by
    intro h1 h2;simp only[execOp,ho,h6,Instr.sliceAt,Sem.run_bind,a_ hu,Result.andThen_ok,Instr.slice,Option.map_none,iW (P:=P) nh hhi h1 h2,ct hs,Sem.run_pure]
    by_cases hc:c'=l
    . simp[hc]
    . simp[hc,dH]
   cases hcap:Nat.beq cap eO with
   | false=>
     rw[hcap]at h3;have h3:iT b off cap s l hh=some v:=h3;have hne:cap≠eO:=λe=>by rw[e]at hcap;exact absurd (Nat.beq_refl eO) (by rw[hcap];decide)
     have hc:c'=cap:=by
      rcases h7 with h7 | h7
      . exact h7.2
      . exact absurd h7.1 hne
     subst hc;obtain⟨h8,h9,h10⟩:=uN h5 rfl h3;exact⟨_,h10,fin h8 h9⟩
   | true=>
     rw[hcap]at h3;have h3:pg P H b off len s l hh=some v:=h3;have hcu:=beq_eq hcap;have h7:len<=c'/\off+c'*en.es<=en.sz:=by
      rcases h7 with h7 | h7
      . exact absurd hcu h7.1
      . exact h7.2
     unfold pg at h3;obtain⟨h8,h9⟩:=aH h3;simp only[Bool.and_eq_true]at h8;have h10:=db h8.1;have h11:=db h8.2;rw[fin h10 (by omega)];cases hb:Nat.beq l 0 with
     | true=>
       rw[hb]at h9;have h9:some (Value.slice (some ⟨b,off,none⟩) hh eO)=some v:=h9;cases h9;have:=beq_eq hb;subst this;have e0:(Value.slice (if c'=0 then some ⟨en.r,off,none⟩else some ⟨en.r,off+0*s,none⟩) (hh-0) (c'-0))= .slice (some ⟨en.r,off,none⟩) hh c':=by simp
       rw[e0];exact⟨_,.slice h5 (.inr ⟨rfl,by omega,h7.2⟩),rfl⟩
     | false=>
       rw[hb]at h9;obtain⟨h12,h13⟩:=aH (show(bif Nat.blt l len&&rT P H b s then bo (Nat.sub hh l) (λn=>bo (Nat.add off (Nat.mul l s)) λo=>some (Value.slice (some ⟨b,o,none⟩) n eO))else none)=some v from h9);rw[aP,aP]at h13;cases h13;simp only[Bool.and_eq_true]at h12;have h14:=fo h12.1;have hes:en.es=s:=by
        have h15:=h12.2;unfold rT at h15;cases hg:H.get (bits b)with
        | none=>rw[hg]at h15;cases h15
        | some ob=>
          rw[hg]at h15;cases ob with
          | cells n tr el=>
            have h15:af (aN P el) (λz=>Nat.beq z s) false=true:=h15;cases hz:aN P el with
            | none=>rw[hz]at h15;cases h15
            | some z=>
              rw[hz]at h15;have h15:Nat.beq z s=true:=h15;have:=beq_eq h15;subst this;exact hH.es (show hp H b=some (.cells n tr el)from hg) h5 z hz
          | _=>cases h15
       have:c'≠l:=by omega
       rw[if_neg this];refine⟨_,.slice h5 (.inr ⟨rfl,by show hh-l<=c'-l;omega,?_⟩),rfl⟩;rw[hes]at h7;have e1:(c'-l)*s=c'*s-l*s:=Nat.sub_mul c' l s;have e2:l*s<=c'*s:=Nat.mul_le_mul_right s (by omega);show off+l*s+(c'-l)*en.es<=en.sz;rw[hes,e1];omega
 . rename_i b off hx;obtain⟨hmx,h⟩:=aH h;have hmx:=po hmx;subst hmx;rw[hops]at hE;obtain⟨en,h5,_,h6⟩:=(hE x (by simp) _ hx).e_;obtain⟨n,e,s,hu,hs,h3⟩:=uM h;obtain⟨l,hl,h3⟩:=ar h3;obtain⟨hh,hhi,h3⟩:=ar h3;have nh:=iR (ρ:=ρ) (φ:=φ) (λy hy=>hE y (by simp[hy])) hl;have hhi:=iR (ρ:=ρ) (φ:=φ) (λy hy=>hE y (by simp[hy])) hhi;obtain⟨h8,h9,h10⟩:=uN h5 rfl h3;refine⟨_,h10,?_⟩;simp only[execOp,ho,h6,Instr.sliceAt,Instr.sureAddr,Sem.run_bind,a_ hu,Result.andThen_ok,Option.map_none,iW (P:=P) nh hhi h8 h9,ct hs,Sem.run_pure]
   by_cases hc:n=l
   . simp[hc]
   . simp[hc,dH]
 . rename_i y _ _ hx;cases hr:ph y with
   | true=>
     rw[hr]at h;obtain⟨hmx,h⟩:=aH (show(bif (match gu P tm mx with | some none=>true | _=>false)then ib y (λs es=>af (pf P t) (λz=>bif Nat.beq s z then af (bound (gu P tm lo) 0) (λl=>af (bound (gu P tm hi) es.length) (λh=>UB es s l h) none) none else none) none) none else none)=some v from h);have hmx:=po hmx;subst hmx;rw[hops]at hE;obtain⟨s,es,rfl,h1⟩:=j8 h;obtain⟨z,hq,h2⟩:=ar h1;obtain⟨e,hu,hs⟩:=ov hq;obtain⟨hz0,h3⟩:=aH h2;have hz:=beq_eq hz0;obtain⟨l,hl,h4⟩:=ar h3;obtain⟨hh,hhi,h5⟩:=ar h4;have nh:=iR (ρ:=ρ) (φ:=φ) (λy hy=>hE y (by simp[hy])) hl;have hhi:=iR (ρ:=ρ) (φ:=φ) (λy hy=>hE y (by simp[hy])) hhi;unfold UB at h5;obtain⟨h6,h7⟩:=aH h5;simp only[Bool.and_eq_true]at h6;have h8:=db h6.1;have h9:=db h6.2;cases h7;subst hz;clear h h1 h2 h3 h4 h5;rcases(hE x (by simp) _ hx).jA with⟨rfl,hy | ⟨a,c',hy⟩⟩ | ⟨k',o',c',en,c,h1,h2,h3,h4,h5,h6,hy⟩
     rotate_left
     . have e1:hh=0:=by simpa using h9
       subst e1;have e2:l=0:=by omega
       subst e2;have hhi:(hi=none/\0=0)\/∃y k,hi=some y/\ρ y= .int k (.ofNat 0):=hhi;have fin:(execOp ρ o).run P w= .ok (.value (.slice (if c'=0 then some a else some (a.add (0*s))) 0 c')) w:=by
        simp only[execOp,ho,hy,Instr.sliceAt,Sem.run_bind,a_ hu,Result.andThen_ok,Instr.slice,Option.map_none,iW (P:=P) nh hhi (Nat.le_refl 0) (show 0<=c' by omega),ct hs,Sem.run_pure]
        by_cases hc:c'=0
        . simp[hc]
        . simp[hc]
       rw[fin];refine⟨_,?_,rfl⟩;split
       . exact .sn s _ _
       . exact .sn s _ _
     rotate_left
     . have e1:hh=0:=by simpa using h9
       subst e1;have e2:l=0:=by omega
       subst e2;refine⟨.slice none 0 0,.uh s,?_⟩;have hhi:(hi=none/\0=0)\/∃y k,hi=some y/\ρ y= .int k (.ofNat 0):=hhi;simp only[execOp,ho,hy,Instr.sliceAt,Sem.run_bind,a_ hu,Result.andThen_ok,Instr.slice,Option.map_none,iW (P:=P) (isS:=true) nh hhi (Nat.le_refl 0) (Nat.le_refl 0),ct hs,Sem.run_pure];rfl
     . have hlen:((es.drop l).take (hh-l)).length=hh-l:=by simp only[List.length_take,List.length_drop];omega
       have key:∀o2,(o2=o'+l*s\/(es.drop l).take (hh-l)=[])->VR φ (aM s ((es.drop l).take (hh-l))) (.slice (some ⟨en.r,o2,none⟩) (hh-l) (c'-l)):=by
        intro o2 ho2;have h9':VR φ (aM s ((es.drop l).take (hh-l))) (.slice (some ⟨en.r,o2,none⟩) ((es.drop l).take (hh-l)).length (c'-l)):=by
         refine .row h1 h2 (λx hx=>h3 x (List.mem_of_mem_drop (List.mem_of_mem_take hx))) (λhne=> ?_) (by rw[hlen];omega) (λi j x a b hi ha hb=> ?_)
         . rcases ho2 with rfl | q
           . rw[hlen];have h10:=h4 (λq=>hne (by rw[q];simp));have h11:hh*s<=es.length*s:=Nat.mul_le_mul_right s h9;have h12:(hh-l)*s=hh*s-l*s:=Nat.sub_mul hh l s;have h13:l*s<=hh*s:=Nat.mul_le_mul_right s h8;rw[h12];omega
           . exact absurd q hne
         . rcases ho2 with rfl | q
           . rw[List.getElem?_take]at hi;split at hi
             . rw[List.getElem?_drop]at hi;refine h6 (l+i) j x a b hi ha ?_;rw[Nat.add_mul,<- Nat.add_assoc];exact hb
             . cases hi
           . rw[q]at hi;simp at hi
        rw[hlen]at h9';exact h9'
       have fin:(execOp ρ o).run P w= .ok (.value (.slice (if c'=l then some ⟨en.r,o',none⟩else some ⟨en.r,o'+l*s,none⟩) (hh-l) (c'-l))) w:=by
        simp only[execOp,ho,hy,Instr.sliceAt,Sem.run_bind,a_ hu,Result.andThen_ok,Instr.slice,Option.map_none,iW (P:=P) nh hhi h8 (show hh<=c' by omega),ct hs,Sem.run_pure]
        by_cases hc:c'=l
        . simp[hc]
        . simp[hc,dH]
       rw[fin]
       by_cases hc:c'=l
       . rw[if_pos hc];exact⟨_,key o' (.inr (List.eq_nil_of_length_eq_zero (by rw[hlen];omega))),rfl⟩
       . rw[if_neg hc];exact⟨_,key _ (.inl rfl),rfl⟩
   | false=>
     rw[hr]at h;have h:rQ P t y (gu P tm lo) (gu P tm hi) (gu P tm mx)=some v:=h;unfold rQ at h;obtain⟨ulo,nh,h1⟩:=ar h;obtain⟨uhi,hhi,h2⟩:=ar h1;obtain⟨umx,hmx,h3⟩:=ar h2;obtain⟨h4,h5⟩:=aH h3;simp only[Bool.and_eq_true]at h4;obtain⟨h6,h7⟩:=sr h5;rw[hops]at hE;refine⟨v,.flat v h6,?_⟩;have e1:=Bl (ρ:=ρ) (φ:=φ) (λz hz=>hE z (by simp[hz])) nh h4.2.1;have e2:=Bl (ρ:=ρ) (φ:=φ) (λz hz=>hE z (by simp[hz])) hhi h4.2.2.1;have e3:=Bl (ρ:=ρ) (φ:=φ) (λz hz=>hE z (by simp[hz])) hmx h4.2.2.2;have e4:=(hE x (by simp) _ hx).al h4.1;simp only[execOp,ho,e1,e2,e3,e4,Sem.run_bind,h7 w,Result.andThen_ok];rfl
 . cases h
end ops
end
section
variable {P:Program}{W w:World}{φ:cK}{H:T OB}{tm:T Value}{ρ:Operand->Value}
theorem CW:∀(l l':List Value),LR φ l l'->∀(k off:Nat) (cs cs':Array Value),LR φ cs.toList cs'.toList->
 LR φ ((l.zipIdx k).foldl (λ(cs:Array Value) p=>cs.setIfInBounds (off+p.2) p.1) cs).toList
  ((l'.zipIdx k).foldl (λ(cs:Array Value) p=>cs.setIfInBounds (off+p.2) p.1) cs').toList
 | [],l',h,k,off,cs,cs',hc=>by
   cases h.mH;exact hc
 | v::l,l',h,k,off,cs,cs',hc=>by
   obtain⟨v',m,rfl,h1,h2⟩:=h.inv;simp only[List.zipIdx_cons,List.foldl_cons];refine CW l m h2 (k+1) off _ _ ?_;rw[Array.toList_setIfInBounds,Array.toList_setIfInBounds];exact hc.set _ h1
inductive PR (φ:cK):List (Nat×Value)->List (Nat×Value)->Prop
 | nil:PR φ [] []
 | cons {i:Nat} {v v':Value} {l l':List (Nat×Value)} (h:VR φ v v') (hl:PR φ l l'):PR φ ((i,v)::l) ((i,v')::l')
theorem rj (place:Nat->Option (Nat×Nat)){vs vs':List (Nat×Value)}(h:PR φ vs vs'):∀(cs cs' r:Array Value),LR φ cs.toList cs'.toList->
 Instr.fill place cs vs=some r->∃r',Instr.fill place cs' vs'=some r'/\LR φ r.toList r'.toList:=by
 induction h with
 | nil=>intro cs cs' r hc h;cases h;exact⟨cs',rfl,hc⟩
 | @cons i v v' l l' hv _ ih=>
   intro cs cs' r hc h;unfold Instr.fill at h ⊢;cases hp:place i with
   | none=>simp only[hp]at h;cases h
   | some q=>
     obtain⟨off,size⟩:=q;simp only[hp]at h ⊢;have hcl:=hv.cells;have e1:v'.cells.size=v.cells.size:=by have:=hcl.len;simpa using this.symm
     have e2:cs'.size=cs.size:=by have:=hc.len;simpa using this.symm
     rw[e1,e2];split at h
     . cases h
     . rename_i hb;rw[if_neg hb];refine ih _ _ r ?_ h;rw[<- Array.foldl_toList,<- Array.foldl_toList,Array.toList_zipIdx,Array.toList_zipIdx];exact CW _ _ hcl 0 off cs cs' hc
theorem ow:∀(ps:List (Nat×Operand)) (vs:List (Nat×Value)),(∀p∈ps,∀v,bq P tm p.2=some v->VR φ v (ρ p.2))->parts P tm ps=some vs->
 PR φ vs (ps.map λp=>(p.1,ρ p.2))
 | [],vs,_,h=>by cases h;exact .nil
 | p::ps,vs,hE,h=>by
   unfold parts at h;split at h
   . cases h
   . rename_i v hv;split at h
     . cases h
     . rename_i us hus;cases h;exact .cons (hE p (by simp) v hv) (ow ps us (λq hq=>hE q (by simp[hq])) hus)
theorem gU {t:TypeId}{l:List Value}(h:bT P t=some l):∃i z,P.info? t=some i/\i.zero=some z/\z.cells.toList=l/\∀x∈l,flat x=true:=by
 unfold bT at h;split at h
 . rename_i i hi;split at h
   . rename_i z hz;obtain⟨h1,h2⟩:=aH h;cases h2;exact⟨i,z,hi,hz,rfl,λx hx=>List.all_eq_true.1 h1 x hx⟩
   . cases h
 . cases h
theorem HS {t:TypeId}{l:List Value}(hz:bT P t=some l){vs vs':List (Nat×Value)}(h:PR φ vs vs'){r:Array Value}(hb:P.built t vs=some r):
 ∃r',P.built t vs'=some r'/\LR φ r.toList r'.toList:=by
 obtain⟨i,z,hi,hz,hl,hf⟩:=gU hz;have hzz:LR φ z.cells.toList z.cells.toList:= .of_flat (by rw[hl];exact hf);unfold Program.built at hb ⊢;rw[hi]at hb ⊢;cases hu:P.underlying t with
 | none=>rw[hu]at hb;cases hb
 | some d=>
   rw[hu]at hb;cases d with
   | struct fs=>
     simp only[hz]at hb ⊢;cases hp:fs.toList.mapM (λf=>(P.info? f.type).map λi=>(f.offset,i.size))with
     | none=>simp only[hp]at hb;cases hb
     | some places=>
       simp only[hp]at hb ⊢;exact rj _ h _ _ r hzz hb
   | array n e=>
     simp only[hz]at hb ⊢;cases hp:P.info? e with
     | none=>simp only[hp]at hb;cases hb
     | some ie=>
       simp only[hp]at hb ⊢;exact rj _ h _ _ r hzz hb
   | _=>cases hb
section ops
variable {o:Oper}
theorem HT {t:TypeId}{ps:Array (Nat×Operand)}(ho:o.op= .build t ps)(hE:pe P φ tm ρ o.op.operands.toList){v:Value}
 (h:a9 P t (parts P tm ps.toList)=some v) (w:World):∃v',VR φ v v'/\(execOp ρ o).run P w= .ok (.value v') w:=by
 unfold a9 at h;obtain⟨vs,h1,h⟩:=ar h;obtain⟨z,hz,h⟩:=ar h;obtain⟨cs,hb,h⟩:=ar h;rw[kR]at h;cases h;have hp:PR φ vs (ps.toList.map λp=>(p.1,ρ p.2)):=ow ps.toList vs (λp hp=>hE p.2 (by
  rw[ho];show p.2∈((ps.toList.map (·.2)).toArray).toList;simp only[List.toList_toArray];exact List.mem_map.2 ⟨p,hp,rfl⟩)) h1
 obtain⟨r',h2,h3⟩:=HS hz hp hb;refine⟨.agg r',h3.agg,?_⟩;have h4:P.built t (ps.map λ(i,x)=>(i,ρ x)).toList=some r':=by rw[Array.toList_map];exact h2
 simp[execOp,ho,run_build w t _ r' h4]
theorem HU {t:TypeId}{x:Operand}(ho:o.op= .makeInterface t x)(hE:∀v,bq P tm x=some v->VR φ v (ρ x)){v:Value}
 (h:kL P t (bq P tm x)=some v) (w:World):∃v',VR φ v v'/\(execOp ρ o).run P w= .ok (.value v') w:=by
 unfold kL at h;split at h
 . cases h
 . rename_i d hn hu;obtain⟨u,h1,h2⟩:=ar h;cases h2;refine⟨_,.iface (t:=t) (hE u h1),?_⟩;simp only[execOp,ho,Instr.makeInterface,Sem.run_bind,a_ hu,Result.andThen_ok];rfl
 . cases h
theorem MA {c:Call}(hc:c.callee= .builtin .len)(ho:o.op= .call c)(w:World){v:Value}
 (h:(Builtin.len_ c.argTypes o.type (c.args.map ρ)).run P w= .ok v w):(execOp ρ o).run P w= .ok (.value v) w:=by
 simp[execOp,ho,resolve,hc,invoke,builtin,h]
theorem HV {b:Builtin}{ts:Array TypeId}{ty:TypeId}{vs:Option (List Value)}{v:Value}(h:kJ P b ts ty vs=some v):∃l,vs=some l/\l.all flat=true/\flat v=true/\∀w,(builtin b ts ty #[] ⟨l⟩).run P w= .ok (.value v) w:=by
 unfold kJ at h;obtain⟨l,h1,h⟩:=ar h;obtain⟨h2,h⟩:=aH h;obtain⟨h3,h4⟩:=uL h;exact⟨l,h1,h2,h4,λw=>qy P _ _ h3 w⟩
theorem pq:∀(l:List Operand) (vs:List Value),pe P φ tm ρ l->qT P tm l=some vs->LR φ vs (l.map ρ)
 | [],vs,_,h=>by cases h;exact .nil
 | x::l,vs,hE,h=>by
   unfold qT at h;split at h
   . cases h
   . rename_i v hv;split at h
     . cases h
     . rename_i us hus;cases h;exact .cons (hE x (by simp) v hv) (pq l us (λy hy=>hE y (by simp[hy])) hus)
theorem Bm {c:Call}{b:Builtin}(hb:b= .len\/b= .max\/b= .min)(hc:c.callee= .builtin b)(ho:o.op= .call c)(hE:pe P φ tm ρ c.args.toList){v:Value}
 (h:kJ P b c.argTypes o.type (qT P tm c.args.toList)=some v) (w:World):∃v',VR φ v v'/\(execOp ρ o).run P w= .ok (.value v') w:=by
 obtain⟨l,h1,h2,h3,h4⟩:=HV h;have hLR:=pq _ _ hE h1;have e1:c.args.toList.map ρ=l:=by
  refine List.ext_getElem? λi=> ?_
  by_cases hi:i<l.length
  . have h5:=List.getElem?_eq_getElem hi;have h6:=List.getElem?_eq_getElem (hLR.len ▸ hi:i<(c.args.toList.map ρ).length);rw[h5,h6,(hLR.at_ i _ _ h5 h6).al (List.all_eq_true.1 h2 _ (List.getElem_mem hi))]
  . rw[List.getElem?_eq_none (by have:=hLR.len;omega),List.getElem?_eq_none (by omega)]
 have e2:c.args.map ρ=⟨l⟩:=Array.ext' (by simpa using e1);refine⟨v,.flat v h3,?_⟩;have h5:=h4 w;simp only[execOp,ho,resolve,hc,Sem.run_bind,Sem.run_pure,Result.andThen_ok,invoke,e2];rcases hb with rfl | rfl | rfl<;>exact h5
theorem Ra {c:Call}(hc:c.callee= .builtin .len)(ho:o.op= .call c)(hE:pe P φ tm ρ o.op.operands.toList){v:Value}
 (h:cv P c.argTypes o.type (qT P tm c.args.toList)=some v) (w:World):∃v',VR φ v v'/\(execOp ρ o).run P w= .ok (.value v') w:=by
 have hE':pe P φ tm ρ c.args.toList:=λx hx v hv=>hE x (by rw[ho];simp[Op.operands,Call.operands,hc];simpa using hx) v hv;have one:∀{y:Value},qT P tm c.args.toList=some [y]->∃y',c.args.map ρ=#[y']/\VR φ y y':=by
  intro y hy;have hLR:=pq _ _ hE' hy;obtain⟨y',m,hm,h1,h2⟩:=hLR.inv;have:=h2.mH;subst this;exact⟨y',Array.ext' (by rw[Array.toList_map];exact hm),h1⟩
 have slc:∀{a:Option Addr} {n cp:Nat},c.args.map ρ=#[.slice a n cp]->gA P c.argTypes[0]? = true->(execOp ρ o).run P w= .ok (.value (.int .i64 n)) w:=by
  intro a n cp ha h1;unfold gA at h1;split at h1
  . rename_i t ht;split at h1
    . rename_i e he;refine MA hc ho w ?_;have hu:=a_ he;simp[Builtin.len_,ht,ha,hu,goInt]
    . cases h1
  . cases h1
 unfold cv at h;split at h
 . rename_i a n cp hv;obtain⟨h1,h2⟩:=aH h;cases h2;obtain⟨b,off,s⟩:=a;obtain⟨y',ha,hy⟩:=one hv;obtain⟨en,c',h5,_,rfl,_⟩:=hy.fH;exact⟨_,.flat _ rfl,slc ha h1⟩
 . rename_i y _ hv;cases hr:ph y with
   | true=>
     rw[hr]at h;obtain⟨s,es,rfl,h1⟩:=j8 (show ib y (λ_ es=>bif gA P c.argTypes[0]? then some (Value.int .i64 (.ofNat es.length))else none) none=some v from h);obtain⟨h2,h3⟩:=aH h1;cases h3;obtain⟨y',ha,hy⟩:=one hv;refine⟨.int .i64 (.ofNat es.length),.flat _ rfl,?_⟩;rcases hy.jA with⟨rfl,rfl | ⟨_,_,rfl⟩⟩ | ⟨_,_,_,_,_,_,_,_,_,_,_,rfl⟩
     . exact slc ha h2
     . exact slc ha h2
     . exact slc ha h2
   | false=>
     rw[hr]at h;rw[<- hv]at h;exact Bm (.inl rfl) hc ho hE' h w
 . cases h
def kT (d:TypeDesc)(x y:Value):Option Bool:=match d,x,y with
 | .pointer _,.pointer (some _),.pointer none=>some false
 | .pointer _,.pointer none,.pointer (some _)=>some false
 | .slice _,.slice (some _) _ _,.slice none _ _=>some false
 | .slice _,.slice none _ _,.slice (some _) _ _=>some false
 | .map _ _,.map (some _),.map none=>some false
 | .map _ _,.map none,.map (some _)=>some false
 | .interface _,.iface _ _,.nilIface=>some false
 | .interface _,.nilIface,.iface _ _=>some false
 | _,_,_=>none
theorem F8 {d:TypeDesc}{a b a' b':Value}{r:Bool}(h:A7 d a b=some r)(ha:VR φ a a')(hb:VR φ b b'):kT d a' b'=some r:=by
 unfold A7 at h;split at h
 . rename_i x;obtain⟨k,o,s⟩:=x;obtain⟨e,_,_,rfl⟩:=ha.e_;rw[hb.al rfl];exact h
 . rename_i x;obtain⟨k,o,s⟩:=x;obtain⟨e,_,_,rfl⟩:=hb.e_;rw[ha.al rfl];exact h
 . rename_i x _ _ _ _;obtain⟨k,o,s⟩:=x;obtain⟨e,c',_,_,rfl,_⟩:=ha.fH;rw[hb.al rfl];exact h
 . rename_i _ _ x _ _;obtain⟨k,o,s⟩:=x;obtain⟨e,c',_,_,rfl,_⟩:=hb.fH;rw[ha.al rfl];exact h
 . obtain⟨e,_,rfl⟩:=ha.oo;rw[hb.al rfl];exact h
 . obtain⟨e,_,rfl⟩:=hb.oo;rw[ha.al rfl];exact h
 . obtain⟨u,rfl,_⟩:=ha.j9;rw[hb.al rfl];exact h
 . obtain⟨u,rfl,_⟩:=hb.j9;rw[ha.al rfl];exact h
 . obtain⟨k,o,e,c,_,_,_,_,rfl⟩:=ha.so;rw[hb.al rfl];exact h
 . obtain⟨k,o,e,c,_,_,_,_,rfl⟩:=hb.so;rw[ha.al rfl];exact h
 . rename_i q _ _ _;rcases VR.jA (show VR φ (aM _ _) a' from ha)with⟨q,_⟩ | ⟨k,o,c',e,c,_,_,_,_,_,_,rfl⟩
   . cases q
   . rw[hb.al rfl];exact h
 . rcases VR.jA (show VR φ (aM _ _) b' from hb)with⟨q,_⟩ | ⟨k,o,c',e,c,_,_,_,_,_,_,rfl⟩
   . cases q
   . rw[ha.al rfl];exact h
 . cases h
theorem zA {t:TypeId}{d:TypeDesc}(hu:P.underlying t=some d){a b:Value}{r:Bool}(h:kT d a b=some r)(n:Nat)(w:World):
 (Op.equalIn (n+1) t a b).run P w= .ok r w:=by
 have hq:=a_ hu w;unfold kT at h;split at h<;>(try (cases h;done))<;>cases h<;>simp only[Op.equalIn,Sem.run_bind,hq,Result.andThen_ok]<;>rfl
theorem Bn {t:TypeId}{d:TypeDesc}(hu:P.underlying t=some d){a b:Value}{r:Bool}(h:kT d a b=some r)(w:World):
 (∀op x y,(eqGuard op t x y a b).run P w= .ok () w)/\(binOp .eql t a b).run P w= .ok (.bool r) w/\(binOp .neq t a b).run P w= .ok (.bool (!r)) w:=by
 have h1:(Op.equal t a b).run P w= .ok r w:=zA hu h 9999 w;have e1:binOp .eql t a b=(do pure (.bool (<- Op.equal t a b))):=by
  unfold kT at h;split at h<;>first | rfl | cases h
 have e2:binOp .neq t a b=(do pure (.bool (!(<- Op.equal t a b)))):=by
  unfold kT at h;split at h<;>first | rfl | cases h
 refine⟨λop x y=> ?_,?_,?_⟩
 . unfold kT at h;split at h<;>first | (cases h;done) | (cases op<;>rfl)
 . rw[e1,Sem.run_bind,h1];rfl
 . rw[e2,Sem.run_bind,h1];rfl
theorem Rb {op:BinOp}{t yt:TypeId}{x y:Operand}(ho:o.op= .binOp op t x y yt){a b v:Value}(ha:VR φ a (ρ x))(hb:VR φ b (ρ y))
 (h:HD P op t a b=some v) (w:World):∃v',VR φ v v'/\(execOp ρ o).run P w= .ok (.value v') w:=by
 unfold HD at h;split at h
 . rename_i d hu;split at h
   . rename_i r hr;obtain⟨h2,h3,h4⟩:=Bn hu (F8 hr ha hb) w;split at h
     . cases h;refine⟨_,.flat _ rfl,?_⟩;simp only[execOp,ho,Sem.run_bind,h2,Result.andThen_ok,h3];rfl
     . cases h;refine⟨_,.flat _ rfl,?_⟩;simp only[execOp,ho,Sem.run_bind,h2,Result.andThen_ok,h4];rfl
     . cases h
   . cases h
 . cases h
theorem qA {b:Nat}(h:kK H b=true):∃n t el,hp H b=some (.cells n t el):=by
 unfold kK at h;unfold hp;cases hg:H.get (bits b)with
 | none=>rw[hg]at h;cases h
 | some ob=>
   rw[hg]at h;cases ob with
   | cells n t el=>exact⟨n,t,el,rfl⟩
   | _=>cases h
theorem ss {a:Addr}{c:Array Value}{el:TypeId}{fz:Nat×Nat}(h:w.heap[a.block]? = some (.cells c el fz)):(noView a).run P w= .ok () w:=by
 simp[noView,viewAt,World.shape?,h]
theorem v7 {a b:Addr}{c c':Array Value}{el el':TypeId}(ha:w.heap[a.block]? = some (.cells c el (0,0)))(hb:w.heap[b.block]? = some (.cells c' el' (0,0))):
 (sameAddr a b).run P w= .ok (a == b) w:=by
 have fa:∀o,w.frozen? { block:=a.block,off:=o }=false:=λo=>frozen_of_row w a.block o c el ha;have fa':w.frozen? a=false:=by simp[World.frozen?,ha]
 have fb':w.frozen? b=false:=by simp[World.frozen?,hb]
 have fb:∀o,w.frozen? { block:=b.block,off:=o }=false:=λo=>frozen_of_row w b.block o c' el' hb;unfold sameAddr;cases hbl:a.block == b.block with
 | true=>simp
 | false=>
   have hne:(a == b)=false:=by
    cases hab:a == b with
    | false=>rfl
    | true=>
      have:a=b:=by simpa using hab
      rw[this]at hbl;simp at hbl
   simp[fa',ss ha,ss hb,mayBeOne,stringish,World.shape?,ha,hb,fa,fb,fb',hne]
theorem F9 {t e:TypeId}{z:Nat}(hu:P.underlying t=some (.pointer e))(hz:aN P e=some (z+1)){a b:Addr}{c c':Array Value}{el el':TypeId}
 (ha:w.heap[a.block]? = some (.cells c el (0,0))) (hb:w.heap[b.block]? = some (.cells c' el' (0,0))):
 (∀op x y,(eqGuard op t x y (.pointer (some a)) (.pointer (some b))).run P w= .ok () w)/\(binOp .eql t (.pointer (some a)) (.pointer (some b))).run P w= .ok (.bool (a == b)) w/\
  (binOp .neq t (.pointer (some a)) (.pointer (some b))).run P w= .ok (.bool (!(a == b))) w:=by
 have hs:=v7 (P:=P) ha hb;have h0:∀n,(Op.equalIn (n+1) t (.pointer (some a)) (.pointer (some b))).run P w= .ok (a == b) w:=λn=>by
  simp only[Op.equalIn,Sem.run_bind,a_ hu,Result.andThen_ok,ct hz];rw[if_pos (by omega)];exact hs
 have h1:(Op.equal t (.pointer (some a)) (.pointer (some b))).run P w= .ok (a == b) w:=h0 9999;have e1:binOp .eql t (.pointer (some a)) (.pointer (some b))=(do pure (.bool (<- Op.equal t (.pointer (some a)) (.pointer (some b))))):=rfl;have e2:binOp .neq t (.pointer (some a)) (.pointer (some b))=(do pure (.bool (!(<- Op.equal t (.pointer (some a)) (.pointer (some b)))))):=rfl;refine⟨λop x y=>by cases op<;>rfl,?_,?_⟩
 . rw[e1,Sem.run_bind,h1];rfl
 . rw[e2,Sem.run_bind,h1];rfl
theorem Rc (hH:HR P W φ (hp H) w){op:BinOp}{t yt:TypeId}{x y:Operand}(ho:o.op= .binOp op t x y yt){a b v:Value}(ha:VR φ a (ρ x))(hb:VR φ b (ρ y))
 (h:rU P H op t a b=some v):∃v',VR φ v v'/\(execOp ρ o).run P w= .ok (.value v') w:=by
 unfold rU at h;split at h
 . rename_i e xa i ya j hu;split at h
   . rename_i z hz;obtain⟨hc,h⟩:=aH h;simp only[Bool.and_eq_true]at hc;obtain⟨n,tr,el,hgx⟩:=qA hc.1;obtain⟨n',tr',el',hgy⟩:=qA hc.2;obtain⟨ex,hx1,_,hx2⟩:=ha.e_;obtain⟨ey,hy1,_,hy2⟩:=hb.e_;obtain⟨cx,elx,hrx,_⟩:=hH.cells hgx hx1;obtain⟨cy,ely,hry,_⟩:=hH.cells hgy hy1;have hbeq:((⟨ex.r,i,none⟩:Addr) == ⟨ey.r,j,none⟩)=(Nat.beq xa ya&&Nat.beq i j):=by
      rw[Bool.eq_iff_iff];simp only[beq_iff_eq,Bool.and_eq_true];constructor
      . intro q;injection q with q1 q2
        have:=hH.inj xa ya _ _ ex ey hx1 hy1 hgx hgy rfl rfl q1;exact⟨by subst this;exact Nat.beq_refl _,by subst q2;exact Nat.beq_refl _⟩
      . rintro⟨q1,q2⟩;have q1:=beq_eq q1;have q2:=beq_eq q2;subst q1 q2;rw[hx1]at hy1;cases hy1;rfl
     obtain⟨g1,g2,g3⟩:=F9 (P:=P) (w:=w) hu hz (a:=⟨ex.r,i,none⟩) (b:=⟨ey.r,j,none⟩) hrx hry;rw[hbeq]at g2 g3;split at h
     . cases h;exact⟨_,.flat _ rfl,by simp only[execOp,ho,hx2,hy2,Sem.run_bind,g1,Result.andThen_ok,g2];rfl⟩
     . cases h;exact⟨_,.flat _ rfl,by simp only[execOp,ho,hx2,hy2,Sem.run_bind,g1,Result.andThen_ok,g3];rfl⟩
     . cases h
   . cases h
 . exact Rb ho ha hb h w
theorem F_ {op:BinOp}{t:TypeId}{x y:Operand}{a b:Value}(h:((ue x||ue y) || !(rV a&&rV b))=true):eqGuard op t x y a b=eqGuard op t XH XH a b:=by
 cases ha:rV a&&rV b with
 | false=>cases a<;>cases b<;>first | rfl | cases ha
 | true=>
   rw[ha]at h;have hk:(ue x||ue y)=true:=by simpa using h
   simp only[Bool.and_eq_true]at ha;have e1:a= .nilIface:=by cases a<;>first | rfl | (cases ha.1;done)
   have e2:b= .nilIface:=by cases b<;>first | rfl | (cases ha.2;done)
   subst e1 e2;cases x<;>cases y<;>first | rfl | (simp[ue]at hk;done)
theorem v8 {k:Nat}{t:TypeId}(ht:uB P t=some k){v u:Value}{r:Bool}(h:vM k v u=some r)(d:Nat):(Op.equalIn (d+1) t v u).run P w= .ok r w/\(∀{φ:cK} {v':Value},VR φ v v'->v'=v)/\(∀{φ:cK} {v':Value},VR φ u v'->v'=u):=by
 unfold uB at ht;unfold vM at h;split at h
 . obtain⟨hk,h9⟩:=aH h;have hk:=of_decide_eq_true hk;cases h9;clear h;subst hk;split at ht
   . rename_i q;exact⟨run_equalIn_int w d t _ _ _ _ q,λh=>h.al rfl,λh=>h.al rfl⟩
   . cases ht
   . cases ht
   . cases ht
 . cases h;split at ht
   . cases ht
   . rename_i q;exact⟨run_equalIn_string w d t _ _ q,λh=>h.al rfl,λh=>h.al rfl⟩
   . cases ht
   . cases ht
 . cases h;split at ht
   . cases ht
   . cases ht
   . rename_i q;exact⟨run_equalIn_bool' w d t _ _ q,λh=>h.al rfl,λh=>h.al rfl⟩
   . cases ht
 . cases h
theorem Gb {t:TypeId}{k:Nat}(hs:uB P t=some k):dG P t=some false:=by
 unfold uB at hs;unfold dG;split at hs<;>simp_all
theorem ox {xs ys:Array Value}(d:Nat):∀(fs:List Field) (i:Nat) (ks:List Nat) (l m:List Value) (r:Bool),rf P fs i=some ks->qq ks l m=some r->LR φ l (xs.toList.drop i)->LR φ m (ys.toList.drop i)->
 (Op.eqFields (d+1) xs ys fs).run P w= .ok r w
 | [],i,ks,l,m,r,hf,h,_,_=>by
   cases hf;cases l<;>cases m<;>simp[qq]at h
   subst h;rfl
 | f::fs,i,ks,l,m,r,hf,h,hx,hy=>by
   obtain⟨h1,h2⟩:=aH (show(bif !(f.name == "_")&&Nat.beq f.offset i then af (uB P f.type) (λk=>af (rf P fs (i+1)) (λks=>some (k::ks)) none) none else none)=some ks from hf)
   simp only[Bool.and_eq_true,Bool.not_eq_true']at h1;have ho:=beq_eq h1.2;have hn:f.name≠"_" := by simpa using h1.1
   obtain⟨k,hk,h3⟩:=ar h2;obtain⟨ks',hks,h4⟩:=ar h3;cases h4;clear hf h2 h3;cases l with
   | nil=>simp[qq]at h
   | cons a l'=>
   cases m with
   | nil=>simp[qq]at h
   | cons b m'=>
     obtain⟨r1,hc,h5⟩:=ar (show af (vM k a b) (λr=>af (qq ks' l' m') (λr'=>some (r&&r')) none) none=some r from h);obtain⟨r2,hr,h6⟩:=ar h5;cases h6;obtain⟨a',x',hxe,ha',hx'⟩:=hx.inv;obtain⟨b',y',hye,hb',hy'⟩:=hy.inv;obtain⟨g1,g2,g3⟩:=v8 (w:=w) hk hc d;have ea:=g2 ha';have eb:=g3 hb';subst ea eb;have gx:xs[f.offset]? = some a':=by
      have:=congrArg (·[0]?) hxe;simpa[List.getElem?_drop,ho]using this
     have gy:ys[f.offset]? = some b':=by
      have:=congrArg (·[0]?) hye;simpa[List.getElem?_drop,ho]using this
     have hp:∀{zs:Array Value} {v:Value},zs[f.offset]? = some v->(part f.type zs f.offset).run P w= .ok v w:=λh=>by simp[part,gp (Gb hk),h]
     have ih:=ox d fs (i+1) ks' l' m' r2 hks hr (by rw[<- List.drop_drop,hxe];exact hx') (by rw[<- List.drop_drop,hye];exact hy');simp only[Op.eqFields,if_pos hn,Sem.run_bind,hp gx,hp gy,Result.andThen_ok,g1];cases r1 with
     | true=>simpa using ih
     | false=>rfl
theorem Rd {op:BinOp}{t yt:TypeId}{x y:Operand}(ho:o.op= .binOp op t x y yt){l m:List Value}(ha:VR φ (.agg ⟨l⟩) (ρ x))(hb:VR φ (.agg ⟨m⟩) (ρ y)){ks:List Nat}(hk:A8 P t=some ks){v:Value}
 (h:af (qq ks l m) (XV op) none=some v) (w:World):∃v',VR φ v v'/\(execOp ρ o).run P w= .ok (.value v') w:=by
 obtain⟨r,hr,h⟩:=ar h;obtain⟨xs,hx,hxl⟩:=ha.mI;obtain⟨ys,hy,hyl⟩:=hb.mI;unfold A8 at hk;split at hk
 case h_2=>cases hk
 rename_i fs hu;obtain⟨h1,h2⟩:=aH hk;simp only[Bool.and_eq_true,Bool.not_eq_true']at h1;have hfo:P.fieldsOf t=fs:=by unfold Program.fieldsOf;rw[hu]
 have heq:(Op.equalIn 10000 t (.agg xs) (.agg ys)).run P w= .ok r w:=by
  rw[run_equalIn_agg w 9999 t xs ys (by rw[hfo];exact hu) h1.1,hfo];exact ox 9998 fs.toList 0 ks l m r h2 hr (by simpa using hxl) (by simpa using hyl)
 have hg:=run_eqGuard_agg w op t x y xs ys h1.2;unfold XV at h;split at h
 . cases h;refine⟨.bool r,.flat _ rfl,?_⟩;simp only[execOp,ho,hx,hy,Sem.run_bind,hg,Result.andThen_ok,run_eql_struct,heq];rfl
 . cases h;refine⟨.bool (!r),.flat _ rfl,?_⟩;simp only[execOp,ho,hx,hy,Sem.run_bind,hg,Result.andThen_ok,run_neq_struct,heq];rfl
 . cases h
theorem CX (hH:HR P W φ (hp H) w){op:BinOp}{t yt:TypeId}{x y:Operand}(ho:o.op= .binOp op t x y yt){a b:Value}(hea:VR φ a (ρ x))(heb:VR φ b (ρ y)){v:Value}
 (h:lQ P H op t (ue x||ue y) a b=some v):∃v',VR φ v v'/\(execOp ρ o).run P w= .ok (.value v') w:=by
 unfold lQ at h;cases hf:flat a&&flat b with
 | false=>
   rw[hf]at h;exact Rc hH ho hea heb h
 | true=>
   rw[hf]at h;simp only[Bool.and_eq_true]at hf;obtain⟨hk,h⟩:=aH (show(bif (ue x||ue y) || !(rV a&&rV b)then ze P op t a b else none)=some v from h);obtain⟨h3,h4⟩:=sr h;have e1:=hea.al hf.1;have e2:=heb.al hf.2;refine⟨v,.flat v h3,?_⟩;have h5:=h4 w;simp only[execOp,ho,e1,e2,F_ hk,Sem.run_bind]at h5 ⊢;rw[h5];rfl
theorem Re (hH:HR P W φ (hp H) w){op:BinOp}{t yt:TypeId}{x y:Operand}(ho:o.op= .binOp op t x y yt)(hE:pe P φ tm ρ o.op.operands.toList){v:Value}
 (h:cZ P H op t (ue x||ue y) (bq P tm x) (bq P tm y)=some v):∃v',VR φ v v'/\(execOp ρ o).run P w= .ok (.value v') w:=by
 unfold cZ at h;obtain⟨a,ha,h⟩:=ar h;obtain⟨b,hb,h⟩:=ar h;have hops:o.op.operands.toList=[x,y]:=by rw[ho];rfl
 have hea:=hE x (by simp[hops]) a ha;have heb:=hE y (by simp[hops]) b hb;unfold A9 at h;split at h
 . unfold HE at h;split at h
   . rename_i ks hk;exact Rd ho hea heb hk h w
   . exact CX hH ho hea heb h
 . exact CX hH ho hea heb h
theorem MB {fn:Fn}{first cap:Array Operand}(ho:o.op= .makeFunc fn first cap)(hE:pe P φ tm ρ o.op.operands.toList){v:Value}
 (h:rW fn first.toList (qT P tm cap.toList)=some v) (w:World):∃v',VR φ v v'/\(execOp ρ o).run P w= .ok (.value v') w:=by
 unfold rW at h;split at h
 . rename_i g hf;obtain⟨l,hl,h⟩:=ar h;cases h;have hf':first=#[]:=by
    have:first.toList.toArray=#[]:=by rw[hf]
    simpa using this
   subst hf';have hLR:=pq cap.toList l (λx hx=>hE x (by rw[ho];simpa[Op.operands]using hx)) hl;refine⟨.func (.func g) #[] ⟨cap.toList.map ρ⟩,VR.func hLR.len hLR.at_,?_⟩;have e:cap.map ρ=⟨cap.toList.map ρ⟩:=Array.ext' (by simp);simp[execOp,ho,Instr.makeFunc,e]
 . cases h
theorem pw {t:TypeId}{z:Value}(h:rX P t=some z):(∀w,(zeroValue t).run P w= .ok z w)/\flat z=true:=by
 unfold rX at h;split at h
 . rename_i i hi;split at h
   . rename_i z' hz;obtain⟨h1,h2⟩:=aH h;cases h2;exact⟨λw=>by simp[zeroValue,typeInfo,hi,hz],h1⟩
   . cases h
 . cases h
theorem Bo {ok b:Bool}{v v':Value}(h:VR φ v v'):VR φ (okV ok v b) (if ok then .tuple #[v',.bool b]else v'):=by
 cases ok with
 | false=>exact h
 | true=>exact(LR.cons h (LR.cons (.flat (.bool b) rfl) LR.nil)).tuple
theorem Bp {t:TypeId}{d:TypeDesc}(hu:P.underlying t=some d)(hn:∀ms,d= .interface ms->False)(xt:TypeId)(ok:Bool)(w:World):
 (∀v,(Instr.typeAssert (.iface t v) xt t ok).run P w= .ok (if ok then .tuple #[v,.bool true]else v) w)/\
 (∀u v z,u≠t->(zeroValue t).run P w= .ok z w->(Instr.typeAssert (.iface u v) xt t true).run P w= .ok (.tuple #[z,.bool false]) w)/\
 (∀z,(zeroValue t).run P w= .ok z w->(Instr.typeAssert .nilIface xt t true).run P w= .ok (.tuple #[z,.bool false]) w):=by
 cases d with
 | interface ms=>exact absurd rfl (hn ms)
 | _=>
   refine⟨λv=> ?_,λu v z hne hz=> ?_,λz hz=> ?_⟩
   . simp only[Instr.typeAssert,Sem.run_bind,a_ hu,Result.andThen_ok];simp
   . simp only[Instr.typeAssert,Sem.run_bind,a_ hu,Result.andThen_ok];simp[hne,hz]
   . simp only[Instr.typeAssert,Sem.run_bind,a_ hu,Result.andThen_ok];simp[hz]
theorem Gc {x:Operand}{xt t:TypeId}{ok:Bool}(ho:o.op= .typeAssert x xt t ok)(hE:∀v,bq P tm x=some v->VR φ v (ρ x)){v:Value}
 (h:iU P (bq P tm x) t ok=some v) (w:World):∃v',VR φ v v'/\(execOp ρ o).run P w= .ok (.value v') w:=by
 unfold iU at h;obtain⟨hni,h⟩:=aH h;unfold zf at hni;split at hni
 . cases hni
 . rename_i d hn hu;obtain⟨r1,r2,r3⟩:=Bp hu hn xt ok w;split at h
   . rename_i u y hx;obtain⟨y',hy,hyy⟩:=(hE _ hx).j9;cases hb:Nat.beq u t with
     | true=>
       rw[hb]at h;have h:some (okV ok y true)=some v:=h;cases h;have:=beq_eq hb;subst this;exact⟨_,Bo (b:=true) hyy,by simp only[execOp,ho,hy,Sem.run_bind,r1,Result.andThen_ok];rfl⟩
     | false=>
       rw[hb]at h;obtain⟨hok,h⟩:=aH (show(bif ok then af (rX P t) (λz=>some (Value.tuple #[z,.bool false])) none else none)=some v from h);subst hok;obtain⟨z,hz,h⟩:=ar h;cases h;obtain⟨hz1,hz2⟩:=pw hz;have hne:u≠t:=λq=>by rw[q]at hb;exact absurd (Nat.beq_refl t) (by rw[hb];decide)
       exact⟨.tuple #[z,.bool false],(LR.cons (.flat z hz2) (LR.cons (.flat (.bool false) rfl) LR.nil)).tuple,by simp only[execOp,ho,hy,Sem.run_bind,r2 u y' z hne (hz1 w),Result.andThen_ok];rfl⟩
   . rename_i hx;have hy:=(hE _ hx).al rfl;obtain⟨hok,h⟩:=aH h;subst hok;obtain⟨z,hz,h⟩:=ar h;cases h;obtain⟨hz1,hz2⟩:=pw hz;exact⟨.tuple #[z,.bool false],(LR.cons (.flat z hz2) (LR.cons (.flat (.bool false) rfl) LR.nil)).tuple,by simp only[execOp,ho,hy,Sem.run_bind,r3 z (hz1 w),Result.andThen_ok];rfl⟩
   . cases h
 . cases hni
theorem ui {d:TypeDesc}(h:jy d=true):(∃k,d= .int k)\/d= .string\/d= .bool:=by
 cases d<;>first | (cases h;done) | simp
theorem run_checkKey {b:Bool}{t:TypeId}{d:TypeDesc}(hu:P.underlying t=some d)(hd:jy d=true)(v:Value)(w:World):(Instr.checkKey b 10000 t v).run P w= .ok () w:=by
 have h:∀n,(Instr.checkKey b (n+1) t v).run P w= .ok () w:=λn=>by
  rcases ui hd with⟨k,rfl⟩ | rfl | rfl<;>simp only[Instr.checkKey,Sem.run_bind,a_ hu,Result.andThen_ok]<;>rfl
 exact h 9999
theorem Bq {d:TypeDesc}{k k' a a':Value}{b:Bool}(hk:VR φ k k')(ha:VR φ a a')(h:Instr.sameNow d k a=some b):Instr.sameNow d k' a'=some b:=by
 unfold Instr.sameNow at h;split at h
 . rw[hk.al rfl,ha.al rfl];exact h
 . rw[hk.al rfl,ha.al rfl];exact h
 . rw[hk.al rfl,ha.al rfl];exact h
 . cases h
inductive FR (φ:cK):Option (Nat×Value)->Option (Nat×Value)->Prop
 | none:FR φ none none
 | some {i:Nat} {v v':Value} (h:VR φ v v'):FR φ (some (i,v)) (some (i,v'))
theorem su {d:TypeDesc}{k k':Value}(hk:VR φ k k'){l l':List MapEntry}(h:qv φ l l'):∀(i:Nat) (r:Option (Nat×Value)),Instr.findNow d k l i=some r->
 ∃r',Instr.findNow d k' l' i=some r'/\FR φ r r':=by
 induction h with
 | nil=>intro i r h;cases h;exact⟨none,rfl,.none⟩
 | @cons e e' l l' he _ ih=>
   intro i r h;unfold Instr.findNow at h ⊢;cases hs:Instr.sameNow d k e.key with
   | none=>rw[hs]at h;cases h
   | some b=>
     rw[hs]at h;rw[Bq hk he.key hs];cases b with
     | true=>cases h;exact⟨_,rfl,.some he.val⟩
     | false=>exact ih (i+1) r h
theorem run_findKey {t:TypeId}{d:TypeDesc}(hu:P.underlying t=some d){k:Value}{es:List MapEntry}{r:Option (Nat×Value)}(h:Instr.findNow d k es 0=some r)(w:World):
 (Instr.findKey t k es).run P w= .ok r w:=by
 simp only[Instr.findKey,Sem.run_bind,a_ hu,Result.andThen_ok,h];rfl
theorem uO {β:Type}{t:TypeId}{k:TypeDesc->TypeId->Option β}{y:β}(h:na P t k none=some y):
 ∃kt et d,P.underlying t=some (.map kt et)/\P.underlying kt=some d/\jy d=true/\k d et=some y:=by
 unfold na at h;split at h
 . rename_i kt et hu;obtain⟨d,h1,h2⟩:=ar h;obtain⟨h3,h4⟩:=aH h2;exact⟨kt,et,d,hu,h1,h3,h4⟩
 . cases h
theorem Br (hH:HR P W φ (hp H) w){m m':Value}(hm:VR φ m m'){es:List MapEntry}(h:A_ H (some m)=some es):
 ∃es':Array MapEntry,qv φ es es'.toList/\((m'= .map none/\es'=#[])\/∃r c,m'= .map (some r)/\w.heap[r]? = some (.map es' c)):=by
 unfold A_ at h;split at h
 . rename_i q;cases q;cases h;exact⟨#[],.nil,.inl ⟨hm.al rfl,rfl⟩⟩
 . rename_i b q;cases q;obtain⟨e,hb,rfl⟩:=hm.oo;cases hg:H.get (bits b)with
   | none=>rw[hg]at h;cases h
   | some ob=>
     rw[hg]at h;cases ob with
     | map es1 c=>
       cases h;obtain⟨_,es',h2,h3⟩:=hH.obj b _ e (show hp H b=some (.map es c)from hg) hb;exact⟨es',h3,.inr ⟨e.r,c,rfl,h2⟩⟩
     | _=>cases h
 . cases h
theorem Gd (hH:HR P W φ (hp H) w){t:TypeId}{x k:Operand}{ok:Bool}(ho:o.op= .lookup t x k ok)(hE:pe P φ tm ρ [x,k]){v:Value}
 (h:cg P H t (bq P tm x) (bq P tm k) ok=some v):∃v',VR φ v v'/\(execOp ρ o).run P w= .ok (.value v') w:=by
 unfold cg at h;obtain⟨kt,et,d,hu,hd,hkk,h⟩:=uO h;obtain⟨es,hes,h⟩:=ar h;obtain⟨kv,hk,h⟩:=ar h;cases hx:bq P tm x with
 | none=>rw[hx]at hes;cases hes
 | some m=>
   rw[hx]at hes;obtain⟨es',hml,hm⟩:=Br hH (hE x (by simp) m hx) hes;have hkv:=hE k (by simp) kv hk;unfold CR at h;cases hf:Instr.findNow d kv es 0 with
   | none=>rw[hf]at h;cases h
   | some r=>
     rw[hf]at h;obtain⟨r',hf',hfr⟩:=su hkv hml 0 r hf;have hchk:=run_checkKey (b:=es'.toList.isEmpty) hd hkk (ρ k) w;have hfk:=run_findKey hd hf' w;cases hfr with
     | @some i u u' hu'=>
       have h:some (okV ok u true)=some v:=h;cases h;refine⟨_,Bo (b:=true) hu',?_⟩;rcases hm with⟨hm,rfl⟩ | ⟨r,c,hm,hr⟩
       . simp[Instr.findNow]at hf'
       . simp only[execOp,ho,Instr.lookup,Sem.run_bind,a_ hu,Result.andThen_ok,hm,MapKept.run_getObj_map hr,Sem.run_pure,run_checkKey hd hkk,hfk]
     | none=>
       have h:af (rX P et) (λz=>some (okV ok z false)) none=some v:=h;obtain⟨z,hz,h⟩:=ar h;cases h;obtain⟨hz1,hz2⟩:=pw hz;refine⟨_,Bo (b:=false) (.flat z hz2),?_⟩;rcases hm with⟨hm,rfl⟩ | ⟨r,c,hm,hr⟩
       . simp only[execOp,ho,Instr.lookup,Sem.run_bind,a_ hu,Result.andThen_ok,hm,Sem.run_pure,run_checkKey hd hkk,hfk,hz1]
       . simp only[execOp,ho,Instr.lookup,Sem.run_bind,a_ hu,Result.andThen_ok,hm,MapKept.run_getObj_map hr,Sem.run_pure,run_checkKey hd hkk,hfk,hz1]
theorem px:∀(l:List Value) (r:List UInt8),strOf l=some r->∃ns:List Int,l=ns.map (Value.int .u8)/\r=ns.map λn=>UInt8.ofNat n.toNat
 | [],r,h=>by cases h;exact⟨[],rfl,rfl⟩
 | v::l,r,h=>by
   unfold strOf at h;split at h
   . rename_i q;cases q
   . rename_i n l' q;cases q;cases hs:strOf l with
     | none=>rw[hs]at h;cases h
     | some r'=>
       rw[hs]at h;cases h;obtain⟨ns,h1,h2⟩:=px l r' hs;exact⟨(n:Int)::ns,by rw[h1];rfl,by rw[h2];rfl⟩
   . cases h
theorem fold_push:∀(ns:List Int) (s:ByteArray),ns.foldl (λ(r:ByteArray) n=>r.push (UInt8.ofNat n.toNat)) s=⟨⟨s.data.toList++ns.map λn=>UInt8.ofNat n.toNat⟩⟩
 | [],s=>by simp
 | n::ns,s=>by
   rw[List.foldl_cons,fold_push ns];congr 2;simp[ByteArray.push]
theorem LR.ints {ns:List Int}{l':List Value}(h:LR φ (ns.map (Value.int .u8)) l'):l'=ns.map (Value.int .u8):=by
 have hl:=h.len;refine List.ext_getElem? λi=> ?_
 by_cases hi:i<l'.length
 . have h1:=List.getElem?_eq_getElem hi;have h2:=List.getElem?_eq_getElem (hl ▸ hi:i<(ns.map (Value.int .u8)).length);rw[h1,h2,(h.at_ i _ _ h2 h1).al (by simp[Ev.flat,jw])]
 . rw[List.getElem?_eq_none (by omega),List.getElem?_eq_none (by rw[hl];omega)]
theorem py {s d:TypeId}{x:Operand}(ho:o.op= .convert s d x)(hty:eJ P s d=true){a:Addr}{n c':Nat}{ns:List Int}(hx:ρ x= .slice (some a) n c')(hload:(loadCells a n).run P w= .ok (ns.map (Value.int .u8)).toArray w):
 (execOp ρ o).run P w= .ok (.value (.string ⟨⟨ns.map λn=>UInt8.ofNat n.toNat⟩⟩)) w:=by
 unfold eJ at hty;split at hty
 . rename_i e hs hd;split at hty
   . rename_i he;simp only[execOp,ho,hx,Sem.run_bind,run_convert_bytes_string w s d e _ n c' hs he hd,run_bytesToString w _ n c' ns hload,Result.andThen_ok,fold_push];rfl
   . cases hty
 . cases hty
theorem Bs {s d:TypeId}{x:Operand}(ho:o.op= .convert s d x)(hty:eJ P s d=true)(hx:ρ x= .slice none 0 0):
 (execOp ρ o).run P w= .ok (.value (.string ⟨⟨[]⟩⟩)) w:=by
 unfold eJ at hty;split at hty
 . rename_i e hs hd;split at hty
   . rename_i he;have hu:=a_ (w:=w) hs;have hue:=a_ (w:=w) he;have hud:=a_ (w:=w) hd;simp[execOp,ho,hx,convert,hu,hue,hud,Conv.bytesToString]
     try rfl
   . cases hty
 . cases hty
theorem MC (hH:HR P W φ (hp H) w){s d:TypeId}{x:Operand}(ho:o.op= .convert s d x)(hE:pe P φ tm ρ o.op.operands.toList){v:Value}
 (h:dk P H s d (bq P tm x)=some v):∃v',VR φ v v'/\(execOp ρ o).run P w= .ok (.value v') w:=by
 have hEx:∀v,bq P tm x=some v->VR φ v (ρ x):=hE x (by rw[ho];simp[Op.operands]);unfold dk at h;split at h
 . rename_i b off n cp hx;obtain⟨en,c',h5,_,h6,_⟩:=(hEx _ hx).fH;obtain⟨hty,h⟩:=aH h;obtain⟨m,tr,hg,h⟩:=sk h;obtain⟨hle,h⟩:=aH h;obtain⟨l,hl,h⟩:=ar h;obtain⟨r,hr,h⟩:=ar h;cases h;obtain⟨c,el',fz,hrow,hn,hc⟩:=hH.row hg h5;have hle:=db hle;obtain⟨h7,h8⟩:=nC hc hl hle hn;obtain⟨ns,rfl,rfl⟩:=px l r hr;have h9:=h7.ints;refine⟨_,.flat _ rfl,py ho hty h6 ?_⟩;rw[<- h9];exact ri hrow (by omega)
 . rename_i y _ hx;cases hr:ph y with
   | true=>
     rw[hr]at h;obtain⟨s',es,rfl,h1⟩:=j8 (show ib y (λs' es=>bif eJ P s d&&Nat.beq s' 1 then af (strOf es) (λr=>some (Value.string ⟨⟨r⟩⟩)) none else none) none=some v from h);obtain⟨h2,h3⟩:=aH h1;simp only[Bool.and_eq_true]at h2;have hs1:=beq_eq h2.2;obtain⟨r,hsr,h4⟩:=ar h3;cases h4;subst hs1;clear h h1 h3;obtain⟨ns,rfl,rfl⟩:=px es r hsr;refine⟨_,.flat _ rfl,?_⟩;rcases(hEx _ hx).jA with⟨q,hy | ⟨a,c',hy⟩⟩ | ⟨k,o',c',e,c,h3,h4,h5,h6,h7,h8,hy⟩
     . have:ns=[]:=by simpa using q
       subst this;exact Bs ho h2.1 hy
     . have:ns=[]:=by simpa using q
       subst this;exact py ho h2.1 hy rfl
     . rw[List.length_map]at hy;refine py ho h2.1 hy ?_
       by_cases hne:ns=[]
       . subst hne;rfl
       . have h6:=h6 (by simpa using hne);rw[List.length_map,Nat.mul_one]at h6;obtain⟨el,fz,hrow⟩:=hH.ng k e c h3 h4;have h9:LR φ (ns.map (Value.int .u8)) ((c.toList.drop o').take ns.length):=⟨by simp;omega,λi a b ha hb=>by
          rw[List.getElem?_take]at hb;split at hb
          . rw[List.getElem?_drop,Array.getElem?_toList]at hb;have hcell:a.cells.toList=[a]:=by
             rw[List.getElem?_map]at ha;cases hn:ns[i]? with
             | none=>rw[hn]at ha;cases ha
             | some z=>rw[hn]at ha;cases ha;rfl
            refine h8 i 0 a a b ha (by rw[hcell];rfl) ?_;rw[Nat.mul_one,Nat.add_zero];exact hb
          . cases hb⟩
         have h10:=h9.ints;rw[<- h10];exact ri hrow (by omega)
   | false=>
     rw[hr]at h;have h:zd P s d y=some v:=h;unfold zd at h;obtain⟨h1,h2⟩:=aH h;obtain⟨h3,h4⟩:=sr h2;have e:=(hEx _ hx).al h1;refine⟨v,.flat v h3,?_⟩;simp only[execOp,ho,e,Sem.run_bind,h4 w,Result.andThen_ok];rfl
 . cases h
theorem HW {t:TypeId}{x ix:Operand}(ho:o.op= .index t x ix)(hE:pe P φ tm ρ o.op.operands.toList){v:Value}
 (h:cC P t (bq P tm x) (bq P tm ix)=some v) (w:World):∃v',VR φ v v'/\(execOp ρ o).run P w= .ok (.value v') w:=by
 unfold cC at h;split at h
 case h_2=>cases h
 rename_i k i0 hi;have h3:=(hE ix (by rw[ho];simp[Op.operands]) _ hi).al rfl;split at h
 . rename_i cs hx;obtain⟨i,rfl,h4⟩:=uJ h;clear h;obtain⟨c',h1,h2⟩:=(hE x (by rw[ho];simp[Op.operands]) _ hx).mI;have h2:LR φ cs c'.toList:=h2;unfold Mn at h4;cases hu:P.underlying t with
   | none=>simp only[hu]at h4;cases h4
   | some d=>
     cases d with
     | array len e=>
       simp only[hu]at h4;obtain⟨hlt,h⟩:=aH h4;have hlt:=fo hlt;cases ha:dG P e with
       | none=>simp only[ha]at h;cases h
       | some b=>
         simp only[ha]at h;cases b with
         | false=>
           cases hs:aN P e with
           | none=>simp only[hs]at h;cases h
           | some s=>
             simp only[hs]at h;obtain⟨v',h4,h5⟩:=h2.get h;have h6:c'[i*s]? = some v':=by simpa using h4
             exact⟨v',h5,by simp[execOp,ho,h1,h3,Instr.index,asIntOf,a_ hu,hlt,part,gp ha,ct hs,h6]⟩
         | true=>
           cases hs:aN P e with
           | none=>simp only[hs]at h;cases h
           | some s=>
             simp only[hs]at h;obtain⟨hle,h4⟩:=aH h;cases h4;refine⟨_,((h2.drop (i*s)).take s).agg,?_⟩;have e0:(⟨(c'.toList.drop (i*s)).take s⟩:Array Value)=c'.extract (i*s) (i*s+s):=by
              apply Array.ext';simp only[Array.toList_extract,List.extract_eq_take_drop];rw[show i*s+s-i*s=s from by omega]
             rw[e0];simp[execOp,ho,h1,h3,Instr.index,asIntOf,a_ hu,hlt,part,gp ha,ct hs]
     | _=>simp only[hu]at h4;cases h4
 . rename_i y _ hx;unfold A6 at h;obtain⟨h1,h2⟩:=aH h;simp only[Bool.and_eq_true]at h1;obtain⟨h4,h5⟩:=sr h2;have e:=(hE x (by rw[ho];simp[Op.operands]) _ hx).al h1.1;refine⟨v,.flat v h4,?_⟩;simp only[execOp,ho,e,h3,Sem.run_bind,h5 w,Result.andThen_ok];rfl
 . cases h
theorem sw (hH:HR P W φ (hp H) w)(hE:pe P φ tm ρ o.op.operands.toList){v:Value}(h:rd P H tm o=some v):
 ∃v',VR φ v v'/\(execOp ρ o).run P w= .ok (.value v') w:=by
 unfold rd at h;have one:∀x,o.op.operands.toList=[x]->∀v,bq P tm x=some v->VR φ v (ρ x):=λx hx=>hE x (by simp[hx]);cases ho:o.op with
 | move x=>simp only[ho]at h;exact CV (.inl ho) (one x (by rw[ho];rfl)) h w
 | assign x=>simp only[ho]at h;exact CV (.inr ho) (one x (by rw[ho];rfl)) h w
 | pick c a b=>simp only[ho]at h;exact Mz ho (λx hx=>hE x (by rw[ho];exact hx)) h w
 | load t x=>simp only[ho]at h;exact My hH ho (one x (by rw[ho];rfl)) h
 | nilCheck x=>simp only[ho]at h;exact Q_ ho (one x (by rw[ho];rfl)) h w
 | fieldAddr s x f=>simp only[ho]at h;exact vZ ho (one x (by rw[ho];rfl)) h w
 | indexAddr t x ix=>simp only[ho]at h;exact v5 ho (λy hy=>hE y (by rw[ho];exact hy)) h w
 | extract x i=>simp only[ho]at h;exact Bk ho (one x (by rw[ho];rfl)) h w
 | field t x f=>simp only[ho]at h;exact HP ho (one x (by rw[ho];rfl)) h w
 | slice t x lo hi mx=>simp only[ho]at h;exact HQ hH ho hE h
 | call c=>
   simp only[ho]at h;unfold rY at h;split at h
   . rename_i hc;exact Ra hc ho hE h w
   . rename_i hc;exact Bm (.inr (.inl rfl)) hc ho (λx hx v hv=>hE x (by rw[ho];simp[Op.operands,Call.operands,hc];simpa using hx) v hv) h w
   . rename_i hc;exact Bm (.inr (.inr rfl)) hc ho (λx hx v hv=>hE x (by rw[ho];simp[Op.operands,Call.operands,hc];simpa using hx) v hv) h w
   . cases h
 | binOp op t x y yt=>simp only[ho]at h;exact Re hH ho hE h
 | build t ps=>simp only[ho]at h;exact HT ho hE h w
 | makeInterface t x=>simp only[ho]at h;exact HU ho (one x (by rw[ho];rfl)) h w
 | unOp op _ x=>
   simp only[ho]at h;unfold iw at h;obtain⟨y,hy,h⟩:=ar h;obtain⟨h1,h2⟩:=aH h;obtain⟨h3,h4⟩:=sr h2;have e:=(one x (by rw[ho];rfl) y hy).al h1;refine⟨v,.flat v h3,?_⟩;simp only[execOp,ho,e,Sem.run_bind,h4 w,Result.andThen_ok];rfl
 | convert s d x=>simp only[ho]at h;exact MC hH ho hE h
 | makeFunc fn a b=>simp only[ho]at h;exact MB ho hE h w
 | typeAssert x xt t ok=>simp only[ho]at h;exact Gc ho (one x (by rw[ho];rfl)) h w
 | lookup t m k ok=>simp only[ho]at h;exact Gd hH ho (by rw[ho]at hE;exact hE) h
 | index t x ix=>simp only[ho]at h;exact HW ho hE h w
 | _=>simp only[ho]at h;cases h
end ops
end
end
end Go.Ev
namespace Go.Ev
open Go.RowKit (Below)
noncomputable section
set_option maxRecDepth 100000
set_option linter.unusedVariables false
set_option linter.unusedSimpArgs false
section
variable {P:Program}{W w:World}{φ:cK}{H:T OB}{tm:T Value}{ρ:Operand->Value}{g:Nat->Option OB}
def dq (l:List Value)(e:TypeId):OB:= .cells l.length (e8 l 0 .leaf) e
theorem fc {β:Type}(H:T OB)(nx:Nat)(e:TypeId)(l:List Value)(k:T OB->Nat->β):zg H nx e l k=k (set H (bits nx) (some (dq l e))) (nx+1):=by
 unfold zg;rw[du,aP,aL,aP];rfl
def fN (φ φ':cK)(g g':Nat->Option OB):Prop:=∀k,φ[k]? = some none->φ'[k]? = some none/\g' k=g k
theorem fN.refl (φ:cK)(g:Nat->Option OB):fN φ φ g g:=λ_ h=>⟨h,rfl⟩
theorem fN.trans {a b c:cK}{g g' g'':Nat->Option OB}(h:fN a b g g')(h':fN b c g' g''):fN a c g g'':=
 λk q=>⟨(h' k (h k q).1).1,((h' k (h k q).1).2).trans (h k q).2⟩
theorem c_ (φ:cK)(x:Option iz):φ.le (φ++[x]):=λk e h=>by
 rw[List.getElem?_append_left (List.getElem?_eq_some_iff.1 h).1];exact h
theorem fp (φ:cK)(x:Option iz):(φ++[x])[φ.length]? = some x:=by simp
theorem bM {φ:cK}{x:Option iz}{k:Nat}{e:iz}(h:(φ++[x])[k]? = some (some e)):φ[k]? = some (some e)\/(k=φ.length/\x=some e):=by
 by_cases hk:k<φ.length
 . rw[List.getElem?_append_left hk]at h;exact .inl h
 . rw[List.getElem?_append_right (by omega)]at h;have:k-φ.length=0:=by
    have:=(List.getElem?_eq_some_iff.1 h).1;simp at this;omega
   rw[this]at h;simp at h;exact .inr ⟨by omega,h⟩
theorem HR.MD {ψ:cK}(hH:HR P W φ g w)(hle:φ.le ψ):∀(k:Nat),k<P.globals.size->∃e:iz,ψ[k]? = some (some e)/\e.r=k:=
 λk hk=>let⟨e,a,b⟩:=hH.gl k hk;⟨e,hle k e a,b⟩
theorem HR.U5 (hH:HR P W φ g w)(ob:Option OB):HR P W (φ++[none]) (od g φ.length ob) w where
 below:=hH.below
 gl:=hH.MD (c_ φ none)
 qw:=λk o h=>by
  simp only[List.length_append,List.length_singleton]
  by_cases hk:k=φ.length
  . omega
  . rw[aK g hk]at h;have:=hH.qw k o h;omega
 pc:=λk e h=>by
  rcases bM h with h | ⟨_,h⟩
  . exact hH.pc k e h
  . cases h
 inj:=λk k' ob ob' e e' h h' hg hg' hl hl' hr=>by
  rcases bM h with h | ⟨_,h⟩
  . rcases bM h' with h' | ⟨_,h'⟩
    . have h1:=(List.getElem?_eq_some_iff.1 h).1;have h2:=(List.getElem?_eq_some_iff.1 h').1;rw[aK g (by omega)]at hg hg';exact hH.inj k k' ob ob' e e' h h' hg hg' hl hl' hr
    . cases h'
  . cases h
 obj:=λk ob e hg h=>by
  rcases bM h with h | ⟨_,h⟩
  . have h1:=(List.getElem?_eq_some_iff.1 h).1;rw[aK g (by omega)]at hg;exact(hH.obj k ob e hg h).mono (c_ φ none)
  . cases h
 ng:=λk e c h hf=>by
  rcases bM h with h | ⟨_,h⟩
  . exact hH.ng k e c h hf
  . cases h
 sq:=λk k' e e' c o h hf h' hg hl=>by
  rcases bM h with h | ⟨_,h⟩
  . rcases bM h' with h' | ⟨_,h'⟩
    . have h2:=(List.getElem?_eq_some_iff.1 h').1;rw[aK g (by omega)]at hg;exact hH.sq k k' e e' c o h hf h' hg hl
    . cases h'
  . cases h
theorem pz {φ:cK}{k:Nat}(hk:φ[k]? = some none)(e:iz):φ.le (φ.set k (some e)):=λj x h=>by
 rw[List.getElem?_set]
 by_cases hj:k=j
 . subst hj;rw[hk]at h;cases h
 . rw[if_neg hj];exact h
theorem ME {φ:cK}{k:Nat}(hk:φ[k]? = some none)(e:iz):(φ.set k (some e))[k]? = some (some e):=by
 have:=(List.getElem?_eq_some_iff.1 hk).1;simp[this]
theorem ig {φ:cK}{k j:Nat}{e x:iz}(h:(φ.set k (some e))[j]? = some (some x)):(j≠k/\φ[j]? = some (some x))\/(j=k/\x=e):=by
 rw[List.getElem?_set]at h
 by_cases hj:k=j
 . rw[if_pos hj]at h;split at h
   . cases h;exact .inr ⟨hj.symm,rfl⟩
   . cases h
 . rw[if_neg hj]at h;exact .inl ⟨λq=>hj q.symm,h⟩
theorem HR.bind (hH:HR P W φ g w){k:Nat}{ob:OB}(hk:φ[k]? = some none)(hg:g k=some ob)(o:Obj){sz es:Nat}(hob:zx P W φ ob ⟨w.heap.size,sz,es,none⟩ (w.alloc o)):
 HR P W (φ.set k (some ⟨w.heap.size,sz,es,none⟩)) g (w.alloc o) where
 below:=hH.below.alloc hH.below.size _
 gl:=hH.MD (pz hk _)
 qw:=λk o h=>by rw[List.length_set];exact hH.qw k o h
 pc:=λj e h=>by
  rw[World.size_alloc];rcases ig h with⟨_,h⟩ | ⟨_,rfl⟩
  . have:=hH.pc j e h;omega
  . show w.heap.size<w.heap.size+1;omega
 inj:=λa b oa ob' e e' h h' hga hgb hla hlb hr=>by
  rcases ig h with⟨_,h0⟩ | ⟨ha,hx⟩
  . rcases ig h' with⟨_,h1⟩ | ⟨hb,hy⟩
    . exact hH.inj a b oa ob' e e' h0 h1 hga hgb hla hlb hr
    . have:=hH.pc a e h0;rw[hy]at hr;have hr:e.r=w.heap.size:=hr;omega
  . rcases ig h' with⟨_,h1⟩ | ⟨hb,hy⟩
    . have:=hH.pc b e' h1;rw[hx]at hr;have hr:w.heap.size=e'.r:=hr;omega
    . exact ha.trans hb.symm
 obj:=λa oa e hga h=>by
  rcases ig h with⟨_,h0⟩ | ⟨ha,hx⟩
  . exact((hH.obj a oa e hga h0).heap (λ_=>Below.heap_alloc w _ _ (hH.pc a e h0))).mono (pz hk _)
  . subst ha;subst hx;rw[hg]at hga;cases hga;exact hob.mono (pz hk _)
 ng:=λa e c h hf=>by
  rcases ig h with⟨_,h0⟩ | ⟨ha,hx⟩
  . obtain⟨el,fz,hr⟩:=hH.ng a e c h0 hf;exact⟨el,fz,by rw[Below.heap_alloc w _ _ (hH.pc a e h0)];exact hr⟩
  . subst hx;cases hf
 sq:=λa b e e' c o h hf h' hga hl=>by
  rcases ig h with⟨_,h0⟩ | ⟨ha,hx⟩
  . rcases ig h' with⟨_,h1⟩ | ⟨hb,hy⟩
    . exact hH.sq a b e e' c o h0 hf h1 hga hl
    . have:=hH.pc a e h0;rw[hy];show w.heap.size≠e.r;omega
  . subst hx;cases hf
def fresh (φ:cK)(r sz es:Nat):cK:=(φ++[none]).set φ.length (some ⟨r,sz,es,none⟩)
theorem j_ (φ:cK)(r sz es:Nat):(fresh φ r sz es).length=φ.length+1:=by simp[fresh]
theorem ka (φ:cK)(r sz es:Nat):(fresh φ r sz es)[φ.length]? = some (some ⟨r,sz,es,none⟩):=by simp[fresh]
theorem lY (φ:cK)(r sz es:Nat):φ.le (fresh φ r sz es):=cK.le_trans (c_ φ none) (pz (fp φ none) _)
theorem iX (φ:cK)(r sz es:Nat)(g:Nat->Option OB)(x:Option OB):fN φ (fresh φ r sz es) g (od g φ.length x):=λk h=>by
 have hk:=(List.getElem?_eq_some_iff.1 h).1;refine⟨?_,aK g (by omega) x⟩;unfold fresh;rw[List.getElem?_set_ne (by omega),List.getElem?_append_left hk];exact h
theorem HR.fresh (hH:HR P W φ g w){ob:OB}(o:Obj){sz es:Nat}(hob:zx P W φ ob ⟨w.heap.size,sz,es,none⟩ (w.alloc o)):
 HR P W (Ev.fresh φ w.heap.size sz es) (od g φ.length (some ob)) (w.alloc o):=
 (hH.U5 (some ob)).bind (fp φ none) (da _ _ _) o (hob.mono (c_ φ none))
theorem HR.drew (hH:HR P W φ g w):HR P W φ g w.drew where
 below:=hH.below.drew
 gl:=hH.gl
 qw:=hH.qw
 pc:=hH.pc
 inj:=hH.inj
 obj:=λk ob e hg h=>(hH.obj k ob e hg h).heap λ_=>rfl
 ng:=λk e c h hf=>hH.ng k e c h hf
 sq:=hH.sq
theorem HR.put {w':World}(hH:HR P W φ g w){b:Nat}{ob0 ob':OB}{e:iz}(hg:g b=some ob0)(hl:live ob0=true)(hb:φ[b]? = some (some e))(hbel:Below W.heap.size W w')(lX:w'.heap.size=w.heap.size)
 (hoth:∀r,r≠e.r->w'.heap[r]? = w.heap[r]?) (hob:zx P W φ ob' e w'):HR P W φ (od g b (some ob')) w' where
 below:=hbel
 gl:=hH.gl
 qw:=λk o h=>by
  by_cases hk:k=b
  . subst hk;exact hH.qw k _ hg
  . rw[aK g hk]at h;exact hH.qw k o h
 pc:=λk x h=>by rw[lX];exact hH.pc k x h
 inj:=λk k' oa oa' x x' h h' hk hk' hla hla' hr=>by
  have hx:∀j oj,od g b (some ob') j=some oj->live oj=true->∃oj',g j=some oj'/\live oj'=true:=by
   intro j oj h hl'
   by_cases hj:j=b
   . subst hj;exact⟨_,hg,hl⟩
   . rw[aK g hj]at h;exact⟨_,h,hl'⟩
  obtain⟨_,q1,q2⟩:=hx k _ hk hla;obtain⟨_,q3,q4⟩:=hx k' _ hk' hla';exact hH.inj k k' _ _ x x' h h' q1 q3 q2 q4 hr
 obj:=λk oa x hk h=>by
  by_cases hkb:k=b
  . subst hkb;rw[da]at hk;cases hk;rw[hb]at h;cases h;exact hob
  . rw[aK g hkb]at hk;refine(hH.obj k oa x hk h).heap λhla=>hoth _ λq=>hkb (hH.inj k b _ _ x e h hb hk hg hla hl q)
 ng:=λk x c h hf=>by
  obtain⟨el,fz,hr⟩:=hH.ng k x c h hf;exact⟨el,fz,by rw[hoth _ (λq=>hH.sq k b x e c ob0 h hf hb hg hl q.symm)];exact hr⟩
 sq:=λk k' x x' c o h hf h' hk' hl'=>by
  by_cases hkb:k'=b
  . subst hkb;rw[hb]at h';cases h';exact hH.sq k k' x e c ob0 h hf hb hg hl
  . rw[aK g hkb]at hk';exact hH.sq k k' x x' c o h hf h' hk' hl'
theorem oy (g:Nat->Option OB)(b:Nat)(x y:Option OB):od (od g b x) b y=od g b y:=by
 funext j;unfold od;split<;>rfl
theorem HX (g:Nat->Option OB)(b:Nat)(x:Option OB)(h:g b=x):od g b x=g:=by
 funext j;unfold od;split
 . rename_i q;subst q;exact h.symm
 . rfl
theorem HR.kill (hH:HR P W φ g w){b n:Nat}{t:T Value}{el:TypeId}{e:iz}(hg:g b=some (.cells n t el))(hb:φ[b]? = some (some e)):HR P W φ (od g b (some .dead)) w:=
 hH.put hg rfl hb hH.below rfl (λ_ _=>rfl) trivial
theorem HR.store (hH:HR P W φ g w){b n j:Nat}{tr:T Value}{el:TypeId}{e:iz}(hg:g b=some (.cells n tr el))(hb:φ[b]? = some (some e))(hj:j<n)
 {v v':Value} (hv:VR φ v v'):HR P W φ (od g b (some (.cells n (set tr (bits j) (some v)) el))) (w.setCell ⟨e.r,j,none⟩ v'):=by
 obtain⟨hab,⟨c,el',hr,lX,hn,hc⟩,hes⟩:=hH.obj b _ e hg hb;refine hH.put hg rfl hb (hH.below.setCell hab v') (World.size_setCell ..) (λr hne=>heap_setCell_other w ⟨e.r,j,none⟩ r v' hne) ⟨hab,⟨c.setIfInBounds j v',el',heap_setCell_same w e.r j c el' v' hr,by simp[lX],hn,λi hi u hu=> ?_⟩,hes⟩;rw[get_at]at hu
 by_cases hij:i=j
 . subst hij;rw[if_pos rfl]at hu;cases hu;exact⟨v',by rw[Array.getElem?_setIfInBounds_self_of_lt (by omega)],hv⟩
 . rw[if_neg hij]at hu;obtain⟨u',h1,h2⟩:=hc i hi u hu;exact⟨u',by rw[Array.getElem?_setIfInBounds_ne (λq=>hij q.symm)];exact h1,h2⟩
theorem gB {b n:Nat}{el:TypeId}{e:iz}(hb:φ[b]? = some (some e)):∀(l l':List Value) (off i:Nat) (g:Nat->Option OB) (w:World) (tr:T Value),
 HR P W φ g w->g b=some (.cells n tr el)->LR φ l l'->l.all aj=true->off+i+l.length<=n->
 ∃w',(storeCells ⟨e.r,off,none⟩ l' i).run P w= .ok () w'/\HR P W φ (od g b (some (.cells n (e8 l (off+i) tr) el))) w'
 | [],l',off,i,g,w,tr,hH,hg,hl,_,_=>by
   cases hl.mH;exact⟨w,rfl,by rw[uI,HX g b _ hg];exact hH⟩
 | v::l,l',off,i,g,w,tr,hH,hg,hl,ho,hn=>by
   obtain⟨v',m,rfl,h1,h2⟩:=hl.inv;have ho':aj v=true/\l.all aj=true:=by simpa using ho
   have hlen:off+i+(l.length+1)<=n:=hn;have hS:=hH.store hg hb (j:=off+i) (by omega) h1;obtain⟨c,el',hr,lX,hnn,hc⟩:=hH.cells hg hb;obtain⟨w',hrun,hH'⟩:=gB hb l m off (i+1) _ _ (set tr (bits (off+i)) (some v)) hS (da _ _ _) h2 ho'.2 (by omega);refine⟨w',?_,?_⟩
   . have hcell:w.cell? ⟨e.r,off+i,none⟩=some c[off+i]:=by rw[cell_of_row w e.r _ c el' _ hr];exact Array.getElem?_eq_getElem (by omega)
     simp only[storeCells,Sem.run_bind,dH,run_store P w _ _ _ (h1.aj ho'.1),hcell,frozen_of_row w e.r _ c el' hr,Bool.false_eq_true,if_false,Result.andThen_ok];exact hrun
   . rw[oy]at hH';rw[se];exact hH'
end
section
variable {P:Program}{W w:World}{φ:cK}{H:T OB}{tm:T Value}{ρ:Operand->Value}{g:Nat->Option OB}
def jR (P:Program)(W:World)(φ:cK)(H:T OB)(w:World)(r:Result Next)(v:Value)(H':T OB)(nx':Nat):Prop:=
 ∃φ' v' w' x,r= .ok x w'/\(x= .value v'\/(x= .skip/\v'=undef))/\VR φ' v v'/\φ.le φ'/\HR P W φ' (hp H') w'/\φ'.length=nx'/\fN φ φ' (hp H) (hp H')
theorem uP (l:List Value)(i:Nat)(hi:i<l.length):(e8 l 0 .leaf).get (bits i)=l[i]? := by
 rw[dO,if_pos (by omega)];rfl
theorem v9 {l l':List Value}(hl:LR φ l l')(e e':TypeId)(rest:Array Value){es:Nat}(hes:∀z,aN P e=some z->es=z)(hb:Below W.heap.size W w):
 zx P W φ (dq l e) ⟨w.heap.size,(l'.toArray++rest).size,es,none⟩ (w.alloc (.cells (l'.toArray++rest) e')):=by
 refine⟨hb.size,⟨_,e',Go.heap_alloc_new w _,rfl,by simp[hl.len],λi hi v hv=> ?_⟩,hes⟩;rw[uP l i hi]at hv;obtain⟨v',h1,h2⟩:=hl.get hv;refine⟨v',?_,h2⟩;have hi':i<l'.toArray.size:=by simp;rw[<- hl.len];exact hi
 rw[Array.getElem?_append_left hi'];simpa using h1
theorem CY (hH:HR P W φ (hp H) w){l l':List Value}(hl:LR φ l l')(e e':TypeId){r:Result Next}{nx:Nat}(b_:φ.length=nx){mk:Nat->Value}{mk':Addr->Value}
 (hr:r= .ok (.value (mk' ⟨w.heap.size,0,none⟩)) (w.alloc (.cells l'.toArray e')))
 (hv:∀ ψ:cK,∀en:iz,ψ[nx]? = some (some en)->VR ψ (mk nx) (mk' ⟨en.r,0,none⟩)):
 jR P W φ H w r (mk nx) (set H (bits nx) (some (dq l e))) (nx+1):=by
 subst b_;refine⟨fresh φ w.heap.size (l'.toArray++#[]).size ((aN P e).getD 0),_,_,_,hr,.inl rfl,?_,lY _ _ _ _,?_,j_ _ _ _ _,?_⟩
 . exact hv _ _ (ka _ _ _ _)
 . rw[bw];have:=hH.fresh (.cells (l'.toArray++#[]) e') (v9 (P:=P) hl e e' #[] (es:=(aN P e).getD 0) (λz hz=>by rw[hz];rfl) hH.below);rw[Array.append_empty]at this;rw[Array.append_empty];exact this
 . rw[bw];exact iX _ _ _ _ _ _
theorem cu {α:Type}{x:Option α}{k:α->fj}{v:Value}{H':T OB}{nx':Nat}(h:af x k .bad= .val v H' nx'):∃a,x=some a/\k a= .val v H' nx':=by
 cases x with
 | none=>cases h
 | some a=>exact⟨a,rfl,h⟩
theorem dw {b:Bool}{x:fj}{v:Value}{H':T OB}{nx':Nat}(h:(bif b then x else .bad)= .val v H' nx'):b=true/\x= .val v H' nx':=by
 cases b
 . cases h
 . exact⟨rfl,h⟩
theorem sx {x:Option Value}{k:Nat->Nat->fj}{v:Value}{H':T OB}{nx':Nat}(h:zc x k .bad= .val v H' nx'):
 ∃b off,x=some (.pointer (some ⟨b,off,none⟩))/\k b off= .val v H' nx':=by
 unfold zc at h;split at h
 . exact⟨_,_,rfl,h⟩
 . cases h
theorem sy {x:Option OB}{k:Nat->T Value->TypeId->fj}{v:Value}{H':T OB}{nx':Nat}(h:dV x k .bad= .val v H' nx'):
 ∃n t e,x=some (.cells n t e)/\k n t e= .val v H' nx':=by
 unfold dV at h;split at h
 . exact⟨_,_,_,rfl,h⟩
 . cases h
theorem jB {t:TypeId}{k:TypeId->Nat->fj}{v:Value}{H':T OB}{nx':Nat}(h:dt P t k .bad= .val v H' nx'):
 ∃e s,P.underlying t=some (.slice e)/\aN P e=some s/\k e s= .val v H' nx':=by
 unfold dt at h;split at h
 . rename_i e he;obtain⟨s,h1,h2⟩:=cu h;exact⟨e,s,he,h1,h2⟩
 . cases h
section ops
variable {o:Oper}{v:Value}{H':T OB}{nx nx':Nat}
theorem HY (hH:HR P W φ (hp H) w)(b_:φ.length=nx){e:TypeId}(ho:o.op= .alloc e)(h:cD P H nx e= .val v H' nx'):
 jR P W φ H w ((execOp ρ o).run P w) v H' nx':=by
 unfold cD at h;obtain⟨l,hz,h⟩:=cu h;rw[fc]at h;cases h;obtain⟨i,z,hi,hz2,hl,hf⟩:=gU hz;refine CY (mk:=lz) (mk':=λa=> .pointer (some a)) hH (LR.of_flat hf) e e b_ ?_ (fun ψ en h=> .ptr h);subst hl;simp[execOp,ho,Instr.alloc,zeroValue,typeInfo,hi,hz2,newVar,newRow]
theorem Rf (hH:HR P W φ (hp H) w)(b_:φ.length=nx){e:TypeId}{x:Operand}(ho:o.op= .box e x)(hE:∀v,bq P tm x=some v->VR φ v (ρ x))
 (h:jz H nx e (bq P tm x)= .val v H' nx'):jR P W φ H w ((execOp ρ o).run P w) v H' nx':=by
 unfold jz at h;obtain⟨u,hu,h⟩:=cu h;rw[fc]at h;cases h;refine CY (mk:=lz) (mk':=λa=> .pointer (some a)) hH (hE u hu).cells e e b_ ?_ (fun ψ en h=> .ptr h);simp[execOp,ho,Instr.box,newVar,newRow]
theorem zB (hH:HR P W φ (hp H) w)(b_:φ.length=nx){t:TypeId}{a x:Operand}(ho:o.op= .store t a x)(hE:pe P φ tm ρ [a,x])
 (h:cI P H nx t (bq P tm a) (bq P tm x)= .val v H' nx'):jR P W φ H w ((execOp ρ o).run P w) v H' nx':=by
 unfold cI at h;obtain⟨b,off,ha,h⟩:=sx h;obtain⟨u,hu,h⟩:=cu h;obtain⟨n,tr,el,hg,h⟩:=sy h;obtain⟨s,hs,h⟩:=cu h;obtain⟨hc,h⟩:=dw h;rw[du,aL]at h;cases h;simp only[Bool.and_eq_true]at hc;have h1:=beq_eq hc.1.1;have h2:=db hc.1.2;obtain⟨e,hb,_,hpa⟩:=(hE a (by simp) _ ha).e_;have hcells:=(hE x (by simp) _ hu).cells;obtain⟨w',hrun,hH'⟩:=gB hb u.cells.toList (ρ x).cells.toList off 0 (hp H) w tr hH hg hcells hc.2 (by rw[h1];omega);refine⟨φ,undef,w',.skip,?_,.inr ⟨rfl,rfl⟩,.flat _ rfl,φ.le_refl,?_,b_,?_⟩
 . have lX:(ρ x).cells.size=s:=by have:=hcells.len;simp at this h1;omega
   simp only[execOp,ho,hpa,Instr.storeAt,Instr.sureAddr,Sem.run_bind,Sem.run_pure,Result.andThen_ok,storeVar,ct hs,lX];simp[hrun]
 . rw[bw];exact hH'
 . intro k hk;refine⟨hk,?_⟩;rw[bw,aK];intro q;subst q;rw[hb]at hk;cases hk
theorem oz {z:List Value}(hz:∀x∈z,flat x=true)(n:Nat):∀x∈(bH z n).toList,flat x=true:=by
 intro x hx;simp only[bH,Array.toList_map,List.mem_map]at hx;obtain⟨i,_,rfl⟩:=hx
 by_cases hi:i%z.toArray.size<z.toArray.size
 . rw[getElem!_pos z.toArray _ hi];exact hz _ (by simp)
 . rw[getElem!_neg z.toArray _ hi];rfl
theorem uj (hH:HR P W φ (hp H) w)(b_:φ.length=nx){t:TypeId}{len:Nat}{ps:Array (Nat×Operand)}(ho:o.op= .buildSlice t len ps)(hE:pe P φ tm ρ o.op.operands.toList)
 (h:aJ P H nx t len (parts P tm ps.toList)= .val v H' nx'):jR P W φ H w ((execOp ρ o).run P w) v H' nx':=by
 unfold aJ at h;obtain⟨vs,hvs,h⟩:=cu h;obtain⟨e,s,hu,hs,h⟩:=jB h;obtain⟨z,hz,h⟩:=cu h;obtain⟨hc,h⟩:=dw h;obtain⟨cells,hf,h⟩:=cu h;rw[fc,aP]at h;cases h;simp only[Bool.and_eq_true]at hc;have h1:=db hc.1.1;have h2:=fo hc.1.2;obtain⟨i,z',hi,hz',hl,hfl⟩:=gU hz;have hp:PR φ vs (ps.toList.map λp=>(p.1,ρ p.2)):=ow ps.toList vs (λp hp=>hE p.2 (by
  rw[ho];show p.2∈((ps.toList.map (·.2)).toArray).toList;simp only[List.toList_toArray];exact List.mem_map.2 ⟨p,hp,rfl⟩)) hvs
 obtain⟨cells',hf',hLR⟩:=rj (λi=>some (i*s,s)) hp _ (bH z (len*s)) cells (LR.of_flat (oz hfl _)) hf;refine CY (mk:=λk=> .slice (some ⟨k,0,none⟩) len len) (mk':=λa=> .slice (some a) len len) hH hLR e e b_ ?_ (fun ψ en h=> ?_)
 . have hzc:z.toArray=z'.cells:=by rw[<- hl]
   have hf'':Instr.fill (λi=>some (i*s,s)) (Array.map (λx=>z'.cells[x%z'.cells.size]!) (Array.range (len*s))) (ps.toList.map λp=>(p.1,ρ p.2))=some cells':=by
    rw[<- hzc];exact hf'
   have e24:(2:Nat)^24=16777216:=by decide
   have hne:¬(len*s>2^24):=by rw[e24];omega
   have hne0:¬(len*s=0):=by omega
   simp only[execOp,ho,Instr.buildSlice,Sem.run_bind,a_ hu,Result.andThen_ok,ct hs,if_neg hne,if_neg hne0,Sem.run_pure];have hzr:(zeroValue e).run P w= .ok z' w:=by simp[zeroValue,typeInfo,hi,hz']
   simp[hzr,hf'',newRow]
 . refine .slice h (.inl ⟨?_,rfl⟩);have:len<=len*s:=Nat.le_mul_of_pos_right len (Nat.pos_of_ne_zero (λq=>by rw[q]at h2;simp at h2));unfold eO;omega
theorem zC {n:Nat}(h:n<=274877906944):IntKind.i64.wrap (n:Int)=n:=by
 unfold IntKind.wrap;have:IntKind.i64.bits=64:=rfl;have:IntKind.i64.signed=true:=rfl;simp only[*,Bool.true_and];have e1:(n:Int)%2^64=n:=Int.emod_eq_of_lt (by omega) (by omega);rw[e1];rw[if_neg (by simp;omega)]
theorem ij (z:List Value):∀n,(cU z n).length=n*z.length
 | 0=>by simp[cU]
 | n+1=>by rw[cU,List.length_append,ij z n,Nat.succ_mul];omega
theorem oA (z:List Value):∀n i,i<n*z.length->(cU z n)[i]? = z[i%z.length]?
 | 0,i,h=>by omega
 | n+1,i,h=>by
   rw[cU]
   by_cases hi:i<z.length
   . rw[List.getElem?_append_left hi,Nat.mod_eq_of_lt hi]
   . rw[List.getElem?_append_right (by omega),oA z n _ (by rw[Nat.succ_mul]at h;omega)];rw[<- Nat.mod_eq_sub_mod (by omega)]
theorem CZ {z:List Value}(hz:0<z.length)(n:Nat):(bH z (n*z.length))=(cU z n).toArray:=by
 apply Array.ext
 . simp[bH,ij]
 . intro i h1 h2;simp only[bH,Array.size_map,Array.size_range]at h1;have hm:i%z.length<z.length:=Nat.mod_lt _ hz;have h3:=oA z n i h1;rw[List.getElem?_eq_getElem hm,List.getElem?_eq_getElem (by rw[ij];exact h1)]at h3;injection h3 with h3
   simp only[bH,Array.getElem_map,Array.getElem_range,List.getElem_toArray,List.size_toArray];rw[h3,getElem!_pos z.toArray _ (by simpa using hm)];simp
theorem run_makeSlice {t e:TypeId}{i:TypeInfo}{z':Value}{l c:Operand}{ln cn:Nat}(ho:o.op= .makeSlice t l c)(hρl:ρ l= .int .i64 (.ofNat ln))(hρc:ρ c= .int .i64 (.ofNat cn))(hu:P.underlying t=some (.slice e))
 (hi:P.info? e=some i) (hz':i.zero=some z') (lX:i.size=z'.cells.size) (h0:0<i.size) (h1:ln<=cn) (h2:i.bytes*cn<=281474976710656) (h3:cn<=274877906944) (w:World):
 (execOp ρ o).run P w= .ok (.value (.slice (some ⟨w.heap.size,0,none⟩) ln cn)) (w.alloc (.cells (bH z'.cells.toList (cn*i.size)) e)):=by
 have hs:aN P e=some i.size:=by unfold aN;rw[hi]
 have hzr:∀w,(zeroValue e).run P w= .ok z' w:=λw=>by simp[zeroValue,typeInfo,hi,hz']
 have w1:=zC (n:=ln) (by omega);have w2:=zC (n:=cn) h3;have b1:¬((i.bytes:Int)*(cn:Int)>2^48):=by
  have:(i.bytes:Int)*(cn:Int)=((i.bytes*cn:Nat):Int):=by simp
  rw[this];omega
 have hcond:(decide ((cn:Int)<0)||decide ((i.bytes:Int)*(cn:Int)>2^48)||decide ((ln:Int)<0)||decide ((ln:Int)>(cn:Int)))=false:=by
  simp only[Bool.or_eq_false_iff,decide_eq_false_iff_not];exact⟨⟨⟨by omega,b1⟩,by omega⟩,by omega⟩
 simp only[execOp,ho,Instr.makeSlice,Sem.run_bind,a_ hu,Result.andThen_ok,hρl,hρc,asInt,asIntOf,Sem.run_pure,typeInfo,run_program,hi,Int.ofNat_eq_natCast,w1,w2];simp only[hcond]
 by_cases hc0:cn=0
 . subst hc0;have e0:Array.range 0=#[]:=Array.ext' (by simp);simp[ct hs,newRow,bH,e0]
 . have hne:¬(cn*i.size=0):=λq=>by
    rcases Nat.mul_eq_zero.1 q with q | q<;>omega
   simp[ct hs,newRow,bH,hzr];exact λq=>absurd q hne
theorem U6 (hH:HR P W φ (hp H) w)(b_:φ.length=nx){t:TypeId}{l c:Operand}(ho:o.op= .makeSlice t l c){e:TypeId}(hu:P.underlying t=some (.slice e)){ln cn:Nat}(hρl:ρ l= .int .i64 (.ofNat ln))(hρc:ρ c= .int .i64 (.ofNat cn))
 (h:F3 P H nx e ln cn= .val v H' nx'):jR P W φ H w ((execOp ρ o).run P w) v H' nx':=by
 unfold F3 at h;split at h
 case h_2=>cases h
 rename_i i z hi hz;obtain⟨hb,h⟩:=dw h;simp only[Bool.and_eq_true]at hb;have h1:=db hb.1.1.1.1;have h2:=db hb.1.1.1.2;have h3:=db hb.1.1.2;have h4:=beq_eq hb.1.2;have h0:=fo hb.2;subst b_;obtain⟨i',z',hi',hz',hzl,hfl⟩:=gU hz;rw[hi]at hi';cases hi';have lX:i.size=z'.cells.size:=by rw[h4,<- hzl];simp
 have hs:aN P e=some i.size:=by unfold aN;rw[hi]
 have hrun:=run_makeSlice (P:=P) (ρ:=ρ) ho hρl hρc hu hi hz' lX h0 h1 h2 h3 w;rw[hzl,h4]at hrun;split at h
 . rename_i z0 hb0;rw[aL,aP]at h;cases h;have hfull:∀k,k<cn->(full 40 z0).get (bits k)=some z0:=λk hk=>sb z0 40 _ (zp (by
    have:(2:Nat)^40=1099511627776:=by decide
    omega))
   rw[CZ (by simp)]at hrun;refine⟨fresh φ w.heap.size (cU [z0] cn).toArray.size 1,_,_,_,hrun,.inl rfl,.slice (ka _ _ _ _) (.inl ⟨by unfold eO;omega,rfl⟩),lY _ _ _ _,?_,j_ _ _ _ _,?_⟩
   . rw[bw];refine hH.fresh _ ⟨hH.below.size,⟨_,e,Go.heap_alloc_new w _,rfl,by simp[ij],λk hk v hv=> ?_⟩,λy hy=>by rw[hs]at hy;cases hy;rw[h4];rfl⟩;rw[hfull k hk]at hv;cases hv;refine⟨z0,?_,.flat z0 (hfl z0 (by simp))⟩;rw[List.getElem?_toArray,oA [z0] cn k (by simpa using hk)];simp[Nat.mod_one]
   . rw[bw];exact iX _ _ _ _ _ _
 . obtain⟨hbig,h⟩:=dw h;rw[fc]at h;cases h;rw[CZ (by omega)]at hrun;exact CY (mk:=λk=> .slice (some ⟨k,0,none⟩) ln cn) (mk':=λa=> .slice (some a) ln cn) hH (LR.of_flat (l:=cU z cn) (λx hx=>by
    obtain⟨k,hk,rfl⟩:=List.mem_iff_getElem.1 hx;have hk':=hk;rw[ij]at hk';have h5:=oA z cn k hk';rw[List.getElem?_eq_getElem hk]at h5;exact hfl _ (List.mem_of_getElem? h5.symm))) e e rfl hrun (fun ψ en hen=> .slice hen (.inl ⟨by unfold eO;omega,rfl⟩))
theorem uQ {i:Int}{k:Nat->fj}{v:Value}{H':T OB}{nx':Nat}(h:iS i k .bad= .val v H' nx'):∃n:Nat,i= .ofNat n/\k n= .val v H' nx':=by
 cases i with
 | ofNat n=>exact⟨n,rfl,(aP n k).symm.trans h⟩
 | negSucc n=>cases h
theorem v_ (hH:HR P W φ (hp H) w)(b_:φ.length=nx){t:TypeId}{l c:Operand}(ho:o.op= .makeSlice t l c)(hE:pe P φ tm ρ [l,c])
 (h:ic P H nx t (bq P tm l) (bq P tm c)= .val v H' nx'):jR P W φ H w ((execOp ρ o).run P w) v H' nx':=by
 unfold ic at h;split at h
 case h_2=>cases h
 rename_i ln0 cn0 e hl hc hu;obtain⟨ln,rfl,h1⟩:=uQ h;obtain⟨cn,rfl,h2⟩:=uQ h1;exact U6 hH b_ ho hu ((hE l (by simp) _ hl).al rfl) ((hE c (by simp) _ hc).al rfl) h2
end ops
end
end
end Go.Ev
