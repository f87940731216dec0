/- Texts of this claim, side by side. -/
import Derived.Orders
import Derived.Laws.Tables
import Derived.Below
import Derived.WalkKit
import Derived.MapKept
import Derived.Laws.BytesString
import Derived.Laws.StructEq
namespace Go.Ev
noncomputable section
set_option maxRecDepth 100000
set_option linter.unusedVariables false
set_option linter.unusedSimpArgs false
inductive T (α:Type) where
 | leaf
 | node (x:Option α) (l r:T α)
def jY (f:Nat):Nat->List Bool:=
 @Nat.rec (λ_=>Nat->List Bool) (λ_=>[])
  (λ_ ih k=>Nat.casesOn k [] λm=>Nat.casesOn (Nat.mod m 2) (false::ih (Nat.div m 2)) λ_=>true::ih (Nat.div m 2)) f
def bits (k:Nat):List Bool:=jY k k
def T.get {α:Type}(bs:List Bool):T α->Option α:=
 @List.rec Bool (λ_=>T α->Option α) (λt=>@T.rec α (λ_=>Option α) none (λx _ _ _ _=>x) t)
  (λb _ ih t=>@T.rec α (λ_=>Option α) none (λ_ l r _ _=>@Bool.rec (λ_=>Option α) (ih l) (ih r) b) t) bs
def cJ {α β:Type}(bs:List Bool):T α->Option α->(T α->β)->β:=
 @List.rec Bool (λ_=>T α->Option α->(T α->β)->β)
  (λt v k=>@T.rec α (λ_=>β) (k (.node v .leaf .leaf)) (λ_ l r _ _=>k (.node v l r)) t)
  (λb _ ih t v k=>@Bool.rec (λ_=>β)
   (@T.rec α (λ_=>β) (ih .leaf v λl'=>k (.node none l' .leaf)) (λx l r _ _=>ih l v λl'=>k (.node x l' r)) t)
   (@T.rec α (λ_=>β) (ih .leaf v λr'=>k (.node none .leaf r')) (λx l r _ _=>ih r v λr'=>k (.node x l r')) t) b) bs
def full {α:Type}:Nat->α->T α
 | 0,_=> .leaf
 | d+1,v=> .node (some v) (full d v) (full d v)
def dG {α β:Type}(l:List α):Nat->T α->(T α->β)->β:=
 @List.rec α (λ_=>Nat->T α->(T α->β)->β) (λ_ t k=>k t)
  (λv _ ih i t k=>cJ (bits i) t (some v) λt'=>ih (Nat.succ i) t' k) l
def mZ {α:Type}(t:T α)(n:Nat):Nat->Option (List α):=
 @Nat.rec (λ_=>Nat->Option (List α)) (λ_=>some [])
  (λ_ ih i=>Option.casesOn (t.get (bits i)) none λv=>Option.casesOn (ih (Nat.succ i)) none λl=>some (v::l)) n
def bK {β:Type}(b:Bool)(x y:β):β:=@Bool.rec (λ_=>β) y x b
def bN {β:Type}(n:Nat)(k:Nat->β):β:=match n with | 0=>k 0 | m+1=>k (Nat.succ m)
def JI {β:Type}(n:Int)(k:Int->β):β:=match n with | .ofNat m=>bN m λm=>k (.ofNat m) | .negSucc m=>bN m λm=>k (.negSucc m)
def H_ {β:Type}(i:IntKind)(k:IntKind->β):β:=
 match i with | .i8=>k .i8 | .i16=>k .i16 | .i32=>k .i32 | .i64=>k .i64 | .u8=>k .u8 | .u16=>k .u16 | .u32=>k .u32 | .u64=>k .u64
def Ia {β:Type}(b:Bool)(k:Bool->β):β:=match b with | true=>k true | false=>k false
def xH {β:Type}(a:Addr)(k:Addr->β):β:=match a with
 | ⟨b,o,none⟩=>bN b λb=>bN o λo=>k ⟨b,o,none⟩
 | ⟨b,o,some s⟩=>k ⟨b,o,some s⟩
def p_ {β:Type}(v:Value)(k:Value->β):β:=match v with
 | .bool b=>Ia b λb=>k (.bool b)
 | .int i n=>H_ i λi=>JI n λn=>k (.int i n)
 | .pointer none=>k (.pointer none)
 | .pointer (some a)=>xH a λa=>k (.pointer (some a))
 | .slice none l c=>bN l λl=>bN c λc=>k (.slice none l c)
 | .slice (some a) l c=>xH a λa=>bN l λl=>bN c λc=>k (.slice (some a) l c)
 | v=>k v
def tP {β:Type}:List Value->(List Value->β)->β
 | [],k=>k []
 | v::l,k=>p_ v λv=>tP l λl=>k (v::l)
def nN {β:Type}(v:Value)(k:Value->β):β:=match v with
 | .agg ⟨l⟩=>tP l λl=>k (.agg ⟨l⟩)
 | .tuple ⟨l⟩=>tP l λl=>k (.tuple ⟨l⟩)
 | v=>p_ v k
def ga:Nat->Value->Bool
 | 0,_=>false
 | n+1,v=>match v with
   | .bool _=>true
   | .int _ _=>true
   | .float _ _=>true
   | .complex _ _ _=>true
   | .string _=>true
   | .pointer a=>match a with | none=>true | some _=>false
   | .slice a _ _=>match a with | none=>true | some _=>false
   | .map r=>match r with | none=>true | some _=>false
   | .chan r=>match r with | none=>true | some _=>false
   | .nilFunc=>true
   | .nilIface=>true
   | .iface _ v=>ga n v
   | .agg c=>c.toList.all (ga n)
   | .tuple c=>c.toList.all (ga n)
   | .func _ a b=>a.toList.isEmpty&&b.toList.isEmpty
def flat (v:Value):Bool:=ga 5 v
def bc (s:Nat)(es:List Value):Value:= .func (.yield s) ⟨es⟩ ⟨[.nilFunc]⟩
def ai (v:Value):Value:= .func (.yield 0) ⟨[v]⟩ ⟨[.nilIface]⟩
def fc {β:Type}(v:Value)(k:Nat->List Value->β)(bad:β):β:=match v with
 | .func (.yield s) ⟨es⟩ ⟨[.nilFunc]⟩=>k s es
 | _=>bad
def LZ {β:Type}(v:Value)(k:Value->β)(bad:β):β:=match v with
 | .func (.yield _) ⟨[u]⟩ ⟨[.nilIface]⟩=>k u
 | _=>bad
def ra (i:Int):Bool:=match i with | .ofNat _=>true | .negSucc _=>false
def gb {β:Type}(i:Int)(k:Nat->β)(bad:β):β:=bK (ra i) (bN i.toNat k) bad
def dP:Nat:=9223372036854775808
inductive OB where
 | cells (n:Nat) (t:T Value) (elem:TypeId)
 | ro (n:Nat) (t:T Value)
 | dead
 | map (es:List MapEntry) (clock:Nat)
 | iter (m:Option Nat) (since:Nat) (seen:List Nat) (last:Nat)
def bD {α:Type}(P:Program):Sem α->Option α
 | .pure a=>some a
 | .program k=>bD P (k P)
 | .mark _ k=>bD P k
 | _=>none
def br (P:Program)(tm:T Value):Operand->Option Value
 | .tmp t=>tm.get (bits t)
 | .const v=>bif flat v then some v else none
 | .global g=>bif Nat.blt g P.globals.size then some (.pointer (some ⟨g,0,none⟩))else none
 | .func f=>some (.func (.func f) #[] #[])
def a6 (P:Program)(t:TypeId):Option Nat:=match P.info? t with | some i=>some i.size | none=>none
def cP (P:Program)(t:TypeId):Option Bool:=match P.underlying t with
 | some (.struct _)=>some true
 | some (.array _ _)=>some true
 | some _=>some false
 | none=>none
def bE (P:Program)(t:TypeId):Option (List Value):=match P.info? t with
 | some i=>match i.zero with
   | some v=>bif v.cells.toList.all flat then some v.cells.toList else none
   | none=>none
 | none=>none
def au:Value->Bool
 | .agg _=>false
 | .tuple _=>false
 | _=>true
def m4 (P:Program)(tm:T Value):List Operand->Option (List Value)
 | []=>some []
 | x::l=>match br P tm x with
   | none=>none
   | some v=>match m4 P tm l with
     | none=>none
     | some vs=>some (v::vs)
def aa {α β:Type}(x:Option α)(k:α->β)(bad:β):β:=@Option.rec α (λ_=>β) bad k x
def tQ {β:Type}(v:Option Value)(k:Nat->Nat->β)(bad:β):β:=match v with
 | some (.pointer (some ⟨b,off,none⟩))=>k b off
 | _=>bad
def dh {β:Type}(x:Option OB)(k:Nat->T Value->TypeId->β)(bad:β):β:=match x with
 | some (.cells n t e)=>k n t e
 | _=>bad
def pO {β:Type}(x:Option OB)(k:Nat->T Value->β)(bad:β):β:=match x with
 | some (.cells n t _)=>k n t
 | some (.ro n t)=>k n t
 | _=>bad
def cV {β:Type}(P:Program)(t:TypeId)(k:TypeId->Nat->β)(bad:β):β:=match P.underlying t with
 | some (.slice e)=>aa (a6 P e) (λs=>k e s) bad
 | _=>bad
def nO (n:Nat)(tr:T Value)(off:Nat):Option Value:=bif Nat.blt off n then tr.get (bits off)else none
def nP (P:Program)(n:Nat)(tr:T Value)(t:TypeId)(off:Nat):Option Value:=
 aa (a6 P t) (λs=>bif Nat.ble (off+s) n then aa (mZ tr s off) (λl=>some (.agg ⟨l⟩)) none else none) none
def iW (P:Program)(n:Nat)(tr:T Value)(t:TypeId)(off:Nat):Option Value:=
 aa (cP P t) (λa=>bif a then nP P n tr t off else nO n tr off) none
def iM (P:Program)(H:T OB)(t:TypeId)(b off:Nat):Option Value:=
 pO (H.get (bits b)) (λn tr=>iW P n tr t off) none
def parts (P:Program)(tm:T Value):List (Nat×Operand)->Option (List (Nat×Value))
 | []=>some []
 | p::l=>match br P tm p.2 with
   | none=>none
   | some v=>match parts P tm l with
     | none=>none
     | some vs=>some ((p.1,v)::vs)
def vR (v:Option Value):Option Nat:=match v with
 | some (.int _ i)=>bif ra i then some i.toNat else none
 | _=>none
def eA (P:Program)(tm:T Value)(x:Option Operand):Option (Option Value):=match x with
 | none=>some none
 | some x=>match br P tm x with
   | some v=>some (some v)
   | none=>none
def bound (x:Option (Option Value))(d:Nat):Option Nat:=match x with
 | some none=>some d
 | some (some v)=>vR (some v)
 | none=>none
def nQ (r:Option Next):Option Value:=match r with
 | some (.value v)=>nN v λv=>bif flat v then some v else none
 | _=>none
def vS (s:Sem Value):Sem Next:=do pure (.value (<- s))
def fV (P:Program)(s:Sem Value):Option Value:=nQ (bD P (vS s))
def jZ (P:Program)(op:UnOp)(a:Option Value):Option Value:=aa a (λa=>bif flat a then fV P (Op.unary op a)else none) none
def tR (P:Program)(s d:TypeId)(a:Value):Option Value:=bif flat a then fV P (convert s d a)else none
def xI (x:Option Value):Bool:=match x with | none=>true | some v=>flat v
def lK (P:Program)(t:TypeId)(a:Value)(lo hi mx:Option (Option Value)):Option Value:=
 aa lo (λlo=>aa hi (λhi=>aa mx (λmx=>bif flat a&&(xI lo&&(xI hi&&xI mx))then fV P (Instr.sliceAt t a lo hi mx)else none) none) none) none
def vT (P:Program)(t:TypeId)(a i:Value):Option Value:=bif flat a&&flat i then fV P (Instr.index t a i)else none
def hJ (P:Program)(b:Builtin)(ts:Array TypeId)(ty:TypeId)(vs:Option (List Value)):Option Value:=
 aa vs (λl=>bif l.all flat then nQ (bD P (builtin b ts ty #[] ⟨l⟩))else none) none
def vU (d:TypeDesc)(x y:Value):Option Bool:=match d,x,y with
 | .pointer _,.pointer (some _),.pointer none=>some false
 | .pointer _,.pointer none,.pointer (some _)=>some false
 | .slice _,.slice (some _) _ _,.slice none _ _=>some false
 | .slice _,.slice none _ _,.slice (some _) _ _=>some false
 | .map _ _,.map (some _),.map none=>some false
 | .map _ _,.map none,.map (some _)=>some false
 | .interface _,.iface _ _,.nilIface=>some false
 | .interface _,.nilIface,.iface _ _=>some false
 | .pointer _,.func (.yield _) ⟨[_]⟩ ⟨[.nilIface]⟩,.pointer none=>some false
 | .pointer _,.pointer none,.func (.yield _) ⟨[_]⟩ ⟨[.nilIface]⟩=>some false
 | .slice _,.func (.yield _) ⟨_::_⟩ ⟨[.nilFunc]⟩,.slice none _ _=>some false
 | .slice _,.slice none _ _,.func (.yield _) ⟨_::_⟩ ⟨[.nilFunc]⟩=>some false
 | _,_,_=>none
def kb (v:Value):Bool:=match v with
 | .agg _=>true
 | _=>false
def pM (a:Option Bool)(s:Option Nat)(u:Value):Option Value:=
 aa a (λa=>aa s (λs=>bif (bK a (kb u) (!kb u))&&Nat.beq u.cells.toList.length s then some u else none) none) none
def ae (P:Program)(H:T OB)(t:TypeId)(v:Option Value):Option Value:=match v with
 | some (.pointer (some ⟨b,off,none⟩))=>iM P H t b off
 | some v=>LZ v (pM (cP P t) (a6 P t)) none
 | none=>none
def nR (c a b:Option Value):Option Value:=match c with
 | some (.bool x)=>bK x a b
 | _=>none
def aP (v:Option Value):Option Value:=match v with
 | some (.pointer (some a))=>some (.pointer (some a))
 | some (.func (.func g) a b)=>some (.func (.func g) a b)
 | some (.iface t v)=>some (.iface t v)
 | some v=>LZ v (λ_=>some v) none
 | none=>none
def iX (P:Program)(s:TypeId)(f:Nat):Option Nat:=match P.underlying s with
 | some (.struct fs)=>match fs[f]? with
   | some fd=>match a6 P fd.type with
     | some (_+1)=>some fd.offset
     | _=>none
   | none=>none
 | _=>none
def qa {β:Type}(P:Program)(t:TypeId)(k:Nat->Nat->β)(bad:β):β:=match P.underlying t with
 | some (.array len e)=>aa (a6 P e) (λs=>k len s) bad
 | _=>bad
def Fg (z:Option Nat)(s:Nat)(es:List Value)(i:Nat):Option Value:=aa z (λz=>bif Nat.beq s z then aa es[i]? (λu=>some (ai u)) none else none) none
def nS (P:Program)(t:TypeId):Option Nat:=cV P t (λ_ s=>some s) none
def Fh (P:Program)(t:TypeId)(x:Option Value)(i:Nat):Option Value:=match x with
 | some (.slice (some ⟨b,off,none⟩) len _)=>aa (nS P t) (λs=>bif Nat.blt i len then bN (Nat.add off (Nat.mul i s)) (λo=>some (.pointer (some ⟨b,o,none⟩)))else none) none
 | some (.pointer (some ⟨b,off,none⟩))=>
   qa P t (λlen s=>bif Nat.blt i len then bN (Nat.add off (Nat.mul i s)) (λo=>some (.pointer (some ⟨b,o,none⟩)))else none) none
 | some v=>fc v (λs es=>Fg (nS P t) s es i) none
 | none=>none
def ay (P:Program)(t:TypeId)(x ix:Option Value):Option Value:=match ix with
 | some (.int _ i)=>gb i (Fh P t x) none
 | _=>none
def Fi (P:Program)(t:TypeId)(cs:List Value)(i:Nat):Option Value:=match P.underlying t with
    | some (.array len e)=>bif Nat.blt i len then(match cP P e with
      | some true=>match a6 P e with
        | some s=>bif Nat.ble (i*s+s) cs.length then some (.agg ⟨(cs.drop (i*s)).take s⟩)else none
        | none=>none
      | some false=>match a6 P e with
        | some s=>cs[i*s]?
        | none=>none
      | none=>none)else none
    | _=>none
def aH (P:Program)(t:TypeId)(x ix:Option Value):Option Value:=match ix with
 | some (.int k i)=>(match x with
   | some (.agg ⟨cs⟩)=>gb i (Fi P t cs) none
   | some v=>vT P t v (.int k i)
   | none=>none)
 | _=>none
def ar (v:Option Value)(i:Nat):Option Value:=match v with
 | some (.tuple vs)=>vs.toList[i]?
 | _=>none
def hU (P:Program)(t:TypeId)(f:Nat):Option (Nat×Option Nat):=match P.underlying t with
 | some (.struct fs)=>match fs[f]? with
   | some fd=>match cP P fd.type with
     | some true=>match a6 P fd.type with
       | some s=>some (fd.offset,some s)
       | none=>none
     | some false=>some (fd.offset,none)
     | none=>none
   | none=>none
 | _=>none
def OH (p:Option (Nat×Option Nat))(cs:List Value):Option Value:=match p with
    | some (off,some s)=>bif Nat.ble (off+s) cs.length then some (.agg ⟨(cs.drop off).take s⟩)else none
    | some (off,none)=>cs[off]?
    | none=>none
def rdField (P:Program)(t:TypeId)(v:Option Value)(f:Nat):Option Value:=match v with
 | some (.agg ⟨cs⟩)=>OH (hU P t f) cs
 | _=>none
def OI (p:Option (Nat×Option Nat))(cs:List Value):Option Value:=match p with
    | some (off,some s)=>bif Nat.ble (off+s) cs.length then some (.agg ⟨(cs.drop off).take s⟩)else none
    | some (off,none)=>aa cs[off]? (λv=>bif au v then some v else none) none
    | none=>none
def OJ (d:Option Nat)(p:Option (Nat×Option Nat))(v:Value):Option Value:=match v with
 | .pointer (some ⟨b,off,none⟩)=>aa d (λd=>bN (Nat.add off d) λo=>some (.pointer (some ⟨b,o,none⟩))) none
 | v=>LZ v (λu=>aa d (λ_=>match u with
   | .agg ⟨cs⟩=>aa (OI p cs) (λx=>some (ai x)) none
   | _=>none) none) none
def ab (P:Program)(s:TypeId)(v:Option Value)(f:Nat):Option Value:=aa v (OJ (iX P s f) (hU P s f)) none
def iY (b off cap s l h:Nat):Option Value:=
 bif Nat.ble l h&&Nat.ble h cap&&Nat.blt cap dP then
  bN (Nat.sub h l) λn=>(bif Nat.beq cap l then some (.slice (some ⟨b,off,none⟩) n 0)else bN (Nat.add off (Nat.mul l s)) λo=>bN (Nat.sub cap l) λc=>some (.slice (some ⟨b,o,none⟩) n c))
 else none
def pP (P:Program)(H:T OB)(b s:Nat):Bool:=dh (H.get (bits b)) (λ_ _ el=>aa (a6 P el) (λz=>Nat.beq z s) false) false
def lL (P:Program)(H:T OB)(b off len s l h:Nat):Option Value:=
 bif Nat.ble l h&&Nat.ble h len then
  (bif Nat.beq l 0 then some (.slice (some ⟨b,off,none⟩) h dP)
   else bif Nat.blt l len&&pP P H b s then bN (Nat.sub h l) (λn=>bN (Nat.add off (Nat.mul l s)) λo=>some (.slice (some ⟨b,o,none⟩) n dP))else none)
 else none
def OK (es:List Value)(s l h:Nat):Option Value:=bif Nat.ble l h&&Nat.ble h es.length then some (bc s ((es.drop l).take (h-l)))else none
def lM (v:Value):Bool:=fc v (λ_ _=>true) false
def bm (P:Program)(H:T OB)(t:TypeId)(x:Option Value)(lo hi mx:Option (Option Value)):Option Value:=match x with
 | some (.slice (some ⟨b,off,none⟩) len cap)=>bif (match mx with | some none=>true | _=>false)then
   aa (nS P t) (λs=>aa (bound lo 0) (λl=>aa (bound hi len) (λh=>bif Nat.beq cap dP then lL P H b off len s l h else iY b off cap s l h) none) none) none else none
 | some (.pointer (some ⟨b,off,none⟩))=>bif (match mx with | some none=>true | _=>false)then
   qa P t (λn s=>aa (bound lo 0) (λl=>aa (bound hi n) (λh=>iY b off n s l h) none) none) none else none
 | some v=>bK (lM v) (bif (match mx with | some none=>true | _=>false)then fc v (λs es=>aa (nS P t) (λz=>bif Nat.beq s z then aa (bound lo 0) (λl=>aa (bound hi es.length) (λh=>OK es s l h) none) none else none) none) none else none) (lK P t v lo hi mx)
 | none=>none
def eC (P:Program)(t:Option TypeId):Bool:=match t with
 | some t=>match P.underlying t with
   | some (.slice _)=>true
   | _=>false
 | none=>false
def aM (P:Program)(ts:Array TypeId)(ty:TypeId)(vs:Option (List Value)):Option Value:=match vs with
 | some [.slice (some _) n _]=>bif eC P ts[0]? then some (.int .i64 (.ofNat n))else none
 | some [v]=>bK (lM v) (fc v (λ_ es=>bif eC P ts[0]? then some (.int .i64 (.ofNat es.length))else none) none) (hJ P .len ts ty (some [v]))
 | _=>none
def B1 (P:Program)(op:BinOp)(t:TypeId)(a b:Value):Option Value:=match P.underlying t with
 | some d=>match vU d a b with
   | some r=>(match op with
     | .eql=>some (.bool r)
     | .neq=>some (.bool (!r))
     | _=>none)
   | none=>none
 | none=>none
def hZ (H:T OB)(b:Nat):Bool:=dh (H.get (bits b)) (λ_ _ _=>true) false
def nT (P:Program)(H:T OB)(op:BinOp)(t:TypeId)(a b:Value):Option Value:=match P.underlying t,a,b with
 | some (.pointer e),.pointer (some ⟨x,i,none⟩),.pointer (some ⟨y,j,none⟩)=>match a6 P e with
   | some (_+1)=>bif hZ H x&&hZ H y then(match op with
     | .eql=>some (.bool (Nat.beq x y&&Nat.beq i j))
     | .neq=>some (.bool (!(Nat.beq x y&&Nat.beq i j)))
     | _=>none)else none
   | _=>none
 | _,_,_=>B1 P op t a b
def nU (v:Value):Bool:=match v with
 | .nilIface=>true
 | _=>false
def pQ (x:Operand):Bool:=match x with
 | .const _=>true
 | _=>false
def Ox:Operand:= .const .nilIface
def vV (P:Program)(op:BinOp)(t:TypeId)(a b:Value):Option Value:=fV P (do eqGuard op t Ox Ox a b;binOp op t a b)
def re (k:Nat)(v w:Value):Option Bool:=match k,v,w with
 | 0,.int k a,.int k' b=>bif decide (k=k')then some (a == b)else none
 | 1,.string a,.string b=>some (a.toList == b.toList)
 | 2,.bool a,.bool b=>some (a == b)
 | _,_,_=>none
def mr (ks:List Nat)(l m:List Value):Option Bool:=match ks,l,m with
 | [],[],[]=>some true
 | k::ks,a::l,b::m=>aa (re k a b) (λr=>aa (mr ks l m) (λr'=>some (r&&r')) none) none
 | _,_,_=>none
def qb (P:Program)(t:TypeId):Option Nat:=match P.underlying t with
 | some (.int _)=>some 0
 | some .string=>some 1
 | some .bool=>some 2
 | _=>none
def m_ (P:Program):List Field->Nat->Option (List Nat)
 | [],_=>some []
 | f::fs,i=>bif !(f.name == "_")&&Nat.beq f.offset i then aa (qb P f.type) (λk=>aa (m_ P fs (i+1)) (λks=>some (k::ks)) none) none else none
def vW (P:Program)(t:TypeId):Option (List Nat):=match P.underlying t with
 | some (.struct fs)=>bif !P.stoodInHeld t && !P.eqGuardType P.depth t then m_ P fs.toList 0 else none
 | _=>none
def OL (op:BinOp)(r:Bool):Option Value:=match op with
 | .eql=>some (.bool r)
 | .neq=>some (.bool (!r))
 | _=>none
def iZ (P:Program)(H:T OB)(op:BinOp)(t:TypeId)(q:Bool)(a b:Value):Option Value:=
 bif flat a&&flat b then(bif q || !(nU a&&nU b)then vV P op t a b else none)else nT P H op t a b
def B2 (n:Option (List Nat))(op:BinOp)(l m:List Value)(bad:Option Value):Option Value:=match n with
 | some ks=>aa (mr ks l m) (OL op) none
 | none=>bad
def vX (P:Program)(H:T OB)(op:BinOp)(t:TypeId)(q:Bool)(a b:Value):Option Value:=match a,b with
 | .agg ⟨l⟩,.agg ⟨m⟩=>B2 (vW P t) op l m (iZ P H op t q (.agg ⟨l⟩) (.agg ⟨m⟩))
 | a,b=>iZ P H op t q a b
def ah (P:Program)(H:T OB)(op:BinOp)(t:TypeId)(q:Bool)(x y:Option Value):Option Value:=
 aa x (λa=>aa y (vX P H op t q a) none) none
def aC (P:Program)(t:TypeId)(ps:Option (List (Nat×Value))):Option Value:=
 aa ps (λvs=>aa (bE P t) (λ_=>aa (P.built t vs) (λcs=>nN (.agg cs) some) none) none) none
def h_ (P:Program)(t:TypeId)(v:Option Value):Option Value:=match P.underlying t with
 | some (.interface _)=>none
 | some _=>aa v (λv=>some (.iface t v)) none
 | none=>none
def nV (fn:Fn)(first:List Operand)(cap:Option (List Value)):Option Value:=match fn,first with
 | .func g,[]=>aa cap (λl=>some (.func (.func g) #[] ⟨l⟩)) none
 | _,_=>none
def nW (P:Program)(t:TypeId):Option Value:=match P.info? t with
 | some i=>(match i.zero with | some z=>bif flat z then some z else none | none=>none)
 | none=>none
def okV (ok:Bool)(v:Value)(b:Bool):Value:=bif ok then .tuple #[v,.bool b]else v
def tS (P:Program)(t:TypeId):Bool:=match P.underlying t with
 | some (.interface _)=>false
 | some _=>true
 | none=>false
def fG (P:Program)(v:Option Value)(t:TypeId)(ok:Bool):Option Value:=bif tS P t then(match v with
    | some (.iface u x)=>bif Nat.beq u t then some (okV ok x true)else bif ok then aa (nW P t) (λz=>some (.tuple #[z,.bool false])) none else none
    | some .nilIface=>bif ok then aa (nW P t) (λz=>some (.tuple #[z,.bool false])) none else none
    | _=>none)else none
def kH (d:TypeDesc):Bool:=match d with
 | .int _=>true
 | .string=>true
 | .bool=>true
 | _=>false
def A7 (H:T OB)(m:Option Value):Option (List MapEntry):=match m with
 | some (.map none)=>some []
 | some (.map (some b))=>match H.get (bits b)with
   | some (.map es _)=>some es
   | _=>none
 | _=>none
def mu {β:Type}(P:Program)(t:TypeId)(k:TypeDesc->TypeId->β)(bad:β):β:=match P.underlying t with
 | some (.map kt et)=>aa (P.underlying kt) (λd=>bif kH d then k d et else bad) bad
 | _=>bad
def Ib (P:Program)(et:TypeId)(ok:Bool)(r:Option (Option (Nat×Value))):Option Value:=match r with
 | some (some (_,v))=>some (okV ok v true)
 | some none=>aa (nW P et) (λz=>some (okV ok z false)) none
 | none=>none
def eD (P:Program)(H:T OB)(t:TypeId)(m k:Option Value)(ok:Bool):Option Value:=
 mu P t (λd et=>aa (A7 H m) (λes=>aa k (λk=>Ib P et ok (Instr.findNow d k es 0)) none) none) none
def strOf (l:List Value):Option (List UInt8):=match l with
 | []=>some []
 | .int .u8 (.ofNat n)::l=>match strOf l with | some r=>some (n.toUInt8::r) | none=>none
 | _=>none
def dH (P:Program)(s d:TypeId):Bool:=match P.underlying s,P.underlying d with
 | some (.slice e),some .string=>(match P.underlying e with | some (.int .u8)=>true | _=>false)
 | _,_=>false
def cB (P:Program)(H:T OB)(s d:TypeId)(x:Option Value):Option Value:=match x with
 | some (.slice (some ⟨b,off,none⟩) n _)=>bif dH P s d then pO (H.get (bits b)) (λm tr=>bif Nat.ble (off+n) m then aa (mZ tr n off) (λl=>aa (strOf l) (λr=>some (.string ⟨⟨r⟩⟩)) none) none else none) none else none
 | some v=>bK (lM v) (fc v (λs' es=>bif dH P s d&&Nat.beq s' 1 then aa (strOf es) (λr=>some (.string ⟨⟨r⟩⟩)) none else none) none) (tR P s d v)
 | none=>none
def nX (P:Program)(tm:T Value)(o:Oper)(c:Call):Option Value:=match c.callee with
 | .builtin .len=>aM P c.argTypes o.type (m4 P tm c.args.toList)
 | .builtin .max=>hJ P .max c.argTypes o.type (m4 P tm c.args.toList)
 | .builtin .min=>hJ P .min c.argTypes o.type (m4 P tm c.args.toList)
 | _=>none
def rd (P:Program)(H:T OB)(tm:T Value)(o:Oper):Option Value:=match o.op with
 | .move x=>br P tm x
 | .assign x=>br P tm x
 | .pick c a b=>nR (br P tm c) (br P tm a) (br P tm b)
 | .load t x=>ae P H t (br P tm x)
 | .nilCheck x=>aP (br P tm x)
 | .fieldAddr s x f=>ab P s (br P tm x) f
 | .indexAddr t x ix=>ay P t (br P tm x) (br P tm ix)
 | .extract x i=>ar (br P tm x) i
 | .field t x f=>rdField P t (br P tm x) f
 | .slice t x lo hi mx=>bm P H t (br P tm x) (eA P tm lo) (eA P tm hi) (eA P tm mx)
 | .call c=>nX P tm o c
 | .binOp op t x y _=>ah P H op t (pQ x||pQ y) (br P tm x) (br P tm y)
 | .build t ps=>aC P t (parts P tm ps.toList)
 | .makeInterface t x=>h_ P t (br P tm x)
 | .unOp op _ x=>jZ P op (br P tm x)
 | .convert s d x=>cB P H s d (br P tm x)
 | .makeFunc fn a b=>nV fn a.toList (m4 P tm b.toList)
 | .typeAssert x _ t ok=>fG P (br P tm x) t ok
 | .lookup t m k ok=>eD P H t (br P tm m) (br P tm k) ok
 | .index t x ix=>aH P t (br P tm x) (br P tm ix)
 | _=>none
def vY:Op->Bool
 | .move _=>true
 | .assign _=>true
 | .pick _ _ _=>true
 | .load _ _=>true
 | .nilCheck _=>true
 | .fieldAddr _ _ _=>true
 | .indexAddr _ _ _=>true
 | .extract _ _=>true
 | .field _ _ _=>true
 | .slice _ _ _ _ _=>true
 | .build _ _=>true
 | .makeInterface _ _=>true
 | .binOp _ _ _ _ _=>true
 | .unOp _ _ _=>true
 | .convert _ _ _=>true
 | .index _ _ _=>true
 | .makeFunc _ _ _=>true
 | .typeAssert _ _ _ _=>true
 | .lookup _ _ _ _=>true
 | .call c=>match c.callee with
   | .builtin b=>(match b with | .len=>true | .max=>true | .min=>true | _=>false)
   | _=>false
 | _=>false
def L_:Op->Bool
 | .buildSlice _ _ _=>true
 | _=>false
def nY:Op->Bool
 | .alloc _=>true
 | .buildSlice _ _ _=>true
 | _=>false
def tT {β:Type}(H:T OB)(nx:Nat)(e:TypeId)(l:List Value)(k:T OB->Nat->β):β:=
 dG l 0 .leaf λt=>bN l.length λn=>cJ (bits nx) H (some (.cells n t e)) λH=>bN (Nat.succ nx) λn=>k H n
def i_ (P:Program)(f:FuncId):Bool:=match P.funcs[f]? with
 | some fn=>fn.body.isSome && !(fn.name == "runtime.NumGoroutine")
 | none=>false
inductive dI where
 | val (v:Value) (H:T OB) (nx:Nat)
 | call (f:FuncId) (args:List Value)
 | L1 (f:FuncId) (args:List Value)
 | eR (v:Value)
 | L2
 | bad
def iN (nx:Nat):Value:= .pointer (some ⟨nx,0,none⟩)
def aA (P:Program)(H:T OB)(nx:Nat)(e:TypeId):dI:=
 aa (bE P e) (λl=>tT H nx e l λH n=> .val (iN nx) H n) .bad
def ja (H:T OB)(nx:Nat)(e:TypeId)(v:Option Value):dI:=
 aa v (λv=>tT H nx e v.cells.toList λH n=> .val (iN nx) H n) .bad
def aj (P:Program)(H:T OB)(nx:Nat)(t:TypeId)(a v:Option Value):dI:=
 tQ a (λb off=>aa v (λv=>dh (H.get (bits b)) (λn tr e=>aa (a6 P t) (λs=>
  bif Nat.beq v.cells.toList.length s&&Nat.ble (off+s) n&&v.cells.toList.all au then
   dG v.cells.toList off tr λtr=>cJ (bits b) H (some (.cells n tr e)) λH=> .val undef H nx
  else .bad) .bad) .bad) .bad) .bad
def bz (z:List Value)(n:Nat):Array Value:=(Array.range n).map (z.toArray[· % z.toArray.size]!)
def aq (P:Program)(H:T OB)(nx:Nat)(t:TypeId)(len:Nat)(ps:Option (List (Nat×Value))):dI:=
 aa ps (λvs=>cV P t (λe s=>aa (bE P e) (λz=>
  bif Nat.ble (len*s) 16777216&&Nat.blt 0 (len*s)&&Nat.blt 0 z.length then
   aa (Instr.fill (λi=>some (i*s,s)) (bz z (len*s)) vs) (λcells=>tT H nx e cells.toList λH n=>bN len λlen=> .val (.slice (some ⟨nx,0,none⟩) len len) H n) .bad
  else .bad) .bad) .bad) .bad
def dQ (z:List Value):Nat->List Value
 | 0=>[]
 | n+1=>z++dQ z n
def A8 (P:Program)(H:T OB)(nx:Nat)(e:TypeId)(l c:Nat):dI:=match P.info? e,bE P e with
    | some i,some z=>
      bif Nat.ble l c&&Nat.ble (i.bytes*c) 281474976710656&&Nat.ble c 274877906944&&Nat.beq i.size z.length&&Nat.blt 0 i.size then(match z with
       | [z]=>cJ (bits nx) H (some (.cells c (full 40 z) e)) λH=>bN (Nat.succ nx) λn=> .val (.slice (some ⟨nx,0,none⟩) l c) H n
       | z=>bif Nat.ble (c*i.size) 40000 then tT H nx e (dQ z c) λH n=> .val (.slice (some ⟨nx,0,none⟩) l c) H n else .bad)
      else .bad
    | _,_=> .bad
def fe (P:Program)(H:T OB)(nx:Nat)(t:TypeId)(l c:Option Value):dI:=match l,c,P.underlying t with
 | some (.int .i64 l),some (.int .i64 c),some (.slice e)=>gb l (λl=>gb c (λc=>A8 P H nx e l c) .bad) .bad
 | _,_,_=> .bad
def tU (P:Program)(f:Option Value)(l:Option (List Value)):dI:=match f with
 | some (.func (.func g) ⟨[]⟩ ⟨cap⟩)=>aa l (λl=>bif i_ P g then .call g (l++cap)else .bad) .bad
 | _=> .bad
def cellsOf (H:T OB)(s:Nat)(base:Option Addr)(n:Nat):Option (List Value):=match base with
 | none=>bif Nat.beq n 0 then some []else none
 | some ⟨b,off,none⟩=>pO (H.get (bits b)) (λm tr=>bif Nat.ble (off+n*s) m then mZ tr (n*s) off else none) none
 | _=>none
def gd (H:T OB)(nx:Nat)(e:TypeId)(m:Nat)(l:List Value):dI:=
 tT H nx e l λH n=>bN m λm=> .val (.slice (some ⟨nx,0,none⟩) m dP) H n
def L3 (P:Program)(H:T OB)(nx:Nat)(e:TypeId)(s b off sl xl n:Nat)(tr:T Value)(xs:List Value):dI:=
 bif Nat.beq off 0&&Nat.ble (sl*s) n&&pP P H b s&&xs.all au then
  aa (mZ tr (sl*s) 0) (λold=>cJ (bits b) H (some .dead) λH=>gd H nx e (sl+xl) (old++xs)) .bad else .bad
def A9 (H:T OB)(nx:Nat)(s b off sl sc xl n:Nat)(tr:T Value)(el:TypeId)(xs:List Value):dI:=
 bif Nat.ble (off+sc*s) n&&xs.all au then
  dG xs (off+sl*s) tr λtr=>cJ (bits b) H (some (.cells n tr el)) λH=>bN (sl+xl) λm=> .val (.slice (some ⟨b,off,none⟩) m sc) H nx
 else .bad
def mw (H:T OB)(nx:Nat)(e:TypeId)(s off sl xl n:Nat)(tr:T Value)(xs:List Value):dI:=
 bif Nat.ble (off+sl*s) n&&Nat.blt 0 xl then aa (mZ tr (sl*s) off) (λold=>gd H nx e (sl+xl) (old++xs)) .bad else .bad
def tV (P:Program)(H:T OB)(nx:Nat)(e:TypeId)(s b off sl sc xl:Nat)(xs:List Value):dI:=
 dh (H.get (bits b)) (λn tr el=>bif Nat.beq sc dP then L3 P H nx e s b off sl xl n tr xs
  else bif Nat.ble (sl+xl) sc then A9 H nx s b off sl sc xl n tr el xs else mw H nx e s off sl xl n tr xs) .bad
def bB (P:Program)(e:TypeId)(s bl:Nat):Bool:=match P.info? e,bE P e with
 | some i,some z=>Nat.beq z.length s&&Nat.blt 0 s&&Nat.ble bl 1048576&&Nat.ble i.bytes 65536
 | _,_=>false
def pR (P:Program)(H:T OB)(nx:Nat)(e:TypeId)(s:Nat)(base:Option Addr)(sl sc xl:Nat)(xs:List Value):dI:=match base with
 | none=>bif Nat.beq sl 0&&Nat.beq sc 0 then(bif Nat.beq xl 0 then .val (.slice none 0 0) H nx else gd H nx e xl xs)else .bad
 | some ⟨b,off,none⟩=>tV P H nx e s b off sl sc xl xs
 | _=> .bad
def kc (H:T OB)(s:Nat)(v:Value):Option (Nat×List Value):=match v with
 | .slice xb xl _=>aa (cellsOf H s xb xl) (λl=>some (xl,l)) none
 | v=>fc v (λs' es=>bif Nat.beq s' s then some (es.length,es.flatMap λu=>u.cells.toList)else none) none
def kI (P:Program)(H:T OB)(nx:Nat)(ts:List TypeId)(l:Option (List Value)):dI:=match l,ts with
 | some [.slice base sl sc,xv],[t,u]=>bif !Nat.beq t u then .bad else cV P t (λe s=>aa (kc H s xv) (λp=>bif bB P e s (sl+p.1)then pR P H nx e s base sl sc p.1 p.2 else .bad) .bad) .bad
 | _,_=> .bad
def tW {β:Type}(x:Option OB)(k:List MapEntry->Nat->β)(bad:β):β:=match x with
 | some (.map es c)=>k es c
 | _=>bad
def JJ (H:T OB)(nx b:Nat)(es:List MapEntry)(c:Nat)(k v:Value)(r:Option (Option (Nat×Value))):dI:=match r with
 | some (some (i,_))=>cJ (bits b) H (some (.map (es.modify i λe=>{ e with key:=k,val:=v }) c)) λH=> .val undef H nx
 | some none=>bN (Nat.succ c) λc'=>cJ (bits b) H (some (.map (es++[⟨k,v,c⟩]) c')) λH=> .val undef H nx
 | none=> .bad
def Ic (m:Option Value):Option Nat:=match m with
 | some (.map (some b))=>some b
 | _=>none
def gf (P:Program)(H:T OB)(nx:Nat)(t:TypeId)(m k v:Option Value):dI:=
 mu P t (λd _=>aa (Ic m) (λb=>aa k (λk=>aa v (λv=>tW (H.get (bits b)) (λes c=>JJ H nx b es c k v (Instr.findNow d k es 0)) .bad) .bad) .bad) .bad) .bad
def B3 (P:Program)(t:TypeId):Bool:=match P.underlying t with
 | some (.map _ _)=>true
 | _=>false
def jH (H:T OB)(nx:Nat)(m:Option Nat)(c:Nat):dI:=
 cJ (bits nx) H (some (.iter m c [] c)) λH=>bN (Nat.succ nx) λn=> .val (iN nx) H n
def rf (P:Program)(H:T OB)(nx:Nat)(t:TypeId)(m:Option Value):dI:=bif B3 P t then(match m with
 | some (.map none)=>jH H nx none 0
 | some (.map (some b))=>tW (H.get (bits b)) (λ_ c=>jH H nx (some b) c) .bad
 | _=> .bad)else .bad
def nZ {β:Type}(x:Option OB)(k:Option Nat->Nat->List Nat->Nat->β)(bad:β):β:=match x with
 | some (.iter m s l c)=>k m s l c
 | _=>bad
def vZ (H:T OB)(nx r m since c:Nat)(seen:List Nat)(l:List MapEntry):dI:=match l with
 | []=> .val (.tuple #[.bool false]) H nx
 | [e]=>bif Nat.blt e.born since then cJ (bits r) H (some (.iter (some m) since (seen++[e.born]) c)) λH=> .val (.tuple #[.bool true,e.key,e.val]) H nx else .bad
 | _=> .bad
def qd (H:T OB)(nx r m since last:Nat)(seen:List Nat):dI:=
 tW (H.get (bits m)) (λes c=>bif !seen.isEmpty && !es.isEmpty&&es.all (λe=>Nat.ble last e.born)then .bad else vZ H nx r m since c seen (es.filter λe=> !seen.contains e.born)) .bad
def v5 (H:T OB)(nx:Nat)(it:Option Value)(isString:Bool):dI:=bif isString then .bad else
 tQ it (λr off=>bif Nat.beq off 0 then nZ (H.get (bits r)) (λm since seen last=>match m with
  | none=> .val (.tuple #[.bool false]) H nx
  | some m=>qd H nx r m since last seen) .bad else .bad) .bad
def rh (H:T OB)(nx:Nat)(es:List MapEntry)(st:Nat):dI:=match es.find? (λe=>e.born == st)with
 | some e=> .val (.tuple #[e.key,e.val]) H nx
 | none=> .bad
def ri (H:T OB)(nx:Nat)(it:Option Value):dI:=
 tQ it (λr off=>bif Nat.beq off 0 then nZ (H.get (bits r)) (λm _ seen last=>aa m (λm=>aa seen.getLast? (λst=>tW (H.get (bits m)) (λes c=>bif Nat.beq c last then rh H nx es st else .bad) .bad) .bad) .bad) .bad else .bad) .bad
def B4 (P:Program)(t:TypeId):Bool:=match P.underlying t with
 | some .string=>true
 | _=>false
def bt (P:Program)(H:T OB)(nx:Nat)(ts:List TypeId)(l:Option (List Value)):dI:=match l,ts with
 | some [.slice base sl sc,.string b],[t,u]=>bif B4 P u then cV P t (λe s=>bif bB P e s (sl+b.size)&&Nat.beq s 1 then pR P H nx e s base sl sc b.size (b.data.toList.map λx=> .int .u8 (.ofNat x.toNat))else .bad) .bad else .bad
 | _,_=>kI P H nx ts l
def fo (P:Program)(H:T OB)(nx:Nat)(tm:T Value)(c:Call):dI:=match c.callee with
 | .value f=>tU P (br P tm f) (m4 P tm c.args.toList)
 | .builtin .append=>bt P H nx c.argTypes.toList (m4 P tm c.args.toList)
 | .builtin .recover=> .L2
 | .builtin .panic=> .bad
 | _=> .bad
def v7 (v:Option Value):dI:=match v with
 | some (.iface t v)=> .eR (.iface t v)
 | _=> .bad
def ia (c:dI):dI:=match c with
 | .call f l=> .L1 f l
 | _=> .bad
def A_ (H:T OB)(nx:Nat):dI:=cJ (bits nx) H (some (.map [] 0)) λH=>bN (Nat.succ nx) λn=> .val (.map (some nx)) H n
def ef (P:Program)(H:T OB)(nx:Nat)(tm:T Value)(o:Oper):dI:=match o.op with
 | .alloc e=>aA P H nx e
 | .box e x=>ja H nx e (br P tm x)
 | .store t a x=>aj P H nx t (br P tm a) (br P tm x)
 | .buildSlice t len ps=>aq P H nx t len (parts P tm ps.toList)
 | .makeSlice t l c=>fe P H nx t (br P tm l) (br P tm c)
 | .makeMap _ r=>match r with | none=>A_ H nx | some _=> .bad
 | .call c=>fo P H nx tm c
 | .defer c=>ia (fo P H nx tm c)
 | .panic x=>v7 (br P tm x)
 | .mapUpdate t m k v=>gf P H nx t (br P tm m) (br P tm k) (br P tm v)
 | .insert t m k v=>gf P H nx t (br P tm m) (br P tm k) (br P tm v)
 | .range t m=>rf P H nx t (br P tm m)
 | .next it b=>v5 H nx (br P tm it) b
 | .entry it=>ri H nx (br P tm it)
 | _=> .bad
def gN (ops:Array Oper)(j:Nat):Option Tmp:=match ops[j]? with
 | some g=>g.dst
 | none=>none
def jb (tm:T Value)(d:Tmp)(want:Bool):Option Bool:=match tm.get (bits d)with
 | some (.bool b)=>some (b == want)
 | some (.tuple _)=>some false
 | _=>none
def bF (tm:T Value)(ops:Array Oper)(o:Oper):Option Bool:=match o.guard with
 | none=>some true
 | some p=>aa (gN ops p.1) (λd=>jb tm d p.2) none
def ib {β:Type}(nt:Nat)(tm:T Value)(dst:Option Tmp)(v:Value)(k:T Value->β)(bad:β):β:=match dst with
 | none=>k tm
 | some d=>bif Nat.blt d nt then cJ (bits d) tm (some v) k else bad
def direct (o:Oper)(j:Nat):Bool:=o.after.toList.any λe=>Region.binds .any e&&e.on == j
def dA (ops:Array Oper)(done:List Nat)(o:Oper):Bool:=o.after.toList.all λe=> !Region.binds .any e||done.contains e.on
def iO (ops:Array Oper):List Nat:=(List.range ops.size).filter λj=>match ops[j]? with
 | some q=>(match q.dst with
   | none=>false
   | some d=>(List.range ops.size).any λi=>match ops[i]? with
     | some p=>(p.looksAt ops).contains d && !direct p j
     | none=>false)
 | none=>false
def jc (an:List Nat)(i:Nat)(o:Oper):Bool:=(vY o.op||nY o.op) && !an.contains i
def rj (ops:Array Oper)(an:List Nat):Nat->List Nat->List Nat->Option (List Nat)
 | 0,_,todo=>if todo.isEmpty then some []else none
 | f+1,done,todo=>
   match todo with
   | []=>some []
   | _=>match todo.find? λi=>match ops[i]? with | some o=>jc an i o&&dA ops done o | none=>false with
     | some i=>(rj ops an f (i::done) (todo.filter (· != i))).map (i:: ·)
     | none=>match todo.filter λi=>match ops[i]? with | some o=>dA ops done o | none=>false with
       | [i]=>(rj ops an f (i::done) (todo.filter (· != i))).map (i:: ·)
       | _=>none
def kJ:Op->Bool
 | .load _ _=>true
 | .slice _ _ _ _ _=>true
 | .lookup _ _ _ _=>true
 | .convert _ _ _=>true
 | .binOp _ _ _ _ _=>true
 | _=>false
def qe (ops:Array Oper):Nat->List Nat->List Nat
 | 0,acc=>acc
 | q+1,acc=>if acc.contains q then(match ops[q]? with
    | some o=>qe ops q (o.after.toList.foldl (λl e=>if Region.binds .any e then e.on::l else l) acc)
    | none=>qe ops q acc)else qe ops q acc
def B5 (ops:Array Oper)(i:Nat):List Nat:=match ops[i]? with
 | some o=>qe ops i (o.after.toList.foldl (λl e=>if Region.binds .any e then e.on::l else l) [])
 | none=>[]
def eW (ops:Array Oper)(an:List Nat):List Nat->List Nat->List (Nat×List Nat)->Bool
 | done,_,[]=>(List.range ops.size).all done.contains
 | done,g9,(i,chk)::rest=>match ops[i]? with
   | none=>false
   | some o=> !done.contains i&&dA ops done o&&
     (if jc an i o then eW ops an (i::done) (if kJ o.op then i::g9 else g9) rest
      else(!vY o.op||chk.isEmpty)&&(rest.all λj=>match ops[j.1]? with | some q=> !dA ops done q | none=>false)&&
       (g9.all λp=>chk.contains p||(B5 ops i).contains p)&&eW ops an (i::done) chk rest)
def pS (ops:Array Oper):Bool:=
 (List.range ops.size).all λi=>(List.range ops.size).all λj=>match ops[i]?,ops[j]? with
  | some p,some q=>
    (match q.dst with
     | none=>true
     | some d=>(!(p.looksAt ops).contains d||direct p j||direct q i)&&(i == j||p.dst != some d))
  | _,_=>true
def acyclic (ops:Array Oper):Bool:=
 (List.range ops.size).all λi=>match ops[i]? with | some o=>o.after.toList.all λe=> !Region.binds .any e||Nat.blt e.on i | none=>true
def xJ (ops:Array Oper)(an:List Nat):List Nat->List Nat->List (Nat×List Nat)
 | _,[]=>[]
 | g9,i::rest=>match ops[i]? with
   | none=>[]
   | some o=>if jc an i o then(i,[])::xJ ops an (if kJ o.op then i::g9 else g9) rest
     else let chk:=g9.filter λp=> !(B5 ops i).contains p
      (i,chk)::xJ ops an chk rest
def ic (ops:Array Oper):List Nat:=
 match rj ops (iO ops++(List.range ops.size).filter λj=>match ops[j]? with | some o=>L_ o.op | none=>false) ops.size [] (List.range ops.size)with
 | some _=>iO ops++(List.range ops.size).filter λj=>match ops[j]? with | some o=>L_ o.op | none=>false
 | none=>iO ops
def rl (ops:Array Oper):Option (List (Nat×List Nat)):=
 match rj ops (ic ops) ops.size [] (List.range ops.size)with
 | none=>none
 | some l=>if pS ops&&acyclic ops&&Region.noSelect ops&&eW ops (ic ops) [] [] (xJ ops (ic ops) [] l)then some (xJ ops (ic ops) [] l)else none
def B6 (eq:Value->Value->Bool):List Value->List Value->Bool
 | [],[]=>true
 | a::l,b::m=>eq a b&&B6 eq l m
 | _,_=>false
def Ba:Nat->Value->Value->Bool
 | 0,_,_=>false
 | n+1,v,w=>match v,w with
   | .bool a,.bool b=>a == b
   | .int j a,.int k b=>j == k&&a == b
   | .string a,.string b=>decide (a=b)
   | .pointer none,.pointer none=>true
   | .pointer (some ⟨a,o,none⟩),.pointer (some ⟨b,q,none⟩)=>a == b&&o == q
   | .slice none l c,.slice none m d=>l == m&&c == d
   | .slice (some ⟨a,o,none⟩) l c,.slice (some ⟨b,q,none⟩) m d=>a == b&&o == q&&l == m&&c == d
   | .map none,.map none=>true
   | .map (some a),.map (some b)=>a == b
   | .nilIface,.nilIface=>true
   | .nilFunc,.nilFunc=>true
   | .iface t v,.iface u w=>t == u&&Ba n v w
   | .agg a,.agg b=>B6 (Ba n) a.toList b.toList
   | .tuple a,.tuple b=>B6 (Ba n) a.toList b.toList
   | _,_=>false
def eX (v w:Value):Bool:=Ba 4 v w||@decide (v=w) (Classical.propDecidable _)
def xK (tm:T Value)(dst:Option Tmp)(u:Value):Bool:=match dst with
 | none=>true
 | some d=>(match tm.get (bits d)with | some v=>eX u v | none=>false)
def Ie (P:Program)(H:T OB)(tm:T Value)(o:Oper)(w:Option Bool):Bool:=match w with
 | some b=>bK b (aa (rd P H tm o) (xK tm o.dst) false) true
 | none=>false
def held (P:Program)(H:T OB)(tm:T Value)(ops:Array Oper)(p:Nat):Bool:=
 aa ops[p]? (λo=>Ie P H tm o (bF tm ops o)) false
inductive Out where
 | ret (v:Value)
 | eR (v:Value)
structure Rt where
 o:Out
 rc:Bool
 H:T OB
 nx:Nat
structure Cg where
 fn:FuncId
 nt:Nat
 kd:Bool
 df:List (FuncId×List Value)
 rp:Option Value
 rc:Bool
inductive bI where
 | call (f:FuncId) (args:List Value) (kd:Bool) (rp:Option Value) (H:T OB) (nx:Nat)
 | at(c:Cg) (tm:T Value) (todo:List Item) (H:T OB) (nx:Nat)
inductive Q where
 | ret (r:Rt)
 | ask (c:bI) (k:Rt->Q)
 | jump (c:bI)
 | bad
def Q.run (O:bI->Option Rt)(q:Q):Option Rt:=@Q.rec (λ_=>Option Rt) some (λc _ ih=>aa (O c) ih none) O none q
structure ig where
 QH:List (Nat×List Nat)
 QI:List (Nat×List Nat)
 Ma:List (Nat×List Nat)
 lv:List ((Nat×Nat)×List Nat)
 OM:Bool
def tX (k:Nat):List (Nat×List Nat)->List Nat
 | []=>[]
 | p::l=>bif Nat.beq p.1 k then p.2 else tX k l
def B7 (k j:Nat):List ((Nat×Nat)×List Nat)->Option (List Nat)
 | []=>none
 | p::l=>bif Nat.beq p.1.1 k&&Nat.beq p.1.2 j then some p.2 else B7 k j l
def chunk (a:Bool)(s:Nat):Nat->List Value->Option (List Value)
 | 0,l=>bif l.isEmpty then some []else none
 | n+1,l=>bif Nat.ble s l.length then aa (chunk a s n (l.drop s)) (λr=>bK a (some (.agg ⟨l.take s⟩::r)) (aa l.head? (λv=>some (v::r)) none)) none else none
def Bb (P:Program)(H:T OB)(e:TypeId)(b off n:Nat):Option Value:=
 dh (H.get (bits b)) (λm tr _=>aa (a6 P e) (λs=>aa (cP P e) (λa=>bif Nat.ble (off+n*s) m&&Nat.blt 0 s&&(a||Nat.beq s 1)then
  aa (mZ tr (n*s) off) (λl=>aa (chunk a s n l) (λes=>bif es.all λx=>bK a true (au x)then some (bc s es)else none) none) none else none) none) none) none
def Mb (P:Program)(H:T OB)(e:TypeId)(b:Nat):Option Value:=
 dh (H.get (bits b)) (λm tr _=>aa (a6 P e) (λs=>aa (cP P e) (λa=>bif Nat.beq m s then
  aa (mZ tr s 0) (λl=>bK a (some (ai (.agg ⟨l⟩))) (aa l.head? (λv=>bif Nat.beq l.length 1&&au v then some (ai v)else none) none)) none else none) none) none) none
def ON (x:Option OB):OB:=match x with
 | some (.cells n t _)=> .ro n t
 | _=> .dead
def gz (P:Program)(t:TypeId)(v:Value)(H:T OB)(nx:Nat)(k:Value->T OB->Nat->Q):Q:=match P.underlying t with
 | some (.slice e)=>(match v with
   | .slice (some ⟨b,off,none⟩) n c=>bif Nat.beq c dP||Nat.ble n c then aa (Bb P H e b off n) (λr=>cJ (bits b) H (some (ON (H.get (bits b)))) λH=>bN (Nat.succ nx) λnx=>k r H nx) .bad else .bad
   | .slice none n c=>bif Nat.beq n 0&&Nat.beq c 0 then aa (a6 P e) (λs=>k (bc s []) H nx) .bad else .bad
   | v=>k v H nx)
 | some (.pointer e)=>(match v with
   | .pointer (some ⟨b,0,none⟩)=>aa (Mb P H e b) (λr=>cJ (bits b) H (some .dead) λH=>bN (Nat.succ nx) λnx=>k r H nx) .bad
   | v=>k v H nx)
 | _=>k v H nx
def Fj (P:Program):List Field->List Value->T OB->Nat->(List Value->T OB->Nat->Q)->Q
 | [],cs,H,nx,k=>k cs H nx
 | f::fs,cs,H,nx,k=>aa cs[f.offset]? (λv=>gz P f.type v H nx λv H nx=>Fj P fs (cs.set f.offset v) H nx k) .bad
def Mc (P:Program)(t:TypeId):Bool:=match P.underlying t with
 | some (.slice _)=>true
 | _=>false
def fH (P:Program)(t:TypeId)(v:Value)(H:T OB)(nx:Nat)(k:Value->T OB->Nat->Q):Q:=match P.underlying t with
 | some (.struct fs)=>(match v with
   | .agg ⟨cs⟩=>Fj P (fs.toList.filter λf=>Mc P f.type) cs H nx λcs H nx=>k (.agg ⟨cs⟩) H nx
   | _=> .bad)
 | _=>gz P t v H nx k
def di (P:Program):Nat->TypeId->List (Nat×TypeId)
 | 0,_=>[]
 | d+1,t=>match P.underlying t with
   | some (.slice _)=>[(0,t)]
   | some (.struct fs)=>fs.toList.flatMap λf=>(di P d f.type).map λp=>(f.offset+p.1,p.2)
   | _=>[]
def Bc (one:TypeId->Value->T OB->Nat->(Value->T OB->Nat->Q)->Q):List (Nat×TypeId)->List Value->T OB->Nat->(List Value->T OB->Nat->Q)->Q
 | [],cs,H,nx,k=>k cs H nx
 | p::l,cs,H,nx,k=>aa cs[p.1]? (λv=>one p.2 v H nx λv H nx=>Bc one l (cs.set p.1 v) H nx k) .bad
def jd (one:TypeId->Value->T OB->Nat->(Value->T OB->Nat->Q)->Q)(l:List (Nat×TypeId))(v:Value)(H:T OB)(nx:Nat)(k:Value->T OB->Nat->Q):Q:=match v with
 | .agg ⟨cs⟩=>Bc one l cs H nx λcs H nx=>k (.agg ⟨cs⟩) H nx
 | v=>k v H nx
def je (f:Value->T OB->Nat->(Value->T OB->Nat->Q)->Q):List Value->T OB->Nat->(List Value->T OB->Nat->Q)->Q
 | [],H,nx,k=>k [] H nx
 | v::l,H,nx,k=>f v H nx λv H nx=>je f l H nx λl H nx=>k (v::l) H nx
def tY (v:Value):Bool:=match v with
 | .slice (some _) _ _=>true
 | _=>false
def ij (P:Program):Nat->TypeId->Value->T OB->Nat->(Value->T OB->Nat->Q)->Q
 | 0,t,v,H,nx,k=>gz P t v H nx k
 | d+1,t,v,H,nx,k=>gz P t v H nx λu H nx=>bif tY v then(match P.underlying t with
   | some (.slice e)=>fc u (λs es=>je (jd (ij P d) (di P 4 e)) es H nx λes H nx=>bif es.all λx=>Nat.beq x.cells.toList.length s then k (bc s es) H nx else .bad) .bad
   | _=>k u H nx)else k u H nx
def bG (P:Program)(t:TypeId)(v:Value)(H:T OB)(nx:Nat)(k:Value->T OB->Nat->Q):Q:=bif kb v then jd (ij P 100000) (di P 4 t) v H nx k else ij P 100000 t v H nx k
def tZ (P:Program)(ts:Array TypeId):List Nat->List Value->T OB->Nat->(List Value->T OB->Nat->Q)->Q
 | [],vs,H,nx,k=>k vs H nx
 | i::l,vs,H,nx,k=>bif Nat.ble 1000 i then aa ts[i-1000]? (λt=>aa vs[i-1000]? (λv=>bG P t v H nx λv H nx=>tZ P ts l (vs.set (i-1000) v) H nx k) .bad) .bad else
   aa ts[i]? (λt=>aa vs[i]? (λv=>fH P t v H nx λv H nx=>tZ P ts l (vs.set i v) H nx k) .bad) .bad
def av:Value->T OB->Nat->Q:=λv H nx=> .ret ⟨.eR v,false,H,nx⟩
inductive Mq where
 | ret
 | eR (v:Value)
def JK (m:Mq):Option Value:=match m with
 | .ret=>none
 | .eR v=>some v
def Bd (P:Program)(H:T OB)(tm:T Value):List ResultVar->(List Value->Q)->Q
 | [],k=>k []
 | .tmp t::l,k=>aa (tm.get (bits t)) (λv=>Bd P H tm l λvs=>k (v::vs)) .bad
 | .cell a t::l,k=>aa (ae P H t (tm.get (bits a))) (λv=>Bd P H tm l λvs=>k (v::vs)) .bad
def Md (vs:List Value):Value:=match vs with
 | [v]=>v
 | vs=> .tuple ⟨vs⟩
def JL (P:Program)(pl:ig)(c:Cg)(tm:T Value)(H:T OB)(nx:Nat):Q:=
 aa P.funcs[c.fn]? (λf=>Bd P H tm f.results.toList λvs=>tZ P f.resultTypes (tX c.fn pl.QH) vs H nx λvs H nx=> .ret ⟨.ret (Md vs),c.rc,H,nx⟩) .bad
def v8 (P:Program)(pl:ig)(c:Cg)(tm:T Value)(m:Mq)(H:T OB)(nx:Nat):Q:=match m with
 | .ret=>JL P pl c tm H nx
 | .eR v=>aa P.funcs[c.fn]? (λ_=> .ret ⟨.eR v,c.rc,H,nx⟩) .bad
def Me (m:Mq)(r:Rt)(ih:Mq->T OB->Nat->Q):Q:=match r.o with
 | .ret _=>ih (bK r.rc .ret m) r.H r.nx
 | .eR _=> .bad
def kK (P:Program)(pl:ig)(c:Cg)(tm:T Value)(l:List (FuncId×List Value)):Mq->T OB->Nat->Q:=
 @List.rec (FuncId×List Value) (λ_=>Mq->T OB->Nat->Q) (λm H nx=>v8 P pl c tm m H nx)
  (λd _ ih m H nx=> .ask (.call d.1 d.2 true (JK m) H nx) λr=>Me m r ih) l
abbrev Kt:=Cg->T Value->T OB->Nat->Q
def ao (e:dI)(k:Value->T OB->Nat->Q):Q:=match e with
 | .val v H nx=>k v H nx
 | _=> .bad
def ak (q:bI)(k:Value->T OB->Nat->Q)(p:Value->T OB->Nat->Q):Q:= .ask q λr=>match r.o with
 | .ret v=>k v r.H r.nx
 | .eR v=>p v r.H r.nx
def Ig:Op->Bool
 | .call c=>(match c.callee with
   | .builtin b=>(match b with | .append=>false | _=>true)
   | _=>true)
 | .defer _=>true
 | .panic _=>true
 | _=>false
def rm (tm:T Value)(ops:Array Oper)(g:Option (Nat×Bool))(yes no:T Value->Q):Q:=match g with
 | none=>yes tm
 | some p=>aa (gN ops p.1) (λd=>match tm.get (bits d)with
   | some (.bool x)=>bK p.2 (bK x (cJ (bits d) tm (some (.bool true)) yes) (cJ (bits d) tm (some (.bool false)) no)) (bK x (cJ (bits d) tm (some (.bool true)) no) (cJ (bits d) tm (some (.bool false)) yes))
   | some (.tuple _)=>no tm
   | _=> .bad) .bad
def Mf (c:Cg)(k:Cg->Value->Q):Q:=match c.kd,c.rp with
 | true,some v=>k ⟨c.fn,c.nt,c.kd,c.df,none,true⟩ v
 | _,_=>k c .nilIface
def aI {β:Type}(v:Value)(k:Bool->β)(bad:β):β:=match v with
 | .bool b=>k b
 | _=>bad
def Fk (P:Program)(t:TypeId):Bool:=match P.underlying t with
 | some .bool=>true
 | _=>false
def Ih (o:Op):Bool:=match o with
 | .binOp op _ _ _ _=>(match op with | .eql=>true | .neq=>true | .lss=>true | .leq=>true | .gtr=>true | .geq=>true | _=>false)
 | _=>false
def Be (P:Program)(t:Bool)(nt:Nat)(tm:T Value)(dst:Option Tmp)(v:Value)(k:T Value->Q):Q:=
 bK t (aI v (λb=>ib nt tm dst (.bool b) k .bad) .bad) (ib nt tm dst v k .bad)
def Mg (nt:Nat)(tm:T Value)(H:T OB)(nx:Nat)(dst:Option Tmp)(x:Option Value)(k:T Value->T OB->Nat->Q):Q:=
 aa x (λv=>bN (Nat.succ nx) λn=>ib nt tm dst (ai v) (λtm=>k tm H n) .bad) .bad
def Fl (v:Option Value)(k:Nat->Nat->Q):Q:=match v with
 | some (.pointer (some ⟨b,off,none⟩))=>k b off
 | _=> .bad
def ke (x:Option OB)(k:Nat->T Value->TypeId->Q):Q:=match x with
 | some (.cells n t e)=>k n t e
 | _=> .bad
def xL (P:Program)(nt:Nat)(tm:T Value)(H:T OB)(nx:Nat)(t:TypeId)(d:Tmp)(dst:Option Tmp)(a x:Option Value)(k:T Value->T OB->Nat->Q):Q:=
 Fl a λb off=>aa x (λv=>ke (H.get (bits b)) λn _ _=>aa (a6 P t) (λs=>
  bif Nat.beq off 0&&(Nat.beq n s&&(Nat.beq v.cells.toList.length s&&v.cells.toList.all au))then cJ (bits b) H (some .dead) λH=>bN (Nat.succ nx) λn=>ib nt tm (some d) (ai v) (λtm=>ib nt tm dst undef (λtm=>k tm H n) .bad) .bad else .bad) .bad) .bad
def Mh (t:Nat)(l:List Nat):Bool:=l.any (Nat.beq t)
def Fm (pl:ig)(fn:Nat)(o:Oper):Bool:=match o.op with
 | .box _ _=>(match o.dst with | some d=>Mh d (tX fn pl.Ma) | none=>false)
 | .store _ (.tmp d) _=>Mh d (tX fn pl.Ma)
 | _=>false
def Mi (P:Program)(nt:Nat)(tm:T Value)(H:T OB)(nx:Nat)(o:Oper)(k:T Value->T OB->Nat->Q):Q:=match o.op with
 | .box _ x=>Mg nt tm H nx o.dst (br P tm x) k
 | .store t (.tmp d) x=>xL P nt tm H nx t d o.dst (br P tm (.tmp d)) (br P tm x) k
 | _=> .bad
def Ii (o:Oper):Bool:=match o.op with
 | .box _ _=>true
 | _=>false
def OO (P:Program)(pl:ig)(c:Cg)(tm:T Value)(H:T OB)(nx:Nat)(t:TypeId)(dst:Option Tmp)(ih:Kt)(e:dI):Q:=match e with
 | .call g args=>ak (.call g args false none H nx) (λv H nx=>Be P (Fk P t) c.nt tm dst v (λtm=>ih c tm H nx)) (λv H nx=>kK P pl c tm c.df (.eR v) H nx)
 | .L1 g args=>ib c.nt tm dst undef (λtm=>ih ⟨c.fn,c.nt,c.kd,(g,args)::c.df,c.rp,c.rc⟩ tm H nx) .bad
 | .eR v=>kK P pl c tm c.df (.eR v) H nx
 | .L2=>Mf c λc v=>ib c.nt tm dst v (λtm=>ih c tm H nx) .bad
 | _=> .bad
def Qw (P:Program)(pl:ig)(c:Cg)(tm:T Value)(H:T OB)(nx:Nat)(ih:Kt)(o:Oper):Q:=
 bK (vY o.op) (aa (rd P H tm o) (λv=>Be P (Fk P o.type||Ih o.op) c.nt tm o.dst v (λtm=>ih c tm H nx)) .bad)
  (bK (Ig o.op) (OO P pl c tm H nx o.type o.dst ih (ef P H nx tm o)) (bK (Fm pl c.fn o) (Mi P c.nt tm H nx o λtm H nx=>ih c tm H nx) (ao (ef P H nx tm o) λv H nx=>ib c.nt tm o.dst v (λtm=>ih c tm H nx) .bad)))
def OP (P:Program)(pl:ig)(ops:Array Oper)(c:Cg)(tm:T Value)(H:T OB)(nx:Nat)(ih:Kt)(o:Oper):Q:=
 rm tm ops o.guard (λtm=>Qw P pl c tm H nx ih o) (λtm=>ib c.nt tm o.dst undef (λtm=>ih c tm H nx) .bad)
def j0 (P:Program)(pl:ig)(ops:Array Oper)(k:Kt)(l:List Nat):Kt:=
 @List.rec Nat (λ_=>Kt) k (λi _ ih c tm H nx=>aa ops[i]? (OP P pl ops c tm H nx ih) .bad) l
def n0 (P:Program)(H:T OB)(tm:T Value)(ops:Array Oper)(chk:List Nat)(k:Q):Q:=bK (chk.all (held P H tm ops)) k .bad
def OQ (P:Program)(pl:ig)(ops:Array Oper)(chk:List Nat)(c:Cg)(tm:T Value)(H:T OB)(nx:Nat)(t:TypeId)(dst:Option Tmp)(ih:Kt)(e:dI):Q:=match e with
 | .call g args=>ak (.call g args false none H nx) (λv H nx=>Be P (Fk P t) c.nt tm dst v (λtm=>n0 P H tm ops chk (ih c tm H nx))) (λv H nx=>bK c.df.isEmpty (v8 P pl c tm (.eR v) H nx) .bad)
 | .eR v=>bK c.df.isEmpty (v8 P pl c tm (.eR v) H nx) .bad
 | _=> .bad
def Qx (P:Program)(pl:ig)(ops:Array Oper)(chk:List Nat)(c:Cg)(tm:T Value)(H:T OB)(nx:Nat)(ih:Kt)(o:Oper):Q:=
 bK (vY o.op) (aa (rd P H tm o) (λv=>Be P (Fk P o.type||Ih o.op) c.nt tm o.dst v (λtm=>ih c tm H nx)) .bad)
  (bK (nY o.op) (ao (ef P H nx tm o) λv H nx=>ib c.nt tm o.dst v (λtm=>n0 P H tm ops chk (ih c tm H nx)) .bad)
   (bK (Ig o.op) (OQ P pl ops chk c tm H nx o.type o.dst ih (ef P H nx tm o))
    (bK (Fm pl c.fn o&&Ii o) (Mi P c.nt tm H nx o λtm H nx=>n0 P H tm ops chk (ih c tm H nx)) (ao (ef P H nx tm o) λv H nx=>ib c.nt tm o.dst v (λtm=>n0 P H tm ops chk (ih c tm H nx)) .bad))))
def OR (P:Program)(pl:ig)(ops:Array Oper)(chk:List Nat)(c:Cg)(tm:T Value)(H:T OB)(nx:Nat)(ih:Kt)(o:Oper):Q:=
 rm tm ops o.guard (λtm=>Qx P pl ops chk c tm H nx ih o) (λtm=>ib c.nt tm o.dst undef (λtm=>n0 P H tm ops chk (ih c tm H nx)) .bad)
def qf (P:Program)(pl:ig)(ops:Array Oper)(k:Kt)(l:List (Nat×List Nat)):Kt:=
 @List.rec (Nat×List Nat) (λ_=>Kt) k (λx _ ih c tm H nx=>aa ops[x.1]? (OR P pl ops x.2 c tm H nx ih) .bad) l
def JM (P:Program)(pl:ig)(ops:Array Oper)(draw:Bool)(k:Kt):Kt:=λc tm H nx=>
 bK draw (bK (P.follows .mixedOrders) (aa (rl ops) (λp=>qf P pl ops k p c tm H nx) .bad) .bad) (j0 P pl ops k (List.range ops.size) c tm H nx)
def B8 (v:Option Value)(a b:Q):Q:=match v with
 | some (.bool x)=>bK x a b
 | _=> .bad
def Mj (id:Nat)(cd:Code):Nat:=
 @Code.rec (λ_=>Nat) 0 (λ_ _ _=>0) (λ_ _ a b=>Nat.add a b) (λ_ _ _ a b=>Nat.add a b) (λj _ a=>bif Nat.beq j id then 0 else a) (λ_ a=>a) (λ_ _ _ _ _ _=>0)
  (λj=>bif Nat.beq j id then 1 else 0) (λ_ a=>a) (λ_=>0) (λ_=>0) 0 (λ_=>0) cd
def ends (cd:Code):Nat:=
 @Code.rec (λ_=>Nat) 1 (λ_ _ _=>1) (λ_ _ a b=>bif Nat.beq a 0 then 0 else b) (λ_ _ _ a b=>Nat.add a b) (λj b a=>Nat.add a (Mj j b)) (λ_ _=>0) (λ_ _ _ _ _ _=>1)
  (λ_=>0) (λ_ a=>a) (λ_=>1) (λ_=>0) 0 (λ_=>0) cd
def Fo (cd:Code):Bool:=
 @Code.rec (λ_=>Bool) false (λ_ _ _=>false) (λ_ _ a b=>a||b) (λ_ _ _ a b=>a||b) (λ_ _ a=>a) (λ_ _=>true) (λ_ _ _ _ _ _=>false)
  (λ_=>false) (λ_ a=>a) (λ_=>false) (λ_=>false) false (λ_=>false) cd
def JN (cd:Code):Nat:=
 @Code.rec (λ_=>Nat) 0 (λid _ _=>Nat.succ id) (λ_ _ a b=>bif Nat.beq a 0 then b else a) (λ_ _ _ a b=>bif Nat.beq a 0 then b else a) (λ_ _ a=>a) (λ_ a=>a) (λ_ _ _ _ _ _=>0)
  (λ_=>0) (λ_ a=>a) (λ_=>0) (λ_=>0) 0 (λ_=>0) cd
def JO (todo:List Item):Nat:=match todo with
 | .code cd::_=>Nat.mul 2 (JN cd)
 | .inLoop cd::_=>Nat.succ (Nat.mul 2 (JN cd))
 | _=>0
def qg (tm:T Value)(l:List Nat):T Value:=
 @List.rec Nat (λ_=>T Value) .leaf (λt _ ih=>aa (tm.get (bits t)) (λv=>cJ (bits t) ih (some v) id) ih) l
def t_ (pl:ig)(fn:Nat)(key:Nat)(tm:T Value):T Value:=match pl.lv with
 | []=>tm
 | l=>aa (B7 fn key l) (qg tm) tm
def ua (pl:ig)(todo:List Item):Kt:=λc tm H nx=> .jump (.at c (t_ pl c.fn (JO todo) tm) todo H nx)
def rq (P:Program)(pl:ig):Kt:=λc tm H nx=>kK P pl c tm c.df .ret H nx
def v9:Kt:=λ_ _ _ _=> .bad
def n8 (id:Nat):List (Nat×Kt)->Kt
 | []=>v9
 | p::l=>bif Nat.beq p.1 id then p.2 else n8 id l
def OS (cd:Code):Bool:=match cd with
 | .region _ ops _=>ops.toList.any λo=>o.guard.isSome
 | _=>false
def Mk (pl:ig)(a b:Code):Bool:=pl.OM&&(Nat.blt 0 (JN b)&&(Nat.ble 2 (ends a)||(Fo a||OS a)))
def qh (P:Program)(pl:ig)(cd:Code):List Item->Kt->List (Nat×Kt)->Kt:=
 @Code.rec (λ_=>List Item->Kt->List (Nat×Kt)->Kt) (λ_ K _=>K) (λ_ ops draw _ K _=>JM P pl ops draw K)
  (λa b iha ihb k K E=>iha (.code b::k) (bK (Mk pl a b) (ua pl (.code b::k)) (ihb k K E)) E)
  (λq _ _ iha ihb k K E c tm H nx=>B8 (br P tm q) (iha k K E c tm H nx) (ihb k K E c tm H nx))
  (λid _ ih k K E=>ih (.inBlock id::k) K ((id,K)::E)) (λbody _ k _ _=>ua pl (.inLoop body::k)) (λ_ _ _ _ _ _ _ _ _=>v9)
  (λid _ _ E=>n8 id E) (λbody ih k K E=>ih (.inScope body::k) K E) (λ_ _ K _=>K) (λ_ _ _ _=>v9) (λ_ _ _=>rq P pl) (λ_ _ _ _=>v9) cd
def Oy (P:Program)(pl:ig)(todo:List Item):Kt×List (Nat×Kt):=
 @List.rec Item (λ_=>Kt×List (Nat×Kt)) (rq P pl,[]) (λit k ih=>match it with
  | .code cd=>(qh P pl cd k ih.1 ih.2,ih.2)
  | .inBlock id=>(ih.1,(id,ih.1)::ih.2)
  | .inScope _=>ih
  | .inLoop body=>(ua pl (.inLoop body::k),ih.2)
  | _=>(v9,[])) todo
def JP (P:Program)(pl:ig)(todo:List Item):Kt:=match todo with
 | .inLoop body::k=>qh P pl body (.inLoop body::k) (ua pl (.inLoop body::k)) (Oy P pl k).2
 | todo=>(Oy P pl todo).1
def OT (P:Program)(pl:ig)(f:FuncId)(kd:Bool)(rp:Option Value)(fn:Func)(cd:Code)(args:List Value)(H:T OB)(nx:Nat):Q:=
 bif Nat.ble args.length fn.ntmps then tZ P fn.params (tX f pl.QI) args H nx λargs H nx=>dG args 0 .leaf λtm=>qh P pl cd [] (rq P pl) [] ⟨f,fn.ntmps,kd,[],rp,false⟩ tm H nx else .bad
def a4 (P:Program)(pl:ig)(q:bI):Q:=match q with
 | .call f args kd rp H nx=>aa P.funcs[f]? (λfn=>aa fn.body (λcd=>OT P pl f kd rp fn cd args H nx) .bad) .bad
 | .at c tm todo H nx=>JP P pl todo c tm H nx
abbrev Ext:=FuncId->List Value->Option Value
def lO (X:Ext)(q:bI)(k:Option Rt):Option Rt:=match q with
 | .call f args false _ H nx=>@Option.rec Value (λ_=>Option Rt) k (λv=>some ⟨.ret v,false,H,nx⟩) (X f args)
 | _=>k
def FD (P:Program)(pl:ig)(X:Ext)(n:Nat):bI->Option Rt:=
 @Nat.rec (λ_=>bI->Option Rt) (λ_=>none) (λ_ ih q=>lO X q ((a4 P pl q).run ih)) n
@[simp] theorem gO {α:Type} (bs:List Bool):T.get bs (.leaf:T α)=none:=by cases bs<;>rfl
@[simp] theorem get_nil {α:Type} (x:Option α) (l r:T α):T.get [] (.node x l r)=x:=rfl
@[simp] theorem L4 {α:Type} (bs:List Bool) (x:Option α) (l r:T α):T.get (false::bs) (.node x l r)=l.get bs:=rfl
@[simp] theorem Ml {α:Type} (bs:List Bool) (x:Option α) (l r:T α):T.get (true::bs) (.node x l r)=r.get bs:=rfl
theorem dR {α β:Type}:∀(bs:List Bool) (t:T α) (v:Option α) (k:T α->β),cJ bs t v k=k (cJ bs t v id)
 | [],t,v,k=>by cases t<;>rfl
 | false::bs,t,v,k=>by
   cases t with
   | leaf=>exact(dR bs .leaf v (λl'=>k (.node none l' .leaf))).trans (congrArg k (dR bs .leaf v (λl'=>T.node none l' .leaf)).symm)
   | node x l r=>exact(dR bs l v (λl'=>k (.node x l' r))).trans (congrArg k (dR bs l v (λl'=>T.node x l' r)).symm)
 | true::bs,t,v,k=>by
   cases t with
   | leaf=>exact(dR bs .leaf v (λl'=>k (.node none .leaf l'))).trans (congrArg k (dR bs .leaf v (λl'=>T.node none .leaf l')).symm)
   | node x l r=>exact(dR bs r v (λl'=>k (.node x l l'))).trans (congrArg k (dR bs r v (λl'=>T.node x l l')).symm)
def set {α:Type}(t:T α)(bs:List Bool)(v:Option α):T α:=cJ bs t v id
theorem aY {α β:Type}(bs:List Bool)(t:T α)(v:Option α)(k:T α->β):cJ bs t v k=k (set t bs v):=dR bs t v k
theorem jf {α:Type}(bs:List Bool)(v:Option α):set (.leaf:T α) (false::bs) v= .node none (set .leaf bs v) .leaf:=dR bs .leaf v _
theorem j1 {α:Type}(bs:List Bool)(v:Option α):set (.leaf:T α) (true::bs) v= .node none .leaf (set .leaf bs v):=dR bs .leaf v _
theorem fI {α:Type}(bs:List Bool)(v x:Option α)(l r:T α):set (.node x l r) (false::bs) v= .node x (set l bs v) r:=dR bs l v _
theorem gA {α:Type}(bs:List Bool)(v x:Option α)(l r:T α):set (.node x l r) (true::bs) v= .node x l (set r bs v):=dR bs r v _
theorem rr {α:Type}(v:Option α):∀(bs cs:List Bool) (t:T α),(set t bs v).get cs=if cs=bs then v else t.get cs
 | [],[],t=>by cases t<;>rfl
 | [],c::cs,t=>by cases t<;>cases c<;>rw[if_neg (by simp)]<;>first | rfl | (rw[gO];exact gO _)
 | false::bs,[],t=>by cases t<;>simp[jf,fI]
 | true::bs,[],t=>by cases t<;>simp[j1,gA]
 | false::bs,c::cs,t=>by cases t<;>cases c<;>simp[jf,fI,rr v bs cs]
 | true::bs,c::cs,t=>by cases t<;>cases c<;>simp[j1,gA,rr v bs cs]
def Ij:List Bool->Nat
 | []=>0
 | false::l=>2*Ij l+1
 | true::l=>2*Ij l+2
theorem lP:∀f k,k<=f->Ij (jY f k)=k:=by
 intro f
 induction f with
 | zero=>intro k h;cases Nat.le_zero.1 h;rfl
 | succ f ih=>
   intro k h;cases k with
   | zero=>rfl
   | succ m=>
     have hd:m/2<=f:=by omega
     have e:jY (f+1) (m+1)=Nat.casesOn (motive:=λ_=>List Bool) (m%2) (false::jY f (m/2)) λ_=>true::jY f (m/2):=rfl;rw[e];rcases Nat.mod_two_eq_zero_or_one m with h2 | h2
     . rw[h2];show 2*Ij (jY f (m/2))+1=m+1;rw[ih _ hd];omega
     . rw[h2];show 2*Ij (jY f (m/2))+2=m+1;rw[ih _ hd];omega
theorem B9 {a b:Nat}(h:bits a=bits b):a=b:=by
 have h1:=lP a a (Nat.le_refl a);have h2:=lP b b (Nat.le_refl b);unfold bits at h;rw[h]at h1;omega
theorem v_:∀l:List Bool,2^l.length<=Ij l+1
 | []=>Nat.le_refl _
 | false::l=>by have:=v_ l;simp only[Ij,List.length_cons,Nat.pow_succ];omega
 | true::l=>by have:=v_ l;simp only[Ij,List.length_cons,Nat.pow_succ];omega
theorem ub {k d:Nat}(h:k+1<2^d):(bits k).length<d:=by
 have h1:=v_ (jY k k);rw[lP k k (Nat.le_refl k)]at h1;show(jY k k).length<d;rcases Nat.lt_or_ge (jY k k).length d with h2 | h2
 . exact h2
 . have:=Nat.pow_le_pow_right (n:=2) (by omega) h2;omega
theorem n9 {α:Type}(v:α):∀(d:Nat) (bs:List Bool),bs.length<d->(full d v).get bs=some v
 | 0,bs,h=>by omega
 | d+1,[],_=>rfl
 | d+1,false::bs,h=>n9 v d bs (by simpa using h)
 | d+1,true::bs,h=>n9 v d bs (by simpa using h)
theorem get_at {α:Type}(t:T α)(i j:Nat)(v:Option α):(set t (bits i) v).get (bits j)=if j=i then v else t.get (bits j):=by
 rw[rr]
 by_cases h:j=i
 . simp[h]
 . rw[if_neg h,if_neg (λe=>h (B9 e))]
theorem qi {α β:Type}:∀(l:List α) (i:Nat) (t:T α) (k:T α->β),dG l i t k=k (dG l i t id)
 | [],_,_,_=>rfl
 | v::l,i,t,k=>by
   have e:∀{γ:Type} (k:T α->γ),dG (v::l) i t k=cJ (bits i) t (some v) λt'=>dG l (i+1) t' k:=λ_=>rfl;rw[e,e,aY,aY];exact qi l (i+1) _ k
def dB {α:Type}(l:List α)(i:Nat)(t:T α):T α:=dG l i t id
theorem cC {α β:Type}(l:List α)(i:Nat)(t:T α)(k:T α->β):dG l i t k=k (dB l i t):=qi l i t k
theorem qj {α:Type}(i:Nat)(t:T α):dB [] i t=t:=rfl
theorem n_ {α:Type}(v:α)(l:List α)(i:Nat)(t:T α):dB (v::l) i t=dB l (i+1) (set t (bits i) (some v)):=by
 show cJ (bits i) t (some v) (λt'=>dG l (i+1) t' id)=_;rw[aY];rfl
theorem cS {α:Type}:∀(l:List α) (i:Nat) (t:T α) (j:Nat),(dB l i t).get (bits j)=if i<=j/\j<i+l.length then l[j-i]? else t.get (bits j)
 | [],i,t,j=>by rw[qj,if_neg (by simp)]
 | v::l,i,t,j=>by
   rw[n_,cS l (i+1),get_at]
   by_cases h:j=i
   . subst h;rw[if_neg (by omega),if_pos rfl,if_pos (by simp)];simp
   . rw[if_neg h]
     by_cases h2:i+1<=j/\j<i+1+l.length
     . rw[if_pos h2,if_pos (by simp;omega)];obtain⟨d,rfl⟩:∃d,j=i+1+d:=⟨j-(i+1),by omega⟩;have e1:i+1+d-(i+1)=d:=by omega
       have e2:i+1+d-i=d+1:=by omega
       rw[e1,e2,List.getElem?_cons_succ]
     . rw[if_neg h2,if_neg (by simp;omega)]
theorem uc {α:Type}(t:T α)(i:Nat):mZ t 0 i=some []:=rfl
theorem ud {α:Type}(t:T α)(n i:Nat):mZ t (n+1) i=
 Option.casesOn (motive:=λ_=>Option (List α)) (t.get (bits i)) none λv=>Option.casesOn (motive:=λ_=>Option (List α)) (mZ t n (i+1)) none λl=>some (v::l):=rfl
theorem oc {α:Type}(t:T α):∀(n i:Nat) (l:List α),mZ t n i=some l->l.length=n/\∀j,j<n->t.get (bits (i+j))=l[j]?
 | 0,i,l,h=>by
   rw[uc]at h;cases h;exact⟨rfl,λj hj=>by omega⟩
 | n+1,i,l,h=>by
   rw[ud]at h;cases hv:t.get (bits i)with
   | none=>rw[hv]at h;cases h
   | some v=>
     rw[hv]at h;cases hl:mZ t n (i+1)with
     | none=>rw[hl]at h;cases h
     | some l'=>
       rw[hl]at h;cases h;obtain⟨h1,h2⟩:=oc t n (i+1) l' hl;refine⟨by simp[h1],λj hj=> ?_⟩;cases j with
       | zero=>simpa using hv
       | succ j=>
         have:=h2 j (by omega);rw[show i+1+j=i+(j+1)from by omega]at this;simpa using this
theorem a5 {β:Type}(n:Nat)(k:Nat->β):bN n k=k n:=by cases n<;>rfl
theorem Fp {β:Type}(n:Int)(k:Int->β):JI n k=k n:=by cases n<;>simp[JI,a5]
theorem B_ {β:Type}(i:IntKind)(k:IntKind->β):H_ i k=k i:=by cases i<;>rfl
theorem Ca {β:Type}(b:Bool)(k:Bool->β):Ia b k=k b:=by cases b<;>rfl
theorem ue {β:Type}(a:Addr)(k:Addr->β):xH a k=k a:=by
 obtain⟨b,o,s⟩:=a;cases s<;>simp[xH,a5]
theorem uf {β:Type}(v:Value)(k:Value->β):p_ v k=k v:=by
 cases v with
 | pointer a=>cases a<;>simp[p_,ue]
 | slice a l c=>cases a<;>simp[p_,ue,a5]
 | _=>simp[p_,Ca,B_,Fp]
theorem od {β:Type}:∀(l:List Value) (k:List Value->β),tP l k=k l
 | [],_=>rfl
 | v::l,k=>by simp only[tP,uf,od l]
theorem ik {β:Type}(v:Value)(k:Value->β):nN v k=k v:=by
 cases v with
 | agg c=>obtain⟨l⟩:=c;simp[nN,od]
 | tuple c=>obtain⟨l⟩:=c;simp[nN,od]
 | _=>simp only[nN,uf]
@[simp] theorem aN {α β:Type} (a:α) (k:α->β) (bad:β):aa (some a) k bad=k a:=rfl
@[simp] theorem L5 {α β:Type} (k:α->β) (bad:β):aa none k bad=bad:=rfl
@[simp] theorem na {β:Type} (x y:β):bK true x y=x:=rfl
@[simp] theorem oe {β:Type} (x y:β):bK false x y=y:=rfl
theorem aD {α β:Type}{x:Option α}{k:α->Option β}{y:β}(h:aa x k none=some y):∃a,x=some a/\k a=some y:=by
 cases x with
 | none=>cases h
 | some a=>exact⟨a,rfl,h⟩
theorem og {β:Type}{x:Option OB}{k:Nat->T Value->TypeId->Option β}{y:β}(h:dh x k none=some y):
 ∃n t e,x=some (.cells n t e)/\k n t e=some y:=by
 unfold dh at h;split at h
 . exact⟨_,_,_,rfl,h⟩
 . cases h
theorem oh {β:Type}{x:Option OB}{k:Nat->T Value->Option β}{y:β}(h:pO x k none=some y):
 ∃n t,((∃e,x=some (.cells n t e))\/x=some (.ro n t))/\k n t=some y:=by
 unfold pO at h;split at h
 . exact⟨_,_,.inl ⟨_,rfl⟩,h⟩
 . exact⟨_,_,.inr rfl,h⟩
 . cases h
theorem ug {β:Type}{P:Program}{t:TypeId}{k:TypeId->Nat->Option β}{y:β}(h:cV P t k none=some y):
 ∃e s,P.underlying t=some (.slice e)/\a6 P e=some s/\k e s=some y:=by
 unfold cV at h;split at h
 . rename_i e he;obtain⟨s,h1,h2⟩:=aD h;exact⟨e,s,he,h1,h2⟩
 . cases h
@[simp] theorem Fq (n:Nat):ra (n:Int)=true:=rfl
theorem ek {β:Type}(n:Nat)(k:Nat->β)(bad:β):gb (n:Int) k bad=k n:=a5 n k
theorem qk {β:Type}{i:Int}{k:Nat->Option β}{y:β}(h:gb i k none=some y):∃n:Nat,i= .ofNat n/\k n=some y:=by
 cases i with
 | ofNat n=>exact⟨n,rfl,(a5 n k).symm.trans h⟩
 | negSucc n=>cases h
@[simp] theorem JQ {β:Type} (s:Nat) (es:List Value) (k:Nat->List Value->β) (bad:β):fc (bc s es) k bad=k s es:=rfl
@[simp] theorem L7 {β:Type} (v:Value) (k:Value->β) (bad:β):LZ (ai v) k bad=k v:=rfl
theorem gP {β:Type}{v:Value}{k:Nat->List Value->Option β}{y:β}(h:fc v k none=some y):∃s es,v=bc s es/\k s es=some y:=by
 unfold fc at h;split at h
 . exact⟨_,_,rfl,h⟩
 . cases h
theorem ru {β:Type}{v:Value}{k:Value->Option β}{y:β}(h:LZ v k none=some y):∃f u,v= .func (.yield f) ⟨[u]⟩ ⟨[.nilIface]⟩/\k u=some y:=by
 unfold LZ at h;split at h
 . exact⟨_,_,rfl,h⟩
 . cases h
theorem aS {β:Type}{b:Bool}{x:Option β}{y:β}(h:(bif b then x else none)=some y):b=true/\x=some y:=by
 cases b
 . cases h
 . exact⟨rfl,h⟩
end
end Go.Ev
namespace Go.Ev
open Go.RowKit (Below)
noncomputable section
set_option maxRecDepth 100000
set_option linter.unusedVariables false
set_option linter.unusedSimpArgs false
section
structure fp where
 r:Nat
 sz:Nat
 es:Nat
 fz:Option (Array Value)
abbrev bZ:=List (Option fp)
def bZ.le (φ ψ:bZ):Prop:=∀(k:Nat) (e:fp),φ[k]? = some (some e)->ψ[k]? = some (some e)
theorem bZ.le_refl (φ:bZ):φ.le φ:=λ_ _ h=>h
theorem bZ.le_trans {a b c:bZ}(h:a.le b)(h':b.le c):a.le c:=λk e q=>h' k e (h k e q)
inductive VR (φ:bZ):Value->Value->Prop
 | flat (v:Value) (h:flat v=true):VR φ v v
 | ptr {k o:Nat} {e:fp} (h:φ[k]? = some (some e)):VR φ (.pointer (some ⟨k,o,none⟩)) (.pointer (some ⟨e.r,o,none⟩))
 | slice {k o l c c':Nat} {e:fp} (h:φ[k]? = some (some e)) (hc:(c≠dP/\c'=c)\/(c=dP/\l<=c'/\o+c'*e.es<=e.sz)):
  VR φ (.slice (some ⟨k,o,none⟩) l c) (.slice (some ⟨e.r,o,none⟩) l c')
 | map {k:Nat} {e:fp} (h:φ[k]? = some (some e)):VR φ (.map (some k)) (.map (some e.r))
 | iface {t:TypeId} {v v':Value} (h:VR φ v v'):VR φ (.iface t v) (.iface t v')
 | agg {c c':List Value} (hl:c.length=c'.length) (h:∀(i:Nat) (v v':Value),c[i]? = some v->c'[i]? = some v'->VR φ v v'):VR φ (.agg ⟨c⟩) (.agg ⟨c'⟩)
 | tuple {c c':List Value} (hl:c.length=c'.length) (h:∀(i:Nat) (v v':Value),c[i]? = some v->c'[i]? = some v'->VR φ v v'):VR φ (.tuple ⟨c⟩) (.tuple ⟨c'⟩)
 | func {fn:FuncId} {c c':List Value} (hl:c.length=c'.length) (h:∀(i:Nat) (v v':Value),c[i]? = some v->c'[i]? = some v'->VR φ v v'):VR φ (.func (.func fn) #[] ⟨c⟩) (.func (.func fn) #[] ⟨c'⟩)
 | pT (s:Nat):VR φ (bc s []) (.slice none 0 0)
 | oi (s:Nat) (a:Addr) (c':Nat):VR φ (bc s []) (.slice (some a) 0 c')
 | row {k s o c':Nat} {e:fp} {c:Array Value} {es:List Value} (h:φ[k]? = some (some e)) (hf:e.fz=some c) (hs:∀x∈es,x.cells.toList.length=s) (hn:es≠[]->o+es.length*s<=c.size) (hc:es.length<=c')
  (hx:∀(i j:Nat) (x v v':Value),es[i]? = some x->x.cells.toList[j]? = some v->c[o+i*s+j]? = some v'->VR φ v v'):VR φ (bc s es) (.slice (some ⟨e.r,o,none⟩) es.length c')
 | ep {k f o:Nat} {e:fp} {c:Array Value} {u:Value} (h:φ[k]? = some (some e)) (hf:e.fz=some c) (hn:o+u.cells.toList.length<=c.size)
  (hx:∀(j:Nat) (v v':Value),u.cells.toList[j]? = some v->c[o+j]? = some v'->VR φ v v'):VR φ (.func (.yield f) ⟨[u]⟩ ⟨[.nilIface]⟩) (.pointer (some ⟨e.r,o,none⟩))
theorem VR.mono {φ ψ:bZ}(hle:φ.le ψ){v v':Value}(h:VR φ v v'):VR ψ v v':=by
 induction h with
 | flat v h=>exact .flat v h
 | ptr h=>exact .ptr (hle _ _ h)
 | slice h hc=>exact .slice (hle _ _ h) hc
 | map h=>exact .map (hle _ _ h)
 | iface _ ih=>exact .iface ih
 | agg hl _ ih=>exact .agg hl ih
 | tuple hl _ ih=>exact .tuple hl ih
 | func hl _ ih=>exact .func hl ih
 | pT s=>exact .pT s
 | oi s a c=>exact .oi s a c
 | row h hf hs hn hc _ ih=>exact .row (hle _ _ h) hf hs hn hc ih
 | ep h hf hn _ ih=>exact .ep (hle _ _ h) hf hn ih
structure LR (φ:bZ)(l l':List Value):Prop where
 len:l.length=l'.length
 at_:∀(i:Nat) (v v':Value),l[i]? = some v->l'[i]? = some v'->VR φ v v'
theorem LR.nil {φ:bZ}:LR φ [] []:=⟨rfl,λi v v' h=>by simp at h⟩
theorem LR.cons {φ:bZ}{v v':Value}{l l':List Value}(h:VR φ v v')(hl:LR φ l l'):LR φ (v::l) (v'::l'):=
 ⟨by simp[hl.len],λi a b ha hb=>by
  cases i with
  | zero=>simp at ha hb;subst ha hb;exact h
  | succ i=>simp at ha hb;exact hl.at_ i a b ha hb⟩
theorem LR.mono {φ ψ:bZ}(hle:φ.le ψ){l l':List Value}(h:LR φ l l'):LR ψ l l':=⟨h.len,λi v v' a b=>(h.at_ i v v' a b).mono hle⟩
theorem LR.get {φ:bZ}{l l':List Value}(h:LR φ l l'){i:Nat}{v:Value}(hv:l[i]? = some v):∃v',l'[i]? = some v'/\VR φ v v':=by
 have hi:i<l.length:=(List.getElem?_eq_some_iff.1 hv).1;have hi':i<l'.length:=h.len ▸ hi;exact⟨l'[i],List.getElem?_eq_getElem hi',h.at_ i v _ hv (List.getElem?_eq_getElem hi')⟩
theorem LR.inv {φ:bZ}{v:Value}{l l':List Value}(h:LR φ (v::l) l'):∃v' m,l'=v'::m/\VR φ v v'/\LR φ l m:=by
 obtain⟨h1,h2⟩:=h;cases l' with
 | nil=>simp at h1
 | cons v' m=>exact⟨v',m,rfl,h2 0 v v' rfl rfl,by simpa using h1,λi a b ha hb=>h2 (i+1) a b (by simpa using ha) (by simpa using hb)⟩
theorem LR.jI {φ:bZ}{l':List Value}(h:LR φ [] l'):l'=[]:=by
 have:=h.len;cases l' with
 | nil=>rfl
 | cons _ _=>simp at this
theorem LR.append {φ:bZ}{a a' b b':List Value}(h:LR φ a a')(h':LR φ b b'):LR φ (a++b) (a'++b'):=
 ⟨by simp[h.len,h'.len],λi v v' hv hv'=>by
  by_cases hi:i<a.length
  . rw[List.getElem?_append_left hi]at hv;rw[List.getElem?_append_left (h.len ▸ hi)]at hv';exact h.at_ i v v' hv hv'
  . rw[List.getElem?_append_right (by omega)]at hv;rw[List.getElem?_append_right (by have:=h.len;omega)]at hv';rw[<- h.len]at hv';exact h'.at_ _ v v' hv hv'⟩
theorem LR.take {φ:bZ}{a a':List Value}(h:LR φ a a')(n:Nat):LR φ (a.take n) (a'.take n):=
 ⟨by simp[h.len],λi v v' hv hv'=>by
  rw[List.getElem?_take]at hv hv';split at hv
  . rename_i hi;rw[if_pos hi]at hv';exact h.at_ i v v' hv hv'
  . cases hv⟩
theorem LR.drop {φ:bZ}{a a':List Value}(h:LR φ a a')(n:Nat):LR φ (a.drop n) (a'.drop n):=
 ⟨by simp[h.len],λi v v' hv hv'=>by
  rw[List.getElem?_drop]at hv hv';exact h.at_ _ v v' hv hv'⟩
theorem LR.set {φ:bZ}{a a':List Value}(h:LR φ a a')(n:Nat){u u':Value}(hu:VR φ u u'):LR φ (a.set n u) (a'.set n u'):=
 ⟨by simp[h.len],λi v v' hv hv'=>by
  rw[List.getElem?_set]at hv hv';rw[<- h.len]at hv'
  by_cases h1:n=i
  . rw[if_pos h1]at hv hv';split at hv
    . rename_i h2;rw[if_pos h2]at hv';cases hv;cases hv';exact hu
    . cases hv
  . rw[if_neg h1]at hv hv';exact h.at_ i v v' hv hv'⟩
theorem il:∀(n:Nat) (v:Value),ga n v=true->ga (n+1) v=true
 | 0,_,h=>by cases h
 | n+1,v,h=>by
   have ih:=il n;cases v with
   | iface t v=>exact ih v h
   | agg c=>exact List.all_eq_true.2 λx hx=>ih x (List.all_eq_true.1 h x hx)
   | tuple c=>exact List.all_eq_true.2 λx hx=>ih x (List.all_eq_true.1 h x hx)
   | _=>exact h
theorem wa {t:TypeId}{v:Value}(h:flat (.iface t v)=true):flat v=true:=il 4 v h
theorem flat_agg {c:Array Value}(h:flat (.agg c)=true):∀x∈c.toList,flat x=true:=λx hx=>il 4 x (List.all_eq_true.1 h x hx)
theorem wb {c:Array Value}(h:flat (.tuple c)=true):∀x∈c.toList,flat x=true:=λx hx=>il 4 x (List.all_eq_true.1 h x hx)
theorem LR.of_flat {φ:bZ}{l:List Value}(h:∀x∈l,Ev.flat x=true):LR φ l l:=
 ⟨rfl,λi v v' hv hv'=>by
  rw[hv]at hv';cases hv';exact .flat v (h v (List.mem_of_getElem? hv))⟩
theorem VR.uh {φ:bZ}{v v':Value}(h:VR φ v v'):∀n,ga n v=true->v'=v:=by
 induction h with
 | flat v _=>exact λ_ _=>rfl
 | ptr _=>intro n h;cases n<;>cases h
 | slice _ _=>intro n h;cases n<;>cases h
 | map _=>intro n h;cases n<;>cases h
 | iface _ ih=>
   intro n h;cases n with
   | zero=>cases h
   | succ n=>rw[ih n h]
 | @agg c c' hl _ ih=>
   intro n h;cases n with
   | zero=>cases h
   | succ n=>
     have:c'=c:=List.ext_getElem? λi=>by
      by_cases hi:i<c.length
      . have h1:=List.getElem?_eq_getElem hi;have h2:=List.getElem?_eq_getElem (hl ▸ hi:i<c'.length);rw[h1,h2,ih i _ _ h1 h2 n (List.all_eq_true.1 h _ (List.getElem_mem hi))]
      . rw[List.getElem?_eq_none (by omega),List.getElem?_eq_none (by omega)]
     rw[this]
 | @tuple c c' hl _ ih=>
   intro n h;cases n with
   | zero=>cases h
   | succ n=>
     have:c'=c:=List.ext_getElem? λi=>by
      by_cases hi:i<c.length
      . have h1:=List.getElem?_eq_getElem hi;have h2:=List.getElem?_eq_getElem (hl ▸ hi:i<c'.length);rw[h1,h2,ih i _ _ h1 h2 n (List.all_eq_true.1 h _ (List.getElem_mem hi))]
      . rw[List.getElem?_eq_none (by omega),List.getElem?_eq_none (by omega)]
     rw[this]
 | @func fn c c' hl _ _=>
   intro n h;cases n with
   | zero=>cases h
   | succ n=>
     have h1:c.isEmpty=true:=by
      have:((#[]:Array Value).toList.isEmpty&&c.isEmpty)=true:=h;simpa using this
     cases c with
     | nil=>cases c' with
       | nil=>rfl
       | cons _ _=>simp at hl
     | cons _ _=>cases h1
 | oi s a c=>intro n h;cases n<;>first | (cases h;done) | (exact absurd h (by simp[bc,ga]))
 | pT s=>intro n h;cases n<;>first | (cases h;done) | (exact absurd h (by simp[bc,ga]))
 | row _ _ _ _ _ _ _=>intro n h;cases n<;>first | (cases h;done) | (exact absurd h (by simp[bc,ga]))
 | ep _ _ _ _ _=>intro n h;cases n<;>first | (cases h;done) | (exact absurd h (by simp[ga]))
theorem VR.aB {φ:bZ}{v v':Value}(h:VR φ v v')(hf:Ev.flat v=true):v'=v:=h.uh 5 hf
variable {φ:bZ}
theorem VR.dC {k o:Nat}{s:Option Nat}{v':Value}(h:VR φ (.pointer (some ⟨k,o,s⟩)) v'):
 ∃e,φ[k]? = some (some e)/\s=none/\v'= .pointer (some ⟨e.r,o,none⟩):=by
 cases h with
 | flat _ h=>cases h
 | ptr h=>exact⟨_,h,rfl,rfl⟩
theorem VR.dS {k o l c:Nat}{s:Option Nat}{v':Value}(h:VR φ (.slice (some ⟨k,o,s⟩) l c) v'):
 ∃e c',φ[k]? = some (some e)/\s=none/\v'= .slice (some ⟨e.r,o,none⟩) l c'/\((c≠dP/\c'=c)\/(c=dP/\l<=c'/\o+c'*e.es<=e.sz)):=by
 cases h with
 | flat _ h=>cases h
 | slice h hc=>exact⟨_,_,h,rfl,rfl,hc⟩
theorem VR.kL {k:Nat}{v':Value}(h:VR φ (.map (some k)) v'):∃e,φ[k]? = some (some e)/\v'= .map (some e.r):=by
 cases h with
 | flat _ h=>cases h
 | map h=>exact⟨_,h,rfl⟩
theorem VR.gQ {t:TypeId}{v v':Value}(h:VR φ (.iface t v) v'):∃u,v'= .iface t u/\VR φ v u:=by
 cases h with
 | flat _ h=>exact⟨v,rfl,.flat v (wa h)⟩
 | iface h=>exact⟨_,rfl,h⟩
theorem VR.jJ {c:Array Value}{v':Value}(h:VR φ (.agg c) v'):∃c',v'= .agg c'/\LR φ c.toList c'.toList:=by
 cases h with
 | flat _ h=>exact⟨c,rfl,.of_flat (flat_agg h)⟩
 | agg hl h=>exact⟨_,rfl,hl,h⟩
theorem VR.ql {c:Array Value}{v':Value}(h:VR φ (.tuple c) v'):∃c',v'= .tuple c'/\LR φ c.toList c'.toList:=by
 cases h with
 | flat _ h=>exact⟨c,rfl,.of_flat (wb h)⟩
 | tuple hl h=>exact⟨_,rfl,hl,h⟩
theorem VR.Cb {fn:FuncId}{c:List Value}{v':Value}(h:VR φ (.func (.func fn) ⟨[]⟩ ⟨c⟩) v'):∃c',v'= .func (.func fn) #[] ⟨c'⟩/\LR φ c c':=by
 cases h with
 | flat _ h=>
   have h1:c=[]:=by
    have h0:((⟨[]⟩:Array Value).toList.isEmpty&&(⟨c⟩:Array Value).toList.isEmpty)=true:=h;simpa using h0
   subst h1;exact⟨[],rfl,.nil⟩
 | func hl h=>exact⟨_,rfl,hl,h⟩
theorem VR.gg {s:Nat}{es:List Value}{v':Value}(h:VR φ (bc s es) v'):(es=[]/\(v'= .slice none 0 0\/∃(a:Addr) (c':Nat),v'= .slice (some a) 0 c'))\/∃(k o c':Nat) (e:fp) (c:Array Value),φ[k]? = some (some e)/\e.fz=some c/\
 (∀x∈es,x.cells.toList.length=s)/\(es≠[]->o+es.length*s<=c.size)/\es.length<=c'/\
 (∀(i j:Nat) (x v v':Value),es[i]? = some x->x.cells.toList[j]? = some v->c[o+i*s+j]? = some v'->VR φ v v')/\v'= .slice (some ⟨e.r,o,none⟩) es.length c':=by
 generalize hr:bc s es=r at h;cases h with
 | flat _ h=>subst hr;exact absurd h (by simp[bc,Ev.flat,ga])
 | pT s'=>unfold bc at hr;injection hr with h1 h2;injection h2 with h2;exact .inl ⟨h2,.inl rfl⟩
 | oi s' a c'=>unfold bc at hr;injection hr with h1 h2;injection h2 with h2;exact .inl ⟨h2,.inr ⟨a,c',rfl⟩⟩
 | row h hf hs hn hc hx=>
   unfold bc at hr;injection hr with h1 h2;injection h1 with h1;injection h2 with h2
   subst h1 h2;exact .inr ⟨_,_,_,_,_,h,hf,hs,hn,hc,hx,rfl⟩
 | ep _ _ _ _=>unfold bc at hr;injection hr with h1 h2 h3;injection h3 with h3;injection h3 with h3;cases h3
 | func _ _=>unfold bc at hr;injection hr with h1;cases h1
 | _=>cases hr
theorem VR.om {f:Nat}{u:Value}{v':Value}(h:VR φ (.func (.yield f) ⟨[u]⟩ ⟨[.nilIface]⟩) v'):∃(k o:Nat) (e:fp) (c:Array Value),φ[k]? = some (some e)/\e.fz=some c/\o+u.cells.toList.length<=c.size/\
 (∀(j:Nat) (v v':Value),u.cells.toList[j]? = some v->c[o+j]? = some v'->VR φ v v')/\v'= .pointer (some ⟨e.r,o,none⟩):=by
 generalize hr:Value.func (.yield f) ⟨[u]⟩ ⟨[.nilIface]⟩=r at h;cases h with
 | flat _ h=>subst hr;exact absurd h (by simp[Ev.flat,ga])
 | pT s'=>unfold bc at hr;injection hr with h1 h2 h3;injection h3 with h3;injection h3 with h3;cases h3
 | oi s' a c'=>unfold bc at hr;injection hr with h1 h2 h3;injection h3 with h3;injection h3 with h3;cases h3
 | row _ _ _ _ _ _=>unfold bc at hr;injection hr with h1 h2 h3;injection h3 with h3;injection h3 with h3;cases h3
 | ep h hf hn hx=>
   injection hr with h1 h2;injection h2 with h2;injection h2 with h2
   subst h2;exact⟨_,_,_,_,h,hf,hn,hx,rfl⟩
 | func _ _=>injection hr with h1;cases h1
 | _=>cases hr
theorem LR.agg {l l':List Value}(h:LR φ l l'):VR φ (.agg ⟨l⟩) (.agg ⟨l'⟩):= .agg h.len h.at_
theorem LR.tuple {l l':List Value}(h:LR φ l l'):VR φ (.tuple ⟨l⟩) (.tuple ⟨l'⟩):= .tuple h.len h.at_
theorem VR.au {v v':Value}(h:VR φ v v')(hv:Ev.au v=true):v'.oneCell'=true:=by
 cases h with
 | flat _ _=>cases v<;>first | rfl | cases hv
 | agg _ _=>cases hv
 | tuple _ _=>cases hv
 | _=>rfl
theorem VR.cells {v v':Value}(h:VR φ v v'):LR φ v.cells.toList v'.cells.toList:=by
 cases h with
 | agg hl h=>exact⟨hl,h⟩
 | flat _ h=>
   cases v with
   | agg c=>exact .of_flat (flat_agg h)
   | _=>exact .cons (.flat _ h) .nil
 | pT s=>exact .cons (.pT s) .nil
 | oi s a c=>exact .cons (.oi s a c) .nil
 | row h hf hs hn hc hx=>exact .cons (.row h hf hs hn hc hx) .nil
 | ep h hf hn hx=>exact .cons (.ep h hf hn hx) .nil
 | _=>exact .cons (by constructor<;>assumption) .nil
def hp (H:T OB)(k:Nat):Option OB:=H.get (bits k)
def lQ (g:Nat->Option OB)(k:Nat)(x:Option OB)(j:Nat):Option OB:=if j=k then x else g j
theorem bu (H:T OB)(k:Nat)(x:Option OB):hp (set H (bits k) x)=lQ (hp H) k x:=by
 funext j;unfold hp lQ;rw[get_at]
@[simp] theorem cf (g:Nat->Option OB) (k:Nat) (x:Option OB):lQ g k x k=x:=if_pos rfl
theorem aX (g:Nat->Option OB){k j:Nat}(h:j≠k)(x:Option OB):lQ g k x j=g j:=if_neg h
structure Qy (φ:bZ)(e e':MapEntry):Prop where
 key:VR φ e.key e'.key
 val:VR φ e.val e'.val
 born:e'.born=e.born
inductive my (φ:bZ):List MapEntry->List MapEntry->Prop
 | nil:my φ [] []
 | cons {e e':MapEntry} {l l':List MapEntry} (h:Qy φ e e') (hl:my φ l l'):my φ (e::l) (e'::l')
theorem my.mono {φ ψ:bZ}(hle:φ.le ψ){l l':List MapEntry}(h:my φ l l'):my ψ l l':=by
 induction h with
 | nil=>exact .nil
 | cons h _ ih=>exact .cons ⟨h.key.mono hle,h.val.mono hle,h.born⟩ ih
def rz (φ:bZ)(c:Array Value)(n:Nat)(t:T Value):Prop:=∀i,i<n->∀v,t.get (bits i)=some v->∃v',c[i]? = some v'/\VR φ v v'
theorem rz.mono {φ ψ:bZ}(hle:φ.le ψ){c:Array Value}{n:Nat}{t:T Value}(h:rz φ c n t):rz ψ c n t:=
 λi hi v hv=>let⟨v',a,b⟩:=h i hi v hv;⟨v',a,b.mono hle⟩
def wc (φ:bZ)(m m':Option Nat):Prop:=match m,m' with
 | none,none=>True
 | some k,some r=>∃e,φ[k]? = some (some e)/\e.r=r
 | _,_=>False
theorem wc.mono {φ ψ:bZ}(hle:φ.le ψ){m m':Option Nat}(h:wc φ m m'):wc ψ m m':=by
 cases m<;>cases m'<;>first | exact h | (obtain⟨e,a,b⟩:=h;exact⟨e,hle _ _ a,b⟩)
def live:OB->Bool
 | .dead=>false
 | .ro _ _=>false
 | _=>true
def ui (P:Program)(W:World)(φ:bZ)(ob:OB)(e:fp)(w:World):Prop:=match ob with
 | .cells n t el=>W.heap.size<=e.r/\(∃c el',w.heap[e.r]? = some (.cells c el' (0,0))/\c.size=e.sz/\n<=e.sz/\rz φ c n t)/\∀z,a6 P el=some z->e.es=z
 | .ro n t=>(e.r<W.heap.size/\∃c el' fz,W.heap[e.r]? = some (.cells c el' fz)/\n<=c.size/\rz φ c n t)\/∃(k:Nat) (e':fp) (c:Array Value),φ[k]? = some (some e')/\e'.r=e.r/\e'.fz=some c/\n<=c.size/\rz φ c n t
 | .dead=>True
 | .map es c=>W.heap.size<=e.r/\∃es',w.heap[e.r]? = some (.map es' c)/\my φ es es'.toList
 | .iter m since seen last=>W.heap.size<=e.r/\∃m' seen',w.heap[e.r]? = some (.mapIter m' since seen' last)/\seen'.toList=seen/\wc φ m m'
theorem ui.mono {P:Program}{W:World}{φ ψ:bZ}(hle:φ.le ψ){ob:OB}{e:fp}{w:World}(h:ui P W φ ob e w):ui P W ψ ob e w:=by
 cases ob with
 | cells n t el=>obtain⟨h1,⟨c,el',h2,h3,h4,h5⟩,h6⟩:=h;exact⟨h1,⟨c,el',h2,h3,h4,h5.mono hle⟩,h6⟩
 | ro n t=>
   rcases h with⟨h1,c,el',fz,h2,h3,h4⟩ | ⟨k,e',c,h1,h2,h3,h4,h5⟩
   . exact .inl ⟨h1,c,el',fz,h2,h3,h4.mono hle⟩
   . exact .inr ⟨k,e',c,hle _ _ h1,h2,h3,h4,h5.mono hle⟩
 | dead=>trivial
 | map es c=>obtain⟨h1,es',h2,h3⟩:=h;exact⟨h1,es',h2,h3.mono hle⟩
 | iter m since seen last=>obtain⟨h1,m',seen',h2,h3,h4⟩:=h;exact⟨h1,m',seen',h2,h3,h4.mono hle⟩
theorem ui.heap {P:Program}{W:World}{φ:bZ}{ob:OB}{e:fp}{w w':World}(hw:live ob=true->w'.heap[e.r]? = w.heap[e.r]?)(h:ui P W φ ob e w):ui P W φ ob e w':=by
 cases ob with
 | cells n t el=>obtain⟨h1,⟨c,el',h2,h3,h4,h5⟩,h6⟩:=h;exact⟨h1,⟨c,el',by rw[hw rfl];exact h2,h3,h4,h5⟩,h6⟩
 | ro n t=>exact h
 | dead=>trivial
 | map es c=>obtain⟨h1,es',h2,h3⟩:=h;exact⟨h1,es',by rw[hw rfl];exact h2,h3⟩
 | iter m since seen last=>obtain⟨h1,m',seen',h2,h3,h4⟩:=h;exact⟨h1,m',seen',by rw[hw rfl];exact h2,h3,h4⟩
theorem ui.Mm {P:Program}{W:World}{φ:bZ}{ob:OB}{e:fp}{w:World}(hl:live ob=true)(h:ui P W φ ob e w):W.heap.size<=e.r:=by
 cases ob with
 | ro n t=>cases hl
 | dead=>cases hl
 | _=>exact h.1
structure HR (P:Program)(W:World)(φ:bZ)(g:Nat->Option OB)(w:World):Prop where
 below:Below W.heap.size W w
 mz:∀(k:Nat) (ob:OB),g k=some ob->k<φ.length
 lI:∀(k:Nat) (e:fp),φ[k]? = some (some e)->e.r<w.heap.size
 inj:∀(k k':Nat) (ob ob':OB) (e e':fp),φ[k]? = some (some e)->φ[k']? = some (some e')->g k=some ob->g k'=some ob'->live ob=true->live ob'=true->e.r=e'.r->k=k'
 obj:∀(k:Nat) (ob:OB) (e:fp),g k=some ob->φ[k]? = some (some e)->ui P W φ ob e w
 gl:∀(k:Nat),k<P.globals.size->∃e:fp,φ[k]? = some (some e)/\e.r=k
 j3:∀(k:Nat) (e:fp) (c:Array Value),φ[k]? = some (some e)->e.fz=some c->∃el fz,w.heap[e.r]? = some (.cells c el fz)
 oo:∀(k k':Nat) (e e':fp) (c:Array Value) (ob:OB),φ[k]? = some (some e)->e.fz=some c->φ[k']? = some (some e')->g k'=some ob->live ob=true->e'.r≠e.r
theorem HR.row {P:Program}{W:World}{φ:bZ}{g:Nat->Option OB}{w:World}(hH:HR P W φ g w){k n:Nat}{t:T Value}{e:fp}
 (hg:(∃el,g k=some (.cells n t el))\/g k=some (.ro n t)) (hk:φ[k]? = some (some e)):∃c el' fz,w.heap[e.r]? = some (.cells c el' fz)/\n<=c.size/\rz φ c n t:=by
 rcases hg with⟨el,hg⟩ | hg
 . obtain⟨_,⟨c,el',h2,h3,h4,h5⟩,_⟩:=hH.obj k _ e hg hk;exact⟨c,el',(0,0),h2,by omega,h5⟩
 . rcases hH.obj k _ e hg hk with⟨h1,c,el',fz,h2,h3,h4⟩ | ⟨k',e',c,h1,h2,h3,h4,h5⟩
   . exact⟨c,el',fz,by rw[hH.below.block e.r h1];exact h2,h3,h4⟩
   . obtain⟨el',fz,h6⟩:=hH.j3 k' e' c h1 h3;exact⟨c,el',fz,by rw[<- h2];exact h6,h4,h5⟩
theorem HR.cells {P:Program}{W:World}{φ:bZ}{g:Nat->Option OB}{w:World}(hH:HR P W φ g w){k n:Nat}{t:T Value}{el:TypeId}{e:fp}
 (hg:g k=some (.cells n t el)) (hk:φ[k]? = some (some e)):∃c el',w.heap[e.r]? = some (.cells c el' (0,0))/\c.size=e.sz/\n<=e.sz/\rz φ c n t:=
 (hH.obj k _ e hg hk).2.1
theorem HR.es {P:Program}{W:World}{φ:bZ}{g:Nat->Option OB}{w:World}(hH:HR P W φ g w){k n:Nat}{t:T Value}{el:TypeId}{e:fp}
 (hg:g k=some (.cells n t el)) (hk:φ[k]? = some (some e)):∀z,a6 P el=some z->e.es=z:=(hH.obj k _ e hg hk).2.2
theorem cK (b off i:Nat):(⟨b,off,none⟩:Addr).add i=⟨b,off+i,none⟩:=by
 unfold Addr.add;split
 . rename_i h;subst h;rfl
 . rfl
end
end
end Go.Ev
namespace Go.Ev
noncomputable section
set_option maxRecDepth 100000
set_option linter.unusedVariables false
set_option linter.unusedSimpArgs false
section
variable {P:Program}{W w:World}{φ:bZ}{H:T OB}{tm:T Value}{ρ:Operand->Value}
theorem mA {α:Type}(P:Program):∀(s:Sem α) (a:α),bD P s=some a->∀w,s.run P w= .ok a w:=by
 intro s
 induction s with
 | pure a=>intro b h w;cases h;rfl
 | program k ih=>intro b h w;exact ih P b h w
 | mark m k ih=>intro b h w;exact ih b h w
 | _=>intro b h;cases h
def lJ (P:Program)(φ:bZ)(tm:T Value)(ρ:Operand->Value)(l:List Operand):Prop:=∀x∈l,∀v,br P tm x=some v->VR φ v (ρ x)
theorem qm {r:Option Next}{v:Value}(h:nQ r=some v):r=some (.value v)/\flat v=true:=by
 unfold nQ at h;split at h
 . rw[ik]at h;obtain⟨h1,h2⟩:=aS h;cases h2;exact⟨rfl,h1⟩
 . cases h
theorem ot {s:Sem Value}{v:Value}(h:fV P s=some v):flat v=true/\∀w,s.run P w= .ok v w:=by
 unfold fV at h;obtain⟨h3,h4⟩:=qm h;refine⟨h4,λw=> ?_⟩;have h5:=mA P _ _ h3 w;unfold vS at h5;rw[Sem.run_bind]at h5;cases hr:s.run P w with
 | ok u w'=>rw[hr]at h5;injection h5 with h6 h7;injection h6 with h6;rw[h6,h7]
 | _=>rw[hr]at h5;cases h5
theorem dJ {a b:Nat}(h:Nat.blt a b=true):a<b:=Nat.le_of_ble_eq_true h
theorem cg {a b:Nat}(h:Nat.ble a b=true):a<=b:=Nat.le_of_ble_eq_true h
theorem beq_eq {a b:Nat}(h:Nat.beq a b=true):a=b:=Nat.eq_of_beq_eq_true h
theorem bO {t:TypeId}{s:Nat}(h:a6 P t=some s)(w:World):(sizeOf t).run P w= .ok s w:=by
 unfold a6 at h;split at h
 . rename_i i hi;cases h;simp[sizeOf,typeInfo,hi]
 . cases h
theorem bh {t:TypeId}{d:TypeDesc}(h:P.underlying t=some d)(w:World):(underlying t).run P w= .ok d w:=run_underlying h w
theorem eo {t:TypeId}{b:Bool}(h:cP P t=some b)(w:World):(isAgg t).run P w= .ok b w:=by
 unfold cP at h;unfold isAgg;split at h
 . rename_i fs hd;cases h;simp[bh hd]
 . rename_i n e hd;cases h;simp[bh hd]
 . rename_i d hn1 hn2 hd;cases h;rw[Sem.run_bind,bh hd,Result.andThen_ok];split
   . rename_i fs;exact absurd rfl (hn1 fs)
   . rename_i n e;exact absurd rfl (hn2 n e)
   . rfl
 . cases h
theorem kf {c:Array Value}{n:Nat}{t:T Value}(hc:rz φ c n t)
 {s off:Nat} {l:List Value} (hl:mZ t s off=some l) (hn:off+s<=n) (iV:n<=c.size):LR φ l ((c.toList.drop off).take s)/\l.length=s:=by
 obtain⟨h1,h2⟩:=oc t s off l hl;have hlen:((c.toList.drop off).take s).length=s:=by simp;omega
 refine⟨⟨by rw[h1,hlen],λi v v' hv hv'=> ?_⟩,h1⟩;have hi:i<s:=by have:=(List.getElem?_eq_some_iff.1 hv).1;omega
 have h3:=h2 i hi;rw[hv]at h3;obtain⟨u,h5,h6⟩:=hc (off+i) (by omega) v h3;rw[List.getElem?_take,if_pos hi,List.getElem?_drop,Array.getElem?_toList,h5]at hv';cases hv';exact h6
theorem nb {c:Array Value}{r off s:Nat}{el:TypeId}{fz:Nat×Nat}{w:World}(hr:w.heap[r]? = some (.cells c el fz))(hs:off+s<=c.size):
 (loadCells ⟨r,off,none⟩ s).run P w= .ok ((c.toList.drop off).take s).toArray w:=by
 have hlen:((c.toList.drop off).take s).length=s:=by simp;omega
 have:=run_loadCells_list (P:=P) w ⟨r,off,none⟩ ((c.toList.drop off).take s) (λj v hv=>by
  rw[cK,cell_of_row w r (off+j) c el fz hr];rw[List.getElem?_take]at hv;split at hv
  . rw[List.getElem?_drop]at hv;simpa using hv
  . cases hv)
 rwa[hlen]at this
theorem uj (hH:HR P W φ (hp H) w){t:TypeId}{b off:Nat}{v:Value}{e:fp}(hb:φ[b]? = some (some e))(h:iM P H t b off=some v):
 ∃v',VR φ v v'/\(loadVar t ⟨e.r,off,none⟩).run P w= .ok v' w:=by
 unfold iM at h;obtain⟨n,tr,h1,h2⟩:=oh h;obtain⟨c,el',fz,hr,hn,hc⟩:=hH.row h1 hb;unfold iW at h2;obtain⟨a,ha,h3⟩:=aD h2;unfold loadVar;rw[Sem.run_bind,eo ha,Result.andThen_ok];cases a with
 | true=>
   have h3':nP P n tr t off=some v:=h3;unfold nP at h3';obtain⟨s,hs,h4⟩:=aD h3';obtain⟨hle,h5⟩:=aS h4;obtain⟨l,hl,h6⟩:=aD h5;cases h6;have hle':off+s<=n:=Nat.le_of_ble_eq_true hle;obtain⟨h7,h8⟩:=kf hc hl hle' (by omega);refine⟨_,h7.agg,?_⟩;simp only[if_true,Sem.run_bind,bO hs,Result.andThen_ok,nb hr (show off+s<=c.size by omega)];rfl
 | false=>
   have h3':nO n tr off=some v:=h3;unfold nO at h3';obtain⟨hlt,h4⟩:=aS h3';obtain⟨v',h5,h6⟩:=hc off (dJ hlt) v h4;refine⟨v',h6,?_⟩;simp only[Bool.false_eq_true,if_false,run_load,cell_of_row w e.r off c el' fz hr,h5]
section ops
variable {o:Oper}
theorem kM (hH:HR P W φ (hp H) w){t:TypeId}{xv:Option Value}{y:Value}(hE:∀v,xv=some v->VR φ v y){v:Value}(h:ae P H t xv=some v):
 ∃v' a,y= .pointer (some a)/\VR φ v v'/\(loadVar t a).run P w= .ok v' w:=by
 unfold ae at h;split at h
 . obtain⟨e,h3,_,h4⟩:=(hE _ rfl).dC;obtain⟨v',h5,h6⟩:=uj hH h3 h;exact⟨v',_,h4,h5,h6⟩
 . obtain⟨f,u,rfl,h⟩:=ru h;obtain⟨k,o,e,c,h1,h2,h3,h4,h5⟩:=(hE _ rfl).om;unfold pM at h;obtain⟨a,ha,h⟩:=aD h;obtain⟨s,hs,h⟩:=aD h;obtain⟨hq,h⟩:=aS h;cases h;simp only[Bool.and_eq_true]at hq;have hl:=beq_eq hq.2;obtain⟨el,fz,hr⟩:=hH.j3 k e c h1 h2;have hag:=hq.1;cases a with
   | true=>
     have hag:kb v=true:=hag;cases v with
     | agg cs=>
       have hl:cs.toList.length=s:=hl;have h3':o+s<=c.size:=by
        have h3:o+cs.toList.length<=c.size:=h3;omega
       refine⟨.agg ⟨(c.toList.drop o).take s⟩,_,h5,?_,?_⟩
       . have:VR φ (.agg ⟨cs.toList⟩) (.agg ⟨(c.toList.drop o).take s⟩):=LR.agg ⟨by simp only[List.length_take,List.length_drop,Array.length_toList];simp only[Array.length_toList]at hl;omega,λj a b ha' hb'=>by
          rw[List.getElem?_take]at hb';split at hb'
          . rw[List.getElem?_drop,Array.getElem?_toList]at hb';exact h4 j a b ha' hb'
          . cases hb'⟩
         exact this
       . unfold loadVar;rw[Sem.run_bind,eo ha,Result.andThen_ok];simp only[if_true,Sem.run_bind,bO hs,Result.andThen_ok,nb hr h3'];rfl
     | _=>cases hag
   | false=>
     have hag:(!kb v)=true:=hag;have hcell:v.cells.toList=[v]:=by
      cases v with
      | agg cs=>cases hag
      | _=>rfl
     rw[hcell]at h3 h4;have hlt:o<c.size:=by
      have h3:o+1<=c.size:=h3;omega
     refine⟨c[o],_,h5,h4 0 v c[o] rfl (by simp[hlt]),?_⟩;unfold loadVar;rw[Sem.run_bind,eo ha,Result.andThen_ok];simp only[Bool.false_eq_true,if_false,run_load,cell_of_row w e.r o c el fz hr,Array.getElem?_eq_getElem hlt]
 . cases h
theorem Fs (hH:HR P W φ (hp H) w){t:TypeId}{x:Operand}(ho:o.op= .load t x)(hE:∀v,br P tm x=some v->VR φ v (ρ x)){v:Value}
 (h:ae P H t (br P tm x)=some v):∃v',VR φ v v'/\(execOp ρ o).run P w= .ok (.value v') w:=by
 obtain⟨v',a,h4,h5,h6⟩:=kM hH hE h;exact⟨v',h5,by simp[execOp,ho,h4,Instr.loadAt,Instr.sureAddr,h6]⟩
theorem xM {x:Operand}(ho:o.op= .move x\/o.op= .assign x)(hE:∀v,br P tm x=some v->VR φ v (ρ x)){v:Value}
 (h:br P tm x=some v) (w:World):∃v',VR φ v v'/\(execOp ρ o).run P w= .ok (.value v') w:=
 ⟨ρ x,hE v h,by rcases ho with ho | ho<;>simp[execOp,ho]⟩
theorem Ft {c a b:Operand}(ho:o.op= .pick c a b)(hE:∀x∈[c,a,b],∀v,br P tm x=some v->VR φ v (ρ x)){v:Value}
 (h:nR (br P tm c) (br P tm a) (br P tm b)=some v) (w:World):∃v',VR φ v v'/\(execOp ρ o).run P w= .ok (.value v') w:=by
 unfold nR at h;split at h
 . rename_i x hx;have hc:=(hE c (by simp) _ hx).aB rfl;cases x with
   | true=>exact⟨ρ a,hE a (by simp) v h,by simp[execOp,ho,hc,asBool]⟩
   | false=>exact⟨ρ b,hE b (by simp) v h,by simp[execOp,ho,hc,asBool]⟩
 . cases h
theorem JR {x:Operand}(ho:o.op= .nilCheck x)(hE:∀v,br P tm x=some v->VR φ v (ρ x)){v:Value}
 (h:aP (br P tm x)=some v) (w:World):∃v',VR φ v v'/\(execOp ρ o).run P w= .ok (.value v') w:=by
 unfold aP at h;split at h
 . rename_i a ha;cases h;obtain⟨k,off,s⟩:=a;have h1:=hE _ ha;obtain⟨e,h3,h5,h4⟩:=h1.dC;exact⟨ρ x,h1,by simp[execOp,ho,h4]⟩
 . rename_i g a b ha;cases h;have h1:=hE _ ha;cases h2:ρ x with
   | func fn a' b'=>
     rw[h2]at h1;have hfn:fn= .func g:=by cases h1<;>rfl
     subst hfn;exact⟨_,h1,by simp[execOp,ho,h2]⟩
   | _=>rw[h2]at h1;cases h1
 . rename_i t u ha;cases h;have h1:=hE _ ha;obtain⟨u',h2,h3⟩:=h1.gQ;exact⟨ρ x,h1,by simp[execOp,ho,h2]⟩
 . rename_i u _ _ _ ha;obtain⟨f,y,rfl,h⟩:=ru h;cases h;have h1:=hE _ ha;obtain⟨k,o,e,c,_,_,_,_,h5⟩:=h1.om;exact⟨ρ x,h1,by simp[execOp,ho,h5]⟩
 . cases h
theorem kN {s:TypeId}{f d:Nat}(h:iX P s f=some d):
 ∃fs fd z,P.underlying s=some (.struct fs)/\fs[f]? = some fd/\a6 P fd.type=some (z+1)/\d=fd.offset:=by
 unfold iX at h;split at h
 . rename_i fs hfs;split at h
   . rename_i fd hfd;split at h
     . rename_i z hz;cases h;exact⟨fs,fd,z,hfs,hfd,hz,rfl⟩
     . cases h
   . cases h
 . cases h
theorem mB {t:TypeId}{f:Nat}{q:Nat×Option Nat}(h:hU P t f=some q):∃fs fd,P.underlying t=some (.struct fs)/\fs[f]? = some fd/\q.1=fd.offset/\
 ((q.2=none/\cP P fd.type=some false)\/∃s,q.2=some s/\cP P fd.type=some true/\a6 P fd.type=some s):=by
 unfold hU at h;split at h
 . rename_i fs hfs;split at h
   . rename_i fd hfd;refine⟨fs,fd,hfs,hfd,?_⟩;split at h
     . rename_i ha;split at h
       . rename_i s hs;cases h;exact⟨rfl,.inr ⟨s,rfl,ha,hs⟩⟩
       . cases h
     . rename_i ha;cases h;exact⟨rfl,.inl ⟨rfl,ha⟩⟩
     . cases h
   . cases h
 . cases h
theorem rA {s:TypeId}{x:Operand}{f:Nat}(ho:o.op= .fieldAddr s x f)(hE:∀v,br P tm x=some v->VR φ v (ρ x)){v:Value}
 (h:ab P s (br P tm x) f=some v) (w:World):∃v',VR φ v v'/\(execOp ρ o).run P w= .ok (.value v') w:=by
 unfold ab at h;obtain⟨y,hy,h⟩:=aD h;have hV:=hE y hy;unfold OJ at h;split at h
 . obtain⟨d,hd,h3⟩:=aD h;rw[a5]at h3;cases h3;obtain⟨fs,fd,z,hu,hf,hz,rfl⟩:=kN hd;obtain⟨e,h3,_,h4⟩:=hV.dC;refine⟨_,VR.ptr h3,?_⟩;simp[execOp,ho,h4,Instr.fieldAt,Instr.sureAddr,bh hu,hf,fieldPlace,bO hz,cK]
 . obtain⟨g,u,rfl,h⟩:=ru h;obtain⟨d,hd,h⟩:=aD h;split at h
   . obtain⟨x',hx',hv'⟩:=aD h;cases hv';clear h;obtain⟨fs,fd,z,hu,hf,hz,rfl⟩:=kN hd;obtain⟨k,o',e,c,h1,h2,h3,h4,h5⟩:=hV.om;clear hV hy hE;rename_i cs _ _ _;have h3:o'+cs.length<=c.size:=h3;have h4:∀(j:Nat) (v v':Value),cs[j]? = some v->c[o'+j]? = some v'->VR φ v v':=h4;have hrun:(execOp ρ o).run P w= .ok (.value (.pointer (some ⟨e.r,o'+fd.offset,none⟩))) w:=by
      simp[execOp,ho,h5,Instr.fieldAt,Instr.sureAddr,bh hu,hf,fieldPlace,bO hz,cK]
     refine⟨_,?_,hrun⟩;cases hfi:hU P s f with
     | none=>rw[hfi]at hx';cases hx'
     | some q=>
       rw[hfi]at hx';obtain⟨fs',fd',hu',hf',hq1,hq2⟩:=mB hfi;rw[hu]at hu';cases hu';rw[hf]at hf';cases hf';obtain⟨qo,qs⟩:=q;have hq1:qo=fd.offset:=hq1;subst hq1;rcases hq2 with⟨hq,_⟩ | ⟨s',hq,_,_⟩
       . have hq:qs=none:=hq;subst hq;obtain⟨x1,hx',hone⟩:=aD (show aa cs[fd.offset]? (λv=>bif au v then some v else none) none=some x' from hx');obtain⟨hone,hx1⟩:=aS hone;cases hx1;have hlt:=(List.getElem?_eq_some_iff.1 hx').1;have hcell:x'.cells.toList=[x']:=by cases x'<;>first | rfl | cases hone
         refine .ep h1 h2 (by rw[hcell];show o'+fd.offset+1<=c.size;omega) λj a b ha hb=> ?_;rw[hcell]at ha;cases j with
         | zero=>cases ha;exact h4 fd.offset x' b hx' hb
         | succ j=>simp at ha
       . have hq:qs=some s':=hq;subst hq;obtain⟨hle,hx'⟩:=aS (show(bif Nat.ble (fd.offset+s') cs.length then some (Value.agg ⟨(cs.drop fd.offset).take s'⟩)else none)=some x' from hx');cases hx';have hle:=cg hle;refine .ep h1 h2 ?_ λj a b ha hb=> ?_
         . show o'+fd.offset+((cs.drop fd.offset).take s').length<=c.size;simp only[List.length_take,List.length_drop];omega
         . have ha:((cs.drop fd.offset).take s')[j]? = some a:=ha;rw[List.getElem?_take]at ha;split at ha
           . rw[List.getElem?_drop]at ha;exact h4 (fd.offset+j) a b ha (by rw[<- Nat.add_assoc];exact hb)
           . cases ha
   . cases h
theorem qn {β:Type}{t:TypeId}{k:Nat->Nat->Option β}{y:β}(h:qa P t k none=some y):
 ∃len e s,P.underlying t=some (.array len e)/\a6 P e=some s/\k len s=some y:=by
 unfold qa at h;split at h
 . rename_i len e he;obtain⟨s,h1,h2⟩:=aD h;exact⟨len,e,s,he,h1,h2⟩
 . cases h
theorem kO {t:TypeId}{s:Nat}(h:nS P t=some s):∃e,P.underlying t=some (.slice e)/\a6 P e=some s:=by
 unfold nS at h;obtain⟨e,s',hu,hs,h⟩:=ug h;cases h;exact⟨e,hu,hs⟩
theorem rB {t:TypeId}{x ix:Operand}(ho:o.op= .indexAddr t x ix)(hE:∀y∈[x,ix],∀v,br P tm y=some v->VR φ v (ρ y)){v:Value}
 (h:ay P t (br P tm x) (br P tm ix)=some v) (w:World):∃v',VR φ v v'/\(execOp ρ o).run P w= .ok (.value v') w:=by
 unfold ay at h;split at h
 case h_2=>cases h
 rename_i k i0 hi;obtain⟨i,rfl,hh⟩:=qk h;clear h;have h:=hh;clear hh;have h7:=(hE ix (by simp) _ hi).aB rfl;unfold Fh at h;split at h
 . rename_i b off len cp hx;obtain⟨s,hq,h3⟩:=aD h;obtain⟨e,hu,hs⟩:=kO hq;obtain⟨hlt,h4⟩:=aS h3;rw[a5]at h4;cases h4;have hlt':i<len:=dJ hlt;obtain⟨en,c',h5,_,h6,_⟩:=(hE x (by simp) _ hx).dS;refine⟨_,.ptr (o:=off+i*s) h5,?_⟩;simp[execOp,ho,h6,h7,Instr.indexAt,asIntOf,bh hu,bO hs,cK,hlt']
 . rename_i b off hx;obtain⟨len,e,s,hu,hs,h3⟩:=qn h;obtain⟨hlt,h4⟩:=aS h3;rw[a5]at h4;cases h4;have hlt':i<len:=dJ hlt;obtain⟨en,h5,_,h6⟩:=(hE x (by simp) _ hx).dC;refine⟨_,.ptr (o:=off+i*s) h5,?_⟩;simp[execOp,ho,h6,h7,Instr.indexAt,Instr.sureAddr,asIntOf,bh hu,bO hs,cK,hlt']
 . rename_i y _ _ hx;obtain⟨s,es,rfl,h⟩:=gP h;unfold Fg at h;obtain⟨z,hq,h3⟩:=aD h;obtain⟨e,hu,hs⟩:=kO hq;obtain⟨hz0,h4⟩:=aS h3;obtain⟨u,hiu,h5⟩:=aD h4;have hz:=beq_eq hz0;subst hz;cases h5;clear h h3 h4;have hlt:i<es.length:=(List.getElem?_eq_some_iff.1 hiu).1;rcases(hE x (by simp) _ hx).gg with⟨rfl,_⟩ | ⟨k',o',c',en,c,h1,h2,h3,h4,h5,h6,h8⟩
   . simp at hlt
   . have hul:=h3 u (List.mem_of_getElem? hiu);refine⟨.pointer (some ⟨en.r,o'+i*s,none⟩),.ep h1 h2 ?_ (λj a b ha hb=>h6 i j u a b hiu ha hb),?_⟩
     . rw[hul];have:=h4 (by intro q;subst q;simp at hlt);have h9:(i+1)*s<=es.length*s:=Nat.mul_le_mul_right s hlt;rw[Nat.succ_mul]at h9;omega
     . simp[execOp,ho,h8,h7,Instr.indexAt,asIntOf,bh hu,bO hs,cK,hlt]
 . cases h
theorem we {x:Operand}{i:Nat}(ho:o.op= .extract x i)(hE:∀v,br P tm x=some v->VR φ v (ρ x)){v:Value}
 (h:ar (br P tm x) i=some v) (w:World):∃v',VR φ v v'/\(execOp ρ o).run P w= .ok (.value v') w:=by
 unfold ar at h;split at h
 . rename_i vs hx;obtain⟨c',h1,h2⟩:=(hE _ hx).ql;obtain⟨v',h3,h4⟩:=h2.get h;refine⟨v',h4,?_⟩;have h5:c'[i]? = some v':=by simpa using h3
   simp[execOp,ho,h1,Instr.extract,h5]
 . cases h
theorem Cc {t:TypeId}{x:Operand}{f:Nat}(ho:o.op= .field t x f)(hE:∀v,br P tm x=some v->VR φ v (ρ x)){v:Value}
 (h:rdField P t (br P tm x) f=some v) (w:World):∃v',VR φ v v'/\(execOp ρ o).run P w= .ok (.value v') w:=by
 unfold rdField at h;split at h
 case h_2=>cases h
 rename_i cs hx;obtain⟨c',h1,h2⟩:=(hE _ hx).jJ;have h2:LR φ cs c'.toList:=h2;cases hfi:hU P t f with
 | none=>rw[hfi]at h;cases h
 | some q=>
   rw[hfi]at h;obtain⟨fs,fd,hu,hf,hq1,hq2⟩:=mB hfi;obtain⟨qo,qs⟩:=q;have hq1:qo=fd.offset:=hq1;subst hq1;rcases hq2 with⟨hq,ha⟩ | ⟨s,hq,ha,hs⟩
   . have hq:qs=none:=hq;subst hq;have h:cs[fd.offset]? = some v:=h;obtain⟨v',h3,h4⟩:=h2.get h;have h5:c'[fd.offset]? = some v':=by simpa using h3
     exact⟨v',h4,by simp[execOp,ho,h1,Instr.field,bh hu,hf,asAgg,part,eo ha,h5]⟩
   . have hq:qs=some s:=hq;subst hq;obtain⟨hle,h3⟩:=aS (show(bif Nat.ble (fd.offset+s) cs.length then some (Value.agg ⟨(cs.drop fd.offset).take s⟩)else none)=some v from h);cases h3;have hle':fd.offset+s<=cs.length:=Nat.le_of_ble_eq_true hle;refine⟨_,((h2.drop fd.offset).take s).agg,?_⟩;have e:(⟨(c'.toList.drop fd.offset).take s⟩:Array Value)=c'.extract fd.offset (fd.offset+s):=by
      apply Array.ext';simp only[Array.toList_extract,List.extract_eq_take_drop];rw[show fd.offset+s-fd.offset=s from by omega]
     rw[e];simp[execOp,ho,h1,Instr.field,bh hu,hf,asAgg,part,eo ha,bO hs]
theorem fD {x:Option Operand}{d n:Nat}(hx:∀y∈x.toList,∀v,br P tm y=some v->VR φ v (ρ y))(h:bound (eA P tm x) d=some n):
 (x=none/\n=d)\/∃y k,x=some y/\ρ y= .int k (.ofNat n):=by
 cases x with
 | none=>cases h;exact .inl ⟨rfl,rfl⟩
 | some y=>
   right;cases hv:br P tm y with
   | none=>
     have:eA P tm (some y)=none:=by simp only[eA,hv]
     rw[this]at h;cases h
   | some v=>
     have:eA P tm (some y)=some (some v):=by simp only[eA,hv]
     rw[this]at h;have h:vR (some v)=some n:=h;unfold vR at h;split at h
     . rename_i k i q;cases q;obtain⟨h1,h2⟩:=aS h;cases h2;cases i with
       | ofNat m=>exact⟨y,k,rfl,(hx y (by simp) _ hv).aB rfl⟩
       | negSucc m=>cases h1
     . cases h
theorem fJ {lo hi:Option Operand}{isS:Bool}{len cap l h:Nat}(jg:(lo=none/\l=0)\/∃y k,lo=some y/\ρ y= .int k (.ofNat l))
 (hhi:(hi=none/\h=len)\/∃y k,hi=some y/\ρ y= .int k (.ofNat h)) (h1:l<=h) (h2:h<=cap) (w:World):
 (Instr.sliceBounds isS len cap (lo.map ρ) (hi.map ρ) none).run P w= .ok (l,h,cap) w:=by
 have e1:(h:Int)<=(cap:Int):=by omega
 have e2:(l:Int)<=(h:Int):=by omega
 rcases jg with⟨rfl,rfl⟩ | ⟨y,k,rfl,hy⟩<;>rcases hhi with⟨rfl,rfl⟩ | ⟨z,j,rfl,hz⟩
 . simp[Instr.sliceBounds]
 . simp[Instr.sliceBounds,hz,Instr.sliceBound,asIntOf,h2]
 . simp[Instr.sliceBounds,hy,Instr.sliceBound,asIntOf,h1]
 . simp[Instr.sliceBounds,hy,hz,Instr.sliceBound,asIntOf,h1,h2]
theorem qp {b off cap s l h r:Nat}{en:fp}{v:Value}(h5:φ[b]? = some (some en))(hr:en.r=r)(hs:iY b off cap s l h=some v):
 l<=h/\h<=cap/\VR φ v (.slice (if cap=l then some ⟨r,off,none⟩else some ⟨r,off+l*s,none⟩) (h-l) (cap-l)):=by
 subst hr;unfold iY at hs;obtain⟨h8,h9⟩:=aS hs;simp only[Bool.and_eq_true]at h8;have h8':=cg h8.1.1;have h10:=cg h8.1.2;have h11:=dJ h8.2;refine⟨h8',h10,?_⟩;rw[a5]at h9;cases hb:Nat.beq cap l with
 | true=>
   rw[hb]at h9;have h9:some (Value.slice (some ⟨b,off,none⟩) (h-l) 0)=some v:=h9;cases h9;have:=beq_eq hb;subst this;rw[if_pos rfl,Nat.sub_self];exact .slice h5 (.inl ⟨by decide,rfl⟩)
 | false=>
   rw[hb]at h9;have h9:bN (Nat.add off (Nat.mul l s)) (λo=>bN (Nat.sub cap l) λc=>some (Value.slice (some ⟨b,o,none⟩) (h-l) c))=some v:=h9;rw[a5,a5]at h9;cases h9;have:cap≠l:=λe=>by rw[e]at hb;exact absurd (Nat.beq_refl l) (by rw[hb];decide)
   rw[if_neg this];exact .slice h5 (.inl ⟨by show cap-l≠dP;omega,rfl⟩)
theorem lR {mx:Option Operand}(h:(match eA P tm mx with | some none=>true | _=>false)=true):mx=none:=by
 cases mx with
 | none=>rfl
 | some y=>
   exfalso;unfold eA at h;cases hv:br P tm y<;>simp only[hv]at h<;>cases h
theorem wg {mx:Option Operand}{u:Option Value}(hE:∀y∈mx.toList,∀v,br P tm y=some v->VR φ v (ρ y))(h:eA P tm mx=some u)(hf:xI u=true):mx.map ρ=u:=by
 cases mx with
 | none=>cases h;rfl
 | some y=>
   unfold eA at h;cases hv:br P tm y with
   | none=>simp only[hv]at h;cases h
   | some v=>
     simp only[hv]at h;cases h;have hf:flat v=true:=hf;have:=(hE y (by simp) v hv).aB hf;show some (ρ y)=some v;rw[this]
theorem Cd (hH:HR P W φ (hp H) w){t:TypeId}{x:Operand}{lo hi mx:Option Operand}(ho:o.op= .slice t x lo hi mx)
 (hE:lJ P φ tm ρ o.op.operands.toList) {v:Value}
 (h:bm P H t (br P tm x) (eA P tm lo) (eA P tm hi) (eA P tm mx)=some v):∃v',VR φ v v'/\(execOp ρ o).run P w= .ok (.value v') w:=by
 have hops:o.op.operands.toList=[x]++lo.toList++hi.toList++mx.toList:=by rw[ho];cases lo<;>cases hi<;>cases mx<;>rfl
 unfold bm at h;split at h
 . rename_i b off len cap hx;obtain⟨hmx,h⟩:=aS h;have hmx:=lR hmx;subst hmx;rw[hops]at hE;obtain⟨en,c',h5,_,h6,h7⟩:=(hE x (by simp) _ hx).dS;obtain⟨s,hq,h3⟩:=aD h;obtain⟨e,hu,hs⟩:=kO hq;obtain⟨l,hl,h3⟩:=aD h3;obtain⟨hh,hhi,h3⟩:=aD h3;have jg:=fD (ρ:=ρ) (φ:=φ) (λy hy=>hE y (by simp[hy])) hl;have hhi:=fD (ρ:=ρ) (φ:=φ) (λy hy=>hE y (by simp[hy])) hhi;have fin:l<=hh->hh<=c'->(execOp ρ o).run P w= .ok (.value (.slice (if c'=l then some ⟨en.r,off,none⟩else some ⟨en.r,off+l*s,none⟩) (hh-l) (c'-l))) w:=by
    intro h1 h2;simp only[execOp,ho,h6,Instr.sliceAt,Sem.run_bind,bh hu,Result.andThen_ok,Instr.slice,Option.map_none,fJ (P:=P) jg hhi h1 h2,bO hs,Sem.run_pure]
    by_cases hc:c'=l
    . simp[hc]
    . simp[hc,cK]
   cases hcap:Nat.beq cap dP with
   | false=>
     rw[hcap]at h3;have h3:iY b off cap s l hh=some v:=h3;have hne:cap≠dP:=λe=>by rw[e]at hcap;exact absurd (Nat.beq_refl dP) (by rw[hcap];decide)
     have hc:c'=cap:=by
      rcases h7 with h7 | h7
      . exact h7.2
      . exact absurd h7.1 hne
     subst hc;obtain⟨h8,h9,h10⟩:=qp h5 rfl h3;exact⟨_,h10,fin h8 h9⟩
   | true=>
     rw[hcap]at h3;have h3:lL P H b off len s l hh=some v:=h3;have hcu:=beq_eq hcap;have h7:len<=c'/\off+c'*en.es<=en.sz:=by
      rcases h7 with h7 | h7
      . exact absurd hcu h7.1
      . exact h7.2
     unfold lL at h3;obtain⟨h8,h9⟩:=aS h3;simp only[Bool.and_eq_true]at h8;have h10:=cg h8.1;have h11:=cg h8.2;rw[fin h10 (by omega)];cases hb:Nat.beq l 0 with
     | true=>
       rw[hb]at h9;have h9:some (Value.slice (some ⟨b,off,none⟩) hh dP)=some v:=h9;cases h9;have:=beq_eq hb;subst this;have e0:(Value.slice (if c'=0 then some ⟨en.r,off,none⟩else some ⟨en.r,off+0*s,none⟩) (hh-0) (c'-0))= .slice (some ⟨en.r,off,none⟩) hh c':=by simp
       rw[e0];exact⟨_,.slice h5 (.inr ⟨rfl,by omega,h7.2⟩),rfl⟩
     | false=>
       rw[hb]at h9;obtain⟨h12,h13⟩:=aS (show(bif Nat.blt l len&&pP P H b s then bN (Nat.sub hh l) (λn=>bN (Nat.add off (Nat.mul l s)) λo=>some (Value.slice (some ⟨b,o,none⟩) n dP))else none)=some v from h9);rw[a5,a5]at h13;cases h13;simp only[Bool.and_eq_true]at h12;have h14:=dJ h12.1;have hes:en.es=s:=by
        have h15:=h12.2;unfold pP at h15;cases hg:H.get (bits b)with
        | none=>rw[hg]at h15;cases h15
        | some ob=>
          rw[hg]at h15;cases ob with
          | cells n tr el=>
            have h15:aa (a6 P el) (λz=>Nat.beq z s) false=true:=h15;cases hz:a6 P el with
            | none=>rw[hz]at h15;cases h15
            | some z=>
              rw[hz]at h15;have h15:Nat.beq z s=true:=h15;have:=beq_eq h15;subst this;exact hH.es (show hp H b=some (.cells n tr el)from hg) h5 z hz
          | _=>cases h15
       have:c'≠l:=by omega
       rw[if_neg this];refine⟨_,.slice h5 (.inr ⟨rfl,by show hh-l<=c'-l;omega,?_⟩),rfl⟩;rw[hes]at h7;have e1:(c'-l)*s=c'*s-l*s:=Nat.sub_mul c' l s;have e2:l*s<=c'*s:=Nat.mul_le_mul_right s (by omega);show off+l*s+(c'-l)*en.es<=en.sz;rw[hes,e1];omega
 . rename_i b off hx;obtain⟨hmx,h⟩:=aS h;have hmx:=lR hmx;subst hmx;rw[hops]at hE;obtain⟨en,h5,_,h6⟩:=(hE x (by simp) _ hx).dC;obtain⟨n,e,s,hu,hs,h3⟩:=qn h;obtain⟨l,hl,h3⟩:=aD h3;obtain⟨hh,hhi,h3⟩:=aD h3;have jg:=fD (ρ:=ρ) (φ:=φ) (λy hy=>hE y (by simp[hy])) hl;have hhi:=fD (ρ:=ρ) (φ:=φ) (λy hy=>hE y (by simp[hy])) hhi;obtain⟨h8,h9,h10⟩:=qp h5 rfl h3;refine⟨_,h10,?_⟩;simp only[execOp,ho,h6,Instr.sliceAt,Instr.sureAddr,Sem.run_bind,bh hu,Result.andThen_ok,Option.map_none,fJ (P:=P) jg hhi h8 h9,bO hs,Sem.run_pure]
   by_cases hc:n=l
   . simp[hc]
   . simp[hc,cK]
 . rename_i y _ _ hx;cases hr:lM y with
   | true=>
     rw[hr]at h;obtain⟨hmx,h⟩:=aS (show(bif (match eA P tm mx with | some none=>true | _=>false)then fc y (λs es=>aa (nS P t) (λz=>bif Nat.beq s z then aa (bound (eA P tm lo) 0) (λl=>aa (bound (eA P tm hi) es.length) (λh=>OK es s l h) none) none else none) none) none else none)=some v from h);have hmx:=lR hmx;subst hmx;rw[hops]at hE;obtain⟨s,es,rfl,h1⟩:=gP h;obtain⟨z,hq,h2⟩:=aD h1;obtain⟨e,hu,hs⟩:=kO hq;obtain⟨hz0,h3⟩:=aS h2;have hz:=beq_eq hz0;obtain⟨l,hl,h4⟩:=aD h3;obtain⟨hh,hhi,h5⟩:=aD h4;have jg:=fD (ρ:=ρ) (φ:=φ) (λy hy=>hE y (by simp[hy])) hl;have hhi:=fD (ρ:=ρ) (φ:=φ) (λy hy=>hE y (by simp[hy])) hhi;unfold OK at h5;obtain⟨h6,h7⟩:=aS h5;simp only[Bool.and_eq_true]at h6;have h8:=cg h6.1;have h9:=cg h6.2;cases h7;subst hz;clear h h1 h2 h3 h4 h5;rcases(hE x (by simp) _ hx).gg with⟨rfl,hy | ⟨a,c',hy⟩⟩ | ⟨k',o',c',en,c,h1,h2,h3,h4,h5,h6,hy⟩
     rotate_left
     . have e1:hh=0:=by simpa using h9
       subst e1;have e2:l=0:=by omega
       subst e2;have hhi:(hi=none/\0=0)\/∃y k,hi=some y/\ρ y= .int k (.ofNat 0):=hhi;have fin:(execOp ρ o).run P w= .ok (.value (.slice (if c'=0 then some a else some (a.add (0*s))) 0 c')) w:=by
        simp only[execOp,ho,hy,Instr.sliceAt,Sem.run_bind,bh hu,Result.andThen_ok,Instr.slice,Option.map_none,fJ (P:=P) jg hhi (Nat.le_refl 0) (show 0<=c' by omega),bO hs,Sem.run_pure]
        by_cases hc:c'=0
        . simp[hc]
        . simp[hc]
       rw[fin];refine⟨_,?_,rfl⟩;split
       . exact .oi s _ _
       . exact .oi s _ _
     rotate_left
     . have e1:hh=0:=by simpa using h9
       subst e1;have e2:l=0:=by omega
       subst e2;refine⟨.slice none 0 0,.pT s,?_⟩;have hhi:(hi=none/\0=0)\/∃y k,hi=some y/\ρ y= .int k (.ofNat 0):=hhi;simp only[execOp,ho,hy,Instr.sliceAt,Sem.run_bind,bh hu,Result.andThen_ok,Instr.slice,Option.map_none,fJ (P:=P) (isS:=true) jg hhi (Nat.le_refl 0) (Nat.le_refl 0),bO hs,Sem.run_pure];rfl
     . have hlen:((es.drop l).take (hh-l)).length=hh-l:=by simp only[List.length_take,List.length_drop];omega
       have key:∀o2,(o2=o'+l*s\/(es.drop l).take (hh-l)=[])->VR φ (bc s ((es.drop l).take (hh-l))) (.slice (some ⟨en.r,o2,none⟩) (hh-l) (c'-l)):=by
        intro o2 ho2;have h9':VR φ (bc s ((es.drop l).take (hh-l))) (.slice (some ⟨en.r,o2,none⟩) ((es.drop l).take (hh-l)).length (c'-l)):=by
         refine .row h1 h2 (λx hx=>h3 x (List.mem_of_mem_drop (List.mem_of_mem_take hx))) (λhne=> ?_) (by rw[hlen];omega) (λi j x a b hi ha hb=> ?_)
         . rcases ho2 with rfl | q
           . rw[hlen];have h10:=h4 (λq=>hne (by rw[q];simp));have h11:hh*s<=es.length*s:=Nat.mul_le_mul_right s h9;have h12:(hh-l)*s=hh*s-l*s:=Nat.sub_mul hh l s;have h13:l*s<=hh*s:=Nat.mul_le_mul_right s h8;rw[h12];omega
           . exact absurd q hne
         . rcases ho2 with rfl | q
           . rw[List.getElem?_take]at hi;split at hi
             . rw[List.getElem?_drop]at hi;refine h6 (l+i) j x a b hi ha ?_;rw[Nat.add_mul,<- Nat.add_assoc];exact hb
             . cases hi
           . rw[q]at hi;simp at hi
        rw[hlen]at h9';exact h9'
       have fin:(execOp ρ o).run P w= .ok (.value (.slice (if c'=l then some ⟨en.r,o',none⟩else some ⟨en.r,o'+l*s,none⟩) (hh-l) (c'-l))) w:=by
        simp only[execOp,ho,hy,Instr.sliceAt,Sem.run_bind,bh hu,Result.andThen_ok,Instr.slice,Option.map_none,fJ (P:=P) jg hhi h8 (show hh<=c' by omega),bO hs,Sem.run_pure]
        by_cases hc:c'=l
        . simp[hc]
        . simp[hc,cK]
       rw[fin]
       by_cases hc:c'=l
       . rw[if_pos hc];exact⟨_,key o' (.inr (List.eq_nil_of_length_eq_zero (by rw[hlen];omega))),rfl⟩
       . rw[if_neg hc];exact⟨_,key _ (.inl rfl),rfl⟩
   | false=>
     rw[hr]at h;have h:lK P t y (eA P tm lo) (eA P tm hi) (eA P tm mx)=some v:=h;unfold lK at h;obtain⟨ulo,jg,h1⟩:=aD h;obtain⟨uhi,hhi,h2⟩:=aD h1;obtain⟨umx,hmx,h3⟩:=aD h2;obtain⟨h4,h5⟩:=aS h3;simp only[Bool.and_eq_true]at h4;obtain⟨h6,h7⟩:=ot h5;rw[hops]at hE;refine⟨v,.flat v h6,?_⟩;have e1:=wg (ρ:=ρ) (φ:=φ) (λz hz=>hE z (by simp[hz])) jg h4.2.1;have e2:=wg (ρ:=ρ) (φ:=φ) (λz hz=>hE z (by simp[hz])) hhi h4.2.2.1;have e3:=wg (ρ:=ρ) (φ:=φ) (λz hz=>hE z (by simp[hz])) hmx h4.2.2.2;have e4:=(hE x (by simp) _ hx).aB h4.1;simp only[execOp,ho,e1,e2,e3,e4,Sem.run_bind,h7 w,Result.andThen_ok];rfl
 . cases h
end ops
end
section
variable {P:Program}{W w:World}{φ:bZ}{H:T OB}{tm:T Value}{ρ:Operand->Value}
theorem xN:∀(l l':List Value),LR φ l l'->∀(k off:Nat) (cs cs':Array Value),LR φ cs.toList cs'.toList->
 LR φ ((l.zipIdx k).foldl (λ(cs:Array Value) p=>cs.setIfInBounds (off+p.2) p.1) cs).toList
  ((l'.zipIdx k).foldl (λ(cs:Array Value) p=>cs.setIfInBounds (off+p.2) p.1) cs').toList
 | [],l',h,k,off,cs,cs',hc=>by
   cases h.jI;exact hc
 | v::l,l',h,k,off,cs,cs',hc=>by
   obtain⟨v',m,rfl,h1,h2⟩:=h.inv;simp only[List.zipIdx_cons,List.foldl_cons];refine xN l m h2 (k+1) off _ _ ?_;rw[Array.toList_setIfInBounds,Array.toList_setIfInBounds];exact hc.set _ h1
inductive PR (φ:bZ):List (Nat×Value)->List (Nat×Value)->Prop
 | nil:PR φ [] []
 | cons {i:Nat} {v v':Value} {l l':List (Nat×Value)} (h:VR φ v v') (hl:PR φ l l'):PR φ ((i,v)::l) ((i,v')::l')
theorem nd (place:Nat->Option (Nat×Nat)){vs vs':List (Nat×Value)}(h:PR φ vs vs'):∀(cs cs' r:Array Value),LR φ cs.toList cs'.toList->
 Instr.fill place cs vs=some r->∃r',Instr.fill place cs' vs'=some r'/\LR φ r.toList r'.toList:=by
 induction h with
 | nil=>intro cs cs' r hc h;cases h;exact⟨cs',rfl,hc⟩
 | @cons i v v' l l' hv _ ih=>
   intro cs cs' r hc h;unfold Instr.fill at h ⊢;cases hp:place i with
   | none=>simp only[hp]at h;cases h
   | some q=>
     obtain⟨off,size⟩:=q;simp only[hp]at h ⊢;have hcl:=hv.cells;have e1:v'.cells.size=v.cells.size:=by have:=hcl.len;simpa using this.symm
     have e2:cs'.size=cs.size:=by have:=hc.len;simpa using this.symm
     rw[e1,e2];split at h
     . cases h
     . rename_i hb;rw[if_neg hb];refine ih _ _ r ?_ h;rw[<- Array.foldl_toList,<- Array.foldl_toList,Array.toList_zipIdx,Array.toList_zipIdx];exact xN _ _ hcl 0 off cs cs' hc
theorem kP:∀(ps:List (Nat×Operand)) (vs:List (Nat×Value)),(∀p∈ps,∀v,br P tm p.2=some v->VR φ v (ρ p.2))->parts P tm ps=some vs->
 PR φ vs (ps.map λp=>(p.1,ρ p.2))
 | [],vs,_,h=>by cases h;exact .nil
 | p::ps,vs,hE,h=>by
   unfold parts at h;split at h
   . cases h
   . rename_i v hv;split at h
     . cases h
     . rename_i us hus;cases h;exact .cons (hE p (by simp) v hv) (kP ps us (λq hq=>hE q (by simp[hq])) hus)
theorem eY {t:TypeId}{l:List Value}(h:bE P t=some l):∃i z,P.info? t=some i/\i.zero=some z/\z.cells.toList=l/\∀x∈l,flat x=true:=by
 unfold bE at h;split at h
 . rename_i i hi;split at h
   . rename_i z hz;obtain⟨h1,h2⟩:=aS h;cases h2;exact⟨i,z,hi,hz,rfl,λx hx=>List.all_eq_true.1 h1 x hx⟩
   . cases h
 . cases h
theorem Ce {t:TypeId}{l:List Value}(hz:bE P t=some l){vs vs':List (Nat×Value)}(h:PR φ vs vs'){r:Array Value}(hb:P.built t vs=some r):
 ∃r',P.built t vs'=some r'/\LR φ r.toList r'.toList:=by
 obtain⟨i,z,hi,hz,hl,hf⟩:=eY hz;have hzz:LR φ z.cells.toList z.cells.toList:= .of_flat (by rw[hl];exact hf);unfold Program.built at hb ⊢;rw[hi]at hb ⊢;cases hu:P.underlying t with
 | none=>rw[hu]at hb;cases hb
 | some d=>
   rw[hu]at hb;cases d with
   | struct fs=>
     simp only[hz]at hb ⊢;cases hp:fs.toList.mapM (λf=>(P.info? f.type).map λi=>(f.offset,i.size))with
     | none=>simp only[hp]at hb;cases hb
     | some places=>
       simp only[hp]at hb ⊢;exact nd _ h _ _ r hzz hb
   | array n e=>
     simp only[hz]at hb ⊢;cases hp:P.info? e with
     | none=>simp only[hp]at hb;cases hb
     | some ie=>
       simp only[hp]at hb ⊢;exact nd _ h _ _ r hzz hb
   | _=>cases hb
section ops
variable {o:Oper}
theorem Cf {t:TypeId}{ps:Array (Nat×Operand)}(ho:o.op= .build t ps)(hE:lJ P φ tm ρ o.op.operands.toList){v:Value}
 (h:aC P t (parts P tm ps.toList)=some v) (w:World):∃v',VR φ v v'/\(execOp ρ o).run P w= .ok (.value v') w:=by
 unfold aC at h;obtain⟨vs,h1,h⟩:=aD h;obtain⟨z,hz,h⟩:=aD h;obtain⟨cs,hb,h⟩:=aD h;rw[ik]at h;cases h;have hp:PR φ vs (ps.toList.map λp=>(p.1,ρ p.2)):=kP ps.toList vs (λp hp=>hE p.2 (by
  rw[ho];show p.2∈((ps.toList.map (·.2)).toArray).toList;simp only[List.toList_toArray];exact List.mem_map.2 ⟨p,hp,rfl⟩)) h1
 obtain⟨r',h2,h3⟩:=Ce hz hp hb;refine⟨.agg r',h3.agg,?_⟩;have h4:P.built t (ps.map λ(i,x)=>(i,ρ x)).toList=some r':=by rw[Array.toList_map];exact h2
 simp[execOp,ho,run_build w t _ r' h4]
theorem Ch {t:TypeId}{x:Operand}(ho:o.op= .makeInterface t x)(hE:∀v,br P tm x=some v->VR φ v (ρ x)){v:Value}
 (h:h_ P t (br P tm x)=some v) (w:World):∃v',VR φ v v'/\(execOp ρ o).run P w= .ok (.value v') w:=by
 unfold h_ at h;split at h
 . cases h
 . rename_i d hn hu;obtain⟨u,h1,h2⟩:=aD h;cases h2;refine⟨_,.iface (t:=t) (hE u h1),?_⟩;simp only[execOp,ho,Instr.makeInterface,Sem.run_bind,bh hu,Result.andThen_ok];rfl
 . cases h
theorem Fu {c:Call}(hc:c.callee= .builtin .len)(ho:o.op= .call c)(w:World){v:Value}
 (h:(Builtin.len_ c.argTypes o.type (c.args.map ρ)).run P w= .ok v w):(execOp ρ o).run P w= .ok (.value v) w:=by
 simp[execOp,ho,resolve,hc,invoke,builtin,h]
theorem Ci {b:Builtin}{ts:Array TypeId}{ty:TypeId}{vs:Option (List Value)}{v:Value}(h:hJ P b ts ty vs=some v):∃l,vs=some l/\l.all flat=true/\flat v=true/\∀w,(builtin b ts ty #[] ⟨l⟩).run P w= .ok (.value v) w:=by
 unfold hJ at h;obtain⟨l,h1,h⟩:=aD h;obtain⟨h2,h⟩:=aS h;obtain⟨h3,h4⟩:=qm h;exact⟨l,h1,h2,h4,λw=>mA P _ _ h3 w⟩
theorem lS:∀(l:List Operand) (vs:List Value),lJ P φ tm ρ l->m4 P tm l=some vs->LR φ vs (l.map ρ)
 | [],vs,_,h=>by cases h;exact .nil
 | x::l,vs,hE,h=>by
   unfold m4 at h;split at h
   . cases h
   . rename_i v hv;split at h
     . cases h
     . rename_i us hus;cases h;exact .cons (hE x (by simp) v hv) (lS l us (λy hy=>hE y (by simp[hy])) hus)
theorem wh {c:Call}{b:Builtin}(hb:b= .len\/b= .max\/b= .min)(hc:c.callee= .builtin b)(ho:o.op= .call c)(hE:lJ P φ tm ρ c.args.toList){v:Value}
 (h:hJ P b c.argTypes o.type (m4 P tm c.args.toList)=some v) (w:World):∃v',VR φ v v'/\(execOp ρ o).run P w= .ok (.value v') w:=by
 obtain⟨l,h1,h2,h3,h4⟩:=Ci h;have hLR:=lS _ _ hE h1;have e1:c.args.toList.map ρ=l:=by
  refine List.ext_getElem? λi=> ?_
  by_cases hi:i<l.length
  . have h5:=List.getElem?_eq_getElem hi;have h6:=List.getElem?_eq_getElem (hLR.len ▸ hi:i<(c.args.toList.map ρ).length);rw[h5,h6,(hLR.at_ i _ _ h5 h6).aB (List.all_eq_true.1 h2 _ (List.getElem_mem hi))]
  . rw[List.getElem?_eq_none (by have:=hLR.len;omega),List.getElem?_eq_none (by omega)]
 have e2:c.args.map ρ=⟨l⟩:=Array.ext' (by simpa using e1);refine⟨v,.flat v h3,?_⟩;have h5:=h4 w;simp only[execOp,ho,resolve,hc,Sem.run_bind,Sem.run_pure,Result.andThen_ok,invoke,e2];rcases hb with rfl | rfl | rfl<;>exact h5
theorem JS {c:Call}(hc:c.callee= .builtin .len)(ho:o.op= .call c)(hE:lJ P φ tm ρ o.op.operands.toList){v:Value}
 (h:aM P c.argTypes o.type (m4 P tm c.args.toList)=some v) (w:World):∃v',VR φ v v'/\(execOp ρ o).run P w= .ok (.value v') w:=by
 have hE':lJ P φ tm ρ c.args.toList:=λx hx v hv=>hE x (by rw[ho];simp[Op.operands,Call.operands,hc];simpa using hx) v hv;have one:∀{y:Value},m4 P tm c.args.toList=some [y]->∃y',c.args.map ρ=#[y']/\VR φ y y':=by
  intro y hy;have hLR:=lS _ _ hE' hy;obtain⟨y',m,hm,h1,h2⟩:=hLR.inv;have:=h2.jI;subst this;exact⟨y',Array.ext' (by rw[Array.toList_map];exact hm),h1⟩
 have slc:∀{a:Option Addr} {n cp:Nat},c.args.map ρ=#[.slice a n cp]->eC P c.argTypes[0]? = true->(execOp ρ o).run P w= .ok (.value (.int .i64 n)) w:=by
  intro a n cp ha h1;unfold eC at h1;split at h1
  . rename_i t ht;split at h1
    . rename_i e he;refine Fu hc ho w ?_;have hu:=bh he;simp[Builtin.len_,ht,ha,hu,goInt]
    . cases h1
  . cases h1
 unfold aM at h;split at h
 . rename_i a n cp hv;obtain⟨h1,h2⟩:=aS h;cases h2;obtain⟨b,off,s⟩:=a;obtain⟨y',ha,hy⟩:=one hv;obtain⟨en,c',h5,_,rfl,_⟩:=hy.dS;exact⟨_,.flat _ rfl,slc ha h1⟩
 . rename_i y _ hv;cases hr:lM y with
   | true=>
     rw[hr]at h;obtain⟨s,es,rfl,h1⟩:=gP (show fc y (λ_ es=>bif eC P c.argTypes[0]? then some (Value.int .i64 (.ofNat es.length))else none) none=some v from h);obtain⟨h2,h3⟩:=aS h1;cases h3;obtain⟨y',ha,hy⟩:=one hv;refine⟨.int .i64 (.ofNat es.length),.flat _ rfl,?_⟩;rcases hy.gg with⟨rfl,rfl | ⟨_,_,rfl⟩⟩ | ⟨_,_,_,_,_,_,_,_,_,_,_,rfl⟩
     . exact slc ha h2
     . exact slc ha h2
     . exact slc ha h2
   | false=>
     rw[hr]at h;rw[<- hv]at h;exact wh (.inl rfl) hc ho hE' h w
 . cases h
def im (d:TypeDesc)(x y:Value):Option Bool:=match d,x,y with
 | .pointer _,.pointer (some _),.pointer none=>some false
 | .pointer _,.pointer none,.pointer (some _)=>some false
 | .slice _,.slice (some _) _ _,.slice none _ _=>some false
 | .slice _,.slice none _ _,.slice (some _) _ _=>some false
 | .map _ _,.map (some _),.map none=>some false
 | .map _ _,.map none,.map (some _)=>some false
 | .interface _,.iface _ _,.nilIface=>some false
 | .interface _,.nilIface,.iface _ _=>some false
 | _,_,_=>none
theorem Bf {d:TypeDesc}{a b a' b':Value}{r:Bool}(h:vU d a b=some r)(ha:VR φ a a')(hb:VR φ b b'):im d a' b'=some r:=by
 unfold vU at h;split at h
 . rename_i x;obtain⟨k,o,s⟩:=x;obtain⟨e,_,_,rfl⟩:=ha.dC;rw[hb.aB rfl];exact h
 . rename_i x;obtain⟨k,o,s⟩:=x;obtain⟨e,_,_,rfl⟩:=hb.dC;rw[ha.aB rfl];exact h
 . rename_i x _ _ _ _;obtain⟨k,o,s⟩:=x;obtain⟨e,c',_,_,rfl,_⟩:=ha.dS;rw[hb.aB rfl];exact h
 . rename_i _ _ x _ _;obtain⟨k,o,s⟩:=x;obtain⟨e,c',_,_,rfl,_⟩:=hb.dS;rw[ha.aB rfl];exact h
 . obtain⟨e,_,rfl⟩:=ha.kL;rw[hb.aB rfl];exact h
 . obtain⟨e,_,rfl⟩:=hb.kL;rw[ha.aB rfl];exact h
 . obtain⟨u,rfl,_⟩:=ha.gQ;rw[hb.aB rfl];exact h
 . obtain⟨u,rfl,_⟩:=hb.gQ;rw[ha.aB rfl];exact h
 . obtain⟨k,o,e,c,_,_,_,_,rfl⟩:=ha.om;rw[hb.aB rfl];exact h
 . obtain⟨k,o,e,c,_,_,_,_,rfl⟩:=hb.om;rw[ha.aB rfl];exact h
 . rename_i q _ _ _;rcases VR.gg (show VR φ (bc _ _) a' from ha)with⟨q,_⟩ | ⟨k,o,c',e,c,_,_,_,_,_,_,rfl⟩
   . cases q
   . rw[hb.aB rfl];exact h
 . rcases VR.gg (show VR φ (bc _ _) b' from hb)with⟨q,_⟩ | ⟨k,o,c',e,c,_,_,_,_,_,_,rfl⟩
   . cases q
   . rw[ha.aB rfl];exact h
 . cases h
theorem uk {t:TypeId}{d:TypeDesc}(hu:P.underlying t=some d){a b:Value}{r:Bool}(h:im d a b=some r)(n:Nat)(w:World):
 (Op.equalIn (n+1) t a b).run P w= .ok r w:=by
 have hq:=bh hu w;unfold im at h;split at h<;>(try (cases h;done))<;>cases h<;>simp only[Op.equalIn,Sem.run_bind,hq,Result.andThen_ok]<;>rfl
theorem wi {t:TypeId}{d:TypeDesc}(hu:P.underlying t=some d){a b:Value}{r:Bool}(h:im d a b=some r)(w:World):
 (∀op x y,(eqGuard op t x y a b).run P w= .ok () w)/\(binOp .eql t a b).run P w= .ok (.bool r) w/\(binOp .neq t a b).run P w= .ok (.bool (!r)) w:=by
 have h1:(Op.equal t a b).run P w= .ok r w:=uk hu h 9999 w;have e1:binOp .eql t a b=(do pure (.bool (<- Op.equal t a b))):=by
  unfold im at h;split at h<;>first | rfl | cases h
 have e2:binOp .neq t a b=(do pure (.bool (!(<- Op.equal t a b)))):=by
  unfold im at h;split at h<;>first | rfl | cases h
 refine⟨λop x y=> ?_,?_,?_⟩
 . unfold im at h;split at h<;>first | (cases h;done) | (cases op<;>rfl)
 . rw[e1,Sem.run_bind,h1];rfl
 . rw[e2,Sem.run_bind,h1];rfl
theorem JT {op:BinOp}{t yt:TypeId}{x y:Operand}(ho:o.op= .binOp op t x y yt){a b v:Value}(ha:VR φ a (ρ x))(hb:VR φ b (ρ y))
 (h:B1 P op t a b=some v) (w:World):∃v',VR φ v v'/\(execOp ρ o).run P w= .ok (.value v') w:=by
 unfold B1 at h;split at h
 . rename_i d hu;split at h
   . rename_i r hr;obtain⟨h2,h3,h4⟩:=wi hu (Bf hr ha hb) w;split at h
     . cases h;refine⟨_,.flat _ rfl,?_⟩;simp only[execOp,ho,Sem.run_bind,h2,Result.andThen_ok,h3];rfl
     . cases h;refine⟨_,.flat _ rfl,?_⟩;simp only[execOp,ho,Sem.run_bind,h2,Result.andThen_ok,h4];rfl
     . cases h
   . cases h
 . cases h
theorem mC {b:Nat}(h:hZ H b=true):∃n t el,hp H b=some (.cells n t el):=by
 unfold hZ at h;unfold hp;cases hg:H.get (bits b)with
 | none=>rw[hg]at h;cases h
 | some ob=>
   rw[hg]at h;cases ob with
   | cells n t el=>exact⟨n,t,el,rfl⟩
   | _=>cases h
theorem ou {a:Addr}{c:Array Value}{el:TypeId}{fz:Nat×Nat}(h:w.heap[a.block]? = some (.cells c el fz)):(noView a).run P w= .ok () w:=by
 simp[noView,viewAt,World.shape?,h]
theorem rC {a b:Addr}{c c':Array Value}{el el':TypeId}(ha:w.heap[a.block]? = some (.cells c el (0,0)))(hb:w.heap[b.block]? = some (.cells c' el' (0,0))):
 (sameAddr a b).run P w= .ok (a == b) w:=by
 have fa:∀o,w.frozen? { block:=a.block,off:=o }=false:=λo=>frozen_of_row w a.block o c el ha;have fa':w.frozen? a=false:=by simp[World.frozen?,ha]
 have fb':w.frozen? b=false:=by simp[World.frozen?,hb]
 have fb:∀o,w.frozen? { block:=b.block,off:=o }=false:=λo=>frozen_of_row w b.block o c' el' hb;unfold sameAddr;cases hbl:a.block == b.block with
 | true=>simp
 | false=>
   have hne:(a == b)=false:=by
    cases hab:a == b with
    | false=>rfl
    | true=>
      have:a=b:=by simpa using hab
      rw[this]at hbl;simp at hbl
   simp[fa',ou ha,ou hb,mayBeOne,stringish,World.shape?,ha,hb,fa,fb,fb',hne]
theorem Bg {t e:TypeId}{z:Nat}(hu:P.underlying t=some (.pointer e))(hz:a6 P e=some (z+1)){a b:Addr}{c c':Array Value}{el el':TypeId}
 (ha:w.heap[a.block]? = some (.cells c el (0,0))) (hb:w.heap[b.block]? = some (.cells c' el' (0,0))):
 (∀op x y,(eqGuard op t x y (.pointer (some a)) (.pointer (some b))).run P w= .ok () w)/\(binOp .eql t (.pointer (some a)) (.pointer (some b))).run P w= .ok (.bool (a == b)) w/\
  (binOp .neq t (.pointer (some a)) (.pointer (some b))).run P w= .ok (.bool (!(a == b))) w:=by
 have hs:=rC (P:=P) ha hb;have h0:∀n,(Op.equalIn (n+1) t (.pointer (some a)) (.pointer (some b))).run P w= .ok (a == b) w:=λn=>by
  simp only[Op.equalIn,Sem.run_bind,bh hu,Result.andThen_ok,bO hz];rw[if_pos (by omega)];exact hs
 have h1:(Op.equal t (.pointer (some a)) (.pointer (some b))).run P w= .ok (a == b) w:=h0 9999;have e1:binOp .eql t (.pointer (some a)) (.pointer (some b))=(do pure (.bool (<- Op.equal t (.pointer (some a)) (.pointer (some b))))):=rfl;have e2:binOp .neq t (.pointer (some a)) (.pointer (some b))=(do pure (.bool (!(<- Op.equal t (.pointer (some a)) (.pointer (some b)))))):=rfl;refine⟨λop x y=>by cases op<;>rfl,?_,?_⟩
 . rw[e1,Sem.run_bind,h1];rfl
 . rw[e2,Sem.run_bind,h1];rfl
theorem JU (hH:HR P W φ (hp H) w){op:BinOp}{t yt:TypeId}{x y:Operand}(ho:o.op= .binOp op t x y yt){a b v:Value}(ha:VR φ a (ρ x))(hb:VR φ b (ρ y))
 (h:nT P H op t a b=some v):∃v',VR φ v v'/\(execOp ρ o).run P w= .ok (.value v') w:=by
 unfold nT at h;split at h
 . rename_i e xa i ya j hu;split at h
   . rename_i z hz;obtain⟨hc,h⟩:=aS h;simp only[Bool.and_eq_true]at hc;obtain⟨n,tr,el,hgx⟩:=mC hc.1;obtain⟨n',tr',el',hgy⟩:=mC hc.2;obtain⟨ex,hx1,_,hx2⟩:=ha.dC;obtain⟨ey,hy1,_,hy2⟩:=hb.dC;obtain⟨cx,elx,hrx,_⟩:=hH.cells hgx hx1;obtain⟨cy,ely,hry,_⟩:=hH.cells hgy hy1;have hbeq:((⟨ex.r,i,none⟩:Addr) == ⟨ey.r,j,none⟩)=(Nat.beq xa ya&&Nat.beq i j):=by
      rw[Bool.eq_iff_iff];simp only[beq_iff_eq,Bool.and_eq_true];constructor
      . intro q;injection q with q1 q2
        have:=hH.inj xa ya _ _ ex ey hx1 hy1 hgx hgy rfl rfl q1;exact⟨by subst this;exact Nat.beq_refl _,by subst q2;exact Nat.beq_refl _⟩
      . rintro⟨q1,q2⟩;have q1:=beq_eq q1;have q2:=beq_eq q2;subst q1 q2;rw[hx1]at hy1;cases hy1;rfl
     obtain⟨g1,g2,g3⟩:=Bg (P:=P) (w:=w) hu hz (a:=⟨ex.r,i,none⟩) (b:=⟨ey.r,j,none⟩) hrx hry;rw[hbeq]at g2 g3;split at h
     . cases h;exact⟨_,.flat _ rfl,by simp only[execOp,ho,hx2,hy2,Sem.run_bind,g1,Result.andThen_ok,g2];rfl⟩
     . cases h;exact⟨_,.flat _ rfl,by simp only[execOp,ho,hx2,hy2,Sem.run_bind,g1,Result.andThen_ok,g3];rfl⟩
     . cases h
   . cases h
 . exact JT ho ha hb h w
theorem Bh {op:BinOp}{t:TypeId}{x y:Operand}{a b:Value}(h:((pQ x||pQ y) || !(nU a&&nU b))=true):eqGuard op t x y a b=eqGuard op t Ox Ox a b:=by
 cases ha:nU a&&nU b with
 | false=>cases a<;>cases b<;>first | rfl | cases ha
 | true=>
   rw[ha]at h;have hk:(pQ x||pQ y)=true:=by simpa using h
   simp only[Bool.and_eq_true]at ha;have e1:a= .nilIface:=by cases a<;>first | rfl | (cases ha.1;done)
   have e2:b= .nilIface:=by cases b<;>first | rfl | (cases ha.2;done)
   subst e1 e2;cases x<;>cases y<;>first | rfl | (simp[pQ]at hk;done)
theorem rD {k:Nat}{t:TypeId}(ht:qb P t=some k){v u:Value}{r:Bool}(h:re k v u=some r)(d:Nat):(Op.equalIn (d+1) t v u).run P w= .ok r w/\(∀{φ:bZ} {v':Value},VR φ v v'->v'=v)/\(∀{φ:bZ} {v':Value},VR φ u v'->v'=u):=by
 unfold qb at ht;unfold re at h;split at h
 . obtain⟨hk,h9⟩:=aS h;have hk:=of_decide_eq_true hk;cases h9;clear h;subst hk;split at ht
   . rename_i q;exact⟨run_equalIn_int w d t _ _ _ _ q,λh=>h.aB rfl,λh=>h.aB rfl⟩
   . cases ht
   . cases ht
   . cases ht
 . cases h;split at ht
   . cases ht
   . rename_i q;exact⟨run_equalIn_string w d t _ _ q,λh=>h.aB rfl,λh=>h.aB rfl⟩
   . cases ht
   . cases ht
 . cases h;split at ht
   . cases ht
   . cases ht
   . rename_i q;exact⟨run_equalIn_bool' w d t _ _ q,λh=>h.aB rfl,λh=>h.aB rfl⟩
   . cases ht
 . cases h
theorem Bi {t:TypeId}{k:Nat}(hs:qb P t=some k):cP P t=some false:=by
 unfold qb at hs;unfold cP;split at hs<;>simp_all
theorem kQ {xs ys:Array Value}(d:Nat):∀(fs:List Field) (i:Nat) (ks:List Nat) (l m:List Value) (r:Bool),m_ P fs i=some ks->mr ks l m=some r->LR φ l (xs.toList.drop i)->LR φ m (ys.toList.drop i)->
 (Op.eqFields (d+1) xs ys fs).run P w= .ok r w
 | [],i,ks,l,m,r,hf,h,_,_=>by
   cases hf;cases l<;>cases m<;>simp[mr]at h
   subst h;rfl
 | f::fs,i,ks,l,m,r,hf,h,hx,hy=>by
   obtain⟨h1,h2⟩:=aS (show(bif !(f.name == "_")&&Nat.beq f.offset i then aa (qb P f.type) (λk=>aa (m_ P fs (i+1)) (λks=>some (k::ks)) none) none else none)=some ks from hf)
   simp only[Bool.and_eq_true,Bool.not_eq_true']at h1;have ho:=beq_eq h1.2;have hn:f.name≠"_" := by simpa using h1.1
   obtain⟨k,hk,h3⟩:=aD h2;obtain⟨ks',hks,h4⟩:=aD h3;cases h4;clear hf h2 h3;cases l with
   | nil=>simp[mr]at h
   | cons a l'=>
   cases m with
   | nil=>simp[mr]at h
   | cons b m'=>
     obtain⟨r1,hc,h5⟩:=aD (show aa (re k a b) (λr=>aa (mr ks' l' m') (λr'=>some (r&&r')) none) none=some r from h);obtain⟨r2,hr,h6⟩:=aD h5;cases h6;obtain⟨a',x',hxe,ha',hx'⟩:=hx.inv;obtain⟨b',y',hye,hb',hy'⟩:=hy.inv;obtain⟨g1,g2,g3⟩:=rD (w:=w) hk hc d;have ea:=g2 ha';have eb:=g3 hb';subst ea eb;have gx:xs[f.offset]? = some a':=by
      have:=congrArg (·[0]?) hxe;simpa[List.getElem?_drop,ho]using this
     have gy:ys[f.offset]? = some b':=by
      have:=congrArg (·[0]?) hye;simpa[List.getElem?_drop,ho]using this
     have hp:∀{zs:Array Value} {v:Value},zs[f.offset]? = some v->(part f.type zs f.offset).run P w= .ok v w:=λh=>by simp[part,eo (Bi hk),h]
     have ih:=kQ d fs (i+1) ks' l' m' r2 hks hr (by rw[<- List.drop_drop,hxe];exact hx') (by rw[<- List.drop_drop,hye];exact hy');simp only[Op.eqFields,if_pos hn,Sem.run_bind,hp gx,hp gy,Result.andThen_ok,g1];cases r1 with
     | true=>simpa using ih
     | false=>rfl
theorem JV {op:BinOp}{t yt:TypeId}{x y:Operand}(ho:o.op= .binOp op t x y yt){l m:List Value}(ha:VR φ (.agg ⟨l⟩) (ρ x))(hb:VR φ (.agg ⟨m⟩) (ρ y)){ks:List Nat}(hk:vW P t=some ks){v:Value}
 (h:aa (mr ks l m) (OL op) none=some v) (w:World):∃v',VR φ v v'/\(execOp ρ o).run P w= .ok (.value v') w:=by
 obtain⟨r,hr,h⟩:=aD h;obtain⟨xs,hx,hxl⟩:=ha.jJ;obtain⟨ys,hy,hyl⟩:=hb.jJ;unfold vW at hk;split at hk
 case h_2=>cases hk
 rename_i fs hu;obtain⟨h1,h2⟩:=aS hk;simp only[Bool.and_eq_true,Bool.not_eq_true']at h1;have hfo:P.fieldsOf t=fs:=by unfold Program.fieldsOf;rw[hu]
 have heq:(Op.equalIn 10000 t (.agg xs) (.agg ys)).run P w= .ok r w:=by
  rw[run_equalIn_agg w 9999 t xs ys (by rw[hfo];exact hu) h1.1,hfo];exact kQ 9998 fs.toList 0 ks l m r h2 hr (by simpa using hxl) (by simpa using hyl)
 have hg:=run_eqGuard_agg w op t x y xs ys h1.2;unfold OL at h;split at h
 . cases h;refine⟨.bool r,.flat _ rfl,?_⟩;simp only[execOp,ho,hx,hy,Sem.run_bind,hg,Result.andThen_ok,run_eql_struct,heq];rfl
 . cases h;refine⟨.bool (!r),.flat _ rfl,?_⟩;simp only[execOp,ho,hx,hy,Sem.run_bind,hg,Result.andThen_ok,run_neq_struct,heq];rfl
 . cases h
theorem xO (hH:HR P W φ (hp H) w){op:BinOp}{t yt:TypeId}{x y:Operand}(ho:o.op= .binOp op t x y yt){a b:Value}(hea:VR φ a (ρ x))(heb:VR φ b (ρ y)){v:Value}
 (h:iZ P H op t (pQ x||pQ y) a b=some v):∃v',VR φ v v'/\(execOp ρ o).run P w= .ok (.value v') w:=by
 unfold iZ at h;cases hf:flat a&&flat b with
 | false=>
   rw[hf]at h;exact JU hH ho hea heb h
 | true=>
   rw[hf]at h;simp only[Bool.and_eq_true]at hf;obtain⟨hk,h⟩:=aS (show(bif (pQ x||pQ y) || !(nU a&&nU b)then vV P op t a b else none)=some v from h);obtain⟨h3,h4⟩:=ot h;have e1:=hea.aB hf.1;have e2:=heb.aB hf.2;refine⟨v,.flat v h3,?_⟩;have h5:=h4 w;simp only[execOp,ho,e1,e2,Bh hk,Sem.run_bind]at h5 ⊢;rw[h5];rfl
theorem JW (hH:HR P W φ (hp H) w){op:BinOp}{t yt:TypeId}{x y:Operand}(ho:o.op= .binOp op t x y yt)(hE:lJ P φ tm ρ o.op.operands.toList){v:Value}
 (h:ah P H op t (pQ x||pQ y) (br P tm x) (br P tm y)=some v):∃v',VR φ v v'/\(execOp ρ o).run P w= .ok (.value v') w:=by
 unfold ah at h;obtain⟨a,ha,h⟩:=aD h;obtain⟨b,hb,h⟩:=aD h;have hops:o.op.operands.toList=[x,y]:=by rw[ho];rfl
 have hea:=hE x (by simp[hops]) a ha;have heb:=hE y (by simp[hops]) b hb;unfold vX at h;split at h
 . unfold B2 at h;split at h
   . rename_i ks hk;exact JV ho hea heb hk h w
   . exact xO hH ho hea heb h
 . exact xO hH ho hea heb h
theorem Fv {fn:Fn}{first cap:Array Operand}(ho:o.op= .makeFunc fn first cap)(hE:lJ P φ tm ρ o.op.operands.toList){v:Value}
 (h:nV fn first.toList (m4 P tm cap.toList)=some v) (w:World):∃v',VR φ v v'/\(execOp ρ o).run P w= .ok (.value v') w:=by
 unfold nV at h;split at h
 . rename_i g hf;obtain⟨l,hl,h⟩:=aD h;cases h;have hf':first=#[]:=by
    have:first.toList.toArray=#[]:=by rw[hf]
    simpa using this
   subst hf';have hLR:=lS cap.toList l (λx hx=>hE x (by rw[ho];simpa[Op.operands]using hx)) hl;refine⟨.func (.func g) #[] ⟨cap.toList.map ρ⟩,VR.func hLR.len hLR.at_,?_⟩;have e:cap.map ρ=⟨cap.toList.map ρ⟩:=Array.ext' (by simp);simp[execOp,ho,Instr.makeFunc,e]
 . cases h
theorem lT {t:TypeId}{z:Value}(h:nW P t=some z):(∀w,(zeroValue t).run P w= .ok z w)/\flat z=true:=by
 unfold nW at h;split at h
 . rename_i i hi;split at h
   . rename_i z' hz;obtain⟨h1,h2⟩:=aS h;cases h2;exact⟨λw=>by simp[zeroValue,typeInfo,hi,hz],h1⟩
   . cases h
 . cases h
theorem wj {ok b:Bool}{v v':Value}(h:VR φ v v'):VR φ (okV ok v b) (if ok then .tuple #[v',.bool b]else v'):=by
 cases ok with
 | false=>exact h
 | true=>exact(LR.cons h (LR.cons (.flat (.bool b) rfl) LR.nil)).tuple
theorem wk {t:TypeId}{d:TypeDesc}(hu:P.underlying t=some d)(hn:∀ms,d= .interface ms->False)(xt:TypeId)(ok:Bool)(w:World):
 (∀v,(Instr.typeAssert (.iface t v) xt t ok).run P w= .ok (if ok then .tuple #[v,.bool true]else v) w)/\
 (∀u v z,u≠t->(zeroValue t).run P w= .ok z w->(Instr.typeAssert (.iface u v) xt t true).run P w= .ok (.tuple #[z,.bool false]) w)/\
 (∀z,(zeroValue t).run P w= .ok z w->(Instr.typeAssert .nilIface xt t true).run P w= .ok (.tuple #[z,.bool false]) w):=by
 cases d with
 | interface ms=>exact absurd rfl (hn ms)
 | _=>
   refine⟨λv=> ?_,λu v z hne hz=> ?_,λz hz=> ?_⟩
   . simp only[Instr.typeAssert,Sem.run_bind,bh hu,Result.andThen_ok];simp
   . simp only[Instr.typeAssert,Sem.run_bind,bh hu,Result.andThen_ok];simp[hne,hz]
   . simp only[Instr.typeAssert,Sem.run_bind,bh hu,Result.andThen_ok];simp[hz]
theorem Bj {x:Operand}{xt t:TypeId}{ok:Bool}(ho:o.op= .typeAssert x xt t ok)(hE:∀v,br P tm x=some v->VR φ v (ρ x)){v:Value}
 (h:fG P (br P tm x) t ok=some v) (w:World):∃v',VR φ v v'/\(execOp ρ o).run P w= .ok (.value v') w:=by
 unfold fG at h;obtain⟨hni,h⟩:=aS h;unfold tS at hni;split at hni
 . cases hni
 . rename_i d hn hu;obtain⟨r1,r2,r3⟩:=wk hu hn xt ok w;split at h
   . rename_i u y hx;obtain⟨y',hy,hyy⟩:=(hE _ hx).gQ;cases hb:Nat.beq u t with
     | true=>
       rw[hb]at h;have h:some (okV ok y true)=some v:=h;cases h;have:=beq_eq hb;subst this;exact⟨_,wj (b:=true) hyy,by simp only[execOp,ho,hy,Sem.run_bind,r1,Result.andThen_ok];rfl⟩
     | false=>
       rw[hb]at h;obtain⟨hok,h⟩:=aS (show(bif ok then aa (nW P t) (λz=>some (Value.tuple #[z,.bool false])) none else none)=some v from h);subst hok;obtain⟨z,hz,h⟩:=aD h;cases h;obtain⟨hz1,hz2⟩:=lT hz;have hne:u≠t:=λq=>by rw[q]at hb;exact absurd (Nat.beq_refl t) (by rw[hb];decide)
       exact⟨.tuple #[z,.bool false],(LR.cons (.flat z hz2) (LR.cons (.flat (.bool false) rfl) LR.nil)).tuple,by simp only[execOp,ho,hy,Sem.run_bind,r2 u y' z hne (hz1 w),Result.andThen_ok];rfl⟩
   . rename_i hx;have hy:=(hE _ hx).aB rfl;obtain⟨hok,h⟩:=aS h;subst hok;obtain⟨z,hz,h⟩:=aD h;cases h;obtain⟨hz1,hz2⟩:=lT hz;exact⟨.tuple #[z,.bool false],(LR.cons (.flat z hz2) (LR.cons (.flat (.bool false) rfl) LR.nil)).tuple,by simp only[execOp,ho,hy,Sem.run_bind,r3 z (hz1 w),Result.andThen_ok];rfl⟩
   . cases h
 . cases hni
theorem pU {d:TypeDesc}(h:kH d=true):(∃k,d= .int k)\/d= .string\/d= .bool:=by
 cases d<;>first | (cases h;done) | simp
theorem run_checkKey {b:Bool}{t:TypeId}{d:TypeDesc}(hu:P.underlying t=some d)(hd:kH d=true)(v:Value)(w:World):(Instr.checkKey b 10000 t v).run P w= .ok () w:=by
 have h:∀n,(Instr.checkKey b (n+1) t v).run P w= .ok () w:=λn=>by
  rcases pU hd with⟨k,rfl⟩ | rfl | rfl<;>simp only[Instr.checkKey,Sem.run_bind,bh hu,Result.andThen_ok]<;>rfl
 exact h 9999
theorem wm {d:TypeDesc}{k k' a a':Value}{b:Bool}(hk:VR φ k k')(ha:VR φ a a')(h:Instr.sameNow d k a=some b):Instr.sameNow d k' a'=some b:=by
 unfold Instr.sameNow at h;split at h
 . rw[hk.aB rfl,ha.aB rfl];exact h
 . rw[hk.aB rfl,ha.aB rfl];exact h
 . rw[hk.aB rfl,ha.aB rfl];exact h
 . cases h
inductive FR (φ:bZ):Option (Nat×Value)->Option (Nat×Value)->Prop
 | none:FR φ none none
 | some {i:Nat} {v v':Value} (h:VR φ v v'):FR φ (some (i,v)) (some (i,v'))
theorem ov {d:TypeDesc}{k k':Value}(hk:VR φ k k'){l l':List MapEntry}(h:my φ l l'):∀(i:Nat) (r:Option (Nat×Value)),Instr.findNow d k l i=some r->
 ∃r',Instr.findNow d k' l' i=some r'/\FR φ r r':=by
 induction h with
 | nil=>intro i r h;cases h;exact⟨none,rfl,.none⟩
 | @cons e e' l l' he _ ih=>
   intro i r h;unfold Instr.findNow at h ⊢;cases hs:Instr.sameNow d k e.key with
   | none=>rw[hs]at h;cases h
   | some b=>
     rw[hs]at h;rw[wm hk he.key hs];cases b with
     | true=>cases h;exact⟨_,rfl,.some he.val⟩
     | false=>exact ih (i+1) r h
theorem run_findKey {t:TypeId}{d:TypeDesc}(hu:P.underlying t=some d){k:Value}{es:List MapEntry}{r:Option (Nat×Value)}(h:Instr.findNow d k es 0=some r)(w:World):
 (Instr.findKey t k es).run P w= .ok r w:=by
 simp only[Instr.findKey,Sem.run_bind,bh hu,Result.andThen_ok,h];rfl
theorem qq {β:Type}{t:TypeId}{k:TypeDesc->TypeId->Option β}{y:β}(h:mu P t k none=some y):
 ∃kt et d,P.underlying t=some (.map kt et)/\P.underlying kt=some d/\kH d=true/\k d et=some y:=by
 unfold mu at h;split at h
 . rename_i kt et hu;obtain⟨d,h1,h2⟩:=aD h;obtain⟨h3,h4⟩:=aS h2;exact⟨kt,et,d,hu,h1,h3,h4⟩
 . cases h
theorem wo (hH:HR P W φ (hp H) w){m m':Value}(hm:VR φ m m'){es:List MapEntry}(h:A7 H (some m)=some es):
 ∃es':Array MapEntry,my φ es es'.toList/\((m'= .map none/\es'=#[])\/∃r c,m'= .map (some r)/\w.heap[r]? = some (.map es' c)):=by
 unfold A7 at h;split at h
 . rename_i q;cases q;cases h;exact⟨#[],.nil,.inl ⟨hm.aB rfl,rfl⟩⟩
 . rename_i b q;cases q;obtain⟨e,hb,rfl⟩:=hm.kL;cases hg:H.get (bits b)with
   | none=>rw[hg]at h;cases h
   | some ob=>
     rw[hg]at h;cases ob with
     | map es1 c=>
       cases h;obtain⟨_,es',h2,h3⟩:=hH.obj b _ e (show hp H b=some (.map es c)from hg) hb;exact⟨es',h3,.inr ⟨e.r,c,rfl,h2⟩⟩
     | _=>cases h
 . cases h
theorem Bk (hH:HR P W φ (hp H) w){t:TypeId}{x k:Operand}{ok:Bool}(ho:o.op= .lookup t x k ok)(hE:lJ P φ tm ρ [x,k]){v:Value}
 (h:eD P H t (br P tm x) (br P tm k) ok=some v):∃v',VR φ v v'/\(execOp ρ o).run P w= .ok (.value v') w:=by
 unfold eD at h;obtain⟨kt,et,d,hu,hd,hkk,h⟩:=qq h;obtain⟨es,hes,h⟩:=aD h;obtain⟨kv,hk,h⟩:=aD h;cases hx:br P tm x with
 | none=>rw[hx]at hes;cases hes
 | some m=>
   rw[hx]at hes;obtain⟨es',hml,hm⟩:=wo hH (hE x (by simp) m hx) hes;have hkv:=hE k (by simp) kv hk;unfold Ib at h;cases hf:Instr.findNow d kv es 0 with
   | none=>rw[hf]at h;cases h
   | some r=>
     rw[hf]at h;obtain⟨r',hf',hfr⟩:=ov hkv hml 0 r hf;have hchk:=run_checkKey (b:=es'.toList.isEmpty) hd hkk (ρ k) w;have hfk:=run_findKey hd hf' w;cases hfr with
     | @some i u u' hu'=>
       have h:some (okV ok u true)=some v:=h;cases h;refine⟨_,wj (b:=true) hu',?_⟩;rcases hm with⟨hm,rfl⟩ | ⟨r,c,hm,hr⟩
       . simp[Instr.findNow]at hf'
       . simp only[execOp,ho,Instr.lookup,Sem.run_bind,bh hu,Result.andThen_ok,hm,MapKept.run_getObj_map hr,Sem.run_pure,run_checkKey hd hkk,hfk]
     | none=>
       have h:aa (nW P et) (λz=>some (okV ok z false)) none=some v:=h;obtain⟨z,hz,h⟩:=aD h;cases h;obtain⟨hz1,hz2⟩:=lT hz;refine⟨_,wj (b:=false) (.flat z hz2),?_⟩;rcases hm with⟨hm,rfl⟩ | ⟨r,c,hm,hr⟩
       . simp only[execOp,ho,Instr.lookup,Sem.run_bind,bh hu,Result.andThen_ok,hm,Sem.run_pure,run_checkKey hd hkk,hfk,hz1]
       . simp only[execOp,ho,Instr.lookup,Sem.run_bind,bh hu,Result.andThen_ok,hm,MapKept.run_getObj_map hr,Sem.run_pure,run_checkKey hd hkk,hfk,hz1]
theorem lU:∀(l:List Value) (r:List UInt8),strOf l=some r->∃ns:List Int,l=ns.map (Value.int .u8)/\r=ns.map λn=>UInt8.ofNat n.toNat
 | [],r,h=>by cases h;exact⟨[],rfl,rfl⟩
 | v::l,r,h=>by
   unfold strOf at h;split at h
   . rename_i q;cases q
   . rename_i n l' q;cases q;cases hs:strOf l with
     | none=>rw[hs]at h;cases h
     | some r'=>
       rw[hs]at h;cases h;obtain⟨ns,h1,h2⟩:=lU l r' hs;exact⟨(n:Int)::ns,by rw[h1];rfl,by rw[h2];rfl⟩
   . cases h
theorem fold_push:∀(ns:List Int) (s:ByteArray),ns.foldl (λ(r:ByteArray) n=>r.push (UInt8.ofNat n.toNat)) s=⟨⟨s.data.toList++ns.map λn=>UInt8.ofNat n.toNat⟩⟩
 | [],s=>by simp
 | n::ns,s=>by
   rw[List.foldl_cons,fold_push ns];congr 2;simp[ByteArray.push]
theorem LR.ints {ns:List Int}{l':List Value}(h:LR φ (ns.map (Value.int .u8)) l'):l'=ns.map (Value.int .u8):=by
 have hl:=h.len;refine List.ext_getElem? λi=> ?_
 by_cases hi:i<l'.length
 . have h1:=List.getElem?_eq_getElem hi;have h2:=List.getElem?_eq_getElem (hl ▸ hi:i<(ns.map (Value.int .u8)).length);rw[h1,h2,(h.at_ i _ _ h2 h1).aB (by simp[Ev.flat,ga])]
 . rw[List.getElem?_eq_none (by omega),List.getElem?_eq_none (by rw[hl];omega)]
theorem lV {s d:TypeId}{x:Operand}(ho:o.op= .convert s d x)(hty:dH P s d=true){a:Addr}{n c':Nat}{ns:List Int}(hx:ρ x= .slice (some a) n c')(hload:(loadCells a n).run P w= .ok (ns.map (Value.int .u8)).toArray w):
 (execOp ρ o).run P w= .ok (.value (.string ⟨⟨ns.map λn=>UInt8.ofNat n.toNat⟩⟩)) w:=by
 unfold dH at hty;split at hty
 . rename_i e hs hd;split at hty
   . rename_i he;simp only[execOp,ho,hx,Sem.run_bind,run_convert_bytes_string w s d e _ n c' hs he hd,run_bytesToString w _ n c' ns hload,Result.andThen_ok,fold_push];rfl
   . cases hty
 . cases hty
theorem wq {s d:TypeId}{x:Operand}(ho:o.op= .convert s d x)(hty:dH P s d=true)(hx:ρ x= .slice none 0 0):
 (execOp ρ o).run P w= .ok (.value (.string ⟨⟨[]⟩⟩)) w:=by
 unfold dH at hty;split at hty
 . rename_i e hs hd;split at hty
   . rename_i he;have hu:=bh (w:=w) hs;have hue:=bh (w:=w) he;have hud:=bh (w:=w) hd;simp[execOp,ho,hx,convert,hu,hue,hud,Conv.bytesToString]
     try rfl
   . cases hty
 . cases hty
theorem Fw (hH:HR P W φ (hp H) w){s d:TypeId}{x:Operand}(ho:o.op= .convert s d x)(hE:lJ P φ tm ρ o.op.operands.toList){v:Value}
 (h:cB P H s d (br P tm x)=some v):∃v',VR φ v v'/\(execOp ρ o).run P w= .ok (.value v') w:=by
 have hEx:∀v,br P tm x=some v->VR φ v (ρ x):=hE x (by rw[ho];simp[Op.operands]);unfold cB at h;split at h
 . rename_i b off n cp hx;obtain⟨en,c',h5,_,h6,_⟩:=(hEx _ hx).dS;obtain⟨hty,h⟩:=aS h;obtain⟨m,tr,hg,h⟩:=oh h;obtain⟨hle,h⟩:=aS h;obtain⟨l,hl,h⟩:=aD h;obtain⟨r,hr,h⟩:=aD h;cases h;obtain⟨c,el',fz,hrow,hn,hc⟩:=hH.row hg h5;have hle:=cg hle;obtain⟨h7,h8⟩:=kf hc hl hle hn;obtain⟨ns,rfl,rfl⟩:=lU l r hr;have h9:=h7.ints;refine⟨_,.flat _ rfl,lV ho hty h6 ?_⟩;rw[<- h9];exact nb hrow (by omega)
 . rename_i y _ hx;cases hr:lM y with
   | true=>
     rw[hr]at h;obtain⟨s',es,rfl,h1⟩:=gP (show fc y (λs' es=>bif dH P s d&&Nat.beq s' 1 then aa (strOf es) (λr=>some (Value.string ⟨⟨r⟩⟩)) none else none) none=some v from h);obtain⟨h2,h3⟩:=aS h1;simp only[Bool.and_eq_true]at h2;have hs1:=beq_eq h2.2;obtain⟨r,hsr,h4⟩:=aD h3;cases h4;subst hs1;clear h h1 h3;obtain⟨ns,rfl,rfl⟩:=lU es r hsr;refine⟨_,.flat _ rfl,?_⟩;rcases(hEx _ hx).gg with⟨q,hy | ⟨a,c',hy⟩⟩ | ⟨k,o',c',e,c,h3,h4,h5,h6,h7,h8,hy⟩
     . have:ns=[]:=by simpa using q
       subst this;exact wq ho h2.1 hy
     . have:ns=[]:=by simpa using q
       subst this;exact lV ho h2.1 hy rfl
     . rw[List.length_map]at hy;refine lV ho h2.1 hy ?_
       by_cases hne:ns=[]
       . subst hne;rfl
       . have h6:=h6 (by simpa using hne);rw[List.length_map,Nat.mul_one]at h6;obtain⟨el,fz,hrow⟩:=hH.j3 k e c h3 h4;have h9:LR φ (ns.map (Value.int .u8)) ((c.toList.drop o').take ns.length):=⟨by simp;omega,λi a b ha hb=>by
          rw[List.getElem?_take]at hb;split at hb
          . rw[List.getElem?_drop,Array.getElem?_toList]at hb;have hcell:a.cells.toList=[a]:=by
             rw[List.getElem?_map]at ha;cases hn:ns[i]? with
             | none=>rw[hn]at ha;cases ha
             | some z=>rw[hn]at ha;cases ha;rfl
            refine h8 i 0 a a b ha (by rw[hcell];rfl) ?_;rw[Nat.mul_one,Nat.add_zero];exact hb
          . cases hb⟩
         have h10:=h9.ints;rw[<- h10];exact nb hrow (by omega)
   | false=>
     rw[hr]at h;have h:tR P s d y=some v:=h;unfold tR at h;obtain⟨h1,h2⟩:=aS h;obtain⟨h3,h4⟩:=ot h2;have e:=(hEx _ hx).aB h1;refine⟨v,.flat v h3,?_⟩;simp only[execOp,ho,e,Sem.run_bind,h4 w,Result.andThen_ok];rfl
 . cases h
theorem Cj {t:TypeId}{x ix:Operand}(ho:o.op= .index t x ix)(hE:lJ P φ tm ρ o.op.operands.toList){v:Value}
 (h:aH P t (br P tm x) (br P tm ix)=some v) (w:World):∃v',VR φ v v'/\(execOp ρ o).run P w= .ok (.value v') w:=by
 unfold aH at h;split at h
 case h_2=>cases h
 rename_i k i0 hi;have h3:=(hE ix (by rw[ho];simp[Op.operands]) _ hi).aB rfl;split at h
 . rename_i cs hx;obtain⟨i,rfl,h4⟩:=qk h;clear h;obtain⟨c',h1,h2⟩:=(hE x (by rw[ho];simp[Op.operands]) _ hx).jJ;have h2:LR φ cs c'.toList:=h2;unfold Fi at h4;cases hu:P.underlying t with
   | none=>simp only[hu]at h4;cases h4
   | some d=>
     cases d with
     | array len e=>
       simp only[hu]at h4;obtain⟨hlt,h⟩:=aS h4;have hlt:=dJ hlt;cases ha:cP P e with
       | none=>simp only[ha]at h;cases h
       | some b=>
         simp only[ha]at h;cases b with
         | false=>
           cases hs:a6 P e with
           | none=>simp only[hs]at h;cases h
           | some s=>
             simp only[hs]at h;obtain⟨v',h4,h5⟩:=h2.get h;have h6:c'[i*s]? = some v':=by simpa using h4
             exact⟨v',h5,by simp[execOp,ho,h1,h3,Instr.index,asIntOf,bh hu,hlt,part,eo ha,bO hs,h6]⟩
         | true=>
           cases hs:a6 P e with
           | none=>simp only[hs]at h;cases h
           | some s=>
             simp only[hs]at h;obtain⟨hle,h4⟩:=aS h;cases h4;refine⟨_,((h2.drop (i*s)).take s).agg,?_⟩;have e0:(⟨(c'.toList.drop (i*s)).take s⟩:Array Value)=c'.extract (i*s) (i*s+s):=by
              apply Array.ext';simp only[Array.toList_extract,List.extract_eq_take_drop];rw[show i*s+s-i*s=s from by omega]
             rw[e0];simp[execOp,ho,h1,h3,Instr.index,asIntOf,bh hu,hlt,part,eo ha,bO hs]
     | _=>simp only[hu]at h4;cases h4
 . rename_i y _ hx;unfold vT at h;obtain⟨h1,h2⟩:=aS h;simp only[Bool.and_eq_true]at h1;obtain⟨h4,h5⟩:=ot h2;have e:=(hE x (by rw[ho];simp[Op.operands]) _ hx).aB h1.1;refine⟨v,.flat v h4,?_⟩;simp only[execOp,ho,e,h3,Sem.run_bind,h5 w,Result.andThen_ok];rfl
 . cases h
theorem ow (hH:HR P W φ (hp H) w)(hE:lJ P φ tm ρ o.op.operands.toList){v:Value}(h:rd P H tm o=some v):
 ∃v',VR φ v v'/\(execOp ρ o).run P w= .ok (.value v') w:=by
 unfold rd at h;have one:∀x,o.op.operands.toList=[x]->∀v,br P tm x=some v->VR φ v (ρ x):=λx hx=>hE x (by simp[hx]);cases ho:o.op with
 | move x=>simp only[ho]at h;exact xM (.inl ho) (one x (by rw[ho];rfl)) h w
 | assign x=>simp only[ho]at h;exact xM (.inr ho) (one x (by rw[ho];rfl)) h w
 | pick c a b=>simp only[ho]at h;exact Ft ho (λx hx=>hE x (by rw[ho];exact hx)) h w
 | load t x=>simp only[ho]at h;exact Fs hH ho (one x (by rw[ho];rfl)) h
 | nilCheck x=>simp only[ho]at h;exact JR ho (one x (by rw[ho];rfl)) h w
 | fieldAddr s x f=>simp only[ho]at h;exact rA ho (one x (by rw[ho];rfl)) h w
 | indexAddr t x ix=>simp only[ho]at h;exact rB ho (λy hy=>hE y (by rw[ho];exact hy)) h w
 | extract x i=>simp only[ho]at h;exact we ho (one x (by rw[ho];rfl)) h w
 | field t x f=>simp only[ho]at h;exact Cc ho (one x (by rw[ho];rfl)) h w
 | slice t x lo hi mx=>simp only[ho]at h;exact Cd hH ho hE h
 | call c=>
   simp only[ho]at h;unfold nX at h;split at h
   . rename_i hc;exact JS hc ho hE h w
   . rename_i hc;exact wh (.inr (.inl rfl)) hc ho (λx hx v hv=>hE x (by rw[ho];simp[Op.operands,Call.operands,hc];simpa using hx) v hv) h w
   . rename_i hc;exact wh (.inr (.inr rfl)) hc ho (λx hx v hv=>hE x (by rw[ho];simp[Op.operands,Call.operands,hc];simpa using hx) v hv) h w
   . cases h
 | binOp op t x y yt=>simp only[ho]at h;exact JW hH ho hE h
 | build t ps=>simp only[ho]at h;exact Cf ho hE h w
 | makeInterface t x=>simp only[ho]at h;exact Ch ho (one x (by rw[ho];rfl)) h w
 | unOp op _ x=>
   simp only[ho]at h;unfold jZ at h;obtain⟨y,hy,h⟩:=aD h;obtain⟨h1,h2⟩:=aS h;obtain⟨h3,h4⟩:=ot h2;have e:=(one x (by rw[ho];rfl) y hy).aB h1;refine⟨v,.flat v h3,?_⟩;simp only[execOp,ho,e,Sem.run_bind,h4 w,Result.andThen_ok];rfl
 | convert s d x=>simp only[ho]at h;exact Fw hH ho hE h
 | makeFunc fn a b=>simp only[ho]at h;exact Fv ho hE h w
 | typeAssert x xt t ok=>simp only[ho]at h;exact Bj ho (one x (by rw[ho];rfl)) h w
 | lookup t m k ok=>simp only[ho]at h;exact Bk hH ho (by rw[ho]at hE;exact hE) h
 | index t x ix=>simp only[ho]at h;exact Cj ho hE h w
 | _=>simp only[ho]at h;cases h
end ops
end
end
end Go.Ev
namespace Go.Ev
open Go.RowKit (Below)
noncomputable section
set_option maxRecDepth 100000
set_option linter.unusedVariables false
set_option linter.unusedSimpArgs false
section
variable {P:Program}{W w:World}{φ:bZ}{H:T OB}{tm:T Value}{ρ:Operand->Value}{g:Nat->Option OB}
def cu (l:List Value)(e:TypeId):OB:= .cells l.length (dB l 0 .leaf) e
theorem dD {β:Type}(H:T OB)(nx:Nat)(e:TypeId)(l:List Value)(k:T OB->Nat->β):tT H nx e l k=k (set H (bits nx) (some (cu l e))) (nx+1):=by
 unfold tT;rw[cC,a5,aY,a5];rfl
def dW (φ φ':bZ)(g g':Nat->Option OB):Prop:=∀k,φ[k]? = some none->φ'[k]? = some none/\g' k=g k
theorem dW.refl (φ:bZ)(g:Nat->Option OB):dW φ φ g g:=λ_ h=>⟨h,rfl⟩
theorem dW.trans {a b c:bZ}{g g' g'':Nat->Option OB}(h:dW a b g g')(h':dW b c g' g''):dW a c g g'':=
 λk q=>⟨(h' k (h k q).1).1,((h' k (h k q).1).2).trans (h k q).2⟩
theorem cc (φ:bZ)(x:Option fp):φ.le (φ++[x]):=λk e h=>by
 rw[List.getElem?_append_left (List.getElem?_eq_some_iff.1 h).1];exact h
theorem dK (φ:bZ)(x:Option fp):(φ++[x])[φ.length]? = some x:=by simp
theorem bA {φ:bZ}{x:Option fp}{k:Nat}{e:fp}(h:(φ++[x])[k]? = some (some e)):φ[k]? = some (some e)\/(k=φ.length/\x=some e):=by
 by_cases hk:k<φ.length
 . rw[List.getElem?_append_left hk]at h;exact .inl h
 . rw[List.getElem?_append_right (by omega)]at h;have:k-φ.length=0:=by
    have:=(List.getElem?_eq_some_iff.1 h).1;simp at this;omega
   rw[this]at h;simp at h;exact .inr ⟨by omega,h⟩
theorem HR.Fy {ψ:bZ}(hH:HR P W φ g w)(hle:φ.le ψ):∀(k:Nat),k<P.globals.size->∃e:fp,ψ[k]? = some (some e)/\e.r=k:=
 λk hk=>let⟨e,a,b⟩:=hH.gl k hk;⟨e,hle k e a,b⟩
theorem HR.Mn (hH:HR P W φ g w)(ob:Option OB):HR P W (φ++[none]) (lQ g φ.length ob) w where
 below:=hH.below
 gl:=hH.Fy (cc φ none)
 mz:=λk o h=>by
  simp only[List.length_append,List.length_singleton]
  by_cases hk:k=φ.length
  . omega
  . rw[aX g hk]at h;have:=hH.mz k o h;omega
 lI:=λk e h=>by
  rcases bA h with h | ⟨_,h⟩
  . exact hH.lI k e h
  . cases h
 inj:=λk k' ob ob' e e' h h' hg hg' hl hl' hr=>by
  rcases bA h with h | ⟨_,h⟩
  . rcases bA h' with h' | ⟨_,h'⟩
    . have h1:=(List.getElem?_eq_some_iff.1 h).1;have h2:=(List.getElem?_eq_some_iff.1 h').1;rw[aX g (by omega)]at hg hg';exact hH.inj k k' ob ob' e e' h h' hg hg' hl hl' hr
    . cases h'
  . cases h
 obj:=λk ob e hg h=>by
  rcases bA h with h | ⟨_,h⟩
  . have h1:=(List.getElem?_eq_some_iff.1 h).1;rw[aX g (by omega)]at hg;exact(hH.obj k ob e hg h).mono (cc φ none)
  . cases h
 j3:=λk e c h hf=>by
  rcases bA h with h | ⟨_,h⟩
  . exact hH.j3 k e c h hf
  . cases h
 oo:=λk k' e e' c o h hf h' hg hl=>by
  rcases bA h with h | ⟨_,h⟩
  . rcases bA h' with h' | ⟨_,h'⟩
    . have h2:=(List.getElem?_eq_some_iff.1 h').1;rw[aX g (by omega)]at hg;exact hH.oo k k' e e' c o h hf h' hg hl
    . cases h'
  . cases h
theorem lW {φ:bZ}{k:Nat}(hk:φ[k]? = some none)(e:fp):φ.le (φ.set k (some e)):=λj x h=>by
 rw[List.getElem?_set]
 by_cases hj:k=j
 . subst hj;rw[hk]at h;cases h
 . rw[if_neg hj];exact h
theorem Fz {φ:bZ}{k:Nat}(hk:φ[k]? = some none)(e:fp):(φ.set k (some e))[k]? = some (some e):=by
 have:=(List.getElem?_eq_some_iff.1 hk).1;simp[this]
theorem ff {φ:bZ}{k j:Nat}{e x:fp}(h:(φ.set k (some e))[j]? = some (some x)):(j≠k/\φ[j]? = some (some x))\/(j=k/\x=e):=by
 rw[List.getElem?_set]at h
 by_cases hj:k=j
 . rw[if_pos hj]at h;split at h
   . cases h;exact .inr ⟨hj.symm,rfl⟩
   . cases h
 . rw[if_neg hj]at h;exact .inl ⟨λq=>hj q.symm,h⟩
theorem HR.bind (hH:HR P W φ g w){k:Nat}{ob:OB}(hk:φ[k]? = some none)(hg:g k=some ob)(o:Obj){sz es:Nat}(hob:ui P W φ ob ⟨w.heap.size,sz,es,none⟩ (w.alloc o)):
 HR P W (φ.set k (some ⟨w.heap.size,sz,es,none⟩)) g (w.alloc o) where
 below:=hH.below.alloc hH.below.size _
 gl:=hH.Fy (lW hk _)
 mz:=λk o h=>by rw[List.length_set];exact hH.mz k o h
 lI:=λj e h=>by
  rw[World.size_alloc];rcases ff h with⟨_,h⟩ | ⟨_,rfl⟩
  . have:=hH.lI j e h;omega
  . show w.heap.size<w.heap.size+1;omega
 inj:=λa b oa ob' e e' h h' hga hgb hla hlb hr=>by
  rcases ff h with⟨_,h0⟩ | ⟨ha,hx⟩
  . rcases ff h' with⟨_,h1⟩ | ⟨hb,hy⟩
    . exact hH.inj a b oa ob' e e' h0 h1 hga hgb hla hlb hr
    . have:=hH.lI a e h0;rw[hy]at hr;have hr:e.r=w.heap.size:=hr;omega
  . rcases ff h' with⟨_,h1⟩ | ⟨hb,hy⟩
    . have:=hH.lI b e' h1;rw[hx]at hr;have hr:w.heap.size=e'.r:=hr;omega
    . exact ha.trans hb.symm
 obj:=λa oa e hga h=>by
  rcases ff h with⟨_,h0⟩ | ⟨ha,hx⟩
  . exact((hH.obj a oa e hga h0).heap (λ_=>Below.heap_alloc w _ _ (hH.lI a e h0))).mono (lW hk _)
  . subst ha;subst hx;rw[hg]at hga;cases hga;exact hob.mono (lW hk _)
 j3:=λa e c h hf=>by
  rcases ff h with⟨_,h0⟩ | ⟨ha,hx⟩
  . obtain⟨el,fz,hr⟩:=hH.j3 a e c h0 hf;exact⟨el,fz,by rw[Below.heap_alloc w _ _ (hH.lI a e h0)];exact hr⟩
  . subst hx;cases hf
 oo:=λa b e e' c o h hf h' hga hl=>by
  rcases ff h with⟨_,h0⟩ | ⟨ha,hx⟩
  . rcases ff h' with⟨_,h1⟩ | ⟨hb,hy⟩
    . exact hH.oo a b e e' c o h0 hf h1 hga hl
    . have:=hH.lI a e h0;rw[hy];show w.heap.size≠e.r;omega
  . subst hx;cases hf
def fresh (φ:bZ)(r sz es:Nat):bZ:=(φ++[none]).set φ.length (some ⟨r,sz,es,none⟩)
theorem gR (φ:bZ)(r sz es:Nat):(fresh φ r sz es).length=φ.length+1:=by simp[fresh]
theorem gS (φ:bZ)(r sz es:Nat):(fresh φ r sz es)[φ.length]? = some (some ⟨r,sz,es,none⟩):=by simp[fresh]
theorem jh (φ:bZ)(r sz es:Nat):φ.le (fresh φ r sz es):=bZ.le_trans (cc φ none) (lW (dK φ none) _)
theorem fK (φ:bZ)(r sz es:Nat)(g:Nat->Option OB)(x:Option OB):dW φ (fresh φ r sz es) g (lQ g φ.length x):=λk h=>by
 have hk:=(List.getElem?_eq_some_iff.1 h).1;refine⟨?_,aX g (by omega) x⟩;unfold fresh;rw[List.getElem?_set_ne (by omega),List.getElem?_append_left hk];exact h
theorem HR.fresh (hH:HR P W φ g w){ob:OB}(o:Obj){sz es:Nat}(hob:ui P W φ ob ⟨w.heap.size,sz,es,none⟩ (w.alloc o)):
 HR P W (Ev.fresh φ w.heap.size sz es) (lQ g φ.length (some ob)) (w.alloc o):=
 (hH.Mn (some ob)).bind (dK φ none) (cf _ _ _) o (hob.mono (cc φ none))
theorem HR.drew (hH:HR P W φ g w):HR P W φ g w.drew where
 below:=hH.below.drew
 gl:=hH.gl
 mz:=hH.mz
 lI:=hH.lI
 inj:=hH.inj
 obj:=λk ob e hg h=>(hH.obj k ob e hg h).heap λ_=>rfl
 j3:=λk e c h hf=>hH.j3 k e c h hf
 oo:=hH.oo
theorem HR.put {w':World}(hH:HR P W φ g w){b:Nat}{ob0 ob':OB}{e:fp}(hg:g b=some ob0)(hl:live ob0=true)(hb:φ[b]? = some (some e))(hbel:Below W.heap.size W w')(iV:w'.heap.size=w.heap.size)
 (hoth:∀r,r≠e.r->w'.heap[r]? = w.heap[r]?) (hob:ui P W φ ob' e w'):HR P W φ (lQ g b (some ob')) w' where
 below:=hbel
 gl:=hH.gl
 mz:=λk o h=>by
  by_cases hk:k=b
  . subst hk;exact hH.mz k _ hg
  . rw[aX g hk]at h;exact hH.mz k o h
 lI:=λk x h=>by rw[iV];exact hH.lI k x h
 inj:=λk k' oa oa' x x' h h' hk hk' hla hla' hr=>by
  have hx:∀j oj,lQ g b (some ob') j=some oj->live oj=true->∃oj',g j=some oj'/\live oj'=true:=by
   intro j oj h hl'
   by_cases hj:j=b
   . subst hj;exact⟨_,hg,hl⟩
   . rw[aX g hj]at h;exact⟨_,h,hl'⟩
  obtain⟨_,q1,q2⟩:=hx k _ hk hla;obtain⟨_,q3,q4⟩:=hx k' _ hk' hla';exact hH.inj k k' _ _ x x' h h' q1 q3 q2 q4 hr
 obj:=λk oa x hk h=>by
  by_cases hkb:k=b
  . subst hkb;rw[cf]at hk;cases hk;rw[hb]at h;cases h;exact hob
  . rw[aX g hkb]at hk;refine(hH.obj k oa x hk h).heap λhla=>hoth _ λq=>hkb (hH.inj k b _ _ x e h hb hk hg hla hl q)
 j3:=λk x c h hf=>by
  obtain⟨el,fz,hr⟩:=hH.j3 k x c h hf;exact⟨el,fz,by rw[hoth _ (λq=>hH.oo k b x e c ob0 h hf hb hg hl q.symm)];exact hr⟩
 oo:=λk k' x x' c o h hf h' hk' hl'=>by
  by_cases hkb:k'=b
  . subst hkb;rw[hb]at h';cases h';exact hH.oo k k' x e c ob0 h hf hb hg hl
  . rw[aX g hkb]at hk';exact hH.oo k k' x x' c o h hf h' hk' hl'
theorem kR (g:Nat->Option OB)(b:Nat)(x y:Option OB):lQ (lQ g b x) b y=lQ g b y:=by
 funext j;unfold lQ;split<;>rfl
theorem Ck (g:Nat->Option OB)(b:Nat)(x:Option OB)(h:g b=x):lQ g b x=g:=by
 funext j;unfold lQ;split
 . rename_i q;subst q;exact h.symm
 . rfl
theorem HR.kill (hH:HR P W φ g w){b n:Nat}{t:T Value}{el:TypeId}{e:fp}(hg:g b=some (.cells n t el))(hb:φ[b]? = some (some e)):HR P W φ (lQ g b (some .dead)) w:=
 hH.put hg rfl hb hH.below rfl (λ_ _=>rfl) trivial
theorem HR.store (hH:HR P W φ g w){b n j:Nat}{tr:T Value}{el:TypeId}{e:fp}(hg:g b=some (.cells n tr el))(hb:φ[b]? = some (some e))(hj:j<n)
 {v v':Value} (hv:VR φ v v'):HR P W φ (lQ g b (some (.cells n (set tr (bits j) (some v)) el))) (w.setCell ⟨e.r,j,none⟩ v'):=by
 obtain⟨hab,⟨c,el',hr,iV,hn,hc⟩,hes⟩:=hH.obj b _ e hg hb;refine hH.put hg rfl hb (hH.below.setCell hab v') (World.size_setCell ..) (λr hne=>heap_setCell_other w ⟨e.r,j,none⟩ r v' hne) ⟨hab,⟨c.setIfInBounds j v',el',heap_setCell_same w e.r j c el' v' hr,by simp[iV],hn,λi hi u hu=> ?_⟩,hes⟩;rw[get_at]at hu
 by_cases hij:i=j
 . subst hij;rw[if_pos rfl]at hu;cases hu;exact⟨v',by rw[Array.getElem?_setIfInBounds_self_of_lt (by omega)],hv⟩
 . rw[if_neg hij]at hu;obtain⟨u',h1,h2⟩:=hc i hi u hu;exact⟨u',by rw[Array.getElem?_setIfInBounds_ne (λq=>hij q.symm)];exact h1,h2⟩
theorem eE {b n:Nat}{el:TypeId}{e:fp}(hb:φ[b]? = some (some e)):∀(l l':List Value) (off i:Nat) (g:Nat->Option OB) (w:World) (tr:T Value),
 HR P W φ g w->g b=some (.cells n tr el)->LR φ l l'->l.all au=true->off+i+l.length<=n->
 ∃w',(storeCells ⟨e.r,off,none⟩ l' i).run P w= .ok () w'/\HR P W φ (lQ g b (some (.cells n (dB l (off+i) tr) el))) w'
 | [],l',off,i,g,w,tr,hH,hg,hl,_,_=>by
   cases hl.jI;exact⟨w,rfl,by rw[qj,Ck g b _ hg];exact hH⟩
 | v::l,l',off,i,g,w,tr,hH,hg,hl,ho,hn=>by
   obtain⟨v',m,rfl,h1,h2⟩:=hl.inv;have ho':au v=true/\l.all au=true:=by simpa using ho
   have hlen:off+i+(l.length+1)<=n:=hn;have hS:=hH.store hg hb (j:=off+i) (by omega) h1;obtain⟨c,el',hr,iV,hnn,hc⟩:=hH.cells hg hb;obtain⟨w',hrun,hH'⟩:=eE hb l m off (i+1) _ _ (set tr (bits (off+i)) (some v)) hS (cf _ _ _) h2 ho'.2 (by omega);refine⟨w',?_,?_⟩
   . have hcell:w.cell? ⟨e.r,off+i,none⟩=some c[off+i]:=by rw[cell_of_row w e.r _ c el' _ hr];exact Array.getElem?_eq_getElem (by omega)
     simp only[storeCells,Sem.run_bind,cK,run_store P w _ _ _ (h1.au ho'.1),hcell,frozen_of_row w e.r _ c el' hr,Bool.false_eq_true,if_false,Result.andThen_ok];exact hrun
   . rw[kR]at hH';rw[n_];exact hH'
end
section
variable {P:Program}{W w:World}{φ:bZ}{H:T OB}{tm:T Value}{ρ:Operand->Value}{g:Nat->Option OB}
def gB (P:Program)(W:World)(φ:bZ)(H:T OB)(w:World)(r:Result Next)(v:Value)(H':T OB)(nx':Nat):Prop:=
 ∃φ' v' w' x,r= .ok x w'/\(x= .value v'\/(x= .skip/\v'=undef))/\VR φ' v v'/\φ.le φ'/\HR P W φ' (hp H') w'/\φ'.length=nx'/\dW φ φ' (hp H) (hp H')
theorem qu (l:List Value)(i:Nat)(hi:i<l.length):(dB l 0 .leaf).get (bits i)=l[i]? := by
 rw[cS,if_pos (by omega)];rfl
theorem rE {l l':List Value}(hl:LR φ l l')(e e':TypeId)(rest:Array Value){es:Nat}(hes:∀z,a6 P e=some z->es=z)(hb:Below W.heap.size W w):
 ui P W φ (cu l e) ⟨w.heap.size,(l'.toArray++rest).size,es,none⟩ (w.alloc (.cells (l'.toArray++rest) e')):=by
 refine⟨hb.size,⟨_,e',Go.heap_alloc_new w _,rfl,by simp[hl.len],λi hi v hv=> ?_⟩,hes⟩;rw[qu l i hi]at hv;obtain⟨v',h1,h2⟩:=hl.get hv;refine⟨v',?_,h2⟩;have hi':i<l'.toArray.size:=by simp;rw[<- hl.len];exact hi
 rw[Array.getElem?_append_left hi'];simpa using h1
theorem xP (hH:HR P W φ (hp H) w){l l':List Value}(hl:LR φ l l')(e e':TypeId){r:Result Next}{nx:Nat}(bM:φ.length=nx){mk:Nat->Value}{mk':Addr->Value}
 (hr:r= .ok (.value (mk' ⟨w.heap.size,0,none⟩)) (w.alloc (.cells l'.toArray e')))
 (hv:∀ ψ:bZ,∀en:fp,ψ[nx]? = some (some en)->VR ψ (mk nx) (mk' ⟨en.r,0,none⟩)):
 gB P W φ H w r (mk nx) (set H (bits nx) (some (cu l e))) (nx+1):=by
 subst bM;refine⟨fresh φ w.heap.size (l'.toArray++#[]).size ((a6 P e).getD 0),_,_,_,hr,.inl rfl,?_,jh _ _ _ _,?_,gR _ _ _ _,?_⟩
 . exact hv _ _ (gS _ _ _ _)
 . rw[bu];have:=hH.fresh (.cells (l'.toArray++#[]) e') (rE (P:=P) hl e e' #[] (es:=(a6 P e).getD 0) (λz hz=>by rw[hz];rfl) hH.below);rw[Array.append_empty]at this;rw[Array.append_empty];exact this
 . rw[bu];exact fK _ _ _ _ _ _
theorem bP {α:Type}{x:Option α}{k:α->dI}{v:Value}{H':T OB}{nx':Nat}(h:aa x k .bad= .val v H' nx'):∃a,x=some a/\k a= .val v H' nx':=by
 cases x with
 | none=>cases h
 | some a=>exact⟨a,rfl,h⟩
theorem cD {b:Bool}{x:dI}{v:Value}{H':T OB}{nx':Nat}(h:(bif b then x else .bad)= .val v H' nx'):b=true/\x= .val v H' nx':=by
 cases b
 . cases h
 . exact⟨rfl,h⟩
theorem ox {x:Option Value}{k:Nat->Nat->dI}{v:Value}{H':T OB}{nx':Nat}(h:tQ x k .bad= .val v H' nx'):
 ∃b off,x=some (.pointer (some ⟨b,off,none⟩))/\k b off= .val v H' nx':=by
 unfold tQ at h;split at h
 . exact⟨_,_,rfl,h⟩
 . cases h
theorem oy {x:Option OB}{k:Nat->T Value->TypeId->dI}{v:Value}{H':T OB}{nx':Nat}(h:dh x k .bad= .val v H' nx'):
 ∃n t e,x=some (.cells n t e)/\k n t e= .val v H' nx':=by
 unfold dh at h;split at h
 . exact⟨_,_,_,rfl,h⟩
 . cases h
theorem gh {t:TypeId}{k:TypeId->Nat->dI}{v:Value}{H':T OB}{nx':Nat}(h:cV P t k .bad= .val v H' nx'):
 ∃e s,P.underlying t=some (.slice e)/\a6 P e=some s/\k e s= .val v H' nx':=by
 unfold cV at h;split at h
 . rename_i e he;obtain⟨s,h1,h2⟩:=bP h;exact⟨e,s,he,h1,h2⟩
 . cases h
section ops
variable {o:Oper}{v:Value}{H':T OB}{nx nx':Nat}
theorem Cl (hH:HR P W φ (hp H) w)(bM:φ.length=nx){e:TypeId}(ho:o.op= .alloc e)(h:aA P H nx e= .val v H' nx'):
 gB P W φ H w ((execOp ρ o).run P w) v H' nx':=by
 unfold aA at h;obtain⟨l,hz,h⟩:=bP h;rw[dD]at h;cases h;obtain⟨i,z,hi,hz2,hl,hf⟩:=eY hz;refine xP (mk:=iN) (mk':=λa=> .pointer (some a)) hH (LR.of_flat hf) e e bM ?_ (fun ψ en h=> .ptr h);subst hl;simp[execOp,ho,Instr.alloc,zeroValue,typeInfo,hi,hz2,newVar,newRow]
theorem JX (hH:HR P W φ (hp H) w)(bM:φ.length=nx){e:TypeId}{x:Operand}(ho:o.op= .box e x)(hE:∀v,br P tm x=some v->VR φ v (ρ x))
 (h:ja H nx e (br P tm x)= .val v H' nx'):gB P W φ H w ((execOp ρ o).run P w) v H' nx':=by
 unfold ja at h;obtain⟨u,hu,h⟩:=bP h;rw[dD]at h;cases h;refine xP (mk:=iN) (mk':=λa=> .pointer (some a)) hH (hE u hu).cells e e bM ?_ (fun ψ en h=> .ptr h);simp[execOp,ho,Instr.box,newVar,newRow]
theorem um (hH:HR P W φ (hp H) w)(bM:φ.length=nx){t:TypeId}{a x:Operand}(ho:o.op= .store t a x)(hE:lJ P φ tm ρ [a,x])
 (h:aj P H nx t (br P tm a) (br P tm x)= .val v H' nx'):gB P W φ H w ((execOp ρ o).run P w) v H' nx':=by
 unfold aj at h;obtain⟨b,off,ha,h⟩:=ox h;obtain⟨u,hu,h⟩:=bP h;obtain⟨n,tr,el,hg,h⟩:=oy h;obtain⟨s,hs,h⟩:=bP h;obtain⟨hc,h⟩:=cD h;rw[cC,aY]at h;cases h;simp only[Bool.and_eq_true]at hc;have h1:=beq_eq hc.1.1;have h2:=cg hc.1.2;obtain⟨e,hb,_,hpa⟩:=(hE a (by simp) _ ha).dC;have hcells:=(hE x (by simp) _ hu).cells;obtain⟨w',hrun,hH'⟩:=eE hb u.cells.toList (ρ x).cells.toList off 0 (hp H) w tr hH hg hcells hc.2 (by rw[h1];omega);refine⟨φ,undef,w',.skip,?_,.inr ⟨rfl,rfl⟩,.flat _ rfl,φ.le_refl,?_,bM,?_⟩
 . have iV:(ρ x).cells.size=s:=by have:=hcells.len;simp at this h1;omega
   simp only[execOp,ho,hpa,Instr.storeAt,Instr.sureAddr,Sem.run_bind,Sem.run_pure,Result.andThen_ok,storeVar,bO hs,iV];simp[hrun]
 . rw[bu];exact hH'
 . intro k hk;refine⟨hk,?_⟩;rw[bu,aX];intro q;subst q;rw[hb]at hk;cases hk
theorem kS {z:List Value}(hz:∀x∈z,flat x=true)(n:Nat):∀x∈(bz z n).toList,flat x=true:=by
 intro x hx;simp only[bz,Array.toList_map,List.mem_map]at hx;obtain⟨i,_,rfl⟩:=hx
 by_cases hi:i%z.toArray.size<z.toArray.size
 . rw[getElem!_pos z.toArray _ hi];exact hz _ (by simp)
 . rw[getElem!_neg z.toArray _ hi];rfl
theorem pV (hH:HR P W φ (hp H) w)(bM:φ.length=nx){t:TypeId}{len:Nat}{ps:Array (Nat×Operand)}(ho:o.op= .buildSlice t len ps)(hE:lJ P φ tm ρ o.op.operands.toList)
 (h:aq P H nx t len (parts P tm ps.toList)= .val v H' nx'):gB P W φ H w ((execOp ρ o).run P w) v H' nx':=by
 unfold aq at h;obtain⟨vs,hvs,h⟩:=bP h;obtain⟨e,s,hu,hs,h⟩:=gh h;obtain⟨z,hz,h⟩:=bP h;obtain⟨hc,h⟩:=cD h;obtain⟨cells,hf,h⟩:=bP h;rw[dD,a5]at h;cases h;simp only[Bool.and_eq_true]at hc;have h1:=cg hc.1.1;have h2:=dJ hc.1.2;obtain⟨i,z',hi,hz',hl,hfl⟩:=eY hz;have hp:PR φ vs (ps.toList.map λp=>(p.1,ρ p.2)):=kP ps.toList vs (λp hp=>hE p.2 (by
  rw[ho];show p.2∈((ps.toList.map (·.2)).toArray).toList;simp only[List.toList_toArray];exact List.mem_map.2 ⟨p,hp,rfl⟩)) hvs
 obtain⟨cells',hf',hLR⟩:=nd (λi=>some (i*s,s)) hp _ (bz z (len*s)) cells (LR.of_flat (kS hfl _)) hf;refine xP (mk:=λk=> .slice (some ⟨k,0,none⟩) len len) (mk':=λa=> .slice (some a) len len) hH hLR e e bM ?_ (fun ψ en h=> ?_)
 . have hzc:z.toArray=z'.cells:=by rw[<- hl]
   have hf'':Instr.fill (λi=>some (i*s,s)) (Array.map (λx=>z'.cells[x%z'.cells.size]!) (Array.range (len*s))) (ps.toList.map λp=>(p.1,ρ p.2))=some cells':=by
    rw[<- hzc];exact hf'
   have e24:(2:Nat)^24=16777216:=by decide
   have hne:¬(len*s>2^24):=by rw[e24];omega
   have hne0:¬(len*s=0):=by omega
   simp only[execOp,ho,Instr.buildSlice,Sem.run_bind,bh hu,Result.andThen_ok,bO hs,if_neg hne,if_neg hne0,Sem.run_pure];have hzr:(zeroValue e).run P w= .ok z' w:=by simp[zeroValue,typeInfo,hi,hz']
   simp[hzr,hf'',newRow]
 . refine .slice h (.inl ⟨?_,rfl⟩);have:len<=len*s:=Nat.le_mul_of_pos_right len (Nat.pos_of_ne_zero (λq=>by rw[q]at h2;simp at h2));unfold dP;omega
theorem uo {n:Nat}(h:n<=274877906944):IntKind.i64.wrap (n:Int)=n:=by
 unfold IntKind.wrap;have:IntKind.i64.bits=64:=rfl;have:IntKind.i64.signed=true:=rfl;simp only[*,Bool.true_and];have e1:(n:Int)%2^64=n:=Int.emod_eq_of_lt (by omega) (by omega);rw[e1];rw[if_neg (by simp;omega)]
theorem fg (z:List Value):∀n,(dQ z n).length=n*z.length
 | 0=>by simp[dQ]
 | n+1=>by rw[dQ,List.length_append,fg z n,Nat.succ_mul];omega
theorem kT (z:List Value):∀n i,i<n*z.length->(dQ z n)[i]? = z[i%z.length]?
 | 0,i,h=>by omega
 | n+1,i,h=>by
   rw[dQ]
   by_cases hi:i<z.length
   . rw[List.getElem?_append_left hi,Nat.mod_eq_of_lt hi]
   . rw[List.getElem?_append_right (by omega),kT z n _ (by rw[Nat.succ_mul]at h;omega)];rw[<- Nat.mod_eq_sub_mod (by omega)]
theorem xQ {z:List Value}(hz:0<z.length)(n:Nat):(bz z (n*z.length))=(dQ z n).toArray:=by
 apply Array.ext
 . simp[bz,fg]
 . intro i h1 h2;simp only[bz,Array.size_map,Array.size_range]at h1;have hm:i%z.length<z.length:=Nat.mod_lt _ hz;have h3:=kT z n i h1;rw[List.getElem?_eq_getElem hm,List.getElem?_eq_getElem (by rw[fg];exact h1)]at h3;injection h3 with h3
   simp only[bz,Array.getElem_map,Array.getElem_range,List.getElem_toArray,List.size_toArray];rw[h3,getElem!_pos z.toArray _ (by simpa using hm)];simp
theorem run_makeSlice {t e:TypeId}{i:TypeInfo}{z':Value}{l c:Operand}{ln cn:Nat}(ho:o.op= .makeSlice t l c)(hρl:ρ l= .int .i64 (.ofNat ln))(hρc:ρ c= .int .i64 (.ofNat cn))(hu:P.underlying t=some (.slice e))
 (hi:P.info? e=some i) (hz':i.zero=some z') (iV:i.size=z'.cells.size) (h0:0<i.size) (h1:ln<=cn) (h2:i.bytes*cn<=281474976710656) (h3:cn<=274877906944) (w:World):
 (execOp ρ o).run P w= .ok (.value (.slice (some ⟨w.heap.size,0,none⟩) ln cn)) (w.alloc (.cells (bz z'.cells.toList (cn*i.size)) e)):=by
 have hs:a6 P e=some i.size:=by unfold a6;rw[hi]
 have hzr:∀w,(zeroValue e).run P w= .ok z' w:=λw=>by simp[zeroValue,typeInfo,hi,hz']
 have w1:=uo (n:=ln) (by omega);have w2:=uo (n:=cn) h3;have b1:¬((i.bytes:Int)*(cn:Int)>2^48):=by
  have:(i.bytes:Int)*(cn:Int)=((i.bytes*cn:Nat):Int):=by simp
  rw[this];omega
 have hcond:(decide ((cn:Int)<0)||decide ((i.bytes:Int)*(cn:Int)>2^48)||decide ((ln:Int)<0)||decide ((ln:Int)>(cn:Int)))=false:=by
  simp only[Bool.or_eq_false_iff,decide_eq_false_iff_not];exact⟨⟨⟨by omega,b1⟩,by omega⟩,by omega⟩
 simp only[execOp,ho,Instr.makeSlice,Sem.run_bind,bh hu,Result.andThen_ok,hρl,hρc,asInt,asIntOf,Sem.run_pure,typeInfo,run_program,hi,Int.ofNat_eq_natCast,w1,w2];simp only[hcond]
 by_cases hc0:cn=0
 . subst hc0;have e0:Array.range 0=#[]:=Array.ext' (by simp);simp[bO hs,newRow,bz,e0]
 . have hne:¬(cn*i.size=0):=λq=>by
    rcases Nat.mul_eq_zero.1 q with q | q<;>omega
   simp[bO hs,newRow,bz,hzr];exact λq=>absurd q hne
theorem Mo (hH:HR P W φ (hp H) w)(bM:φ.length=nx){t:TypeId}{l c:Operand}(ho:o.op= .makeSlice t l c){e:TypeId}(hu:P.underlying t=some (.slice e)){ln cn:Nat}(hρl:ρ l= .int .i64 (.ofNat ln))(hρc:ρ c= .int .i64 (.ofNat cn))
 (h:A8 P H nx e ln cn= .val v H' nx'):gB P W φ H w ((execOp ρ o).run P w) v H' nx':=by
 unfold A8 at h;split at h
 case h_2=>cases h
 rename_i i z hi hz;obtain⟨hb,h⟩:=cD h;simp only[Bool.and_eq_true]at hb;have h1:=cg hb.1.1.1.1;have h2:=cg hb.1.1.1.2;have h3:=cg hb.1.1.2;have h4:=beq_eq hb.1.2;have h0:=dJ hb.2;subst bM;obtain⟨i',z',hi',hz',hzl,hfl⟩:=eY hz;rw[hi]at hi';cases hi';have iV:i.size=z'.cells.size:=by rw[h4,<- hzl];simp
 have hs:a6 P e=some i.size:=by unfold a6;rw[hi]
 have hrun:=run_makeSlice (P:=P) (ρ:=ρ) ho hρl hρc hu hi hz' iV h0 h1 h2 h3 w;rw[hzl,h4]at hrun;split at h
 . rename_i z0 hb0;rw[aY,a5]at h;cases h;have hfull:∀k,k<cn->(full 40 z0).get (bits k)=some z0:=λk hk=>n9 z0 40 _ (ub (by
    have:(2:Nat)^40=1099511627776:=by decide
    omega))
   rw[xQ (by simp)]at hrun;refine⟨fresh φ w.heap.size (dQ [z0] cn).toArray.size 1,_,_,_,hrun,.inl rfl,.slice (gS _ _ _ _) (.inl ⟨by unfold dP;omega,rfl⟩),jh _ _ _ _,?_,gR _ _ _ _,?_⟩
   . rw[bu];refine hH.fresh _ ⟨hH.below.size,⟨_,e,Go.heap_alloc_new w _,rfl,by simp[fg],λk hk v hv=> ?_⟩,λy hy=>by rw[hs]at hy;cases hy;rw[h4];rfl⟩;rw[hfull k hk]at hv;cases hv;refine⟨z0,?_,.flat z0 (hfl z0 (by simp))⟩;rw[List.getElem?_toArray,kT [z0] cn k (by simpa using hk)];simp[Nat.mod_one]
   . rw[bu];exact fK _ _ _ _ _ _
 . obtain⟨hbig,h⟩:=cD h;rw[dD]at h;cases h;rw[xQ (by omega)]at hrun;exact xP (mk:=λk=> .slice (some ⟨k,0,none⟩) ln cn) (mk':=λa=> .slice (some a) ln cn) hH (LR.of_flat (l:=dQ z cn) (λx hx=>by
    obtain⟨k,hk,rfl⟩:=List.mem_iff_getElem.1 hx;have hk':=hk;rw[fg]at hk';have h5:=kT z cn k hk';rw[List.getElem?_eq_getElem hk]at h5;exact hfl _ (List.mem_of_getElem? h5.symm))) e e rfl hrun (fun ψ en hen=> .slice hen (.inl ⟨by unfold dP;omega,rfl⟩))
theorem qv {i:Int}{k:Nat->dI}{v:Value}{H':T OB}{nx':Nat}(h:gb i k .bad= .val v H' nx'):∃n:Nat,i= .ofNat n/\k n= .val v H' nx':=by
 cases i with
 | ofNat n=>exact⟨n,rfl,(a5 n k).symm.trans h⟩
 | negSucc n=>cases h
theorem rF (hH:HR P W φ (hp H) w)(bM:φ.length=nx){t:TypeId}{l c:Operand}(ho:o.op= .makeSlice t l c)(hE:lJ P φ tm ρ [l,c])
 (h:fe P H nx t (br P tm l) (br P tm c)= .val v H' nx'):gB P W φ H w ((execOp ρ o).run P w) v H' nx':=by
 unfold fe at h;split at h
 case h_2=>cases h
 rename_i ln0 cn0 e hl hc hu;obtain⟨ln,rfl,h1⟩:=qv h;obtain⟨cn,rfl,h2⟩:=qv h1;exact Mo hH bM ho hu ((hE l (by simp) _ hl).aB rfl) ((hE c (by simp) _ hc).aB rfl) h2
end ops
end
end
end Go.Ev
