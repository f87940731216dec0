/- An evaluator of closed runs: its definitions. It runs a call whose arguments hold no address, block numbers told from the run's own start; nothing is proved here. -/
import Derived.Orders
import Derived.Laws.Tables
import Derived.Below
namespace Go.Ev
noncomputable section

/-! tries -/
inductive T (α : Type) where
  | leaf
  | node (x : Option α) (l r : T α)

def bitsF (f : Nat) : Nat → List Bool :=
  @Nat.rec (fun _ => Nat → List Bool) (fun _ => [])
    (fun _ ih k => Nat.casesOn k [] fun m => Nat.casesOn (Nat.mod m 2) (false :: ih (Nat.div m 2)) fun _ => true :: ih (Nat.div m 2)) f
def bits (k : Nat) : List Bool := bitsF k k

def T.get {α : Type} (bs : List Bool) : T α → Option α :=
  @List.rec Bool (fun _ => T α → Option α) (fun t => @T.rec α (fun _ => Option α) none (fun x _ _ _ _ => x) t)
    (fun b _ ih t => @T.rec α (fun _ => Option α) none (fun _ l r _ _ => @Bool.rec (fun _ => Option α) (ih l) (ih r) b) t) bs

def setK {α β : Type} (bs : List Bool) : T α → Option α → (T α → β) → β :=
  @List.rec Bool (fun _ => T α → Option α → (T α → β) → β)
    (fun t v k => @T.rec α (fun _ => β) (k (.node v .leaf .leaf)) (fun _ l r _ _ => k (.node v l r)) t)
    (fun b _ ih t v k => @Bool.rec (fun _ => β)
      (@T.rec α (fun _ => β) (ih .leaf v fun l' => k (.node none l' .leaf)) (fun x l r _ _ => ih l v fun l' => k (.node x l' r)) t)
      (@T.rec α (fun _ => β) (ih .leaf v fun r' => k (.node none .leaf r')) (fun x l r _ _ => ih r v fun r' => k (.node x l r')) t) b) bs

def full {α : Type} : Nat → α → T α
  | 0, _ => .leaf
  | d + 1, v => .node (some v) (full d v) (full d v)

def fromLK {α β : Type} (l : List α) : Nat → T α → (T α → β) → β :=
  @List.rec α (fun _ => Nat → T α → (T α → β) → β) (fun _ t k => k t)
    (fun v _ ih i t k => setK (bits i) t (some v) fun t' => ih (Nat.succ i) t' k) l

/-- 'n' cells from 'i' on. -/
def toL {α : Type} (t : T α) (n : Nat) : Nat → Option (List α) :=
  @Nat.rec (fun _ => Nat → Option (List α)) (fun _ => some [])
    (fun _ ih i => Option.casesOn (t.get (bits i)) none fun v => Option.casesOn (ih (Nat.succ i)) none fun l => some (v :: l)) n

/-- 'if' at a Bool. -/
def bK {β : Type} (b : Bool) (x y : β) : β := @Bool.rec (fun _ => β) y x b
/-! forced values -/
def natF {β : Type} (n : Nat) (k : Nat → β) : β := match n with | 0 => k 0 | m + 1 => k (Nat.succ m)
def intF {β : Type} (n : Int) (k : Int → β) : β := match n with | .ofNat m => natF m fun m => k (.ofNat m) | .negSucc m => natF m fun m => k (.negSucc m)
def kindF {β : Type} (i : IntKind) (k : IntKind → β) : β :=
  match i with | .i8 => k .i8 | .i16 => k .i16 | .i32 => k .i32 | .i64 => k .i64 | .u8 => k .u8 | .u16 => k .u16 | .u32 => k .u32 | .u64 => k .u64
def boolF {β : Type} (b : Bool) (k : Bool → β) : β := match b with | true => k true | false => k false
def addrF {β : Type} (a : Addr) (k : Addr → β) : β := match a with
  | ⟨b, o, none⟩ => natF b fun b => natF o fun o => k ⟨b, o, none⟩
  | ⟨b, o, some s⟩ => k ⟨b, o, some s⟩
def valF1 {β : Type} (v : Value) (k : Value → β) : β := match v with
  | .bool b => boolF b fun b => k (.bool b)
  | .int i n => kindF i fun i => intF n fun n => k (.int i n)
  | .pointer none => k (.pointer none)
  | .pointer (some a) => addrF a fun a => k (.pointer (some a))
  | .slice none l c => natF l fun l => natF c fun c => k (.slice none l c)
  | .slice (some a) l c => addrF a fun a => natF l fun l => natF c fun c => k (.slice (some a) l c)
  | v => k v
def listF {β : Type} : List Value → (List Value → β) → β
  | [], k => k []
  | v :: l, k => valF1 v fun v => listF l fun l => k (v :: l)
def valF {β : Type} (v : Value) (k : Value → β) : β := match v with
  | .agg ⟨l⟩ => listF l fun l => k (.agg ⟨l⟩)
  | .tuple ⟨l⟩ => listF l fun l => k (.tuple ⟨l⟩)
  | v => valF1 v k

/-- No address in it. -/
def flatN : Nat → Value → Bool
  | 0, _ => false
  | n + 1, v => match v with
    | .bool _ => true
    | .int _ _ => true
    | .float _ _ => true
    | .complex _ _ _ => true
    | .string _ => true
    | .pointer a => match a with | none => true | some _ => false
    | .slice a _ _ => match a with | none => true | some _ => false
    | .map r => match r with | none => true | some _ => false
    | .chan r => match r with | none => true | some _ => false
    | .nilFunc => true
    | .nilIface => true
    | .iface _ v => flatN n v
    | .agg c => c.toList.all (flatN n)
    | .tuple c => c.toList.all (flatN n)
    | .func _ a b => a.toList.isEmpty && b.toList.isEmpty
def flat (v : Value) : Bool := flatN 5 v

/-- The capacity of what an append made. -/
def unk : Nat := 9223372036854775808

/-! memory -/
inductive OB where
  | cells (n : Nat) (t : T Value) (elem : TypeId)
  | ro (n : Nat) (t : T Value)
  | dead
  | map (es : List MapEntry) (clock : Nat)
  | iter (m : Option Nat) (since : Nat) (seen : List Nat) (last : Nat)

/-- A run of 'Sem' that looks at no world. -/
def pureRun {α : Type} (P : Program) : Sem α → Option α
  | .pure a => some a
  | .program k => pureRun P (k P)
  | .mark _ k => pureRun P k
  | _ => none

def eva (P : Program) (tm : T Value) : Operand → Option Value
  | .tmp t => tm.get (bits t)
  | .const v => bif flat v then some v else none
  | .global g => bif Nat.blt g P.globals.size then some (.pointer (some ⟨g, 0, none⟩)) else none
  | .func f => some (.func (.func f) #[] #[])

def szOf (P : Program) (t : TypeId) : Option Nat := match P.info? t with | some i => some i.size | none => none
def aggQ (P : Program) (t : TypeId) : Option Bool := match P.underlying t with
  | some (.struct _) => some true
  | some (.array _ _) => some true
  | some _ => some false
  | none => none
def zeroC (P : Program) (t : TypeId) : Option (List Value) := match P.info? t with
  | some i => match i.zero with
    | some v => bif v.cells.toList.all flat then some v.cells.toList else none
    | none => none
  | none => none

def oneCell : Value → Bool
  | .agg _ => false
  | .tuple _ => false
  | _ => true

/-- The operands of an operation, each without an address. -/
def evs (P : Program) (tm : T Value) : List Operand → Option (List Value)
  | [] => some []
  | x :: l => match eva P tm x with
    | none => none
    | some v => match evs P tm l with
      | none => none
      | some vs => some (v :: vs)
def flatAt (P : Program) (tm : T Value) (x : Operand) : Bool := match eva P tm x with | some v => flat v | none => false
def allFlat (P : Program) (tm : T Value) (l : List Operand) : Bool := l.all (flatAt P tm)

def ρof (P : Program) (tm : T Value) (x : Operand) : Value := match eva P tm x with | some v => v | none => undef

def optK {α β : Type} (x : Option α) (k : α → β) (bad : β) : β := @Option.rec α (fun _ => β) bad k x
def ptrK {β : Type} (v : Option Value) (k : Nat → Nat → β) (bad : β) : β := match v with
  | some (.pointer (some ⟨b, off, none⟩)) => k b off
  | _ => bad
def cellsK {β : Type} (x : Option OB) (k : Nat → T Value → TypeId → β) (bad : β) : β := match x with
  | some (.cells n t e) => k n t e
  | _ => bad
def rowK {β : Type} (x : Option OB) (k : Nat → T Value → β) (bad : β) : β := match x with
  | some (.cells n t _) => k n t
  | some (.ro n t) => k n t
  | _ => bad
def sliceTK {β : Type} (P : Program) (t : TypeId) (k : TypeId → Nat → β) (bad : β) : β := match P.underlying t with
  | some (.slice e) => optK (szOf P e) (fun s => k e s) bad
  | _ => bad

def load1 (n : Nat) (tr : T Value) (off : Nat) : Option Value := bif Nat.blt off n then tr.get (bits off) else none
def loadA (P : Program) (n : Nat) (tr : T Value) (t : TypeId) (off : Nat) : Option Value :=
  optK (szOf P t) (fun s => bif Nat.ble (off + s) n then optK (toL tr s off) (fun l => some (.agg ⟨l⟩)) none else none) none
def loadB (P : Program) (n : Nat) (tr : T Value) (t : TypeId) (off : Nat) : Option Value :=
  optK (aggQ P t) (fun a => bif a then loadA P n tr t off else load1 n tr off) none
def loadO (P : Program) (H : T OB) (t : TypeId) (b off : Nat) : Option Value :=
  rowK (H.get (bits b)) (fun n tr => loadB P n tr t off) none

def parts (P : Program) (tm : T Value) : List (Nat × Operand) → Option (List (Nat × Value))
  | [] => some []
  | p :: l => match eva P tm p.2 with
    | none => none
    | some v => match parts P tm l with
      | none => none
      | some vs => some ((p.1, v) :: vs)

/-- The bound of a slice expression. -/
def boundV (v : Option Value) : Option Nat := match v with
  | some (.int _ (.ofNat n)) => some n
  | _ => none
def bound (P : Program) (tm : T Value) (x : Option Operand) (d : Nat) : Option Nat := match x with
  | none => some d
  | some x => boundV (eva P tm x)

def nextV (r : Option Next) : Option Value := match r with
  | some (.value v) => valF v fun v => bif flat v then some v else none
  | _ => none
def flatRun (P : Program) (tm : T Value) (o : Oper) : Option Value :=
  bif allFlat P tm o.op.operands.toList then nextV (pureRun P (execOp (ρof P tm) o)) else none

/-- Something against nil: are they equal? -/
def nilCmp (d : TypeDesc) (x y : Value) : Option Bool := match d, x, y with
  | .pointer _, .pointer (some _), .pointer none => some false
  | .pointer _, .pointer none, .pointer (some _) => some false
  | .slice _, .slice (some _) _ _, .slice none _ _ => some false
  | .slice _, .slice none _ _, .slice (some _) _ _ => some false
  | .map _ _, .map (some _), .map none => some false
  | .map _ _, .map none, .map (some _) => some false
  | .interface _, .iface _ _, .nilIface => some false
  | .interface _, .nilIface, .iface _ _ => some false
  | _, _, _ => none

def rdPick (P : Program) (tm : T Value) (c a b : Operand) : Option Value := match eva P tm c with
  | some (.bool x) => match x with | true => eva P tm a | false => eva P tm b
  | _ => none
def rdNil (v : Option Value) : Option Value := match v with
  | some (.pointer (some a)) => some (.pointer (some a))
  | some (.func (.func g) a b) => some (.func (.func g) a b)
  | some (.iface t v) => some (.iface t v)
  | _ => none
def fieldOff (P : Program) (s : TypeId) (f : Nat) : Option Nat := match P.underlying s with
  | some (.struct fs) => match fs[f]? with
    | some fd => match szOf P fd.type with
      | some (_ + 1) => some fd.offset
      | _ => none
    | none => none
  | _ => none
def rdFieldAddr (P : Program) (tm : T Value) (s : TypeId) (x : Operand) (f : Nat) : Option Value :=
  ptrK (eva P tm x) (fun b off => optK (fieldOff P s f) (fun d => natF (Nat.add off d) fun o => some (.pointer (some ⟨b, o, none⟩))) none) none
def arrTK {β : Type} (P : Program) (t : TypeId) (k : Nat → Nat → β) (bad : β) : β := match P.underlying t with
  | some (.array len e) => optK (szOf P e) (fun s => k len s) bad
  | _ => bad
def rdIndexAddr (P : Program) (t : TypeId) (x ix : Option Value) : Option Value := match x, ix with
  | some (.slice (some ⟨b, off, none⟩) len _), some (.int _ (.ofNat i)) =>
    sliceTK P t (fun _ s => bif Nat.blt i len then natF (Nat.add off (Nat.mul i s)) (fun o => some (.pointer (some ⟨b, o, none⟩))) else none) none
  | some (.pointer (some ⟨b, off, none⟩)), some (.int _ (.ofNat i)) =>
    arrTK P t (fun len s => bif Nat.blt i len then natF (Nat.add off (Nat.mul i s)) (fun o => some (.pointer (some ⟨b, o, none⟩))) else none) none
  | _, _ => none
def rdIndex (P : Program) (tm : T Value) (o : Oper) (t : TypeId) (x ix : Option Value) : Option Value := match x, ix with
  | some (.agg cs), some (.int _ (.ofNat i)) => (match P.underlying t with
    | some (.array len e) => bif Nat.blt i len then (match aggQ P e with
      | some true => match szOf P e with
        | some s => bif Nat.ble (i * s + s) cs.toList.length then some (.agg ⟨(cs.toList.drop (i * s)).take s⟩) else none
        | none => none
      | some false => match szOf P e with
        | some s => cs.toList[i * s]?
        | none => none
      | none => none) else none
    | _ => none)
  | _, _ => flatRun P tm o
def rdExtract (v : Option Value) (i : Nat) : Option Value := match v with
  | some (.tuple vs) => vs.toList[i]?
  | _ => none
def fieldIn (P : Program) (t : TypeId) (f : Nat) : Option (Nat × Option Nat) := match P.underlying t with
  | some (.struct fs) => match fs[f]? with
    | some fd => match aggQ P fd.type with
      | some true => match szOf P fd.type with
        | some s => some (fd.offset, some s)
        | none => none
      | some false => some (fd.offset, none)
      | none => none
    | none => none
  | _ => none
def rdField (P : Program) (t : TypeId) (v : Option Value) (f : Nat) : Option Value := match v with
  | some (.agg cs) => match fieldIn P t f with
    | some (off, some s) => bif Nat.ble (off + s) cs.toList.length then some (.agg ⟨(cs.toList.drop off).take s⟩) else none
    | some (off, none) => cs.toList[off]?
    | none => none
  | _ => none
def sliceN (b off cap s l h : Nat) : Option Value :=
  bif Nat.ble l h && Nat.ble h cap && Nat.blt cap unk then
    natF (Nat.sub h l) fun n => (bif Nat.beq cap l then some (.slice (some ⟨b, off, none⟩) n 0) else natF (Nat.add off (Nat.mul l s)) fun o => natF (Nat.sub cap l) fun c => some (.slice (some ⟨b, o, none⟩) n c))
  else none
/-- The elements of a block are of this size. -/
def esIs (P : Program) (H : T OB) (b s : Nat) : Bool := cellsK (H.get (bits b)) (fun _ _ el => optK (szOf P el) (fun z => Nat.beq z s) false) false
def sliceU (P : Program) (H : T OB) (b off len s l h : Nat) : Option Value :=
  bif Nat.ble l h && Nat.ble h len then
    (bif Nat.beq l 0 then some (.slice (some ⟨b, off, none⟩) h unk)
     else bif Nat.blt l len && esIs P H b s then natF (Nat.sub h l) (fun n => natF (Nat.add off (Nat.mul l s)) fun o => some (.slice (some ⟨b, o, none⟩) n unk)) else none)
  else none
def rdSlice (P : Program) (H : T OB) (tm : T Value) (o : Oper) (t : TypeId) (x : Operand) (lo hi : Option Operand) : Option Value := match eva P tm x with
  | some (.slice (some ⟨b, off, none⟩) len cap) =>
    sliceTK P t (fun _ s => optK (bound P tm lo 0) (fun l => optK (bound P tm hi len) (fun h => bif Nat.beq cap unk then sliceU P H b off len s l h else sliceN b off cap s l h) none) none) none
  | some (.pointer (some ⟨b, off, none⟩)) =>
    arrTK P t (fun n s => optK (bound P tm lo 0) (fun l => optK (bound P tm hi n) (fun h => sliceN b off n s l h) none) none) none
  | _ => flatRun P tm o
def isSliceT (P : Program) (t : Option TypeId) : Bool := match t with
  | some t => match P.underlying t with
    | some (.slice _) => true
    | _ => false
  | none => false
def rdLen (P : Program) (tm : T Value) (o : Oper) (args : Array Operand) (ts : Array TypeId) : Option Value := match args.toList with
  | [x] => match eva P tm x with
    | some (.slice (some _) n _) => bif isSliceT P ts[0]? then some (.int .i64 (.ofNat n)) else none
    | _ => flatRun P tm o
  | _ => none
def rdCmp (P : Program) (op : BinOp) (t : TypeId) (a b : Value) : Option Value := match P.underlying t with
  | some d => match nilCmp d a b with
    | some r => (match op with
      | .eql => some (.bool r)
      | .neq => some (.bool (!r))
      | _ => none)
    | none => none
  | none => none
def isCells (H : T OB) (b : Nat) : Bool := cellsK (H.get (bits b)) (fun _ _ _ => true) false
/-- Two addresses: are they one? -/
def rdPtr (P : Program) (H : T OB) (op : BinOp) (t : TypeId) (a b : Value) : Option Value := match P.underlying t, a, b with
  | some (.pointer e), .pointer (some ⟨x, i, none⟩), .pointer (some ⟨y, j, none⟩) => match szOf P e with
    | some (_ + 1) => bif isCells H x && isCells H y then (match op with
      | .eql => some (.bool (Nat.beq x y && Nat.beq i j))
      | .neq => some (.bool (!(Nat.beq x y && Nat.beq i j)))
      | _ => none) else none
    | _ => none
  | _, _, _ => rdCmp P op t a b
def rdBin (P : Program) (H : T OB) (tm : T Value) (o : Oper) (op : BinOp) (t : TypeId) (x y : Operand) : Option Value :=
  optK (eva P tm x) (fun a => optK (eva P tm y) (fun b => bif flat a && flat b then nextV (pureRun P (execOp (ρof P tm) o)) else rdPtr P H op t a b) none) none
def rdBuild (P : Program) (tm : T Value) (t : TypeId) (ps : List (Nat × Operand)) : Option Value :=
  optK (parts P tm ps) (fun vs => optK (zeroC P t) (fun _ => optK (P.built t vs) (fun cs => valF (.agg cs) some) none) none) none
def rdIface (P : Program) (t : TypeId) (v : Option Value) : Option Value := match P.underlying t with
  | some (.interface _) => none
  | some _ => optK v (fun v => some (.iface t v)) none
  | none => none
def rdFunc (P : Program) (tm : T Value) (fn : Fn) (first cap : List Operand) : Option Value := match fn, first with
  | .func g, [] => optK (evs P tm cap) (fun l => some (.func (.func g) #[] ⟨l⟩)) none
  | _, _ => none
def zeroF (P : Program) (t : TypeId) : Option Value := match P.info? t with
  | some i => (match i.zero with | some z => bif flat z then some z else none | none => none)
  | none => none
def okV (ok : Bool) (v : Value) (b : Bool) : Value := bif ok then .tuple #[v, .bool b] else v
def notIface (P : Program) (t : TypeId) : Bool := match P.underlying t with
  | some (.interface _) => false
  | some _ => true
  | none => false
def rdAssert (P : Program) (v : Option Value) (t : TypeId) (ok : Bool) : Option Value := bif notIface P t then (match v with
    | some (.iface u x) => bif Nat.beq u t then some (okV ok x true) else bif ok then optK (zeroF P t) (fun z => some (.tuple #[z, .bool false])) none else none
    | some .nilIface => bif ok then optK (zeroF P t) (fun z => some (.tuple #[z, .bool false])) none else none
    | _ => none) else none
def keyKind (d : TypeDesc) : Bool := match d with
  | .int _ => true
  | .string => true
  | .bool => true
  | _ => false
def esOf (H : T OB) (m : Option Value) : Option (List MapEntry) := match m with
  | some (.map none) => some []
  | some (.map (some b)) => match H.get (bits b) with
    | some (.map es _) => some es
    | _ => none
  | _ => none
def mapTK {β : Type} (P : Program) (t : TypeId) (k : TypeDesc → TypeId → β) (bad : β) : β := match P.underlying t with
  | some (.map kt et) => optK (P.underlying kt) (fun d => bif keyKind d then k d et else bad) bad
  | _ => bad
def lookV (P : Program) (et : TypeId) (ok : Bool) (r : Option (Option (Nat × Value))) : Option Value := match r with
  | some (some (_, v)) => some (okV ok v true)
  | some none => optK (zeroF P et) (fun z => some (okV ok z false)) none
  | none => none
def rdLookup (P : Program) (H : T OB) (t : TypeId) (m k : Option Value) (ok : Bool) : Option Value :=
  mapTK P t (fun d et => optK (esOf H m) (fun es => optK k (fun k => lookV P et ok (Instr.findNow d k es 0)) none) none) none
def strOf (l : List Value) : Option (List UInt8) := match l with
  | [] => some []
  | .int .u8 (.ofNat n) :: l => match strOf l with | some r => some (n.toUInt8 :: r) | none => none
  | _ => none
def isBytesT (P : Program) (s d : TypeId) : Bool := match P.underlying s, P.underlying d with
  | some (.slice e), some .string => (match P.underlying e with | some (.int .u8) => true | _ => false)
  | _, _ => false
def rdConv (P : Program) (H : T OB) (tm : T Value) (o : Oper) (s d : TypeId) (x : Operand) : Option Value := match eva P tm x with
  | some (.slice (some ⟨b, off, none⟩) n _) => bif isBytesT P s d then rowK (H.get (bits b)) (fun m tr => bif Nat.ble (off + n) m then optK (toL tr n off) (fun l => optK (strOf l) (fun r => some (.string ⟨⟨r⟩⟩)) none) none else none) none else none
  | _ => flatRun P tm o
def rdCall (P : Program) (tm : T Value) (o : Oper) (c : Call) : Option Value := match c.callee with
  | .builtin .len => rdLen P tm o c.args c.argTypes
  | .builtin .max => flatRun P tm o
  | .builtin .min => flatRun P tm o
  | _ => none

/-- An operation that leaves memory as it is. -/
def rd (P : Program) (H : T OB) (tm : T Value) (o : Oper) : Option Value := match o.op with
  | .move x => eva P tm x
  | .assign x => eva P tm x
  | .pick c a b => rdPick P tm c a b
  | .load t x => ptrK (eva P tm x) (fun b off => loadO P H t b off) none
  | .nilCheck x => rdNil (eva P tm x)
  | .fieldAddr s x f => rdFieldAddr P tm s x f
  | .indexAddr t x ix => rdIndexAddr P t (eva P tm x) (eva P tm ix)
  | .extract x i => rdExtract (eva P tm x) i
  | .field t x f => rdField P t (eva P tm x) f
  | .slice t x lo hi mx => match mx with | none => rdSlice P H tm o t x lo hi | some _ => flatRun P tm o
  | .call c => rdCall P tm o c
  | .binOp op t x y _ => rdBin P H tm o op t x y
  | .build t ps => rdBuild P tm t ps.toList
  | .makeInterface t x => rdIface P t (eva P tm x)
  | .unOp _ _ _ => flatRun P tm o
  | .convert s d x => rdConv P H tm o s d x
  | .makeFunc fn a b => rdFunc P tm fn a.toList b.toList
  | .typeAssert x _ t ok => rdAssert P (eva P tm x) t ok
  | .lookup t m k ok => rdLookup P H t (eva P tm m) (eva P tm k) ok
  | .index t x ix => rdIndex P tm o t (eva P tm x) (eva P tm ix)
  | _ => none

/-- Does the operation leave memory as it is? -/
def isRd : Op → Bool
  | .move _ => true
  | .assign _ => true
  | .pick _ _ _ => true
  | .load _ _ => true
  | .nilCheck _ => true
  | .fieldAddr _ _ _ => true
  | .indexAddr _ _ _ => true
  | .extract _ _ => true
  | .field _ _ _ => true
  | .slice _ _ _ _ _ => true
  | .build _ _ => true
  | .makeInterface _ _ => true
  | .binOp _ _ _ _ _ => true
  | .unOp _ _ _ => true
  | .convert _ _ _ => true
  | .index _ _ _ => true
  | .makeFunc _ _ _ => true
  | .typeAssert _ _ _ _ => true
  | .lookup _ _ _ _ => true
  | .call c => match c.callee with
    | .builtin b => (match b with | .len => true | .max => true | .min => true | _ => false)
    | _ => false
  | _ => false

/-- A new variable: it can be made at any time. -/
def isAl : Op → Bool
  | .alloc _ => true
  | _ => false

def newK {β : Type} (H : T OB) (nx : Nat) (e : TypeId) (l : List Value) (k : T OB → Nat → β) : β :=
  fromLK l 0 .leaf fun t => natF l.length fun n => setK (bits nx) H (some (.cells n t e)) fun H => natF (Nat.succ nx) fun n => k H n

def callOk (P : Program) (f : FuncId) : Bool := match P.funcs[f]? with
  | some fn => fn.body.isSome && !(fn.name == "runtime.NumGoroutine")
  | none => false

/-- What an operation that is no reader comes to. -/
inductive Eff where
  | val (v : Value) (H : T OB) (nx : Nat)
  | call (f : FuncId) (args : List Value)
  | dfr (f : FuncId) (args : List Value)
  | pan (v : Value)
  | rcv
  | bad

def ptrAt (nx : Nat) : Value := .pointer (some ⟨nx, 0, none⟩)
def efAlloc (P : Program) (H : T OB) (nx : Nat) (e : TypeId) : Eff :=
  optK (zeroC P e) (fun l => newK H nx e l fun H n => .val (ptrAt nx) H n) .bad
def efBox (H : T OB) (nx : Nat) (e : TypeId) (v : Option Value) : Eff :=
  optK v (fun v => newK H nx e v.cells.toList fun H n => .val (ptrAt nx) H n) .bad
def efStore (P : Program) (H : T OB) (nx : Nat) (t : TypeId) (a v : Option Value) : Eff :=
  ptrK a (fun b off => optK v (fun v => cellsK (H.get (bits b)) (fun n tr e => optK (szOf P t) (fun s =>
    bif Nat.beq v.cells.toList.length s && Nat.ble (off + s) n && v.cells.toList.all oneCell then
      fromLK v.cells.toList off tr fun tr => setK (bits b) H (some (.cells n tr e)) fun H => .val undef H nx
    else .bad) .bad) .bad) .bad) .bad
def zeroRow (z : List Value) (n : Nat) : Array Value := (Array.range n).map (z.toArray[· % z.toArray.size]!)
def efBuildSlice (P : Program) (H : T OB) (nx : Nat) (t : TypeId) (len : Nat) (ps : Option (List (Nat × Value))) : Eff :=
  optK ps (fun vs => sliceTK P t (fun e s => optK (zeroC P e) (fun z =>
    bif Nat.ble (len * s) 16777216 && Nat.blt 0 (len * s) && Nat.blt 0 z.length then
      optK (Instr.fill (fun i => some (i * s, s)) (zeroRow z (len * s)) vs) (fun cells => newK H nx e cells.toList fun H n => natF len fun len => .val (.slice (some ⟨nx, 0, none⟩) len len) H n) .bad
    else .bad) .bad) .bad) .bad
def rowL (z : List Value) : Nat → List Value
  | 0 => []
  | n + 1 => z ++ rowL z n
def efMakeSlice (P : Program) (H : T OB) (nx : Nat) (t : TypeId) (l c : Option Value) : Eff := match l, c, P.underlying t with
  | some (.int .i64 (.ofNat l)), some (.int .i64 (.ofNat c)), some (.slice e) => match P.info? e, zeroC P e with
    | some i, some z =>
      bif Nat.ble l c && Nat.ble (i.bytes * c) 281474976710656 && Nat.ble c 274877906944 && Nat.beq i.size z.length && Nat.blt 0 i.size then (match z with
        | [z] => setK (bits nx) H (some (.cells c (full 40 z) e)) fun H => natF (Nat.succ nx) fun n => .val (.slice (some ⟨nx, 0, none⟩) l c) H n
        | z => bif Nat.ble (c * i.size) 40000 then newK H nx e (rowL z c) fun H n => .val (.slice (some ⟨nx, 0, none⟩) l c) H n else .bad)
      else .bad
    | _, _ => .bad
  | _, _, _ => .bad
def efGo (P : Program) (f : Option Value) (l : Option (List Value)) : Eff := match f with
  | some (.func (.func g) ⟨[]⟩ ⟨cap⟩) => optK l (fun l => bif callOk P g then .call g (l ++ cap) else .bad) .bad
  | _ => .bad
/-- The cells behind a slice. -/
def cellsOf (H : T OB) (s : Nat) (base : Option Addr) (n : Nat) : Option (List Value) := match base with
  | none => bif Nat.beq n 0 then some [] else none
  | some ⟨b, off, none⟩ => rowK (H.get (bits b)) (fun m tr => bif Nat.ble (off + n * s) m then toL tr (n * s) off else none) none
  | _ => none
def apNew (H : T OB) (nx : Nat) (e : TypeId) (m : Nat) (l : List Value) : Eff :=
  newK H nx e l fun H n => natF m fun m => .val (.slice (some ⟨nx, 0, none⟩) m unk) H n
/-- Behind a slice whose capacity is not known: what was its block is no more. -/
def apU (P : Program) (H : T OB) (nx : Nat) (e : TypeId) (s b off sl xl n : Nat) (tr : T Value) (xs : List Value) : Eff :=
  bif Nat.beq off 0 && Nat.ble (sl * s) n && esIs P H b s && xs.all oneCell then
    optK (toL tr (sl * s) 0) (fun old => setK (bits b) H (some .dead) fun H => apNew H nx e (sl + xl) (old ++ xs)) .bad else .bad
def apIn (H : T OB) (nx : Nat) (s b off sl sc xl n : Nat) (tr : T Value) (el : TypeId) (xs : List Value) : Eff :=
  bif Nat.ble (off + sc * s) n && xs.all oneCell then
    fromLK xs (off + sl * s) tr fun tr => setK (bits b) H (some (.cells n tr el)) fun H => natF (sl + xl) fun m => .val (.slice (some ⟨b, off, none⟩) m sc) H nx
  else .bad
def apOut (H : T OB) (nx : Nat) (e : TypeId) (s off sl xl n : Nat) (tr : T Value) (xs : List Value) : Eff :=
  bif Nat.ble (off + sl * s) n && Nat.blt 0 xl then optK (toL tr (sl * s) off) (fun old => apNew H nx e (sl + xl) (old ++ xs)) .bad else .bad
def apAt (P : Program) (H : T OB) (nx : Nat) (e : TypeId) (s b off sl sc xl : Nat) (xs : List Value) : Eff :=
  cellsK (H.get (bits b)) (fun n tr el => bif Nat.beq sc unk then apU P H nx e s b off sl xl n tr xs
    else bif Nat.ble (sl + xl) sc then apIn H nx s b off sl sc xl n tr el xs else apOut H nx e s off sl xl n tr xs) .bad
/-- So few, and so small, that a row of them can be. -/
def apSmall (P : Program) (e : TypeId) (s need : Nat) : Bool := match P.info? e, zeroC P e with
  | some i, some z => Nat.beq z.length s && Nat.blt 0 s && Nat.ble need 1048576 && Nat.ble i.bytes 65536
  | _, _ => false
def apGo (P : Program) (H : T OB) (nx : Nat) (e : TypeId) (s : Nat) (base : Option Addr) (sl sc xl : Nat) (xs : List Value) : Eff := match base with
  | none => bif Nat.beq sl 0 && Nat.beq sc 0 then (bif Nat.beq xl 0 then .val (.slice none 0 0) H nx else apNew H nx e xl xs) else .bad
  | some ⟨b, off, none⟩ => apAt P H nx e s b off sl sc xl xs
  | _ => .bad
def efAppend (P : Program) (H : T OB) (nx : Nat) (ts : List TypeId) (l : Option (List Value)) : Eff := match l, ts with
  | some [.slice base sl sc, .slice xb xl _], [t, u] => bif !Nat.beq t u then .bad else sliceTK P t (fun e s => bif apSmall P e s (sl + xl) then optK (cellsOf H s xb xl) (apGo P H nx e s base sl sc xl) .bad else .bad) .bad
  | _, _ => .bad
def mapK {β : Type} (x : Option OB) (k : List MapEntry → Nat → β) (bad : β) : β := match x with
  | some (.map es c) => k es c
  | _ => bad
def updM (H : T OB) (nx b : Nat) (es : List MapEntry) (c : Nat) (k v : Value) (r : Option (Option (Nat × Value))) : Eff := match r with
  | some (some (i, _)) => setK (bits b) H (some (.map (es.modify i fun e => { e with key := k, val := v }) c)) fun H => .val undef H nx
  | some none => natF (Nat.succ c) fun c' => setK (bits b) H (some (.map (es ++ [⟨k, v, c⟩]) c')) fun H => .val undef H nx
  | none => .bad
def mapAt (m : Option Value) : Option Nat := match m with
  | some (.map (some b)) => some b
  | _ => none
def efMapUpdate (P : Program) (H : T OB) (nx : Nat) (t : TypeId) (m k v : Option Value) : Eff :=
  mapTK P t (fun d _ => optK (mapAt m) (fun b => optK k (fun k => optK v (fun v => mapK (H.get (bits b)) (fun es c => updM H nx b es c k v (Instr.findNow d k es 0)) .bad) .bad) .bad) .bad) .bad
def isMapT (P : Program) (t : TypeId) : Bool := match P.underlying t with
  | some (.map _ _) => true
  | _ => false
def newIter (H : T OB) (nx : Nat) (m : Option Nat) (c : Nat) : Eff :=
  setK (bits nx) H (some (.iter m c [] c)) fun H => natF (Nat.succ nx) fun n => .val (ptrAt nx) H n
def efRange (P : Program) (H : T OB) (nx : Nat) (t : TypeId) (m : Option Value) : Eff := bif isMapT P t then (match m with
  | some (.map none) => newIter H nx none 0
  | some (.map (some b)) => mapK (H.get (bits b)) (fun _ c => newIter H nx (some b) c) .bad
  | _ => .bad) else .bad
def iterK {β : Type} (x : Option OB) (k : Option Nat → Nat → List Nat → Nat → β) (bad : β) : β := match x with
  | some (.iter m s l c) => k m s l c
  | _ => bad
/-- The one entry that an iteration over a map can come to, if there is but one way on. -/
def nextV1 (H : T OB) (nx r m since c : Nat) (seen : List Nat) (l : List MapEntry) : Eff := match l with
  | [] => .val (.tuple #[.bool false]) H nx
  | [e] => bif Nat.blt e.born since then setK (bits r) H (some (.iter (some m) since (seen ++ [e.born]) c)) fun H => .val (.tuple #[.bool true, e.key, e.val]) H nx else .bad
  | _ => .bad
def nextM (H : T OB) (nx r m since last : Nat) (seen : List Nat) : Eff :=
  mapK (H.get (bits m)) (fun es c => bif !seen.isEmpty && !es.isEmpty && es.all (fun e => Nat.ble last e.born) then .bad else nextV1 H nx r m since c seen (es.filter fun e => !seen.contains e.born)) .bad
def efNext (H : T OB) (nx : Nat) (it : Option Value) (isString : Bool) : Eff := bif isString then .bad else
  ptrK it (fun r off => bif Nat.beq off 0 then iterK (H.get (bits r)) (fun m since seen last => match m with
    | none => .val (.tuple #[.bool false]) H nx
    | some m => nextM H nx r m since last seen) .bad else .bad) .bad
def entryV (H : T OB) (nx : Nat) (es : List MapEntry) (st : Nat) : Eff := match es.find? (fun e => e.born == st) with
  | some e => .val (.tuple #[e.key, e.val]) H nx
  | none => .bad
def efEntry (H : T OB) (nx : Nat) (it : Option Value) : Eff :=
  ptrK it (fun r off => bif Nat.beq off 0 then iterK (H.get (bits r)) (fun m _ seen last => optK m (fun m => optK seen.getLast? (fun st => mapK (H.get (bits m)) (fun es c => bif Nat.beq c last then entryV H nx es st else .bad) .bad) .bad) .bad) .bad else .bad) .bad
def isStrT (P : Program) (t : TypeId) : Bool := match P.underlying t with
  | some .string => true
  | _ => false
def efAppS (P : Program) (H : T OB) (nx : Nat) (ts : List TypeId) (l : Option (List Value)) : Eff := match l, ts with
  | some [.slice base sl sc, .string b], [t, u] => bif isStrT P u then sliceTK P t (fun e s => bif apSmall P e s (sl + b.size) && Nat.beq s 1 then apGo P H nx e s base sl sc b.size (b.data.toList.map fun x => .int .u8 (.ofNat x.toNat)) else .bad) .bad else .bad
  | _, _ => efAppend P H nx ts l
def efCall (P : Program) (H : T OB) (nx : Nat) (tm : T Value) (c : Call) : Eff := match c.callee with
  | .value f => efGo P (eva P tm f) (evs P tm c.args.toList)
  | .builtin .append => efAppS P H nx c.argTypes.toList (evs P tm c.args.toList)
  | .builtin .recover => .rcv
  | .builtin .panic => .bad
  | _ => .bad

def panV (v : Option Value) : Eff := match v with
  | some (.iface t v) => .pan (.iface t v)
  | _ => .bad
def efDefer (c : Eff) : Eff := match c with
  | .call f l => .dfr f l
  | _ => .bad
def ef (P : Program) (H : T OB) (nx : Nat) (tm : T Value) (o : Oper) : Eff := match o.op with
  | .alloc e => efAlloc P H nx e
  | .box e x => efBox H nx e (eva P tm x)
  | .store t a x => efStore P H nx t (eva P tm a) (eva P tm x)
  | .buildSlice t len ps => efBuildSlice P H nx t len (parts P tm ps.toList)
  | .makeSlice t l c => efMakeSlice P H nx t (eva P tm l) (eva P tm c)
  | .makeMap _ r => match r with | none => setK (bits nx) H (some (.map [] 0)) fun H => natF (Nat.succ nx) fun n => .val (.map (some nx)) H n | some _ => .bad
  | .call c => efCall P H nx tm c
  | .defer c => efDefer (efCall P H nx tm c)
  | .panic x => panV (eva P tm x)
  | .mapUpdate t m k v => efMapUpdate P H nx t (eva P tm m) (eva P tm k) (eva P tm v)
  | .range t m => efRange P H nx t (eva P tm m)
  | .next it b => efNext H nx (eva P tm it) b
  | .entry it => efEntry H nx (eva P tm it)
  | _ => .bad

/-! control -/
inductive Md where
  | run
  | ret
  | pan (l : List (Value × Bool))

/-- What of a frame stays: its function, how many temporaries, is it a deferred call's, what it has deferred. -/
structure Cf where
  fn : FuncId
  nt : Nat
  kd : Bool
  df : List (FuncId × List Value)

structure Fr where
  c : Cf
  tm : T Value
  todo : List Item
  dr : Option (Array Oper × List (Nat × List Nat))
  md : Md

structure St where
  cur : Fr
  stk : List Fr
  H : T OB
  nx : Nat

inductive Res where
  | go (s : St)
  | done (v : Value) (H : T OB)
  | bad (why : String)

def yieldO (tm : T Value) (d : Tmp) (want : Bool) : Option Bool := match tm.get (bits d) with
  | some (.bool b) => some (b == want)
  | some (.tuple _) => some false
  | _ => none
def dstOf (ops : Array Oper) (j : Nat) : Option Tmp := match ops[j]? with
  | some g => g.dst
  | none => none
def wantedO (tm : T Value) (ops : Array Oper) (o : Oper) : Option Bool := match o.guard with
  | none => some true
  | some p => optK (dstOf ops p.1) (fun d => yieldO tm d p.2) none

def putK {β : Type} (nt : Nat) (tm : T Value) (dst : Option Tmp) (v : Value) (k : T Value → β) (bad : β) : β := match dst with
  | none => k tm
  | some d => bif Nat.blt d nt then setK (bits d) tm (some v) k else bad

/-! regions with a draw: a fixed order -/
def direct (o : Oper) (j : Nat) : Bool := o.after.toList.any fun e => Region.binds .any e && e.on == j
def readyIn (ops : Array Oper) (done : List Nat) (o : Oper) : Bool := o.after.toList.all fun e => !Region.binds .any e || done.contains e.on

/-- Takes what is ready of 'todo': readers as they come; another if it alone is ready. -/
def planGo (ops : Array Oper) : Nat → List Nat → List Nat → Option (List Nat)
  | 0, _, todo => if todo.isEmpty then some [] else none
  | f + 1, done, todo =>
    match todo with
    | [] => some []
    | _ => match todo.find? fun i => match ops[i]? with | some o => (isRd o.op || isAl o.op) && readyIn ops done o | none => false with
      | some i => (planGo ops f (i :: done) (todo.filter (· != i))).map (i :: ·)
      | none => match todo.filter fun i => match ops[i]? with | some o => readyIn ops done o | none => false with
        | [i] => (planGo ops f (i :: done) (todo.filter (· != i))).map (i :: ·)
        | _ => none

/-- Does what the operation reads hang on memory? -/
def isLd : Op → Bool
  | .load _ _ => true
  | .slice _ _ _ _ _ => true
  | .lookup _ _ _ _ => true
  | .convert _ _ _ => true
  | .binOp _ _ _ _ _ => true
  | _ => false

/-- What an operation hangs on, through others. -/
def ancGo (ops : Array Oper) : Nat → List Nat → List Nat
  | 0, acc => acc
  | q + 1, acc => if acc.contains q then (match ops[q]? with
      | some o => ancGo ops q (o.after.toList.foldl (fun l e => if Region.binds .any e then e.on :: l else l) acc)
      | none => ancGo ops q acc) else ancGo ops q acc
def ancs (ops : Array Oper) (i : Nat) : List Nat := match ops[i]? with
  | some o => ancGo ops i (o.after.toList.foldl (fun l e => if Region.binds .any e then e.on :: l else l) [])
  | none => []

/-- Is a list an order in which each reader is ready when its turn comes, and another is the one that is? Behind the other stand the loads, given ahead, that it may come before. -/
def okPlan (ops : Array Oper) : List Nat → List Nat → List (Nat × List Nat) → Bool
  | done, _, [] => (List.range ops.size).all done.contains
  | done, lds, (i, chk) :: rest => match ops[i]? with
    | none => false
    | some o => !done.contains i && readyIn ops done o &&
      (if isRd o.op || isAl o.op then okPlan ops (i :: done) (if isLd o.op then i :: lds else lds) rest
       else (rest.all fun j => match ops[j.1]? with | some q => !readyIn ops done q | none => false) &&
        (lds.all fun p => chk.contains p || (ancs ops i).contains p) && okPlan ops (i :: done) chk rest)

/-- Each temporary is written by one operation, and read by none that does not hang on it by an edge of its own. -/
def saOk (ops : Array Oper) : Bool :=
  (List.range ops.size).all fun i => (List.range ops.size).all fun j => match ops[i]?, ops[j]? with
    | some p, some q =>
      (match q.dst with
        | none => true
        | some d => (!(p.looksAt ops).contains d || direct p j) && (i == j || p.dst != some d))
    | _, _ => true
def acyclic (ops : Array Oper) : Bool :=
  (List.range ops.size).all fun i => match ops[i]? with | some o => o.after.toList.all fun e => !Region.binds .any e || Nat.blt e.on i | none => true

/-- The loads, given ahead, that stand behind each operation that is no reader. -/
def annot (ops : Array Oper) : List Nat → List Nat → List (Nat × List Nat)
  | _, [] => []
  | lds, i :: rest => match ops[i]? with
    | none => []
    | some o => if isRd o.op || isAl o.op then (i, []) :: annot ops (if isLd o.op then i :: lds else lds) rest
      else let chk := lds.filter fun p => !(ancs ops i).contains p
        (i, chk) :: annot ops chk rest
def planOf (ops : Array Oper) : Option (List (Nat × List Nat)) :=
  match planGo ops ops.size [] (List.range ops.size) with
  | none => none
  | some l => if saOk ops && acyclic ops && Region.noSelect ops && okPlan ops [] [] (annot ops [] l) then some (annot ops [] l) else none

def vEqL (eq : Value → Value → Bool) : List Value → List Value → Bool
  | [], [] => true
  | a :: l, b :: m => eq a b && vEqL eq l m
  | _, _ => false
/-- Surely the same. -/
def vEqN : Nat → Value → Value → Bool
  | 0, _, _ => false
  | n + 1, v, w => match v, w with
    | .bool a, .bool b => a == b
    | .int j a, .int k b => j == k && a == b
    | .string a, .string b => decide (a = b)
    | .pointer none, .pointer none => true
    | .pointer (some ⟨a, o, none⟩), .pointer (some ⟨b, q, none⟩) => a == b && o == q
    | .slice none l c, .slice none m d => l == m && c == d
    | .slice (some ⟨a, o, none⟩) l c, .slice (some ⟨b, q, none⟩) m d => a == b && o == q && l == m && c == d
    | .map none, .map none => true
    | .map (some a), .map (some b) => a == b
    | .nilIface, .nilIface => true
    | .nilFunc, .nilFunc => true
    | .iface t v, .iface u w => t == u && vEqN n v w
    | .agg a, .agg b => vEqL (vEqN n) a.toList b.toList
    | .tuple a, .tuple b => vEqL (vEqN n) a.toList b.toList
    | _, _ => false
def vEq (v w : Value) : Bool := vEqN 4 v w

def heldV (tm : T Value) (dst : Option Tmp) (u : Value) : Bool := match dst with
  | none => true
  | some d => (match tm.get (bits d) with | some v => vEq u v | none => false)
def heldW (P : Program) (H : T OB) (tm : T Value) (o : Oper) (w : Option Bool) : Bool := match w with
  | some b => bK b (optK (rd P H tm o) (heldV tm o.dst) false) true
  | none => false
/-- What is promised of an operation, given ahead, still holds. -/
def held (P : Program) (H : T OB) (tm : T Value) (ops : Array Oper) (p : Nat) : Bool :=
  optK ops[p]? (fun o => heldW P H tm o (wantedO tm ops o)) false

def resGo (P : Program) (H : T OB) (tm : T Value) : List ResultVar → Option (List Value)
  | [] => some []
  | .tmp t :: l => match tm.get (bits t) with
    | some v => match resGo P H tm l with | some vs => some (v :: vs) | none => none
    | none => none
  | .cell a t :: l => ptrK (tm.get (bits a)) (fun b off => match loadO P H t b off with
      | some v => match resGo P H tm l with | some vs => some (v :: vs) | none => none
      | none => none) none
def resultsO (P : Program) (H : T OB) (fn : Func) (tm : T Value) : Option Value :=
  match resGo P H tm fn.results.toList with
  | some [v] => some v
  | some vs => some (.tuple ⟨vs⟩)
  | none => none

def enterK {β : Type} (P : Program) (f : FuncId) (kd : Bool) (args : List Value) (k : Fr → β) (bad : β) : β := match P.funcs[f]? with
  | some fn => match fn.body with
    | some c => bif Nat.ble args.length fn.ntmps then fromLK args 0 .leaf fun tm => k ⟨⟨f, fn.ntmps, kd, []⟩, tm, [.code c], none, .run⟩ else bad
    | none => bad
  | none => bad

def toT (c : Cf) (tm : T Value) (stk : List Fr) (H : T OB) (nx : Nat) (k : List Item) : Res := .go ⟨⟨c, tm, k, none, .run⟩, stk, H, nx⟩

/-! a call's end -/
def retR (c : Cf) (tm : T Value) (ops : Array Oper) (rest : List Nat) (k : List Item) (stk : List Fr) (H : T OB) (nx : Nat) (v : Value) (o : Oper) : Res :=
  putK c.nt tm o.dst v (fun tm => .go ⟨⟨c, tm, .inRegion ops rest :: k, none, .run⟩, stk, H, nx⟩) (.bad "put")
def goE (P : Program) (c : Cf) (tm : T Value) (ops : Array Oper) (chk : List Nat) (rest : List (Nat × List Nat)) (k : List Item) (stk : List Fr) (H : T OB) (nx : Nat) : Res :=
  bK (chk.all (held P H tm ops)) (.go ⟨⟨c, tm, k, some (ops, rest), .run⟩, stk, H, nx⟩) (.bad "held")
def retE (P : Program) (c : Cf) (tm : T Value) (ops : Array Oper) (chk : List Nat) (rest : List (Nat × List Nat)) (k : List Item) (stk : List Fr) (H : T OB) (nx : Nat) (v : Value) (o : Oper) : Res :=
  putK c.nt tm o.dst v (fun tm => goE P c tm ops chk rest k stk H nx) (.bad "put")
def retD (P : Program) (c : Cf) (tm : T Value) (ops : Array Oper) (pl : List (Nat × List Nat)) (k : List Item) (stk : List Fr) (H : T OB) (nx : Nat) (v : Value) : Res := match pl with
  | (i, chk) :: rest => optK ops[i]? (retE P c tm ops chk rest k stk H nx v) (.bad "ret: no op")
  | [] => .bad "ret: plan"
def retN (c : Cf) (tm : T Value) (todo : List Item) (stk : List Fr) (H : T OB) (nx : Nat) (v : Value) : Res := match todo with
  | .inRegion ops (i :: rest) :: k => optK ops[i]? (retR c tm ops rest k stk H nx v) (.bad "ret: no op")
  | _ => .bad "ret: todo"
/-- The frame that deferred goes on where its call has come back. -/
def mdBack (m : Md) : Md := match m with
  | .pan ((_, true) :: _) => .ret
  | m => m
def retF (P : Program) (kd : Bool) (f : Fr) (stk : List Fr) (H : T OB) (nx : Nat) (v : Value) : Res := match f with
  | ⟨c, tm, todo, dr, md⟩ => bK kd (match md with
    | .run => .bad "ret: a deferred call's mode"
    | md => .go ⟨⟨c, tm, todo, dr, mdBack md⟩, stk, H, nx⟩) (match md with
    | .run => (match dr with
      | none => retN c tm todo stk H nx v
      | some (ops, pl) => retD P c tm ops pl todo stk H nx v)
    | _ => .bad "ret: mode")
def retK (P : Program) (kd : Bool) (stk : List Fr) (H : T OB) (nx : Nat) (v : Value) : Res := match stk with
  | [] => bK kd (.bad "ret: kind") (.done v H)
  | c :: stk => retF P kd c stk H nx v
def outS (P : Program) (c : Cf) (tm : T Value) (stk : List Fr) (H : T OB) (nx : Nat) : Res :=
  optK P.funcs[c.fn]? (fun f => optK (resultsO P H f tm) (fun v => retK P c.kd stk H nx v) (.bad "results")) (.bad "fn")
def leaveS (P : Program) (c : Cf) (tm : T Value) (stk : List Fr) (H : T OB) (nx : Nat) : Res := match c.df with
  | [] => outS P c tm stk H nx
  | _ :: _ => .go ⟨⟨c, tm, [], none, .ret⟩, stk, H, nx⟩

/-! panics -/
def isSomeD (d : Option (Array Oper × List (Nat × List Nat))) : Bool := match d with | some _ => true | none => false
/-- A panic behind those that run in the frame that deferred. -/
def panJoin (md : Md) (l : List (Value × Bool)) : List (Value × Bool) := match md with
  | .pan m => l ++ m
  | _ => l
def raiseF (f : Fr) (l : List (Value × Bool)) (stk : List Fr) (H : T OB) (nx : Nat) : Res := match f with
  | ⟨c, tm, _, dr, md⟩ => bK (isSomeD dr && !c.df.isEmpty) (.bad "a panic through a region with a draw") (.go ⟨⟨c, tm, [], none, .pan (panJoin md l)⟩, stk, H, nx⟩)
def raiseK (stk : List Fr) (l : List (Value × Bool)) (H : T OB) (nx : Nat) : Res := match stk with
  | [] => .bad "panic"
  | c :: stk => raiseF c l stk H nx
/-- A frame that returns or panics. -/
def stepU (P : Program) (c : Cf) (tm : T Value) (md : Md) (stk : List Fr) (H : T OB) (nx : Nat) : Res := match c.df with
  | (g, args) :: ds => enterK P g true args (fun n => .go ⟨n, ⟨⟨c.fn, c.nt, c.kd, ds⟩, tm, [], none, md⟩ :: stk, H, nx⟩) (.bad "enter")
  | [] => match md with
    | .ret => outS P c tm stk H nx
    | .pan l => optK P.funcs[c.fn]? (fun _ => raiseK stk l H nx) (.bad "fn")
    | .run => .bad "run"
def recF (f : Fr) (st : List Fr) (k : Value → List Fr → Res) : Res := match f with
  | ⟨c, tm, todo, dr, md⟩ => match md with
    | .pan ((v, false) :: l) => k v (⟨c, tm, todo, dr, .pan ((v, true) :: l)⟩ :: st)
    | md => k .nilIface (⟨c, tm, todo, dr, md⟩ :: st)
def recK (kd : Bool) (stk : List Fr) (k : Value → List Fr → Res) : Res := match kd with
  | false => k .nilIface stk
  | true => match stk with
    | [] => .bad "recover"
    | f :: st => recF f st k

/-! regions -/
def effR (P : Program) (c : Cf) (tm : T Value) (ops : Array Oper) (i : Nat) (rest : List Nat) (k : List Item) (stk : List Fr) (H : T OB) (nx : Nat) (dst : Option Tmp) (ih : T Value → T OB → Nat → Res) (e : Eff) : Res := match e with
  | .val v H nx => putK c.nt tm dst v (fun tm => ih tm H nx) (.bad "put")
  | .call g args => enterK P g false args (fun n => .go ⟨n, ⟨c, tm, .inRegion ops (i :: rest) :: k, none, .run⟩ :: stk, H, nx⟩) (.bad "enter")
  | .dfr g args => putK c.nt tm dst undef (fun tm => .go ⟨⟨⟨c.fn, c.nt, c.kd, (g, args) :: c.df⟩, tm, .inRegion ops rest :: k, none, .run⟩, stk, H, nx⟩) (.bad "put")
  | .pan v => .go ⟨⟨c, tm, [], none, .pan [(v, false)]⟩, stk, H, nx⟩
  | .rcv => recK c.kd stk fun v stk => putK c.nt tm dst v (fun tm => .go ⟨⟨c, tm, .inRegion ops rest :: k, none, .run⟩, stk, H, nx⟩) (.bad "put")
  | .bad => .bad "ef"
def doR (P : Program) (c : Cf) (tm : T Value) (ops : Array Oper) (i : Nat) (rest : List Nat) (k : List Item) (stk : List Fr) (H : T OB) (nx : Nat) (ih : T Value → T OB → Nat → Res) (o : Oper) : Res :=
  bK (isRd o.op) (optK (rd P H tm o) (fun v => putK c.nt tm o.dst v (fun tm => ih tm H nx) (.bad "put")) (.bad "rd"))
    (effR P c tm ops i rest k stk H nx o.dst ih (ef P H nx tm o))
def opR (P : Program) (c : Cf) (ops : Array Oper) (i : Nat) (rest : List Nat) (k : List Item) (stk : List Fr) (ih : T Value → T OB → Nat → Res) (tm : T Value) (H : T OB) (nx : Nat) (o : Oper) : Res :=
  optK (wantedO tm ops o) (fun b => bK b (doR P c tm ops i rest k stk H nx ih o) (putK c.nt tm o.dst undef (fun tm => ih tm H nx) (.bad "put"))) (.bad "guard")
def stepR (P : Program) (c : Cf) (ops : Array Oper) (k : List Item) (stk : List Fr) (l : List Nat) : T Value → T OB → Nat → Res :=
  @List.rec Nat (fun _ => T Value → T OB → Nat → Res) (fun tm H nx => toT c tm stk H nx k)
    (fun i rest ih tm H nx => optK ops[i]? (opR P c ops i rest k stk ih tm H nx) (.bad "no op")) l

def effD (P : Program) (c : Cf) (tm : T Value) (ops : Array Oper) (i : Nat) (chk : List Nat) (rest : List (Nat × List Nat)) (k : List Item) (stk : List Fr) (H : T OB) (nx : Nat) (dst : Option Tmp) (ih : T Value → T OB → Nat → Res) (e : Eff) : Res := match e with
  | .val v H nx => putK c.nt tm dst v (fun tm => bK (chk.all (held P H tm ops)) (ih tm H nx) (.bad "held")) (.bad "put")
  | .call g args => enterK P g false args (fun n => .go ⟨n, ⟨c, tm, k, some (ops, (i, chk) :: rest), .run⟩ :: stk, H, nx⟩) (.bad "enter")
  | .pan v => bK c.df.isEmpty (.go ⟨⟨c, tm, [], none, .pan [(v, false)]⟩, stk, H, nx⟩) (.bad "panic")
  | _ => .bad "ef"
def effA (c : Cf) (tm : T Value) (dst : Option Tmp) (ih : T Value → T OB → Nat → Res) (e : Eff) : Res := match e with
  | .val v H nx => putK c.nt tm dst v (fun tm => ih tm H nx) (.bad "put")
  | _ => .bad "ef"
def doD (P : Program) (c : Cf) (tm : T Value) (ops : Array Oper) (i : Nat) (chk : List Nat) (rest : List (Nat × List Nat)) (k : List Item) (stk : List Fr) (H : T OB) (nx : Nat) (ih : T Value → T OB → Nat → Res) (o : Oper) : Res :=
  bK (isRd o.op) (optK (rd P H tm o) (fun v => putK c.nt tm o.dst v (fun tm => ih tm H nx) (.bad "put")) (.bad "rd"))
    (bK (isAl o.op) (effA c tm o.dst ih (ef P H nx tm o)) (effD P c tm ops i chk rest k stk H nx o.dst ih (ef P H nx tm o)))
def opD (P : Program) (c : Cf) (ops : Array Oper) (i : Nat) (chk : List Nat) (rest : List (Nat × List Nat)) (k : List Item) (stk : List Fr) (ih : T Value → T OB → Nat → Res) (tm : T Value) (H : T OB) (nx : Nat) (o : Oper) : Res :=
  optK (wantedO tm ops o) (fun b => bK b (doD P c tm ops i chk rest k stk H nx ih o)
    (putK c.nt tm o.dst undef (fun tm => bK (chk.all (held P H tm ops)) (ih tm H nx) (.bad "held")) (.bad "put"))) (.bad "guard")
def stepD (P : Program) (c : Cf) (ops : Array Oper) (k : List Item) (stk : List Fr) (pl : List (Nat × List Nat)) : T Value → T OB → Nat → Res :=
  @List.rec (Nat × List Nat) (fun _ => T Value → T OB → Nat → Res) (fun tm H nx => toT c tm stk H nx k)
    (fun x rest ih tm H nx => optK ops[x.1]? (opD P c ops x.1 x.2 rest k stk ih tm H nx) (.bad "no op")) pl

def boolK {β : Type} (v : Option Value) (a b bad : β) : β := match v with
  | some (.bool x) => bK x a b
  | _ => bad
def regT (P : Program) (c : Cf) (tm : T Value) (stk : List Fr) (H : T OB) (nx : Nat) (ops : Array Oper) (draw : Bool) (k : List Item) : Res :=
  bK draw (bK (P.follows .mixedOrders) (optK (planOf ops) (fun pl => stepD P c ops k stk pl tm H nx) (.bad "plan")) (.bad "mixed"))
    (stepR P c ops k stk (List.range ops.size) tm H nx)
def stepC (P : Program) (c : Cf) (tm : T Value) (stk : List Fr) (H : T OB) (nx : Nat) (cd : Code) : List Item → Res :=
  @Code.rec (fun _ => List Item → Res) (fun k => toT c tm stk H nx k) (fun _ ops draw k => regT P c tm stk H nx ops draw k) (fun _ b iha _ k => iha (.code b :: k))
    (fun x _ _ iha ihb k => boolK (eva P tm x) (iha k) (ihb k) (.bad "cond")) (fun id _ ih k => ih (.inBlock id :: k)) (fun body ih k => ih (.inLoop body :: k)) (fun _ _ _ _ _ _ _ => .bad "code")
    (fun id k => optK (exitTo id k) (toT c tm stk H nx) (.bad "exit")) (fun body ih k => ih (.inScope body :: k)) (fun _ k => toT c tm stk H nx k)
    (fun l k => optK (gotoIn l k) (toT c tm stk H nx) (.bad "goto")) (fun _ => leaveS P c tm stk H nx) (fun _ _ => .bad "code") cd

def stepI (P : Program) (c : Cf) (tm : T Value) (stk : List Fr) (H : T OB) (nx : Nat) (k : List Item) (ih : Res) (it : Item) : Res := match it with
  | .code cd => stepC P c tm stk H nx cd k
  | .inBlock _ => ih
  | .inScope _ => ih
  | .inLoop body => stepC P c tm stk H nx body (.inLoop body :: k)
  | .inRegion ops l => stepR P c ops k stk l tm H nx
  | _ => .bad "item"
def stepT (P : Program) (c : Cf) (tm : T Value) (stk : List Fr) (H : T OB) (nx : Nat) (todo : List Item) : Res :=
  @List.rec Item (fun _ => Res) (leaveS P c tm stk H nx) (fun it k ih => stepI P c tm stk H nx k ih it) todo
def stepF (P : Program) (f : Fr) (stk : List Fr) (H : T OB) (nx : Nat) : Res := match f with
  | ⟨c, tm, todo, dr, md⟩ => match md with
    | .run => (match dr with
      | none => stepT P c tm stk H nx todo
      | some (ops, pl) => stepD P c ops todo stk pl tm H nx)
    | md => stepU P c tm md stk H nx
def stepE (P : Program) (s : St) : Res := match s with
  | ⟨f, stk, H, nx⟩ => stepF P f stk H nx

def run (P : Program) (n : Nat) : St → Res :=
  @Nat.rec (fun _ => St → Res) (fun s => .go s) (fun _ ih s => Res.casesOn (stepE P s) ih (fun v H => .done v H) (fun w => .bad w)) n

def start (P : Program) (f : FuncId) (args : List Value) (H : T OB) (nx : Nat) : Option St :=
  enterK P f false args (fun fr => some ⟨fr, [], H, nx⟩) none

def evals (P : Program) (n : Nat) (f : FuncId) (args : List Value) (H : T OB) (nx : Nat) : Option Value := match start P f args H nx with
  | some s => match run P n s with
    | .done v _ => some v
    | _ => none
  | none => none
end

end Go.Ev
