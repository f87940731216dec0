/- An evaluator of closed runs: its definitions. It runs a call whose arguments hold no address, block numbers told from the run's own start; nothing is proved here. -/
import Derived.Orders
import Derived.Laws.Tables
import Derived.Below
namespace Go.Ev
set_option linter.unusedVariables false
noncomputable section

/-! tries -/
inductive T (α : Type) where
  | leaf
  | node (x : Option α) (l r : T α)

def bitsF (f : Nat) : Nat → List Bool :=
  @Nat.rec (fun _ => Nat → List Bool) (fun _ => [])
    (fun _ ih k => Nat.casesOn k [] fun m => Nat.casesOn (Nat.mod m 2) (false :: ih (Nat.div m 2)) fun _ => true :: ih (Nat.div m 2)) f
def bits (k : Nat) : List Bool := bitsF k k

def T.get {α : Type} (bs : List Bool) : T α → Option α :=
  @List.rec Bool (fun _ => T α → Option α) (fun t => @T.rec α (fun _ => Option α) none (fun x _ _ _ _ => x) t)
    (fun b _ ih t => @T.rec α (fun _ => Option α) none (fun _ l r _ _ => @Bool.rec (fun _ => Option α) (ih l) (ih r) b) t) bs

def setK {α β : Type} (bs : List Bool) : T α → Option α → (T α → β) → β :=
  @List.rec Bool (fun _ => T α → Option α → (T α → β) → β)
    (fun t v k => @T.rec α (fun _ => β) (k (.node v .leaf .leaf)) (fun _ l r _ _ => k (.node v l r)) t)
    (fun b _ ih t v k => @Bool.rec (fun _ => β)
      (@T.rec α (fun _ => β) (ih .leaf v fun l' => k (.node none l' .leaf)) (fun x l r _ _ => ih l v fun l' => k (.node x l' r)) t)
      (@T.rec α (fun _ => β) (ih .leaf v fun r' => k (.node none .leaf r')) (fun x l r _ _ => ih r v fun r' => k (.node x l r')) t) b) bs

def full {α : Type} : Nat → α → T α
  | 0, _ => .leaf
  | d + 1, v => .node (some v) (full d v) (full d v)

def fromLK {α β : Type} (l : List α) : Nat → T α → (T α → β) → β :=
  @List.rec α (fun _ => Nat → T α → (T α → β) → β) (fun _ t k => k t)
    (fun v _ ih i t k => setK (bits i) t (some v) fun t' => ih (Nat.succ i) t' k) l

/-- 'n' cells from 'i' on. -/
def toL {α : Type} (t : T α) (n : Nat) : Nat → Option (List α) :=
  @Nat.rec (fun _ => Nat → Option (List α)) (fun _ => some [])
    (fun _ ih i => Option.casesOn (t.get (bits i)) none fun v => Option.casesOn (ih (Nat.succ i)) none fun l => some (v :: l)) n

/-- 'if' at a Bool. -/
def bK {β : Type} (b : Bool) (x y : β) : β := @Bool.rec (fun _ => β) y x b
/-! forced values -/
def natF {β : Type} (n : Nat) (k : Nat → β) : β := match n with | 0 => k 0 | m + 1 => k (Nat.succ m)
def intF {β : Type} (n : Int) (k : Int → β) : β := match n with | .ofNat m => natF m fun m => k (.ofNat m) | .negSucc m => natF m fun m => k (.negSucc m)
def kindF {β : Type} (i : IntKind) (k : IntKind → β) : β :=
  match i with | .i8 => k .i8 | .i16 => k .i16 | .i32 => k .i32 | .i64 => k .i64 | .u8 => k .u8 | .u16 => k .u16 | .u32 => k .u32 | .u64 => k .u64
def boolF {β : Type} (b : Bool) (k : Bool → β) : β := match b with | true => k true | false => k false
def addrF {β : Type} (a : Addr) (k : Addr → β) : β := match a with
  | ⟨b, o, none⟩ => natF b fun b => natF o fun o => k ⟨b, o, none⟩
  | ⟨b, o, some s⟩ => k ⟨b, o, some s⟩
def valF1 {β : Type} (v : Value) (k : Value → β) : β := match v with
  | .bool b => boolF b fun b => k (.bool b)
  | .int i n => kindF i fun i => intF n fun n => k (.int i n)
  | .pointer none => k (.pointer none)
  | .pointer (some a) => addrF a fun a => k (.pointer (some a))
  | .slice none l c => natF l fun l => natF c fun c => k (.slice none l c)
  | .slice (some a) l c => addrF a fun a => natF l fun l => natF c fun c => k (.slice (some a) l c)
  | v => k v
def listF {β : Type} : List Value → (List Value → β) → β
  | [], k => k []
  | v :: l, k => valF1 v fun v => listF l fun l => k (v :: l)
def valF {β : Type} (v : Value) (k : Value → β) : β := match v with
  | .agg ⟨l⟩ => listF l fun l => k (.agg ⟨l⟩)
  | .tuple ⟨l⟩ => listF l fun l => k (.tuple ⟨l⟩)
  | v => valF1 v k

/-- No address in it. -/
def flatN : Nat → Value → Bool
  | 0, _ => false
  | n + 1, v => match v with
    | .bool _ => true
    | .int _ _ => true
    | .float _ _ => true
    | .complex _ _ _ => true
    | .string _ => true
    | .pointer a => match a with | none => true | some _ => false
    | .slice a _ _ => match a with | none => true | some _ => false
    | .map r => match r with | none => true | some _ => false
    | .chan r => match r with | none => true | some _ => false
    | .nilFunc => true
    | .nilIface => true
    | .iface _ v => flatN n v
    | .agg c => c.toList.all (flatN n)
    | .tuple c => c.toList.all (flatN n)
    | .func _ a b => a.toList.isEmpty && b.toList.isEmpty
def flat (v : Value) : Bool := flatN 5 v

/-! values that hold what they point at -/
def rowV (s : Nat) (es : List Value) : Value := .func (.yield s) ⟨es⟩ ⟨[.nilFunc]⟩
def eptrV (v : Value) : Value := .func (.yield 0) ⟨[v]⟩ ⟨[.nilIface]⟩
def rowVK {β : Type} (v : Value) (k : Nat → List Value → β) (bad : β) : β := match v with
  | .func (.yield s) ⟨es⟩ ⟨[.nilFunc]⟩ => k s es
  | _ => bad
def epK {β : Type} (v : Value) (k : Value → β) (bad : β) : β := match v with
  | .func (.yield _) ⟨[u]⟩ ⟨[.nilIface]⟩ => k u
  | _ => bad
def nonneg (i : Int) : Bool := match i with | .ofNat _ => true | .negSucc _ => false
def intNK {β : Type} (i : Int) (k : Nat → β) (bad : β) : β := bK (nonneg i) (natF i.toNat k) bad

/-- The capacity of what an append made. -/
def unk : Nat := 9223372036854775808

/-! memory -/
inductive OB where
  | cells (n : Nat) (t : T Value) (elem : TypeId)
  | ro (n : Nat) (t : T Value)
  | dead
  | map (es : List MapEntry) (clock : Nat)
  | iter (m : Option Nat) (since : Nat) (seen : List Nat) (last : Nat)

/-- A run of 'Sem' that looks at no world. -/
def pureRun {α : Type} (P : Program) : Sem α → Option α
  | .pure a => some a
  | .program k => pureRun P (k P)
  | .mark _ k => pureRun P k
  | _ => none

def eva (P : Program) (tm : T Value) : Operand → Option Value
  | .tmp t => tm.get (bits t)
  | .const v => bif flat v then some v else none
  | .global g => bif Nat.blt g P.globals.size then some (.pointer (some ⟨g, 0, none⟩)) else none
  | .func f => some (.func (.func f) #[] #[])

def szOf (P : Program) (t : TypeId) : Option Nat := match P.info? t with | some i => some i.size | none => none
def aggQ (P : Program) (t : TypeId) : Option Bool := match P.underlying t with
  | some (.struct _) => some true
  | some (.array _ _) => some true
  | some _ => some false
  | none => none
def zeroC (P : Program) (t : TypeId) : Option (List Value) := match P.info? t with
  | some i => match i.zero with
    | some v => bif v.cells.toList.all flat then some v.cells.toList else none
    | none => none
  | none => none

def oneCell : Value → Bool
  | .agg _ => false
  | .tuple _ => false
  | _ => true

/-- The operands of an operation, each without an address. -/
def evs (P : Program) (tm : T Value) : List Operand → Option (List Value)
  | [] => some []
  | x :: l => match eva P tm x with
    | none => none
    | some v => match evs P tm l with
      | none => none
      | some vs => some (v :: vs)
def flatAt (P : Program) (tm : T Value) (x : Operand) : Bool := match eva P tm x with | some v => flat v | none => false
def allFlat (P : Program) (tm : T Value) (l : List Operand) : Bool := l.all (flatAt P tm)

def ρof (P : Program) (tm : T Value) (x : Operand) : Value := match eva P tm x with | some v => v | none => undef

def optK {α β : Type} (x : Option α) (k : α → β) (bad : β) : β := @Option.rec α (fun _ => β) bad k x
def ptrK {β : Type} (v : Option Value) (k : Nat → Nat → β) (bad : β) : β := match v with
  | some (.pointer (some ⟨b, off, none⟩)) => k b off
  | _ => bad
def cellsK {β : Type} (x : Option OB) (k : Nat → T Value → TypeId → β) (bad : β) : β := match x with
  | some (.cells n t e) => k n t e
  | _ => bad
def rowK {β : Type} (x : Option OB) (k : Nat → T Value → β) (bad : β) : β := match x with
  | some (.cells n t _) => k n t
  | some (.ro n t) => k n t
  | _ => bad
def sliceTK {β : Type} (P : Program) (t : TypeId) (k : TypeId → Nat → β) (bad : β) : β := match P.underlying t with
  | some (.slice e) => optK (szOf P e) (fun s => k e s) bad
  | _ => bad

def load1 (n : Nat) (tr : T Value) (off : Nat) : Option Value := bif Nat.blt off n then tr.get (bits off) else none
def loadA (P : Program) (n : Nat) (tr : T Value) (t : TypeId) (off : Nat) : Option Value :=
  optK (szOf P t) (fun s => bif Nat.ble (off + s) n then optK (toL tr s off) (fun l => some (.agg ⟨l⟩)) none else none) none
def loadB (P : Program) (n : Nat) (tr : T Value) (t : TypeId) (off : Nat) : Option Value :=
  optK (aggQ P t) (fun a => bif a then loadA P n tr t off else load1 n tr off) none
def loadO (P : Program) (H : T OB) (t : TypeId) (b off : Nat) : Option Value :=
  rowK (H.get (bits b)) (fun n tr => loadB P n tr t off) none

def parts (P : Program) (tm : T Value) : List (Nat × Operand) → Option (List (Nat × Value))
  | [] => some []
  | p :: l => match eva P tm p.2 with
    | none => none
    | some v => match parts P tm l with
      | none => none
      | some vs => some ((p.1, v) :: vs)

/-- The bound of a slice expression. -/
def boundV (v : Option Value) : Option Nat := match v with
  | some (.int _ i) => bif nonneg i then some i.toNat else none
  | _ => none
def evaO (P : Program) (tm : T Value) (x : Option Operand) : Option (Option Value) := match x with
  | none => some none
  | some x => match eva P tm x with
    | some v => some (some v)
    | none => none
def bound (x : Option (Option Value)) (d : Nat) : Option Nat := match x with
  | some none => some d
  | some (some v) => boundV (some v)
  | none => none

def nextV (r : Option Next) : Option Value := match r with
  | some (.value v) => valF v fun v => bif flat v then some v else none
  | _ => none
def vS (s : Sem Value) : Sem Next := do pure (.value (← s))
def fV (P : Program) (s : Sem Value) : Option Value := nextV (pureRun P (vS s))
def unV (P : Program) (op : UnOp) (a : Option Value) : Option Value := optK a (fun a => bif flat a then fV P (Op.unary op a) else none) none
def convV (P : Program) (s d : TypeId) (a : Value) : Option Value := bif flat a then fV P (convert s d a) else none
def flatO (x : Option Value) : Bool := match x with | none => true | some v => flat v
def sliceV (P : Program) (t : TypeId) (a : Value) (lo hi mx : Option (Option Value)) : Option Value :=
  optK lo (fun lo => optK hi (fun hi => optK mx (fun mx => bif flat a && (flatO lo && (flatO hi && flatO mx)) then fV P (Instr.sliceAt t a lo hi mx) else none) none) none) none
def indexV (P : Program) (t : TypeId) (a i : Value) : Option Value := bif flat a && flat i then fV P (Instr.index t a i) else none
def bltV (P : Program) (b : Builtin) (ts : Array TypeId) (ty : TypeId) (vs : Option (List Value)) : Option Value :=
  optK vs (fun l => bif l.all flat then nextV (pureRun P (builtin b ts ty #[] ⟨l⟩)) else none) none

/-- Something against nil: are they equal? -/
def nilCmp (d : TypeDesc) (x y : Value) : Option Bool := match d, x, y with
  | .pointer _, .pointer (some _), .pointer none => some false
  | .pointer _, .pointer none, .pointer (some _) => some false
  | .slice _, .slice (some _) _ _, .slice none _ _ => some false
  | .slice _, .slice none _ _, .slice (some _) _ _ => some false
  | .map _ _, .map (some _), .map none => some false
  | .map _ _, .map none, .map (some _) => some false
  | .interface _, .iface _ _, .nilIface => some false
  | .interface _, .nilIface, .iface _ _ => some false
  | .pointer _, .func (.yield _) ⟨[_]⟩ ⟨[.nilIface]⟩, .pointer none => some false
  | .pointer _, .pointer none, .func (.yield _) ⟨[_]⟩ ⟨[.nilIface]⟩ => some false
  | .slice _, .func (.yield _) ⟨_ :: _⟩ ⟨[.nilFunc]⟩, .slice none _ _ => some false
  | .slice _, .slice none _ _, .func (.yield _) ⟨_ :: _⟩ ⟨[.nilFunc]⟩ => some false
  | _, _, _ => none

def isAggV (v : Value) : Bool := match v with
  | .agg _ => true
  | _ => false
/-- What is held, read at a type: is it an aggregate, how many cells? -/
def ldV (a : Option Bool) (s : Option Nat) (u : Value) : Option Value :=
  optK a (fun a => optK s (fun s => bif (bK a (isAggV u) (!isAggV u)) && Nat.beq u.cells.toList.length s then some u else none) none) none
def rdLoad (P : Program) (H : T OB) (t : TypeId) (v : Option Value) : Option Value := match v with
  | some (.pointer (some ⟨b, off, none⟩)) => loadO P H t b off
  | some v => epK v (ldV (aggQ P t) (szOf P t)) none
  | none => none
def rdPick (c a b : Option Value) : Option Value := match c with
  | some (.bool x) => bK x a b
  | _ => none
def rdNil (v : Option Value) : Option Value := match v with
  | some (.pointer (some a)) => some (.pointer (some a))
  | some (.func (.func g) a b) => some (.func (.func g) a b)
  | some (.iface t v) => some (.iface t v)
  | some v => epK v (fun _ => some v) none
  | none => none
def fieldOff (P : Program) (s : TypeId) (f : Nat) : Option Nat := match P.underlying s with
  | some (.struct fs) => match fs[f]? with
    | some fd => match szOf P fd.type with
      | some (_ + 1) => some fd.offset
      | _ => none
    | none => none
  | _ => none
def arrTK {β : Type} (P : Program) (t : TypeId) (k : Nat → Nat → β) (bad : β) : β := match P.underlying t with
  | some (.array len e) => optK (szOf P e) (fun s => k len s) bad
  | _ => bad
def idxV (z : Option Nat) (s : Nat) (es : List Value) (i : Nat) : Option Value := optK z (fun z => bif Nat.beq s z then optK es[i]? (fun u => some (eptrV u)) none else none) none
def elSz (P : Program) (t : TypeId) : Option Nat := sliceTK P t (fun _ s => some s) none
def rdIA (P : Program) (t : TypeId) (x : Option Value) (i : Nat) : Option Value := match x with
  | some (.slice (some ⟨b, off, none⟩) len _) => optK (elSz P t) (fun s => bif Nat.blt i len then natF (Nat.add off (Nat.mul i s)) (fun o => some (.pointer (some ⟨b, o, none⟩))) else none) none
  | some (.pointer (some ⟨b, off, none⟩)) =>
    arrTK P t (fun len s => bif Nat.blt i len then natF (Nat.add off (Nat.mul i s)) (fun o => some (.pointer (some ⟨b, o, none⟩))) else none) none
  | some v => rowVK v (fun s es => idxV (elSz P t) s es i) none
  | none => none
def rdIndexAddr (P : Program) (t : TypeId) (x ix : Option Value) : Option Value := match ix with
  | some (.int _ i) => intNK i (rdIA P t x) none
  | _ => none
def rdIx (P : Program) (t : TypeId) (cs : List Value) (i : Nat) : Option Value := match P.underlying t with
    | some (.array len e) => bif Nat.blt i len then (match aggQ P e with
      | some true => match szOf P e with
        | some s => bif Nat.ble (i * s + s) cs.length then some (.agg ⟨(cs.drop (i * s)).take s⟩) else none
        | none => none
      | some false => match szOf P e with
        | some s => cs[i * s]?
        | none => none
      | none => none) else none
    | _ => none
def rdIndex (P : Program) (t : TypeId) (x ix : Option Value) : Option Value := match ix with
  | some (.int k i) => (match x with
    | some (.agg ⟨cs⟩) => intNK i (rdIx P t cs) none
    | some v => indexV P t v (.int k i)
    | none => none)
  | _ => none
def rdExtract (v : Option Value) (i : Nat) : Option Value := match v with
  | some (.tuple vs) => vs.toList[i]?
  | _ => none
def fieldIn (P : Program) (t : TypeId) (f : Nat) : Option (Nat × Option Nat) := match P.underlying t with
  | some (.struct fs) => match fs[f]? with
    | some fd => match aggQ P fd.type with
      | some true => match szOf P fd.type with
        | some s => some (fd.offset, some s)
        | none => none
      | some false => some (fd.offset, none)
      | none => none
    | none => none
  | _ => none
def fldV (p : Option (Nat × Option Nat)) (cs : List Value) : Option Value := match p with
    | some (off, some s) => bif Nat.ble (off + s) cs.length then some (.agg ⟨(cs.drop off).take s⟩) else none
    | some (off, none) => cs[off]?
    | none => none
def rdField (P : Program) (t : TypeId) (v : Option Value) (f : Nat) : Option Value := match v with
  | some (.agg ⟨cs⟩) => fldV (fieldIn P t f) cs
  | _ => none
def fldA (p : Option (Nat × Option Nat)) (cs : List Value) : Option Value := match p with
    | some (off, some s) => bif Nat.ble (off + s) cs.length then some (.agg ⟨(cs.drop off).take s⟩) else none
    | some (off, none) => optK cs[off]? (fun v => bif oneCell v then some v else none) none
    | none => none
def faV (d : Option Nat) (p : Option (Nat × Option Nat)) (v : Value) : Option Value := match v with
  | .pointer (some ⟨b, off, none⟩) => optK d (fun d => natF (Nat.add off d) fun o => some (.pointer (some ⟨b, o, none⟩))) none
  | v => epK v (fun u => optK d (fun _ => match u with
    | .agg ⟨cs⟩ => optK (fldA p cs) (fun x => some (eptrV x)) none
    | _ => none) none) none
def rdFieldAddr (P : Program) (s : TypeId) (v : Option Value) (f : Nat) : Option Value := optK v (faV (fieldOff P s f) (fieldIn P s f)) none
def sliceN (b off cap s l h : Nat) : Option Value :=
  bif Nat.ble l h && Nat.ble h cap && Nat.blt cap unk then
    natF (Nat.sub h l) fun n => (bif Nat.beq cap l then some (.slice (some ⟨b, off, none⟩) n 0) else natF (Nat.add off (Nat.mul l s)) fun o => natF (Nat.sub cap l) fun c => some (.slice (some ⟨b, o, none⟩) n c))
  else none
/-- The elements of a block are of this size. -/
def esIs (P : Program) (H : T OB) (b s : Nat) : Bool := cellsK (H.get (bits b)) (fun _ _ el => optK (szOf P el) (fun z => Nat.beq z s) false) false
def sliceU (P : Program) (H : T OB) (b off len s l h : Nat) : Option Value :=
  bif Nat.ble l h && Nat.ble h len then
    (bif Nat.beq l 0 then some (.slice (some ⟨b, off, none⟩) h unk)
     else bif Nat.blt l len && esIs P H b s then natF (Nat.sub h l) (fun n => natF (Nat.add off (Nat.mul l s)) fun o => some (.slice (some ⟨b, o, none⟩) n unk)) else none)
  else none
def slR (es : List Value) (s l h : Nat) : Option Value := bif Nat.ble l h && Nat.ble h es.length then some (rowV s ((es.drop l).take (h - l))) else none
def isRowV (v : Value) : Bool := rowVK v (fun _ _ => true) false
def rdSlice (P : Program) (H : T OB) (t : TypeId) (x : Option Value) (lo hi mx : Option (Option Value)) : Option Value := match x with
  | some (.slice (some ⟨b, off, none⟩) len cap) => bif (match mx with | some none => true | _ => false) then
    optK (elSz P t) (fun s => optK (bound lo 0) (fun l => optK (bound hi len) (fun h => bif Nat.beq cap unk then sliceU P H b off len s l h else sliceN b off cap s l h) none) none) none else none
  | some (.pointer (some ⟨b, off, none⟩)) => bif (match mx with | some none => true | _ => false) then
    arrTK P t (fun n s => optK (bound lo 0) (fun l => optK (bound hi n) (fun h => sliceN b off n s l h) none) none) none else none
  | some v => bK (isRowV v) (bif (match mx with | some none => true | _ => false) then rowVK v (fun s es => optK (elSz P t) (fun z => bif Nat.beq s z then optK (bound lo 0) (fun l => optK (bound hi es.length) (fun h => slR es s l h) none) none else none) none) none else none) (sliceV P t v lo hi mx)
  | none => none
def isSliceT (P : Program) (t : Option TypeId) : Bool := match t with
  | some t => match P.underlying t with
    | some (.slice _) => true
    | _ => false
  | none => false
def rdLen (P : Program) (ts : Array TypeId) (ty : TypeId) (vs : Option (List Value)) : Option Value := match vs with
  | some [.slice (some _) n _] => bif isSliceT P ts[0]? then some (.int .i64 (.ofNat n)) else none
  | some [v] => bK (isRowV v) (rowVK v (fun _ es => bif isSliceT P ts[0]? then some (.int .i64 (.ofNat es.length)) else none) none) (bltV P .len ts ty (some [v]))
  | _ => none
def rdCmp (P : Program) (op : BinOp) (t : TypeId) (a b : Value) : Option Value := match P.underlying t with
  | some d => match nilCmp d a b with
    | some r => (match op with
      | .eql => some (.bool r)
      | .neq => some (.bool (!r))
      | _ => none)
    | none => none
  | none => none
def isCells (H : T OB) (b : Nat) : Bool := cellsK (H.get (bits b)) (fun _ _ _ => true) false
/-- Two addresses: are they one? -/
def rdPtr (P : Program) (H : T OB) (op : BinOp) (t : TypeId) (a b : Value) : Option Value := match P.underlying t, a, b with
  | some (.pointer e), .pointer (some ⟨x, i, none⟩), .pointer (some ⟨y, j, none⟩) => match szOf P e with
    | some (_ + 1) => bif isCells H x && isCells H y then (match op with
      | .eql => some (.bool (Nat.beq x y && Nat.beq i j))
      | .neq => some (.bool (!(Nat.beq x y && Nat.beq i j)))
      | _ => none) else none
    | _ => none
  | _, _, _ => rdCmp P op t a b
def isNI (v : Value) : Bool := match v with
  | .nilIface => true
  | _ => false
def isK (x : Operand) : Bool := match x with
  | .const _ => true
  | _ => false
def kOp : Operand := .const .nilIface
def binV (P : Program) (op : BinOp) (t : TypeId) (a b : Value) : Option Value := fV P (do eqGuard op t kOp kOp a b; binOp op t a b)
/-- Two structs of numbers, texts and bools. -/
def cellEq (k : Nat) (v w : Value) : Option Bool := match k, v, w with
  | 0, .int k a, .int k' b => bif decide (k = k') then some (a == b) else none
  | 1, .string a, .string b => some (a.toList == b.toList)
  | 2, .bool a, .bool b => some (a == b)
  | _, _, _ => none
def aggEq (ks : List Nat) (l m : List Value) : Option Bool := match ks, l, m with
  | [], [], [] => some true
  | k :: ks, a :: l, b :: m => optK (cellEq k a b) (fun r => optK (aggEq ks l m) (fun r' => some (r && r')) none) none
  | _, _, _ => none
def scalK (P : Program) (t : TypeId) : Option Nat := match P.underlying t with
  | some (.int _) => some 0
  | some .string => some 1
  | some .bool => some 2
  | _ => none
def fieldsK (P : Program) : List Field → Nat → Option (List Nat)
  | [], _ => some []
  | f :: fs, i => bif !(f.name == "_") && Nat.beq f.offset i then optK (scalK P f.type) (fun k => optK (fieldsK P fs (i + 1)) (fun ks => some (k :: ks)) none) none else none
def plainK (P : Program) (t : TypeId) : Option (List Nat) := match P.underlying t with
  | some (.struct fs) => bif !P.stoodInHeld t && !P.eqGuardType P.depth t then fieldsK P fs.toList 0 else none
  | _ => none
def eqB (op : BinOp) (r : Bool) : Option Value := match op with
  | .eql => some (.bool r)
  | .neq => some (.bool (!r))
  | _ => none
def rdBin2 (P : Program) (H : T OB) (op : BinOp) (t : TypeId) (q : Bool) (a b : Value) : Option Value :=
  bif flat a && flat b then (bif q || !(isNI a && isNI b) then binV P op t a b else none) else rdPtr P H op t a b
def rdAgg (n : Option (List Nat)) (op : BinOp) (l m : List Value) (bad : Option Value) : Option Value := match n with
  | some ks => optK (aggEq ks l m) (eqB op) none
  | none => bad
def rdBin1 (P : Program) (H : T OB) (op : BinOp) (t : TypeId) (q : Bool) (a b : Value) : Option Value := match a, b with
  | .agg ⟨l⟩, .agg ⟨m⟩ => rdAgg (plainK P t) op l m (rdBin2 P H op t q (.agg ⟨l⟩) (.agg ⟨m⟩))
  | a, b => rdBin2 P H op t q a b
def rdBin (P : Program) (H : T OB) (op : BinOp) (t : TypeId) (q : Bool) (x y : Option Value) : Option Value :=
  optK x (fun a => optK y (rdBin1 P H op t q a) none) none
def rdBuild (P : Program) (t : TypeId) (ps : Option (List (Nat × Value))) : Option Value :=
  optK ps (fun vs => optK (zeroC P t) (fun _ => optK (P.built t vs) (fun cs => valF (.agg cs) some) none) none) none
def rdIface (P : Program) (t : TypeId) (v : Option Value) : Option Value := match P.underlying t with
  | some (.interface _) => none
  | some _ => optK v (fun v => some (.iface t v)) none
  | none => none
def rdFunc (fn : Fn) (first : List Operand) (cap : Option (List Value)) : Option Value := match fn, first with
  | .func g, [] => optK cap (fun l => some (.func (.func g) #[] ⟨l⟩)) none
  | _, _ => none
def zeroF (P : Program) (t : TypeId) : Option Value := match P.info? t with
  | some i => (match i.zero with | some z => bif flat z then some z else none | none => none)
  | none => none
def okV (ok : Bool) (v : Value) (b : Bool) : Value := bif ok then .tuple #[v, .bool b] else v
def notIface (P : Program) (t : TypeId) : Bool := match P.underlying t with
  | some (.interface _) => false
  | some _ => true
  | none => false
def rdAssert (P : Program) (v : Option Value) (t : TypeId) (ok : Bool) : Option Value := bif notIface P t then (match v with
    | some (.iface u x) => bif Nat.beq u t then some (okV ok x true) else bif ok then optK (zeroF P t) (fun z => some (.tuple #[z, .bool false])) none else none
    | some .nilIface => bif ok then optK (zeroF P t) (fun z => some (.tuple #[z, .bool false])) none else none
    | _ => none) else none
def keyKind (d : TypeDesc) : Bool := match d with
  | .int _ => true
  | .string => true
  | .bool => true
  | _ => false
def esOf (H : T OB) (m : Option Value) : Option (List MapEntry) := match m with
  | some (.map none) => some []
  | some (.map (some b)) => match H.get (bits b) with
    | some (.map es _) => some es
    | _ => none
  | _ => none
def mapTK {β : Type} (P : Program) (t : TypeId) (k : TypeDesc → TypeId → β) (bad : β) : β := match P.underlying t with
  | some (.map kt et) => optK (P.underlying kt) (fun d => bif keyKind d then k d et else bad) bad
  | _ => bad
def lookV (P : Program) (et : TypeId) (ok : Bool) (r : Option (Option (Nat × Value))) : Option Value := match r with
  | some (some (_, v)) => some (okV ok v true)
  | some none => optK (zeroF P et) (fun z => some (okV ok z false)) none
  | none => none
def rdLookup (P : Program) (H : T OB) (t : TypeId) (m k : Option Value) (ok : Bool) : Option Value :=
  mapTK P t (fun d et => optK (esOf H m) (fun es => optK k (fun k => lookV P et ok (Instr.findNow d k es 0)) none) none) none
def strOf (l : List Value) : Option (List UInt8) := match l with
  | [] => some []
  | .int .u8 (.ofNat n) :: l => match strOf l with | some r => some (n.toUInt8 :: r) | none => none
  | _ => none
def isBytesT (P : Program) (s d : TypeId) : Bool := match P.underlying s, P.underlying d with
  | some (.slice e), some .string => (match P.underlying e with | some (.int .u8) => true | _ => false)
  | _, _ => false
def rdConv (P : Program) (H : T OB) (s d : TypeId) (x : Option Value) : Option Value := match x with
  | some (.slice (some ⟨b, off, none⟩) n _) => bif isBytesT P s d then rowK (H.get (bits b)) (fun m tr => bif Nat.ble (off + n) m then optK (toL tr n off) (fun l => optK (strOf l) (fun r => some (.string ⟨⟨r⟩⟩)) none) none else none) none else none
  | some v => bK (isRowV v) (rowVK v (fun s' es => bif isBytesT P s d && Nat.beq s' 1 then optK (strOf es) (fun r => some (.string ⟨⟨r⟩⟩)) none else none) none) (convV P s d v)
  | none => none
def rdCall (P : Program) (tm : T Value) (o : Oper) (c : Call) : Option Value := match c.callee with
  | .builtin .len => rdLen P c.argTypes o.type (evs P tm c.args.toList)
  | .builtin .max => bltV P .max c.argTypes o.type (evs P tm c.args.toList)
  | .builtin .min => bltV P .min c.argTypes o.type (evs P tm c.args.toList)
  | _ => none

/-- An operation that leaves memory as it is. -/
def rd (P : Program) (H : T OB) (tm : T Value) (o : Oper) : Option Value := match o.op with
  | .move x => eva P tm x
  | .assign x => eva P tm x
  | .pick c a b => rdPick (eva P tm c) (eva P tm a) (eva P tm b)
  | .load t x => rdLoad P H t (eva P tm x)
  | .nilCheck x => rdNil (eva P tm x)
  | .fieldAddr s x f => rdFieldAddr P s (eva P tm x) f
  | .indexAddr t x ix => rdIndexAddr P t (eva P tm x) (eva P tm ix)
  | .extract x i => rdExtract (eva P tm x) i
  | .field t x f => rdField P t (eva P tm x) f
  | .slice t x lo hi mx => rdSlice P H t (eva P tm x) (evaO P tm lo) (evaO P tm hi) (evaO P tm mx)
  | .call c => rdCall P tm o c
  | .binOp op t x y _ => rdBin P H op t (isK x || isK y) (eva P tm x) (eva P tm y)
  | .build t ps => rdBuild P t (parts P tm ps.toList)
  | .makeInterface t x => rdIface P t (eva P tm x)
  | .unOp op _ x => unV P op (eva P tm x)
  | .convert s d x => rdConv P H s d (eva P tm x)
  | .makeFunc fn a b => rdFunc fn a.toList (evs P tm b.toList)
  | .typeAssert x _ t ok => rdAssert P (eva P tm x) t ok
  | .lookup t m k ok => rdLookup P H t (eva P tm m) (eva P tm k) ok
  | .index t x ix => rdIndex P t (eva P tm x) (eva P tm ix)
  | _ => none

/-- Does the operation leave memory as it is? -/
def isRd : Op → Bool
  | .move _ => true
  | .assign _ => true
  | .pick _ _ _ => true
  | .load _ _ => true
  | .nilCheck _ => true
  | .fieldAddr _ _ _ => true
  | .indexAddr _ _ _ => true
  | .extract _ _ => true
  | .field _ _ _ => true
  | .slice _ _ _ _ _ => true
  | .build _ _ => true
  | .makeInterface _ _ => true
  | .binOp _ _ _ _ _ => true
  | .unOp _ _ _ => true
  | .convert _ _ _ => true
  | .index _ _ _ => true
  | .makeFunc _ _ _ => true
  | .typeAssert _ _ _ _ => true
  | .lookup _ _ _ _ => true
  | .call c => match c.callee with
    | .builtin b => (match b with | .len => true | .max => true | .min => true | _ => false)
    | _ => false
  | _ => false

/-- A new variable: it can be made at any time. -/
def isBs : Op → Bool
  | .buildSlice _ _ _ => true
  | _ => false
def isAl : Op → Bool
  | .alloc _ => true
  | .buildSlice _ _ _ => true
  | _ => false

def newK {β : Type} (H : T OB) (nx : Nat) (e : TypeId) (l : List Value) (k : T OB → Nat → β) : β :=
  fromLK l 0 .leaf fun t => natF l.length fun n => setK (bits nx) H (some (.cells n t e)) fun H => natF (Nat.succ nx) fun n => k H n

def callOk (P : Program) (f : FuncId) : Bool := match P.funcs[f]? with
  | some fn => fn.body.isSome && !(fn.name == "runtime.NumGoroutine")
  | none => false

/-- What an operation that is no reader comes to. -/
inductive Eff where
  | val (v : Value) (H : T OB) (nx : Nat)
  | call (f : FuncId) (args : List Value)
  | dfr (f : FuncId) (args : List Value)
  | pan (v : Value)
  | rcv
  | bad

def ptrAt (nx : Nat) : Value := .pointer (some ⟨nx, 0, none⟩)
def efAlloc (P : Program) (H : T OB) (nx : Nat) (e : TypeId) : Eff :=
  optK (zeroC P e) (fun l => newK H nx e l fun H n => .val (ptrAt nx) H n) .bad
def efBox (H : T OB) (nx : Nat) (e : TypeId) (v : Option Value) : Eff :=
  optK v (fun v => newK H nx e v.cells.toList fun H n => .val (ptrAt nx) H n) .bad
def efStore (P : Program) (H : T OB) (nx : Nat) (t : TypeId) (a v : Option Value) : Eff :=
  ptrK a (fun b off => optK v (fun v => cellsK (H.get (bits b)) (fun n tr e => optK (szOf P t) (fun s =>
    bif Nat.beq v.cells.toList.length s && Nat.ble (off + s) n && v.cells.toList.all oneCell then
      fromLK v.cells.toList off tr fun tr => setK (bits b) H (some (.cells n tr e)) fun H => .val undef H nx
    else .bad) .bad) .bad) .bad) .bad
def zeroRow (z : List Value) (n : Nat) : Array Value := (Array.range n).map (z.toArray[· % z.toArray.size]!)
def efBuildSlice (P : Program) (H : T OB) (nx : Nat) (t : TypeId) (len : Nat) (ps : Option (List (Nat × Value))) : Eff :=
  optK ps (fun vs => sliceTK P t (fun e s => optK (zeroC P e) (fun z =>
    bif Nat.ble (len * s) 16777216 && Nat.blt 0 (len * s) && Nat.blt 0 z.length then
      optK (Instr.fill (fun i => some (i * s, s)) (zeroRow z (len * s)) vs) (fun cells => newK H nx e cells.toList fun H n => natF len fun len => .val (.slice (some ⟨nx, 0, none⟩) len len) H n) .bad
    else .bad) .bad) .bad) .bad
def rowL (z : List Value) : Nat → List Value
  | 0 => []
  | n + 1 => z ++ rowL z n
def mkSl (P : Program) (H : T OB) (nx : Nat) (e : TypeId) (l c : Nat) : Eff := match P.info? e, zeroC P e with
    | some i, some z =>
      bif Nat.ble l c && Nat.ble (i.bytes * c) 281474976710656 && Nat.ble c 274877906944 && Nat.beq i.size z.length && Nat.blt 0 i.size then (match z with
        | [z] => setK (bits nx) H (some (.cells c (full 40 z) e)) fun H => natF (Nat.succ nx) fun n => .val (.slice (some ⟨nx, 0, none⟩) l c) H n
        | z => bif Nat.ble (c * i.size) 40000 then newK H nx e (rowL z c) fun H n => .val (.slice (some ⟨nx, 0, none⟩) l c) H n else .bad)
      else .bad
    | _, _ => .bad
def efMakeSlice (P : Program) (H : T OB) (nx : Nat) (t : TypeId) (l c : Option Value) : Eff := match l, c, P.underlying t with
  | some (.int .i64 l), some (.int .i64 c), some (.slice e) => intNK l (fun l => intNK c (fun c => mkSl P H nx e l c) .bad) .bad
  | _, _, _ => .bad
def efGo (P : Program) (f : Option Value) (l : Option (List Value)) : Eff := match f with
  | some (.func (.func g) ⟨[]⟩ ⟨cap⟩) => optK l (fun l => bif callOk P g then .call g (l ++ cap) else .bad) .bad
  | _ => .bad
/-- The cells behind a slice. -/
def cellsOf (H : T OB) (s : Nat) (base : Option Addr) (n : Nat) : Option (List Value) := match base with
  | none => bif Nat.beq n 0 then some [] else none
  | some ⟨b, off, none⟩ => rowK (H.get (bits b)) (fun m tr => bif Nat.ble (off + n * s) m then toL tr (n * s) off else none) none
  | _ => none
def apNew (H : T OB) (nx : Nat) (e : TypeId) (m : Nat) (l : List Value) : Eff :=
  newK H nx e l fun H n => natF m fun m => .val (.slice (some ⟨nx, 0, none⟩) m unk) H n
/-- Behind a slice whose capacity is not known: what was its block is no more. -/
def apU (P : Program) (H : T OB) (nx : Nat) (e : TypeId) (s b off sl xl n : Nat) (tr : T Value) (xs : List Value) : Eff :=
  bif Nat.beq off 0 && Nat.ble (sl * s) n && esIs P H b s && xs.all oneCell then
    optK (toL tr (sl * s) 0) (fun old => setK (bits b) H (some .dead) fun H => apNew H nx e (sl + xl) (old ++ xs)) .bad else .bad
def apIn (H : T OB) (nx : Nat) (s b off sl sc xl n : Nat) (tr : T Value) (el : TypeId) (xs : List Value) : Eff :=
  bif Nat.ble (off + sc * s) n && xs.all oneCell then
    fromLK xs (off + sl * s) tr fun tr => setK (bits b) H (some (.cells n tr el)) fun H => natF (sl + xl) fun m => .val (.slice (some ⟨b, off, none⟩) m sc) H nx
  else .bad
def apOut (H : T OB) (nx : Nat) (e : TypeId) (s off sl xl n : Nat) (tr : T Value) (xs : List Value) : Eff :=
  bif Nat.ble (off + sl * s) n && Nat.blt 0 xl then optK (toL tr (sl * s) off) (fun old => apNew H nx e (sl + xl) (old ++ xs)) .bad else .bad
def apAt (P : Program) (H : T OB) (nx : Nat) (e : TypeId) (s b off sl sc xl : Nat) (xs : List Value) : Eff :=
  cellsK (H.get (bits b)) (fun n tr el => bif Nat.beq sc unk then apU P H nx e s b off sl xl n tr xs
    else bif Nat.ble (sl + xl) sc then apIn H nx s b off sl sc xl n tr el xs else apOut H nx e s off sl xl n tr xs) .bad
/-- So few, and so small, that a row of them can be. -/
def apSmall (P : Program) (e : TypeId) (s need : Nat) : Bool := match P.info? e, zeroC P e with
  | some i, some z => Nat.beq z.length s && Nat.blt 0 s && Nat.ble need 1048576 && Nat.ble i.bytes 65536
  | _, _ => false
def apGo (P : Program) (H : T OB) (nx : Nat) (e : TypeId) (s : Nat) (base : Option Addr) (sl sc xl : Nat) (xs : List Value) : Eff := match base with
  | none => bif Nat.beq sl 0 && Nat.beq sc 0 then (bif Nat.beq xl 0 then .val (.slice none 0 0) H nx else apNew H nx e xl xs) else .bad
  | some ⟨b, off, none⟩ => apAt P H nx e s b off sl sc xl xs
  | _ => .bad
/-- How many are added, and their cells. -/
def xsOf (H : T OB) (s : Nat) (v : Value) : Option (Nat × List Value) := match v with
  | .slice xb xl _ => optK (cellsOf H s xb xl) (fun l => some (xl, l)) none
  | v => rowVK v (fun s' es => bif Nat.beq s' s then some (es.length, es.flatMap fun u => u.cells.toList) else none) none
def efAppend (P : Program) (H : T OB) (nx : Nat) (ts : List TypeId) (l : Option (List Value)) : Eff := match l, ts with
  | some [.slice base sl sc, xv], [t, u] => bif !Nat.beq t u then .bad else sliceTK P t (fun e s => optK (xsOf H s xv) (fun p => bif apSmall P e s (sl + p.1) then apGo P H nx e s base sl sc p.1 p.2 else .bad) .bad) .bad
  | _, _ => .bad
def mapK {β : Type} (x : Option OB) (k : List MapEntry → Nat → β) (bad : β) : β := match x with
  | some (.map es c) => k es c
  | _ => bad
def updM (H : T OB) (nx b : Nat) (es : List MapEntry) (c : Nat) (k v : Value) (r : Option (Option (Nat × Value))) : Eff := match r with
  | some (some (i, _)) => setK (bits b) H (some (.map (es.modify i fun e => { e with key := k, val := v }) c)) fun H => .val undef H nx
  | some none => natF (Nat.succ c) fun c' => setK (bits b) H (some (.map (es ++ [⟨k, v, c⟩]) c')) fun H => .val undef H nx
  | none => .bad
def mapAt (m : Option Value) : Option Nat := match m with
  | some (.map (some b)) => some b
  | _ => none
def efMapUpdate (P : Program) (H : T OB) (nx : Nat) (t : TypeId) (m k v : Option Value) : Eff :=
  mapTK P t (fun d _ => optK (mapAt m) (fun b => optK k (fun k => optK v (fun v => mapK (H.get (bits b)) (fun es c => updM H nx b es c k v (Instr.findNow d k es 0)) .bad) .bad) .bad) .bad) .bad
def isMapT (P : Program) (t : TypeId) : Bool := match P.underlying t with
  | some (.map _ _) => true
  | _ => false
def newIter (H : T OB) (nx : Nat) (m : Option Nat) (c : Nat) : Eff :=
  setK (bits nx) H (some (.iter m c [] c)) fun H => natF (Nat.succ nx) fun n => .val (ptrAt nx) H n
def efRange (P : Program) (H : T OB) (nx : Nat) (t : TypeId) (m : Option Value) : Eff := bif isMapT P t then (match m with
  | some (.map none) => newIter H nx none 0
  | some (.map (some b)) => mapK (H.get (bits b)) (fun _ c => newIter H nx (some b) c) .bad
  | _ => .bad) else .bad
def iterK {β : Type} (x : Option OB) (k : Option Nat → Nat → List Nat → Nat → β) (bad : β) : β := match x with
  | some (.iter m s l c) => k m s l c
  | _ => bad
/-- The one entry that an iteration over a map can come to, if there is but one way on. -/
def nextV1 (H : T OB) (nx r m since c : Nat) (seen : List Nat) (l : List MapEntry) : Eff := match l with
  | [] => .val (.tuple #[.bool false]) H nx
  | [e] => bif Nat.blt e.born since then setK (bits r) H (some (.iter (some m) since (seen ++ [e.born]) c)) fun H => .val (.tuple #[.bool true, e.key, e.val]) H nx else .bad
  | _ => .bad
def nextM (H : T OB) (nx r m since last : Nat) (seen : List Nat) : Eff :=
  mapK (H.get (bits m)) (fun es c => bif !seen.isEmpty && !es.isEmpty && es.all (fun e => Nat.ble last e.born) then .bad else nextV1 H nx r m since c seen (es.filter fun e => !seen.contains e.born)) .bad
def efNext (H : T OB) (nx : Nat) (it : Option Value) (isString : Bool) : Eff := bif isString then .bad else
  ptrK it (fun r off => bif Nat.beq off 0 then iterK (H.get (bits r)) (fun m since seen last => match m with
    | none => .val (.tuple #[.bool false]) H nx
    | some m => nextM H nx r m since last seen) .bad else .bad) .bad
def entryV (H : T OB) (nx : Nat) (es : List MapEntry) (st : Nat) : Eff := match es.find? (fun e => e.born == st) with
  | some e => .val (.tuple #[e.key, e.val]) H nx
  | none => .bad
def efEntry (H : T OB) (nx : Nat) (it : Option Value) : Eff :=
  ptrK it (fun r off => bif Nat.beq off 0 then iterK (H.get (bits r)) (fun m _ seen last => optK m (fun m => optK seen.getLast? (fun st => mapK (H.get (bits m)) (fun es c => bif Nat.beq c last then entryV H nx es st else .bad) .bad) .bad) .bad) .bad else .bad) .bad
def isStrT (P : Program) (t : TypeId) : Bool := match P.underlying t with
  | some .string => true
  | _ => false
def efAppS (P : Program) (H : T OB) (nx : Nat) (ts : List TypeId) (l : Option (List Value)) : Eff := match l, ts with
  | some [.slice base sl sc, .string b], [t, u] => bif isStrT P u then sliceTK P t (fun e s => bif apSmall P e s (sl + b.size) && Nat.beq s 1 then apGo P H nx e s base sl sc b.size (b.data.toList.map fun x => .int .u8 (.ofNat x.toNat)) else .bad) .bad else .bad
  | _, _ => efAppend P H nx ts l
def efCall (P : Program) (H : T OB) (nx : Nat) (tm : T Value) (c : Call) : Eff := match c.callee with
  | .value f => efGo P (eva P tm f) (evs P tm c.args.toList)
  | .builtin .append => efAppS P H nx c.argTypes.toList (evs P tm c.args.toList)
  | .builtin .recover => .rcv
  | .builtin .panic => .bad
  | _ => .bad

def panV (v : Option Value) : Eff := match v with
  | some (.iface t v) => .pan (.iface t v)
  | _ => .bad
def efDefer (c : Eff) : Eff := match c with
  | .call f l => .dfr f l
  | _ => .bad
def efMakeMap (H : T OB) (nx : Nat) : Eff := setK (bits nx) H (some (.map [] 0)) fun H => natF (Nat.succ nx) fun n => .val (.map (some nx)) H n
def ef (P : Program) (H : T OB) (nx : Nat) (tm : T Value) (o : Oper) : Eff := match o.op with
  | .alloc e => efAlloc P H nx e
  | .box e x => efBox H nx e (eva P tm x)
  | .store t a x => efStore P H nx t (eva P tm a) (eva P tm x)
  | .buildSlice t len ps => efBuildSlice P H nx t len (parts P tm ps.toList)
  | .makeSlice t l c => efMakeSlice P H nx t (eva P tm l) (eva P tm c)
  | .makeMap _ r => match r with | none => efMakeMap H nx | some _ => .bad
  | .call c => efCall P H nx tm c
  | .defer c => efDefer (efCall P H nx tm c)
  | .panic x => panV (eva P tm x)
  | .mapUpdate t m k v => efMapUpdate P H nx t (eva P tm m) (eva P tm k) (eva P tm v)
  | .range t m => efRange P H nx t (eva P tm m)
  | .next it b => efNext H nx (eva P tm it) b
  | .entry it => efEntry H nx (eva P tm it)
  | _ => .bad

/-! control -/
def dstOf (ops : Array Oper) (j : Nat) : Option Tmp := match ops[j]? with
  | some g => g.dst
  | none => none
def yieldO (tm : T Value) (d : Tmp) (want : Bool) : Option Bool := match tm.get (bits d) with
  | some (.bool b) => some (b == want)
  | some (.tuple _) => some false
  | _ => none
def wantedO (tm : T Value) (ops : Array Oper) (o : Oper) : Option Bool := match o.guard with
  | none => some true
  | some p => optK (dstOf ops p.1) (fun d => yieldO tm d p.2) none

def putK {β : Type} (nt : Nat) (tm : T Value) (dst : Option Tmp) (v : Value) (k : T Value → β) (bad : β) : β := match dst with
  | none => k tm
  | some d => bif Nat.blt d nt then setK (bits d) tm (some v) k else bad

/-! regions with a draw: a fixed order -/
def direct (o : Oper) (j : Nat) : Bool := o.after.toList.any fun e => Region.binds .any e && e.on == j
def readyIn (ops : Array Oper) (done : List Nat) (o : Oper) : Bool := o.after.toList.all fun e => !Region.binds .any e || done.contains e.on

/-- Those whose result another looks at that doesn't hang on them: it looks at what was there before. -/
def antis (ops : Array Oper) : List Nat := (List.range ops.size).filter fun j => match ops[j]? with
  | some q => (match q.dst with
    | none => false
    | some d => (List.range ops.size).any fun i => match ops[i]? with
      | some p => (p.looksAt ops).contains d && !direct p j
      | none => false)
  | none => false
/-- May it be given ahead? -/
def fore (an : List Nat) (i : Nat) (o : Oper) : Bool := (isRd o.op || isAl o.op) && !an.contains i
/-- Takes what is ready of 'todo': readers as they come; another if it alone is ready. -/
def planGo (ops : Array Oper) (an : List Nat) : Nat → List Nat → List Nat → Option (List Nat)
  | 0, _, todo => if todo.isEmpty then some [] else none
  | f + 1, done, todo =>
    match todo with
    | [] => some []
    | _ => match todo.find? fun i => match ops[i]? with | some o => fore an i o && readyIn ops done o | none => false with
      | some i => (planGo ops an f (i :: done) (todo.filter (· != i))).map (i :: ·)
      | none => match todo.filter fun i => match ops[i]? with | some o => readyIn ops done o | none => false with
        | [i] => (planGo ops an f (i :: done) (todo.filter (· != i))).map (i :: ·)
        | _ => none

/-- Does what the operation reads hang on memory? -/
def isLd : Op → Bool
  | .load _ _ => true
  | .slice _ _ _ _ _ => true
  | .lookup _ _ _ _ => true
  | .convert _ _ _ => true
  | .binOp _ _ _ _ _ => true
  | _ => false

/-- What an operation hangs on, through others. -/
def ancGo (ops : Array Oper) : Nat → List Nat → List Nat
  | 0, acc => acc
  | q + 1, acc => if acc.contains q then (match ops[q]? with
      | some o => ancGo ops q (o.after.toList.foldl (fun l e => if Region.binds .any e then e.on :: l else l) acc)
      | none => ancGo ops q acc) else ancGo ops q acc
def ancs (ops : Array Oper) (i : Nat) : List Nat := match ops[i]? with
  | some o => ancGo ops i (o.after.toList.foldl (fun l e => if Region.binds .any e then e.on :: l else l) [])
  | none => []

/-- Is a list an order in which each reader is ready when its turn comes, and another is the one that is? Behind the other stand the loads, given ahead, that it may come before. -/
def okPlan (ops : Array Oper) (an : List Nat) : List Nat → List Nat → List (Nat × List Nat) → Bool
  | done, _, [] => (List.range ops.size).all done.contains
  | done, lds, (i, chk) :: rest => match ops[i]? with
    | none => false
    | some o => !done.contains i && readyIn ops done o &&
      (if fore an i o then okPlan ops an (i :: done) (if isLd o.op then i :: lds else lds) rest
       else (!isRd o.op || chk.isEmpty) && (rest.all fun j => match ops[j.1]? with | some q => !readyIn ops done q | none => false) &&
        (lds.all fun p => chk.contains p || (ancs ops i).contains p) && okPlan ops an (i :: done) chk rest)

/-- Each temporary is written by one operation; who reads it hangs on that one by an edge of its own, or that one on it. -/
def saOk (ops : Array Oper) : Bool :=
  (List.range ops.size).all fun i => (List.range ops.size).all fun j => match ops[i]?, ops[j]? with
    | some p, some q =>
      (match q.dst with
        | none => true
        | some d => (!(p.looksAt ops).contains d || direct p j || direct q i) && (i == j || p.dst != some d))
    | _, _ => true
def acyclic (ops : Array Oper) : Bool :=
  (List.range ops.size).all fun i => match ops[i]? with | some o => o.after.toList.all fun e => !Region.binds .any e || Nat.blt e.on i | none => true

/-- The loads, given ahead, that stand behind each operation that is no reader. -/
def annot (ops : Array Oper) (an : List Nat) : List Nat → List Nat → List (Nat × List Nat)
  | _, [] => []
  | lds, i :: rest => match ops[i]? with
    | none => []
    | some o => if fore an i o then (i, []) :: annot ops an (if isLd o.op then i :: lds else lds) rest
      else let chk := lds.filter fun p => !(ancs ops i).contains p
        (i, chk) :: annot ops an chk rest
/-- What is not given ahead: those, and rows that are written out where that is not needed. -/
def anOf (ops : Array Oper) : List Nat :=
  match planGo ops (antis ops ++ (List.range ops.size).filter fun j => match ops[j]? with | some o => isBs o.op | none => false) ops.size [] (List.range ops.size) with
  | some _ => antis ops ++ (List.range ops.size).filter fun j => match ops[j]? with | some o => isBs o.op | none => false
  | none => antis ops
def planOf (ops : Array Oper) : Option (List (Nat × List Nat)) :=
  match planGo ops (anOf ops) ops.size [] (List.range ops.size) with
  | none => none
  | some l => if saOk ops && acyclic ops && Region.noSelect ops && okPlan ops (anOf ops) [] [] (annot ops (anOf ops) [] l) then some (annot ops (anOf ops) [] l) else none

def vEqL (eq : Value → Value → Bool) : List Value → List Value → Bool
  | [], [] => true
  | a :: l, b :: m => eq a b && vEqL eq l m
  | _, _ => false
/-- Surely the same. -/
def vEqN : Nat → Value → Value → Bool
  | 0, _, _ => false
  | n + 1, v, w => match v, w with
    | .bool a, .bool b => a == b
    | .int j a, .int k b => j == k && a == b
    | .string a, .string b => decide (a = b)
    | .pointer none, .pointer none => true
    | .pointer (some ⟨a, o, none⟩), .pointer (some ⟨b, q, none⟩) => a == b && o == q
    | .slice none l c, .slice none m d => l == m && c == d
    | .slice (some ⟨a, o, none⟩) l c, .slice (some ⟨b, q, none⟩) m d => a == b && o == q && l == m && c == d
    | .map none, .map none => true
    | .map (some a), .map (some b) => a == b
    | .nilIface, .nilIface => true
    | .nilFunc, .nilFunc => true
    | .iface t v, .iface u w => t == u && vEqN n v w
    | .agg a, .agg b => vEqL (vEqN n) a.toList b.toList
    | .tuple a, .tuple b => vEqL (vEqN n) a.toList b.toList
    | _, _ => false
def vEq (v w : Value) : Bool := vEqN 4 v w || @decide (v = w) (Classical.propDecidable _)

def heldV (tm : T Value) (dst : Option Tmp) (u : Value) : Bool := match dst with
  | none => true
  | some d => (match tm.get (bits d) with | some v => vEq u v | none => false)
def heldW (P : Program) (H : T OB) (tm : T Value) (o : Oper) (w : Option Bool) : Bool := match w with
  | some b => bK b (optK (rd P H tm o) (heldV tm o.dst) false) true
  | none => false
/-- What is promised of an operation, given ahead, still holds. -/
def held (P : Program) (H : T OB) (tm : T Value) (ops : Array Oper) (p : Nat) : Bool :=
  optK ops[p]? (fun o => heldW P H tm o (wantedO tm ops o)) false

/-! what a call comes to -/
inductive Out where
  | ret (v : Value)
  | pan (v : Value)
structure Rt where
  o : Out
  rc : Bool
  H : T OB
  nx : Nat
/-- A call at hand: its function, how many temporaries, is it a deferred one, what it has deferred, the panic that it can end, has it ended one. -/
structure Cg where
  fn : FuncId
  nt : Nat
  kd : Bool
  df : List (FuncId × List Value)
  rp : Option Value
  rc : Bool
inductive Cfg where
  | call (f : FuncId) (args : List Value) (kd : Bool) (rp : Option Value) (H : T OB) (nx : Nat)
  | at (c : Cg) (tm : T Value) (todo : List Item) (H : T OB) (nx : Nat)
inductive Q where
  | ret (r : Rt)
  | ask (c : Cfg) (k : Rt → Q)
  | jump (c : Cfg)
  | bad
def Q.run (O : Cfg → Option Rt) (q : Q) : Option Rt := @Q.rec (fun _ => Option Rt) some (fun c _ ih => optK (O c) ih none) O none q
/-- Which results, which arguments and which variables are held by value from there on; what is kept of a call's temporaries where it is cut. -/
structure Pol where
  frR : List (Nat × List Nat)
  frA : List (Nat × List Nat)
  frT : List (Nat × List Nat)
  lv : List ((Nat × Nat) × List Nat)
  cuts : Bool

def lookN (k : Nat) : List (Nat × List Nat) → List Nat
  | [] => []
  | p :: l => bif Nat.beq p.1 k then p.2 else lookN k l
def lookP (k j : Nat) : List ((Nat × Nat) × List Nat) → Option (List Nat)
  | [] => none
  | p :: l => bif Nat.beq p.1.1 k && Nat.beq p.1.2 j then some p.2 else lookP k j l

/-! held by value from here on -/
def chunk (a : Bool) (s : Nat) : Nat → List Value → Option (List Value)
  | 0, l => bif l.isEmpty then some [] else none
  | n + 1, l => bif Nat.ble s l.length then optK (chunk a s n (l.drop s)) (fun r => bK a (some (.agg ⟨l.take s⟩ :: r)) (optK l.head? (fun v => some (v :: r)) none)) none else none
def frzS (P : Program) (H : T OB) (e : TypeId) (b off n : Nat) : Option Value :=
  cellsK (H.get (bits b)) (fun m tr _ => optK (szOf P e) (fun s => optK (aggQ P e) (fun a => bif Nat.ble (off + n * s) m && Nat.blt 0 s && (a || Nat.beq s 1) then
    optK (toL tr (n * s) off) (fun l => optK (chunk a s n l) (fun es => bif es.all fun x => bK a true (oneCell x) then some (rowV s es) else none) none) none else none) none) none) none
def frzP (P : Program) (H : T OB) (e : TypeId) (b : Nat) : Option Value :=
  cellsK (H.get (bits b)) (fun m tr _ => optK (szOf P e) (fun s => optK (aggQ P e) (fun a => bif Nat.beq m s then
    optK (toL tr s 0) (fun l => bK a (some (eptrV (.agg ⟨l⟩))) (optK l.head? (fun v => bif Nat.beq l.length 1 && oneCell v then some (eptrV v) else none) none)) none else none) none) none) none
/-- One value, its type known. -/
def frz1 (P : Program) (t : TypeId) (v : Value) (H : T OB) (nx : Nat) (k : Value → T OB → Nat → Q) : Q := match P.underlying t with
  | some (.slice e) => (match v with
    | .slice (some ⟨b, off, none⟩) n c => bif Nat.beq c unk || Nat.ble n c then optK (frzS P H e b off n) (fun r => setK (bits b) H (some .dead) fun H => natF (Nat.succ nx) fun nx => k r H nx) .bad else .bad
    | .slice none n c => bif Nat.beq n 0 && Nat.beq c 0 then optK (szOf P e) (fun s => k (rowV s []) H nx) .bad else .bad
    | v => k v H nx)
  | some (.pointer e) => (match v with
    | .pointer (some ⟨b, 0, none⟩) => optK (frzP P H e b) (fun r => setK (bits b) H (some .dead) fun H => natF (Nat.succ nx) fun nx => k r H nx) .bad
    | v => k v H nx)
  | _ => k v H nx
/-- The fields of a struct that are slices. -/
def frzF (P : Program) : List Field → List Value → T OB → Nat → (List Value → T OB → Nat → Q) → Q
  | [], cs, H, nx, k => k cs H nx
  | f :: fs, cs, H, nx, k => optK cs[f.offset]? (fun v => frz1 P f.type v H nx fun v H nx => frzF P fs (cs.set f.offset v) H nx k) .bad
def isSlT (P : Program) (t : TypeId) : Bool := match P.underlying t with
  | some (.slice _) => true
  | _ => false
def frzV (P : Program) (t : TypeId) (v : Value) (H : T OB) (nx : Nat) (k : Value → T OB → Nat → Q) : Q := match P.underlying t with
  | some (.struct fs) => (match v with
    | .agg ⟨cs⟩ => frzF P (fs.toList.filter fun f => isSlT P f.type) cs H nx fun cs H nx => k (.agg ⟨cs⟩) H nx
    | _ => .bad)
  | _ => frz1 P t v H nx k
def frzL (P : Program) (ts : Array TypeId) : List Nat → List Value → T OB → Nat → (List Value → T OB → Nat → Q) → Q
  | [], vs, H, nx, k => k vs H nx
  | i :: l, vs, H, nx, k => optK ts[i]? (fun t => optK vs[i]? (fun v => frzV P t v H nx fun v H nx => frzL P ts l (vs.set i v) H nx k) .bad) .bad
/-- A panic that no call of this one's ends. -/
def panK : Value → T OB → Nat → Q := fun v H nx => .ret ⟨.pan v, false, H, nx⟩
/-! the end of a call -/

inductive Mq where
  | ret
  | pan (v : Value)
def rpOf (m : Mq) : Option Value := match m with
  | .ret => none
  | .pan v => some v
def resQ (P : Program) (H : T OB) (tm : T Value) : List ResultVar → (List Value → Q) → Q
  | [], k => k []
  | .tmp t :: l, k => optK (tm.get (bits t)) (fun v => resQ P H tm l fun vs => k (v :: vs)) .bad
  | .cell a t :: l, k => optK (rdLoad P H t (tm.get (bits a))) (fun v => resQ P H tm l fun vs => k (v :: vs)) .bad
def tupV (vs : List Value) : Value := match vs with
  | [v] => v
  | vs => .tuple ⟨vs⟩
def outQ (P : Program) (pl : Pol) (c : Cg) (tm : T Value) (H : T OB) (nx : Nat) : Q :=
  optK P.funcs[c.fn]? (fun f => resQ P H tm f.results.toList fun vs => frzL P f.resultTypes (lookN c.fn pl.frR) vs H nx fun vs H nx => .ret ⟨.ret (tupV vs), c.rc, H, nx⟩) .bad
def endQ (P : Program) (pl : Pol) (c : Cg) (tm : T Value) (m : Mq) (H : T OB) (nx : Nat) : Q := match m with
  | .ret => outQ P pl c tm H nx
  | .pan v => optK P.funcs[c.fn]? (fun _ => .ret ⟨.pan v, c.rc, H, nx⟩) .bad
def bkQ (m : Mq) (r : Rt) (ih : Mq → T OB → Nat → Q) : Q := match r.o with
  | .ret _ => ih (bK r.rc .ret m) r.H r.nx
  | .pan _ => .bad
/-- What was deferred is called; then the end. -/
def unwQ (P : Program) (pl : Pol) (c : Cg) (tm : T Value) (l : List (FuncId × List Value)) : Mq → T OB → Nat → Q :=
  @List.rec (FuncId × List Value) (fun _ => Mq → T OB → Nat → Q) (fun m H nx => endQ P pl c tm m H nx)
    (fun d _ ih m H nx => .ask (.call d.1 d.2 true (rpOf m) H nx) fun r => bkQ m r ih) l

abbrev Kt := Cg → T Value → T OB → Nat → Q
/-! an operation -/
def effQ (e : Eff) (k : Value → T OB → Nat → Q) : Q := match e with
  | .val v H nx => k v H nx
  | _ => .bad
def callQ (q : Cfg) (k : Value → T OB → Nat → Q) (p : Value → T OB → Nat → Q) : Q := .ask q fun r => match r.o with
  | .ret v => k v r.H r.nx
  | .pan v => p v r.H r.nx
def isCtl : Op → Bool
  | .call c => (match c.callee with
    | .builtin b => (match b with | .append => false | _ => true)
    | _ => true)
  | .defer _ => true
  | .panic _ => true
  | _ => false
def guardQ (tm : T Value) (ops : Array Oper) (g : Option (Nat × Bool)) (yes no : T Value → Q) : Q := match g with
  | none => yes tm
  | some p => optK (dstOf ops p.1) (fun d => match tm.get (bits d) with
    | some (.bool x) => bK p.2 (bK x (setK (bits d) tm (some (.bool true)) yes) (setK (bits d) tm (some (.bool false)) no)) (bK x (setK (bits d) tm (some (.bool true)) no) (setK (bits d) tm (some (.bool false)) yes))
    | some (.tuple _) => no tm
    | _ => .bad) .bad
def rcvQ (c : Cg) (k : Cg → Value → Q) : Q := match c.kd, c.rp with
  | true, some v => k ⟨c.fn, c.nt, c.kd, c.df, none, true⟩ v
  | _, _ => k c .nilIface

/-- A bool is told as one. -/
def bvK {β : Type} (v : Value) (k : Bool → β) (bad : β) : β := match v with
  | .bool b => k b
  | _ => bad
def isBT (P : Program) (t : TypeId) : Bool := match P.underlying t with
  | some .bool => true
  | _ => false
def isCmp (o : Op) : Bool := match o with
  | .binOp op _ _ _ _ => (match op with | .eql => true | .neq => true | .lss => true | .leq => true | .gtr => true | .geq => true | _ => false)
  | _ => false
def putB (P : Program) (t : Bool) (nt : Nat) (tm : T Value) (dst : Option Tmp) (v : Value) (k : T Value → Q) : Q :=
  bK t (bvK v (fun b => putK nt tm dst (.bool b) k .bad) .bad) (putK nt tm dst v k .bad)

/-- A variable that is written once is held by value from there on. -/
def frBox (nt : Nat) (tm : T Value) (H : T OB) (nx : Nat) (dst : Option Tmp) (x : Option Value) (k : T Value → T OB → Nat → Q) : Q :=
  optK x (fun v => natF (Nat.succ nx) fun n => putK nt tm dst (eptrV v) (fun tm => k tm H n) .bad) .bad
def ptrQ (v : Option Value) (k : Nat → Nat → Q) : Q := match v with
  | some (.pointer (some ⟨b, off, none⟩)) => k b off
  | _ => .bad
def cellsQ (x : Option OB) (k : Nat → T Value → TypeId → Q) : Q := match x with
  | some (.cells n t e) => k n t e
  | _ => .bad
def frStore (P : Program) (nt : Nat) (tm : T Value) (H : T OB) (nx : Nat) (t : TypeId) (d : Tmp) (dst : Option Tmp) (a x : Option Value) (k : T Value → T OB → Nat → Q) : Q :=
  ptrQ a fun b off => optK x (fun v => cellsQ (H.get (bits b)) fun n _ _ => optK (szOf P t) (fun s =>
    bif Nat.beq off 0 && (Nat.beq n s && (Nat.beq v.cells.toList.length s && v.cells.toList.all oneCell)) then setK (bits b) H (some .dead) fun H => natF (Nat.succ nx) fun n => putK nt tm (some d) (eptrV v) (fun tm => putK nt tm dst undef (fun tm => k tm H n) .bad) .bad else .bad) .bad) .bad
def memN (t : Nat) (l : List Nat) : Bool := l.any (Nat.beq t)
def isFr (pl : Pol) (fn : Nat) (o : Oper) : Bool := match o.op with
  | .box _ _ => (match o.dst with | some d => memN d (lookN fn pl.frT) | none => false)
  | .store _ (.tmp d) _ => memN d (lookN fn pl.frT)
  | _ => false
def frQ (P : Program) (nt : Nat) (tm : T Value) (H : T OB) (nx : Nat) (o : Oper) (k : T Value → T OB → Nat → Q) : Q := match o.op with
  | .box _ x => frBox nt tm H nx o.dst (eva P tm x) k
  | .store t (.tmp d) x => frStore P nt tm H nx t d o.dst (eva P tm (.tmp d)) (eva P tm x) k
  | _ => .bad
def isBox (o : Oper) : Bool := match o.op with
  | .box _ _ => true
  | _ => false

/-! regions without a draw -/
def ctlR (P : Program) (pl : Pol) (c : Cg) (tm : T Value) (H : T OB) (nx : Nat) (t : TypeId) (dst : Option Tmp) (ih : Kt) (e : Eff) : Q := match e with
  | .call g args => callQ (.call g args false none H nx) (fun v H nx => putB P (isBT P t) c.nt tm dst v (fun tm => ih c tm H nx)) (fun v H nx => unwQ P pl c tm c.df (.pan v) H nx)
  | .dfr g args => putK c.nt tm dst undef (fun tm => ih ⟨c.fn, c.nt, c.kd, (g, args) :: c.df, c.rp, c.rc⟩ tm H nx) .bad
  | .pan v => unwQ P pl c tm c.df (.pan v) H nx
  | .rcv => rcvQ c fun c v => putK c.nt tm dst v (fun tm => ih c tm H nx) .bad
  | _ => .bad
def doR (P : Program) (pl : Pol) (c : Cg) (tm : T Value) (H : T OB) (nx : Nat) (ih : Kt) (o : Oper) : Q :=
  bK (isRd o.op) (optK (rd P H tm o) (fun v => putB P (isBT P o.type || isCmp o.op) c.nt tm o.dst v (fun tm => ih c tm H nx)) .bad)
    (bK (isCtl o.op) (ctlR P pl c tm H nx o.type o.dst ih (ef P H nx tm o)) (bK (isFr pl c.fn o) (frQ P c.nt tm H nx o fun tm H nx => ih c tm H nx) (effQ (ef P H nx tm o) fun v H nx => putK c.nt tm o.dst v (fun tm => ih c tm H nx) .bad)))
def opR (P : Program) (pl : Pol) (ops : Array Oper) (c : Cg) (tm : T Value) (H : T OB) (nx : Nat) (ih : Kt) (o : Oper) : Q :=
  guardQ tm ops o.guard (fun tm => doR P pl c tm H nx ih o) (fun tm => putK c.nt tm o.dst undef (fun tm => ih c tm H nx) .bad)
def stepR (P : Program) (pl : Pol) (ops : Array Oper) (k : Kt) (l : List Nat) : Kt :=
  @List.rec Nat (fun _ => Kt) k (fun i _ ih c tm H nx => optK ops[i]? (opR P pl ops c tm H nx ih) .bad) l

/-! regions with a draw -/
def chkQ (P : Program) (H : T OB) (tm : T Value) (ops : Array Oper) (chk : List Nat) (k : Q) : Q := bK (chk.all (held P H tm ops)) k .bad
def ctlD (P : Program) (pl : Pol) (ops : Array Oper) (chk : List Nat) (c : Cg) (tm : T Value) (H : T OB) (nx : Nat) (t : TypeId) (dst : Option Tmp) (ih : Kt) (e : Eff) : Q := match e with
  | .call g args => callQ (.call g args false none H nx) (fun v H nx => putB P (isBT P t) c.nt tm dst v (fun tm => chkQ P H tm ops chk (ih c tm H nx))) (fun v H nx => bK c.df.isEmpty (endQ P pl c tm (.pan v) H nx) .bad)
  | .pan v => bK c.df.isEmpty (endQ P pl c tm (.pan v) H nx) .bad
  | _ => .bad
def doD (P : Program) (pl : Pol) (ops : Array Oper) (chk : List Nat) (c : Cg) (tm : T Value) (H : T OB) (nx : Nat) (ih : Kt) (o : Oper) : Q :=
  bK (isRd o.op) (optK (rd P H tm o) (fun v => putB P (isBT P o.type || isCmp o.op) c.nt tm o.dst v (fun tm => ih c tm H nx)) .bad)
    (bK (isAl o.op) (effQ (ef P H nx tm o) fun v H nx => putK c.nt tm o.dst v (fun tm => chkQ P H tm ops chk (ih c tm H nx)) .bad)
      (bK (isCtl o.op) (ctlD P pl ops chk c tm H nx o.type o.dst ih (ef P H nx tm o))
        (bK (isFr pl c.fn o && isBox o) (frQ P c.nt tm H nx o fun tm H nx => chkQ P H tm ops chk (ih c tm H nx)) (effQ (ef P H nx tm o) fun v H nx => putK c.nt tm o.dst v (fun tm => chkQ P H tm ops chk (ih c tm H nx)) .bad))))
def opD (P : Program) (pl : Pol) (ops : Array Oper) (chk : List Nat) (c : Cg) (tm : T Value) (H : T OB) (nx : Nat) (ih : Kt) (o : Oper) : Q :=
  guardQ tm ops o.guard (fun tm => doD P pl ops chk c tm H nx ih o) (fun tm => putK c.nt tm o.dst undef (fun tm => chkQ P H tm ops chk (ih c tm H nx)) .bad)
def stepD (P : Program) (pl : Pol) (ops : Array Oper) (k : Kt) (l : List (Nat × List Nat)) : Kt :=
  @List.rec (Nat × List Nat) (fun _ => Kt) k (fun x _ ih c tm H nx => optK ops[x.1]? (opD P pl ops x.2 c tm H nx ih) .bad) l
def regQ (P : Program) (pl : Pol) (ops : Array Oper) (draw : Bool) (k : Kt) : Kt := fun c tm H nx =>
  bK draw (bK (P.follows .mixedOrders) (optK (planOf ops) (fun p => stepD P pl ops k p c tm H nx) .bad) .bad) (stepR P pl ops k (List.range ops.size) c tm H nx)

/-! code -/
def boolQ (v : Option Value) (a b : Q) : Q := match v with
  | some (.bool x) => bK x a b
  | _ => .bad
/-- How often it is left for a block. -/
def exits (id : Nat) (cd : Code) : Nat :=
  @Code.rec (fun _ => Nat) 0 (fun _ _ _ => 0) (fun _ _ a b => Nat.add a b) (fun _ _ _ a b => Nat.add a b) (fun j _ a => bif Nat.beq j id then 0 else a) (fun _ a => a) (fun _ _ _ _ _ _ => 0)
    (fun j => bif Nat.beq j id then 1 else 0) (fun _ a => a) (fun _ => 0) (fun _ => 0) 0 (fun _ => 0) cd
/-- How often it is come to the end of. -/
def ends (cd : Code) : Nat :=
  @Code.rec (fun _ => Nat) 1 (fun _ _ _ => 1) (fun _ _ a b => bif Nat.beq a 0 then 0 else b) (fun _ _ _ a b => Nat.add a b) (fun j b a => Nat.add a (exits j b)) (fun _ _ => 0) (fun _ _ _ _ _ _ => 1)
    (fun _ => 0) (fun _ a => a) (fun _ => 1) (fun _ => 0) 0 (fun _ => 0) cd
def hasLoop (cd : Code) : Bool :=
  @Code.rec (fun _ => Bool) false (fun _ _ _ => false) (fun _ _ a b => a || b) (fun _ _ _ a b => a || b) (fun _ _ a => a) (fun _ _ => true) (fun _ _ _ _ _ _ => false)
    (fun _ => false) (fun _ a => a) (fun _ => false) (fun _ => false) false (fun _ => false) cd
/-- The first region's number. -/
def keyC (cd : Code) : Nat :=
  @Code.rec (fun _ => Nat) 0 (fun id _ _ => Nat.succ id) (fun _ _ a b => bif Nat.beq a 0 then b else a) (fun _ _ _ a b => bif Nat.beq a 0 then b else a) (fun _ _ a => a) (fun _ a => a) (fun _ _ _ _ _ _ => 0)
    (fun _ => 0) (fun _ a => a) (fun _ => 0) (fun _ => 0) 0 (fun _ => 0) cd
def keyI (todo : List Item) : Nat := match todo with
  | .code cd :: _ => Nat.mul 2 (keyC cd)
  | .inLoop cd :: _ => Nat.succ (Nat.mul 2 (keyC cd))
  | _ => 0
def pickT (tm : T Value) (l : List Nat) : T Value :=
  @List.rec Nat (fun _ => T Value) .leaf (fun t _ ih => optK (tm.get (bits t)) (fun v => setK (bits t) ih (some v) id) ih) l
def maskT (pl : Pol) (fn : Nat) (key : Nat) (tm : T Value) : T Value := match pl.lv with
  | [] => tm
  | l => optK (lookP fn key l) (pickT tm) tm
def jumpQ (pl : Pol) (todo : List Item) : Kt := fun c tm H nx => .jump (.at c (maskT pl c.fn (keyI todo) tm) todo H nx)
def leaveQ (P : Program) (pl : Pol) : Kt := fun c tm H nx => unwQ P pl c tm c.df .ret H nx
def badK : Kt := fun _ _ _ _ => .bad
def lookE (id : Nat) : List (Nat × Kt) → Kt
  | [] => badK
  | p :: l => bif Nat.beq p.1 id then p.2 else lookE id l
def hasG (cd : Code) : Bool := match cd with
  | .region _ ops _ => ops.toList.any fun o => o.guard.isSome
  | _ => false
def cutQ (pl : Pol) (a b : Code) : Bool := pl.cuts && (Nat.blt 0 (keyC b) && (Nat.ble 2 (ends a) || (hasLoop a || hasG a)))
def stepC (P : Program) (pl : Pol) (cd : Code) : List Item → Kt → List (Nat × Kt) → Kt :=
  @Code.rec (fun _ => List Item → Kt → List (Nat × Kt) → Kt) (fun _ K _ => K) (fun _ ops draw _ K _ => regQ P pl ops draw K)
    (fun a b iha ihb k K E => iha (.code b :: k) (bK (cutQ pl a b) (jumpQ pl (.code b :: k)) (ihb k K E)) E)
    (fun q _ _ iha ihb k K E c tm H nx => boolQ (eva P tm q) (iha k K E c tm H nx) (ihb k K E c tm H nx))
    (fun id _ ih k K E => ih (.inBlock id :: k) K ((id, K) :: E)) (fun body _ k _ _ => jumpQ pl (.inLoop body :: k)) (fun _ _ _ _ _ _ _ _ _ => badK)
    (fun id _ _ E => lookE id E) (fun body ih k K E => ih (.inScope body :: k) K E) (fun _ _ K _ => K) (fun _ _ _ _ => badK) (fun _ _ _ => leaveQ P pl) (fun _ _ _ _ => badK) cd
def evI (P : Program) (pl : Pol) (todo : List Item) : Kt × List (Nat × Kt) :=
  @List.rec Item (fun _ => Kt × List (Nat × Kt)) (leaveQ P pl, []) (fun it k ih => match it with
    | .code cd => (stepC P pl cd k ih.1 ih.2, ih.2)
    | .inBlock id => (ih.1, (id, ih.1) :: ih.2)
    | .inScope _ => ih
    | .inLoop body => (jumpQ pl (.inLoop body :: k), ih.2)
    | _ => (badK, [])) todo
def evAt (P : Program) (pl : Pol) (todo : List Item) : Kt := match todo with
  | .inLoop body :: k => stepC P pl body (.inLoop body :: k) (jumpQ pl (.inLoop body :: k)) (evI P pl k).2
  | todo => (evI P pl todo).1
def evF (P : Program) (pl : Pol) (f : FuncId) (kd : Bool) (rp : Option Value) (fn : Func) (cd : Code) (args : List Value) (H : T OB) (nx : Nat) : Q :=
  bif Nat.ble args.length fn.ntmps then frzL P fn.params (lookN f pl.frA) args H nx fun args H nx => fromLK args 0 .leaf fun tm => stepC P pl cd [] (leaveQ P pl) [] ⟨f, fn.ntmps, kd, [], rp, false⟩ tm H nx else .bad
def evT (P : Program) (pl : Pol) (q : Cfg) : Q := match q with
  | .call f args kd rp H nx => optK P.funcs[f]? (fun fn => optK fn.body (fun cd => evF P pl f kd rp fn cd args H nx) .bad) .bad
  | .at c tm todo H nx => evAt P pl todo c tm H nx
/-- What is proved elsewhere of calls: what they answer. -/
abbrev Ext := FuncId → List Value → Option Value
def extQ (X : Ext) (q : Cfg) (k : Option Rt) : Option Rt := match q with
  | .call f args false _ H nx => @Option.rec Value (fun _ => Option Rt) k (fun v => some ⟨.ret v, false, H, nx⟩) (X f args)
  | _ => k
def FD (P : Program) (pl : Pol) (X : Ext) (n : Nat) : Cfg → Option Rt :=
  @Nat.rec (fun _ => Cfg → Option Rt) (fun _ => none) (fun _ ih q => extQ X q ((evT P pl q).run ih)) n
/-- A closed call. -/
def evals (P : Program) (n : Nat) (f : FuncId) (args : List Value) (H : T OB) (nx : Nat) : Option Value := match FD P ⟨[], [], [], [], false⟩ (fun _ _ => none) n (.call f args false none H nx) with
  | some ⟨.ret v, _, _, _⟩ => some v
  | _ => none
end

end Go.Ev
