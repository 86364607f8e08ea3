/- Proved here, with no condition of its own: the evaluator of closed calls: definitions and first laws. -/
import Derived.AtR
import Derived.Below
import Derived.Defers
import Derived.Laws.CopyRow
import Derived.Laws.Cells
import Derived.Laws.Entries
import Derived.ChangeKeysEq
import Derived.IntWalk
/-
  A verified evaluator for closed calls: an abstract machine over an abstract heap. DEFINITIONS.
-/
namespace Go.Ex
open Go

/-- A map from numbers: the root is 0; n+1 goes left if n is even. -/
inductive Tr (α : Type) where
  | nil : Tr α
  | node (v : Option α) (l r : Tr α) : Tr α

/-- From here on a slice's capacity says 'not known; an element takes (cap - UNK) cells'. -/
def UNK : Nat := 1180591620717411303424

/-- A deferred call: a loop's mark, or a function with its arguments. -/
inductive ADef where
  | coll (r : Nat)
  | fn (f : FuncId) (args : List Value)

structure AEnt where
  key : Value
  val : Value
  born : Nat

inductive AObj where
  | dead
  | blk (ro : Bool) (size per : Nat) (runs : List (Nat × Value)) (cells : Tr Value)
  | map (es : List AEnt) (clock : Nat)
  | loop (state : LoopState) (pending : Option Code) (fn : FuncId) (tmps : Tr Value) (nt : Nat) (params : Array Tmp) (assign body : Code) (defers : Nat)
  | defd (opn : Bool)

abbrev Heap := Tr AObj

/-- What a call, or an operation, comes to. -/
inductive R where
  | fail
  | val (v : Value) (H : Heap) (nx : Nat)
  | vrec (v : Value) (H : Heap) (nx : Nat)
  | pan (v : Value) (H : Heap) (nx : Nat)

inductive It where
  | code (c : Code)
  | inBlock (id : Nat)
  | inLoop (c : Code)
  | inScope (c : Code)
  | inRegion (ops : Array Oper) (rest : List Oper)
  | endRF (l : Nat)
  | beginRound

inductive Out where
  | fail
  | cont (td : List It) (tm : Tr Value) (H : Heap) (nx : Nat) (ds : List ADef) (rc : Bool)
  | fin (r : R)

inductive Tgt where
  | fn (f : FuncId)
  | yld (l : Nat)

structure AInfo where
  size : Nat
  bytes : Nat
  agg : Bool
  runs : List (Nat × Value)

structure Env where
  P : Program
  fn : Tr Func
  ty : Tr TypeInfo
  hook : FuncId → List Value → Heap → Nat → R

structure FI where
  dfr : Bool
  par : Option Value
  ro : Option Nat
  nt : Nat
  fn : FuncId
  tm0 : Tr Value
  results : List ResultVar

def scal : Value → Bool
  | .int _ _ | .bool _ | .string _ | .pointer none | .slice none 0 0 | .map none | .nilFunc | .nilIface => true
  | _ => false
/-- A value that bears no address. -/
def lit : Value → Bool
  | .int _ _ | .bool _ | .string _ | .pointer none | .slice none 0 0 | .map none | .nilFunc | .nilIface => true
  | .agg cs => cs.toList.all scal
  | .tuple cs => cs.toList.all scal
  | _ => false
def one : Value → Bool
  | .agg _ | .tuple _ => false
  | _ => true

def kbeq : IntKind → IntKind → Bool
  | .i64, .i64 | .u8, .u8 | .u64, .u64 | .i32, .i32 | .u32, .u32 | .i8, .i8 | .i16, .i16 | .u16, .u16 => true
  | _, _ => false
def wrapF (k : IntKind) (n : Int) : Int :=
  match k, n with
  | .i64, .ofNat m => (match Nat.ble m 9223372036854775807 with | true => n | false => k.wrap n)
  | .i64, .negSucc m => (match Nat.ble m 9223372036854775807 with | true => n | false => k.wrap n)
  | .u8, .ofNat m => (match Nat.ble m 255 with | true => n | false => k.wrap n)
  | .u64, .ofNat m => (match Nat.ble m 18446744073709551615 with | true => n | false => k.wrap n)
  | k, n => k.wrap n
def ieq : Int → Int → Bool
  | .ofNat a, .ofNat b => Nat.beq a b
  | .negSucc a, .negSucc b => Nat.beq a b
  | _, _ => false
def ilt : Int → Int → Bool
  | .ofNat a, .ofNat b => Nat.ble (a + 1) b
  | .negSucc _, .ofNat _ => true
  | .ofNat _, .negSucc _ => false
  | .negSucc a, .negSucc b => Nat.ble (b + 1) a
/-! primitives, by the recursors themselves (the kernel runs them) -/
noncomputable section
def get {α : Type} (t : Tr α) : Nat → Option α :=
  Tr.rec (motive := fun _ => Nat → Option α) (fun _ => none)
    (fun v _ _ gl gr n => Nat.rec (motive := fun _ => Option α) v
      (fun m _ => Bool.rec (motive := fun _ => Option α) (gr (Nat.div m (nat_lit 2))) (gl (Nat.div m (nat_lit 2))) (Nat.beq (Nat.mod m (nat_lit 2)) (nat_lit 0))) n) t
def setF {α β : Type} (f : Nat) : Tr α → Nat → α → (Tr α → β) → β → β :=
  Nat.rec (motive := fun _ => Tr α → Nat → α → (Tr α → β) → β → β) (fun _ _ _ _ z => z)
    (fun _ ih t n a k z =>
      Tr.rec (motive := fun _ => β)
        (Nat.rec (motive := fun _ => β) (k (.node (some a) .nil .nil))
          (fun m _ => Bool.rec (motive := fun _ => β) (ih .nil (Nat.div m (nat_lit 2)) a (fun t => k (.node none .nil t)) z) (ih .nil (Nat.div m (nat_lit 2)) a (fun t => k (.node none t .nil)) z) (Nat.beq (Nat.mod m (nat_lit 2)) (nat_lit 0))) n)
        (fun v l r _ _ => Nat.rec (motive := fun _ => β) (k (.node (some a) l r))
          (fun m _ => Bool.rec (motive := fun _ => β) (ih r (Nat.div m (nat_lit 2)) a (fun t => k (.node v l t)) z) (ih l (Nat.div m (nat_lit 2)) a (fun t => k (.node v t r)) z) (Nat.beq (Nat.mod m (nat_lit 2)) (nat_lit 0))) n)
        t) f
def setK {α β : Type} (t : Tr α) (n : Nat) (a : α) (k : Tr α → β) (z : β) : β := setF (nat_lit 64) t n a k z
def rget (l : List (Nat × Value)) : Nat → Option Value :=
  List.rec (motive := fun _ => Nat → Option Value) (fun _ => none)
    (fun x _ ih j => Bool.rec (motive := fun _ => Option Value) (ih (Nat.sub j x.1)) (some x.2) (Nat.ble (Nat.succ j) x.1)) l
def evK {β : Type} (z : β) (tm : Tr Value) (x : Operand) (k : Value → β) : β :=
  match x with
  | .tmp t => (match get tm t with | some v => k v | none => z)
  | .const v => (match lit v with | true => k v | false => z)
  | .func f => k (.func (.func f) #[] #[])
  | .global _ => z

def cellK {β : Type} (z : β) (size per : Nat) (runs : List (Nat × Value)) (cells : Tr Value) (o : Nat) (k : Value → β) : β :=
  match Nat.ble (o+1) size with
  | true => (match get cells o with
    | some v => k v
    | none => (match rget runs (o % per) with | some v => k v | none => z))
  | false => z
def evLK {β : Type} (z : β) (tm : Tr Value) (l : List Operand) : (List Value → β) → β :=
  List.rec (motive := fun _ => (List Value → β) → β) (fun k => k []) (fun x _ ih k => evK z tm x fun v => ih fun vs => k (v :: vs)) l
def rdF {β : Type} (z : β) (size per : Nat) (runs : List (Nat × Value)) (cells : Tr Value) (n : Nat) : Nat → (List Value → β) → β :=
  Nat.rec (motive := fun _ => Nat → (List Value → β) → β) (fun _ k => k [])
    (fun _ ih o k => cellK z size per runs cells o fun v => ih (Nat.succ o) fun vs => k (v :: vs)) n
def wrF {β : Type} (z : β) (size : Nat) (l : List Value) : Tr Value → Nat → (Tr Value → β) → β :=
  List.rec (motive := fun _ => Tr Value → Nat → (Tr Value → β) → β) (fun c _ k => k c)
    (fun v _ ih c o k => Bool.rec (motive := fun _ => β) z (setK c o v (fun c' => ih c' (Nat.succ o) k) z) (Nat.ble (Nat.succ o) size && one v)) l
def iter (st : List It → Tr Value → Heap → Nat → List ADef → Bool → Out) (n : Nat) : List It → Tr Value → Heap → Nat → List ADef → Bool → Out :=
  Nat.rec (motive := fun _ => List It → Tr Value → Heap → Nat → List ADef → Bool → Out) st
    (fun _ ih td tm H nx ds rc => Out.rec (motive := fun _ => Out) .fail (fun td tm H nx ds rc => ih td tm H nx ds rc) .fin (ih td tm H nx ds rc)) n

def vcells : Value → List Value
  | .agg cs => cs.toList
  | v => [v]
def ofList {α : Type} (l : List α) (i : Nat) (t : Tr α) : Tr α :=
  match l with
  | [] => t
  | a :: r => setK t i a (fun t' => ofList r (i + 1) t') t
def und (E : Env) (t : TypeId) : Option TypeDesc :=
  match get E.ty t with
  | some i => (match i.desc with
    | .named _ u => (match get E.ty u with | some j => some j.desc | none => none)
    | d => some d)
  | none => none
def zbeq : Value → Value → Bool
  | .bool false, .bool false | .pointer none, .pointer none | .slice none 0 0, .slice none 0 0 | .map none, .map none | .nilFunc, .nilFunc | .nilIface, .nilIface => true
  | .int k (.ofNat 0), .int j (.ofNat 0) => kbeq k j
  | _, _ => false
/-- The zero cells of a type, in runs. -/
def comp : List Value → List (Nat × Value)
  | [] => []
  | v :: r => match comp r with
    | (n, u) :: rest => (match zbeq u v with | true => (n + 1, u) :: rest | false => (1, v) :: (n, u) :: rest)
    | [] => [(1, v)]
def isAggD : TypeDesc → Bool
  | .struct _ | .array _ _ => true
  | _ => false
def rlen : List (Nat × Value) → Nat
  | [] => 0
  | (n, _) :: r => n + rlen r
def aggV : Value → Bool
  | .agg _ => true
  | _ => false
def inf (E : Env) (t : TypeId) : Option AInfo :=
  match get E.ty t, und E t with
  | some i, some d => (match i.zero with
    | some z => (match (comp (vcells z)).all (fun x => scal x.2) && (match aggV z, isAggD d with | true, true | false, false => true | _, _ => false) && Nat.beq (rlen (comp (vcells z))) i.size with
      | true => some ⟨i.size, i.bytes, isAggD d, comp (vcells z)⟩
      | false => none)
    | none => none)
  | _, _ => none
def mth (E : Env) (t : TypeId) (name : String) : Option FuncId :=
  match get E.ty t with
  | some i => (match i.methods.toList.find? (fun m => m.name == name), isAggD i.desc || (match und E t with | some (.struct _) => true | _ => false) with
    | some m, true => (match m.path.toList, m.func with | [], some (f, false) => some f | _, _ => none)
    | _, _ => none)
  | none => none
/-- A run that asks nothing of the world. -/
def pureK {α : Type} (P : Program) (s : Sem α) (k : α → R) : R :=
  match s with
  | .pure a => k a
  | .program f => pureK P (f P) k
  | _ => .fail

def litK (k : Value → R) (v : Value) : R := match lit v with | true => k v | false => .fail

def bytesOf : List Value → Option (List UInt8)
  | [] => some []
  | .int .u8 (.ofNat n) :: r => (match bytesOf r with | some bs => some (UInt8.ofNat n :: bs) | none => none)
  | _ => none

section ops
variable (E : Env)

def rdN {β : Type} (z : β) (H : Heap) (b o n : Nat) (k : List Value → β) : β :=
  match get H b with
  | some (.blk _ size per runs cells) => rdF z size per runs cells n o k
  | _ => z
def rd1 {β : Type} (z : β) (H : Heap) (b o : Nat) (k : Value → β) : β :=
  match get H b with
  | some (.blk _ size per runs cells) => cellK z size per runs cells o k
  | _ => z
def wrN {β : Type} (z : β) (H : Heap) (b o : Nat) (vs : List Value) (k : Heap → β) : β :=
  match get H b with
  | some (.blk false size per runs cells) => wrF z size vs cells o fun c' => setK H b (.blk false size per runs c') k z
  | _ => z
def newK {β : Type} (z : β) (H : Heap) (nx : Nat) (o : AObj) (k : Heap → Nat → β) : β :=
  match get H nx with
  | none => setK H nx o (fun H' => k H' (nx + 1)) z
  | some _ => z
/-- A new block with the cells vs. -/
def newL {β : Type} (z : β) (H : Heap) (nx : Nat) (vs : List Value) (k : Value → Heap → Nat → β) : β :=
  wrF z vs.length vs .nil 0 fun c => newK z H nx (.blk false vs.length 1 [] c) fun H' nx' => k (.pointer (some ⟨nx, 0, none⟩)) H' nx'

end ops

section app
variable (E : Env)
/-- What is appended: the cells of n elements. -/
def srcK (H : Heap) (size : Nat) (x : Value) (k : Nat → List Value → R) : R :=
  match x with
  | .slice none 0 _ => k 0 []
  | .slice (some ⟨b, o, none⟩) n _ => rdN .fail H b o (n * size) (k n)
  | .string s => (match Nat.beq size 1 with | true => k s.size (s.data.toList.map fun b => .int .u8 b.toNat) | false => .fail)
  | _ => .fail

/-- Cells into a new block, the capacity not known. -/
def growK (H : Heap) (nx : Nat) (need size : Nat) (cs : List Value) : R :=
  wrF .fail (need * size) cs .nil 0 fun c => newK .fail H nx (.blk false (need * size) 1 [] c) fun H' nx' => .val (.slice (some ⟨nx, 0, none⟩) need (UNK + size)) H' nx'

def appendK (st xt : TypeId) (s x : Value) (H : Heap) (nx : Nat) : R :=
  match und E st, und E xt with
  | some (.slice e), some xd =>
    (match xd with
     | .int _ => .fail
     | _ => (match inf E e with
      | some j => (match Nat.ble 1 j.size && Nat.ble j.bytes 65536 with
        | true => srcK H j.size x fun n new =>
          (match n with
           | 0 => (match s with
             | .slice none 0 0 => .val s H nx
             | .slice (some ⟨_, _, none⟩) _ _ => .val s H nx
             | _ => .fail)
           | _ => (match s with
             | .slice none 0 0 => (match Nat.ble n 255 with | true => growK H nx n j.size new | false => .fail)
             | .slice (some ⟨b, o, none⟩) len c =>
               (match Nat.ble (len + n) 255 with
                | true => (match Nat.ble UNK c with
                  | false => (match Nat.ble (len + n) c with
                    | true => wrN .fail H b (o + len * j.size) new fun H' => .val (.slice (some ⟨b, o, none⟩) (len + n) c) H' nx
                    | false => rdN .fail H b o (len * j.size) fun old => growK H nx (len + n) j.size (old ++ new))
                  | true => (match Nat.beq c (UNK + j.size), get H b with
                    | true, some (.blk false size per runs cells) => rdF .fail size per runs cells (len * j.size) o fun old =>
                      setK H b .dead (fun H' => growK H' nx (len + n) j.size (old ++ new)) .fail
                    | _, _ => .fail))
                | false => .fail)
             | _ => .fail))
        | false => .fail)
      | none => .fail))
  | _, _ => .fail

def copyK (dt : TypeId) (d x : Value) (H : Heap) (nx : Nat) : R :=
  match und E dt, d, x with
  | some (.slice e), .slice (some ⟨b, o, none⟩) dn _, .slice (some ⟨b', o', none⟩) xn _ =>
    (match inf E e with
     | some j => rdN .fail H b' o' (Nat.min xn dn * j.size) fun vs => wrN .fail H b o vs fun H' => .val (.int .i64 (Nat.min xn dn)) H' nx
     | none => .fail)
  | some (.slice e), .slice none _ _, .slice none _ _ => (match inf E e with | some _ => .val (.int .i64 (0 : Nat)) H nx | none => .fail)
  | _, _, _ => .fail
end app

section ops
variable (E : Env)
def rexpand : List (Nat × Value) → List Value
  | [] => []
  | (n, v) :: r => List.replicate n v ++ rexpand r

def repL : Nat → List Value → List Value
  | 0, _ => []
  | n + 1, l => l ++ repL n l
/-- What stands in place of an aggregate's part: the cells vs from off on. -/
def splice (zs : List Value) (off : Nat) (vs : List Value) : Option (List Value) :=
  match Nat.ble (off + vs.length) zs.length with
  | true => some (zs.take off ++ vs ++ zs.drop (off + vs.length))
  | false => none
def spliceAll (place : Nat → Option (Nat × Nat)) : List (Nat × Value) → List Value → Option (List Value)
  | [], zs => some zs
  | (i, v) :: r, zs => match place i with
    | some (off, size) => (match Nat.beq (vcells v).length size with
      | true => (match splice zs off (vcells v) with | some zs' => spliceAll place r zs' | none => none)
      | false => none)
    | none => none
def partsK {β : Type} (z : β) (tm : Tr Value) : List (Nat × Operand) → (List (Nat × Value) → β) → β
  | [], k => k []
  | (i, x) :: r, k => evK z tm x fun v => partsK z tm r fun vs => k ((i, v) :: vs)
def places (E : Env) : List Field → Option (List (Nat × Nat))
  | [] => some []
  | f :: r => (match inf E f.type, places E r with | some j, some l => some ((f.offset, j.size) :: l) | _, _ => none)

def intOp (op : BinOp) (k : IntKind) (x y : Int) : Option Value :=
  match op with
  | .add => some (.int k (wrapF k (x + y)))
  | .sub => some (.int k (wrapF k (x - y)))
  | .mul => some (.int k (wrapF k (x * y)))
  | .eql => some (.bool (ieq x y))
  | .neq => some (.bool (!ieq x y))
  | .lss => some (.bool (ilt x y))
  | .leq => some (.bool (!ilt y x))
  | .gtr => some (.bool (ilt y x))
  | .geq => some (.bool (!ilt x y))
  | _ => none

/-- '==' where one side is nil. -/
def nilEq (t : TypeId) (x y : Value) : Option Bool :=
  match und E t, x, y with
  | some (.slice _), .slice none _ _, .slice (some _) _ _ | some (.slice _), .slice (some _) _ _, .slice none _ _ => some false
  | some (.slice _), .slice none _ _, .slice none _ _ => some true
  | some (.pointer _), .pointer none, .pointer (some _) | some (.pointer _), .pointer (some _), .pointer none => some false
  | some (.pointer _), .pointer none, .pointer none => some true
  | some (.interface _), .nilIface, .iface _ _ | some (.interface _), .iface _ _, .nilIface => some false
  | _, _, _ => none

def partK {β : Type} (z : β) (t : TypeId) (cs : List Value) (off : Nat) (k : Value → β) : β :=
  match inf E t with
  | some i => (match i.agg with
    | true => (match Nat.ble (off + i.size) cs.length with | true => k (.agg ((cs.drop off).take i.size).toArray) | false => z)
    | false => (match (cs.drop off) with | v :: _ => k v | [] => z))
  | none => z

/-- An index in range, as a number. -/
def inRange (i : Int) (n : Nat) : Option Nat :=
  match i with
  | .ofNat m => (match Nat.ble (m+1) n with | true => some m | false => none)
  | .negSucc _ => none

def boundK {β : Type} (z : β) (x : Option Value) (dflt top : Nat) (k : Nat → β) : β :=
  match x with
  | none => k dflt
  | some (.int _ i) => (match inRange i (top + 1) with | some m => k m | none => z)
  | some _ => z
def optK {β : Type} (z : β) (tm : Tr Value) (x : Option Operand) (k : Option Value → β) : β :=
  match x with
  | none => k none
  | some x => evK z tm x fun v => k (some v)

/-- Quiet operations: they make nothing and write nothing. -/
def xq (op : Op) (tm : Tr Value) (H : Heap) (k : Value → R) : R :=
  match op with
  | .move x | .assign x => evK .fail tm x k
  | .pick c a b => evK .fail tm c fun c => match c with
    | .bool true => evK .fail tm a k
    | .bool false => evK .fail tm b k
    | _ => .fail
  | .build t parts => (match inf E t with
    | some i => (match i.agg with
      | true => partsK .fail tm parts.toList fun ps =>
        (match und E t with
         | some (.struct fs) => (match places E fs.toList with
           | some pl => (match spliceAll (fun i => pl[i]?) ps (rexpand i.runs) with | some cs => k (.agg cs.toArray) | none => .fail)
           | none => .fail)
         | some (.array _ e) => (match inf E e with
           | some j => (match spliceAll (fun i => some (i * j.size, j.size)) ps (rexpand i.runs) with | some cs => k (.agg cs.toArray) | none => .fail)
           | none => .fail)
         | _ => .fail)
      | false => .fail)
    | none => .fail)
  | .load t a => evK .fail tm a fun p => match p with
    | .pointer (some ⟨b, o, none⟩) => (match inf E t with
      | some i => (match i.agg with
        | true => rdN .fail H b o i.size fun vs => k (.agg vs.toArray)
        | false => rd1 .fail H b o k)
      | none => .fail)
    | _ => .fail
  | .nilCheck x => evK .fail tm x fun p => match p with
    | .pointer (some a) => k (.pointer (some a))
    | .iface t v => k (.iface t v)
    | .func (.func f) xs ys => k (.func (.func f) xs ys)
    | .func (.yield f) xs ys => k (.func (.yield f) xs ys)
    | .slice a n c => k (.slice a n c)
    | _ => .fail
  | .binOp op t x y _ => evK .fail tm x fun a => evK .fail tm y fun b => match a, b with
    | .int ka m, .int kb n => (match intOp op ka m n with
      | some v => (match kbeq ka kb with | true => k v | false => .fail)
      | none => (match op with | .eql | .neq => .fail | op => pureK E.P (binOp op t (.int ka m) (.int kb n)) (litK k)))
    | a, b => (match op with
      | .eql => (match nilEq E t a b with
        | some r => k (.bool r)
        | none => (match lit a && lit b with | true => pureK E.P (do eqGuard .eql t x y a b; binOp .eql t a b) (litK k) | false => .fail))
      | .neq => (match nilEq E t a b with
        | some r => k (.bool (!r))
        | none => (match lit a && lit b with | true => pureK E.P (do eqGuard .neq t x y a b; binOp .neq t a b) (litK k) | false => .fail))
      | op => (match lit a && lit b with | true => pureK E.P (binOp op t a b) (litK k) | false => .fail))
  | .unOp op _ x => evK .fail tm x fun a => (match lit a with | true => pureK E.P (Op.unary op a) (litK k) | false => .fail)
  | .makeInterface t x => evK .fail tm x fun a => (match und E t with
    | some (.interface _) => .fail
    | some _ => k (.iface t a)
    | none => .fail)
  | .makeFunc fn first captured => (match fn with
    | .func f => evLK .fail tm first.toList fun xs => evLK .fail tm captured.toList fun ys => k (.func (.func f) xs.toArray ys.toArray)
    | _ => .fail)
  | .slice t x lo hi mx => (match mx with
    | some _ => .fail
    | none => evK .fail tm x fun s => optK .fail tm lo fun lo => optK .fail tm hi fun hi => match und E t, s with
      | some (.slice e), .slice a n c => (match inf E e with
        | some j => (match Nat.ble UNK c with
          | false => boundK .fail hi n c fun h => boundK .fail lo 0 h fun l =>
            (match Nat.beq c l with
             | true => k (.slice a (h - l) (c - l))
             | false => (match a with
               | some ⟨b, o, none⟩ => k (.slice (some ⟨b, o + l * j.size, none⟩) (h - l) (c - l))
               | _ => .fail))
          | true => (match Nat.beq c (UNK + j.size), a with
            | true, some ⟨b, o, none⟩ => boundK .fail hi n n fun h => boundK .fail lo 0 h fun l =>
              (match Nat.ble (l+1) n with
               | true => k (.slice (some ⟨b, o + l * j.size, none⟩) (h - l) c)
               | false => k (.slice (some ⟨b, o, none⟩) 0 c))
            | _, _ => .fail))
        | none => .fail)
      | some .string, .string s => boundK .fail hi s.size s.size fun h => boundK .fail lo 0 h fun l => k (.string (s.extract l h))
      | some (.array n e), .pointer (some ⟨b, o, none⟩) => (match inf E e with
        | some j => (match Nat.ble UNK n with
          | true => .fail
          | false => boundK .fail hi n n fun h => boundK .fail lo 0 h fun l =>
            (match Nat.beq n l with
             | true => k (.slice (some ⟨b, o, none⟩) (h - l) (n - l))
             | false => k (.slice (some ⟨b, o + l * j.size, none⟩) (h - l) (n - l))))
        | none => .fail)
      | _, _ => .fail)
  | .fieldAddr s x f => evK .fail tm x fun p => (match und E s, p with
    | some (.struct fs), .pointer (some ⟨b, o, none⟩) => (match fs[f]? with
      | some fd => (match inf E fd.type with
        | some j => (match Nat.beq j.size 0 with | true => .fail | false => k (.pointer (some ⟨b, o + fd.offset, none⟩)))
        | none => .fail)
      | none => .fail)
    | _, _ => .fail)
  | .field t x f => evK .fail tm x fun v => (match und E t, v with
    | some (.struct fs), .agg cs => (match fs[f]? with
      | some fd => partK E .fail fd.type cs.toList fd.offset k
      | none => .fail)
    | _, _ => .fail)
  | .indexAddr t x ix => evK .fail tm x fun s => evK .fail tm ix fun i => (match und E t, s, i with
    | some (.slice e), .slice (some ⟨b, o, none⟩) n _, .int _ i => (match inf E e, inRange i n with
      | some j, some m => k (.pointer (some ⟨b, o + m * j.size, none⟩))
      | _, _ => .fail)
    | some (.array n e), .pointer (some ⟨b, o, none⟩), .int _ i => (match inf E e, inRange i n with
      | some j, some m => k (.pointer (some ⟨b, o + m * j.size, none⟩))
      | _, _ => .fail)
    | _, _, _ => .fail)
  | .index t x ix => evK .fail tm x fun s => evK .fail tm ix fun i => (match und E t, s, i with
    | some (.array n e), .agg cs, .int _ i => (match inf E e, inRange i n with
      | some j, some m => partK E .fail e cs.toList (m * j.size) k
      | _, _ => .fail)
    | some .string, .string s, .int kd i => pureK E.P (Instr.index t (.string s) (.int kd i)) (litK k)
    | _, _, _ => .fail)
  | .lookup t x ix ok => evK .fail tm x fun m => evK .fail tm ix fun key => (match und E t, m, lit key with
    | some (.map kt et), .map (some r), true => (match get H r, inf E et with
      | some (.map es _), some j => pureK E.P (do Instr.checkKey es.isEmpty 10000 kt key; Instr.findKey kt key (es.map fun e => { key := e.key, val := undef, born := e.born })) fun a =>
        (match a with
         | some (i, _) => (match es[i]? with
           | some e => (match ok with | true => k (.tuple #[e.val, .bool true]) | false => k e.val)
           | none => .fail)
         | none => (match j.agg with
           | true => .fail
           | false => (match rexpand j.runs with
             | [v] => (match ok with | true => k (.tuple #[v, .bool false]) | false => k v)
             | _ => .fail)))
      | _, _ => .fail)
    | _, _, _ => .fail)
  | .typeAssert x _ asserted ok => evK .fail tm x fun v => (match und E asserted, inf E asserted with
    | some (.interface _), _ => .fail
    | some _, some j => (match ok, v with
      | true, .iface t v => (match Nat.beq t asserted with
        | true => k (.tuple #[v, .bool true])
        | false => (match j.agg with | true => k (.tuple #[.agg (rexpand j.runs).toArray, .bool false]) | false => (match rexpand j.runs with | [z] => k (.tuple #[z, .bool false]) | _ => .fail)))
      | true, .nilIface => (match j.agg with | true => k (.tuple #[.agg (rexpand j.runs).toArray, .bool false]) | false => (match rexpand j.runs with | [z] => k (.tuple #[z, .bool false]) | _ => .fail))
      | false, .iface t v => (match Nat.beq t asserted with | true => k v | false => .fail)
      | _, _ => .fail)
    | _, _ => .fail)
  | .extract t ix => evK .fail tm t fun v => (match v with
    | .tuple vs => (match vs.toList.drop ix with | v :: _ => k v | [] => .fail)
    | _ => .fail)
  | .call { callee := .builtin .len, args, argTypes } => (match args.toList, argTypes.toList with
    | [x], t :: _ => evK .fail tm x fun v => (match und E t, v with
      | some (.slice _), .slice _ n _ => k (.int .i64 n)
      | some (.array n _), _ => k (.int .i64 n)
      | some .string, .string s => k (.int .i64 s.size)
      | some (.map _ _), .map none => k (.int .i64 (0 : Nat))
      | some (.map _ _), .map (some r) => (match get H r with | some (.map es _) => k (.int .i64 es.length) | _ => .fail)
      | _, _ => .fail)
    | _, _ => .fail)
  | .call { callee := .builtin .max, args, argTypes } => evLK .fail tm args.toList fun vs => (match vs.all lit with
    | true => pureK E.P (Builtin.max_ argTypes 0 vs.toArray) (litK k)
    | false => .fail)
  | .call { callee := .builtin .min, args, argTypes } => evLK .fail tm args.toList fun vs => (match vs.all lit with
    | true => pureK E.P (Builtin.min_ argTypes 0 vs.toArray) (litK k)
    | false => .fail)
  | _ => .fail

/-- Is it one of them? -/
def isQ (op : Op) : Bool :=
  match op with
  | .move _ | .assign _ | .pick .. | .build .. | .load .. | .nilCheck _ | .binOp .. | .unOp .. | .makeInterface .. | .makeFunc .. | .slice .. | .fieldAddr .. | .field .. | .indexAddr .. | .index .. | .lookup .. | .typeAssert .. | .extract .. => true
  | .call { callee := .builtin .len, .. } | .call { callee := .builtin .max, .. } | .call { callee := .builtin .min, .. } => true
  | _ => false
/-- Does it read the heap? -/
def readsH (op : Op) : Bool :=
  match op with
  | .load .. | .lookup .. => true
  | .call { callee := .builtin .len, .. } => true
  | _ => false

abbrev Nest := Tgt → List Value → Option (Option Value) → Heap → Nat → R

/-- Only a function with a Go body is entered. -/
def callK (f : FuncId) (r : R) : R :=
  match get E.fn f with
  | some fn => (match fn.body with | some _ => r | none => .fail)
  | none => .fail
/-- All other operations. -/
def xl (nest : Nest) (op : Op) (tm : Tr Value) (H : Heap) (nx : Nat) : R :=
  match op with
  | .alloc t => (match inf E t with
    | some i => newK .fail H nx (.blk false i.size i.size i.runs .nil) fun H' nx' => .val (.pointer (some ⟨nx, 0, none⟩)) H' nx'
    | none => .fail)
  | .box _ x => evK .fail tm x fun v => newL .fail H nx (vcells v) .val
  | .buildSlice t n parts => (match und E t with
    | some (.slice e) => (match inf E e with
      | some j => (match Nat.ble (n * j.size) 4096 && Nat.ble n 4096 with
        | true => partsK .fail tm parts.toList fun ps =>
          (match spliceAll (fun i => some (i * j.size, j.size)) ps (repL n (rexpand j.runs)) with
           | some cs => newL .fail H nx cs fun p H' nx' => (match p with | .pointer a => .val (.slice a n n) H' nx' | _ => .fail)
           | none => .fail)
        | false => .fail)
      | none => .fail)
    | _ => .fail)
  | .store t a x => evK .fail tm a fun p => evK .fail tm x fun v => (match p with
    | .pointer (some ⟨b, o, none⟩) => (match inf E t with
      | some i => (match Nat.beq (vcells v).length i.size with
        | true => wrN .fail H b o (vcells v) fun H' => .val undef H' nx
        | false => .fail)
      | none => .fail)
    | _ => .fail)
  | .convert src dst x => evK .fail tm x fun v => (match und E src, und E dst, v with
    | some (.int _), some (.int kd), .int ks n => (match ks with | _ => .val (.int kd (wrapF kd n)) H nx)
    | some .string, some (.slice e), .string s => (match und E e with
      | some (.int .u8) => wrF .fail s.size (s.data.toList.map fun b => .int .u8 b.toNat) .nil 0 fun c => newK .fail H nx (.blk true s.size 1 [] c) fun H' nx' => .val (.slice (some ⟨nx, 0, none⟩) s.size (UNK + 1)) H' nx'
      | _ => .fail)
    | some (.slice e), some .string, .slice none _ _ => (match und E e with | some (.int .u8) => .val (.string .empty) H nx | _ => .fail)
    | some (.slice e), some .string, .slice (some ⟨b, o, none⟩) n _ => (match und E e with
      | some (.int .u8) => rdN .fail H b o n fun vs => (match bytesOf vs with | some bs => .val (.string ⟨bs.toArray⟩) H nx | none => .fail)
      | _ => .fail)
    | _, _, _ => (match lit v with | true => pureK E.P (convert src dst v) (litK fun v => .val v H nx) | false => .fail))
  | .makeMap _ r => (match r with
    | none => newK .fail H nx (.map [] 0) fun H' nx' => .val (.map (some nx)) H' nx'
    | some _ => .fail)
  | .makeSlice t l c => evK .fail tm l fun l => evK .fail tm c fun c => (match und E t, l, c with
    | some (.slice e), .int _ (.ofNat l), .int _ (.ofNat c) => (match inf E e with
      | some j => (match Nat.ble l c && Nat.ble (c * (j.size + j.bytes + 1)) 1048576 with
        | true => newK .fail H nx (.blk false (c * j.size) j.size j.runs .nil) fun H' nx' => .val (.slice (some ⟨nx, 0, none⟩) l c) H' nx'
        | false => .fail)
      | none => .fail)
    | _, _, _ => .fail)
  | .mapUpdate t m key x | .insert t m key x => evK .fail tm m fun m => evK .fail tm key fun key => evK .fail tm x fun v => (match und E t, m, lit key with
    | some (.map kt _), .map (some r), true => (match get H r with
      | some (.map es clock) => pureK E.P (do Instr.checkKey false 10000 kt key; Instr.findKey kt key (es.map fun e => { key := e.key, val := undef, born := e.born })) fun a =>
        (match a with
         | some (i, _) => (match es.drop i with
           | e :: rest => (match Instr.sameBits 10000 e.key key with
             | true => setK H r (.map (es.take i ++ { e with key, val := v } :: rest) clock) (fun H' => .val undef H' nx) .fail
             | false => .fail)
           | [] => .fail)
         | none => setK H r (.map (es ++ [{ key, val := v, born := clock }]) (clock + 1)) (fun H' => .val undef H' nx) .fail)
      | _ => .fail)
    | _, _, _ => .fail)
  | .call c => (match c.callee with
    | .value f => evK .fail tm f fun fv => evLK .fail tm c.args.toList fun args => (match fv with
      | .func (.func g) first cap => callK E g (nest (.fn g) (first.toList ++ (args ++ cap.toList)) none H nx)
      | .func (.yield l) first cap => (match first.toList, cap.toList with
        | [], [] => nest (.yld l) args none H nx
        | _, _ => .fail)
      | _ => .fail)
    | .invoke recv name => evK .fail tm recv fun rv => evLK .fail tm c.args.toList fun args => (match rv with
      | .iface t v => (match mth E t name with | some f => callK E f (nest (.fn f) (v :: args) none H nx) | none => .fail)
      | _ => .fail)
    | .builtin .append => (match c.args.toList, c.argTypes.toList with
      | [s, x], [st, xt] => evK .fail tm s fun s => evK .fail tm x fun x => appendK E st xt s x H nx
      | _, _ => .fail)
    | .builtin .copy => (match c.args.toList, c.argTypes.toList with
      | [d, x], dt :: _ => evK .fail tm d fun d => evK .fail tm x fun x => copyK E dt d x H nx
      | _, _ => .fail)
    | _ => .fail)
  | _ => .fail
end ops

/-! equality, as far as it is wanted -/
def leq {α : Type} (eq : α → α → Bool) : List α → List α → Bool
  | [], [] => true
  | a :: x, b :: y => (match eq a b with | true => leq eq x y | false => false)
  | _, _ => false
def aeq : Option Addr → Option Addr → Bool
  | none, none => true
  | some ⟨b, o, none⟩, some ⟨c, p, none⟩ => Nat.beq b c && Nat.beq o p
  | _, _ => false
def veq : Nat → Value → Value → Bool
  | 0, _, _ => false
  | f + 1, a, b => match a, b with
    | .bool a, .bool b => (match a, b with | true, true | false, false => true | _, _ => false)
    | .int k m, .int j n => kbeq k j && ieq m n
    | .string s, .string t => leq (fun (a b : UInt8) => Nat.beq a.toNat b.toNat) s.data.toList t.data.toList
    | .pointer a, .pointer b => aeq a b
    | .slice a n c, .slice b m d => aeq a b && Nat.beq n m && Nat.beq c d
    | .map none, .map none => true
    | .map (some a), .map (some b) => Nat.beq a b
    | .func (.func g) x y, .func (.func h) u v => Nat.beq g h && leq (veq f) x.toList u.toList && leq (veq f) y.toList v.toList
    | .func (.yield g) x y, .func (.yield h) u v => Nat.beq g h && leq (veq f) x.toList u.toList && leq (veq f) y.toList v.toList
    | .nilFunc, .nilFunc => true
    | .iface t x, .iface u y => Nat.beq t u && veq f x y
    | .nilIface, .nilIface => true
    | .agg x, .agg y => leq (veq f) x.toList y.toList
    | .tuple x, .tuple y => leq (veq f) x.toList y.toList
    | _, _ => false
def treq {α : Type} (eq : α → α → Bool) : Tr α → Tr α → Bool
  | .nil, .nil => true
  | .node v l r, .node v' l' r' =>
    (match v, v' with | none, none => true | some a, some b => eq a b | _, _ => false) && treq eq l l' && treq eq r r'
  | _, _ => false
def oeq : AObj → AObj → Bool
  | .dead, .dead => true
  | .blk ro s p rs c, .blk ro' s' p' rs' c' => (match ro, ro' with | true, true | false, false => true | _, _ => false) && Nat.beq s s' && Nat.beq p p' &&
    leq (fun (a b : Nat × Value) => Nat.beq a.1 b.1 && veq 4 a.2 b.2) rs rs' && treq (veq 6) c c'
  | .map es k, .map es' k' => Nat.beq k k' && leq (fun (a b : AEnt) => veq 4 a.key b.key && veq 6 a.val b.val && Nat.beq a.born b.born) es es'
  | .defd true, .defd true | .defd false, .defd false => true
  | _, _ => false

/-! regions that draw their order -/
def maskOf (ms : List Nat) : List Edge → Nat → Option Nat
  | [], m => some m
  | e :: r, m => match Region.binds .any e with
    | true => (match Nat.ble (e.on + 1) ms.length with | true => maskOf ms r (m ||| 2 ^ e.on ||| ms.getD e.on 0) | false => none)
    | false => maskOf ms r m
/-- Of each operation what must stand before it; an edge from a later one is refused. -/
def masks : List Oper → List Nat → Option (List Nat)
  | [], ms => some ms
  | o :: r, ms => match maskOf ms o.after.toList 0 with | some m => masks r (ms ++ [m]) | none => none
def tmpsOf (op : Op) : List Tmp := op.operands.toList.filterMap fun | .tmp t => some t | _ => none
def dstIs (d : Tmp) : Option Tmp → Bool
  | some e => Nat.beq d e
  | none => false
/-- Operation i (mask m, reads ts) against all others. -/
def apartAll (i m : Nat) (ts : List Tmp) (dst : Option Tmp) : List (Oper × Nat) → Nat → Bool
  | [], _ => true
  | (o, mj) :: r, j => (match Nat.beq i j with
    | true => true
    | false => (match o.dst with
      | none => true
      | some d => !dstIs d dst && (!ts.any (Nat.beq d) || m.testBit j || mj.testBit i))) && apartAll i m ts dst r (j + 1)
def guardOk (m : Nat) : Option (Nat × Bool) → Bool
  | none => true
  | some (j, _) => m.testBit j
def allApart (all : List (Oper × Nat)) : List (Oper × Nat) → Nat → Bool
  | [], _ => true
  | (o, m) :: r, i => guardOk m o.guard && apartAll i m (tmpsOf o.op) o.dst all 0 && allApart all r (i + 1)
def dinfo (ops : Array Oper) : Option (List (Oper × Nat)) :=
  match masks ops.toList [] with
  | some ms => (match allApart (ops.toList.zip ms) (ops.toList.zip ms) 0 with | true => some (ops.toList.zip ms) | false => none)
  | none => none

/-- What came of an operation in the order of the text. -/
structure Rc where
  o : Oper
  i : Nat
  mask : Nat
  tm : Tr Value
  H : Heap
  nx : Nat
  v : Value
  H' : Heap
  nx' : Nat
  kd : Nat

def wantedA (ops : Array Oper) (tm : Tr Value) (o : Oper) : Bool :=
  match o.guard with
  | none => true
  | some (j, want) => (match (ops[j]?).bind (·.dst) with
    | some d => (match get tm d with
      | some (.bool b) => (match b, want with | true, true | false, false => true | _, _ => false)
      | _ => false)
    | none => false)

section step
variable (E : Env) (nest : Nest)

def putK {β : Type} (z : β) (nt : Nat) (tm : Tr Value) (dst : Option Tmp) (v : Value) (k : Tr Value → β) : β :=
  match dst with
  | none => k tm
  | some d => (match Nat.ble (d + 1) nt with | true => setK tm d v k z | false => k tm)

def opR (o : Oper) (tm : Tr Value) (H : Heap) (nx : Nat) : R :=
  match isQ o.op with
  | true => xq E o.op tm H fun v => .val v H nx
  | false => xl E nest o.op tm H nx

def canon (ops : Array Oper) (nt : Nat) : List (Oper × Nat) → Nat → Tr Value → Heap → Nat → List Rc → (List Rc → Tr Value → Heap → Nat → Out) → Out
  | [], _, tm, H, nx, acc, k => k acc.reverse tm H nx
  | (o, m) :: r, i, tm, H, nx, acc, k =>
    match wantedA ops tm o with
    | false => putK .fail nt tm o.dst undef fun tm' => canon ops nt r (i + 1) tm' H nx (⟨o, i, m, tm, H, nx, undef, H, nx, 0⟩ :: acc) k
    | true => (match opR E nest o tm H nx with
      | .val v H' nx' => putK .fail nt tm o.dst v fun tm' => canon ops nt r (i + 1) tm' H' nx' (⟨o, i, m, tm, H, nx, v, H', nx', match isQ o.op with | true => 1 | false => 2⟩ :: acc) k
      | _ => .fail)

/-- Which loud operations must stand before an operation. -/
def plm (m : Nat) : List Rc → Nat → Nat
  | [], _ => 0
  | r :: l, bit => (match m.testBit r.i with | true => bit | false => 0) + plm m l (2 * bit)
/-- Which loud operations must stand behind operation i. -/
def slm (i : Nat) : List Rc → Nat → Nat
  | [], _ => 0
  | r :: l, bit => (match r.mask.testBit i with | true => bit | false => 0) + slm i l (2 * bit)

def quietAt (loud : List Rc) (D : Nat) (H : Heap) : List Rc → Bool
  | [] => true
  | q :: r => (match Nat.beq q.kd 1 && readsH q.o.op with
    | false => true
    | true => (match Nat.beq (plm q.mask loud 1 &&& D) (plm q.mask loud 1) && Nat.beq (slm q.i loud 1 &&& D) 0 with
      | false => true
      | true => (match xq E q.o.op q.tm H fun v => .val v .nil 0 with | .val v _ _ => veq 6 v q.v | _ => false))) && quietAt loud D H r

/-- Are the loud operations in one line? -/
def inLine (loud : List Rc) : List Rc → Nat → Bool
  | [], _ => true
  | r :: l, bit => Nat.beq (plm r.mask loud 1 + 1) bit && inLine loud l (2 * bit)

/-- In one line: each heap between two loud operations. -/
def lineOk (recs loud : List Rc) : List Rc → Nat → Bool
  | [], _ => true
  | r :: l, bit => quietAt E loud (bit - 1) r.H recs && quietAt E loud (2 * bit - 1) r.H' recs && lineOk recs loud l (2 * bit)

/-- All loud operations that can come behind D. -/
def edges (loud : List Rc) (D : Nat) (HD : Heap) : List Rc → Nat → Tr Heap → Option (Tr Heap)
  | [], _, tb => some tb
  | r :: l, bit, tb =>
    match Nat.beq (D &&& bit) 0 && Nat.beq (plm r.mask loud 1 &&& D) (plm r.mask loud 1) with
    | false => edges loud D HD l (2 * bit) tb
    | true => (match (match Nat.beq (D + 1) bit with | true => R.val r.v r.H' r.nx' | false => opR E nest r.o r.tm HD r.nx) with
      | .val v H' nx' => (match veq 6 v r.v && Nat.beq nx' r.nx' with
        | true => (match get tb (D + bit) with
          | none => setK tb (D + bit) H' (fun tb' => edges loud D HD l (2 * bit) tb') none
          | some T => (match treq oeq H' T with | true => edges loud D HD l (2 * bit) tb | false => none))
        | false => none)
      | _ => none)
def explore (recs loud : List Rc) : Nat → Nat → Tr Heap → Bool
  | 0, _, _ => true
  | f + 1, D, tb => match get tb D with
    | none => explore recs loud f (D + 1) tb
    | some HD => (match quietAt E loud D HD recs with
      | true => (match edges E nest loud D HD loud 1 tb with
        | some tb' => explore recs loud f (D + 1) tb'
        | none => false)
      | false => false)

def orderOk (H : Heap) (recs : List Rc) : Bool :=
  match recs.filter fun r => Nat.beq r.kd 2 with
  | [] => true
  | loud => (match inLine loud loud 1 with
    | true => lineOk E recs loud loud 1
    | false => setK .nil 0 H (fun tb => explore E nest recs loud (2 ^ loud.length) 0 tb) false)

def drawK (ops : Array Oper) (nt : Nat) (tm : Tr Value) (H : Heap) (nx : Nat) (k : Tr Value → Heap → Nat → Out) : Out :=
  match dinfo ops with
  | some l => canon E nest ops nt l 0 tm H nx [] fun recs tm' H' nx' => (match orderOk E nest H recs with | true => k tm' H' nx' | false => .fail)
  | none => .fail

/-! the machine of one frame -/
def exitA (id : Nat) : List It → Option (List It)
  | [] => none
  | .inBlock j :: k => (match Nat.beq j id with | true => some k | false => exitA id k)
  | _ :: k => exitA id k
def gotoA (l : Nat) : List It → Option (List It)
  | [] => none
  | .inScope body :: k => (match findLabel body l with | some rest => some (.code rest :: .inScope body :: k) | none => gotoA l k)
  | _ :: k => gotoA l k

def resK (tm : Tr Value) (H : Heap) : List ResultVar → (List Value → R) → R
  | [], k => k []
  | .tmp t :: r, k => (match get tm t with | some v => resK tm H r fun vs => k (v :: vs) | none => .fail)
  | .cell a t :: r, k => (match get tm a, inf E t with
    | some (.pointer (some ⟨b, o, none⟩)), some i => (match i.agg with
      | true => rdN .fail H b o i.size fun vs => resK tm H r fun us => k (.agg vs.toArray :: us)
      | false => rd1 .fail H b o fun v => resK tm H r fun us => k (v :: us))
    | _, _ => .fail)

/-- The frame's way out: its deferred calls. 'chain': is it panicking? -/
def unw (fi : FI) (tm : Tr Value) (rc : Bool) : List ADef → Option Value → Heap → Nat → R
  | [], none, H, nx => resK E tm H fi.results fun vs =>
    (match rc with
     | true => .vrec (match vs with | [v] => v | vs => .tuple vs.toArray) H nx
     | false => .val (match vs with | [v] => v | vs => .tuple vs.toArray) H nx)
  | [], some v, H, nx => (match rc with | true => .fail | false => .pan v H nx)
  | .coll r :: ds, chain, H, nx => (match get H r with
    | some (.defd true) => setK H r (.defd false) (fun H' => unw fi tm rc ds chain H' nx) .fail
    | _ => .fail)
  | .fn f args :: ds, chain, H, nx => (match callK E f (nest (.fn f) args (some chain) H nx) with
    | .val _ H' nx' => unw fi tm rc ds chain H' nx'
    | .vrec _ H' nx' => unw fi tm rc ds none H' nx'
    | _ => .fail)

def leaveK (fi : FI) (jump : Option Code) (tm : Tr Value) (H : Heap) (nx : Nat) (ds : List ADef) (rc : Bool) : Out :=
  match fi.ro with
  | none => (match jump with
    | none | some .ret => .fin (unw E nest fi tm rc ds none H nx)
    | _ => .fail)
  | some l => (match get H l, ds with
    | some (.loop _ _ fn tmps nt params assign body defers), [] =>
      setK H l (.loop (match jump with | none => .ready | some _ => .done) jump fn tmps nt params assign body defers)
        (fun H' => .fin (.val (.bool (match jump with | none => true | some _ => false)) H' nx)) .fail
    | _, _ => .fail)

/-- The record of a range over a function (and, at an outermost one, the block for the rounds' deferred calls). -/
def rfNew (fi : FI) (params : Array Tmp) (assign body : Code) (tm : Tr Value) (H : Heap) (nx : Nat) (ds : List ADef) (k : Nat → Heap → Nat → List ADef → Out) : Out :=
  match fi.ro with
  | none => newK .fail H nx (.defd true) fun H1 n1 => newK .fail H1 n1 (.loop .ready none fi.fn tm fi.nt params assign body nx) fun H2 n2 => k n1 H2 n2 (.coll nx :: ds)
  | some l0 => (match get H l0 with
    | some (.loop _ _ _ _ _ _ _ _ dfs) => newK .fail H nx (.loop .ready none fi.fn tm fi.nt params assign body dfs) fun H2 n2 => k nx H2 n2 ds
    | _ => .fail)

def genOp (fi : FI) (ops : Array Oper) (o : Oper) (rest : List Oper) (k : List It) (tm : Tr Value) (H : Heap) (nx : Nat) (ds : List ADef) (rc : Bool) : Out :=
  match opR E nest o tm H nx with
  | .val v H' nx' => putK .fail fi.nt tm o.dst v fun tm' => .cont (.inRegion ops rest :: k) tm' H' nx' ds rc
  | .pan v H' nx' => (match fi.ro with
    | none => .fin (unw E nest fi tm rc ds (some v) H' nx')
    | some _ => (match ds, rc with | [], false => .fin (.pan v H' nx') | _, _ => .fail))
  | _ => .fail

def step (fi : FI) (td : List It) (tm : Tr Value) (H : Heap) (nx : Nat) (ds : List ADef) (rc : Bool) : Out :=
  match td with
  | [] => leaveK E nest fi none tm H nx ds rc
  | it :: k => match it with
    | .inBlock _ | .inScope _ => .cont k tm H nx ds rc
    | .inLoop c => .cont (.code c :: .inLoop c :: k) tm H nx ds rc
    | .inRegion ops rest => (match rest with
      | [] => .cont k tm H nx ds rc
      | o :: rest => (match wantedA ops tm o with
        | false => putK .fail fi.nt tm o.dst undef fun tm' => .cont (.inRegion ops rest :: k) tm' H nx ds rc
        | true => (match o.op with
          | .defer c => (match c.callee, fi.ro with
            | .value f, none => evK .fail tm f fun fv => evLK .fail tm c.args.toList fun args => (match fv with
              | .func (.func g) first cap => putK .fail fi.nt tm o.dst undef fun tm' => .cont (.inRegion ops rest :: k) tm' H nx (.fn g (first.toList ++ (args ++ cap.toList)) :: ds) rc
              | _ => .fail)
            | _, _ => .fail)
          | .panic x => evK .fail tm x fun v => (match v, fi.ro with
            | .iface t v, none => .fin (unw E nest fi tm rc ds (some (.iface t v)) H nx)
            | _, _ => .fail)
          | .call { callee := .builtin .recover, .. } => (match fi.ro, fi.dfr, rc, fi.par with
            | none, true, false, some v => putK .fail fi.nt tm o.dst v fun tm' => .cont (.inRegion ops rest :: k) tm' H nx ds true
            | none, true, _, none => putK .fail fi.nt tm o.dst .nilIface fun tm' => .cont (.inRegion ops rest :: k) tm' H nx ds rc
            | _, _, _, _ => .fail)
          | _ => genOp E nest fi ops o rest k tm H nx ds rc)))
    | .endRF l => (match get H l with
      | some (.loop state pending ..) => (match state with
        | .busy => .fail
        | _ => setK H l .dead (fun H' => .cont (match pending with | some c => .code c :: k | none => k) tm H' nx ds rc) .fail)
      | _ => .fail)
    | .beginRound => (match fi.ro with
      | none => .fail
      | some l => (match get H l with
        | some (.loop state pending fn tmps nt params assign body defers) => (match state with
          | .ready => setK H l (.loop .busy pending fn tmps nt params assign body defers) (fun H' => .cont k tm H' nx ds rc) .fail
          | _ => .fail)
        | _ => .fail))
    | .code c => match c with
      | .skip | .label _ => .cont k tm H nx ds rc
      | .seq a b => .cont (.code a :: .code b :: k) tm H nx ds rc
      | .cond c a b => evK .fail tm c fun v => (match v with
        | .bool true => .cont (.code a :: k) tm H nx ds rc
        | .bool false => .cont (.code b :: k) tm H nx ds rc
        | _ => .fail)
      | .block id c => .cont (.code c :: .inBlock id :: k) tm H nx ds rc
      | .loop c => .cont (.code c :: .inLoop c :: k) tm H nx ds rc
      | .scope c => .cont (.code c :: .inScope c :: k) tm H nx ds rc
      | .exit id => (match exitA id k with
        | some k' => .cont k' tm H nx ds rc
        | none => leaveK E nest fi (some (.exit id)) tm H nx ds rc)
      | .goto l => (match gotoA l k with
        | some k' => .cont k' tm H nx ds rc
        | none => leaveK E nest fi (some (.goto l)) tm H nx ds rc)
      | .ret => leaveK E nest fi (some .ret) tm H nx ds rc
      | .refuse _ => .fail
      | .region _ ops draw => (match draw with
        | false => .cont (.inRegion ops ops.toList :: k) tm H nx ds rc
        | true => drawK E nest ops fi.nt tm H nx fun tm' H' nx' => .cont k tm' H' nx' ds rc)
      | .rangeFunc f params assign body => evK .fail tm f fun fv => (match fv with
        | .func (.func g) first cap => rfNew fi params assign body tm H nx ds fun l H2 n2 ds2 =>
          (match callK E g (nest (.fn g) (first.toList ++ (.func (.yield l) #[] #[] :: cap.toList)) none H2 n2) with
           | .val _ H3 n3 => .cont (.endRF l :: k) tm H3 n3 ds2 rc
           | _ => .fail)
        | _ => .fail)
end step

def outR : Out → R
  | .fin r => r
  | _ => .fail

def args0 : List Value → Nat → Tr Value → (Tr Value → R) → R
  | [], _, t, k => k t
  | v :: r, i, t, k => setK t i v (fun t' => args0 r (i + 1) t' k) .fail

def setParams (nt : Nat) : List Tmp → List Value → Tr Value → (Tr Value → R) → R
  | [], [], t, k => k t
  | d :: ps, v :: vs, t, k => putK .fail nt t (some d) v fun t' => setParams nt ps vs t' k
  | _, _, _, _ => .fail

/-- The steps of a frame, doubled at every stage. -/
def ITER : Nat := 40

/-- A frame's run, from its beginning. -/
def begin (E : Env) (nest : Nest) (fi : FI) (td : List It) (tm : Tr Value) (H : Heap) (nx : Nat) : R := outR (iter (step E nest fi) ITER td tm H nx [] false)

def run (E : Env) : Nat → Nest
  | 0 => fun _ _ _ _ _ => .fail
  | d + 1 => fun tgt args dfr H nx =>
    match tgt with
    | .fn f =>
      (match dfr with
       | none => (match E.hook f args H nx with
         | .val v H' nx' => .val v H' nx'
         | _ => (match get E.fn f with
           | some fn => (match fn.body with
             | some c => args0 args 0 .nil fun tm => (match begin E (run E d) ⟨false, none, none, max fn.ntmps args.length, f, tm, fn.results.toList⟩ [.code c] tm H nx with
               | .vrec _ _ _ => .fail
               | r => r)
             | none => .fail)
           | none => .fail))
       | some par => (match get E.fn f with
           | some fn => (match fn.body with
             | some c => args0 args 0 .nil fun tm => (match begin E (run E d) ⟨true, par, none, max fn.ntmps args.length, f, tm, fn.results.toList⟩ [.code c] tm H nx with
               | .pan _ _ _ => .fail
               | r => r)
             | none => .fail)
           | none => .fail))
    | .yld l => (match get H l, dfr with
      | some (.loop _ _ fn tmps nt params assign body _), none => (match get E.fn fn with
       | none => .fail
       | some _ => setParams nt params.toList args tmps fun tm => (match begin E (run E d) ⟨false, none, some l, nt, fn, tm, []⟩ [.code assign, .beginRound, .code body] tm H nx with
          | .vrec _ _ _ => .fail
          | r => r))
      | _, _ => .fail)
end
end Go.Ex
namespace Go.Ex
open Go Go.RowKit

/-! tries -/
section tr
variable {α β : Type}
@[simp] theorem get_nil (n : Nat) : get (.nil : Tr α) n = none := rfl
theorem get_node_zero (v : Option α) (l r : Tr α) : get (.node v l r) 0 = v := rfl
theorem get_node_succ (v : Option α) (l r : Tr α) (m : Nat) : get (.node v l r) (m + 1) = if m % 2 = 0 then get l (m / 2) else get r (m / 2) := by
  show Bool.rec (motive := fun _ => Option α) (get r (m / 2)) (get l (m / 2)) (Nat.beq (m % 2) 0) = _
  by_cases h : m % 2 = 0
  · rw [if_pos h, h]; rfl
  · rw [if_neg h]
    have : Nat.beq (m % 2) 0 = false := by
      cases hb : Nat.beq (m % 2) 0 with
      | false => rfl
      | true => exact absurd (Nat.eq_of_beq_eq_true hb) h
    rw [this]
theorem setF_zero (t : Tr α) (n : Nat) (a : α) (k : Tr α → β) (z : β) : setF 0 t n a k z = z := rfl
theorem setF_nil_zero (f : Nat) (a : α) (k : Tr α → β) (z : β) : setF (f + 1) .nil 0 a k z = k (.node (some a) .nil .nil) := rfl
theorem setF_node_zero (f : Nat) (v : Option α) (l r : Tr α) (a : α) (k : Tr α → β) (z : β) : setF (f + 1) (.node v l r) 0 a k z = k (.node (some a) l r) := rfl
theorem setF_nil_succ (f m : Nat) (a : α) (k : Tr α → β) (z : β) :
    setF (f + 1) .nil (m + 1) a k z = if m % 2 = 0 then setF f .nil (m / 2) a (fun t => k (.node none t .nil)) z else setF f .nil (m / 2) a (fun t => k (.node none .nil t)) z := by
  show Bool.rec (motive := fun _ => β) (setF f .nil (m / 2) a (fun t => k (.node none .nil t)) z) (setF f .nil (m / 2) a (fun t => k (.node none t .nil)) z) (Nat.beq (m % 2) 0) = _
  by_cases h : m % 2 = 0
  · rw [if_pos h, h]; rfl
  · rw [if_neg h]
    have : Nat.beq (m % 2) 0 = false := by
      cases hb : Nat.beq (m % 2) 0 with
      | false => rfl
      | true => exact absurd (Nat.eq_of_beq_eq_true hb) h
    rw [this]
theorem setF_node_succ (f m : Nat) (v : Option α) (l r : Tr α) (a : α) (k : Tr α → β) (z : β) :
    setF (f + 1) (.node v l r) (m + 1) a k z = if m % 2 = 0 then setF f l (m / 2) a (fun t => k (.node v t r)) z else setF f r (m / 2) a (fun t => k (.node v l t)) z := by
  show Bool.rec (motive := fun _ => β) (setF f r (m / 2) a (fun t => k (.node v l t)) z) (setF f l (m / 2) a (fun t => k (.node v t r)) z) (Nat.beq (m % 2) 0) = _
  by_cases h : m % 2 = 0
  · rw [if_pos h, h]; rfl
  · rw [if_neg h]
    have : Nat.beq (m % 2) 0 = false := by
      cases hb : Nat.beq (m % 2) 0 with
      | false => rfl
      | true => exact absurd (Nat.eq_of_beq_eq_true hb) h
    rw [this]
/-- What the trie t' holds: t with a at n. -/
def IsSet (t : Tr α) (n : Nat) (a : α) (t' : Tr α) : Prop := ∀ m, get t' m = if m = n then some a else get t m
theorem setF_spec (f : Nat) : ∀ (t : Tr α) (n : Nat) (a : α) (k : Tr α → β) (z : β),
    setF f t n a k z = z ∨ ∃ t', IsSet t n a t' ∧ setF f t n a k z = k t' := by
  induction f with
  | zero => intro t n a k z; exact .inl rfl
  | succ f ih =>
    intro t n a k z
    cases n with
    | zero =>
      cases t with
      | nil => exact .inr ⟨_, fun m => by cases m with | zero => rfl | succ m => rw [get_node_succ]; simp, rfl⟩
      | node v l r => exact .inr ⟨_, fun m => by cases m with | zero => rfl | succ m => rw [get_node_succ, get_node_succ]; simp, rfl⟩
    | succ n =>
      cases t with
      | nil =>
        rw [setF_nil_succ]
        by_cases h : n % 2 = 0
        · rw [if_pos h]
          rcases ih .nil (n / 2) a (fun t => k (.node none t .nil)) z with h' | ⟨t', h1, h2⟩
          · exact .inl h'
          · refine .inr ⟨_, fun m => ?_, h2⟩
            cases m with
            | zero => simp [get_node_zero]
            | succ m => rw [get_node_succ]; by_cases hm : m % 2 = 0
                        · rw [if_pos hm, h1]; simp; congr 1; simp; omega
                        · rw [if_neg hm]; simp; intro e; subst e; exact absurd h hm
        · rw [if_neg h]
          rcases ih .nil (n / 2) a (fun t => k (.node none .nil t)) z with h' | ⟨t', h1, h2⟩
          · exact .inl h'
          · refine .inr ⟨_, fun m => ?_, h2⟩
            cases m with
            | zero => simp [get_node_zero]
            | succ m => rw [get_node_succ]; by_cases hm : m % 2 = 0
                        · rw [if_pos hm]; simp; intro e; subst e; exact absurd hm h
                        · rw [if_neg hm, h1]; simp; congr 1; simp; omega
      | node v l r =>
        rw [setF_node_succ]
        by_cases h : n % 2 = 0
        · rw [if_pos h]
          rcases ih l (n / 2) a (fun t => k (.node v t r)) z with h' | ⟨t', h1, h2⟩
          · exact .inl h'
          · refine .inr ⟨_, fun m => ?_, h2⟩
            cases m with
            | zero => simp [get_node_zero]
            | succ m => rw [get_node_succ, get_node_succ]; by_cases hm : m % 2 = 0
                        · rw [if_pos hm, if_pos hm, h1]; congr 1; simp; omega
                        · rw [if_neg hm, if_neg hm]; rw [if_neg]; intro e; simp at e; subst e; exact absurd h hm
        · rw [if_neg h]
          rcases ih r (n / 2) a (fun t => k (.node v l t)) z with h' | ⟨t', h1, h2⟩
          · exact .inl h'
          · refine .inr ⟨_, fun m => ?_, h2⟩
            cases m with
            | zero => simp [get_node_zero]
            | succ m => rw [get_node_succ, get_node_succ]; by_cases hm : m % 2 = 0
                        · rw [if_pos hm, if_pos hm]; rw [if_neg]; intro e; simp at e; subst e; exact absurd hm h
                        · rw [if_neg hm, if_neg hm, h1]; congr 1; simp; omega
theorem setK_spec {t : Tr α} {n : Nat} {a : α} {k : Tr α → β} {z r : β} (h : setK t n a k z = r) (hr : r ≠ z) :
    ∃ t', IsSet t n a t' ∧ k t' = r := by
  rcases setF_spec 64 t n a k z with h' | ⟨t', h1, h2⟩
  · exact absurd (h.symm.trans h') hr
  · exact ⟨t', h1, h2.symm.trans h⟩
theorem IsSet.same {t t' : Tr α} {n : Nat} {a : α} (h : IsSet t n a t') : get t' n = some a := by rw [h n, if_pos rfl]
theorem IsSet.other {t t' : Tr α} {n m : Nat} {a : α} (h : IsSet t n a t') (hm : m ≠ n) : get t' m = get t m := by rw [h m, if_neg hm]
end tr
end Go.Ex
namespace Go.Ex
open Go Go.RowKit

structure Loc where
  block : Nat
  shift : Nat
  size : Nat
abbrev Sg := Nat → Option Loc
def Sg.le (σ τ : Sg) : Prop := ∀ i l, σ i = some l → τ i = some l
theorem Sg.le_refl (σ : Sg) : Sg.le σ σ := fun _ _ h => h
theorem Sg.le.trans' {a b c : Sg} (h : Sg.le a b) (h' : Sg.le b c) : Sg.le a c := fun i l x => h' i l (h i l x)
theorem Sg.le_trans {a b c : Sg} (h : Sg.le a b) (h' : Sg.le b c) : Sg.le a c := fun i l x => h' i l (h i l x)

mutual
/-- The abstract value stands for the value. -/
inductive Con (σ : Sg) : Value → Value → Prop where
  | sc (v : Value) (h : scal v = true) : Con σ v v
  | ptr (b o : Nat) (l : Loc) (h : σ b = some l) : Con σ (.pointer (some ⟨b, o, none⟩)) (.pointer (some ⟨l.block, l.shift + o, none⟩))
  | slice (b o n c : Nat) (l : Loc) (h : σ b = some l) (hn : n ≤ c) (hc : c < UNK) :
      Con σ (.slice (some ⟨b, o, none⟩) n c) (.slice (some ⟨l.block, l.shift + o, none⟩) n c)
  | sliceU (b o n c : Nat) (l : Loc) (o' c' : Nat) (h : σ b = some l) (hc : UNK ≤ c) (hn : n ≤ c') (ho : n ≠ 0 → o' = l.shift + o)
      (hs : o' + c' * (c - UNK) ≤ l.size) : Con σ (.slice (some ⟨b, o, none⟩) n c) (.slice (some ⟨l.block, o', none⟩) n c')
  | map (r : Nat) (l : Loc) (h : σ r = some l) : Con σ (.map (some r)) (.map (some l.block))
  | fn (f : Nat) (xs ys xs' ys' : List Value) (h : ConL σ xs xs') (h' : ConL σ ys ys') :
      Con σ (.func (.func f) ⟨xs⟩ ⟨ys⟩) (.func (.func f) ⟨xs'⟩ ⟨ys'⟩)
  | yld (r : Nat) (l : Loc) (xs ys xs' ys' : List Value) (h : σ r = some l) (h1 : ConL σ xs xs') (h2 : ConL σ ys ys') :
      Con σ (.func (.yield r) ⟨xs⟩ ⟨ys⟩) (.func (.yield l.block) ⟨xs'⟩ ⟨ys'⟩)
  | iface (t : TypeId) (v v' : Value) (h : Con σ v v') : Con σ (.iface t v) (.iface t v')
  | agg (xs xs' : List Value) (h : ConL σ xs xs') : Con σ (.agg ⟨xs⟩) (.agg ⟨xs'⟩)
  | tup (xs xs' : List Value) (h : ConL σ xs xs') : Con σ (.tuple ⟨xs⟩) (.tuple ⟨xs'⟩)
inductive ConL (σ : Sg) : List Value → List Value → Prop where
  | nil : ConL σ [] []
  | cons (v v' : Value) (xs xs' : List Value) (h : Con σ v v') (t : ConL σ xs xs') : ConL σ (v :: xs) (v' :: xs')
end

theorem Con.mono {σ τ : Sg} (hle : Sg.le σ τ) {v V : Value} (h : Con σ v V) : Con τ v V :=
  Con.rec (motive_1 := fun v V _ => Con τ v V) (motive_2 := fun xs ys _ => ConL τ xs ys)
    (fun v h => .sc v h) (fun b o l h => .ptr b o l (hle _ _ h)) (fun b o n c l h hn hc => .slice b o n c l (hle _ _ h) hn hc)
    (fun b o n c l o' c' h hc hn ho hs => .sliceU b o n c l o' c' (hle _ _ h) hc hn ho hs) (fun r l h => .map r l (hle _ _ h))
    (fun f xs ys xs' ys' _ _ i1 i2 => .fn f xs ys xs' ys' i1 i2) (fun r l xs ys xs' ys' h _ _ i1 i2 => .yld r l xs ys xs' ys' (hle _ _ h) i1 i2)
    (fun t v v' _ i => .iface t v v' i) (fun xs xs' _ i => .agg xs xs' i) (fun xs xs' _ i => .tup xs xs' i)
    .nil (fun v v' xs xs' _ _ i1 i2 => .cons v v' xs xs' i1 i2) h
theorem ConL.mono {σ τ : Sg} (hle : Sg.le σ τ) {v V : List Value} (h : ConL σ v V) : ConL τ v V := by
  induction v generalizing V with
  | nil => cases h; exact .nil
  | cons a r ih => cases h with | cons _ v' _ xs' h t => exact .cons _ _ _ _ (h.mono hle) (ih t)
theorem ConL.length {σ : Sg} {xs ys : List Value} (h : ConL σ xs ys) : ys.length = xs.length := by
  induction xs generalizing ys with
  | nil => cases h; rfl
  | cons a r ih => cases h with | cons _ v' _ xs' h t => simp [ih t]
theorem ConL.append {σ : Sg} {xs ys us vs : List Value} (h : ConL σ xs ys) (h' : ConL σ us vs) : ConL σ (xs ++ us) (ys ++ vs) := by
  induction xs generalizing ys with
  | nil => cases h; exact h'
  | cons a r ih => cases h with | cons _ v' _ xs' h t => exact .cons _ _ _ _ h (ih t)
theorem ConL.take {σ : Sg} {xs ys : List Value} (h : ConL σ xs ys) (n : Nat) : ConL σ (xs.take n) (ys.take n) := by
  induction xs generalizing ys n with
  | nil => cases h; simp; exact .nil
  | cons a r ih => cases h with | cons _ v' _ xs' h t =>
    cases n with
    | zero => simp; exact .nil
    | succ n => simp; exact .cons _ _ _ _ h (ih t n)
theorem ConL.drop {σ : Sg} {xs ys : List Value} (h : ConL σ xs ys) (n : Nat) : ConL σ (xs.drop n) (ys.drop n) := by
  induction xs generalizing ys n with
  | nil => cases h; simp; exact .nil
  | cons a r ih => cases h with | cons _ v' _ xs' h t =>
    cases n with
    | zero => simp; exact .cons _ _ _ _ h t
    | succ n => simp; exact ih t n
theorem ConL.get {σ : Sg} {xs ys : List Value} (h : ConL σ xs ys) {i : Nat} {v : Value} (hv : xs[i]? = some v) : ∃ V, ys[i]? = some V ∧ Con σ v V := by
  induction xs generalizing ys i with
  | nil => simp at hv
  | cons a r ih => cases h with | cons _ v' _ xs' h t =>
    cases i with
    | zero => simp at hv; subst hv; exact ⟨v', by simp, h⟩
    | succ i => simp at hv; obtain ⟨V, h1, h2⟩ := ih t hv; exact ⟨V, by simpa using h1, h2⟩
theorem ConL.of_get {σ : Sg} {xs ys : List Value} (hl : ys.length = xs.length) (h : ∀ (i : Nat) v, xs[i]? = some v → ∃ V, ys[i]? = some V ∧ Con σ v V) : ConL σ xs ys := by
  induction xs generalizing ys with
  | nil => cases ys with | nil => exact .nil | cons _ _ => simp at hl
  | cons a r ih => cases ys with
    | nil => simp at hl
    | cons b s =>
      obtain ⟨V, h1, h2⟩ := h 0 a rfl
      simp at h1; subst h1
      exact .cons _ _ _ _ h2 (ih (by simpa using hl) fun i v hv => by
        obtain ⟨V, h1, h2⟩ := h (i + 1) v (by simpa using hv)
        exact ⟨V, by simpa using h1, h2⟩)

/-! values without addresses -/
theorem Con.scal {σ : Sg} {v V : Value} (h : Con σ v V) (hs : scal v = true) : V = v := by
  cases h with
  | sc => rfl
  | _ => simp [Ex.scal] at hs
theorem ConL.scal {σ : Sg} {xs ys : List Value} (h : ConL σ xs ys) (hs : xs.all Ex.scal = true) : ys = xs := by
  induction xs generalizing ys with
  | nil => cases h; rfl
  | cons a r ih => cases h with | cons _ v' _ xs' h t =>
    simp at hs
    rw [h.scal hs.1, ih t (by simpa using hs.2)]
theorem Con.lit {σ : Sg} {v V : Value} (h : Con σ v V) (hs : lit v = true) : V = v := by
  cases h with
  | sc => rfl
  | agg xs xs' h => simp only [Ex.lit] at hs; rw [h.scal hs]
  | tup xs xs' h => simp only [Ex.lit] at hs; rw [h.scal hs]
  | _ => simp [Ex.lit] at hs
theorem ConL.of_scal {σ : Sg} {xs : List Value} (hs : xs.all Ex.scal = true) : ConL σ xs xs := by
  induction xs with
  | nil => exact .nil
  | cons a r ih => simp at hs; exact .cons _ _ _ _ (.sc a hs.1) (ih (by simpa using hs.2))
theorem lit_scal {v : Value} (h : Ex.lit v = true) : Ex.scal v = true ∨ (∃ cs, v = .agg cs ∧ cs.toList.all Ex.scal = true) ∨ (∃ cs, v = .tuple cs ∧ cs.toList.all Ex.scal = true) := by
  unfold Ex.lit at h
  split at h <;> first | exact .inl rfl | exact .inr (.inl ⟨_, rfl, h⟩) | exact .inr (.inr ⟨_, rfl, h⟩) | simp at h
theorem Con.of_lit {σ : Sg} {v : Value} (h : Ex.lit v = true) : Con σ v v := by
  rcases lit_scal h with h | ⟨⟨cs⟩, rfl, h⟩ | ⟨⟨cs⟩, rfl, h⟩
  · exact .sc v h
  · exact .agg _ _ (ConL.of_scal h)
  · exact .tup _ _ (ConL.of_scal h)
theorem Con.undef {σ : Sg} : Con σ undef undef := .tup [] [] .nil
theorem Con.cells {σ : Sg} {v V : Value} (h : Con σ v V) : ConL σ (vcells v) V.cells.toList := by
  cases h with
  | agg xs xs' h => exact h
  | sc v h =>
    have : v.cells.toList = [v] := by cases v <;> first | rfl | simp [Ex.scal] at h
    have h2 : vcells v = [v] := by cases v <;> first | rfl | simp [Ex.scal] at h
    rw [this, h2]; exact .cons _ _ _ _ (.sc _ h) .nil
  | ptr b o l h => exact .cons _ _ _ _ (.ptr b o l h) .nil
  | slice b o n c l h hn hc => exact .cons _ _ _ _ (.slice b o n c l h hn hc) .nil
  | sliceU b o n c l o' c' h hc hn ho hs => exact .cons _ _ _ _ (.sliceU b o n c l o' c' h hc hn ho hs) .nil
  | map r l h => exact .cons _ _ _ _ (.map r l h) .nil
  | fn f xs ys xs' ys' h h' => exact .cons _ _ _ _ (.fn f xs ys xs' ys' h h') .nil
  | yld r l xs ys xs' ys' h h1 h2 => exact .cons _ _ _ _ (.yld r l xs ys xs' ys' h h1 h2) .nil
  | iface t v v' h => exact .cons _ _ _ _ (.iface t v v' h) .nil
  | tup xs xs' h => exact .cons _ _ _ _ (.tup xs xs' h) .nil
theorem Con.one {σ : Sg} {v V : Value} (h : Con σ v V) (h1 : Ex.one v = true) : (∀ c, V ≠ .agg c) ∧ (∀ c, V ≠ .tuple c) := by
  cases h with
  | sc v h => cases v <;> simp_all [Ex.scal]
  | agg => simp [Ex.one] at h1
  | tup => simp [Ex.one] at h1
  | _ => exact ⟨fun c => by simp, fun c => by simp⟩

/-! cells -/
noncomputable def cellOf (size per : Nat) (runs : List (Nat × Value)) (cells : Tr Value) (o : Nat) : Option Value :=
  if o < size then (match get cells o with | some v => some v | none => rget runs (o % per)) else none
theorem cellK_some {β : Type} {z r : β} {size per : Nat} {runs : List (Nat × Value)} {cells : Tr Value} {o : Nat} {k : Value → β}
    (h : cellK z size per runs cells o k = r) (hr : r ≠ z) : ∃ v, cellOf size per runs cells o = some v ∧ k v = r := by
  unfold cellK at h
  unfold cellOf
  split at h
  · rename_i hb
    rw [if_pos (by exact Nat.le_of_ble_eq_true hb)]
    split at h
    · rename_i v hv; exact ⟨v, by simp [], h⟩
    · rename_i hv
      split at h
      · rename_i v hv'; exact ⟨v, by simp [hv'], h⟩
      · exact absurd h.symm hr
  · exact absurd h.symm hr
theorem rdF_zero {β : Type} (z : β) (size per : Nat) (runs : List (Nat × Value)) (cells : Tr Value) (o : Nat) (k : List Value → β) : rdF z size per runs cells 0 o k = k [] := rfl
theorem rdF_succ {β : Type} (z : β) (size per : Nat) (runs : List (Nat × Value)) (cells : Tr Value) (n o : Nat) (k : List Value → β) :
    rdF z size per runs cells (n + 1) o k = cellK z size per runs cells o fun v => rdF z size per runs cells n (o + 1) fun vs => k (v :: vs) := rfl
theorem rdF_some {β : Type} {z r : β} {size per : Nat} {runs : List (Nat × Value)} {cells : Tr Value} {n : Nat} : ∀ {o : Nat} {k : List Value → β},
    rdF z size per runs cells n o k = r → r ≠ z → ∃ vs, vs.length = n ∧ (∀ (i : Nat) v, vs[i]? = some v → cellOf size per runs cells (o + i) = some v) ∧ k vs = r := by
  induction n with
  | zero => intro o k h hr; exact ⟨[], rfl, by simp, h⟩
  | succ n ih =>
    intro o k h hr
    rw [rdF_succ] at h
    obtain ⟨v, hv, h⟩ := cellK_some h hr
    obtain ⟨vs, hl, hc, h⟩ := ih h hr
    refine ⟨v :: vs, by simp [hl], fun i u hu => ?_, h⟩
    cases i with
    | zero => simp at hu; subst hu; exact hv
    | succ i => simp at hu; have := hc i u hu; rwa [show o + 1 + i = o + (i + 1) by omega] at this

/-- What lies in cell o of block b. -/
noncomputable def cellAt (H : Heap) (b o : Nat) : Option Value :=
  match get H b with
  | some (.blk _ size per runs cells) => cellOf size per runs cells o
  | _ => none
theorem rd1_some {β : Type} {z r : β} {H : Heap} {b o : Nat} {k : Value → β} (h : rd1 z H b o k = r) (hr : r ≠ z) : ∃ v, cellAt H b o = some v ∧ k v = r := by
  unfold rd1 at h
  split at h
  · rename_i hg
    obtain ⟨v, hv, h⟩ := cellK_some h hr
    exact ⟨v, by simp [cellAt, hg, hv], h⟩
  · exact absurd h.symm hr
theorem rdN_some {β : Type} {z r : β} {H : Heap} {b o n : Nat} {k : List Value → β} (h : rdN z H b o n k = r) (hr : r ≠ z) :
    (∃ ob, get H b = some ob) ∧ ∃ vs, vs.length = n ∧ (∀ (i : Nat) v, vs[i]? = some v → cellAt H b (o + i) = some v) ∧ k vs = r := by
  unfold rdN at h
  split at h
  · rename_i hg
    obtain ⟨vs, hl, hc, h⟩ := rdF_some h hr
    exact ⟨⟨_, hg⟩, vs, hl, fun i v hv => by simp [cellAt, hg, hc i v hv], h⟩
  · exact absurd h.symm hr

/-! the heap -/
def EntRel (σ : Sg) (e : AEnt) (e' : MapEntry) : Prop := e'.key = e.key ∧ Con σ e.val e'.val ∧ e'.born = e.born
def EntsRel (σ : Sg) (es : List AEnt) (es' : List MapEntry) : Prop := es'.length = es.length ∧ ∀ (i : Nat) e, es[i]? = some e → ∃ e', es'[i]? = some e' ∧ EntRel σ e e'
/-- The slots. -/
structure TRel (σ : Sg) (tm : Tr Value) (nt : Nat) (T : Array Value) : Prop where
  size : T.size = nt
  some : ∀ (i : Nat) v, get tm i = some v → ∃ V, T[i]? = some V ∧ Con σ v V
  none : ∀ i, get tm i = none → T.getD i Go.undef = Go.undef
def ORel (σ : Sg) (w : World) (l : Loc) : AObj → Prop
  | .dead => True
  | .blk ro size per runs cells => l.shift + size ≤ l.size ∧ ∃ c elem fr, w.heap[l.block]? = some (.cells c elem fr) ∧ c.size = l.size ∧ (ro = false → fr = (0, 0)) ∧
      ∀ i v, cellOf size per runs cells i = some v → ∃ V, c[l.shift + i]? = some V ∧ Con σ v V
  | .map es clock => ∃ es', w.heap[l.block]? = some (.map es' clock) ∧ EntsRel σ es es'.toList
  | .loop st pend fn tm nt params assign body defers => ∃ T lD, w.heap[l.block]? = some (.loop { state := st, pending := pend, fn, tmps := T, params, assign, body, defers := lD.block }) ∧ TRel σ tm nt T ∧ σ defers = some lD
  | .defd true => w.heap[l.block]? = some (.deferred (some []))
  | .defd false => w.heap[l.block]? = some (.deferred none)
/-- May the object be written? -/
def AObj.own : AObj → Bool
  | .dead => false
  | .blk ro _ _ _ _ => !ro
  | _ => true
/-- Does it lie above B? -/
def AObj.mine : AObj → Bool
  | .dead => false
  | .blk ro _ per _ _ => !ro || Nat.beq per 0
  | _ => true
theorem AObj.mine_of_own {o : AObj} (h : o.own = true) : o.mine = true := by
  cases o <;> simp_all [AObj.own, AObj.mine]
def AObj.live : AObj → Bool
  | .dead => false
  | _ => true
structure Rel (B : Nat) (σ : Sg) (H : Heap) (w : World) : Prop where
  obj : ∀ i o, get H i = some o → ∃ l, σ i = some l ∧ ORel σ w l o ∧ (o.mine = true → B ≤ l.block)
  dom : ∀ i l, σ i = some l → (∃ o, get H i = some o) ∧ l.block < w.heap.size
  uniq : ∀ i j o o' l l', get H i = some o → get H j = some o' → o.own = true → o'.live = true → i ≠ j → σ i = some l → σ j = some l' → l.block ≠ l'.block
theorem TRel.mono {σ τ : Sg} (h : Sg.le σ τ) {tm : Tr Value} {nt : Nat} {T : Array Value} (r : TRel σ tm nt T) : TRel τ tm nt T :=
  ⟨r.size, fun i v hv => let ⟨V, h1, h2⟩ := r.some i v hv; ⟨V, h1, h2.mono h⟩, r.none⟩
theorem EntsRel.mono {σ τ : Sg} (h : Sg.le σ τ) {es : List AEnt} {es' : List MapEntry} (r : EntsRel σ es es') : EntsRel τ es es' :=
  ⟨r.1, fun i e he => let ⟨e', h1, h2, h3, h4⟩ := r.2 i e he; ⟨e', h1, h2, h3.mono h, h4⟩⟩
theorem ORel.mono {σ τ : Sg} (h : Sg.le σ τ) {w : World} {l : Loc} {o : AObj} (r : ORel σ w l o) : ORel τ w l o := by
  cases o with
  | dead => trivial
  | blk ro size per runs cells => obtain ⟨h0, c, elem, fr, h1, h2, h3, h4⟩ := r; exact ⟨h0, c, elem, fr, h1, h2, h3, fun i v hv => let ⟨V, a, b⟩ := h4 i v hv; ⟨V, a, b.mono h⟩⟩
  | map es clock => obtain ⟨es', h1, h2⟩ := r; exact ⟨es', h1, h2.mono h⟩
  | loop st pend fn tm nt params assign body defers => obtain ⟨T, lD, h1, h2, h3⟩ := r; exact ⟨T, lD, h1, h2.mono h, h _ _ h3⟩
  | defd b => cases b <;> exact r
/-- An object's relation asks of the world its own block alone. -/
theorem ORel.world {σ : Sg} {w w' : World} {l : Loc} {o : AObj} (r : ORel σ w l o) (h : o.live = true → w'.heap[l.block]? = w.heap[l.block]?) : ORel σ w' l o := by
  cases o with
  | dead => trivial
  | blk ro size per runs cells => obtain ⟨h0, c, elem, fr, h1, h2⟩ := r; exact ⟨h0, c, elem, fr, (h rfl).trans h1, h2⟩
  | map es clock => obtain ⟨es', h1, h2⟩ := r; exact ⟨es', (h rfl).trans h1, h2⟩
  | loop st pend fn tm nt params assign body defers => obtain ⟨T, lD, h1, h2⟩ := r; exact ⟨T, lD, (h rfl).trans h1, h2⟩
  | defd b => cases b <;> exact (h rfl).trans r
end Go.Ex
namespace Go.Ex
open Go Go.RowKit

theorem add_flat (b o n : Nat) : (⟨b, o, none⟩ : Addr).add n = ⟨b, o + n, none⟩ := by unfold Addr.add; split <;> simp_all

theorem alloc_size (w : World) (o : Obj) : (w.alloc o).heap.size = w.heap.size + 1 := by show (w.heap.push o).size = _; simp
theorem alloc_new (w : World) (o : Obj) : (w.alloc o).heap[w.heap.size]? = some o := by show (w.heap.push o)[w.heap.size]? = _; simp

section rel
variable {B : Nat} {σ : Sg} {H : Heap} {w : World}

theorem Rel.cell (r : Rel B σ H w) {b o : Nat} {v : Value} (h : cellAt H b o = some v) :
    ∃ l V, σ b = some l ∧ w.cell? ⟨l.block, l.shift + o, none⟩ = some V ∧ Con σ v V := by
  unfold cellAt at h
  split at h
  · rename_i ro size per runs cells hg
    obtain ⟨l, hl, hO, _⟩ := r.obj _ _ hg
    obtain ⟨_, c, elem, fr, h1, h2, h3, h4⟩ := hO
    obtain ⟨V, hV, hc⟩ := h4 _ _ h
    exact ⟨l, V, hl, by simp [World.cell?, h1, hV], hc⟩
  · simp at h
theorem Rel.cell' (r : Rel B σ H w) {b o : Nat} {v : Value} {l : Loc} (hl : σ b = some l) (h : cellAt H b o = some v) :
    ∃ V, w.cell? ⟨l.block, l.shift + o, none⟩ = some V ∧ Con σ v V := by
  obtain ⟨l', V, h1, h2, h3⟩ := r.cell h
  rw [hl] at h1; cases h1
  exact ⟨V, h2, h3⟩
/-- A row of cells, read. -/
theorem Rel.cells (r : Rel B σ H w) {b o : Nat} {vs : List Value} {l : Loc} (hl : σ b = some l)
    (h : ∀ (i : Nat) v, vs[i]? = some v → cellAt H b (o + i) = some v) :
    ∃ Vs, ConL σ vs Vs ∧ ∀ (P : Program), (loadCells ⟨l.block, l.shift + o, none⟩ vs.length).run P w = .ok Vs.toArray w := by
  have key : ∀ (vs : List Value) (o : Nat), (∀ (i : Nat) v, vs[i]? = some v → cellAt H b (o + i) = some v) →
      ∃ Vs, ConL σ vs Vs ∧ ∀ (i : Nat) V, Vs[i]? = some V → w.cell? ⟨l.block, l.shift + o + i, none⟩ = some V := by
    intro vs
    induction vs with
    | nil => intro o _; exact ⟨[], .nil, by simp⟩
    | cons v vs ih =>
      intro o h
      obtain ⟨V, h1, h2⟩ := r.cell' hl (h 0 v rfl)
      obtain ⟨Vs, h3, h4⟩ := ih (o + 1) fun i u hu => by have := h (i + 1) u (by simpa using hu); rwa [show o + (i + 1) = o + 1 + i by omega] at this
      refine ⟨V :: Vs, .cons _ _ _ _ h2 h3, fun i U hU => ?_⟩
      cases i with
      | zero => simp at hU; subst hU; simpa using h1
      | succ i => have := h4 i U (by simpa using hU); rwa [show l.shift + (o + 1) + i = l.shift + o + (i + 1) by omega] at this
  obtain ⟨Vs, h1, h2⟩ := key vs o h
  refine ⟨Vs, h1, fun P => ?_⟩
  have := run_loadCells_list (P := P) w ⟨l.block, l.shift + o, none⟩ Vs (fun j V hV => by rw [add_flat]; exact h2 j V hV)
  rwa [h1.length] at this

/-- A new object. -/
theorem Rel.alloc (r : Rel B σ H w) (hB : B ≤ w.heap.size) {nx : Nat} {o : AObj} {H' : Heap} (hn : get H nx = none) (hs : IsSet H nx o H') (ob : Obj) (size : Nat)
    (ho : ∀ τ, Sg.le σ τ → τ nx = some ⟨w.heap.size, 0, size⟩ → ORel τ (w.alloc ob) ⟨w.heap.size, 0, size⟩ o) :
    ∃ τ, Sg.le σ τ ∧ τ nx = some ⟨w.heap.size, 0, size⟩ ∧ Rel B τ H' (w.alloc ob) ∧ Below B w (w.alloc ob) := by
  have hσ : σ nx = none := by
    cases h : σ nx with
    | none => rfl
    | some l => obtain ⟨⟨o, ho⟩, _⟩ := r.dom _ _ h; rw [hn] at ho; cases ho
  let τ : Sg := fun i => if i = nx then some ⟨w.heap.size, 0, size⟩ else σ i
  have hle : Sg.le σ τ := fun i l h => by
    show (if i = nx then _ else _) = _
    by_cases e : i = nx
    · subst e; rw [hσ] at h; cases h
    · rw [if_neg e]; exact h
  have hτ : τ nx = some ⟨w.heap.size, 0, size⟩ := if_pos rfl
  have hold : ∀ i, i ≠ nx → τ i = σ i := fun i e => if_neg e
  have hheap : ∀ k, k < w.heap.size → (w.alloc ob).heap[k]? = w.heap[k]? := fun k hk => Below.heap_alloc w ob k hk
  refine ⟨τ, hle, hτ, ⟨fun i o' hi => ?_, fun i l hi => ?_, fun i j oi oj l l' hi hj h1 h2 hne hl hl' => ?_⟩, (Below.refl B w).alloc hB ob⟩
  · by_cases e : i = nx
    · subst e; rw [hs.same] at hi; cases hi; exact ⟨_, hτ, ho τ hle hτ, fun _ => hB⟩
    · rw [hs.other e] at hi
      obtain ⟨l, h1, h2, h3⟩ := r.obj _ _ hi
      exact ⟨l, hle _ _ h1, (h2.mono hle).world fun _ => hheap _ (r.dom _ _ h1).2, h3⟩
  · by_cases e : i = nx
    · subst e; rw [hτ] at hi; cases hi; exact ⟨⟨_, hs.same⟩, by rw [alloc_size]; exact Nat.lt_succ_self _⟩
    · rw [hold i e] at hi
      obtain ⟨⟨o', ho'⟩, h2⟩ := r.dom _ _ hi
      exact ⟨⟨o', by rw [hs.other e]; exact ho'⟩, by rw [alloc_size]; omega⟩
  · by_cases e : i = nx
    · subst e; rw [hτ] at hl; cases hl
      rw [hold j (Ne.symm hne)] at hl'
      have := (r.dom _ _ hl').2
      show w.heap.size ≠ _; omega
    · rw [hs.other e] at hi; rw [hold i e] at hl
      by_cases e' : j = nx
      · subst e'; rw [hτ] at hl'; cases hl'
        have := (r.dom _ _ hl).2
        show _ ≠ w.heap.size; omega
      · rw [hs.other e'] at hj; rw [hold j e'] at hl'
        exact r.uniq i j oi oj l l' hi hj h1 h2 hne hl hl'

/-- An object of the run's own turns: its block alone. -/
theorem Rel.upd (r : Rel B σ H w) {b : Nat} {o o' : AObj} {l : Loc} {H' : Heap} {w' : World} (hg : get H b = some o) (ho : o.own = true) (hl : σ b = some l) (hs : IsSet H b o' H')
    (hsz : w'.heap.size = w.heap.size) (hk : ∀ k, k ≠ l.block → w'.heap[k]? = w.heap[k]?) (hO : ORel σ w' l o') : Rel B σ H' w' := by
  have hlive : o.live = true := by cases o <;> first | rfl | simp [AObj.own] at ho
  have hBl : B ≤ l.block := by
    obtain ⟨l', h1, _, h3⟩ := r.obj _ _ hg
    rw [hl] at h1; cases h1; exact h3 (AObj.mine_of_own ho)
  refine ⟨fun i oi hi => ?_, fun i li hi => ?_, fun i j oi oj li lj hi hj h1 h2 hne hli hlj => ?_⟩
  · by_cases e : i = b
    · subst e; rw [hs.same] at hi; cases hi; exact ⟨l, hl, hO, fun _ => hBl⟩
    · rw [hs.other e] at hi
      obtain ⟨li, h1, h2, h3⟩ := r.obj _ _ hi
      exact ⟨li, h1, h2.world fun hliv => hk _ fun eq => r.uniq b i o oi l li hg hi ho hliv (Ne.symm e) hl h1 eq.symm, h3⟩
  · obtain ⟨⟨oi, ho'⟩, h2⟩ := r.dom _ _ hi
    refine ⟨?_, by omega⟩
    by_cases e : i = b
    · subst e; exact ⟨_, hs.same⟩
    · exact ⟨oi, by rw [hs.other e]; exact ho'⟩
  · have fix : ∀ k ok, get H' k = some ok → ok.live = true → ∃ ok', get H k = some ok' ∧ ok'.live = true ∧ (ok.own = true → ok'.own = true) := fun k ok hk hliv => by
      by_cases e : k = b
      · subst e; exact ⟨o, hg, hlive, fun _ => ho⟩
      · rw [hs.other e] at hk; exact ⟨ok, hk, hliv, id⟩
    have hliv1 : oi.live = true := by cases oi <;> first | rfl | simp [AObj.own] at h1
    obtain ⟨oi', a1, _, a3⟩ := fix i oi hi hliv1
    obtain ⟨oj', b1, b2, _⟩ := fix j oj hj h2
    exact r.uniq i j oi' oj' li lj a1 b1 (a3 h1) b2 hne hli hlj
/-- An object of the run's own is let go, and its block goes on under a new name. -/
theorem Rel.moved (r : Rel B σ H w) {b nx : Nat} {o o' : AObj} {l : Loc} {H1 H' : Heap} {w' : World} (hg : get H b = some o) (ho : o.own = true) (hl : σ b = some l)
    (hs1 : IsSet H b .dead H1) (hn : get H1 nx = none) (hs : IsSet H1 nx o' H') (shift size : Nat)
    (hsz : w'.heap.size = w.heap.size) (hk : ∀ k, k ≠ l.block → w'.heap[k]? = w.heap[k]?)
    (hO : ∀ τ, Sg.le σ τ → τ nx = some ⟨l.block, shift, size⟩ → ORel τ w' ⟨l.block, shift, size⟩ o') :
    ∃ τ, Sg.le σ τ ∧ τ nx = some ⟨l.block, shift, size⟩ ∧ Rel B τ H' w' := by
  have hnb : nx ≠ b := fun e => by subst e; rw [hs1.same] at hn; cases hn
  have hn0 : get H nx = none := by rw [← hs1.other hnb]; exact hn
  have hσ : σ nx = none := by
    cases h : σ nx with
    | none => rfl
    | some l => obtain ⟨⟨o, ho⟩, _⟩ := r.dom _ _ h; rw [hn0] at ho; cases ho
  have hBl : B ≤ l.block := by
    obtain ⟨l', h1, _, h3⟩ := r.obj _ _ hg
    rw [hl] at h1; cases h1; exact h3 (AObj.mine_of_own ho)
  let τ : Sg := fun i => if i = nx then some ⟨l.block, shift, size⟩ else σ i
  have hle : Sg.le σ τ := fun i li h => by
    show (if i = nx then _ else _) = _
    by_cases e : i = nx
    · subst e; rw [hσ] at h; cases h
    · rw [if_neg e]; exact h
  have hτ : τ nx = some ⟨l.block, shift, size⟩ := if_pos rfl
  have hold : ∀ i, i ≠ nx → τ i = σ i := fun i e => if_neg e
  have hlive : o.live = true := by cases o <;> first | rfl | simp [AObj.own] at ho
  have at' : ∀ i, i ≠ nx → i ≠ b → get H' i = get H i := fun i e e' => by rw [hs.other e, hs1.other e']
  have atb : get H' b = some .dead := by rw [hs.other (Ne.symm hnb), hs1.same]
  have apart : ∀ i oi li, get H i = some oi → oi.live = true → i ≠ b → σ i = some li → li.block ≠ l.block := fun i oi li hi hliv e hli eq =>
    r.uniq b i o oi l li hg hi ho hliv (Ne.symm e) hl hli eq.symm
  refine ⟨τ, hle, hτ, ⟨fun i oi hi => ?_, fun i li hi => ?_, fun i j oi oj li lj hi hj h1 h2 hne hli hlj => ?_⟩⟩
  · by_cases e : i = nx
    · subst e; rw [hs.same] at hi; cases hi; exact ⟨_, hτ, hO τ hle hτ, fun _ => hBl⟩
    · by_cases e' : i = b
      · subst e'; rw [atb] at hi; cases hi; exact ⟨l, hle _ _ hl, trivial, fun h => by simp [AObj.mine] at h⟩
      · rw [at' i e e'] at hi
        obtain ⟨li, h1, h2, h3⟩ := r.obj _ _ hi
        exact ⟨li, hle _ _ h1, (h2.mono hle).world fun hliv => hk _ (apart i oi li hi hliv e' h1), h3⟩
  · by_cases e : i = nx
    · subst e; rw [hτ] at hi; cases hi; exact ⟨⟨_, hs.same⟩, by have := (r.dom _ _ hl).2; show l.block < _; omega⟩
    · rw [hold i e] at hi
      obtain ⟨⟨oi, ho'⟩, h2⟩ := r.dom _ _ hi
      refine ⟨?_, by omega⟩
      by_cases e' : i = b
      · subst e'; exact ⟨_, atb⟩
      · exact ⟨oi, by rw [at' i e e']; exact ho'⟩
  · have hib : i ≠ b := fun e => by subst e; rw [atb] at hi; cases hi; simp [AObj.own] at h1
    have hjb : j ≠ b := fun e => by subst e; rw [atb] at hj; cases hj; simp [AObj.live] at h2
    have hliv1 : oi.live = true := by cases oi <;> first | rfl | simp [AObj.own] at h1
    by_cases e : i = nx
    · subst e; rw [hτ] at hli; cases hli
      have hj' := hj; rw [at' j (Ne.symm hne) hjb] at hj'
      rw [hold j (Ne.symm hne)] at hlj
      exact fun eq => apart j oj lj hj' h2 hjb hlj eq.symm
    · have hi' := hi; rw [at' i e hib] at hi'
      rw [hold i e] at hli
      by_cases e' : j = nx
      · subst e'; rw [hτ] at hlj; cases hlj
        exact fun eq => apart i oi li hi' hliv1 hib hli eq
      · have hj' := hj; rw [at' j e' hjb] at hj'
        rw [hold j e'] at hlj
        exact r.uniq i j oi oj li lj hi' hj' h1 h2 hne hli hlj
/-- The run's own object's block may be turned: nothing below B does. -/
theorem below_upd {w' : World} {b : Nat} (hb : B ≤ b) (hos : w'.os = w.os) (ht : w'.tape = w.tape) (hout : w'.output = w.output) (hsz : w'.heap.size = w.heap.size)
    (hk : ∀ k, k ≠ b → w'.heap[k]? = w.heap[k]?) : Below B w w' :=
  ⟨hos, ht, hout, by omega, fun k h => hk k (by omega)⟩
theorem Rel.size (r : Rel B σ H w) {w' : World} (h : Below B w w') (hh : ∀ k, k < w.heap.size → w'.heap[k]? = w.heap[k]?) : Rel B σ H w' :=
  ⟨fun i o hi => let ⟨l, h1, h2, h3⟩ := r.obj i o hi; ⟨l, h1, h2.world fun _ => hh _ (r.dom _ _ h1).2, h3⟩,
   fun i l hi => let ⟨h1, h2⟩ := r.dom i l hi; ⟨h1, Nat.lt_of_lt_of_le h2 h.size⟩, r.uniq⟩
theorem Rel.own_block (r : Rel B σ H w) {b : Nat} {o : AObj} {l : Loc} (hg : get H b = some o) (ho : o.own = true) (hl : σ b = some l) : B ≤ l.block := by
  obtain ⟨l', h1, _, h3⟩ := r.obj _ _ hg
  rw [hl] at h1; cases h1; exact h3 (AObj.mine_of_own ho)

/-! a row of cells, written -/
theorem wrF_nil {β : Type} (z : β) (size : Nat) (c : Tr Value) (o : Nat) (k : Tr Value → β) : wrF z size [] c o k = k c := rfl
theorem wrF_cons {β : Type} (z : β) (size : Nat) (v : Value) (vs : List Value) (c : Tr Value) (o : Nat) (k : Tr Value → β) :
    wrF z size (v :: vs) c o k = if (Nat.ble (o + 1) size && one v) = true then setK c o v (fun c' => wrF z size vs c' (o + 1) k) z else z := by
  show Bool.rec (motive := fun _ => β) z (setK c o v (fun c' => wrF z size vs c' (o + 1) k) z) (Nat.ble (o + 1) size && one v) = _
  cases (Nat.ble (o + 1) size && one v) <;> rfl
theorem wrF_some {β : Type} {z r : β} {size : Nat} {vs : List Value} : ∀ {c : Tr Value} {o : Nat} {k : Tr Value → β}, wrF z size vs c o k = r → r ≠ z →
    (vs = [] ∨ o + vs.length ≤ size) ∧ vs.all one = true ∧ ∃ c', (∀ m, get c' m = if o ≤ m ∧ m < o + vs.length then vs[m - o]? else get c m) ∧ k c' = r := by
  induction vs with
  | nil => intro c o k h _; exact ⟨.inl rfl, rfl, c, fun m => by rw [if_neg (by simp)], h⟩
  | cons v vs ih =>
    intro c o k h hr
    rw [wrF_cons] at h
    split at h
    · rename_i hb
      simp at hb
      obtain ⟨c1, hc1, h⟩ := setK_spec h hr
      obtain ⟨h1, h2, c', h3, h4⟩ := ih h hr
      refine ⟨.inr ?_, by simp [hb.2]; simpa using h2, c', fun m => ?_, h4⟩
      · rcases h1 with h1 | h1
        · subst h1; simpa using hb.1
        · simp; omega
      · rw [h3 m, hc1 m]
        by_cases e : m = o
        · subst e; rw [if_neg (by omega)]; simp
        · by_cases e1 : o + 1 ≤ m ∧ m < o + 1 + vs.length
          · rw [if_pos e1, if_pos (by simp; omega)]
            obtain ⟨j, rfl⟩ : ∃ j, m = o + 1 + j := ⟨m - (o + 1), by omega⟩
            rw [show o + 1 + j - (o + 1) = j by omega, show o + 1 + j - o = j + 1 by omega]; simp
          · rw [if_neg e1, if_neg e, if_neg (by simp; omega)]
    · exact absurd h.symm hr
theorem wrN_some {β : Type} {z r : β} {H : Heap} {b o : Nat} {vs : List Value} {k : Heap → β} (h : wrN z H b o vs k = r) (hr : r ≠ z) :
    ∃ size per runs cells c' H', get H b = some (.blk false size per runs cells) ∧ (vs = [] ∨ o + vs.length ≤ size) ∧ vs.all one = true ∧
      (∀ m, get c' m = if o ≤ m ∧ m < o + vs.length then vs[m - o]? else get cells m) ∧ IsSet H b (.blk false size per runs c') H' ∧ k H' = r := by
  unfold wrN at h
  split at h
  · rename_i size per runs cells hg
    obtain ⟨h1, h2, c', h3, h⟩ := wrF_some h hr
    obtain ⟨H', h4, h⟩ := setK_spec h hr
    exact ⟨size, per, runs, cells, c', H', hg, h1, h2, h3, h4, h⟩
  · exact absurd h.symm hr
theorem oneCell_of {σ : Sg} {vs Vs : List Value} (h : ConL σ vs Vs) (h1 : vs.all one = true) : ∀ V ∈ Vs, V.oneCell' = true := by
  induction vs generalizing Vs with
  | nil => cases h; simp
  | cons v vs ih => cases h with | cons _ V _ Vs' hv t =>
    simp at h1
    intro U hU
    simp at hU
    rcases hU with rfl | hU
    · have := hv.one h1.1; cases U <;> simp_all [Value.oneCell']
    · exact ih t (by simpa using h1.2) U hU
/-- A store into a row of the run's own. -/
theorem Rel.write (r : Rel B σ H w) {P : Program} {b o : Nat} {vs Vs : List Value} {size per : Nat} {runs : List (Nat × Value)} {cells c' : Tr Value} {H' : Heap} {l : Loc}
    (hg : get H b = some (.blk false size per runs cells)) (hl : σ b = some l) (hin : vs = [] ∨ o + vs.length ≤ size) (h1 : vs.all one = true)
    (hc : ∀ m, get c' m = if o ≤ m ∧ m < o + vs.length then vs[m - o]? else get cells m) (hs : IsSet H b (.blk false size per runs c') H') (hv : ConL σ vs Vs) :
    ∃ w', (storeCells ⟨l.block, l.shift + o, none⟩ Vs).run P w = .ok () w' ∧ Rel B σ H' w' ∧ Below B w w' := by
  obtain ⟨l', h2, hO, _⟩ := r.obj _ _ hg
  rw [hl] at h2; cases h2
  obtain ⟨h0, c, elem, fr, h3, h4, h5, h6⟩ := hO
  have h5 := h5 rfl
  subst h5
  have hlen := hv.length
  by_cases hem : vs = []
  · subst hem
    cases hv
    refine ⟨w, rfl, ?_, Below.refl B w⟩
    refine r.upd hg rfl hl hs rfl (fun _ _ => rfl) ⟨h0, c, elem, (0, 0), h3, h4, fun _ => rfl, fun i v hi => h6 i v ?_⟩
    have : get c' i = get cells i := by rw [hc i, if_neg (by simp)]
    simpa [cellOf, this] using hi
  · have hin : o + vs.length ≤ size := hin.resolve_left hem
    have hrun := run_storeCells_at (P := P) l.block (l.shift + o) elem Vs 0 c w h3 (by omega) (oneCell_of hv h1)
    refine ⟨_, hrun, ?_, below_upd (r.own_block hg rfl hl) rfl rfl rfl (by simp) (fun k hk => setRow_other _ _ _ _ hk)⟩
    refine r.upd hg rfl hl hs (by simp) (fun k hk => setRow_other _ _ _ _ hk) ⟨h0, _, elem, (0, 0), setRow_heap w l.block c _ elem (0, 0) h3, ?_, fun _ => rfl, fun i v hi => ?_⟩
    · simp; omega
    · have hclen : c.toList.length = l.size := by simpa using h4
      have hil : i < size := by unfold cellOf at hi; split at hi <;> first | assumption | simp at hi
      simp only [cellOf, hil, if_true, hc i] at hi
      simp only [Nat.add_zero, List.getElem?_toArray]
      by_cases e : o ≤ i ∧ i < o + vs.length
      · simp only [e, and_self, if_true] at hi
        have hjl : i - o < vs.length := by omega
        rw [List.getElem?_eq_getElem hjl] at hi
        simp at hi
        obtain ⟨V, hV, hcon⟩ := hv.get (i := i - o) (v := v) (by rw [List.getElem?_eq_getElem hjl, hi])
        refine ⟨V, ?_, hcon⟩
        rw [List.append_assoc, List.getElem?_append_right (by simp; omega), List.getElem?_append_left (by simp; omega)]
        rw [show l.shift + i - (c.toList.take (l.shift + o)).length = i - o by simp; omega]
        exact hV
      · rw [if_neg e] at hi
        obtain ⟨V, hV, hcon⟩ := h6 i v (by simpa [cellOf, hil] using hi)
        refine ⟨V, ?_, hcon⟩
        have hV' : c.toList[l.shift + i]? = some V := by simpa using hV
        rw [List.append_assoc]
        by_cases e1 : i < o
        · rw [List.getElem?_append_left (by simp; omega), List.getElem?_take, if_pos (by omega)]; exact hV'
        · rw [List.getElem?_append_right (by simp; omega), List.getElem?_append_right (by simp; omega), List.getElem?_drop]
          rw [show l.shift + o + Vs.length + (l.shift + i - (c.toList.take (l.shift + o)).length - Vs.length) = l.shift + i by simp; omega]
          exact hV'
end rel
end Go.Ex
namespace Go.Ex
open Go Go.RowKit

structure EnvOK (E : Env) : Prop where
  fn : ∀ f g, get E.fn f = some g → E.P.funcs[f]? = some g ∧ g.name ≠ "runtime.NumGoroutine"
  ty : ∀ t i, get E.ty t = some i → E.P.info? t = some i
  mixed : E.P.follows .mixedOrders = true

section env
variable {E : Env} (hE : EnvOK E)
include hE
theorem und_ok {t : TypeId} {d : TypeDesc} (h : und E t = some d) : E.P.underlying t = some d := by
  unfold und at h
  split at h
  · rename_i i hi
    have h1 := hE.ty _ _ hi
    split at h
    · rename_i n u hd
      split at h
      · rename_i j hj
        have h2 := hE.ty _ _ hj
        simp at h
        unfold Program.underlying
        obtain ⟨desc, _, _, _, _, _, _, _, _, _⟩ := i
        simp only at hd
        subst hd
        simp [h1, h2, h]
      · simp at h
    · rename_i hd
      simp at h
      unfold Program.underlying
      obtain ⟨desc, _, _, _, _, _, _, _, _, _⟩ := i
      simp only at h hd
      subst h
      rw [h1]
      split
      · rename_i he; simp at he; exact absurd he.1 (hd _ _)
      · rename_i he; simp at he; simp [← he]
      · rename_i he; simp at he
  · simp at h
theorem und_run {t : TypeId} {d : TypeDesc} (h : und E t = some d) (w : World) : (underlying t).run E.P w = .ok d w := run_underlying (und_ok hE h) w
theorem isAgg_run {t : TypeId} {d : TypeDesc} (h : und E t = some d) (w : World) : (isAgg t).run E.P w = .ok (isAggD d) w := by
  unfold isAgg
  simp only [Sem.run_bind, und_run hE h, Result.andThen_ok]
  cases d <;> rfl
end env
theorem kbeq_eq {a b : IntKind} (h : kbeq a b = true) : a = b := by cases a <;> cases b <;> first | rfl | simp [kbeq] at h
theorem zbeq_eq {a b : Value} (h : zbeq a b = true) : a = b := by
  unfold zbeq at h
  split at h <;> first | rfl | (rw [kbeq_eq h]) | simp at h
theorem rexpand_comp : ∀ zs : List Value, rexpand (comp zs) = zs
  | [] => rfl
  | v :: r => by
    have ih := rexpand_comp r
    unfold comp
    split
    · rename_i n u rest hc
      rw [hc] at ih
      split
      · rename_i hz
        rw [zbeq_eq hz] at ih ⊢
        simp only [rexpand, List.replicate_succ, List.cons_append] at ih ⊢
        rw [ih]
      · simp only [rexpand, List.replicate_succ, List.replicate_zero, List.nil_append, List.cons_append] at ih ⊢
        rw [ih]
    · rename_i hc
      rw [hc] at ih
      simp only [rexpand, List.replicate_succ, List.replicate_zero, List.nil_append, List.cons_append] at ih ⊢
      rw [← ih]
theorem rget_nil (j : Nat) : rget [] j = none := rfl
theorem rget_cons (n : Nat) (v : Value) (r : List (Nat × Value)) (j : Nat) : rget ((n, v) :: r) j = if j + 1 ≤ n then some v else rget r (j - n) := by
  show Bool.rec (motive := fun _ => Option Value) (rget r (j - n)) (some v) (Nat.ble (j + 1) n) = _
  by_cases h : j + 1 ≤ n
  · rw [if_pos h, Nat.ble_eq_true_of_le h]
  · rw [if_neg h]
    cases hb : Nat.ble (j + 1) n with
    | false => rfl
    | true => exact absurd (Nat.le_of_ble_eq_true hb) h
theorem rget_expand : ∀ (r : List (Nat × Value)) (j : Nat), rget r j = (rexpand r)[j]?
  | [], j => by simp [rget_nil, rexpand]
  | (n, v) :: r, j => by
    rw [rget_cons, rexpand]
    by_cases h : j + 1 ≤ n
    · rw [if_pos h, List.getElem?_append_left (by simp; omega)]
      simp [List.getElem?_replicate]; omega
    · rw [if_neg h, List.getElem?_append_right (by simp; omega), rget_expand r]; simp
theorem rexpand_scal : ∀ {r : List (Nat × Value)}, r.all (fun x => Ex.scal x.2) = true → (rexpand r).all Ex.scal = true
  | [], _ => rfl
  | (n, v) :: r, h => by
    simp only [List.all_cons, Bool.and_eq_true] at h
    simp only [rexpand, List.all_append, Bool.and_eq_true]
    refine ⟨?_, rexpand_scal h.2⟩
    rw [List.all_eq_true]
    intro x hx
    rw [List.mem_replicate] at hx
    rw [hx.2]; exact h.1
theorem rexpand_length : ∀ r : List (Nat × Value), (rexpand r).length = rlen r
  | [] => rfl
  | (n, v) :: r => by simp [rexpand, rlen, rexpand_length r]
/-- What 'inf' tells of a type. -/
structure InfOK (P : Program) (t : TypeId) (i : AInfo) (ti : TypeInfo) (z : Value) : Prop where
  info : P.info? t = some ti
  size : ti.size = i.size
  bytes : ti.bytes = i.bytes
  zero : ti.zero = some z
  runs : rexpand i.runs = z.cells.toList
  scal : (rexpand i.runs).all Ex.scal = true
  zagg : aggV z = i.agg
  len : (rexpand i.runs).length = i.size
theorem inf_ok {E : Env} (hE : EnvOK E) {t : TypeId} {i : AInfo} (h : inf E t = some i) :
    ∃ ti z d, InfOK E.P t i ti z ∧ und E t = some d ∧ i.agg = isAggD d := by
  unfold inf at h
  split at h
  · rename_i ti d h1 h2
    split at h
    · rename_i z hz
      split at h
      · rename_i hs
        simp only [Bool.and_eq_true, and_assoc] at hs
        simp only [Option.some.injEq] at h
        subst h
        refine ⟨ti, z, d, ⟨hE.ty _ _ h1, rfl, rfl, hz, ?_, rexpand_scal hs.1, ?_, ?_⟩, h2, rfl⟩
        · simp only [rexpand_comp]
          cases z <;> rfl
        · have h3 := hs.2.1
          show aggV z = isAggD d
          generalize aggV z = a at h3 ⊢
          generalize isAggD d = b at h3 ⊢
          cases a <;> cases b <;> first | rfl | simp at h3
        · rw [rexpand_length]; exact Nat.eq_of_beq_eq_true hs.2.2
      · simp at h
    · simp at h
  · simp at h
theorem InfOK.sizeOf {P : Program} {t : TypeId} {i : AInfo} {ti : TypeInfo} {z : Value} (h : InfOK P t i ti z) (w : World) : (sizeOf t).run P w = .ok i.size w := by
  unfold Go.sizeOf
  simp [run_typeInfo _ h.info, h.size]
theorem InfOK.zeroValue {P : Program} {t : TypeId} {i : AInfo} {ti : TypeInfo} {z : Value} (h : InfOK P t i ti z) (w : World) : (zeroValue t).run P w = .ok z w := by
  unfold Go.zeroValue
  simp [run_typeInfo _ h.info, h.zero]
theorem InfOK.typeInfo {P : Program} {t : TypeId} {i : AInfo} {ti : TypeInfo} {z : Value} (h : InfOK P t i ti z) (w : World) : (typeInfo t).run P w = .ok ti w := run_typeInfo w h.info

/-! operands -/
noncomputable def evA (tm : Tr Value) : Operand → Option Value
  | .tmp t => get tm t
  | .const v => if lit v = true then some v else none
  | .func f => some (.func (.func f) #[] #[])
  | .global _ => none
theorem evK_some {β : Type} {z r : β} {tm : Tr Value} {x : Operand} {k : Value → β} (h : evK z tm x k = r) (hr : r ≠ z) : ∃ v, evA tm x = some v ∧ k v = r := by
  unfold evK at h
  cases x with
  | tmp t => simp only at h; split at h
             · rename_i v hv; exact ⟨v, hv, h⟩
             · exact absurd h.symm hr
  | const v => simp only at h; split at h
               · rename_i hv; exact ⟨v, by simp [evA, hv], h⟩
               · exact absurd h.symm hr
  | func f => exact ⟨_, rfl, h⟩
  | global g => exact absurd h.symm hr
theorem evA_ok {σ : Sg} {tm : Tr Value} {nt : Nat} {a : Act} (ht : TRel σ tm nt a.tmps) {x : Operand} {v : Value} (h : evA tm x = some v) : Con σ v (a.eval x) := by
  cases x with
  | tmp t => obtain ⟨V, h1, h2⟩ := ht.some _ _ h
             show Con σ v (a.tmps.getD t undef)
             rw [Array.getD_eq_getD_getElem?, h1]; exact h2
  | const u => simp only [evA] at h; split at h
               · rename_i hl; cases h; exact Con.of_lit hl
               · simp at h
  | func f => simp [evA] at h; subst h; exact .fn f [] [] [] [] .nil .nil
  | global g => simp [evA] at h
theorem evLK_nil {β : Type} (z : β) (tm : Tr Value) (k : List Value → β) : evLK z tm [] k = k [] := rfl
theorem evLK_cons {β : Type} (z : β) (tm : Tr Value) (x : Operand) (l : List Operand) (k : List Value → β) : evLK z tm (x :: l) k = evK z tm x fun v => evLK z tm l fun vs => k (v :: vs) := rfl
theorem evLK_some {β : Type} {z r : β} {tm : Tr Value} {l : List Operand} : ∀ {k : List Value → β}, evLK z tm l k = r → r ≠ z →
    ∃ vs, (∀ {σ : Sg} {nt : Nat} {a : Act}, TRel σ tm nt a.tmps → ConL σ vs (l.map a.eval)) ∧ k vs = r := by
  induction l with
  | nil => intro k h _; exact ⟨[], fun _ => .nil, h⟩
  | cons x l ih =>
    intro k h hr
    rw [evLK_cons] at h
    obtain ⟨v, hv, h⟩ := evK_some h hr
    obtain ⟨vs, h1, h⟩ := ih h hr
    exact ⟨v :: vs, fun ht => .cons _ _ _ _ (evA_ok ht hv) (h1 ht), h⟩
theorem partsK_some {β : Type} {z r : β} {tm : Tr Value} {l : List (Nat × Operand)} : ∀ {k : List (Nat × Value) → β}, partsK z tm l k = r → r ≠ z →
    ∃ vs : List (Nat × Value), vs.map (·.1) = l.map (·.1) ∧ (∀ {σ : Sg} {nt : Nat} {a : Act}, TRel σ tm nt a.tmps → ConL σ (vs.map (·.2)) (l.map fun x => a.eval x.2)) ∧ k vs = r := by
  induction l with
  | nil => intro k h _; exact ⟨[], rfl, fun _ => .nil, h⟩
  | cons x l ih =>
    obtain ⟨i, x⟩ := x
    intro k h hr
    unfold partsK at h
    obtain ⟨v, hv, h⟩ := evK_some h hr
    obtain ⟨vs, h0, h1, h⟩ := ih h hr
    exact ⟨(i, v) :: vs, by simp [h0], fun ht => .cons _ _ _ _ (evA_ok ht hv) (h1 ht), h⟩
def OptEv (tm : Tr Value) : Option Operand → Option Value → Prop
  | none, none => True
  | some x, some v => evA tm x = some v
  | _, _ => False
theorem optK_some {β : Type} {z r : β} {tm : Tr Value} {x : Option Operand} {k : Option Value → β} (h : optK z tm x k = r) (hr : r ≠ z) :
    ∃ v, OptEv tm x v ∧ k v = r := by
  unfold optK at h
  cases x with
  | none => exact ⟨none, trivial, h⟩
  | some x => simp only at h; obtain ⟨v, hv, h⟩ := evK_some h hr; exact ⟨some v, hv, h⟩

/-! runs that ask nothing -/
def pureO {α : Type} (P : Program) : Sem α → Option α
  | .pure a => some a
  | .program f => pureO P (f P)
  | _ => none
theorem pureO_run {α : Type} {P : Program} {s : Sem α} {a : α} (h : pureO P s = some a) (w : World) : s.run P w = .ok a w := by
  induction s with
  | pure b => simp [pureO] at h; subst h; rfl
  | program f ih => exact ih P h
  | _ => simp [pureO] at h
theorem pureO_bind {α β : Type} {P : Program} {s : Sem α} {f : α → Sem β} : pureO P (s >>= f) = (pureO P s).bind fun a => pureO P (f a) := by
  induction s with
  | pure b => rfl
  | program g ih => exact ih P
  | _ => rfl
theorem pureK_eq {α : Type} {P : Program} {s : Sem α} {k : α → R} : pureK P s k = (match pureO P s with | some a => k a | none => .fail) := by
  induction s with
  | pure b => rfl
  | program g ih => exact ih P
  | _ => rfl
theorem pureK_pure {α : Type} {P : Program} {s : Sem α} {k : α → R} {r : R} (h : pureK P s k = r) (hr : r ≠ .fail) : ∃ a, k a = r ∧ pureO P s = some a := by
  rw [pureK_eq] at h
  split at h
  · rename_i a ha; exact ⟨a, h, ha⟩
  · exact absurd h.symm hr
theorem pureK_some {α : Type} {P : Program} {s : Sem α} {k : α → R} {r : R} (h : pureK P s k = r) (hr : r ≠ .fail) : ∃ a, k a = r ∧ ∀ w, s.run P w = .ok a w := by
  obtain ⟨a, h1, h2⟩ := pureK_pure h hr
  exact ⟨a, h1, fun w => pureO_run h2 w⟩
end Go.Ex
namespace Go.Ex
open Go Go.RowKit

/-- What is claimed of a quiet operation that came to v. -/
def QOK (E : Env) (op : Op) (tm : Tr Value) (H : Heap) (v : Value) : Prop :=
  ∀ {B : Nat} {σ : Sg} {w : World} {nt : Nat} {a : Act} (o : Oper), o.op = op → Rel B σ H w → TRel σ tm nt a.tmps →
    ∃ V, Con σ v V ∧ (execOp a.eval o).run E.P w = .ok (.value V) w

section quiet
variable {E : Env} (hE : EnvOK E) {tm : Tr Value} {H : Heap} {k : Value → R} {r : R}

theorem exec_eq {ρ : Operand → Value} {o : Oper} {op : Op} (h : o.op = op) : execOp ρ o = execOp ρ { o with op } := by subst h; rfl

theorem q_move {x : Operand} (h : xq E (.move x) tm H k = r) (hr : r ≠ .fail) : ∃ v, k v = r ∧ QOK E (.move x) tm H v := by
  obtain ⟨v, hv, h⟩ := evK_some (show evK .fail tm x k = r from h) hr
  exact ⟨v, h, fun {B σ w nt a} o ho _ ht => ⟨_, evA_ok ht hv, by rw [exec_eq ho]; rfl⟩⟩
theorem q_assign {x : Operand} (h : xq E (.assign x) tm H k = r) (hr : r ≠ .fail) : ∃ v, k v = r ∧ QOK E (.assign x) tm H v := by
  obtain ⟨v, hv, h⟩ := evK_some (show evK .fail tm x k = r from h) hr
  exact ⟨v, h, fun {B σ w nt a} o ho _ ht => ⟨_, evA_ok ht hv, by rw [exec_eq ho]; rfl⟩⟩
theorem q_pick {c x y : Operand} (h : xq E (.pick c x y) tm H k = r) (hr : r ≠ .fail) : ∃ v, k v = r ∧ QOK E (.pick c x y) tm H v := by
  obtain ⟨cv, hc, h⟩ := evK_some (show evK .fail tm c _ = r from h) hr
  try dsimp only at h
  split at h
  · obtain ⟨v, hv, h⟩ := evK_some h hr
    refine ⟨v, h, fun {B σ w nt a} o ho _ ht => ⟨_, evA_ok ht hv, ?_⟩⟩
    have := (evA_ok ht hc).scal rfl
    rw [exec_eq ho]
    simp [execOp, this, asBool]
  · obtain ⟨v, hv, h⟩ := evK_some h hr
    refine ⟨v, h, fun {B σ w nt a} o ho _ ht => ⟨_, evA_ok ht hv, ?_⟩⟩
    have := (evA_ok ht hc).scal rfl
    rw [exec_eq ho]
    simp [execOp, this, asBool]
  · exact absurd h.symm hr

/-! build -/
theorem foldl_set (vs : List Value) : ∀ (cells : Array Value) (off j : Nat), off + j + vs.length ≤ cells.size →
    ((vs.zipIdx j).foldl (fun cs (c, j) => cs.setIfInBounds (off + j) c) cells).toList = cells.toList.take (off + j) ++ vs ++ cells.toList.drop (off + j + vs.length) := by
  induction vs with
  | nil => intro cells off j _; simp
  | cons v vs ih =>
    intro cells off j hl
    simp only [List.zipIdx_cons, List.foldl_cons]
    rw [ih _ _ _ (by simp at hl ⊢; omega)]
    simp at hl
    have hlt : off + j < cells.toList.length := by simp; omega
    simp only [Array.toList_setIfInBounds]
    rw [List.take_set, List.drop_set_of_lt (by omega)]
    rw [show off + (j + 1) = off + j + 1 by omega, List.take_succ_eq_append_getElem hlt]
    rw [List.set_append_right _ _ (by simp; omega)]
    simp [show off + j - min (off + j) cells.size = 0 by omega]
    congr 1; omega
theorem foldl_set0 (vs : List Value) (cells : Array Value) (off : Nat) (h : off + vs.length ≤ cells.size) :
    ((vs.zipIdx).foldl (fun cs (c, j) => cs.setIfInBounds (off + j) c) cells).toList = cells.toList.take off ++ vs ++ cells.toList.drop (off + vs.length) := by
  have := foldl_set vs cells off 0 (by simpa using h)
  simpa using this
theorem fill_ok {σ : Sg} {place : Nat → Option (Nat × Nat)} : ∀ {ps qs : List (Nat × Value)} {zs cs : List Value} {Z : Array Value},
    qs.map (·.1) = ps.map (·.1) → ConL σ (ps.map (·.2)) (qs.map (·.2)) → ConL σ zs Z.toList → spliceAll place ps zs = some cs →
    ∃ C, Instr.fill place Z qs = some C ∧ ConL σ cs C.toList := by
  intro ps
  induction ps with
  | nil =>
    intro qs zs cs Z h1 h2 h3 h4
    simp [spliceAll] at h4
    subst h4
    cases qs with
    | nil => exact ⟨Z, rfl, h3⟩
    | cons _ _ => simp at h1
  | cons p ps ih =>
    obtain ⟨i, v⟩ := p
    intro qs zs cs Z h1 h2 h3 h4
    cases qs with
    | nil => simp at h1
    | cons q qs =>
      obtain ⟨j, V⟩ := q
      simp at h1
      obtain ⟨rfl, h1⟩ := h1
      cases h2 with
      | cons _ _ _ _ hv ht =>
      unfold spliceAll at h4
      split at h4
      · rename_i off size hp
        split at h4
        · rename_i hsz
          have hsz := Nat.eq_of_beq_eq_true hsz
          split at h4
          · rename_i zs' hs
            unfold splice at hs
            split at hs
            · rename_i hble
              have hble := Nat.le_of_ble_eq_true hble
              simp at hs
              have hvc := hv.cells
              have hvl : V.cells.size = size := by have := hvc.length; simpa [hsz] using this
              have hzl : Z.size = zs.length := by have := h3.length; simpa using this
              have hZ := foldl_set0 V.cells.toList Z off (by simp [hvl, hzl]; omega)
              have hcon : ConL σ zs' ((V.cells.toList.zipIdx.foldl (fun cs (c, j) => cs.setIfInBounds (off + j) c) Z)).toList := by
                rw [hZ, ← hs, hvc.length]
                simpa [List.append_assoc] using (h3.take off).append (hvc.append (h3.drop (off + (vcells v).length)))
              obtain ⟨C, h5, h6⟩ := ih (by simpa using h1) ht hcon h4
              refine ⟨C, ?_, h6⟩
              unfold Instr.fill
              simp only [hp]
              rw [if_neg (by simp [hvl]; omega)]
              rw [← h5]
              congr 1
              rw [← Array.foldl_toList, Array.toList_zipIdx]
            · simp at hs
          · simp at h4
        · simp at h4
      · simp at h4
theorem places_ok (hE : EnvOK E) : ∀ {fs : List Field} {pl : List (Nat × Nat)}, places E fs = some pl → fs.mapM (fun f => (E.P.info? f.type).map fun i => (f.offset, i.size)) = some pl := by
  intro fs
  induction fs with
  | nil => intro pl h; simp [places] at h; subst h; simp
  | cons f fs ih =>
    intro pl h
    unfold places at h
    split at h
    · rename_i j l h1 h2
      obtain ⟨ti, z, d, hi, _⟩ := inf_ok hE h1
      simp at h
      subst h
      simp [List.mapM_cons, hi.info, ih h2, hi.size]
    · simp at h
include hE in
theorem q_build {t : TypeId} {parts : Array (Nat × Operand)} (h : xq E (.build t parts) tm H k = r) (hr : r ≠ .fail) : ∃ v, k v = r ∧ QOK E (.build t parts) tm H v := by
  unfold xq at h
  dsimp only at h
  split at h
  · rename_i i hi
    obtain ⟨ti, z, d, hio, hd, hag⟩ := inf_ok hE hi
    split at h
    · rename_i hagg
      obtain ⟨ps, hp1, hp2, h⟩ := partsK_some h hr
      have hz : ∀ {σ : Sg}, ConL σ (rexpand i.runs) z.cells.toList := by intro σ; rw [← hio.runs]; exact ConL.of_scal hio.scal
      have main : ∀ cs, (∀ {σ : Sg} (qs : List (Nat × Value)), qs.map (·.1) = ps.map (·.1) → ConL σ (ps.map (·.2)) (qs.map (·.2)) → ∃ C, E.P.built t qs = some C ∧ ConL σ cs C.toList) →
          QOK E (.build t parts) tm H (.agg cs.toArray) := fun cs hcs {B σ w nt a} o ho _ ht => by
        obtain ⟨C, h1, h2⟩ := hcs (σ := σ) (parts.toList.map fun x => (x.1, a.eval x.2)) (by simp [hp1, Function.comp_def]) (by simpa [Function.comp_def] using hp2 ht)
        refine ⟨.agg C, .agg _ _ h2, ?_⟩
        rw [exec_eq ho]
        simp only [execOp, Sem.run_bind]
        rw [run_build w t _ C (by simpa using h1)]
        rfl
      split at h
      · rename_i fs hu
        have hu' := und_ok hE hu
        split at h
        · rename_i pl hpl
          split at h
          · rename_i cs hcs
            refine ⟨_, h, main cs fun {σ} qs hq1 hq2 => ?_⟩
            obtain ⟨C, h1, h2⟩ := fill_ok hq1 hq2 (hz (σ := σ)) hcs
            refine ⟨C, ?_, h2⟩
            unfold Program.built
            simp only [hio.info, hu', hio.zero, places_ok hE hpl]
            simpa using h1
          · exact absurd h.symm hr
        · exact absurd h.symm hr
      · rename_i n e hu
        have hu' := und_ok hE hu
        split at h
        · rename_i j hj
          obtain ⟨tj, zj, dj, hjo, _, _⟩ := inf_ok hE hj
          split at h
          · rename_i cs hcs
            refine ⟨_, h, main cs fun {σ} qs hq1 hq2 => ?_⟩
            obtain ⟨C, h1, h2⟩ := fill_ok hq1 hq2 (hz (σ := σ)) hcs
            refine ⟨C, ?_, h2⟩
            unfold Program.built
            simp only [hio.info, hu', hio.zero, hjo.info, hjo.size]
            exact h1
          · exact absurd h.symm hr
        · exact absurd h.symm hr
      · exact absurd h.symm hr
    · exact absurd h.symm hr
  · exact absurd h.symm hr

/-! load -/
theorem sure_addr (a : Addr) (w : World) (P : Program) : (Instr.sureAddr (.pointer (some a))).run P w = .ok a w := rfl
theorem isAggD_und (hE : EnvOK E) {t : TypeId} {i : AInfo} (hi : inf E t = some i) (w : World) : (isAgg t).run E.P w = .ok i.agg w := by
  obtain ⟨ti, z, d, _, hd, hag⟩ := inf_ok hE hi
  rw [isAgg_run hE hd, hag]
include hE in
/-- A variable, read. -/
theorem loadVar_ok {B : Nat} {σ : Sg} {w : World} (rel : Rel B σ H w) {t : TypeId} {i : AInfo} (hi : inf E t = some i) {b o : Nat} {l : Loc} (hl : σ b = some l) :
    (i.agg = false → ∀ v, cellAt H b o = some v → ∃ V, Con σ v V ∧ (loadVar t ⟨l.block, l.shift + o, none⟩).run E.P w = .ok V w) ∧
    (i.agg = true → ∀ vs : List Value, vs.length = i.size → (∀ (j : Nat) v, vs[j]? = some v → cellAt H b (o + j) = some v) → ∃ V, Con σ (.agg vs.toArray) V ∧ (loadVar t ⟨l.block, l.shift + o, none⟩).run E.P w = .ok V w) := by
  obtain ⟨ti, z, d, hio, hd, hag⟩ := inf_ok hE hi
  constructor
  · intro ha v hv
    obtain ⟨V, h1, h2⟩ := rel.cell' hl hv
    refine ⟨V, h2, ?_⟩
    unfold loadVar
    simp [isAggD_und hE hi, ha, h1]
  · intro ha vs hlen hv
    obtain ⟨Vs, h1, h2⟩ := rel.cells hl hv
    refine ⟨.agg Vs.toArray, .agg _ _ h1, ?_⟩
    unfold loadVar
    simp only [Sem.run_bind, isAggD_und hE hi, ha, Result.andThen_ok, if_true, hio.sizeOf]
    rw [← hlen, h2]
    rfl
include hE in
theorem q_load {t : TypeId} {x : Operand} (h : xq E (.load t x) tm H k = r) (hr : r ≠ .fail) : ∃ v, k v = r ∧ QOK E (.load t x) tm H v := by
  unfold xq at h
  dsimp only at h
  obtain ⟨p, hp, h⟩ := evK_some h hr
  split at h
  · rename_i b o
    split at h
    · rename_i i hi
      have ptr : ∀ {B : Nat} {σ : Sg} {w : World} {nt : Nat} {a : Act}, Rel B σ H w → TRel σ tm nt a.tmps → ∃ l, σ b = some l ∧ a.eval x = .pointer (some ⟨l.block, l.shift + o, none⟩) := fun {B σ w nt a} _ ht => by
        have := evA_ok ht hp
        generalize a.eval x = V at this
        cases this with
        | sc _ h => simp [Ex.scal] at h
        | ptr _ _ l h => exact ⟨l, h, rfl⟩
      split at h
      · rename_i ha
        obtain ⟨_, vs, h1, h2, h⟩ := rdN_some h hr
        refine ⟨_, h, fun {B σ w nt a} o' ho rel ht => ?_⟩
        obtain ⟨l, hl, he⟩ := ptr rel ht
        obtain ⟨V, h3, h4⟩ := (loadVar_ok hE rel hi hl).2 ha vs h1 h2
        refine ⟨V, h3, ?_⟩
        rw [exec_eq ho]
        simp [execOp, he, Instr.loadAt, sure_addr, h4]
      · rename_i ha
        obtain ⟨v, h1, h⟩ := rd1_some h hr
        refine ⟨_, h, fun {B σ w nt a} o' ho rel ht => ?_⟩
        obtain ⟨l, hl, he⟩ := ptr rel ht
        obtain ⟨V, h3, h4⟩ := (loadVar_ok hE rel hi hl).1 ha v h1
        refine ⟨V, h3, ?_⟩
        rw [exec_eq ho]
        simp [execOp, he, Instr.loadAt, sure_addr, h4]
    · exact absurd h.symm hr
  · exact absurd h.symm hr
end quiet
end Go.Ex
namespace Go.Ex
open Go Go.RowKit
section quiet
variable {E : Env} (hE : EnvOK E) {tm : Tr Value} {H : Heap} {k : Value → R} {r : R}

theorem q_nilCheck {x : Operand} (h : xq E (.nilCheck x) tm H k = r) (hr : r ≠ .fail) : ∃ v, k v = r ∧ QOK E (.nilCheck x) tm H v := by
  unfold xq at h
  dsimp only at h
  obtain ⟨p, hp, h⟩ := evK_some h hr
  have main : ∀ v, p = v → (∀ {σ : Sg} {V : Value} (w : World), Con σ v V → (execOp (fun _ => V) { (default : Oper) with op := .nilCheck x }).run E.P w = .ok (.value V) w) → QOK E (.nilCheck x) tm H v := by
    intro v hv hrun B σ w nt a o ho _ ht
    subst hv
    refine ⟨_, evA_ok ht hp, ?_⟩
    rw [exec_eq ho]
    exact hrun w (evA_ok ht hp)
  split at h <;> first
    | exact absurd h.symm hr
    | (refine ⟨_, h, main _ rfl fun {σ V} w hc => ?_⟩
       cases hc <;> first
         | rfl
         | (rename_i hh; simp [Ex.scal] at hh))
theorem litK_some {v : Value} (h : litK k v = r) (hr : r ≠ .fail) : k v = r ∧ lit v = true := by
  unfold litK at h
  split at h
  · rename_i hl; exact ⟨h, hl⟩
  · exact absurd h.symm hr
theorem ieq_eq (a b : Int) : ieq a b = (a == b) := by
  unfold ieq
  split
  · rename_i m n
    by_cases e : m = n
    · subst e; simp
    · have h1 : Nat.beq m n = false := by
        cases hb : Nat.beq m n with
        | false => rfl
        | true => exact absurd (Nat.eq_of_beq_eq_true hb) e
      rw [h1]; symm; rw [beq_eq_false_iff_ne]; intro h; exact e (Int.ofNat.inj h)
  · rename_i m n
    by_cases e : m = n
    · subst e; simp
    · have h1 : Nat.beq m n = false := by
        cases hb : Nat.beq m n with
        | false => rfl
        | true => exact absurd (Nat.eq_of_beq_eq_true hb) e
      rw [h1]; symm; rw [beq_eq_false_iff_ne]; intro h; exact e (Int.negSucc.inj h)
  · rename_i h1 h2
    symm; rw [beq_eq_false_iff_ne]
    intro e; subst e
    cases a with
    | ofNat m => exact h1 m m rfl rfl
    | negSucc m => exact h2 m m rfl rfl
theorem ble_decide (m n : Nat) : Nat.ble m n = decide (m ≤ n) := by
  by_cases h : m ≤ n
  · rw [Nat.ble_eq_true_of_le h]; simp [h]
  · have : Nat.ble m n = false := by
      cases hb : Nat.ble m n with
      | false => rfl
      | true => exact absurd (Nat.le_of_ble_eq_true hb) h
    rw [this]; simp [h]
theorem ilt_lt (a b : Int) : ilt a b = decide (a < b) := by
  unfold ilt
  split <;> (try rw [ble_decide]) <;> (try (rw [decide_eq_decide])) <;> (try (symm; simp)) <;> omega
theorem wrapF_eq (k : IntKind) (n : Int) : wrapF k n = k.wrap n := by
  unfold wrapF
  split
  · rename_i m
    cases hb : Nat.ble m 9223372036854775807 with
    | true => have := Nat.le_of_ble_eq_true hb; exact (IntWalk.i64_in _ ⟨by simp only [Int.ofNat_eq_natCast]; omega, by simp only [Int.ofNat_eq_natCast]; omega⟩).symm
    | false => rfl
  · rename_i m
    cases hb : Nat.ble m 9223372036854775807 with
    | true => have := Nat.le_of_ble_eq_true hb; show Int.negSucc m = _; exact (IntWalk.i64_in (Int.negSucc m) ⟨by omega, by omega⟩).symm
    | false => rfl
  · rename_i m
    cases hb : Nat.ble m 255 with
    | true => have := Nat.le_of_ble_eq_true hb; exact (IntWalk.u8_in _ ⟨by simp only [Int.ofNat_eq_natCast]; omega, by simp only [Int.ofNat_eq_natCast]; omega⟩).symm
    | false => rfl
  · rename_i m
    cases hb : Nat.ble m 18446744073709551615 with
    | true => have := Nat.le_of_ble_eq_true hb; exact (IntWalk.u64_in _ ⟨by simp only [Int.ofNat_eq_natCast]; omega, by simp only [Int.ofNat_eq_natCast]; omega⟩).symm
    | false => rfl
  · rfl
theorem not_ilt (a b : Int) : (!ilt a b) = decide (b ≤ a) := by
  rw [ilt_lt, ← decide_not, decide_eq_decide]; omega
theorem intOp_run {op : BinOp} {k : IntKind} {x y : Int} {v : Value} (h : intOp op k x y = some v) {t : TypeId} {P : Program} (w : World) :
    (binOp op t (.int k x) (.int k y)).run P w = .ok v w ∧ lit v = true := by
  cases op <;> simp only [intOp, Option.some.injEq, reduceCtorEq] at h <;> subst h <;> refine ⟨?_, rfl⟩
  all_goals first
    | (simp only [wrapF_eq]; simp [binOp, Op.intArith]; done)
    | (simp only [not_ilt]; simp [binOp, Op.intCmp]; done)
    | (simp only [ilt_lt]; simp [binOp, Op.intCmp]; done)
    | (simp only [ieq_eq]; simp [binOp, Op.intCmp, bne]; done)
theorem nilEq_run {t : TypeId} {x y : Value} {b : Bool} (hE : EnvOK E) (h : nilEq E t x y = some b) {σ : Sg} {X Y : Value} (hx : Con σ x X) (hy : Con σ y Y) (a' b' : Operand) (op : BinOp) (w : World) :
    (eqGuard op t a' b' X Y).run E.P w = .ok () w ∧ (Op.equal t X Y).run E.P w = .ok b w := by
  unfold nilEq at h
  split at h <;> simp only [Option.some.injEq, reduceCtorEq] at h <;> subst h <;> rename_i hu <;> have hu' := fun w => und_run hE hu w
  all_goals
    (cases hx <;> first | (rename_i hh; simp [Ex.scal] at hh; done) | skip)
    all_goals (cases hy <;> first | (rename_i hh; simp [Ex.scal] at hh; done) | skip)
    all_goals
      refine ⟨?_, ?_⟩
      · unfold eqGuard; cases op <;> simp
      · unfold Op.equal Op.maxDepth Op.equalIn; simp [hu']
theorem nilEq_bin {t : TypeId} {x y : Value} {b ng : Bool} (hE : EnvOK E) (h : nilEq E t x y = some b) {σ : Sg} {X Y : Value} (hx : Con σ x X) (hy : Con σ y Y) {op : BinOp}
    (hop : op = .eql ∧ ng = b ∨ op = .neq ∧ ng = !b) (w : World) : (binOp op t X Y).run E.P w = .ok (.bool ng) w := by
  have h1 := (nilEq_run hE h hx hy (.const undef) (.const undef) op w).2
  have key : binOp op t X Y = (match op with | .eql => (do pure (.bool (← Op.equal t X Y)) : Sem Value) | _ => (do pure (.bool (!(← Op.equal t X Y))) : Sem Value)) := by
    unfold nilEq at h
    rcases hop with ⟨rfl, _⟩ | ⟨rfl, _⟩
    all_goals
      split at h <;> simp only [Option.some.injEq, reduceCtorEq] at h
      all_goals (cases hx <;> first | (rename_i hh; simp [Ex.scal] at hh; done) | skip)
      all_goals (cases hy <;> first | (rename_i hh; simp [Ex.scal] at hh; done) | skip)
      all_goals rfl
  rw [key]
  rcases hop with ⟨rfl, rfl⟩ | ⟨rfl, rfl⟩ <;> simp [h1]
include hE in
theorem q_binOp {op : BinOp} {t yt : TypeId} {x y : Operand} (h : xq E (.binOp op t x y yt) tm H k = r) (hr : r ≠ .fail) : ∃ v, k v = r ∧ QOK E (.binOp op t x y yt) tm H v := by
  unfold xq at h
  dsimp only at h
  obtain ⟨a, ha, h'⟩ := evK_some h hr
  clear h
  obtain ⟨b, hb, h⟩ := evK_some h' hr
  clear h'
  have lits : ∀ (g : Sem Unit), lit a = true → lit b = true → (∀ (op' : BinOp), op' = op → (op' = .eql ∨ op' = .neq → g = eqGuard op t x y a b) ∧ (op' ≠ .eql → op' ≠ .neq → g = pure ())) →
      ∀ v, (∀ w, (do g; binOp op t a b : Sem Value).run E.P w = .ok v w) → lit v = true → QOK E (.binOp op t x y yt) tm H v := by
    intro g hla hlb hg v hrun hlv B σ w nt ac o ho _ ht
    refine ⟨v, Con.of_lit hlv, ?_⟩
    have h1 := (evA_ok ht ha).lit hla
    have h2 := (evA_ok ht hb).lit hlb
    rw [exec_eq ho]
    have h3 := hrun w
    simp only [execOp, h1, h2, Sem.run_bind]
    by_cases hop : op = .eql ∨ op = .neq
    · rw [(hg op rfl).1 hop] at h3
      simp only [Sem.run_bind] at h3
      rw [h3]; rfl
    · have hg' := (hg op rfl).2 (fun e => hop (.inl e)) (fun e => hop (.inr e))
      rw [hg'] at h3
      simp only [Sem.run_bind, Sem.run_pure, Result.andThen_ok] at h3
      have hgd : (eqGuard op t x y a b).run E.P w = .ok () w := by
        unfold eqGuard
        cases op <;> first | exact absurd (.inl rfl) hop | exact absurd (.inr rfl) hop | simp
      rw [hgd]
      simp only [Result.andThen_ok, h3]
      rfl
  split at h
  · rename_i ka m kb n
    split at h
    · rename_i v hv
      split at h
      · rename_i hk
        have hk := kbeq_eq hk
        subst hk
        have h1 := fun w => intOp_run (t := t) (P := E.P) hv w
        refine ⟨v, h, fun {B σ w nt ac} o ho _ ht => ⟨v, Con.of_lit (h1 w).2, ?_⟩⟩
        have e1 := (evA_ok ht ha).lit rfl
        have e2 := (evA_ok ht hb).lit rfl
        rw [exec_eq ho]
        simp only [execOp, e1, e2, Sem.run_bind]
        have hgd : ∀ u z, (eqGuard op t x y (Value.int u m) (Value.int z n)).run E.P w = .ok () w := fun u z => by unfold eqGuard; cases op <;> simp
        rw [hgd]
        simp only [Result.andThen_ok, (h1 w).1]
        rfl
      · exact absurd h.symm hr
    · split at h
      · exact absurd h.symm hr
      · exact absurd h.symm hr
      · rename_i h1 h2
        obtain ⟨v, h, hrun⟩ := pureK_some h hr
        obtain ⟨h, hl⟩ := litK_some h hr
        exact ⟨v, h, lits (pure ()) rfl rfl (fun op' e => ⟨fun e' => by subst e; rcases e' with e' | e' <;> first | exact absurd e' h1 | exact absurd e' h2, fun _ _ => rfl⟩) v (fun w => by simp [hrun w]) hl⟩
  · rename_i hni
    have nilc : ∀ (ng : Bool) (b' : Bool), nilEq E t a b = some b' → (op = .eql ∧ ng = b' ∨ op = .neq ∧ ng = !b') → QOK E (.binOp op t x y yt) tm H (.bool ng) := by
      intro ng b' hn hop B σ w nt ac o ho _ ht
      refine ⟨.bool ng, .sc _ rfl, ?_⟩
      have h1 := nilEq_run hE hn (evA_ok ht ha) (evA_ok ht hb) x y op w
      have h2 := nilEq_bin hE hn (evA_ok ht ha) (evA_ok ht hb) hop w
      rw [exec_eq ho]
      simp only [execOp, Sem.run_bind, h1.1, Result.andThen_ok, h2]
      rfl
    split at h
    · split at h
      · rename_i b' hn
        exact ⟨_, h, nilc _ _ hn (.inl ⟨rfl, rfl⟩)⟩
      · split at h
        · rename_i hl
          simp only [Bool.and_eq_true] at hl
          obtain ⟨v, h', hrun⟩ := pureK_some h hr
          obtain ⟨h2, hlv⟩ := litK_some h' hr
          exact ⟨v, h2, lits _ hl.1 hl.2 (fun op' e => ⟨fun _ => rfl, fun h1 => absurd e h1⟩) v hrun hlv⟩
        · exact absurd h.symm hr
    · split at h
      · rename_i b' hn
        exact ⟨_, h, nilc _ _ hn (.inr ⟨rfl, rfl⟩)⟩
      · split at h
        · rename_i hl
          simp only [Bool.and_eq_true] at hl
          obtain ⟨v, h', hrun⟩ := pureK_some h hr
          obtain ⟨h2, hlv⟩ := litK_some h' hr
          exact ⟨v, h2, lits _ hl.1 hl.2 (fun op' e => ⟨fun _ => rfl, fun _ h1 => absurd e h1⟩) v hrun hlv⟩
        · exact absurd h.symm hr
    · rename_i he hn
      split at h
      · rename_i hl
        simp only [Bool.and_eq_true] at hl
        obtain ⟨v, h', hrun⟩ := pureK_some h hr
        obtain ⟨h2, hlv⟩ := litK_some h' hr
        exact ⟨v, h2, lits (pure ()) hl.1 hl.2 (fun op' e => ⟨fun e' => by subst e; rcases e' with e' | e' <;> first | exact absurd e' he | exact absurd e' hn, fun _ _ => rfl⟩) v (fun w => by simp [hrun w]) hlv⟩
      · exact absurd h.symm hr
end quiet
end Go.Ex
namespace Go.Ex
open Go Go.RowKit
section quiet
variable {E : Env} (hE : EnvOK E) {tm : Tr Value} {H : Heap} {k : Value → R} {r : R}

theorem q_unOp {op : UnOp} {t : TypeId} {x : Operand} (h : xq E (.unOp op t x) tm H k = r) (hr : r ≠ .fail) : ∃ v, k v = r ∧ QOK E (.unOp op t x) tm H v := by
  unfold xq at h
  dsimp only at h
  obtain ⟨a, ha, h1⟩ := evK_some h hr
  clear h
  split at h1
  · rename_i hl
    obtain ⟨v, h2, hrun⟩ := pureK_some h1 hr
    obtain ⟨h3, hlv⟩ := litK_some h2 hr
    refine ⟨v, h3, fun {B σ w nt ac} o ho _ ht => ⟨v, Con.of_lit hlv, ?_⟩⟩
    rw [exec_eq ho]
    simp [execOp, (evA_ok ht ha).lit hl, hrun w]
  · exact absurd h1.symm hr
include hE in
theorem q_makeInterface {t : TypeId} {x : Operand} (h : xq E (.makeInterface t x) tm H k = r) (hr : r ≠ .fail) : ∃ v, k v = r ∧ QOK E (.makeInterface t x) tm H v := by
  unfold xq at h
  dsimp only at h
  obtain ⟨a, ha, h1⟩ := evK_some h hr
  clear h
  split at h1
  · exact absurd h1.symm hr
  · rename_i d hn hd
    refine ⟨_, h1, fun {B σ w nt ac} o ho _ ht => ⟨_, .iface t _ _ (evA_ok ht ha), ?_⟩⟩
    rw [exec_eq ho]
    simp only [execOp, Instr.makeInterface, Sem.run_bind, und_run hE hd, Result.andThen_ok]
    cases d <;> first | rfl | exact absurd rfl (hn _)
  · exact absurd h1.symm hr
theorem q_makeFunc {fn : Fn} {first captured : Array Operand} (h : xq E (.makeFunc fn first captured) tm H k = r) (hr : r ≠ .fail) : ∃ v, k v = r ∧ QOK E (.makeFunc fn first captured) tm H v := by
  unfold xq at h
  dsimp only at h
  split at h
  · rename_i f
    obtain ⟨xs, hx, h1⟩ := evLK_some h hr
    clear h
    obtain ⟨ys, hy, h2⟩ := evLK_some h1 hr
    clear h1
    refine ⟨_, h2, fun {B σ w nt ac} o ho _ ht => ⟨.func (.func f) ⟨first.toList.map ac.eval⟩ ⟨captured.toList.map ac.eval⟩, .fn f _ _ _ _ (hx ht) (hy ht), ?_⟩⟩
    rw [exec_eq ho]
    simp only [execOp, Instr.makeFunc]
    rw [← Array.toList_map, ← Array.toList_map]
    rfl
  · exact absurd h.symm hr
theorem ptr_con {σ : Sg} {b o : Nat} {V : Value} (h : Con σ (.pointer (some ⟨b, o, none⟩)) V) : ∃ l, σ b = some l ∧ V = .pointer (some ⟨l.block, l.shift + o, none⟩) := by
  cases h with
  | sc _ h => simp [Ex.scal] at h
  | ptr _ _ l h => exact ⟨l, h, rfl⟩
include hE in
theorem q_fieldAddr {s : TypeId} {x : Operand} {f : Nat} (h : xq E (.fieldAddr s x f) tm H k = r) (hr : r ≠ .fail) : ∃ v, k v = r ∧ QOK E (.fieldAddr s x f) tm H v := by
  unfold xq at h
  dsimp only at h
  obtain ⟨p, hp, h1⟩ := evK_some h hr
  clear h
  split at h1
  · rename_i fs b o hu
    split at h1
    · rename_i fd hf
      split at h1
      · rename_i j hj
        obtain ⟨tj, zj, dj, hjo, _, _⟩ := inf_ok hE hj
        split at h1
        · exact absurd h1.symm hr
        · rename_i hz
          refine ⟨_, h1, fun {B σ w nt ac} op ho _ ht => ?_⟩
          obtain ⟨l, hl, he⟩ := ptr_con (evA_ok ht hp)
          refine ⟨_, .ptr b (o + fd.offset) l hl, ?_⟩
          have hsz : j.size ≠ 0 := fun e => by rw [e] at hz; simp at hz
          rw [exec_eq ho]
          simp only [execOp, Instr.fieldAt, Sem.run_bind, und_run hE hu, Result.andThen_ok, hf, he, sure_addr, fieldPlace, hjo.sizeOf]
          rw [if_neg hsz, add_flat]
          simp [Nat.add_assoc]
      · exact absurd h1.symm hr
    · exact absurd h1.symm hr
  · exact absurd h1.symm hr
include hE in
theorem part_ok {t : TypeId} {cs : List Value} {off : Nat} (h : partK E .fail t cs off k = r) (hr : r ≠ .fail) :
    ∃ v, k v = r ∧ ∀ {σ : Sg} {Cs : List Value} (w : World), ConL σ cs Cs → ∃ V, Con σ v V ∧ (part t ⟨Cs⟩ off).run E.P w = .ok V w := by
  unfold partK at h
  split at h
  · rename_i i hi
    obtain ⟨ti, z, d, hio, _, _⟩ := inf_ok hE hi
    split at h
    · rename_i ha
      split at h
      · rename_i hb
        refine ⟨_, h, fun {σ Cs} w hc => ⟨.agg ⟨(Cs.drop off).take i.size⟩, .agg _ _ ((hc.drop off).take i.size), ?_⟩⟩
        unfold part
        simp only [Sem.run_bind, isAggD_und hE hi, ha, Result.andThen_ok, if_true, hio.sizeOf]
        simp only [Sem.run_pure]
        congr 2
        apply Array.ext'
        simp [List.extract]
      · exact absurd h.symm hr
    · rename_i ha
      split at h
      · rename_i v rest hd
        refine ⟨_, h, fun {σ Cs} w hc => ?_⟩
        have h0 : cs[off]? = some v := by
          have := congrArg List.head? hd
          rw [List.head?_drop] at this
          simpa using this
        obtain ⟨V, h1, h2⟩ := hc.get h0
        refine ⟨V, h2, ?_⟩
        unfold part
        simp [isAggD_und hE hi, ha, h1]
      · exact absurd h.symm hr
  · exact absurd h.symm hr
theorem agg_con {σ : Sg} {cs : Array Value} {V : Value} (h : Con σ (.agg cs) V) : ∃ Cs, V = .agg ⟨Cs⟩ ∧ ConL σ cs.toList Cs := by
  cases h with
  | sc _ h => simp [Ex.scal] at h
  | agg xs xs' h => exact ⟨xs', rfl, h⟩
include hE in
theorem q_field {t : TypeId} {x : Operand} {f : Nat} (h : xq E (.field t x f) tm H k = r) (hr : r ≠ .fail) : ∃ v, k v = r ∧ QOK E (.field t x f) tm H v := by
  unfold xq at h
  dsimp only at h
  obtain ⟨p, hp, h1⟩ := evK_some h hr
  clear h
  split at h1
  · rename_i fs cs hu
    split at h1
    · rename_i fd hf
      obtain ⟨v, h2, hv⟩ := part_ok hE h1 hr
      refine ⟨v, h2, fun {B σ w nt ac} op ho _ ht => ?_⟩
      obtain ⟨Cs, he, hc⟩ := agg_con (evA_ok ht hp)
      obtain ⟨V, h3, h4⟩ := hv w hc
      refine ⟨V, h3, ?_⟩
      rw [exec_eq ho]
      simp only [execOp, Instr.field, Sem.run_bind, und_run hE hu, Result.andThen_ok, hf, he, asAgg, Sem.run_pure, h4]
    · exact absurd h1.symm hr
  · exact absurd h1.symm hr
theorem inRange_some {i : Int} {n m : Nat} (h : inRange i n = some m) : i = m ∧ m < n := by
  unfold inRange at h
  split at h
  · split at h
    · rename_i hb; simp at h; subst h; exact ⟨rfl, Nat.le_of_ble_eq_true hb⟩
    · simp at h
  · simp at h
include hE in
theorem q_indexAddr {t : TypeId} {x ix : Operand} (h : xq E (.indexAddr t x ix) tm H k = r) (hr : r ≠ .fail) : ∃ v, k v = r ∧ QOK E (.indexAddr t x ix) tm H v := by
  unfold xq at h
  dsimp only at h
  obtain ⟨s, hs, h1⟩ := evK_some h hr
  clear h
  obtain ⟨i, hi, h2⟩ := evK_some h1 hr
  clear h1
  split at h2
  · rename_i e b o n c kd i' hu
    split at h2
    · rename_i j m hj hm
      obtain ⟨tj, zj, dj, hjo, _, _⟩ := inf_ok hE hj
      obtain ⟨rfl, hlt⟩ := inRange_some hm
      refine ⟨_, h2, fun {B σ w nt ac} op ho _ ht => ?_⟩
      have hc := evA_ok ht hs
      have hI := (evA_ok ht hi).scal rfl
      have : ∃ l c', σ b = some l ∧ ac.eval x = .slice (some ⟨l.block, l.shift + o, none⟩) n c' := by
        generalize ac.eval x = X at hc
        cases hc with
        | sc _ h => simp [Ex.scal] at h
        | slice _ _ _ _ l h => exact ⟨l, c, h, rfl⟩
        | sliceU _ _ _ _ l o' c' h hc hn hoo hsz => exact ⟨l, c', h, by rw [hoo (by omega)]⟩
      obtain ⟨l, c', hl, he⟩ := this
      refine ⟨_, .ptr b (o + m * j.size) l hl, ?_⟩
      rw [exec_eq ho]
      simp only [execOp, Instr.indexAt, he, hI, asIntOf, Sem.run_bind, Sem.run_pure, Result.andThen_ok, und_run hE hu]
      rw [if_pos (by omega)]
      simp only [Sem.run_bind, hjo.sizeOf, Result.andThen_ok, Sem.run_pure, add_flat, Int.toNat_natCast]
      simp [Nat.add_assoc]
    · exact absurd h2.symm hr
  · rename_i n e b o kd i' hu
    split at h2
    · rename_i j m hj hm
      obtain ⟨tj, zj, dj, hjo, _, _⟩ := inf_ok hE hj
      obtain ⟨rfl, hlt⟩ := inRange_some hm
      refine ⟨_, h2, fun {B σ w nt ac} op ho _ ht => ?_⟩
      have hI := (evA_ok ht hi).scal rfl
      obtain ⟨l, hl, he⟩ := ptr_con (evA_ok ht hs)
      refine ⟨_, .ptr b (o + m * j.size) l hl, ?_⟩
      rw [exec_eq ho]
      simp only [execOp, Instr.indexAt, he, hI, asIntOf, Sem.run_bind, Sem.run_pure, Result.andThen_ok, und_run hE hu, sure_addr]
      rw [if_pos (by omega)]
      simp only [Sem.run_bind, hjo.sizeOf, Result.andThen_ok, Sem.run_pure, add_flat, Int.toNat_natCast]
      simp [Nat.add_assoc]
    · exact absurd h2.symm hr
  · exact absurd h2.symm hr
include hE in
theorem q_index {t : TypeId} {x ix : Operand} (h : xq E (.index t x ix) tm H k = r) (hr : r ≠ .fail) : ∃ v, k v = r ∧ QOK E (.index t x ix) tm H v := by
  unfold xq at h
  dsimp only at h
  obtain ⟨s, hs, h1⟩ := evK_some h hr
  clear h
  obtain ⟨i, hi, h2⟩ := evK_some h1 hr
  clear h1
  split at h2
  · rename_i n e cs kd i' hu
    split at h2
    · rename_i j m hj hm
      obtain ⟨tj, zj, dj, hjo, _, _⟩ := inf_ok hE hj
      obtain ⟨rfl, hlt⟩ := inRange_some hm
      obtain ⟨v, h3, hv⟩ := part_ok hE h2 hr
      refine ⟨v, h3, fun {B σ w nt ac} op ho _ ht => ?_⟩
      have hI := (evA_ok ht hi).scal rfl
      obtain ⟨Cs, he, hc⟩ := agg_con (evA_ok ht hs)
      obtain ⟨V, h5, h6⟩ := hv w hc
      refine ⟨V, h5, ?_⟩
      rw [exec_eq ho]
      simp only [execOp, Instr.index, he, hI, asIntOf, Sem.run_bind, Sem.run_pure, Result.andThen_ok, und_run hE hu]
      rw [if_pos (by omega)]
      simp only [Sem.run_bind, hjo.sizeOf, Result.andThen_ok, Int.toNat_natCast, h6]
    · exact absurd h2.symm hr
  · rename_i str kd i' hu
    obtain ⟨v, h3, hrun⟩ := pureK_some h2 hr
    obtain ⟨h4, hlv⟩ := litK_some h3 hr
    refine ⟨v, h4, fun {B σ w nt ac} o ho _ ht => ⟨v, Con.of_lit hlv, ?_⟩⟩
    rw [exec_eq ho]
    simp [execOp, (evA_ok ht hs).scal rfl, (evA_ok ht hi).scal rfl, hrun w]
  · exact absurd h2.symm hr
theorem q_extract {x : Operand} {ix : Nat} (h : xq E (.extract x ix) tm H k = r) (hr : r ≠ .fail) : ∃ v, k v = r ∧ QOK E (.extract x ix) tm H v := by
  unfold xq at h
  dsimp only at h
  obtain ⟨s, hs, h1⟩ := evK_some h hr
  clear h
  split at h1
  · rename_i vs
    split at h1
    · rename_i v rest hd
      refine ⟨v, h1, fun {B σ w nt ac} o ho _ ht => ?_⟩
      have h0 : vs.toList[ix]? = some v := by
        have := congrArg List.head? hd
        rw [List.head?_drop] at this
        simpa using this
      have hc := evA_ok ht hs
      generalize hX : ac.eval x = X at hc
      cases hc with
      | sc _ h => simp [Ex.scal] at h
      | tup xs xs' h =>
        obtain ⟨V, h1, h2⟩ := h.get h0
        refine ⟨V, h2, ?_⟩
        rw [exec_eq ho]
        simp [execOp, hX, Instr.extract, h1]
    · exact absurd h1.symm hr
  · exact absurd h1.symm hr
theorem q_call {c : Call} (h : xq E (.call c) tm H k = r) (hr : r ≠ .fail) : ∃ b, c.callee = .builtin b ∧ (b = .len ∨ b = .max ∨ b = .min) := by
  obtain ⟨callee, args, argTypes⟩ := c
  cases callee with
  | value f => exact absurd (show R.fail = r from h).symm hr
  | invoke f m => exact absurd (show R.fail = r from h).symm hr
  | builtin b => cases b <;> first | exact ⟨_, rfl, .inl rfl⟩ | exact ⟨_, rfl, .inr (.inl rfl)⟩ | exact ⟨_, rfl, .inr (.inr rfl)⟩ | exact absurd (show R.fail = r from h).symm hr
end quiet
end Go.Ex
namespace Go.Ex
open Go Go.RowKit
section quiet
variable {E : Env} (hE : EnvOK E) {tm : Tr Value} {H : Heap} {k : Value → R} {r : R}

theorem toList_one {α : Type} {a : Array α} {x : α} (h : a.toList = [x]) : a = #[x] := Array.toList_inj.1 h
theorem toList_cons {α : Type} {a : Array α} {x : α} {l : List α} (h : a.toList = x :: l) : a = ⟨x :: l⟩ := Array.toList_inj.1 h
theorem EntsRel.size {σ : Sg} {es : List AEnt} {es' : List MapEntry} (h : EntsRel σ es es') : es'.length = es.length := h.1
include hE in
theorem q_len {args : Array Operand} {argTypes : Array TypeId} (h : xq E (.call { callee := .builtin .len, args, argTypes }) tm H k = r) (hr : r ≠ .fail) :
    ∃ v, k v = r ∧ QOK E (.call { callee := .builtin .len, args, argTypes }) tm H v := by
  unfold xq at h
  dsimp only at h
  split at h
  · rename_i x t ts hargs hts
    obtain ⟨a, ha, h1⟩ := evK_some h hr
    clear h
    have hA := toList_one hargs
    have hT := toList_cons hts
    subst hA hT
    have fin : ∀ n : Nat, (∀ {B : Nat} {σ : Sg} {w : World} {V : Value}, Rel B σ H w → Con σ a V → (Builtin.len_ ⟨t :: ts⟩ 0 #[V]).run E.P w = .ok (goInt n) w) → QOK E (.call { callee := .builtin .len, args := #[x], argTypes := ⟨t :: ts⟩ }) tm H (.int .i64 n) := by
      intro n hrun B σ w nt ac o ho rel ht
      refine ⟨.int .i64 n, .sc _ rfl, ?_⟩
      rw [exec_eq ho]
      have := hrun rel (evA_ok ht ha)
      simp only [execOp, resolve, invoke, builtin, Sem.run_bind, Sem.run_pure, Result.andThen_ok]
      rw [show (Array.map ac.eval #[x]) = #[ac.eval x] by simp]
      have e : Builtin.len_ ⟨t :: ts⟩ o.type #[ac.eval x] = Builtin.len_ ⟨t :: ts⟩ 0 #[ac.eval x] := rfl
      rw [e, this]
      rfl
    split at h1
    · rename_i e s n c hu
      refine ⟨_, h1, fin n fun {B σ w V} _ hc => ?_⟩
      simp only [Builtin.len_]
      cases hc <;> simp [und_run hE hu]
    · rename_i n e hu
      refine ⟨_, h1, fin n fun {B σ w V} _ hc => ?_⟩
      simp [Builtin.len_, und_run hE hu]
    · rename_i s hu
      refine ⟨_, h1, fin s.size fun {B σ w V} _ hc => ?_⟩
      rw [hc.scal rfl]
      simp [Builtin.len_, und_run hE hu]
    · rename_i kt et hu
      refine ⟨_, h1, fin 0 fun {B σ w V} _ hc => ?_⟩
      rw [hc.scal rfl]
      simp [Builtin.len_, und_run hE hu]
    · rename_i kt et rr hu
      split at h1
      · rename_i es clock hg
        refine ⟨_, h1, fin es.length fun {B σ w V} rel hc => ?_⟩
        obtain ⟨l, hl, hO, _⟩ := rel.obj _ _ hg
        obtain ⟨es', hh, hes⟩ := hO
        have : V = .map (some l.block) := by
          cases hc with
          | sc _ h => simp [Ex.scal] at h
          | map _ l' h => rw [hl] at h; cases h; rfl
        subst this
        have hget : (getObj l.block).run E.P w = .ok (.map es' clock) w := by simp [getObj, Sem.run, hh]
        have hsz : es'.size = es.length := by simpa using hes.1
        simp [Builtin.len_, und_run hE hu, hget, hsz]
      · exact absurd h1.symm hr
    · exact absurd h1.symm hr
  · exact absurd h.symm hr
theorem ConL.lit {σ : Sg} {xs ys : List Value} (h : ConL σ xs ys) (hs : xs.all Ex.lit = true) : ys = xs := by
  induction xs generalizing ys with
  | nil => cases h; rfl
  | cons a r ih => cases h with | cons _ v' _ xs' h t =>
    simp only [List.all_cons, Bool.and_eq_true] at hs
    rw [h.lit hs.1, ih t hs.2]
theorem q_max {args : Array Operand} {argTypes : Array TypeId} (h : xq E (.call { callee := .builtin .max, args, argTypes }) tm H k = r) (hr : r ≠ .fail) :
    ∃ v, k v = r ∧ QOK E (.call { callee := .builtin .max, args, argTypes }) tm H v := by
  unfold xq at h
  dsimp only at h
  obtain ⟨vs, hv, h1⟩ := evLK_some h hr
  clear h
  split at h1
  · rename_i hl
    obtain ⟨v, h2, hrun⟩ := pureK_some h1 hr
    obtain ⟨h3, hlv⟩ := litK_some h2 hr
    refine ⟨v, h3, fun {B σ w nt ac} o ho _ ht => ⟨v, Con.of_lit hlv, ?_⟩⟩
    rw [exec_eq ho]
    have e : args.map ac.eval = vs.toArray := by
      apply Array.toList_inj.1
      rw [Array.toList_map, (hv ht).lit hl]
    simp only [execOp, resolve, invoke, builtin, Sem.run_bind, Sem.run_pure, Result.andThen_ok, e]
    have e2 : Builtin.max_ argTypes o.type vs.toArray = Builtin.max_ argTypes 0 vs.toArray := rfl
    rw [e2, hrun w]
    rfl
  · exact absurd h1.symm hr
theorem q_min {args : Array Operand} {argTypes : Array TypeId} (h : xq E (.call { callee := .builtin .min, args, argTypes }) tm H k = r) (hr : r ≠ .fail) :
    ∃ v, k v = r ∧ QOK E (.call { callee := .builtin .min, args, argTypes }) tm H v := by
  unfold xq at h
  dsimp only at h
  obtain ⟨vs, hv, h1⟩ := evLK_some h hr
  clear h
  split at h1
  · rename_i hl
    obtain ⟨v, h2, hrun⟩ := pureK_some h1 hr
    obtain ⟨h3, hlv⟩ := litK_some h2 hr
    refine ⟨v, h3, fun {B σ w nt ac} o ho _ ht => ⟨v, Con.of_lit hlv, ?_⟩⟩
    rw [exec_eq ho]
    have e : args.map ac.eval = vs.toArray := by
      apply Array.toList_inj.1
      rw [Array.toList_map, (hv ht).lit hl]
    simp only [execOp, resolve, invoke, builtin, Sem.run_bind, Sem.run_pure, Result.andThen_ok, e]
    have e2 : Builtin.min_ argTypes o.type vs.toArray = Builtin.min_ argTypes 0 vs.toArray := rfl
    rw [e2, hrun w]
    rfl
  · exact absurd h1.symm hr

/-! slices -/
theorem boundK_some {β : Type} {z r : β} {x : Option Value} {d top : Nat} {k : Nat → β} (h : boundK z x d top k = r) (hr : r ≠ z) :
    ∃ m, k m = r ∧ (x = none ∧ m = d ∨ ∃ kd, x = some (.int kd (m : Int)) ∧ m ≤ top) := by
  unfold boundK at h
  split at h
  · exact ⟨d, h, .inl ⟨rfl, rfl⟩⟩
  · rename_i kd i
    split at h
    · rename_i m hm
      obtain ⟨rfl, hlt⟩ := inRange_some hm
      exact ⟨m, h, .inr ⟨kd, rfl, by omega⟩⟩
    · exact absurd h.symm hr
  · exact absurd h.symm hr
/-- The bounds of a slice expression as the model reads them. -/
theorem optA_ok {σ : Sg} {nt : Nat} {a : Act} (ht : TRel σ tm nt a.tmps) {x : Option Operand} {v : Option Value}
    (h : OptEv tm x v) :
    (v = none → x.map a.eval = none) ∧ (∀ kd i, v = some (.int kd i) → x.map a.eval = some (.int kd i)) := by
  cases x with
  | none => cases v with
    | none => exact ⟨fun _ => rfl, fun _ _ h => by cases h⟩
    | some v => exact h.elim
  | some x => cases v with
    | none => exact h.elim
    | some v => exact ⟨fun h => (by cases h), fun kd i hv => (by cases hv; simp only [Option.map_some, (evA_ok ht h).scal rfl])⟩
theorem run_sliceBound (P : Program) (w : World) (kd : IntKind) (m y : Nat) (c : BoundsCode) (h : m ≤ y) : (Instr.sliceBound (.int kd (m : Int)) y c).run P w = .ok m w := by
  unfold Instr.sliceBound
  simp [asIntOf, h]
theorem run_sliceBounds (P : Program) (w : World) (b : Bool) (len cap h l : Nat) (lo hi : Option Value) (hh : hi = none ∧ h = len ∨ ∃ kd, hi = some (.int kd (h : Int)) ∧ h ≤ cap)
    (hl : lo = none ∧ l = 0 ∨ ∃ kd, lo = some (.int kd (l : Int)) ∧ l ≤ h) : (Instr.sliceBounds b len cap lo hi none).run P w = .ok (l, h, cap) w := by
  unfold Instr.sliceBounds
  rcases hh with ⟨rfl, rfl⟩ | ⟨kd, rfl, hh⟩ <;> rcases hl with ⟨rfl, rfl⟩ | ⟨kd', rfl, hl⟩ <;> simp [run_sliceBound, *]
include hE in
theorem q_slice {t : TypeId} {x : Operand} {lo hi mx : Option Operand} (h : xq E (.slice t x lo hi mx) tm H k = r) (hr : r ≠ .fail) :
    ∃ v, k v = r ∧ QOK E (.slice t x lo hi mx) tm H v := by
  unfold xq at h
  dsimp only at h
  split at h
  · exact absurd h.symm hr
  obtain ⟨s, hs, h1⟩ := evK_some h hr
  clear h
  obtain ⟨lov, hlo, h2⟩ := optK_some h1 hr
  clear h1
  obtain ⟨hiv, hhi, h3⟩ := optK_some h2 hr
  clear h2
  split at h3
  · rename_i e a n c hu
    split at h3
    · rename_i j hj
      obtain ⟨tj, zj, dj, hjo, _, _⟩ := inf_ok hE hj
      split at h3
      · -- the capacity is known
        rename_i hkn
        have hc' : c < UNK := by
          rw [ble_decide] at hkn; simp at hkn; exact hkn
        obtain ⟨hh, h4, hhc⟩ := boundK_some h3 hr
        clear h3
        obtain ⟨ll, h5, hlc⟩ := boundK_some h4 hr
        clear h4
        have bounds : ∀ {σ : Sg} {nt : Nat} {ac : Act} (w : World) (b : Bool), TRel σ tm nt ac.tmps → (Instr.sliceBounds b n c (lo.map ac.eval) (hi.map ac.eval) none).run E.P w = .ok (ll, hh, c) w := by
          intro σ nt ac w b ht
          refine run_sliceBounds E.P w b n c hh ll _ _ ?_ ?_
          · rcases hhc with ⟨h1, h2⟩ | ⟨kd, h1, h2⟩
            · exact .inl ⟨(optA_ok ht hhi).1 h1, h2⟩
            · exact .inr ⟨kd, (optA_ok ht hhi).2 _ _ h1, h2⟩
          · rcases hlc with ⟨h1, h2⟩ | ⟨kd, h1, h2⟩
            · exact .inl ⟨(optA_ok ht hlo).1 h1, h2⟩
            · exact .inr ⟨kd, (optA_ok ht hlo).2 _ _ h1, h2⟩
        have hcon : ∀ {σ : Sg} {V : Value}, Con σ (.slice a n c) V → (a = none ∧ n = 0 ∧ c = 0 ∧ V = .slice none 0 0) ∨ ∃ b o l, a = some ⟨b, o, none⟩ ∧ σ b = some l ∧ V = .slice (some ⟨l.block, l.shift + o, none⟩) n c ∧ n ≤ c := by
          intro σ V hV
          cases hV with
          | sc _ h => unfold Ex.scal at h; split at h <;> simp_all
          | slice b o _ _ l h hn hc => exact .inr ⟨b, o, l, rfl, h, rfl, hn⟩
          | sliceU b o _ _ l o' c' h hc => omega
        split at h5
        · rename_i heq
          have heq := Nat.eq_of_beq_eq_true heq
          refine ⟨_, h5, fun {B σ w nt ac} op ho _ ht => ?_⟩
          rcases hcon (evA_ok ht hs) with ⟨rfl, rfl, rfl, he⟩ | ⟨b, o, l, rfl, hl, he, hnc⟩
          · refine ⟨.slice none (hh - ll) (0 - ll), ?_, ?_⟩
            · have : hh = 0 := by rcases hhc with ⟨_, h⟩ | ⟨_, _, h⟩ <;> omega
              subst this
              simp; exact .sc _ rfl
            · rw [exec_eq ho]
              simp only [execOp, Instr.sliceAt, Instr.slice, he, und_run hE hu, Sem.run_bind, Result.andThen_ok, Option.map_none, bounds w true ht, hjo.sizeOf, Sem.run_pure]
              rw [if_pos heq]
          · refine ⟨.slice (some ⟨l.block, l.shift + o, none⟩) (hh - ll) (c - ll), .slice b o _ _ l hl ?_ (by omega), ?_⟩
            · have : hh ≤ c := by rcases hhc with ⟨_, h⟩ | ⟨_, _, h⟩ <;> omega
              omega
            · rw [exec_eq ho]
              simp only [execOp, Instr.sliceAt, Instr.slice, he, und_run hE hu, Sem.run_bind, Result.andThen_ok, Option.map_none, bounds w true ht, hjo.sizeOf, Sem.run_pure]
              rw [if_pos heq]
        · rename_i heq
          have hne : c ≠ ll := fun e => by subst e; simp at heq
          split at h5
          · rename_i b o
            refine ⟨_, h5, fun {B σ w nt ac} op ho _ ht => ?_⟩
            rcases hcon (evA_ok ht hs) with ⟨h, _⟩ | ⟨b', o', l, h, hl, he, hnc⟩
            · simp at h
            · simp at h
              obtain ⟨rfl, rfl⟩ := h
              have hhle : hh ≤ c := by rcases hhc with ⟨_, h⟩ | ⟨_, _, h⟩ <;> omega
              refine ⟨.slice (some ⟨l.block, l.shift + (o + ll * j.size), none⟩) (hh - ll) (c - ll), .slice b _ _ _ l hl (by omega) (by omega), ?_⟩
              rw [exec_eq ho]
              simp only [execOp, Instr.sliceAt, Instr.slice, he, und_run hE hu, Sem.run_bind, Result.andThen_ok, Option.map_none, bounds w true ht, hjo.sizeOf, Sem.run_pure]
              rw [if_neg hne]
              simp [add_flat, Nat.add_assoc]
          · exact absurd h5.symm hr
      · -- it is not
        rename_i hkn
        have hc' : UNK ≤ c := Nat.le_of_ble_eq_true hkn
        split at h3
        · rename_i b o hce
          have hce := Nat.eq_of_beq_eq_true hce
          obtain ⟨hh, h4, hhc⟩ := boundK_some h3 hr
          clear h3
          obtain ⟨ll, h5, hlc⟩ := boundK_some h4 hr
          clear h4
          have hhn : hh ≤ n := by rcases hhc with ⟨_, h⟩ | ⟨_, _, h⟩ <;> omega
          have hllh : ll ≤ hh := by rcases hlc with ⟨_, h⟩ | ⟨_, _, h⟩ <;> omega
          have bounds : ∀ {σ : Sg} {nt : Nat} {ac : Act} (w : World) (b : Bool) (c' : Nat), n ≤ c' → TRel σ tm nt ac.tmps → (Instr.sliceBounds b n c' (lo.map ac.eval) (hi.map ac.eval) none).run E.P w = .ok (ll, hh, c') w := by
            intro σ nt ac w b c' hnc ht
            refine run_sliceBounds E.P w b n c' hh ll _ _ ?_ ?_
            · rcases hhc with ⟨h1, h2⟩ | ⟨kd, h1, h2⟩
              · exact .inl ⟨(optA_ok ht hhi).1 h1, h2⟩
              · exact .inr ⟨kd, (optA_ok ht hhi).2 _ _ h1, by omega⟩
            · rcases hlc with ⟨h1, h2⟩ | ⟨kd, h1, h2⟩
              · exact .inl ⟨(optA_ok ht hlo).1 h1, h2⟩
              · exact .inr ⟨kd, (optA_ok ht hlo).2 _ _ h1, h2⟩
          have hcon : ∀ {σ : Sg} {V : Value}, Con σ (.slice (some ⟨b, o, none⟩) n c) V → ∃ l o' c', σ b = some l ∧ V = .slice (some ⟨l.block, o', none⟩) n c' ∧ n ≤ c' ∧ (n ≠ 0 → o' = l.shift + o) ∧ o' + c' * j.size ≤ l.size := by
            intro σ V hV
            cases hV with
            | sc _ h => simp [Ex.scal] at h
            | slice _ _ _ _ l h hn hc => omega
            | sliceU _ _ _ _ l o' c' h hc hn hoo hsz => exact ⟨l, o', c', h, rfl, hn, hoo, by rw [hce, Nat.add_sub_cancel_left] at hsz; exact hsz⟩
          split at h5
          · rename_i hlt
            have hlt : ll < n := Nat.le_of_ble_eq_true hlt
            refine ⟨_, h5, fun {B σ w nt ac} op ho _ ht => ?_⟩
            obtain ⟨l, o', c', hl, he, hnc, hoo, hsz⟩ := hcon (evA_ok ht hs)
            have hoo := hoo (by omega)
            subst hoo
            have hprod : (c' - ll) * j.size + ll * j.size = c' * j.size := by rw [← Nat.add_mul, Nat.sub_add_cancel (by omega)]
            refine ⟨.slice (some ⟨l.block, l.shift + (o + ll * j.size), none⟩) (hh - ll) (c' - ll), .sliceU b _ _ _ l _ _ hl hc' (by omega) (fun _ => rfl) ?_, ?_⟩
            · rw [hce, Nat.add_sub_cancel_left]; omega
            · rw [exec_eq ho]
              simp only [execOp, Instr.sliceAt, Instr.slice, he, und_run hE hu, Sem.run_bind, Result.andThen_ok, Option.map_none, bounds w true c' hnc ht, hjo.sizeOf, Sem.run_pure]
              rw [if_neg (by omega)]
              simp [add_flat, Nat.add_assoc]
          · rename_i hlt
            have hlt : n ≤ ll := by rw [ble_decide] at hlt; simp at hlt; omega
            refine ⟨_, h5, fun {B σ w nt ac} op ho _ ht => ?_⟩
            obtain ⟨l, o', c', hl, he, hnc, hoo, hsz⟩ := hcon (evA_ok ht hs)
            have hprod : (c' - ll) * j.size + ll * j.size = c' * j.size := by rw [← Nat.add_mul, Nat.sub_add_cancel (by omega)]
            refine ⟨.slice (some (if c' = ll then ⟨l.block, o', none⟩ else ⟨l.block, o' + ll * j.size, none⟩)) (hh - ll) (c' - ll), ?_, ?_⟩
            · rw [show hh - ll = 0 by omega]
              by_cases e : c' = ll
              · rw [if_pos e]
                exact .sliceU b o 0 c l o' (c' - ll) hl hc' (Nat.zero_le _) (fun h => absurd rfl h) (by rw [hce, Nat.add_sub_cancel_left]; omega)
              · rw [if_neg e]
                exact .sliceU b o 0 c l _ (c' - ll) hl hc' (Nat.zero_le _) (fun h => absurd rfl h) (by rw [hce, Nat.add_sub_cancel_left]; omega)
            · rw [exec_eq ho]
              simp only [execOp, Instr.sliceAt, Instr.slice, he, und_run hE hu, Sem.run_bind, Result.andThen_ok, Option.map_none, bounds w true c' hnc ht, hjo.sizeOf, Sem.run_pure]
              by_cases e : c' = ll
              · rw [if_pos e, if_pos e]
              · rw [if_neg e, if_neg e]; simp [add_flat]
        · exact absurd h3.symm hr
    · exact absurd h3.symm hr
  · rename_i str hu
    obtain ⟨hh, h4, hhc⟩ := boundK_some h3 hr
    clear h3
    obtain ⟨ll, h5, hlc⟩ := boundK_some h4 hr
    clear h4
    refine ⟨_, h5, fun {B σ w nt ac} op ho _ ht => ⟨_, .sc _ rfl, ?_⟩⟩
    have bounds : (Instr.sliceBounds false str.size str.size (lo.map ac.eval) (hi.map ac.eval) none).run E.P w = .ok (ll, hh, str.size) w := by
      refine run_sliceBounds E.P w false _ _ hh ll _ _ ?_ ?_
      · rcases hhc with ⟨h1, h2⟩ | ⟨kd, h1, h2⟩
        · exact .inl ⟨(optA_ok ht hhi).1 h1, h2⟩
        · exact .inr ⟨kd, (optA_ok ht hhi).2 _ _ h1, h2⟩
      · rcases hlc with ⟨h1, h2⟩ | ⟨kd, h1, h2⟩
        · exact .inl ⟨(optA_ok ht hlo).1 h1, h2⟩
        · exact .inr ⟨kd, (optA_ok ht hlo).2 _ _ h1, h2⟩
    rw [exec_eq ho]
    simp only [execOp, Instr.sliceAt, Instr.slice, (evA_ok ht hs).scal rfl, und_run hE hu, Sem.run_bind, Result.andThen_ok, Option.map_none, Sem.run_pure]
    simp [bounds]
  · rename_i n e b o hu
    split at h3
    · rename_i j hj
      obtain ⟨tj, zj, dj, hjo, _, _⟩ := inf_ok hE hj
      split at h3
      · exact absurd h3.symm hr
      rename_i hun
      have hun : n < UNK := by rw [ble_decide] at hun; simp at hun; exact hun
      obtain ⟨hh, h4, hhc⟩ := boundK_some h3 hr
      clear h3
      obtain ⟨ll, h5, hlc⟩ := boundK_some h4 hr
      clear h4
      have hhn : hh ≤ n := by rcases hhc with ⟨_, h⟩ | ⟨_, _, h⟩ <;> omega
      have hllh : ll ≤ hh := by rcases hlc with ⟨_, h⟩ | ⟨_, _, h⟩ <;> omega
      have bounds : ∀ {σ : Sg} {nt : Nat} {ac : Act} (w : World), TRel σ tm nt ac.tmps → (Instr.sliceBounds false n n (lo.map ac.eval) (hi.map ac.eval) none).run E.P w = .ok (ll, hh, n) w := by
        intro σ nt ac w ht
        refine run_sliceBounds E.P w false n n hh ll _ _ ?_ ?_
        · rcases hhc with ⟨h1, h2⟩ | ⟨kd, h1, h2⟩
          · exact .inl ⟨(optA_ok ht hhi).1 h1, h2⟩
          · exact .inr ⟨kd, (optA_ok ht hhi).2 _ _ h1, h2⟩
        · rcases hlc with ⟨h1, h2⟩ | ⟨kd, h1, h2⟩
          · exact .inl ⟨(optA_ok ht hlo).1 h1, h2⟩
          · exact .inr ⟨kd, (optA_ok ht hlo).2 _ _ h1, h2⟩
      split at h5
      · rename_i heq
        have heq := Nat.eq_of_beq_eq_true heq
        refine ⟨_, h5, fun {B σ w nt ac} op ho _ ht => ?_⟩
        obtain ⟨l, hl, he⟩ := ptr_con (evA_ok ht hs)
        refine ⟨_, .slice b o _ _ l hl (by omega) (by omega), ?_⟩
        rw [exec_eq ho]
        simp only [execOp, Instr.sliceAt, he, und_run hE hu, Sem.run_bind, Result.andThen_ok, Option.map_none, bounds w ht, hjo.sizeOf, Sem.run_pure, sure_addr]
        rw [if_pos heq]
      · rename_i heq
        have hne : n ≠ ll := fun e => by subst e; simp at heq
        refine ⟨_, h5, fun {B σ w nt ac} op ho _ ht => ?_⟩
        obtain ⟨l, hl, he⟩ := ptr_con (evA_ok ht hs)
        refine ⟨.slice (some ⟨l.block, l.shift + (o + ll * j.size), none⟩) _ _, .slice b _ _ _ l hl (by omega) (by omega), ?_⟩
        rw [exec_eq ho]
        simp only [execOp, Instr.sliceAt, he, und_run hE hu, Sem.run_bind, Result.andThen_ok, Option.map_none, bounds w ht, hjo.sizeOf, Sem.run_pure, sure_addr]
        rw [if_neg hne]
        simp [add_flat, Nat.add_assoc]
    · exact absurd h3.symm hr
  · exact absurd h3.symm hr
end quiet
end Go.Ex
