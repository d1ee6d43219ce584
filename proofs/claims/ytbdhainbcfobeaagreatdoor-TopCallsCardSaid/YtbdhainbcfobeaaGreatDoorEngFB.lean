/-
  THE ENGINE, part FB: the same, for the kernel: every step a call in the last place (answers yes or no); frames as functions; what is known of the code made ready first.
-/
import Derived.Test.YtbdhainbcfobeaaGreatDoorEngB
namespace Go.Proofs.YtbdhainbcfobeaaGreatDoor
namespace Eng
open Go
inductive Ans where | no | yes
/-- what was made ready -/
inductive Bx (α : Type) where | mk (f : α)
noncomputable section
abbrev Bl := Tr Blk
abbrev Dfr := List (FuncId × List AV)
abbrev KV := AV → Ans
abbrev KH := AV → Bl → Nat → Ans
abbrev KD := AV → Bl → Nat → Dfr → Ans
def runB {α : Type} (b : Bx α) : α := Bx.rec (motive := fun _ => α) (fun f => f) b
def bindB {α β : Type} (b : Bx α) (k : α → Bx β) : Bx β := Bx.rec (motive := fun _ => Bx β) k b
/-- a mark that ends one stretch of plain replacing -/
def tk (x : Ans) : Ans := x

/-! ### frames -/
abbrev Nd (α : Type) := (α → α → α → α → α → α → α → α → Ans) → Ans
abbrev L0 := (AV → Ans) → Ans
abbrev Fr := Nd (Nd (Nd L0))
inductive D8 where | d0 | d1 | d2 | d3 | d4 | d5 | d6 | d7
  deriving DecidableEq
def dg8 (n : Nat) : D8 := match n with | 0 => .d0 | 1 => .d1 | 2 => .d2 | 3 => .d3 | 4 => .d4 | 5 => .d5 | 6 => .d6 | _ => .d7
def getN {α : Type} (d : D8) : Bx (Nd α → (α → Ans) → Ans) := match d with
  | .d0 => .mk fun t k => t fun a _ _ _ _ _ _ _ => k a
  | .d1 => .mk fun t k => t fun _ a _ _ _ _ _ _ => k a
  | .d2 => .mk fun t k => t fun _ _ a _ _ _ _ _ => k a
  | .d3 => .mk fun t k => t fun _ _ _ a _ _ _ _ => k a
  | .d4 => .mk fun t k => t fun _ _ _ _ a _ _ _ => k a
  | .d5 => .mk fun t k => t fun _ _ _ _ _ a _ _ => k a
  | .d6 => .mk fun t k => t fun _ _ _ _ _ _ a _ => k a
  | .d7 => .mk fun t k => t fun _ _ _ _ _ _ _ a => k a
abbrev ModT (α : Type) := Nd α → (α → (α → Ans) → Ans) → (Nd α → Ans) → Ans
def modN {α : Type} (d : D8) : Bx (ModT α) := match d with
  | .d0 => .mk fun t f k => t fun a b c d e g h i => f a fun a => k fun q => q a b c d e g h i
  | .d1 => .mk fun t f k => t fun a b c d e g h i => f b fun b => k fun q => q a b c d e g h i
  | .d2 => .mk fun t f k => t fun a b c d e g h i => f c fun c => k fun q => q a b c d e g h i
  | .d3 => .mk fun t f k => t fun a b c d e g h i => f d fun d => k fun q => q a b c d e g h i
  | .d4 => .mk fun t f k => t fun a b c d e g h i => f e fun e => k fun q => q a b c d e g h i
  | .d5 => .mk fun t f k => t fun a b c d e g h i => f g fun g => k fun q => q a b c d e g h i
  | .d6 => .mk fun t f k => t fun a b c d e g h i => f h fun h => k fun q => q a b c d e g h i
  | .d7 => .mk fun t f k => t fun a b c d e g h i => f i fun i => k fun q => q a b c d e g h i
abbrev GetT := Fr → KV → Ans
abbrev SetT := AV → Fr → (Fr → Ans) → Ans
def noG : GetT := fun _ _ => .no
def noS : SetT := fun _ _ _ => .no
def tmpG (t : Nat) : Bx GetT := Bool.rec (motive := fun _ => Bx GetT) (.mk noG)
  (bindB (getN (dg8 (Nat.div t 64))) fun gi => bindB (getN (dg8 (Nat.mod (Nat.div t 8) 8))) fun gj => bindB (getN (dg8 (Nat.mod t 8))) fun gl =>
    .mk fun T k => gi T fun A => gj A fun B => gl B fun c => c k) (Nat.blt t 512)
def tmpS (t : Nat) : Bx SetT := Bool.rec (motive := fun _ => Bx SetT) (.mk noS)
  (bindB (modN (dg8 (Nat.div t 64))) fun mi => bindB (modN (dg8 (Nat.mod (Nat.div t 8) 8))) fun mj => bindB (modN (dg8 (Nat.mod t 8))) fun ml =>
    .mk fun v T k => mi T (fun A => mj A (fun B => ml B fun _ p => p fun q => q v)) k) (Nat.blt t 512)
def lf0 : L0 := fun _ => .no
def fr0 : Fr := fun k => (fun a => k a a a a a a a a) (fun k => (fun a => k a a a a a a a a) (fun k => k lf0 lf0 lf0 lf0 lf0 lf0 lf0 lf0))

/-! ### forcing -/
def fN' {β : Type} (n : Nat) (k : Nat → β) : β := Nat.rec (motive := fun _ => β) (k 0) (fun m _ => k m) (Nat.succ n)
def fB' {β : Type} (b : Bool) (k : Bool → β) : β := Bool.rec (motive := fun _ => β) (k false) (k true) b
def fI' {β : Type} (n : Int) (k : Int → β) : β := Int.rec (motive := fun _ => β) (fun m => fN' m fun m => k (.ofNat m)) (fun m => fN' m fun m => k (.negSucc m)) n
/-- a value's head and numbers, ready -/
def fV {β : Type} (v : AV) : (AV → β) → β := match v with
  | .bool b => fun k => fB' b fun b => k (.bool b)
  | .int j n => fun k => fI' n fun n => k (.int j n)
  | .str l x => fun k => fN' l fun l => fN' x fun x => k (.str l x)
  | v => fun k => k v
def fVL {β : Type} (l : List AV) : (List AV → β) → β := List.rec (motive := fun _ => (List AV → β) → β) (fun k => k []) (fun v _ ih k => fV v fun v => ih fun r => k (v :: r)) l
def fVA {β : Type} (v : AV) : (AV → β) → β := match v with
  | .agg l => fun k => fVL l fun l => k (.agg l)
  | .tup l => fun k => fVL l fun l => k (.tup l)
  | v => fun k => fV v k

/-! ### tries -/
def pathT (f : Nat) : Nat → List Bool := Nat.rec (motive := fun _ => Nat → List Bool) (fun n => bits n)
  (fun _ ih n => Bool.rec (motive := fun _ => List Bool) (fN' (Nat.div (Nat.pred n) 2) fun m => fB' (Nat.beq (Nat.mod n 2) 0) fun b => b :: ih m) [] (Nat.beq n 0)) f
def path (n : Nat) : List Bool := pathT 20 n
def getK {α : Type} (p : List Bool) : Tr α → (α → Ans) → Ans :=
  List.rec (motive := fun _ => Tr α → (α → Ans) → Ans)
    (fun t k => Tr.rec (motive := fun _ => Ans) .no (fun v _ _ _ _ => Option.rec (motive := fun _ => Ans) .no k v) t)
    (fun b _ ih t k => Tr.rec (motive := fun _ => Ans) .no (fun _ l r _ _ => Bool.rec (motive := fun _ => Ans) (ih r k) (ih l k) b) t) p
def setF {α : Type} (p : List Bool) : Option α → Tr α → (Tr α → Ans) → Ans :=
  List.rec (motive := fun _ => Option α → Tr α → (Tr α → Ans) → Ans)
    (fun w t k => Tr.rec (motive := fun _ => Ans) (k (.nd w .lf .lf)) (fun _ l r _ _ => k (.nd w l r)) t)
    (fun b _ ih w t k => Tr.rec (motive := fun _ => Ans)
      (Bool.rec (motive := fun _ => Ans) (ih w .lf fun r => k (.nd none .lf r)) (ih w .lf fun l => k (.nd none l .lf)) b)
      (fun v l r _ _ => Bool.rec (motive := fun _ => Ans) (ih w r fun r => k (.nd v l r)) (ih w l fun l => k (.nd v l r)) b) t) p
def optK {α : Type} (o : Option α) (k : α → Ans) : Ans := Option.rec (motive := fun _ => Ans) .no k o
def optB {α β : Type} (o : Option α) (d : β) (k : α → Bx β) : Bx β := Option.rec (motive := fun _ => Bx β) (.mk d) k o
def ifK (b : Bool) (x y : Ans) : Ans := Bool.rec (motive := fun _ => Ans) y x b
def ifB {β : Type} (b : Bool) (x y : Bx β) : Bx β := Bool.rec (motive := fun _ => Bx β) y x b

/-! ### operands -/
def opnd (x : Operand) : Bx GetT := match x with
  | .tmp t => tmpG t
  | .const v => optB (aConst v) noG fun a => fVA a fun a => .mk fun _ k => k a
  | .global g => .mk fun _ k => k (.ptr g 0)
  | .func f => .mk fun _ k => k (.fn f [])
abbrev LstT := Fr → (List AV → Ans) → Ans
def opndL (l : List Operand) : Bx LstT := List.rec (motive := fun _ => Bx LstT) (.mk fun _ k => k []) (fun x _ ih => bindB (opnd x) fun g => bindB ih fun gl => .mk fun T k => g T fun v => gl T fun r => k (v :: r)) l

/-! ### looks at values -/
def ptrK (v : AV) : (Nat → Nat → Ans) → Ans := match v with | .ptr b i => fun k => k b i | _ => fun _ => .no
def boolK (v : AV) : (Bool → Ans) → Ans := match v with | .bool b => fun k => k b | _ => fun _ => .no
def intK (v : AV) : (IntKind → Int → Ans) → Ans := match v with | .int j n => fun k => k j n | _ => fun _ => .no
def strK (v : AV) : (Nat → Nat → Ans) → Ans := match v with | .str l x => fun k => k l x | _ => fun _ => .no
def natK (i : Int) (k : Nat → Ans) : Ans := Int.rec (motive := fun _ => Ans) k (fun _ => .no) i
def aggK (v : AV) : (List AV → Ans) → Ans := match v with | .agg l => fun k => k l | _ => fun _ => .no
def tupK (v : AV) : (List AV → Ans) → Ans := match v with | .tup l => fun k => k l | _ => fun _ => .no
def ifcK (v : AV) : (TypeId → AV → Ans) → Ans := match v with | .ifc t v => fun k => k t v | _ => fun _ => .no
def mapK (v : AV) : (Nat → Ans) → Ans := match v with | .map b => fun k => k b | _ => fun _ => .no
def fnK (v : AV) : (FuncId → List AV → Ans) → Ans := match v with | .fn f l => fun k => k f l | _ => fun _ => .no
def cellsK (B : Blk) : (Tr AV → Nat → Bool → Bool → Ans) → Ans := match B with | .cells t n tl ro => fun k => k t n tl ro | .mp _ => fun _ => .no
def mpK (B : Blk) : (List (AV × AV) → Ans) → Ans := match B with | .cells _ _ _ _ => fun _ => .no | .mp es => fun k => k es
def orV (r : OR) : KV → Ans := match r with | .val v _ => fun k => k v | _ => fun _ => .no
def orK (r : OR) (B : Bl) (n : Nat) (k : KH) : Ans := orV r fun v => k v B n
def cellsOf (v : AV) : (List AV → Ans) → Ans := match v with | .agg l => fun k => k l | v => fun k => k [v]
def scalK (v : AV) : Ans → Ans := match v with
  | .agg _ => fun _ => .no
  | .tup _ => fun _ => .no
  | _ => fun k => k
def H00 : Heap := ⟨.lf, 0⟩

/-! ### lists -/
def lenK (l : List AV) : Nat → (Nat → Ans) → Ans := List.rec (motive := fun _ => Nat → (Nat → Ans) → Ans) (fun n k => k n) (fun _ _ ih n k => fN' (Nat.succ n) fun n => ih n k) l
def appK (l : List AV) : List AV → (List AV → Ans) → Ans := List.rec (motive := fun _ => List AV → (List AV → Ans) → Ans) (fun m k => k m) (fun v _ ih m k => ih m fun r => k (v :: r)) l
def nthK (i : Nat) : List AV → (AV → Ans) → Ans :=
  Nat.rec (motive := fun _ => List AV → (AV → Ans) → Ans) (fun l k => List.rec (motive := fun _ => Ans) .no (fun v _ _ => k v) l) (fun _ ih l k => List.rec (motive := fun _ => Ans) .no (fun _ l _ => ih l k) l) i
def dropK (i : Nat) : List AV → (List AV → Ans) → Ans :=
  Nat.rec (motive := fun _ => List AV → (List AV → Ans) → Ans) (fun l k => k l) (fun _ ih l k => List.rec (motive := fun _ => Ans) (k []) (fun _ l _ => ih l k) l) i
def takeLK (i : Nat) : List AV → (List AV → Ans) → Ans :=
  Nat.rec (motive := fun _ => List AV → (List AV → Ans) → Ans) (fun _ k => k []) (fun _ ih l k => List.rec (motive := fun _ => Ans) (k []) (fun v l _ => ih l fun r => k (v :: r)) l) i
/-- puts a row in a list's place -/
def putHd (vs : List AV) : List AV → (List AV → Ans) → Ans :=
  List.rec (motive := fun _ => List AV → (List AV → Ans) → Ans) (fun l k => k l) (fun v _ ih l k => List.rec (motive := fun _ => Ans) .no (fun _ l _ => ih l fun r => k (v :: r)) l) vs
def putLK (vs : List AV) (i : Nat) : List AV → (List AV → Ans) → Ans :=
  Nat.rec (motive := fun _ => List AV → (List AV → Ans) → Ans) (fun l k => putHd vs l k) (fun _ ih l k => List.rec (motive := fun _ => Ans) .no (fun x l _ => ih l fun r => k (x :: r)) l) i

/-! ### memory -/
def blkK (B : Bl) (b : Nat) (k : Blk → Ans) : Ans := getK (path b) B k
def takeK (n : Nat) : Tr AV → Nat → (List AV → Ans) → Ans :=
  Nat.rec (motive := fun _ => Tr AV → Nat → (List AV → Ans) → Ans) (fun _ _ k => k []) (fun _ ih t i k => getK (path i) t fun v => fN' (Nat.succ i) fun i => ih t i fun l => k (v :: l)) n
def putK (l : List AV) : Tr AV → Nat → (Tr AV → Ans) → Ans :=
  List.rec (motive := fun _ => Tr AV → Nat → (Tr AV → Ans) → Ans) (fun t _ k => k t)
    (fun v _ ih t i k => getK (path i) t fun _ => scalK v (setF (path i) (some v) t fun t => fN' (Nat.succ i) fun i => ih t i k)) l
def layK (l : List AV) : Tr AV → Nat → (Tr AV → Ans) → Ans :=
  List.rec (motive := fun _ => Tr AV → Nat → (Tr AV → Ans) → Ans) (fun t _ k => k t) (fun v _ ih t i k => setF (path i) (some v) t fun t => fN' (Nat.succ i) fun i => ih t i k) l
def pushK (K : Blk) (B : Bl) (n : Nat) (k : Nat → Bl → Nat → Ans) : Ans := setF (path n) (some K) B fun B => fN' (Nat.succ n) fun m => k n B m
def setBK (K : Blk) (b : Nat) (B : Bl) (k : Bl → Ans) : Ans := setF (path b) (some K) B k
abbrev Val1 := AV → Bl → Nat → KH → Ans
abbrev Val2 := AV → AV → Bl → Nat → KH → Ans
abbrev Pur1 := AV → KV → Ans
abbrev Pur2 := AV → AV → KV → Ans
def no1 : Val1 := fun _ _ _ _ => .no
def no2 : Val2 := fun _ _ _ _ _ => .no
def noP1 : Pur1 := fun _ _ => .no
def noP2 : Pur2 := fun _ _ _ => .no
def loadC (p : Option Plc) : Bx Val1 := optB p no1 fun p => Plc.rec (motive := fun _ => Bx Val1) (fun _ g z => fN' z fun z => Bool.rec (motive := fun _ => Bx Val1)
  (.mk fun v B n k => ptrK v fun b i => blkK B b fun K => cellsK K fun t _ _ _ => getK (path i) t fun v => k v B n)
  (.mk fun v B n k => ptrK v fun b i => blkK B b fun K => cellsK K fun t _ _ _ => takeK z t i fun l => k (.agg l) B n) g) p
def storeC (z : Option Nat) : Bx Val2 := optB z no2 fun z => fN' z fun z => .mk fun a v B n k => ptrK a fun b i => cellsOf v fun l => lenK l 0 fun m => ifK (Nat.beq m z)
  (blkK B b fun K => cellsK K fun t sz tl ro => ifK ro .no (putK l t i fun t => setBK (.cells t sz tl false) b B fun B => k undefA B n)) .no
def newK (v : AV) (B : Bl) (n : Nat) (k : KH) : Ans := cellsOf v fun l => layK l .lf 0 fun t => lenK l 0 fun m => pushK (.cells t m false false) B n fun b B n => k (.ptr b 0) B n
def addrC (p : Option Plc) : Bx Pur1 := optB p noP1 fun p => Plc.rec (motive := fun _ => Bx Pur1) (fun off _ sz => ifB (Nat.beq sz 0) (.mk noP1) (fN' off fun off => .mk fun v k => ptrK v fun b i => fN' (Nat.add i off) fun j => k (.ptr b j))) p
def idxK (v : AV) (n : Nat) (k : Nat → Ans) : Ans := intK v fun _ i => natK i fun i => ifK (Nat.ble (Nat.succ i) n) (k i) .no
def idxRow (v : AV) : (Nat → Nat → Nat → Ans) → Ans := match v with
  | .sl b o n _ => fun k => k b o n
  | .so b o n _ => fun k => k b o n
  | _ => fun _ => .no
def indexAddrC (P : Program) (d : Option TypeDesc) : Bx Pur2 := match d with
  | some (.array n e) => optB (szOf P e) noP2 fun z => fN' z fun z => .mk fun x i k => ptrK x fun b o => idxK i n fun j => fN' (Nat.add o (Nat.mul j z)) fun j => k (.ptr b j)
  | some (.slice e) => optB (szOf P e) noP2 fun z => fN' z fun z => .mk fun x i k => idxRow x fun b o n => idxK i n fun j => fN' (Nat.add o (Nat.mul j z)) fun j => k (.ptr b j)
  | _ => .mk noP2
/-! ### numbers -/
def okI (j : IntKind) : Int → (Ans → Ans → Ans) := match j with
  | .i64 => fun n x y => Int.rec (motive := fun _ => Ans) (fun m => ifK (Nat.ble m 9223372036854775807) x y) (fun m => ifK (Nat.ble m 9223372036854775807) x y) n
  | .u64 => fun n x y => Int.rec (motive := fun _ => Ans) (fun m => ifK (Nat.ble m 18446744073709551615) x y) (fun _ => y) n
  | .u8 => fun n x y => Int.rec (motive := fun _ => Ans) (fun m => ifK (Nat.ble m 255) x y) (fun _ => y) n
  | .u32 => fun n x y => Int.rec (motive := fun _ => Ans) (fun m => ifK (Nat.ble m 4294967295) x y) (fun _ => y) n
  | j => fun n x y => ifK (inK j n) x y
def wrapK (j : IntKind) (n : Int) (k : KV) : Ans := fI' n fun n => okI j n (k (.int j n)) (fI' (j.wrap n) fun n => k (.int j n))
def addK (a b : Int) (k : Int → Ans) : Ans := Int.rec (motive := fun _ => Ans)
  (fun m => Int.rec (motive := fun _ => Ans) (fun n => fN' (Nat.add m n) fun s => k (.ofNat s)) (fun n => fI' (subN m (Nat.succ n)) k) b)
  (fun m => Int.rec (motive := fun _ => Ans) (fun n => fI' (subN n (Nat.succ m)) k) (fun n => fN' (Nat.succ (Nat.add m n)) fun s => k (.negSucc s)) b) a
def negK (a : Int) (k : Int → Ans) : Ans := Int.rec (motive := fun _ => Ans) (fun m => Nat.rec (motive := fun _ => Ans) (k (.ofNat 0)) (fun m _ => k (.negSucc m)) m) (fun m => fN' (Nat.succ m) fun m => k (.ofNat m)) a
def ieqK (a b : Int) (k : Bool → Ans) : Ans := Int.rec (motive := fun _ => Ans)
  (fun m => Int.rec (motive := fun _ => Ans) (fun n => fB' (Nat.beq m n) k) (fun _ => k false) b)
  (fun m => Int.rec (motive := fun _ => Ans) (fun _ => k false) (fun n => fB' (Nat.beq m n) k) b) a
def iltK (a b : Int) (k : Bool → Ans) : Ans := Int.rec (motive := fun _ => Ans)
  (fun m => Int.rec (motive := fun _ => Ans) (fun n => fB' (Nat.ble (Nat.succ m) n) k) (fun _ => k false) b)
  (fun m => Int.rec (motive := fun _ => Ans) (fun _ => k true) (fun n => fB' (Nat.ble (Nat.succ n) m) k) b) a
def ileK (a b : Int) (k : Bool → Ans) : Ans := Int.rec (motive := fun _ => Ans)
  (fun m => Int.rec (motive := fun _ => Ans) (fun n => fB' (Nat.ble m n) k) (fun _ => k false) b)
  (fun m => Int.rec (motive := fun _ => Ans) (fun _ => k true) (fun n => fB' (Nat.ble n m) k) b) a
def notK (b : Bool) (k : Bool → Ans) : Ans := Bool.rec (motive := fun _ => Ans) (k true) (k false) b
abbrev IntT := IntKind → Int → Int → KV → Ans
def intOpC (op : BinOp) : Bx IntT := match op with
  | .add => .mk fun j a b k => addK a b fun n => wrapK j n k
  | .sub => .mk fun j a b k => negK b fun b => addK a b fun n => wrapK j n k
  | .eql => .mk fun _ a b k => ieqK a b fun c => k (.bool c)
  | .neq => .mk fun _ a b k => ieqK a b fun c => notK c fun c => k (.bool c)
  | .lss => .mk fun _ a b k => iltK a b fun c => k (.bool c)
  | .leq => .mk fun _ a b k => ileK a b fun c => k (.bool c)
  | .gtr => .mk fun _ a b k => iltK b a fun c => k (.bool c)
  | .geq => .mk fun _ a b k => ileK b a fun c => k (.bool c)
  | .shl => .mk fun j a b k => orV (shiftOp .shl j a b H00) k
  | .shr => .mk fun j a b k => orV (shiftOp .shr j a b H00) k
  | op => .mk fun j a b k => orV (intOp op j a b H00) k
def isShift (op : BinOp) : Bool := match op with | .shl => true | .shr => true | _ => false
def kindK (j i : IntKind) (x : Ans) : Ans := ifK (decide (j = i)) x .no
abbrev Tx := Nat → Nat → Nat → Nat → KV → Ans
def strEqK (l x m y : Nat) (k : Bool → Ans) : Ans := Bool.rec (motive := fun _ => Ans) (k false) (fB' (Nat.beq (Nat.mod x (Nat.pow 256 l)) (Nat.mod y (Nat.pow 256 l))) k) (Nat.beq l m)
def strOpC (op : BinOp) : Bx Tx := match op with
  | .eql => .mk fun l x m y k => strEqK l x m y fun c => k (.bool c)
  | .neq => .mk fun l x m y k => strEqK l x m y fun c => notK c fun c => k (.bool c)
  | op => .mk fun l x m y k => orV (strOp op l x m y H00) k
def cstOp (y : Operand) : Operand := match y with | .const v => .const v | _ => .tmp 1
def T2 (u v : AV) : Tm := .nd (some u) .lf (.nd (some v) .lf .lf)
def binV (u : AV) : Program → BinOp → TypeId → Operand → IntT → Bool → Tx → AV → KV → Ans := match u with
  | .int j a => fun _ _ _ _ fi sh _ v k => intK v fun i b => ifK sh (fi j a b k) (kindK j i (fi j a b k))
  | .str l x => fun _ _ _ _ _ _ ft v k => strK v fun m y => ft l x m y k
  | u => fun P op t y _ _ _ v k => orV (oBin P op t (.tmp 0) (cstOp y) (T2 u v) H00) k
def binC (P : Program) (op : BinOp) (t : TypeId) (y : Operand) : Bx Pur2 := bindB (intOpC op) fun fi => bindB (strOpC op) fun ft => ifB (isShift op)
  (.mk fun u v k => binV u P op t y fi true ft v k) (.mk fun u v k => binV u P op t y fi false ft v k)
def unC (op : UnOp) : Bx Pur1 := match op with
  | .not => .mk fun v k => boolK v fun b => notK b fun c => k (.bool c)
  | .neg => .mk fun v k => intK v fun j n => negK n fun n => wrapK j n k
  | _ => .mk noP1
/-! ### parts -/
def partC (p : Option Plc) : Bx Pur1 := optB p noP1 fun p => Plc.rec (motive := fun _ => Bx Pur1) (fun o g z => fN' o fun o => fN' z fun z => Bool.rec (motive := fun _ => Bx Pur1)
  (.mk fun v k => aggK v fun l => nthK o l k) (.mk fun v k => aggK v fun l => dropK o l fun l => takeLK z l fun l => k (.agg l)) g) p
def indexC (P : Program) (d : Option TypeDesc) : Bx Pur2 := match d with
  | some (.array n e) => optB (plcOf P e 0) noP2 fun p => Plc.rec (motive := fun _ => Bx Pur2) (fun _ g z => fN' z fun z => Bool.rec (motive := fun _ => Bx Pur2)
      (.mk fun x i k => aggK x fun l => idxK i n fun j => fN' (Nat.mul j z) fun o => nthK o l k)
      (.mk fun x i k => aggK x fun l => idxK i n fun j => fN' (Nat.mul j z) fun o => dropK o l fun l => takeLK z l fun l => k (.agg l)) g) p
  | some .string => .mk fun x i k => strK x fun n s => idxK i n fun j => fN' (byteAt s j) fun c => k (.int .u8 (.ofNat c))
  | _ => .mk noP2
def nilC : Pur1 := fun v => (match v with
  | .ptr b i => fun k => k (.ptr b i)
  | .fn f c => fun k => k (.fn f c)
  | .map b => fun k => k (.map b)
  | _ => fun _ => .no)
def ifaceC (d : Option TypeDesc) (t : TypeId) : Bx Pur1 := match d with
  | some (.interface _) => .mk noP1
  | some _ => .mk fun v k => k (.ifc t v)
  | none => .mk noP1
/-! ### builds -/
abbrev FillT := Fr → List AV → (List AV → Ans) → Ans
def fillNo : FillT := fun _ _ _ => .no
def fillC (plc : Nat → Option (Nat × Nat)) (l : List (Nat × Operand)) : Bx FillT := List.rec (motive := fun _ => Bx FillT) (.mk fun _ l k => k l)
  (fun p _ ih => Prod.rec (motive := fun _ => Bx FillT) (fun i x => optB (plc i) fillNo fun q => Prod.rec (motive := fun _ => Bx FillT) (fun off sz => fN' off fun off => fN' sz fun sz => bindB (opnd x) fun g => bindB ih fun f =>
    ifB (Nat.blt 0 sz) (.mk fun T l k => g T fun v => cellsOf v fun vs => lenK vs 0 fun m => ifK (Nat.beq m sz) (putLK vs off l fun l => f T l k) .no) (.mk fillNo)) q) p) l
abbrev FrV := Fr → Bl → Nat → KH → Ans
def noFrV : FrV := fun _ _ _ _ => .no
def buildC1 (z : List AV) (f : Bx FillT) : Bx FrV := bindB f fun f => fVL z fun z => .mk fun T B n k => f T z fun l => k (.agg l) B n
def buildC (P : Program) (t : TypeId) (parts : List (Nat × Operand)) (d : Option TypeDesc) : Bx FrV := match d with
  | some (.struct fs) => optB (zeroOf P t) noFrV fun z => ifB (fs.toList.all (fun f => (szOf P f.type).isSome)) (buildC1 z.cells (fillC (structPlc P t) parts)) (.mk noFrV)
  | some (.array _ e) => optB (zeroOf P t) noFrV fun z => optB (szOf P e) noFrV fun n => buildC1 z.cells (fillC (rowPlc n) parts)
  | _ => .mk noFrV
def buildSliceC (P : Program) (t : TypeId) (len : Nat) (parts : List (Nat × Operand)) : Bx FrV := optB (elemI P t) noFrV fun E => ifB (Nat.blt (Nat.mul len E.z) 10000)
  (bindB (fillC (rowPlc E.z) parts) fun f => fVL (repL len E.zero.cells) fun l => fN' (Nat.mul len E.z) fun m =>
    .mk fun T B n k => f T l fun l => layK l .lf 0 fun t => pushK (.cells t m false false) B n fun b B n => k (.sl b 0 len len) B n) (.mk noFrV)
/-! ### slices -/
def natV (v : AV) (k : Nat → Ans) : Ans := intK v fun _ i => natK i k
abbrev BndT := Fr → Nat → (Nat → Ans) → Ans
def boundC (x : Option Operand) : Bx BndT := match x with
  | none => .mk fun _ d k => k d
  | some x => bindB (opnd x) fun g => .mk fun T _ k => g T fun v => natV v k
abbrev Bnd3T := Fr → Nat → Nat → (Nat → Nat → Nat → Ans) → Ans
def bnd3C (lo hi mx : Option Operand) : Bx Bnd3T := bindB (boundC lo) fun fl => bindB (boundC hi) fun fh => bindB (boundC mx) fun fm => ifB (match hi, mx with | none, some _ => false | _, _ => true)
  (.mk fun T len cap k => fl T 0 fun l => fh T len fun h => fm T cap fun m => ifK (Nat.ble l h) (ifK (Nat.ble h m) (ifK (Nat.ble m cap) (k l h m) .no) .no) .no) (.mk fun _ _ _ _ => .no)
def rowK (b o z l h m : Nat) (k : KV) : Ans := fN' (Bool.rec (motive := fun _ => Nat) (Nat.add o (Nat.mul l z)) o (Nat.beq m l)) fun o => fN' (Nat.sub h l) fun n => fN' (Nat.sub m l) fun c => k (.sl b o n c)
def openK (b o z kn l h : Nat) (k : KV) : Ans := ifK (Nat.blt l kn) (fN' (Nat.add o (Nat.mul l z)) fun o => fN' (Nat.sub h l) fun n => k (.so b o n z)) (fN' (Nat.add o (Nat.mul l z)) fun p => k (.se b p o z))
def knownK (B : Bl) (b o es : Nat) (k : Nat → Ans) : Ans := blkK B b fun K => cellsK K fun _ n _ _ => ifK (Nat.ble o n) (ifK (Nat.blt 0 es) (fN' (Nat.div (Nat.sub n o) es) k) .no) .no
abbrev SlT := Fr → AV → Bl → (AV → Ans) → Ans
def noSl : SlT := fun _ _ _ _ => .no
def sliceV (v : AV) : Nat → Bnd3T → Bool → Fr → Bl → KV → Ans := match v with
  | .nils => fun _ f _ T _ k => f T 0 0 fun _ _ _ => k .nils
  | .sl b o n c => fun z f _ T _ k => f T n c fun l h m => rowK b o z l h m k
  | .so b o n es => fun z f mx T B k => ifK (Nat.beq z es) (knownK B b o es fun kn => f T n kn fun l h m => ifK mx (rowK b o z l h m k) (openK b o z kn l h k)) .no
  | _ => fun _ _ _ _ _ _ => .no
def sliceC (P : Program) (lo hi mx : Option Operand) (d : Option TypeDesc) : Bx SlT := match d with
  | some .string => ifB mx.isSome (.mk noSl) (bindB (bnd3C lo hi none) fun f => .mk fun T v _ k => strK v fun n s => f T n n fun l h _ => fN' (Nat.sub h l) fun m => fN' (Nat.mod (Nat.shiftRight s (Nat.mul 8 l)) (Nat.pow 256 m)) fun z => k (.str m z))
  | some (.slice e) => optB (szOf P e) noSl fun z => fN' z fun z => bindB (bnd3C lo hi mx) fun f => ifB mx.isSome (.mk fun T v B k => sliceV v z f true T B k) (.mk fun T v B k => sliceV v z f false T B k)
  | some (.array n e) => optB (szOf P e) noSl fun z => fN' z fun z => bindB (bnd3C lo hi mx) fun f => .mk fun T v _ k => ptrK v fun b o => f T n n fun l h m => rowK b o z l h m k
  | _ => .mk noSl
def strCellsK (n : Nat) : Nat → (List AV → Ans) → Ans := Nat.rec (motive := fun _ => Nat → (List AV → Ans) → Ans) (fun _ k => k []) (fun _ ih x k => fN' (Nat.mod x 256) fun c => fN' (Nat.div x 256) fun y => ih y fun l => k (.int .u8 (.ofNat c) :: l)) n
abbrev KE2 := Nat → List AV → Ans
def elemsK (v : AV) : Nat → Bl → KE2 → Ans := match v with
  | .nils => fun _ _ k => k 0 []
  | .se _ _ _ _ => fun _ _ k => k 0 []
  | .str n x => fun es _ k => ifK (Nat.beq es 1) (strCellsK n x fun l => k n l) .no
  | .sl b o n _ => fun es B k => blkK B b fun K => cellsK K fun t _ _ _ => fN' (Nat.mul n es) fun m => takeK m t o fun l => k n l
  | .so b o n z => fun es B k => ifK (Nat.beq z es) (blkK B b fun K => cellsK K fun t _ _ _ => fN' (Nat.mul n es) fun m => takeK m t o fun l => k n l) .no
  | _ => fun _ _ _ => .no
def newOpenK (n es : Nat) (l : List AV) (B : Bl) (x : Nat) (k : KH) : Ans := ifK (Nat.blt n 1000000) (layK l .lf 0 fun t => fN' (Nat.mul n es) fun z => pushK (.cells t z true false) B x fun b B x => k (.so b 0 n es) B x) .no
def scalLK (l : List AV) (x : Ans) : Ans := List.rec (motive := fun _ => Ans) x (fun v _ ih => scalK v ih) l
def goneK (b : Nat) (B : Bl) (k : Bl → Ans) : Ans := setF (path b) (some (.cells .lf 0 false false)) B k
def appendK (s : AV) : Nat → Nat → List AV → Bl → Nat → KH → Ans := match s with
  | .nils => fun es m l B x k => ifK (Nat.beq m 0) (k .nils B x) (newOpenK m es l B x k)
  | .sl b o n c => fun es m l B x k => fN' (Nat.add n m) fun nm => blkK B b fun K => cellsK K fun t z tl ro => ifK (Nat.ble nm c)
      (ifK ro .no (fN' (Nat.add o (Nat.mul n es)) fun j => putK l t j fun t => setBK (.cells t z tl false) b B fun B => k (.sl b o nm c) B x))
      (fN' (Nat.mul n es) fun w => takeK w t o fun old => appK old l fun l => newOpenK nm es l B x k)
  | .so b o n z => fun es m l B x k => ifK (Nat.beq z es) (fN' (Nat.add n m) fun nm => fN' (Nat.add o (Nat.mul n es)) fun j => blkK B b fun K => cellsK K fun t sz tl ro => ifK ro .no
      (ifK (Nat.ble (Nat.add o (Nat.mul nm es)) sz) (putK l t j fun t => setBK (.cells t sz tl false) b B fun B => k (.so b o nm es) B x)
        (ifK tl (ifK (Nat.ble j sz) (scalLK l (ifK (Nat.blt nm 1000000)
          (ifK (Nat.beq o 0)
            (goneK b B fun B => fN' (Nat.mul n es) fun w => layK l t w fun t => fN' (Nat.mul nm es) fun sz => pushK (.cells t sz true false) B x fun b B x => k (.so b 0 nm es) B x)
            (fN' (Nat.mul n es) fun w => takeK w t o fun old => goneK b B fun B => appK old l fun l => newOpenK nm es l B x k)) .no)) .no) .no))) .no
  | .se b _ _ z => fun es m l B x k => ifK (Nat.beq z es) (ifK (Nat.beq m 0) .no (scalLK l (blkK B b fun K => cellsK K fun _ _ tl ro => ifK tl (ifK ro .no (goneK b B fun B => newOpenK m es l B x k)) .no))) .no
  | _ => fun _ _ _ _ _ _ => .no
abbrev BltT := List AV → Bl → Nat → KH → Ans
def noBlt : BltT := fun _ _ _ _ => .no
def oneK (l : List AV) (k : AV → Ans) : Ans := List.rec (motive := fun _ => Ans) .no (fun v r _ => List.rec (motive := fun _ => Ans) (k v) (fun _ _ _ => .no) r) l
def twoK (l : List AV) (k : AV → AV → Ans) : Ans := List.rec (motive := fun _ => Ans) .no (fun v r _ => oneK r fun w => k v w) l
def appendC1 (E : EI) : Bx BltT := fN' E.z fun z => .mk fun xs B n k => twoK xs fun s x => elemsK x z B fun m l => ifK (Nat.blt m 1000000) (appendK s z m l B n k) .no
def appendC (P : Program) (ts : List TypeId) : Bx BltT := match ts with
  | [t, u] => optB (elemI P t) noBlt fun E => (match P.underlying u with
    | some (.slice _) => appendC1 E
    | some .string => appendC1 E
    | _ => .mk noBlt)
  | _ => .mk noBlt
def minK (m n : Nat) (k : Nat → Ans) : Ans := Bool.rec (motive := fun _ => Ans) (k n) (k m) (Nat.ble m n)
def copyK (b o n es m : Nat) (l : List AV) (B : Bl) (x : Nat) (k : KH) : Ans := blkK B b fun K => cellsK K fun t z tl ro => ifK ro .no
  (minK m n fun c => fN' (Nat.mul c es) fun w => takeLK w l fun l => putK l t o fun t => setBK (.cells t z tl false) b B fun B => k (.int .i64 (.ofNat c)) B x)
def copyV (d : AV) : Nat → Nat → List AV → Bl → Nat → KH → Ans := match d with
  | .sl b o n _ => fun es m l B x k => copyK b o n es m l B x k
  | .so b o n z => fun es m l B x k => ifK (Nat.beq z es) (copyK b o n es m l B x k) .no
  | .nils => fun _ _ _ B x k => k (.int .i64 (.ofNat 0)) B x
  | _ => fun _ _ _ _ _ _ => .no
def copyC (P : Program) (ts : List TypeId) : Bx BltT := match ts with
  | [t, _] => optB (elemI P t) noBlt fun E => fN' E.z fun z => .mk fun xs B n k => twoK xs fun d x => elemsK x z B fun m l => copyV d z m l B n k
  | _ => .mk noBlt
def lenV (d : Option TypeDesc) : Bx Val1 := match d with
  | some .string => .mk fun v B n k => strK v fun l _ => k (.int .i64 (.ofNat l)) B n
  | some (.array m _) => .mk fun _ B n k => k (.int .i64 (.ofNat m)) B n
  | some (.slice _) => .mk fun v B n k => (match v with
    | .nils => fun B n k => k (.int .i64 (.ofNat 0)) B n
    | .se _ _ _ _ => fun B n k => k (.int .i64 (.ofNat 0)) B n
    | .sl _ _ m _ => fun B n k => k (.int .i64 (.ofNat m)) B n
    | .so _ _ m _ => fun B n k => k (.int .i64 (.ofNat m)) B n
    | _ => fun _ _ _ => .no : Bl → Nat → KH → Ans) B n k
  | some (.map _ _) => .mk fun v B n k => (match v with
    | .nilm => fun B n k => k (.int .i64 (.ofNat 0)) B n
    | .map b => fun B n k => blkK B b fun K => mpK K fun es => fN' es.length fun m => k (.int .i64 (.ofNat m)) B n
    | _ => fun _ _ _ => .no : Bl → Nat → KH → Ans) B n k
  | _ => .mk no1
def lenC (P : Program) (ts : List TypeId) : Bx BltT := match ts with
  | [t] => bindB (lenV (P.underlying t)) fun f => .mk fun xs B n k => oneK xs fun v => f v B n k
  | _ => .mk noBlt
def builtC (P : Program) (b : Builtin) (ts : List TypeId) : Bx BltT := match b with
  | .append => appendC P ts
  | .copy => copyC P ts
  | .len => lenC P ts
  | .cap => .mk fun xs B n k => orK (oCap P ts xs H00) B n k
  | .min => .mk fun xs B n k => orK (oMinMax false xs H00) B n k
  | .max => .mk fun xs B n k => orK (oMinMax true xs H00) B n k
  | _ => .mk noBlt
def makeSliceC (P : Program) (t : TypeId) : Bx Val2 := optB (elemI P t) no2 fun E => fN' E.z fun z => .mk fun l c B n k => natV l fun m => natV c fun c => ifK (Nat.ble m c) (ifK (Nat.blt c 1000000)
  (layK (repL c E.zero.cells) .lf 0 fun t => fN' (Nat.mul c z) fun sz => pushK (.cells t sz false false) B n fun b B n => k (.sl b 0 m c) B n) .no) .no
/-! ### maps -/
def keyEqK (a : AV) : AV → (Bool → Ans) → Ans := match a with
  | .int j a => fun v k => intK v fun i b => kindK j i (ieqK a b k)
  | .str l x => fun v k => strK v fun m y => strEqK l x m y k
  | _ => fun _ _ => .no
abbrev FndT := List (AV × AV) → Nat → AV → (Nat → AV → Ans) → Ans → Ans
def findK (l : List (AV × AV)) : Nat → AV → (Nat → AV → Ans) → Ans → Ans :=
  List.rec (motive := fun _ => Nat → AV → (Nat → AV → Ans) → Ans → Ans) (fun _ _ _ x => x)
    (fun p _ ih i key k x => Prod.rec (motive := fun _ => Ans) (fun a v => keyEqK key a fun c => Bool.rec (motive := fun _ => Ans) (fN' (Nat.succ i) fun i => ih i key k x) (k i v) c) p) l
def setEK (i : Nat) : AV → AV → List (AV × AV) → (List (AV × AV) → Ans) → Ans :=
  Nat.rec (motive := fun _ => AV → AV → List (AV × AV) → (List (AV × AV) → Ans) → Ans)
    (fun a v l k => List.rec (motive := fun _ => Ans) (k []) (fun _ l _ => k ((a, v) :: l)) l)
    (fun _ ih a v l k => List.rec (motive := fun _ => Ans) (k []) (fun x l _ => ih a v l fun r => k (x :: r)) l) i
def addEK (l : List (AV × AV)) : AV → AV → (List (AV × AV) → Ans) → Ans :=
  List.rec (motive := fun _ => AV → AV → (List (AV × AV) → Ans) → Ans) (fun a v k => k [(a, v)]) (fun x _ ih a v k => ih a v fun r => k (x :: r)) l
/-- whether keys are of the type's kind -/
def keyT (d : Option TypeDesc) : Nat := match d with | some (.int _) => 1 | some .string => 2 | _ => 0
def keyV (c : Nat) (v : AV) (x : Ans) : Ans := Nat.rec (motive := fun _ => Ans) .no (fun c _ => Nat.rec (motive := fun _ => Ans) (intK v fun _ _ => x) (fun _ _ => strK v fun _ _ => x) c) c
def lookC (P : Program) (ok : Bool) (d : Option TypeDesc) : Bx Val2 := match d with
  | some (.map kt e) => optB (zeroOf P e) no2 fun z => fVA z fun z => fN' (keyT (P.underlying kt)) fun c => Bool.rec (motive := fun _ => Bx Val2)
      (.mk fun m x B n k => mapK m fun b => keyV c x (blkK B b fun K => mpK K fun es => findK es 0 x (fun _ v => k v B n) (k z B n)))
      (.mk fun m x B n k => mapK m fun b => keyV c x (blkK B b fun K => mpK K fun es => findK es 0 x (fun _ v => k (.tup [v, .bool true]) B n) (k (.tup [z, .bool false]) B n))) ok
  | _ => .mk no2
abbrev Val3 := AV → AV → AV → Bl → Nat → KH → Ans
def no3 : Val3 := fun _ _ _ _ _ _ => .no
def mapUpC (P : Program) (d : Option TypeDesc) : Bx Val3 := match d with
  | some (.map kt _) => fN' (keyT (P.underlying kt)) fun c => .mk fun m x v B n k => mapK m fun b => keyV c x (blkK B b fun K => mpK K fun es =>
      findK es 0 x (fun i _ => setEK i x v es fun es => setBK (.mp es) b B fun B => k undefA B n) (addEK es x v fun es => setBK (.mp es) b B fun B => k undefA B n))
  | _ => .mk no3
/-! ### the rest -/
def packK (l : List AV) : (Nat → Ans) → Ans := List.rec (motive := fun _ => (Nat → Ans) → Ans) (fun k => k 0)
  (fun v _ ih k => intK v fun j i => kindK j .u8 (natK i fun c => ifK (Nat.blt c 256) (ih fun x => fN' (Nat.add c (Nat.mul 256 x)) k) .no)) l
def convC (P : Program) (s d : Option TypeDesc) : Bx Val1 := match s, d with
  | some (.int _), some (.int j) => .mk fun v B n k => intK v fun _ i => wrapK j i fun v => k v B n
  | some .string, some .string => .mk fun v B n k => strK v fun l x => k (.str l x) B n
  | some .string, some (.slice e) => (match P.underlying e with
    | some (.int .u8) => .mk fun v B n k => strK v fun l x => strCellsK l x fun cs => newOpenK l 1 cs B n k
    | _ => .mk no1)
  | some (.slice e), some .string => (match P.underlying e with
    | some (.int .u8) => .mk fun v B n k => ifK (isStr v) .no (elemsK v 1 B fun m l => packK l fun x => k (.str m x) B n)
    | _ => .mk no1)
  | _, _ => .mk no1
def assertC (P : Program) (a : TypeId) (ok : Bool) (d : Option TypeDesc) : Bx Pur1 := match d with
  | some (.interface _) => .mk noP1
  | some _ => Bool.rec (motive := fun _ => Bx Pur1) (.mk fun v k => ifcK v fun t v => ifK (Nat.beq t a) (k v) .no)
      (optB (zeroOf P a) noP1 fun z => fVA z fun z => .mk fun v k => ifcK v fun t v => ifK (Nat.beq t a) (k (.tup [v, .bool true])) (k (.tup [z, .bool false]))) ok
  | none => .mk noP1

/-! ### operations -/
abbrev CallK := FuncId → List AV → Bl → Nat → KH → Ans
abbrev OpT := CallK → Fr → Bl → Nat → Dfr → KD → Ans
def noOp : OpT := fun _ _ _ _ _ _ => .no
def oP1 (x : Operand) (f : Bx Pur1) : Bx OpT := bindB (opnd x) fun g => bindB f fun f => .mk fun _ T B n D k => g T fun v => f v fun v => k v B n D
def oP2 (x y : Operand) (f : Bx Pur2) : Bx OpT := bindB (opnd x) fun g => bindB (opnd y) fun h => bindB f fun f => .mk fun _ T B n D k => g T fun u => h T fun v => f u v fun v => k v B n D
def oV1 (x : Operand) (f : Bx Val1) : Bx OpT := bindB (opnd x) fun g => bindB f fun f => .mk fun _ T B n D k => g T fun v => f v B n fun v B n => k v B n D
def oV2 (x y : Operand) (f : Bx Val2) : Bx OpT := bindB (opnd x) fun g => bindB (opnd y) fun h => bindB f fun f => .mk fun _ T B n D k => g T fun u => h T fun v => f u v B n fun v B n => k v B n D
def oV3 (x y z : Operand) (f : Bx Val3) : Bx OpT := bindB (opnd x) fun g => bindB (opnd y) fun h => bindB (opnd z) fun i => bindB f fun f => .mk fun _ T B n D k => g T fun u => h T fun v => i T fun w => f u v w B n fun v B n => k v B n D
def oFr (f : Bx FrV) : Bx OpT := bindB f fun f => .mk fun _ T B n D k => f T B n fun v B n => k v B n D
def callC (P : Program) (c : Call) : Bx OpT := match c with
  | ⟨c, as, ts⟩ => bindB (opndL as.toList) fun ga => (match c with
    | .builtin b => bindB (builtC P b ts.toList) fun f => .mk fun _ T B n D k => ga T fun xs => f xs B n fun v B n => k v B n D
    | .value f => bindB (opnd f) fun g => .mk fun call T B n D k => ga T fun xs => g T fun v => fnK v fun f l => appK xs l fun xs => call f xs B n fun v B n => k v B n D
    | .invoke _ _ => .mk noOp)
def deferC (c : Call) : Bx OpT := match c with
  | ⟨c, as, _⟩ => bindB (opndL as.toList) fun ga => (match c with
    | .value f => bindB (opnd f) fun g => .mk fun _ T B n D k => ga T fun xs => g T fun v => fnK v fun f l => appK xs l fun xs => k undefA B n ((f, xs) :: D)
    | _ => .mk noOp)
def makeFuncC (fn : Fn) (first : List Operand) (captured : List Operand) : Bx OpT := match fn, first with
  | .func f, [] => bindB (opndL captured) fun g => .mk fun _ T B n D k => g T fun l => k (.fn f l) B n D
  | _, _ => .mk noOp
def opC (o : Op) : Program → Bx OpT := match o with
  | .move x => fun _ => bindB (opnd x) fun g => .mk fun _ T B n D k => g T fun v => k v B n D
  | .assign x => fun _ => bindB (opnd x) fun g => .mk fun _ T B n D k => g T fun v => k v B n D
  | .pick c a b => fun _ => bindB (opnd c) fun gc => bindB (opnd a) fun ga => bindB (opnd b) fun gb => .mk fun _ T B n D k => gc T fun c => boolK c fun c => Bool.rec (motive := fun _ => Ans) (gb T fun v => k v B n D) (ga T fun v => k v B n D) c
  | .load t a => fun P => oV1 a (loadC (plcOf P t 0))
  | .store t a x => fun P => oV2 a x (storeC (szOf P t))
  | .fieldAddr t x f => fun P => oP1 x (addrC (fieldPlc P t f))
  | .indexAddr t x i => fun P => oP2 x i (indexAddrC P (P.underlying t))
  | .binOp op t x y _ => fun P => oP2 x y (binC P op t y)
  | .call c => fun P => callC P c
  | .defer c => fun _ => deferC c
  | .alloc t => fun P => optB (zeroOf P t) noOp fun v => fVA v fun v => .mk fun _ _ B n D k => newK v B n fun v B n => k v B n D
  | .box _ x => fun _ => oV1 x (.mk newK)
  | .build t ps => fun P => oFr (buildC P t ps.toList (P.underlying t))
  | .buildSlice t n ps => fun P => oFr (buildSliceC P t n ps.toList)
  | .nilCheck x => fun _ => oP1 x (.mk nilC)
  | .unOp op _ x => fun _ => oP1 x (unC op)
  | .convert s d x => fun P => oV1 x (convC P (P.underlying s) (P.underlying d))
  | .makeInterface t x => fun P => oP1 x (ifaceC (P.underlying t) t)
  | .makeFunc fn a b => fun _ => makeFuncC fn a.toList b.toList
  | .makeMap _ none => fun _ => .mk fun _ _ B n D k => pushK (.mp []) B n fun b B n => k (.map b) B n D
  | .makeSlice t l c => fun P => oV2 l c (makeSliceC P t)
  | .slice t x a b c => fun P => bindB (opnd x) fun g => bindB (sliceC P a b c (P.underlying t)) fun f => .mk fun _ T B n D k => g T fun v => f T v B fun v => k v B n D
  | .field t x f => fun P => oP1 x (partC (fieldPlc P t f))
  | .index t x i => fun P => oP2 x i (indexC P (P.underlying t))
  | .lookup t m x ok => fun P => oV2 m x (lookC P ok (P.underlying t))
  | .mapUpdate t m a b => fun P => oV3 m a b (mapUpC P (P.underlying t))
  | .typeAssert x _ a ok => fun P => oP1 x (assertC P a ok (P.underlying a))
  | .extract x i => fun _ => bindB (opnd x) fun g => .mk fun _ T B n D k => g T fun v => tupK v fun l => nthK i l fun v => k v B n D
  | _ => fun _ => .mk noOp

/-! ### regions -/
abbrev KS := Fr → Bl → Nat → Dfr → Ans
abbrev KE := Ex → Fr → Bl → Nat → Dfr → Ans
abbrev StT := CallK → Fr → Bl → Nat → Dfr → KS → Ans
def noSt : StT := fun _ _ _ _ _ _ => .no
def dstC (d : Option Tmp) : Bx SetT := match d with
  | some t => tmpS t
  | none => .mk fun _ T k => k T
abbrev GdT := Fr → (Bool → Ans) → Ans
def wantV (v : AV) : Bool → (Bool → Ans) → Ans := match v with | .bool b => fun w k => fB' (b == w) k | _ => fun _ k => k false
def guardC (g : Option (Nat × Bool)) : List Oper → Option (Bx GdT) := match g with
  | none => fun _ => none
  | some (j, w) => fun ops => some (match (ops[j]?).bind (·.dst) with | some t => bindB (tmpG t) fun gt => .mk fun T k => gt T fun v => wantV v w k | none => .mk fun _ k => k false)
def operC1 (g : Option (Bx GdT)) (fo : Bx OpT) (d : Bx SetT) : Bx StT := bindB fo fun fo => bindB d fun pd => Option.rec (motive := fun _ => Bx StT)
  (.mk fun call T B n D k => tk (fo call T B n D fun v B n D => pd v T fun T => k T B n D))
  (fun g => bindB g fun g => .mk fun call T B n D k => tk (g T fun b => Bool.rec (motive := fun _ => Ans) (pd undefA T fun T => k T B n D) (fo call T B n D fun v B n D => pd v T fun T => k T B n D) b)) g
def operC (o : Oper) : Program → List Oper → Bx StT := match o with
  | ⟨d, op, _, _, _, g⟩ => fun P ops => operC1 (guardC g ops) (opC op P) (dstC d)
def opsC (l : List Oper) : Program → List Oper → Bx StT :=
  List.rec (motive := fun _ => Program → List Oper → Bx StT) (fun _ _ => .mk fun _ T B n D k => k T B n D)
    (fun o _ ih P ops => bindB (operC o P ops) fun fo => bindB (ih P ops) fun fl => .mk fun call T B n D k => fo call T B n D fun T B n D => fl call T B n D k) l
def noCall : CallK := fun _ _ _ _ _ => .no
def eqK (u : AV) : AV → Ans → Ans := match u with
  | .bool a => fun v x => boolK v fun b => ifK (a == b) x .no
  | .int j a => fun v x => intK v fun i b => kindK j i (ieqK a b fun c => ifK c x .no)
  | .str l a => fun v x => strK v fun m b => ifK (Nat.beq l m) (ifK (Nat.beq a b) x .no) .no
  | .ptr a i => fun v x => ptrK v fun b j => ifK (Nat.beq a b) (ifK (Nat.beq i j) x .no) .no
  | u => fun v x => ifK (AV.eq u v) x .no
def emptyK (l : Dfr) : Ans → Ans := match l with | [] => fun k => k | _ => fun _ => .no
def eqC (d : Option Tmp) : Bx (Fr → AV → Ans → Ans) := match d with | some t => (bindB (tmpG t) fun gt => .mk fun T v x => gt T fun u => eqK u v x) | none => .mk fun _ _ x => x
/-- whether a read says the same still -/
def ckC1 (g : Option (Bx GdT)) (fo : Bx OpT) (d : Option Tmp) : Bx StT := bindB fo fun fo => bindB (eqC d) fun eq =>
  Option.rec (motive := fun _ => Bx StT)
  (.mk fun _ T B n D k => tk (fo noCall T B n [] fun v _ _ E => emptyK E (eq T v (k T B n D))))
  (fun g => bindB g fun g => .mk fun _ T B n D k => tk (g T fun b => Bool.rec (motive := fun _ => Ans) (k T B n D) (fo noCall T B n [] fun v _ _ E => emptyK E (eq T v (k T B n D))) b)) g
def ckC (o : Oper) : Program → List Oper → Bx StT := match o with
  | ⟨d, op, _, _, _, g⟩ => fun P ops => ckC1 (guardC g ops) (opC op P) d
def mvC (v : Mv) : Program → List Oper → Bx StT := match v with
  | .ex i _ => fun P ops => optB (ops[i]?) noSt fun o => operC o P ops
  | .ck i => fun P ops => optB (ops[i]?) noSt fun o => ckC o P ops
def drawC (l : List Mv) : Program → List Oper → Bx StT :=
  List.rec (motive := fun _ => Program → List Oper → Bx StT) (fun _ _ => .mk fun _ T B n D k => k T B n D)
    (fun v _ ih P ops => bindB (mvC v P ops) fun fo => bindB (ih P ops) fun fl => .mk fun call T B n D k => fo call T B n D fun T B n D => fl call T B n D k) l
def regC (draw : Bool) : Array Oper → Program → Bx StT := match draw with
  | false => fun ops P => opsC ops.toList P ops.toList
  | true => fun ops P => optB (planOf P ops) noSt fun l => drawC l P ops.toList

/-! ### code -/
def seqE (e : Ex) : Ans → (Ex → Ans) → Ans := match e with
  | .normal => fun n _ => n
  | e => fun _ k => k e
def blockE (e : Ex) : Nat → (Ex → Ans) → Ans := match e with
  | .exit i => fun id k => ifK (Nat.beq i id) (k .normal) (k (.exit i))
  | e => fun _ k => k e
abbrev ExK := Code → Fr → Bl → Nat → Dfr → KE → Ans
abbrev CoT := ExK → CallK → Fr → Bl → Nat → Dfr → KE → Ans
def noCo : CoT := fun _ _ _ _ _ _ _ => .no
def codeC (c : Code) : Program → Bx CoT :=
  Code.rec (motive := fun _ => Program → Bx CoT)
    (fun _ => .mk fun _ _ T B n D k => k .normal T B n D)
    (fun _ ops draw P => bindB (regC draw ops P) fun f => .mk fun _ call T B n D k => f call T B n D fun T B n D => k .normal T B n D)
    (fun _ _ iha ihb P => .mk fun ih call T B n D k => runB (iha P) ih call T B n D fun e T B n D => seqE e (runB (ihb P) ih call T B n D k) fun e => k e T B n D)
    (fun c _ _ iha ihb P => bindB (opnd c) fun g => .mk fun ih call T B n D k => tk (g T fun c => boolK c fun c => Bool.rec (motive := fun _ => Ans) (runB (ihb P) ih call T B n D k) (runB (iha P) ih call T B n D k) c))
    (fun id _ ihb P => .mk fun ih call T B n D k => runB (ihb P) ih call T B n D fun e T B n D => blockE e id fun e => k e T B n D)
    (fun b ihb P => .mk fun ih call T B n D k => runB (ihb P) ih call T B n D fun e T B n D => seqE e (ih (.loop b) T B n D k) fun e => k e T B n D)
    (fun _ _ _ _ _ _ _ => .mk noCo)
    (fun id _ => .mk fun _ _ T B n D k => k (.exit id) T B n D)
    (fun _ ihb => ihb)
    (fun _ _ => .mk fun _ _ T B n D k => k .normal T B n D)
    (fun _ _ => .mk noCo)
    (fun _ => .mk fun _ _ T B n D k => k .ret T B n D)
    (fun _ _ => .mk noCo) c
/-! ### functions -/
def argsF (xs : List AV) : Nat → Fr → (Fr → Ans) → Ans :=
  List.rec (motive := fun _ => Nat → Fr → (Fr → Ans) → Ans) (fun _ T k => k T) (fun v _ ih i T k => runB (tmpS i) v T fun T => fN' (Nat.succ i) fun i => ih i T k) xs
abbrev RsT := Fr → Bl → (List AV → Ans) → Ans
def resC1 (P : Program) (r : ResultVar) : Bx (Fr → Bl → KV → Ans) := match r with
  | .tmp t => bindB (tmpG t) fun g => .mk fun T _ k => g T k
  | .cell a t => bindB (tmpG a) fun g => bindB (loadC (plcOf P t 0)) fun f => .mk fun T B k => g T fun v => f v B 0 fun v _ _ => k v
def resC (P : Program) (l : List ResultVar) : Bx RsT :=
  List.rec (motive := fun _ => Bx RsT) (.mk fun _ _ k => k []) (fun r _ ih => bindB (resC1 P r) fun f => bindB ih fun g => .mk fun T B k => f T B fun v => g T B fun l => k (v :: l)) l
def oneF (l : List AV) : (AV → Ans) → Ans := match l with
  | [v] => fun k => k v
  | l => fun k => k (.tup l)
def endE (e : Ex) : Ans → Ans := match e with
  | .normal => fun k => k
  | .ret => fun k => k
  | _ => fun _ => .no
/-- deferred functions, where nothing panics: recover gives nil -/
def opDC (o : Op) : Program → Bx OpT := match o with
  | .call ⟨.builtin .recover, as, _⟩ => fun _ => bindB (opndL as.toList) fun ga => .mk fun _ T B n D k => ga T fun _ => k .nili B n D
  | o => fun P => bindB (opC o P) fun fo => .mk fun call T B n D k => fo call T B n [] fun v B n E => emptyK E (k v B n D)
def operDC (o : Oper) : Program → List Oper → Bx StT := match o with
  | ⟨d, op, _, _, _, g⟩ => fun P ops => operC1 (guardC g ops) (opDC op P) (dstC d)
def opsDC (l : List Oper) : Program → List Oper → Bx StT :=
  List.rec (motive := fun _ => Program → List Oper → Bx StT) (fun _ _ => .mk fun _ T B n D k => k T B n D)
    (fun o _ ih P ops => bindB (operDC o P ops) fun fo => bindB (ih P ops) fun fl => .mk fun call T B n D k => fo call T B n D fun T B n D => fl call T B n D k) l
abbrev DcT := ExK → Fr → Bl → Nat → Dfr → KE → Ans
def noDc : DcT := fun _ _ _ _ _ _ => .no
def codeDC (c : Code) : Program → Bx DcT :=
  Code.rec (motive := fun _ => Program → Bx DcT)
    (fun _ => .mk fun ex T B n D k => ex .skip T B n D k)
    (fun id ops draw => Bool.rec (motive := fun _ => Program → Bx DcT)
      (fun P => bindB (opsDC ops.toList P ops.toList) fun f => .mk fun _ T B n D k => f noCall T B n D fun T B n D => k .normal T B n D)
      (fun _ => .mk fun ex T B n D k => ex (.region id ops true) T B n D k) draw)
    (fun _ _ iha ihb P => .mk fun ex T B n D k => runB (iha P) ex T B n D fun e T B n D => seqE e (runB (ihb P) ex T B n D k) fun e => k e T B n D)
    (fun c _ _ iha ihb P => bindB (opnd c) fun g => .mk fun ex T B n D k => tk (g T fun c => boolK c fun c => Bool.rec (motive := fun _ => Ans) (runB (ihb P) ex T B n D k) (runB (iha P) ex T B n D k) c))
    (fun id b _ _ => .mk fun ex T B n D k => ex (.block id b) T B n D k)
    (fun b _ _ => .mk fun ex T B n D k => ex (.loop b) T B n D k)
    (fun _ _ _ _ _ _ _ => .mk noDc)
    (fun id _ => .mk fun ex T B n D k => ex (.exit id) T B n D k)
    (fun b _ _ => .mk fun ex T B n D k => ex (.scope b) T B n D k)
    (fun l _ => .mk fun ex T B n D k => ex (.label l) T B n D k)
    (fun _ _ => .mk noDc)
    (fun _ => .mk fun ex T B n D k => ex .ret T B n D k)
    (fun _ _ => .mk noDc) c
abbrev DfT := ExK → List AV → Bl → Nat → (Bl → Nat → Ans) → Ans
def noDf : DfT := fun _ _ _ _ _ => .no
def dfnC (P : Program) (f : FuncId) : Bx DfT := optB P.funcs[f]? noDf fun fn => optB fn.body noDf fun c => bindB (codeDC c P) fun fc => bindB (resC P fn.results.toList) fun fr =>
  .mk fun ex xs B n k => argsF xs 0 fr0 fun T => fc ex T B n [] fun e T B n D => endE e (emptyK D (fr T B fun _ => k B n))
def dfsF (P : Program) (ex : ExK) (ds : Dfr) : Bl → Nat → (Bl → Nat → Ans) → Ans :=
  List.rec (motive := fun _ => Bl → Nat → (Bl → Nat → Ans) → Ans) (fun B n k => k B n)
    (fun d _ ih B n k => Prod.rec (motive := fun _ => Ans) (fun f xs => runB (dfnC P f) ex xs B n fun B n => ih B n k) d) ds
abbrev FnT := ExK → List AV → Bl → Nat → KH → Ans
def noFn : FnT := fun _ _ _ _ _ => .no
def fnC (P : Program) (f : FuncId) : Bx FnT := optB P.funcs[f]? noFn fun fn => optB fn.body noFn fun c => bindB (resC P fn.results.toList) fun fr =>
  .mk fun ex xs B n k => argsF xs 0 fr0 fun T => ex c T B n [] fun e T B n D => endE e (dfsF P ex D B n fun B n => fr T B fun l => oneF l fun v => k v B n)
def callK (P : Program) (ex : ExK) (f : FuncId) (xs : List AV) (B : Bl) (n : Nat) (k : KH) : Ans := runB (fnC P f) ex xs B n k
def exF (P : Program) (n : Nat) : ExK := Nat.rec (motive := fun _ => ExK) (fun _ _ _ _ _ _ => .no) (fun _ ih c T B x D k => runB (codeC c P) ih (callK P ih) T B x D k) n
end
end Eng
end Go.Proofs.YtbdhainbcfobeaaGreatDoor
