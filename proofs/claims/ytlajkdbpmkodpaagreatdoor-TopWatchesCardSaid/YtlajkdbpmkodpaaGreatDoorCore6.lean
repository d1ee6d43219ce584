/-
  THE ENGINE, part FB: the same, for the kernel: every step a call in the last place (answers yes or no); frames as functions; what is known of the code made ready first.
-/
import Derived.Test.YtlajkdbpmkodpaaGreatDoorCore5
namespace Go.Proofs.YtlajkdbpmkodpaaGreatDoor
namespace Eng
open Go
inductive Ans where | no | yes
/-- what was made ready -/
inductive Bx (α : Type) where | mk (f : α)
noncomputable section
abbrev Bl := Tr Blk
abbrev Dfr := List (FuncId × List AV)
abbrev KV := AV → Ans
abbrev KH := AV → Bl → Nat → Ans
abbrev KD := AV → Bl → Nat → Dfr → Ans
def runB {α : Type} (b : Bx α) : α := Bx.rec (motive := fun _ => α) (fun f => f) b
def bindB {α β : Type} (b : Bx α) (k : α → Bx β) : Bx β := Bx.rec (motive := fun _ => Bx β) k b
/-- a mark that ends one stretch of plain replacing -/
def tk (x : Ans) : Ans := x

/-! ### frames -/
abbrev Nd (α : Type) := (α → α → α → α → α → α → α → α → Ans) → Ans
abbrev L0 := (AV → Ans) → Ans
abbrev Fr := Nd (Nd (Nd L0))
inductive D8 where | d0 | d1 | d2 | d3 | d4 | d5 | d6 | d7
  deriving DecidableEq
def dg8 (n : Nat) : D8 := match n with | 0 => .d0 | 1 => .d1 | 2 => .d2 | 3 => .d3 | 4 => .d4 | 5 => .d5 | 6 => .d6 | _ => .d7
def getN {α : Type} (d : D8) : Bx (Nd α → (α → Ans) → Ans) := match d with
  | .d0 => .mk fun t k => t fun a _ _ _ _ _ _ _ => k a
  | .d1 => .mk fun t k => t fun _ a _ _ _ _ _ _ => k a
  | .d2 => .mk fun t k => t fun _ _ a _ _ _ _ _ => k a
  | .d3 => .mk fun t k => t fun _ _ _ a _ _ _ _ => k a
  | .d4 => .mk fun t k => t fun _ _ _ _ a _ _ _ => k a
  | .d5 => .mk fun t k => t fun _ _ _ _ _ a _ _ => k a
  | .d6 => .mk fun t k => t fun _ _ _ _ _ _ a _ => k a
  | .d7 => .mk fun t k => t fun _ _ _ _ _ _ _ a => k a
abbrev ModT (α : Type) := Nd α → (α → (α → Ans) → Ans) → (Nd α → Ans) → Ans
def modN {α : Type} (d : D8) : Bx (ModT α) := match d with
  | .d0 => .mk fun t f k => t fun a b c d e g h i => f a fun a => k fun q => q a b c d e g h i
  | .d1 => .mk fun t f k => t fun a b c d e g h i => f b fun b => k fun q => q a b c d e g h i
  | .d2 => .mk fun t f k => t fun a b c d e g h i => f c fun c => k fun q => q a b c d e g h i
  | .d3 => .mk fun t f k => t fun a b c d e g h i => f d fun d => k fun q => q a b c d e g h i
  | .d4 => .mk fun t f k => t fun a b c d e g h i => f e fun e => k fun q => q a b c d e g h i
  | .d5 => .mk fun t f k => t fun a b c d e g h i => f g fun g => k fun q => q a b c d e g h i
  | .d6 => .mk fun t f k => t fun a b c d e g h i => f h fun h => k fun q => q a b c d e g h i
  | .d7 => .mk fun t f k => t fun a b c d e g h i => f i fun i => k fun q => q a b c d e g h i
abbrev GetT := Fr → KV → Ans
abbrev SetT := AV → Fr → (Fr → Ans) → Ans
def noG : GetT := fun _ _ => .no
def noS : SetT := fun _ _ _ => .no
def tmpG (t : Nat) : Bx GetT := Bool.rec (motive := fun _ => Bx GetT) (.mk noG)
  (bindB (getN (dg8 (Nat.div t 64))) fun gi => bindB (getN (dg8 (Nat.mod (Nat.div t 8) 8))) fun gj => bindB (getN (dg8 (Nat.mod t 8))) fun gl =>
    .mk fun T k => gi T fun A => gj A fun B => gl B fun c => c k) (Nat.blt t 512)
def tmpS (t : Nat) : Bx SetT := Bool.rec (motive := fun _ => Bx SetT) (.mk noS)
  (bindB (modN (dg8 (Nat.div t 64))) fun mi => bindB (modN (dg8 (Nat.mod (Nat.div t 8) 8))) fun mj => bindB (modN (dg8 (Nat.mod t 8))) fun ml =>
    .mk fun v T k => mi T (fun A => mj A (fun B => ml B fun _ p => p fun q => q v)) k) (Nat.blt t 512)
def lf0 : L0 := fun _ => .no
def fr0 : Fr := fun k => (fun a => k a a a a a a a a) (fun k => (fun a => k a a a a a a a a) (fun k => k lf0 lf0 lf0 lf0 lf0 lf0 lf0 lf0))

/-! ### forcing -/
def fN' {β : Type} (n : Nat) (k : Nat → β) : β := Nat.rec (motive := fun _ => β) (k 0) (fun m _ => k m) (Nat.succ n)
def fB' {β : Type} (b : Bool) (k : Bool → β) : β := Bool.rec (motive := fun _ => β) (k false) (k true) b
def fI' {β : Type} (n : Int) (k : Int → β) : β := Int.rec (motive := fun _ => β) (fun m => fN' m fun m => k (.ofNat m)) (fun m => fN' m fun m => k (.negSucc m)) n
/-- a value's head and numbers, ready -/
def fV {β : Type} (v : AV) : (AV → β) → β := match v with
  | .bool b => fun k => fB' b fun b => k (.bool b)
  | .int j n => fun k => fI' n fun n => k (.int j n)
  | .str l x => fun k => fN' l fun l => fN' x fun x => k (.str l x)
  | v => fun k => k v
def fVL {β : Type} (l : List AV) : (List AV → β) → β := List.rec (motive := fun _ => (List AV → β) → β) (fun k => k []) (fun v _ ih k => fV v fun v => ih fun r => k (v :: r)) l
def fVA {β : Type} (v : AV) : (AV → β) → β := match v with
  | .agg l => fun k => fVL l fun l => k (.agg l)
  | .tup l => fun k => fVL l fun l => k (.tup l)
  | v => fun k => fV v k

/-! ### tries -/
def pathT (f : Nat) : Nat → List Bool := Nat.rec (motive := fun _ => Nat → List Bool) (fun n => bits n)
  (fun _ ih n => Bool.rec (motive := fun _ => List Bool) (fN' (Nat.div (Nat.pred n) 2) fun m => fB' (Nat.beq (Nat.mod n 2) 0) fun b => b :: ih m) [] (Nat.beq n 0)) f
def path (n : Nat) : List Bool := pathT 20 n
/-- a path, made ready: to look, to turn -/
def getP {α : Type} (p : List Bool) : Bx (Tr α → (α → Ans) → Ans) :=
  List.rec (motive := fun _ => Bx (Tr α → (α → Ans) → Ans))
    (.mk fun t k => Tr.rec (motive := fun _ => Ans) .no (fun v _ _ _ _ => Option.rec (motive := fun _ => Ans) .no k v) t)
    (fun b _ ih => bindB ih fun g => Bool.rec (motive := fun _ => Bx (Tr α → (α → Ans) → Ans))
      (.mk fun t k => Tr.rec (motive := fun _ => Ans) .no (fun _ _ r _ _ => g r k) t) (.mk fun t k => Tr.rec (motive := fun _ => Ans) .no (fun _ l _ _ _ => g l k) t) b) p
def setP {α : Type} (p : List Bool) : Bx (Option α → Tr α → (Tr α → Ans) → Ans) :=
  List.rec (motive := fun _ => Bx (Option α → Tr α → (Tr α → Ans) → Ans))
    (.mk fun w t k => Tr.rec (motive := fun _ => Ans) (k (.nd w .lf .lf)) (fun _ l r _ _ => k (.nd w l r)) t)
    (fun b _ ih => bindB ih fun g => Bool.rec (motive := fun _ => Bx (Option α → Tr α → (Tr α → Ans) → Ans))
      (.mk fun w t k => Tr.rec (motive := fun _ => Ans) (g w .lf fun r => k (.nd none .lf r)) (fun v l r _ _ => g w r fun r => k (.nd v l r)) t)
      (.mk fun w t k => Tr.rec (motive := fun _ => Ans) (g w .lf fun l => k (.nd none l .lf)) (fun v l r _ _ => g w l fun l => k (.nd v l r)) t) b) p
def getK {α : Type} (p : List Bool) : Tr α → (α → Ans) → Ans := runB (getP p)
def setF {α : Type} (p : List Bool) : Option α → Tr α → (Tr α → Ans) → Ans := runB (setP p)
def optK {α : Type} (o : Option α) (k : α → Ans) : Ans := Option.rec (motive := fun _ => Ans) .no k o
def optB {α β : Type} (o : Option α) (d : β) (k : α → Bx β) : Bx β := Option.rec (motive := fun _ => Bx β) (.mk d) k o
def ifK (b : Bool) (x y : Ans) : Ans := Bool.rec (motive := fun _ => Ans) y x b
def ifB {β : Type} (b : Bool) (x y : Bx β) : Bx β := Bool.rec (motive := fun _ => Bx β) y x b

/-! ### operands -/
def opnd (x : Operand) : Bx GetT := match x with
  | .tmp t => tmpG t
  | .const v => optB (aConst v) noG fun a => fVA a fun a => .mk fun _ k => k a
  | .global g => .mk fun _ k => k (.ptr g 0)
  | .func f => .mk fun _ k => k (.fn f [])
abbrev LstT := Fr → (List AV → Ans) → Ans
def opndL (l : List Operand) : Bx LstT := List.rec (motive := fun _ => Bx LstT) (.mk fun _ k => k []) (fun x _ ih => bindB (opnd x) fun g => bindB ih fun gl => .mk fun T k => g T fun v => gl T fun r => k (v :: r)) l

/-! ### looks at values -/
def ptrK (v : AV) : (Nat → Nat → Ans) → Ans := AV.rec (motive_1 := fun _ => (Nat → Nat → Ans) → Ans) (motive_2 := fun _ => Unit) (fun _ => fun _ => .no) (fun _ _ => fun _ => .no) (fun _ _ => fun _ => .no) (fun _ => .no) (fun b i => fun k => k b i) (fun _ => .no) (fun _ _ _ _ => fun _ => .no) (fun _ _ _ _ => fun _ => .no) (fun _ _ _ _ => fun _ => .no) (fun _ => .no) (fun _ => fun _ => .no) (fun _ _ _ => fun _ => .no) (fun _ => .no) (fun _ => .no) (fun _ _ _ => fun _ => .no) (fun _ _ => fun _ => .no) (fun _ _ => fun _ => .no) (fun _ => fun _ => .no) () (fun _ _ _ _ => ()) v
def boolK (v : AV) : (Bool → Ans) → Ans := AV.rec (motive_1 := fun _ => (Bool → Ans) → Ans) (motive_2 := fun _ => Unit) (fun b => fun k => k b) (fun _ _ => fun _ => .no) (fun _ _ => fun _ => .no) (fun _ => .no) (fun _ _ => fun _ => .no) (fun _ => .no) (fun _ _ _ _ => fun _ => .no) (fun _ _ _ _ => fun _ => .no) (fun _ _ _ _ => fun _ => .no) (fun _ => .no) (fun _ => fun _ => .no) (fun _ _ _ => fun _ => .no) (fun _ => .no) (fun _ => .no) (fun _ _ _ => fun _ => .no) (fun _ _ => fun _ => .no) (fun _ _ => fun _ => .no) (fun _ => fun _ => .no) () (fun _ _ _ _ => ()) v
def intK (v : AV) : (IntKind → Int → Ans) → Ans := AV.rec (motive_1 := fun _ => (IntKind → Int → Ans) → Ans) (motive_2 := fun _ => Unit) (fun _ => fun _ => .no) (fun j n => fun k => k j n) (fun _ _ => fun _ => .no) (fun _ => .no) (fun _ _ => fun _ => .no) (fun _ => .no) (fun _ _ _ _ => fun _ => .no) (fun _ _ _ _ => fun _ => .no) (fun _ _ _ _ => fun _ => .no) (fun _ => .no) (fun _ => fun _ => .no) (fun _ _ _ => fun _ => .no) (fun _ => .no) (fun _ => .no) (fun _ _ _ => fun _ => .no) (fun _ _ => fun _ => .no) (fun _ _ => fun _ => .no) (fun _ => fun _ => .no) () (fun _ _ _ _ => ()) v
def strK (v : AV) : (Nat → Nat → Ans) → Ans := AV.rec (motive_1 := fun _ => (Nat → Nat → Ans) → Ans) (motive_2 := fun _ => Unit) (fun _ => fun _ => .no) (fun _ _ => fun _ => .no) (fun l x => fun k => k l x) (fun _ => .no) (fun _ _ => fun _ => .no) (fun _ => .no) (fun _ _ _ _ => fun _ => .no) (fun _ _ _ _ => fun _ => .no) (fun _ _ _ _ => fun _ => .no) (fun _ => .no) (fun _ => fun _ => .no) (fun _ _ _ => fun _ => .no) (fun _ => .no) (fun _ => .no) (fun _ _ _ => fun _ => .no) (fun _ _ => fun _ => .no) (fun _ _ => fun _ => .no) (fun _ => fun _ => .no) () (fun _ _ _ _ => ()) v
def natK (i : Int) (k : Nat → Ans) : Ans := Int.rec (motive := fun _ => Ans) k (fun _ => .no) i
def aggK (v : AV) : (List AV → Ans) → Ans := AV.rec (motive_1 := fun _ => (List AV → Ans) → Ans) (motive_2 := fun _ => Unit) (fun _ => fun _ => .no) (fun _ _ => fun _ => .no) (fun _ _ => fun _ => .no) (fun _ => .no) (fun _ _ => fun _ => .no) (fun _ => .no) (fun _ _ _ _ => fun _ => .no) (fun _ _ _ _ => fun _ => .no) (fun _ _ _ _ => fun _ => .no) (fun _ => .no) (fun _ => fun _ => .no) (fun _ _ _ => fun _ => .no) (fun _ => .no) (fun _ => .no) (fun _ _ _ => fun _ => .no) (fun l _ => fun k => k l) (fun _ _ => fun _ => .no) (fun _ => fun _ => .no) () (fun _ _ _ _ => ()) v
def tupK (v : AV) : (List AV → Ans) → Ans := AV.rec (motive_1 := fun _ => (List AV → Ans) → Ans) (motive_2 := fun _ => Unit) (fun _ => fun _ => .no) (fun _ _ => fun _ => .no) (fun _ _ => fun _ => .no) (fun _ => .no) (fun _ _ => fun _ => .no) (fun _ => .no) (fun _ _ _ _ => fun _ => .no) (fun _ _ _ _ => fun _ => .no) (fun _ _ _ _ => fun _ => .no) (fun _ => .no) (fun _ => fun _ => .no) (fun _ _ _ => fun _ => .no) (fun _ => .no) (fun _ => .no) (fun _ _ _ => fun _ => .no) (fun _ _ => fun _ => .no) (fun l _ => fun k => k l) (fun _ => fun _ => .no) () (fun _ _ _ _ => ()) v
def ifcK (v : AV) : (TypeId → AV → Ans) → Ans := match v with | .ifc t v => fun k => k t v | _ => fun _ => .no
def mapK (v : AV) : (Nat → Ans) → Ans := match v with | .map b => fun k => k b | _ => fun _ => .no
def fnK (v : AV) : (FuncId → List AV → Ans) → Ans := AV.rec (motive_1 := fun _ => (FuncId → List AV → Ans) → Ans) (motive_2 := fun _ => Unit) (fun _ => fun _ => .no) (fun _ _ => fun _ => .no) (fun _ _ => fun _ => .no) (fun _ => .no) (fun _ _ => fun _ => .no) (fun _ => .no) (fun _ _ _ _ => fun _ => .no) (fun _ _ _ _ => fun _ => .no) (fun _ _ _ _ => fun _ => .no) (fun _ => .no) (fun _ => fun _ => .no) (fun f l _ => fun k => k f l) (fun _ => .no) (fun _ => .no) (fun _ _ _ => fun _ => .no) (fun _ _ => fun _ => .no) (fun _ _ => fun _ => .no) (fun _ => fun _ => .no) () (fun _ _ _ _ => ()) v
def cellsK (B : Blk) : (Tr AV → Nat → Bool → Bool → Ans) → Ans := Blk.rec (motive := fun _ => (Tr AV → Nat → Bool → Bool → Ans) → Ans) (fun t n tl ro k => k t n tl ro) (fun _ _ => .no) B
def mpK (B : Blk) : (List (AV × AV) → Ans) → Ans := match B with | .cells _ _ _ _ => fun _ => .no | .mp es => fun k => k es
def orV (r : OR) : KV → Ans := match r with | .val v _ => fun k => k v | _ => fun _ => .no
def orK (r : OR) (B : Bl) (n : Nat) (k : KH) : Ans := orV r fun v => k v B n
def cellsOf (v : AV) : (List AV → Ans) → Ans := match v with | .agg l => fun k => k l | v => fun k => k [v]
def scalK (v : AV) : Ans → Ans := match v with
  | .agg _ => fun _ => .no
  | .tup _ => fun _ => .no
  | _ => fun k => k
def H00 : Heap := ⟨.lf, 0⟩

/-! ### lists -/
def lenK (l : List AV) : Nat → (Nat → Ans) → Ans := List.rec (motive := fun _ => Nat → (Nat → Ans) → Ans) (fun n k => k n) (fun _ _ ih n k => fN' (Nat.succ n) fun n => ih n k) l
def appK (l : List AV) : List AV → (List AV → Ans) → Ans := List.rec (motive := fun _ => List AV → (List AV → Ans) → Ans) (fun m k => k m) (fun v _ ih m k => ih m fun r => k (v :: r)) l
def nthK (i : Nat) : List AV → (AV → Ans) → Ans :=
  Nat.rec (motive := fun _ => List AV → (AV → Ans) → Ans) (fun l k => List.rec (motive := fun _ => Ans) .no (fun v _ _ => k v) l) (fun _ ih l k => List.rec (motive := fun _ => Ans) .no (fun _ l _ => ih l k) l) i
def dropK (i : Nat) : List AV → (List AV → Ans) → Ans :=
  Nat.rec (motive := fun _ => List AV → (List AV → Ans) → Ans) (fun l k => k l) (fun _ ih l k => List.rec (motive := fun _ => Ans) (k []) (fun _ l _ => ih l k) l) i
def takeLK (i : Nat) : List AV → (List AV → Ans) → Ans :=
  Nat.rec (motive := fun _ => List AV → (List AV → Ans) → Ans) (fun _ k => k []) (fun _ ih l k => List.rec (motive := fun _ => Ans) (k []) (fun v l _ => ih l fun r => k (v :: r)) l) i
/-- puts a row in a list's place -/
def putHd (vs : List AV) : List AV → (List AV → Ans) → Ans :=
  List.rec (motive := fun _ => List AV → (List AV → Ans) → Ans) (fun l k => k l) (fun v _ ih l k => List.rec (motive := fun _ => Ans) .no (fun _ l _ => ih l fun r => k (v :: r)) l) vs
def putLK (vs : List AV) (i : Nat) : List AV → (List AV → Ans) → Ans :=
  Nat.rec (motive := fun _ => List AV → (List AV → Ans) → Ans) (fun l k => putHd vs l k) (fun _ ih l k => List.rec (motive := fun _ => Ans) .no (fun x l _ => ih l fun r => k (x :: r)) l) i

/-! ### memory -/
def blkK (B : Bl) (b : Nat) (k : Blk → Ans) : Ans := getK (path b) B k
def takeK (n : Nat) : Tr AV → Nat → (List AV → Ans) → Ans :=
  Nat.rec (motive := fun _ => Tr AV → Nat → (List AV → Ans) → Ans) (fun _ _ k => k []) (fun _ ih t i k => getK (path i) t fun v => fN' (Nat.succ i) fun i => ih t i fun l => k (v :: l)) n
def putK (l : List AV) : Tr AV → Nat → (Tr AV → Ans) → Ans :=
  List.rec (motive := fun _ => Tr AV → Nat → (Tr AV → Ans) → Ans) (fun t _ k => k t)
    (fun v _ ih t i k => getK (path i) t fun _ => scalK v (setF (path i) (some v) t fun t => fN' (Nat.succ i) fun i => ih t i k)) l
def layK (l : List AV) : Tr AV → Nat → (Tr AV → Ans) → Ans :=
  List.rec (motive := fun _ => Tr AV → Nat → (Tr AV → Ans) → Ans) (fun t _ k => k t) (fun v _ ih t i k => setF (path i) (some v) t fun t => fN' (Nat.succ i) fun i => ih t i k) l
def pushK (K : Blk) (B : Bl) (n : Nat) (k : Nat → Bl → Nat → Ans) : Ans := setF (path n) (some K) B fun B => fN' (Nat.succ n) fun m => k n B m
def setBK (K : Blk) (b : Nat) (B : Bl) (k : Bl → Ans) : Ans := setF (path b) (some K) B k
abbrev Val1 := AV → Bl → Nat → KH → Ans
abbrev Val2 := AV → AV → Bl → Nat → KH → Ans
abbrev Pur1 := AV → KV → Ans
abbrev Pur2 := AV → AV → KV → Ans
def no1 : Val1 := fun _ _ _ _ => .no
def no2 : Val2 := fun _ _ _ _ _ => .no
def noP1 : Pur1 := fun _ _ => .no
def noP2 : Pur2 := fun _ _ _ => .no
def loadC (p : Option Plc) : Bx Val1 := optB p no1 fun p => Plc.rec (motive := fun _ => Bx Val1) (fun _ g z => fN' z fun z => Bool.rec (motive := fun _ => Bx Val1)
  (.mk fun v B n k => ptrK v fun b i => blkK B b fun K => cellsK K fun t _ _ _ => getK (path i) t fun v => k v B n)
  (.mk fun v B n k => ptrK v fun b i => blkK B b fun K => cellsK K fun t _ _ _ => takeK z t i fun l => k (.agg l) B n) g) p
def storeC (z : Option Nat) : Bx Val2 := optB z no2 fun z => fN' z fun z => .mk fun a v B n k => ptrK a fun b i => cellsOf v fun l => lenK l 0 fun m => ifK (Nat.beq m z)
  (blkK B b fun K => cellsK K fun t sz tl ro => ifK ro .no (putK l t i fun t => setBK (.cells t sz tl false) b B fun B => k undefA B n)) .no
def newK (v : AV) (B : Bl) (n : Nat) (k : KH) : Ans := cellsOf v fun l => layK l .lf 0 fun t => lenK l 0 fun m => pushK (.cells t m false false) B n fun b B n => k (.ptr b 0) B n
def addrC (p : Option Plc) : Bx Pur1 := optB p noP1 fun p => Plc.rec (motive := fun _ => Bx Pur1) (fun off _ sz => ifB (Nat.beq sz 0) (.mk noP1) (fN' off fun off => .mk fun v k => ptrK v fun b i => fN' (Nat.add i off) fun j => k (.ptr b j))) p
def idxK (v : AV) (n : Nat) (k : Nat → Ans) : Ans := intK v fun _ i => natK i fun i => ifK (Nat.ble (Nat.succ i) n) (k i) .no
def idxRow (v : AV) : (Nat → Nat → Nat → Ans) → Ans := match v with
  | .sl b o n _ => fun k => k b o n
  | .so b o n _ => fun k => k b o n
  | _ => fun _ => .no
def indexAddrC (P : Program) (d : Option TypeDesc) : Bx Pur2 := match d with
  | some (.array n e) => optB (szOf P e) noP2 fun z => fN' z fun z => .mk fun x i k => ptrK x fun b o => idxK i n fun j => fN' (Nat.add o (Nat.mul j z)) fun j => k (.ptr b j)
  | some (.slice e) => optB (szOf P e) noP2 fun z => fN' z fun z => .mk fun x i k => idxRow x fun b o n => idxK i n fun j => fN' (Nat.add o (Nat.mul j z)) fun j => k (.ptr b j)
  | _ => .mk noP2
/-! ### numbers -/
def okI (j : IntKind) : Int → (Ans → Ans → Ans) := match j with
  | .i64 => fun n x y => Int.rec (motive := fun _ => Ans) (fun m => ifK (Nat.ble m 9223372036854775807) x y) (fun m => ifK (Nat.ble m 9223372036854775807) x y) n
  | .u64 => fun n x y => Int.rec (motive := fun _ => Ans) (fun m => ifK (Nat.ble m 18446744073709551615) x y) (fun _ => y) n
  | .u8 => fun n x y => Int.rec (motive := fun _ => Ans) (fun m => ifK (Nat.ble m 255) x y) (fun _ => y) n
  | .u32 => fun n x y => Int.rec (motive := fun _ => Ans) (fun m => ifK (Nat.ble m 4294967295) x y) (fun _ => y) n
  | j => fun n x y => ifK (inK j n) x y
def wrapK (j : IntKind) (n : Int) (k : KV) : Ans := fI' n fun n => okI j n (k (.int j n)) (fI' (j.wrap n) fun n => k (.int j n))
def addK (a b : Int) (k : Int → Ans) : Ans := Int.rec (motive := fun _ => Ans)
  (fun m => Int.rec (motive := fun _ => Ans) (fun n => fN' (Nat.add m n) fun s => k (.ofNat s)) (fun n => fI' (subN m (Nat.succ n)) k) b)
  (fun m => Int.rec (motive := fun _ => Ans) (fun n => fI' (subN n (Nat.succ m)) k) (fun n => fN' (Nat.succ (Nat.add m n)) fun s => k (.negSucc s)) b) a
def negK (a : Int) (k : Int → Ans) : Ans := Int.rec (motive := fun _ => Ans) (fun m => Nat.rec (motive := fun _ => Ans) (k (.ofNat 0)) (fun m _ => k (.negSucc m)) m) (fun m => fN' (Nat.succ m) fun m => k (.ofNat m)) a
def ieqK (a b : Int) (k : Bool → Ans) : Ans := Int.rec (motive := fun _ => Ans)
  (fun m => Int.rec (motive := fun _ => Ans) (fun n => fB' (Nat.beq m n) k) (fun _ => k false) b)
  (fun m => Int.rec (motive := fun _ => Ans) (fun _ => k false) (fun n => fB' (Nat.beq m n) k) b) a
def iltK (a b : Int) (k : Bool → Ans) : Ans := Int.rec (motive := fun _ => Ans)
  (fun m => Int.rec (motive := fun _ => Ans) (fun n => fB' (Nat.ble (Nat.succ m) n) k) (fun _ => k false) b)
  (fun m => Int.rec (motive := fun _ => Ans) (fun _ => k true) (fun n => fB' (Nat.ble (Nat.succ n) m) k) b) a
def ileK (a b : Int) (k : Bool → Ans) : Ans := Int.rec (motive := fun _ => Ans)
  (fun m => Int.rec (motive := fun _ => Ans) (fun n => fB' (Nat.ble m n) k) (fun _ => k false) b)
  (fun m => Int.rec (motive := fun _ => Ans) (fun _ => k true) (fun n => fB' (Nat.ble n m) k) b) a
def notK (b : Bool) (k : Bool → Ans) : Ans := Bool.rec (motive := fun _ => Ans) (k true) (k false) b
abbrev IntT := IntKind → Int → Int → KV → Ans
def intOpC (op : BinOp) : Bx IntT := match op with
  | .add => .mk fun j a b k => addK a b fun n => wrapK j n k
  | .sub => .mk fun j a b k => negK b fun b => addK a b fun n => wrapK j n k
  | .eql => .mk fun _ a b k => ieqK a b fun c => k (.bool c)
  | .neq => .mk fun _ a b k => ieqK a b fun c => notK c fun c => k (.bool c)
  | .lss => .mk fun _ a b k => iltK a b fun c => k (.bool c)
  | .leq => .mk fun _ a b k => ileK a b fun c => k (.bool c)
  | .gtr => .mk fun _ a b k => iltK b a fun c => k (.bool c)
  | .geq => .mk fun _ a b k => ileK b a fun c => k (.bool c)
  | .shl => .mk fun j a b k => orV (shiftOp .shl j a b H00) k
  | .shr => .mk fun j a b k => orV (shiftOp .shr j a b H00) k
  | op => .mk fun j a b k => orV (intOp op j a b H00) k
def isShift (op : BinOp) : Bool := match op with | .shl => true | .shr => true | _ => false
def kindK (j i : IntKind) (x : Ans) : Ans := ifK (decide (j = i)) x .no
abbrev Tx := Nat → Nat → Nat → Nat → KV → Ans
def strEqK (l x m y : Nat) (k : Bool → Ans) : Ans := Bool.rec (motive := fun _ => Ans) (k false) (fB' (Nat.beq (Nat.mod x (Nat.pow 256 l)) (Nat.mod y (Nat.pow 256 l))) k) (Nat.beq l m)
def strOpC (op : BinOp) : Bx Tx := match op with
  | .eql => .mk fun l x m y k => strEqK l x m y fun c => k (.bool c)
  | .neq => .mk fun l x m y k => strEqK l x m y fun c => notK c fun c => k (.bool c)
  | op => .mk fun l x m y k => orV (strOp op l x m y H00) k
def cstOp (y : Operand) : Operand := match y with | .const v => .const v | _ => .tmp 1
def T2 (u v : AV) : Tm := .nd (some u) .lf (.nd (some v) .lf .lf)
def binV (u : AV) : Program → BinOp → TypeId → Operand → IntT → Bool → Tx → AV → KV → Ans := match u with
  | .int j a => fun _ _ _ _ fi sh _ v k => intK v fun i b => ifK sh (fi j a b k) (kindK j i (fi j a b k))
  | .str l x => fun _ _ _ _ _ _ ft v k => strK v fun m y => ft l x m y k
  | u => fun P op t y _ _ _ v k => orV (oBin P op t (.tmp 0) (cstOp y) (T2 u v) H00) k
def binC (P : Program) (op : BinOp) (t : TypeId) (y : Operand) : Bx Pur2 := bindB (intOpC op) fun fi => bindB (strOpC op) fun ft => ifB (isShift op)
  (.mk fun u v k => binV u P op t y fi true ft v k) (.mk fun u v k => binV u P op t y fi false ft v k)
def unC (op : UnOp) : Bx Pur1 := match op with
  | .not => .mk fun v k => boolK v fun b => notK b fun c => k (.bool c)
  | .neg => .mk fun v k => intK v fun j n => negK n fun n => wrapK j n k
  | _ => .mk noP1
/-! ### parts -/
def partC (p : Option Plc) : Bx Pur1 := optB p noP1 fun p => Plc.rec (motive := fun _ => Bx Pur1) (fun o g z => fN' o fun o => fN' z fun z => Bool.rec (motive := fun _ => Bx Pur1)
  (.mk fun v k => aggK v fun l => nthK o l k) (.mk fun v k => aggK v fun l => dropK o l fun l => takeLK z l fun l => k (.agg l)) g) p
def indexC (P : Program) (d : Option TypeDesc) : Bx Pur2 := match d with
  | some (.array n e) => optB (plcOf P e 0) noP2 fun p => Plc.rec (motive := fun _ => Bx Pur2) (fun _ g z => fN' z fun z => Bool.rec (motive := fun _ => Bx Pur2)
      (.mk fun x i k => aggK x fun l => idxK i n fun j => fN' (Nat.mul j z) fun o => nthK o l k)
      (.mk fun x i k => aggK x fun l => idxK i n fun j => fN' (Nat.mul j z) fun o => dropK o l fun l => takeLK z l fun l => k (.agg l)) g) p
  | some .string => .mk fun x i k => strK x fun n s => idxK i n fun j => fN' (byteAt s j) fun c => k (.int .u8 (.ofNat c))
  | _ => .mk noP2
def nilC : Pur1 := fun v => (match v with
  | .ptr b i => fun k => k (.ptr b i)
  | .fn f c => fun k => k (.fn f c)
  | .map b => fun k => k (.map b)
  | _ => fun _ => .no)
def ifaceC (d : Option TypeDesc) (t : TypeId) : Bx Pur1 := match d with
  | some (.interface _) => .mk noP1
  | some _ => .mk fun v k => k (.ifc t v)
  | none => .mk noP1
/-! ### builds -/
abbrev FillT := Fr → List AV → (List AV → Ans) → Ans
def fillNo : FillT := fun _ _ _ => .no
def fillC (plc : Nat → Option (Nat × Nat)) (l : List (Nat × Operand)) : Bx FillT := List.rec (motive := fun _ => Bx FillT) (.mk fun _ l k => k l)
  (fun p _ ih => Prod.rec (motive := fun _ => Bx FillT) (fun i x => optB (plc i) fillNo fun q => Prod.rec (motive := fun _ => Bx FillT) (fun off sz => fN' off fun off => fN' sz fun sz => bindB (opnd x) fun g => bindB ih fun f =>
    ifB (Nat.blt 0 sz) (.mk fun T l k => g T fun v => cellsOf v fun vs => lenK vs 0 fun m => ifK (Nat.beq m sz) (putLK vs off l fun l => f T l k) .no) (.mk fillNo)) q) p) l
abbrev FrV := Fr → Bl → Nat → KH → Ans
def noFrV : FrV := fun _ _ _ _ => .no
def buildC1 (z : List AV) (f : Bx FillT) : Bx FrV := bindB f fun f => fVL z fun z => .mk fun T B n k => f T z fun l => k (.agg l) B n
def buildC (P : Program) (t : TypeId) (parts : List (Nat × Operand)) (d : Option TypeDesc) : Bx FrV := match d with
  | some (.struct fs) => optB (zeroOf P t) noFrV fun z => ifB (fs.toList.all (fun f => (szOf P f.type).isSome)) (buildC1 z.cells (fillC (structPlc P t) parts)) (.mk noFrV)
  | some (.array _ e) => optB (zeroOf P t) noFrV fun z => optB (szOf P e) noFrV fun n => buildC1 z.cells (fillC (rowPlc n) parts)
  | _ => .mk noFrV
def buildSliceC (P : Program) (t : TypeId) (len : Nat) (parts : List (Nat × Operand)) : Bx FrV := optB (elemI P t) noFrV fun E => ifB (Nat.blt (Nat.mul len E.z) 10000)
  (bindB (fillC (rowPlc E.z) parts) fun f => fVL (repL len E.zero.cells) fun l => fN' (Nat.mul len E.z) fun m =>
    .mk fun T B n k => f T l fun l => layK l .lf 0 fun t => pushK (.cells t m false false) B n fun b B n => k (.sl b 0 len len) B n) (.mk noFrV)
/-! ### slices -/
def natV (v : AV) (k : Nat → Ans) : Ans := intK v fun _ i => natK i k
abbrev BndT := Fr → Nat → (Nat → Ans) → Ans
def boundC (x : Option Operand) : Bx BndT := match x with
  | none => .mk fun _ d k => k d
  | some x => bindB (opnd x) fun g => .mk fun T _ k => g T fun v => natV v k
abbrev Bnd3T := Fr → Nat → Nat → (Nat → Nat → Nat → Ans) → Ans
def bnd3C (lo hi mx : Option Operand) : Bx Bnd3T := bindB (boundC lo) fun fl => bindB (boundC hi) fun fh => bindB (boundC mx) fun fm => ifB (match hi, mx with | none, some _ => false | _, _ => true)
  (.mk fun T len cap k => fl T 0 fun l => fh T len fun h => fm T cap fun m => ifK (Nat.ble l h) (ifK (Nat.ble h m) (ifK (Nat.ble m cap) (k l h m) .no) .no) .no) (.mk fun _ _ _ _ => .no)
def rowK (b o z l h m : Nat) (k : KV) : Ans := fN' (Bool.rec (motive := fun _ => Nat) (Nat.add o (Nat.mul l z)) o (Nat.beq m l)) fun o => fN' (Nat.sub h l) fun n => fN' (Nat.sub m l) fun c => k (.sl b o n c)
def openK (b o z kn l h : Nat) (k : KV) : Ans := ifK (Nat.blt l kn) (fN' (Nat.add o (Nat.mul l z)) fun o => fN' (Nat.sub h l) fun n => k (.so b o n z)) (fN' (Nat.add o (Nat.mul l z)) fun p => k (.se b p o z))
def knownK (B : Bl) (b o es : Nat) (k : Nat → Ans) : Ans := blkK B b fun K => cellsK K fun _ n _ _ => ifK (Nat.ble o n) (ifK (Nat.blt 0 es) (fN' (Nat.div (Nat.sub n o) es) k) .no) .no
abbrev SlT := Fr → AV → Bl → (AV → Ans) → Ans
def noSl : SlT := fun _ _ _ _ => .no
def sliceV (v : AV) : Nat → Bnd3T → Bool → Fr → Bl → KV → Ans := match v with
  | .nils => fun _ f _ T _ k => f T 0 0 fun _ _ _ => k .nils
  | .sl b o n c => fun z f _ T _ k => f T n c fun l h m => rowK b o z l h m k
  | .so b o n es => fun z f mx T B k => ifK (Nat.beq z es) (knownK B b o es fun kn => f T n kn fun l h m => ifK mx (rowK b o z l h m k) (openK b o z kn l h k)) .no
  | _ => fun _ _ _ _ _ _ => .no
def sliceC (P : Program) (lo hi mx : Option Operand) (d : Option TypeDesc) : Bx SlT := match d with
  | some .string => ifB mx.isSome (.mk noSl) (bindB (bnd3C lo hi none) fun f => .mk fun T v _ k => strK v fun n s => f T n n fun l h _ => fN' (Nat.sub h l) fun m => fN' (Nat.mod (Nat.shiftRight s (Nat.mul 8 l)) (Nat.pow 256 m)) fun z => k (.str m z))
  | some (.slice e) => optB (szOf P e) noSl fun z => fN' z fun z => bindB (bnd3C lo hi mx) fun f => ifB mx.isSome (.mk fun T v B k => sliceV v z f true T B k) (.mk fun T v B k => sliceV v z f false T B k)
  | some (.array n e) => optB (szOf P e) noSl fun z => fN' z fun z => bindB (bnd3C lo hi mx) fun f => .mk fun T v _ k => ptrK v fun b o => f T n n fun l h m => rowK b o z l h m k
  | _ => .mk noSl
def strCellsK (n : Nat) : Nat → (List AV → Ans) → Ans := Nat.rec (motive := fun _ => Nat → (List AV → Ans) → Ans) (fun _ k => k []) (fun _ ih x k => fN' (Nat.mod x 256) fun c => fN' (Nat.div x 256) fun y => ih y fun l => k (.int .u8 (.ofNat c) :: l)) n
abbrev KE2 := Nat → List AV → Ans
def elemsK (v : AV) : Nat → Bl → KE2 → Ans := match v with
  | .nils => fun _ _ k => k 0 []
  | .se _ _ _ _ => fun _ _ k => k 0 []
  | .str n x => fun es _ k => ifK (Nat.beq es 1) (strCellsK n x fun l => k n l) .no
  | .sl b o n _ => fun es B k => blkK B b fun K => cellsK K fun t _ _ _ => fN' (Nat.mul n es) fun m => takeK m t o fun l => k n l
  | .so b o n z => fun es B k => ifK (Nat.beq z es) (blkK B b fun K => cellsK K fun t _ _ _ => fN' (Nat.mul n es) fun m => takeK m t o fun l => k n l) .no
  | _ => fun _ _ _ => .no
def newOpenK (n es : Nat) (l : List AV) (B : Bl) (x : Nat) (k : KH) : Ans := ifK (Nat.blt n 1000000) (layK l .lf 0 fun t => fN' (Nat.mul n es) fun z => pushK (.cells t z true false) B x fun b B x => k (.so b 0 n es) B x) .no
def scalLK (l : List AV) (x : Ans) : Ans := List.rec (motive := fun _ => Ans) x (fun v _ ih => scalK v ih) l
def goneK (b : Nat) (B : Bl) (k : Bl → Ans) : Ans := setF (path b) (some (.cells .lf 0 false false)) B k
def appendK (s : AV) : Nat → Nat → List AV → Bl → Nat → KH → Ans := match s with
  | .nils => fun es m l B x k => ifK (Nat.beq m 0) (k .nils B x) (newOpenK m es l B x k)
  | .sl b o n c => fun es m l B x k => fN' (Nat.add n m) fun nm => blkK B b fun K => cellsK K fun t z tl ro => ifK (Nat.ble nm c)
      (ifK ro .no (fN' (Nat.add o (Nat.mul n es)) fun j => putK l t j fun t => setBK (.cells t z tl false) b B fun B => k (.sl b o nm c) B x))
      (fN' (Nat.mul n es) fun w => takeK w t o fun old => appK old l fun l => newOpenK nm es l B x k)
  | .so b o n z => fun es m l B x k => ifK (Nat.beq z es) (fN' (Nat.add n m) fun nm => fN' (Nat.add o (Nat.mul n es)) fun j => blkK B b fun K => cellsK K fun t sz tl ro => ifK ro .no
      (ifK (Nat.ble (Nat.add o (Nat.mul nm es)) sz) (putK l t j fun t => setBK (.cells t sz tl false) b B fun B => k (.so b o nm es) B x)
        (ifK tl (ifK (Nat.ble j sz) (scalLK l (ifK (Nat.blt nm 1000000)
          (ifK (Nat.beq o 0)
            (goneK b B fun B => fN' (Nat.mul n es) fun w => layK l t w fun t => fN' (Nat.mul nm es) fun sz => pushK (.cells t sz true false) B x fun b B x => k (.so b 0 nm es) B x)
            (fN' (Nat.mul n es) fun w => takeK w t o fun old => goneK b B fun B => appK old l fun l => newOpenK nm es l B x k)) .no)) .no) .no))) .no
  | .se b _ _ z => fun es m l B x k => ifK (Nat.beq z es) (ifK (Nat.beq m 0) .no (scalLK l (blkK B b fun K => cellsK K fun _ _ tl ro => ifK tl (ifK ro .no (goneK b B fun B => newOpenK m es l B x k)) .no))) .no
  | _ => fun _ _ _ _ _ _ => .no
abbrev BltT := List AV → Bl → Nat → KH → Ans
def noBlt : BltT := fun _ _ _ _ => .no
def oneK (l : List AV) (k : AV → Ans) : Ans := List.rec (motive := fun _ => Ans) .no (fun v r _ => List.rec (motive := fun _ => Ans) (k v) (fun _ _ _ => .no) r) l
def twoK (l : List AV) (k : AV → AV → Ans) : Ans := List.rec (motive := fun _ => Ans) .no (fun v r _ => oneK r fun w => k v w) l
def appendC1 (E : EI) : Bx BltT := fN' E.z fun z => .mk fun xs B n k => twoK xs fun s x => elemsK x z B fun m l => ifK (Nat.blt m 1000000) (appendK s z m l B n k) .no
def appendC (P : Program) (ts : List TypeId) : Bx BltT := match ts with
  | [t, u] => optB (elemI P t) noBlt fun E => (match P.underlying u with
    | some (.slice _) => appendC1 E
    | some .string => appendC1 E
    | _ => .mk noBlt)
  | _ => .mk noBlt
def minK (m n : Nat) (k : Nat → Ans) : Ans := Bool.rec (motive := fun _ => Ans) (k n) (k m) (Nat.ble m n)
def copyK (b o n es m : Nat) (l : List AV) (B : Bl) (x : Nat) (k : KH) : Ans := blkK B b fun K => cellsK K fun t z tl ro => ifK ro .no
  (minK m n fun c => fN' (Nat.mul c es) fun w => takeLK w l fun l => putK l t o fun t => setBK (.cells t z tl false) b B fun B => k (.int .i64 (.ofNat c)) B x)
def copyV (d : AV) : Nat → Nat → List AV → Bl → Nat → KH → Ans := match d with
  | .sl b o n _ => fun es m l B x k => copyK b o n es m l B x k
  | .so b o n z => fun es m l B x k => ifK (Nat.beq z es) (copyK b o n es m l B x k) .no
  | .nils => fun _ _ _ B x k => k (.int .i64 (.ofNat 0)) B x
  | _ => fun _ _ _ _ _ _ => .no
def copyC (P : Program) (ts : List TypeId) : Bx BltT := match ts with
  | [t, _] => optB (elemI P t) noBlt fun E => fN' E.z fun z => .mk fun xs B n k => twoK xs fun d x => elemsK x z B fun m l => copyV d z m l B n k
  | _ => .mk noBlt
def clearK (b o n : Nat) (l : List AV) (B : Bl) (x : Nat) (k : KH) : Ans := blkK B b fun K => cellsK K fun t z tl ro => ifK ro .no (putK (repL n l) t o fun t => setBK (.cells t z tl false) b B fun B => k undefA B x)
def clearV (d : AV) : Nat → List AV → Bl → Nat → KH → Ans := match d with
  | .sl b o n _ => fun _ l B x k => clearK b o n l B x k
  | .so b o n z => fun es l B x k => ifK (Nat.beq z es) (clearK b o n l B x k) .no
  | .nils => fun _ _ B x k => k undefA B x
  | _ => fun _ _ _ _ _ => .no
def clearC (P : Program) (ts : List TypeId) : Bx BltT := match ts with
  | [t] => optB (elemI P t) noBlt fun E => fN' E.z fun z => .mk fun xs B n k => oneK xs fun d => clearV d z E.zero.cells B n k
  | _ => .mk noBlt
def lenV (d : Option TypeDesc) : Bx Val1 := match d with
  | some .string => .mk fun v B n k => strK v fun l _ => k (.int .i64 (.ofNat l)) B n
  | some (.array m _) => .mk fun _ B n k => k (.int .i64 (.ofNat m)) B n
  | some (.slice _) => .mk fun v B n k => (match v with
    | .nils => fun B n k => k (.int .i64 (.ofNat 0)) B n
    | .se _ _ _ _ => fun B n k => k (.int .i64 (.ofNat 0)) B n
    | .sl _ _ m _ => fun B n k => k (.int .i64 (.ofNat m)) B n
    | .so _ _ m _ => fun B n k => k (.int .i64 (.ofNat m)) B n
    | _ => fun _ _ _ => .no : Bl → Nat → KH → Ans) B n k
  | some (.map _ _) => .mk fun v B n k => (match v with
    | .nilm => fun B n k => k (.int .i64 (.ofNat 0)) B n
    | .map b => fun B n k => blkK B b fun K => mpK K fun es => fN' es.length fun m => k (.int .i64 (.ofNat m)) B n
    | _ => fun _ _ _ => .no : Bl → Nat → KH → Ans) B n k
  | _ => .mk no1
def lenC (P : Program) (ts : List TypeId) : Bx BltT := match ts with
  | [t] => bindB (lenV (P.underlying t)) fun f => .mk fun xs B n k => oneK xs fun v => f v B n k
  | _ => .mk noBlt
def builtC (P : Program) (b : Builtin) (ts : List TypeId) : Bx BltT := match b with
  | .append => appendC P ts
  | .copy => copyC P ts
  | .clear => clearC P ts
  | .len => lenC P ts
  | .cap => .mk fun xs B n k => orK (oCap P ts xs H00) B n k
  | .min => .mk fun xs B n k => orK (oMinMax false xs H00) B n k
  | .max => .mk fun xs B n k => orK (oMinMax true xs H00) B n k
  | _ => .mk noBlt
def makeSliceC (P : Program) (t : TypeId) : Bx Val2 := optB (elemI P t) no2 fun E => fN' E.z fun z => .mk fun l c B n k => natV l fun m => natV c fun c => ifK (Nat.ble m c) (ifK (Nat.blt c 1000000)
  (layK (repL c E.zero.cells) .lf 0 fun t => fN' (Nat.mul c z) fun sz => pushK (.cells t sz false false) B n fun b B n => k (.sl b 0 m c) B n) .no) .no
/-! ### maps -/
def keyEqK (a : AV) : AV → (Bool → Ans) → Ans := match a with
  | .int j a => fun v k => intK v fun i b => kindK j i (ieqK a b k)
  | .str l x => fun v k => strK v fun m y => strEqK l x m y k
  | _ => fun _ _ => .no
abbrev FndT := List (AV × AV) → Nat → AV → (Nat → AV → Ans) → Ans → Ans
def findK (l : List (AV × AV)) : Nat → AV → (Nat → AV → Ans) → Ans → Ans :=
  List.rec (motive := fun _ => Nat → AV → (Nat → AV → Ans) → Ans → Ans) (fun _ _ _ x => x)
    (fun p _ ih i key k x => Prod.rec (motive := fun _ => Ans) (fun a v => keyEqK key a fun c => Bool.rec (motive := fun _ => Ans) (fN' (Nat.succ i) fun i => ih i key k x) (k i v) c) p) l
def setEK (i : Nat) : AV → AV → List (AV × AV) → (List (AV × AV) → Ans) → Ans :=
  Nat.rec (motive := fun _ => AV → AV → List (AV × AV) → (List (AV × AV) → Ans) → Ans)
    (fun a v l k => List.rec (motive := fun _ => Ans) (k []) (fun _ l _ => k ((a, v) :: l)) l)
    (fun _ ih a v l k => List.rec (motive := fun _ => Ans) (k []) (fun x l _ => ih a v l fun r => k (x :: r)) l) i
def addEK (l : List (AV × AV)) : AV → AV → (List (AV × AV) → Ans) → Ans :=
  List.rec (motive := fun _ => AV → AV → (List (AV × AV) → Ans) → Ans) (fun a v k => k [(a, v)]) (fun x _ ih a v k => ih a v fun r => k (x :: r)) l
/-- whether keys are of the type's kind -/
def keyT (d : Option TypeDesc) : Nat := match d with | some (.int _) => 1 | some .string => 2 | _ => 0
def keyV (c : Nat) (v : AV) (x : Ans) : Ans := Nat.rec (motive := fun _ => Ans) .no (fun c _ => Nat.rec (motive := fun _ => Ans) (intK v fun _ _ => x) (fun _ _ => strK v fun _ _ => x) c) c
def lookSC (o : Option (List TypeDesc)) (ok : Bool) (z : AV) : Bx Val2 := .mk fun m x B n k => mapK m fun b => blkK B b fun K => mpK K fun es => orV (lookS o ok z x es H00) fun v => k v B n
def lookC (P : Program) (ok : Bool) (d : Option TypeDesc) : Bx Val2 := match d with
  | some (.map kt e) => optB (zeroOf P e) no2 fun z => fVA z fun z => fN' (keyT (P.underlying kt)) fun c => ifB (Nat.beq c 0) (lookSC (structD P kt) ok z) (Bool.rec (motive := fun _ => Bx Val2)
      (.mk fun m x B n k => mapK m fun b => keyV c x (blkK B b fun K => mpK K fun es => findK es 0 x (fun _ v => k v B n) (k z B n)))
      (.mk fun m x B n k => mapK m fun b => keyV c x (blkK B b fun K => mpK K fun es => findK es 0 x (fun _ v => k (.tup [v, .bool true]) B n) (k (.tup [z, .bool false]) B n))) ok)
  | _ => .mk no2
abbrev Val3 := AV → AV → AV → Bl → Nat → KH → Ans
def no3 : Val3 := fun _ _ _ _ _ _ => .no
def upSC (o : Option (List TypeDesc)) : Bx Val3 := .mk fun m x v B n k => mapK m fun b => blkK B b fun K => mpK K fun es => optK (upS o x v es) fun es => setBK (.mp es) b B fun B => k undefA B n
def mapUpC (P : Program) (d : Option TypeDesc) : Bx Val3 := match d with
  | some (.map kt _) => fN' (keyT (P.underlying kt)) fun c => ifB (Nat.beq c 0) (upSC (structD P kt)) (.mk fun m x v B n k => mapK m fun b => keyV c x (blkK B b fun K => mpK K fun es =>
      findK es 0 x (fun i _ => setEK i x v es fun es => setBK (.mp es) b B fun B => k undefA B n) (addEK es x v fun es => setBK (.mp es) b B fun B => k undefA B n)))
  | _ => .mk no3
/-! ### the rest -/
def packK (l : List AV) : (Nat → Ans) → Ans := List.rec (motive := fun _ => (Nat → Ans) → Ans) (fun k => k 0)
  (fun v _ ih k => intK v fun j i => kindK j .u8 (natK i fun c => ifK (Nat.blt c 256) (ih fun x => fN' (Nat.add c (Nat.mul 256 x)) k) .no)) l
def convC (P : Program) (s d : Option TypeDesc) : Bx Val1 := match s, d with
  | some (.int _), some (.int j) => .mk fun v B n k => intK v fun _ i => wrapK j i fun v => k v B n
  | some .string, some .string => .mk fun v B n k => strK v fun l x => k (.str l x) B n
  | some .string, some (.slice e) => (match P.underlying e with
    | some (.int .u8) => .mk fun v B n k => strK v fun l x => strCellsK l x fun cs => newOpenK l 1 cs B n k
    | _ => .mk no1)
  | some (.slice e), some .string => (match P.underlying e with
    | some (.int .u8) => .mk fun v B n k => ifK (isStr v) .no (elemsK v 1 B fun m l => packK l fun x => k (.str m x) B n)
    | _ => .mk no1)
  | _, _ => .mk no1
def assertC (P : Program) (a : TypeId) (ok : Bool) (d : Option TypeDesc) : Bx Pur1 := match d with
  | some (.interface _) => .mk noP1
  | some _ => Bool.rec (motive := fun _ => Bx Pur1) (.mk fun v k => ifcK v fun t v => ifK (Nat.beq t a) (k v) .no)
      (optB (zeroOf P a) noP1 fun z => fVA z fun z => .mk fun v k => ifcK v fun t v => ifK (Nat.beq t a) (k (.tup [v, .bool true])) (k (.tup [z, .bool false]))) ok
  | none => .mk noP1

end
end Eng
end Go.Proofs.YtlajkdbpmkodpaaGreatDoor
namespace Go.Proofs.YtlajkdbpmkodpaaGreatDoor
namespace Eng
open Go
variable {α β : Type}

@[simp] theorem runB_mk (f : α) : runB (.mk f) = f := rfl
@[simp] theorem bindB_mk (f : α) (k : α → Bx β) : bindB (.mk f) k = k f := rfl
theorem bindB_eq (b : Bx α) (k : α → Bx β) : bindB b k = k (runB b) := by cases b; rfl
@[simp] theorem tk_eq (x : Ans) : tk x = x := rfl
@[simp] theorem fN'_eq (n : Nat) (k : Nat → β) : fN' n k = k n := rfl
@[simp] theorem fB'_eq (b : Bool) (k : Bool → β) : fB' b k = k b := by cases b <;> rfl
@[simp] theorem fI'_eq (n : Int) (k : Int → β) : fI' n k = k n := by cases n <;> rfl
@[simp] theorem fV_eq (v : AV) (k : AV → β) : fV v k = k v := by cases v <;> simp [fV]
@[simp] theorem fVL_eq : ∀ (l : List AV) (k : List AV → β), fVL l k = k l
  | [], _ => rfl
  | v :: l, k => by
    show fV v (fun v => fVL l fun r => k (v :: r)) = _
    rw [fV_eq, fVL_eq l]
@[simp] theorem fVA_eq (v : AV) (k : AV → β) : fVA v k = k v := by cases v <;> simp [fVA]
@[simp] theorem ifB_true (x y : Bx β) : ifB true x y = x := rfl
@[simp] theorem ifB_false (x y : Bx β) : ifB false x y = y := rfl
@[simp] theorem optB_none (d : β) (k : α → Bx β) : optB none d k = .mk d := rfl
@[simp] theorem optB_some (v : α) (d : β) (k : α → Bx β) : optB (some v) d k = k v := rfl
@[simp] theorem optK_none (k : α → Ans) : optK none k = .no := rfl
@[simp] theorem optK_some (v : α) (k : α → Ans) : optK (some v) k = k v := rfl
theorem optK_yes {o : Option α} {k : α → Ans} : optK o k = .yes ↔ ∃ v, o = some v ∧ k v = .yes := by cases o <;> simp
@[simp] theorem ifK_true (x y : Ans) : ifK true x y = x := rfl
@[simp] theorem ifK_false (x y : Ans) : ifK false x y = y := rfl
theorem ifK_yes {b : Bool} {x : Ans} : ifK b x .no = .yes ↔ b = true ∧ x = .yes := by cases b <;> simp
theorem ifK_no {b : Bool} {x : Ans} : ifK b .no x = .yes ↔ b = false ∧ x = .yes := by cases b <;> simp

/-! ### paths, tries -/
theorem bitsF_fuel : ∀ (f g n : Nat), n < f → n < g → bitsF f n = bitsF g n
  | 0, _, n, h, _ => by omega
  | _, 0, n, _, h => by omega
  | f + 1, g + 1, n, hf, hg => by
    simp only [bitsF]
    by_cases h0 : n = 0
    · simp [h0]
    · rw [beq_false h0]
      simp only [cond_false, List.cons.injEq, true_and]
      have : Nat.div (Nat.pred n) 2 < n := by
        show (n - 1) / 2 < n
        omega
      exact bitsF_fuel f g _ (by omega) (by omega)
theorem bits_step (n : Nat) : bits n = bif Nat.beq n 0 then [] else Nat.beq (Nat.mod n 2) 0 :: bits (Nat.div (Nat.pred n) 2) := by
  by_cases h0 : n = 0
  · subst h0; rfl
  · show bitsF (n + 1) n = _
    simp only [bitsF]
    rw [beq_false h0]
    simp only [cond_false, List.cons.injEq, true_and]
    have : Nat.div (Nat.pred n) 2 < n := by
      show (n - 1) / 2 < n
      omega
    exact bitsF_fuel _ _ _ this (by omega)
theorem pathT_eq : ∀ (f n : Nat), pathT f n = bits n
  | 0, _ => rfl
  | f + 1, n => by
    rw [bits_step n]
    show (Bool.rec (motive := fun _ => List Bool) (fN' (Nat.div (Nat.pred n) 2) fun m => fB' (Nat.beq (Nat.mod n 2) 0) fun b => b :: pathT f m) [] (Nat.beq n 0)) = _
    cases Nat.beq n 0
    · simp [pathT_eq f]
    · rfl
@[simp] theorem path_eq (n : Nat) : path n = bits n := pathT_eq 20 n
@[simp] theorem getK_eq : ∀ (p : List Bool) (t : Tr α) (k : α → Ans), getK p t k = optK (t.get p) k
  | [], .lf, _ => rfl
  | [], .nd v l r, k => by cases v <;> rfl
  | b :: p, t, k => by
    have ih := fun (t : Tr α) k => getK_eq p t k
    have e : getP (α := α) (b :: p) = bindB (getP p) fun g => Bool.rec (motive := fun _ => Bx (Tr α → (α → Ans) → Ans))
      (.mk fun t k => Tr.rec (motive := fun _ => Ans) .no (fun _ _ r _ _ => g r k) t) (.mk fun t k => Tr.rec (motive := fun _ => Ans) .no (fun _ l _ _ _ => g l k) t) b := rfl
    unfold getK at ih ⊢
    rw [e, bindB_eq]
    cases b <;> cases t <;> first | rfl | exact ih _ k
@[simp] theorem setF_eq : ∀ (p : List Bool) (w : Option α) (t : Tr α) (k : Tr α → Ans), setF p w t k = k (t.set p w)
  | [], w, .lf, _ => rfl
  | [], w, .nd v l r, k => rfl
  | b :: p, w, t, k => by
    have ih := fun w (t : Tr α) k => setF_eq p w t k
    have e : setP (α := α) (b :: p) = bindB (setP p) fun g => Bool.rec (motive := fun _ => Bx (Option α → Tr α → (Tr α → Ans) → Ans))
      (.mk fun w t k => Tr.rec (motive := fun _ => Ans) (g w .lf fun r => k (.nd none .lf r)) (fun v l r _ _ => g w r fun r => k (.nd v l r)) t)
      (.mk fun w t k => Tr.rec (motive := fun _ => Ans) (g w .lf fun l => k (.nd none l .lf)) (fun v l r _ _ => g w l fun l => k (.nd v l r)) t) b := rfl
    unfold setF at ih ⊢
    rw [e, bindB_eq]
    cases b <;> cases t <;> exact ih _ _ _

/-! ### frames -/
def encN {γ : Type} (e : γ → α) (p : D8 → γ) : Nd α := fun k => k (e (p .d0)) (e (p .d1)) (e (p .d2)) (e (p .d3)) (e (p .d4)) (e (p .d5)) (e (p .d6)) (e (p .d7))
def enc0 (o : Option AV) : L0 := match o with | some v => fun q => q v | none => lf0
def encF (p : D8 → D8 → D8 → Option AV) : Fr := encN (encN (encN enc0)) p
def updD {γ : Type} (p : D8 → γ) (d : D8) (x : γ) : D8 → γ := fun e => match d, e with
  | .d0, .d0 | .d1, .d1 | .d2, .d2 | .d3, .d3 | .d4, .d4 | .d5, .d5 | .d6, .d6 | .d7, .d7 => x
  | _, e => p e
theorem updD_same {γ : Type} (p : D8 → γ) (d : D8) (x : γ) : updD p d x d = x := by cases d <;> rfl
theorem updD_other {γ : Type} (p : D8 → γ) {d e : D8} (h : d ≠ e) (x : γ) : updD p d x e = p e := by cases d <;> cases e <;> first | rfl | exact absurd rfl h
theorem getN_enc {γ : Type} (d : D8) (e : γ → α) (p : D8 → γ) (k : α → Ans) : runB (getN d) (encN e p) k = k (e (p d)) := by cases d <;> rfl
theorem modN_enc {γ : Type} (d : D8) (e : γ → α) (p : D8 → γ) (f : α → (α → Ans) → Ans) (k : Nd α → Ans) (x : γ) (hf : ∀ g : α → Ans, f (e (p d)) g = g (e x)) :
    runB (modN d) (encN e p) f k = k (encN e (updD p d x)) := by
  cases d <;> exact hf _
theorem enc0_k (o : Option AV) (k : KV) : enc0 o k = optK o k := by cases o <;> rfl
/-- what a frame says, the slots say (they may say more) -/
def Rep (F : Fr) (T : Tm) : Prop := ∃ p, F = encF p ∧ ∀ t v, t < 512 → p (dg8 (t / 64)) (dg8 (t / 8 % 8)) (dg8 (t % 8)) = some v → T.get (bits t) = some v
theorem dg8_inj {a b : Nat} (ha : a < 8) (hb : b < 8) (h : dg8 a = dg8 b) : a = b := by
  revert h
  have : ∀ a b : Fin 8, dg8 a.1 = dg8 b.1 → a = b := by decide
  intro h
  have := this ⟨a, ha⟩ ⟨b, hb⟩ h
  simpa using this
theorem blt_true {a b : Nat} : Nat.blt a b = true ↔ a < b := by rw [blt_iff]; simp
theorem tmpG_ok {F : Fr} {T : Tm} (h : Rep F T) (t : Nat) {k : KV} (hy : runB (tmpG t) F k = .yes) : ∃ v, T.get (bits t) = some v ∧ k v = .yes := by
  obtain ⟨p, rfl, hp⟩ := h
  unfold tmpG at hy
  cases hb : Nat.blt t 512 with
  | false => rw [hb] at hy; exact absurd hy (by simp [noG])
  | true =>
    rw [hb] at hy
    simp only [bindB_eq, runB_mk, encF, getN_enc, enc0_k, optK_yes] at hy
    obtain ⟨v, hv, hy⟩ := hy
    exact ⟨v, hp t v (blt_true.1 hb) hv, hy⟩
theorem tmpS_ok {F : Fr} {T : Tm} (h : Rep F T) (t : Nat) (v : AV) {k : Fr → Ans} (hy : runB (tmpS t) v F k = .yes) : ∃ F', Rep F' (T.set (bits t) (some v)) ∧ k F' = .yes := by
  obtain ⟨p, rfl, hp⟩ := h
  unfold tmpS at hy
  cases hb : Nat.blt t 512 with
  | false => rw [hb] at hy; exact absurd hy (by simp [noS])
  | true =>
    rw [hb] at hy
    simp only [bindB_eq, runB_mk, encF] at hy
    have ht := blt_true.1 hb
    let i := dg8 (t / 64)
    let j := dg8 (t / 8 % 8)
    let l := dg8 (t % 8)
    rw [modN_enc _ _ _ _ _ (updD (p i) j (updD (p i j) l (some v)))] at hy
    · refine ⟨_, ⟨_, rfl, ?_⟩, hy⟩
      intro s u hs hu
      rw [Tr.get_set_bits]
      by_cases hts : t = s
      · subst hts
        rw [if_pos rfl, ← hu]
        show _ = updD p i _ i j l
        rw [updD_same, updD_same, updD_same]
      · rw [if_neg hts]
        refine hp s u hs ?_
        rw [← hu]
        by_cases h1 : t / 64 = s / 64
        · by_cases h2 : t / 8 % 8 = s / 8 % 8
          · have h3 : t % 8 ≠ s % 8 := by omega
            have h3' : dg8 (t % 8) ≠ dg8 (s % 8) := fun h => h3 (dg8_inj (by omega) (by omega) h)
            show _ = updD p i _ (dg8 (s / 64)) (dg8 (s / 8 % 8)) (dg8 (s % 8))
            rw [← h1, ← h2]
            show _ = updD p i _ i j (dg8 (s % 8))
            rw [updD_same, updD_same, updD_other _ h3']
          · have h2' : dg8 (t / 8 % 8) ≠ dg8 (s / 8 % 8) := fun h => h2 (dg8_inj (by omega) (by omega) h)
            show _ = updD p i _ (dg8 (s / 64)) (dg8 (s / 8 % 8)) (dg8 (s % 8))
            rw [← h1]
            show _ = updD p i _ i (dg8 (s / 8 % 8)) (dg8 (s % 8))
            rw [updD_same, updD_other _ h2']
        · have h1' : dg8 (t / 64) ≠ dg8 (s / 64) := fun h => h1 (dg8_inj (by omega) (by omega) h)
          show _ = updD p i _ (dg8 (s / 64)) (dg8 (s / 8 % 8)) (dg8 (s % 8))
          rw [updD_other _ h1']
    · intro g
      rw [modN_enc _ _ _ _ _ (updD (p i j) l (some v))]
      · rfl
      · intro g
        rw [modN_enc _ _ _ _ _ (some v)]
        · rfl
        · intro g
          rfl
theorem Rep.fr0 (T : Tm) : Rep fr0 T := ⟨fun _ _ _ => none, rfl, fun t v _ h => by cases h⟩

theorem opnd_ok {F : Fr} {T : Tm} (h : Rep F T) (x : Operand) {k : KV} (hy : runB (opnd x) F k = .yes) : ∃ v, ev x T = some v ∧ k v = .yes := by
  cases x with
  | tmp t => exact tmpG_ok h t hy
  | const v =>
    simp only [opnd] at hy
    simp only [ev]
    cases hv : aConst v with
    | none => rw [hv] at hy; exact absurd hy (by simp [noG])
    | some a => rw [hv] at hy; simp only [optB_some, fVA_eq, runB_mk] at hy; exact ⟨a, rfl, hy⟩
  | global g => exact ⟨_, rfl, hy⟩
  | func f => exact ⟨_, rfl, hy⟩
theorem opndL_ok {F : Fr} {T : Tm} (h : Rep F T) : ∀ (l : List Operand) {k : List AV → Ans}, runB (opndL l) F k = .yes → ∃ vs, evL l T = some vs ∧ k vs = .yes
  | [], k, hy => ⟨[], rfl, hy⟩
  | x :: l, k, hy => by
    have e : opndL (x :: l) = bindB (opnd x) fun g => bindB (opndL l) fun gl => .mk fun T k => g T fun v => gl T fun r => k (v :: r) := rfl
    rw [e] at hy
    simp only [bindB_eq, runB_mk] at hy
    obtain ⟨v, hv, hy⟩ := opnd_ok h x hy
    obtain ⟨r, hr, hy⟩ := opndL_ok h l hy
    exact ⟨v :: r, by simp [evL, hv, hr], hy⟩

/-! ### looks at values -/
theorem ptrK_yes {v : AV} {k : Nat → Nat → Ans} : ptrK v k = .yes ↔ ∃ b i, v = .ptr b i ∧ k b i = .yes := by cases v <;> (constructor <;> intro h <;> first | exact ⟨_, _, rfl, h⟩ | (obtain ⟨_, _, e, h⟩ := h; cases e <;> exact h) | (cases h; done))
theorem boolK_yes {v : AV} {k : Bool → Ans} : boolK v k = .yes ↔ ∃ b, v = .bool b ∧ k b = .yes := by cases v <;> (constructor <;> intro h <;> first | exact ⟨_, rfl, h⟩ | (obtain ⟨_, e, h⟩ := h; cases e <;> exact h) | (cases h; done))
theorem intK_yes {v : AV} {k : IntKind → Int → Ans} : intK v k = .yes ↔ ∃ j n, v = .int j n ∧ k j n = .yes := by cases v <;> (constructor <;> intro h <;> first | exact ⟨_, _, rfl, h⟩ | (obtain ⟨_, _, e, h⟩ := h; cases e <;> exact h) | (cases h; done))
theorem strK_yes {v : AV} {k : Nat → Nat → Ans} : strK v k = .yes ↔ ∃ l x, v = .str l x ∧ k l x = .yes := by cases v <;> (constructor <;> intro h <;> first | exact ⟨_, _, rfl, h⟩ | (obtain ⟨_, _, e, h⟩ := h; cases e <;> exact h) | (cases h; done))
theorem natK_yes {i : Int} {k : Nat → Ans} : natK i k = .yes ↔ ∃ n, i = .ofNat n ∧ k n = .yes := by cases i <;> (constructor <;> intro h <;> first | exact ⟨_, rfl, h⟩ | (obtain ⟨_, e, h⟩ := h; cases e <;> exact h) | (cases h; done))
theorem aggK_yes {v : AV} {k : List AV → Ans} : aggK v k = .yes ↔ ∃ l, v = .agg l ∧ k l = .yes := by cases v <;> (constructor <;> intro h <;> first | exact ⟨_, rfl, h⟩ | (obtain ⟨_, e, h⟩ := h; cases e <;> exact h) | (cases h; done))
theorem tupK_yes {v : AV} {k : List AV → Ans} : tupK v k = .yes ↔ ∃ l, v = .tup l ∧ k l = .yes := by cases v <;> (constructor <;> intro h <;> first | exact ⟨_, rfl, h⟩ | (obtain ⟨_, e, h⟩ := h; cases e <;> exact h) | (cases h; done))
theorem ifcK_yes {v : AV} {k : TypeId → AV → Ans} : ifcK v k = .yes ↔ ∃ t w, v = .ifc t w ∧ k t w = .yes := by cases v <;> (constructor <;> intro h <;> first | exact ⟨_, _, rfl, h⟩ | (obtain ⟨_, _, e, h⟩ := h; cases e <;> exact h) | (cases h; done))
theorem mapK_yes {v : AV} {k : Nat → Ans} : mapK v k = .yes ↔ ∃ b, v = .map b ∧ k b = .yes := by cases v <;> (constructor <;> intro h <;> first | exact ⟨_, rfl, h⟩ | (obtain ⟨_, e, h⟩ := h; cases e <;> exact h) | (cases h; done))
theorem fnK_yes {v : AV} {k : FuncId → List AV → Ans} : fnK v k = .yes ↔ ∃ f l, v = .fn f l ∧ k f l = .yes := by cases v <;> (constructor <;> intro h <;> first | exact ⟨_, _, rfl, h⟩ | (obtain ⟨_, _, e, h⟩ := h; cases e <;> exact h) | (cases h; done))
theorem cellsK_yes {K : Blk} {k : Tr AV → Nat → Bool → Bool → Ans} : cellsK K k = .yes ↔ ∃ t n tl ro, K = .cells t n tl ro ∧ k t n tl ro = .yes := by cases K <;> (constructor <;> intro h <;> first | exact ⟨_, _, _, _, rfl, h⟩ | (obtain ⟨_, _, _, _, e, h⟩ := h; cases e <;> exact h) | (cases h; done))
theorem mpK_yes {K : Blk} {k : List (AV × AV) → Ans} : mpK K k = .yes ↔ ∃ es, K = .mp es ∧ k es = .yes := by cases K <;> (constructor <;> intro h <;> first | exact ⟨_, rfl, h⟩ | (obtain ⟨_, e, h⟩ := h; cases e <;> exact h) | (cases h; done))
theorem orV_yes {r : OR} {k : KV} : orV r k = .yes ↔ ∃ v H, r = .val v H ∧ k v = .yes := by cases r <;> (constructor <;> intro h <;> first | exact ⟨_, _, rfl, h⟩ | (obtain ⟨_, _, e, h⟩ := h; cases e <;> exact h) | (cases h; done))
theorem scalK_yes {v : AV} {x : Ans} : scalK v x = .yes ↔ scal v = true ∧ x = .yes := by cases v <;> simp [scalK, scal]
@[simp] theorem cellsOf_eq (v : AV) (k : List AV → Ans) : cellsOf v k = k v.cells := by cases v <;> rfl
theorem natV_yes {v : AV} {k : Nat → Ans} : natV v k = .yes ↔ ∃ n, natOf (some v) = some n ∧ k n = .yes := by
  simp only [natV, intK_yes, natK_yes]
  constructor
  · rintro ⟨j, n, rfl, i, rfl, h⟩; exact ⟨i, rfl, h⟩
  · rintro ⟨n, hn, h⟩
    cases v with
    | int j i => cases i with
      | ofNat m => simp [natOf] at hn; subst hn; exact ⟨_, _, rfl, _, rfl, h⟩
      | negSucc m => simp [natOf] at hn
    | _ => simp [natOf] at hn

/-! ### lists -/
@[simp] theorem lenK_eq : ∀ (l : List AV) (n : Nat) (k : Nat → Ans), lenK l n k = k (n + len' l)
  | [], n, k => rfl
  | v :: l, n, k => by
    show lenK l (n + 1) k = _
    rw [lenK_eq l, len'_eq, len'_eq, List.length_cons]
    congr 1
    omega
@[simp] theorem appK_eq : ∀ (l m : List AV) (k : List AV → Ans), appK l m k = k (l ++ m)
  | [], _m, _k => rfl
  | _v :: l, m, _k => appK_eq l m _
@[simp] theorem nthK_eq : ∀ (i : Nat) (l : List AV) (k : KV), nthK i l k = optK l[i]? k
  | 0, [], k => rfl
  | 0, v :: l, k => rfl
  | i + 1, [], k => rfl
  | i + 1, v :: l, k => (nthK_eq i l k).trans (by simp)
@[simp] theorem dropK_eq : ∀ (i : Nat) (l : List AV) (k : List AV → Ans), dropK i l k = k (l.drop i)
  | 0, _l, _k => rfl
  | _i + 1, [], _k => rfl
  | i + 1, _v :: l, k => dropK_eq i l k
@[simp] theorem takeLK_eq : ∀ (i : Nat) (l : List AV) (k : List AV → Ans), takeLK i l k = k (l.take i)
  | 0, _l, _k => rfl
  | _i + 1, [], _k => rfl
  | i + 1, _v :: l, _k => takeLK_eq i l _
theorem putHd_eq : ∀ (vs l : List AV) (k : List AV → Ans), putHd vs l k = optK (putL l 0 vs) k
  | [], l, k => by cases l <;> rfl
  | v :: vs, [], k => rfl
  | v :: vs, x :: l, k => by
    show putHd vs l _ = _
    rw [putHd_eq vs l]
    simp only [putL]
    cases putL l 0 vs <;> rfl
theorem putLK_ok : ∀ (i : Nat) (vs l : List AV) {k : List AV → Ans}, putLK vs i l k = .yes → ∃ r, putL l i vs = some r ∧ k r = .yes
  | 0, vs, l, k, h => by
    have h : putHd vs l k = .yes := h
    rw [putHd_eq, optK_yes] at h
    exact h
  | i + 1, vs, [], k, h => by cases h
  | i + 1, [], x :: l, k, h => by
    have h : putLK [] i l (fun r => k (x :: r)) = .yes := h
    obtain ⟨r, hr, h⟩ := putLK_ok i [] l h
    have : putL l i [] = some l := by cases l <;> cases i <;> rfl
    rw [this] at hr
    injection hr with hr
    subst hr
    exact ⟨x :: l, rfl, h⟩
  | i + 1, v :: vs, x :: l, k, h => by
    have h : putLK (v :: vs) i l (fun r => k (x :: r)) = .yes := h
    obtain ⟨r, hr, h⟩ := putLK_ok i (v :: vs) l h
    exact ⟨x :: r, by simp [putL, hr], h⟩
theorem scalLK_yes : ∀ {l : List AV} {x : Ans}, scalLK l x = .yes ↔ scalL l = true ∧ x = .yes
  | [], x => by simp [scalLK, scalL]
  | v :: l, x => by
    show scalK v (scalLK l x) = .yes ↔ _
    rw [scalK_yes, scalLK_yes]
    simp only [scalL]
    cases scal v <;> simp

/-! ### memory -/
theorem blkK_eq (B : Bl) (b n : Nat) (k : Blk → Ans) : blkK B b k = optK (getB ⟨B, n⟩ b) k := by simp [blkK, getB]
theorem blkK_yes {B : Bl} {b : Nat} {k : Blk → Ans} (h : blkK B b k = .yes) : ∃ K, (∀ n, getB ⟨B, n⟩ b = some K) ∧ k K = .yes := by
  rw [blkK_eq B b 0, optK_yes] at h
  obtain ⟨K, hK, h⟩ := h
  exact ⟨K, fun _ => hK, h⟩
theorem takeK_eq : ∀ (n : Nat) (t : Tr AV) (i : Nat) (k : List AV → Ans), takeK n t i k = optK (takeC t i n) k
  | 0, t, i, k => rfl
  | n + 1, t, i, k => by
    show getK (path i) t (fun v => fN' (Nat.succ i) fun i => takeK n t i fun l => k (v :: l)) = _
    simp only [path_eq, getK_eq, fN'_eq, takeC]
    cases t.get (bits i) with
    | none => rfl
    | some v =>
      simp only [optK_some]
      rw [takeK_eq n]
      cases takeC t (Nat.succ i) n <;> rfl
theorem takeK_yes {n : Nat} {t : Tr AV} {i : Nat} {k : List AV → Ans} : takeK n t i k = .yes ↔ ∃ l, takeC t i n = some l ∧ k l = .yes := by rw [takeK_eq, optK_yes]
theorem putK_ok : ∀ (l : List AV) (t : Tr AV) (i : Nat) {k : Tr AV → Ans}, putK l t i k = .yes → ∃ t', (∀ (z : OR) (k' : Tr AV → OR), putC t i l z k' = k' t') ∧ k t' = .yes
  | [], t, i, k, h => ⟨t, fun _ _ => rfl, h⟩
  | v :: l, t, i, k, h => by
    have h : getK (path i) t (fun _ => scalK v (setF (path i) (some v) t fun t => fN' (Nat.succ i) fun i => putK l t i k)) = .yes := h
    simp only [path_eq, getK_eq, setF_eq, fN'_eq, optK_yes, scalK_yes] at h
    obtain ⟨u, hu, hs, h⟩ := h
    obtain ⟨t', ht, h⟩ := putK_ok l _ _ h
    refine ⟨t', fun z k' => ?_, h⟩
    simp only [putC, hu, hs, Tr.setK_eq]
    exact ht z k'
@[simp] theorem layK_eq : ∀ (l : List AV) (t : Tr AV) (i : Nat) (k : Tr AV → Ans), layK l t i k = k (layT t i l)
  | [], t, i, k => rfl
  | v :: l, t, i, k => by
    show setF (path i) (some v) t (fun t => fN' (Nat.succ i) fun i => layK l t i k) = _
    simp only [path_eq, setF_eq, fN'_eq]
    rw [layK_eq l]
    rfl
@[simp] theorem pushK_eq (K : Blk) (B : Bl) (n : Nat) (k : Nat → Bl → Nat → Ans) : pushK K B n k = k n (B.set (bits n) (some K)) (n + 1) := by simp [pushK]
@[simp] theorem setBK_eq (K : Blk) (b : Nat) (B : Bl) (k : Bl → Ans) : setBK K b B k = k (B.set (bits b) (some K)) := by simp [setBK]
@[simp] theorem goneK_eq (b : Nat) (B : Bl) (k : Bl → Ans) : goneK b B k = k (B.set (bits b) (some (.cells .lf 0 false false))) := by simp [goneK]

/-! ### numbers -/
theorem okI_eq (j : IntKind) (n : Int) (x y : Ans) : okI j n x y = ifK (inK j n) x y := by
  have e : ∀ m, Nat.blt m pow63 = Nat.ble m 9223372036854775807 := fun m => rfl
  have e2 : ∀ m, Nat.blt m pow64 = Nat.ble m 18446744073709551615 := fun m => rfl
  cases j <;> cases n <;> rfl
@[simp] theorem wrapK_eq (j : IntKind) (n : Int) (k : KV) : wrapK j n k = k (.int j (wrapF j n)) := by
  simp only [wrapK, fI'_eq, okI_eq, wrapF]
  cases inK j n <;> rfl
@[simp] theorem addK_eq (a b : Int) (k : Int → Ans) : addK a b k = k (iadd a b) := by
  cases a <;> cases b <;> simp only [addK, iadd, fN'_eq, fI'_eq]
@[simp] theorem negK_eq (a : Int) (k : Int → Ans) : negK a k = k (ineg a) := by
  rcases a with (_ | m) | m <;> rfl
@[simp] theorem ieqK_eq (a b : Int) (k : Bool → Ans) : ieqK a b k = k (ieq a b) := by
  cases a <;> cases b <;> simp only [ieqK, ieq, fB'_eq]
@[simp] theorem iltK_eq (a b : Int) (k : Bool → Ans) : iltK a b k = k (ilt a b) := by
  cases a <;> cases b <;> simp only [iltK, ilt, fB'_eq] <;> rfl
@[simp] theorem ileK_eq (a b : Int) (k : Bool → Ans) : ileK a b k = k (ile a b) := by
  cases a <;> cases b <;> simp only [ileK, ile, fB'_eq]
@[simp] theorem notK_eq (b : Bool) (k : Bool → Ans) : notK b k = k (!b) := by cases b <;> rfl
@[simp] theorem strEqK_eq (l x m y : Nat) (k : Bool → Ans) : strEqK l x m y k = k (strEq l x m y) := by
  simp only [strEqK, strEq, fB'_eq]
  cases Nat.beq l m <;> rfl
theorem kindK_yes {j i : IntKind} {x : Ans} : kindK j i x = .yes ↔ j = i ∧ x = .yes := by simp [kindK, ifK_yes]
theorem intOp_heap {op : BinOp} {j : IntKind} {a b : Int} {H H1 : Heap} {v : AV} (h : intOp op j a b H = .val v H1) (H2 : Heap) : intOp op j a b H2 = .val v H2 := by
  cases op <;> simp only [intOp, fI_eq, fB_eq, fN_eq] at h ⊢ <;> first
    | (injection h with h1 h2; rw [h1])
    | (cases h; done)
    | (cases hb : ieq b (.ofNat 0) <;> simp only [hb, cond_true, cond_false] at h ⊢ <;> first | (injection h with h1 h2; rw [h1]) | (cases h; done))
    | (cases a <;> cases b <;> first
        | (cases h; done)
        | (simp only at h ⊢; split at h <;> first | (injection h with h1 h2; simp_all; done) | (cases h; done))
        | (simp only [] at h ⊢; rename_i m n; cases hc : (inK j (Int.ofNat m) && inK j (Int.ofNat n)) <;> simp only [hc, cond_true, cond_false] at h ⊢ <;> first | (injection h with h1 h2; rw [h1]) | (cases h; done)))
theorem shiftOp_heap {op : BinOp} {j : IntKind} {a b : Int} {H H1 : Heap} {v : AV} (h : shiftOp op j a b H = .val v H1) (H2 : Heap) : shiftOp op j a b H2 = .val v H2 := by
  cases op <;> cases a <;> cases b <;> simp only [shiftOp, fI_eq, fN_eq] at h ⊢ <;> first | (injection h with h1 h2; rw [h1]) | (cases h; done)
theorem strOp_heap {op : BinOp} {l x m y : Nat} {H H1 : Heap} {v : AV} (h : strOp op l x m y H = .val v H1) (H2 : Heap) : strOp op l x m y H2 = .val v H2 := by
  cases op <;> simp only [strOp, fB_eq, fN_eq] at h ⊢ <;> first
    | (injection h with h1 h2; rw [h1])
    | (cases h; done)
    | (cases hc : Nat.blt (Nat.add l m) pow63 <;> simp only [hc, cond_true, cond_false] at h ⊢ <;> first | (injection h with h1 h2; rw [h1]) | (cases h; done))
theorem intOpC_ok {op : BinOp} {j : IntKind} {a b : Int} {k : KV} (hs : isShift op = false) (h : runB (intOpC op) j a b k = .yes) : ∃ v, (∀ H, intOp op j a b H = .val v H) ∧ k v = .yes := by
  cases op <;> simp only [isShift] at hs <;> simp only [intOpC, runB_mk, addK_eq, negK_eq, wrapK_eq, ieqK_eq, iltK_eq, ileK_eq, notK_eq, orV_yes] at h <;> first
    | (cases hs; done)
    | exact ⟨_, fun H => by simp only [intOp, fI_eq, fB_eq], h⟩
    | (obtain ⟨v, H1, h1, h⟩ := h; exact ⟨v, fun H => intOp_heap h1 H, h⟩)
theorem intOpC_sh {op : BinOp} {j : IntKind} {a b : Int} {k : KV} (hs : isShift op = true) (h : runB (intOpC op) j a b k = .yes) : ∃ v, (∀ H, shiftOp op j a b H = .val v H) ∧ k v = .yes := by
  cases op <;> simp only [isShift] at hs <;> simp only [intOpC, runB_mk, orV_yes] at h <;> first
    | (cases hs; done)
    | (obtain ⟨v, H1, h1, h⟩ := h; exact ⟨v, fun H => shiftOp_heap h1 H, h⟩)
theorem strOpC_ok {op : BinOp} {l x m y : Nat} {k : KV} (h : runB (strOpC op) l x m y k = .yes) : ∃ v, (∀ H, strOp op l x m y H = .val v H) ∧ k v = .yes := by
  cases op <;> simp only [strOpC, runB_mk, strEqK_eq, notK_eq, orV_yes] at h <;> first
    | exact ⟨_, fun H => by simp only [strOp, fB_eq], h⟩
    | (obtain ⟨v, H1, h1, h⟩ := h; exact ⟨v, fun H => strOp_heap h1 H, h⟩)
end Eng
end Go.Proofs.YtlajkdbpmkodpaaGreatDoor
namespace Go.Proofs.YtlajkdbpmkodpaaGreatDoor
namespace Eng
open Go
variable {P : Program}

/-! ### memory -/
theorem loadC_ok {p : Option Plc} {v : AV} {B : Bl} {n : Nat} {k : KH} (h : runB (loadC p) v B n k = .yes) :
    ∃ q b i w, p = some q ∧ v = .ptr b i ∧ (∀ m, loadR ⟨B, m⟩ b i q.agg q.sz = .val w ⟨B, m⟩) ∧ k w B n = .yes := by
  rcases p with _ | ⟨off, _ | _, z⟩
  · cases h
  · replace h : ptrK v (fun b i => blkK B b fun K => cellsK K fun t _ _ _ => getK (path i) t fun v => k v B n) = .yes := h
    simp only [ptrK_yes] at h
    obtain ⟨b, i, rfl, h⟩ := h
    obtain ⟨K, hK, h⟩ := blkK_yes h
    simp only [cellsK_yes, path_eq, getK_eq, optK_yes] at h
    obtain ⟨t, s, tl, ro, rfl, w, hw, h⟩ := h
    exact ⟨_, b, i, w, rfl, rfl, fun m => by simp only [loadR, hK m, cond_false, hw], h⟩
  · replace h : ptrK v (fun b i => blkK B b fun K => cellsK K fun t _ _ _ => takeK z t i fun l => k (.agg l) B n) = .yes := h
    simp only [ptrK_yes] at h
    obtain ⟨b, i, rfl, h⟩ := h
    obtain ⟨K, hK, h⟩ := blkK_yes h
    simp only [cellsK_yes, takeK_yes] at h
    obtain ⟨t, s, tl, ro, rfl, w, hw, h⟩ := h
    exact ⟨_, b, i, .agg w, rfl, rfl, fun m => by simp only [loadR, hK m, cond_true, hw], h⟩
theorem storeC_ok {z : Option Nat} {a v : AV} {B : Bl} {n : Nat} {k : KH} (h : runB (storeC z) a v B n k = .yes) :
    ∃ m b i B', z = some m ∧ a = .ptr b i ∧ Nat.beq (len' v.cells) m = true ∧ storeR ⟨B, n⟩ b i v.cells = .val undefA ⟨B', n⟩ ∧ k undefA B' n = .yes := by
  rcases z with _ | z
  · cases h
  · replace h : ptrK a (fun b i => cellsOf v fun l => lenK l 0 fun m => ifK (Nat.beq m z)
      (blkK B b fun K => cellsK K fun t sz tl ro => ifK ro .no (putK l t i fun t => setBK (.cells t sz tl false) b B fun B => k undefA B n)) .no) = .yes := h
    simp only [ptrK_yes, cellsOf_eq, lenK_eq, ifK_yes, Nat.zero_add] at h
    obtain ⟨b, i, rfl, hl, h⟩ := h
    obtain ⟨K, hK, h⟩ := blkK_yes h
    simp only [cellsK_yes, ifK_no] at h
    obtain ⟨t, s, tl, ro, rfl, rfl, h⟩ := h
    obtain ⟨t', ht, h⟩ := putK_ok _ _ _ h
    rw [setBK_eq] at h
    exact ⟨z, b, i, _, rfl, rfl, hl, by simp only [storeR, hK n, ht, setB_eq], h⟩
theorem newK_ok {v : AV} {B : Bl} {n : Nat} {k : KH} (h : newK v B n k = .yes) : ∃ B', newR ⟨B, n⟩ v.cells = .val (.ptr n 0) ⟨B', n + 1⟩ ∧ k (.ptr n 0) B' (n + 1) = .yes := by
  simp only [newK, cellsOf_eq, layK_eq, lenK_eq, pushK_eq, Nat.zero_add] at h
  exact ⟨_, by simp only [newR, layC_eq, fN_eq, newB_eq], h⟩
theorem addrC_ok {p : Option Plc} {v : AV} {k : KV} (h : runB (addrC p) v k = .yes) : ∃ q b i, p = some q ∧ v = .ptr b i ∧ Nat.beq q.sz 0 = false ∧ k (.ptr b (Nat.add i q.off)) = .yes := by
  rcases p with _ | ⟨off, g, z⟩
  · cases h
  · replace h : runB (ifB (Nat.beq z 0) (.mk noP1) (.mk fun v k => ptrK v fun b i => fN' (Nat.add i off) fun j => k (.ptr b j))) v k = .yes := h
    cases hz : Nat.beq z 0 with
    | true => rw [hz] at h; cases h
    | false =>
      rw [hz] at h
      simp only [ifB_false, runB_mk, ptrK_yes, fN'_eq] at h
      obtain ⟨b, i, rfl, h⟩ := h
      exact ⟨_, b, i, rfl, rfl, hz, h⟩
theorem idxK_yes {v : AV} {n : Nat} {k : Nat → Ans} : idxK v n k = .yes ↔ ∃ j i, v = .int j (.ofNat i) ∧ Nat.blt i n = true ∧ k i = .yes := by
  simp only [idxK, intK_yes, natK_yes, ifK_yes]
  constructor
  · rintro ⟨j, i, rfl, m, rfl, hb, h⟩; exact ⟨j, m, rfl, hb, h⟩
  · rintro ⟨j, m, rfl, hb, h⟩; exact ⟨j, _, rfl, m, rfl, hb, h⟩
theorem idxRow_yes {v : AV} {k : Nat → Nat → Nat → Ans} : idxRow v k = .yes ↔ (∃ b o n c, v = .sl b o n c ∧ k b o n = .yes) ∨ (∃ b o n c, v = .so b o n c ∧ k b o n = .yes) := by
  cases v <;> constructor <;> intro h <;> first
    | exact .inl ⟨_, _, _, _, rfl, h⟩
    | exact .inr ⟨_, _, _, _, rfl, h⟩
    | (cases h; done)
    | (rcases h with ⟨_, _, _, _, e, h⟩ | ⟨_, _, _, _, e, h⟩ <;> cases e <;> exact h)

/-! ### looks that the clean operations share -/
theorem partC_ok {p : Option Plc} {v : AV} {k : KV} (h : runB (partC p) v k = .yes) : ∃ q l w, p = some q ∧ v = .agg l ∧ partL l q = some w ∧ k w = .yes := by
  rcases p with _ | ⟨off, _ | _, z⟩
  · cases h
  · replace h : aggK v (fun l => nthK off l k) = .yes := h
    simp only [aggK_yes, nthK_eq, optK_yes] at h
    obtain ⟨l, rfl, w, hw, h⟩ := h
    exact ⟨_, l, w, rfl, rfl, hw, h⟩
  · replace h : aggK v (fun l => dropK off l fun l => takeLK z l fun l => k (.agg l)) = .yes := h
    simp only [aggK_yes, dropK_eq, takeLK_eq] at h
    obtain ⟨l, rfl, h⟩ := h
    exact ⟨_, l, _, rfl, rfl, rfl, h⟩

/-! ### builds -/
theorem fillC_ok {F : Fr} {T : Tm} (hR : Rep F T) {plc : Nat → Option (Nat × Nat)} : ∀ (ps : List (Nat × Operand)) (l : List AV) {k : List AV → Ans}, runB (fillC plc ps) F l k = .yes → ∃ r, fillL l plc T ps = some r ∧ k r = .yes
  | [], l, k, h => ⟨l, rfl, h⟩
  | (i, x) :: ps, l, k, h => by
    have e : fillC plc ((i, x) :: ps) = optB (plc i) fillNo fun q => Prod.rec (motive := fun _ => Bx FillT) (fun off sz => fN' off fun off => fN' sz fun sz => bindB (opnd x) fun g => bindB (fillC plc ps) fun f =>
        ifB (Nat.blt 0 sz) (.mk fun T l k => g T fun v => cellsOf v fun vs => lenK vs 0 fun m => ifK (Nat.beq m sz) (putLK vs off l fun l => f T l k) .no) (.mk fillNo)) q := rfl
    rw [e] at h
    cases hq : plc i with
    | none => rw [hq] at h; cases h
    | some q =>
      obtain ⟨off, sz⟩ := q
      rw [hq] at h
      simp only [optB_some, fN'_eq, bindB_eq] at h
      cases hz : Nat.blt 0 sz with
      | false => rw [hz] at h; cases h
      | true =>
        rw [hz] at h
        simp only [ifB_true, runB_mk, cellsOf_eq, lenK_eq, Nat.zero_add] at h
        obtain ⟨v, hv, h⟩ := opnd_ok hR x h
        rw [ifK_yes] at h
        obtain ⟨hl, h⟩ := h
        obtain ⟨r, hr, h⟩ := putLK_ok _ _ _ h
        obtain ⟨r', hr', h⟩ := fillC_ok hR ps _ h
        exact ⟨r', by simp only [fillL, hq, hv, hl, hz, hr, Bool.and_self, cond_true, hr'], h⟩
/-! ### slices -/
theorem boundC_ok {F : Fr} {T : Tm} (hR : Rep F T) {x : Option Operand} {d : Nat} {k : Nat → Ans} (h : runB (boundC x) F d k = .yes) : ∃ n, boundOf x T d = some n ∧ k n = .yes := by
  cases x with
  | none => exact ⟨d, rfl, h⟩
  | some x =>
    simp only [boundC, bindB_eq, runB_mk] at h
    obtain ⟨v, hv, h⟩ := opnd_ok hR x h
    rw [natV_yes] at h
    obtain ⟨n, hn, h⟩ := h
    exact ⟨n, by simp only [boundOf, hv, hn], h⟩
def hiOf (hi mx : Option Operand) (T : Tm) (len : Nat) : Option Nat := match hi, mx with | none, some _ => none | hi, _ => boundOf hi T len
theorem bnd3_eq (lo hi mx : Option Operand) (T : Tm) (len cap : Nat) : bnd3 lo hi mx T len cap = match boundOf lo T 0, hiOf hi mx T len, boundOf mx T cap with
  | some l, some h, some m => bif Nat.ble l h && Nat.ble h m && Nat.ble m cap then some (l, h, m) else none
  | _, _, _ => none := rfl
theorem bnd_key {T : Tm} {hi mx : Option Operand} {len u : Nat} (h1 : hi = none → mx = none) (h2 : boundOf hi T len = some u) : hiOf hi mx T len = some u := by
  cases hi with
  | none => rw [h1 rfl]; exact h2
  | some x => cases mx <;> exact h2
theorem bnd3C_ok {F : Fr} {T : Tm} (hR : Rep F T) {lo hi mx : Option Operand} {len cap : Nat} {k : Nat → Nat → Nat → Ans} (h : runB (bnd3C lo hi mx) F len cap k = .yes) : ∃ l u m, bnd3 lo hi mx T len cap = some (l, u, m) ∧ k l u m = .yes := by
  have hc : hi = none → mx = none := by
    intro h1
    subst h1
    cases mx with
    | none => rfl
    | some mx => simp only [bnd3C, bindB_eq, ifB_false, runB_mk] at h; cases h
  have e : bnd3C lo hi mx = bindB (boundC lo) fun fl => bindB (boundC hi) fun fh => bindB (boundC mx) fun fm =>
      .mk fun T len cap k => fl T 0 fun l => fh T len fun h => fm T cap fun m => ifK (Nat.ble l h) (ifK (Nat.ble h m) (ifK (Nat.ble m cap) (k l h m) .no) .no) .no := by
    cases hi <;> cases mx <;> first | rfl | (exact absurd (hc rfl) (by simp))
  rw [e] at h
  simp only [bindB_eq, runB_mk] at h
  obtain ⟨l, hl, h⟩ := boundC_ok hR h
  obtain ⟨u, hu, h⟩ := boundC_ok hR h
  obtain ⟨m, hm, h⟩ := boundC_ok hR h
  simp only [ifK_yes] at h
  obtain ⟨h1, h2, h3, h⟩ := h
  refine ⟨l, u, m, ?_, h⟩
  simp only [bnd3_eq, hl, hm, bnd_key hc hu, h1, h2, h3, Bool.and_self, cond_true]
theorem rowK_ok {b o z l h m : Nat} {k : KV} (hk : rowK b o z l h m k = .yes) : ∃ v, (∀ H, oSliceR b o z (some (l, h, m)) H = .val v H) ∧ k v = .yes := by
  simp only [rowK, fN'_eq] at hk
  refine ⟨_, fun H => ?_, hk⟩
  simp only [oSliceR, fN_eq]
  cases Nat.beq m l <;> rfl
theorem openK_ok {b o z kn l h m : Nat} {k : KV} (hk : openK b o z kn l h k = .yes) : ∃ v, (∀ H, oSliceO b o z kn (some (l, h, m)) H = .val v H) ∧ k v = .yes := by
  simp only [openK, fN'_eq] at hk
  simp only [oSliceO, fN_eq]
  cases hb : Nat.blt l kn <;> rw [hb] at hk <;> exact ⟨_, fun H => rfl, hk⟩
theorem knownK_ok {B : Bl} {b o es : Nat} {k : Nat → Ans} (h : knownK B b o es k = .yes) : ∃ n, (∀ m, knownC ⟨B, m⟩ b o es = some n) ∧ k n = .yes := by
  obtain ⟨K, hK, h⟩ := blkK_yes h
  simp only [cellsK_yes, ifK_yes, fN'_eq] at h
  obtain ⟨t, s, tl, ro, rfl, h1, h2, h⟩ := h
  exact ⟨_, fun m => by simp only [knownC, hK m, h1, h2, Bool.and_self, cond_true], h⟩
theorem strCellsK_eq : ∀ (n x : Nat) (k : List AV → Ans), strCellsK n x k = k (strCells n x)
  | 0, x, k => rfl
  | n + 1, x, k => by
    show fN' (Nat.mod x 256) (fun c => fN' (Nat.div x 256) fun y => strCellsK n y fun l => k (.int .u8 (.ofNat c) :: l)) = _
    simp only [fN'_eq, strCellsK_eq n, strCells, fN_eq]
theorem elemsK_ok {v : AV} {es : Nat} {B : Bl} {k : KE2} (h : elemsK v es B k = .yes) : ∃ n l, (∀ m, elemsOf ⟨B, m⟩ v es = some (n, l)) ∧ k n l = .yes := by
  cases v with
  | nils => exact ⟨0, [], fun _ => rfl, h⟩
  | se _ _ _ _ => exact ⟨0, [], fun _ => rfl, h⟩
  | str n x =>
    simp only [elemsK, ifK_yes, strCellsK_eq] at h
    exact ⟨n, _, fun _ => by simp only [elemsOf, h.1, cond_true], h.2⟩
  | sl b o n c =>
    simp only [elemsK] at h
    obtain ⟨K, hK, h⟩ := blkK_yes h
    simp only [cellsK_yes, fN'_eq, takeK_yes] at h
    obtain ⟨t, s, tl, ro, rfl, l, hl, h⟩ := h
    exact ⟨n, l, fun m => by simp only [elemsOf, hK m, hl], h⟩
  | so b o n z =>
    simp only [elemsK, ifK_yes] at h
    obtain ⟨hz, h⟩ := h
    obtain ⟨K, hK, h⟩ := blkK_yes h
    simp only [cellsK_yes, fN'_eq, takeK_yes] at h
    obtain ⟨t, s, tl, ro, rfl, l, hl, h⟩ := h
    exact ⟨n, l, fun m => by simp only [elemsOf, hz, cond_true, hK m, hl], h⟩
  | _ => cases h
/-- a result with memory -/
def GoodH (r : OR) (k : KH) : Prop := match r with | .val v H => k v H.bl H.nx = .yes | _ => False
theorem newOpenK_ok {n es : Nat} {l : List AV} {B : Bl} {x : Nat} {k : KH} (h : newOpenK n es l B x k = .yes) : GoodH (newOpen ⟨B, x⟩ n es l) k := by
  simp only [newOpenK, ifK_yes, layK_eq, fN'_eq, pushK_eq] at h
  have hl : Nat.blt n limit = true := h.1
  simp only [newOpen, hl, Bool.not_true, cond_false, layC_eq, fN_eq, newB_eq]
  exact h.2
theorem appendK_ok {s : AV} {es m : Nat} {l : List AV} {B : Bl} {x : Nat} {k : KH} (h : appendK s es m l B x k = .yes) : GoodH (appendR ⟨B, x⟩ s es m l) k := by
  cases s with
  | nils =>
    simp only [appendK] at h
    simp only [appendR]
    cases hm : Nat.beq m 0 <;> rw [hm] at h
    · exact newOpenK_ok h
    · exact h
  | sl b o n c =>
    simp only [appendK, fN'_eq] at h
    obtain ⟨K, hK, h⟩ := blkK_yes h
    simp only [cellsK_yes] at h
    obtain ⟨t, sz, tl, ro, rfl, h⟩ := h
    simp only [appendR, hK x]
    cases hc : Nat.ble (Nat.add n m) c <;> rw [hc] at h
    · simp only [ifK_false, takeK_yes, appK_eq] at h
      obtain ⟨old, ho, h⟩ := h
      simp only [cond_false, ho]
      exact newOpenK_ok h
    · simp only [ifK_true, ifK_no] at h
      obtain ⟨rfl, h⟩ := h
      obtain ⟨t', ht, h⟩ := putK_ok _ _ _ h
      simp only [setBK_eq] at h
      simp only [cond_true, ht, setB_eq, fN_eq]
      exact h
  | so b o n z =>
    simp only [appendK, fN'_eq, ifK_yes] at h
    obtain ⟨hz, h⟩ := h
    obtain ⟨K, hK, h⟩ := blkK_yes h
    simp only [cellsK_yes, ifK_no] at h
    obtain ⟨t, sz, tl, ro, rfl, rfl, h⟩ := h
    simp only [appendR, hz, cond_true, hK x]
    cases hc : Nat.ble (Nat.add o (Nat.mul (Nat.add n m) es)) sz <;> rw [hc] at h
    · simp only [ifK_false, ifK_yes, scalLK_yes] at h
      obtain ⟨htl, h1, h2, h3, h⟩ := h
      have h3 : Nat.blt (Nat.add n m) limit = true := h3
      simp only [cond_false, htl, h1, h2, h3, Bool.and_self, cond_true]
      cases h0 : Nat.beq o 0 <;> rw [h0] at h
      · simp only [ifK_false, takeK_yes, goneK_eq, appK_eq] at h
        obtain ⟨old, ho, h⟩ := h
        simp only [cond_false, ho, setB_eq]
        exact newOpenK_ok h
      · simp only [ifK_true, goneK_eq, layK_eq, pushK_eq] at h
        simp only [cond_true, setB_eq, layC_eq, fN_eq, newB_eq]
        exact h
    · simp only [ifK_true] at h
      obtain ⟨t', ht, h⟩ := putK_ok _ _ _ h
      simp only [setBK_eq] at h
      simp only [cond_true, ht, setB_eq, fN_eq]
      exact h
  | se b o w z =>
    simp only [appendK, ifK_yes, ifK_no, scalLK_yes] at h
    obtain ⟨hz, hm, hs, h⟩ := h
    obtain ⟨K, hK, h⟩ := blkK_yes h
    simp only [cellsK_yes, ifK_yes, ifK_no, goneK_eq] at h
    obtain ⟨t, sz, tl, ro, rfl, rfl, rfl, h⟩ := h
    simp only [appendR, hz, hm, hs, Bool.not_false, Bool.and_self, cond_true, hK x, setB_eq]
    exact newOpenK_ok h
  | _ => cases h
theorem oneK_yes {l : List AV} {k : AV → Ans} : oneK l k = .yes ↔ ∃ v, l = [v] ∧ k v = .yes := by
  rcases l with _ | ⟨v, _ | ⟨w, l⟩⟩
  · constructor
    · intro h; cases h
    · rintro ⟨v, hv, _⟩; cases hv
  · constructor
    · intro h; exact ⟨v, rfl, h⟩
    · rintro ⟨u, hu, h⟩; cases hu; exact h
  · constructor
    · intro h; cases h
    · rintro ⟨v, hv, _⟩; cases hv
theorem twoK_yes {l : List AV} {k : AV → AV → Ans} : twoK l k = .yes ↔ ∃ v w, l = [v, w] ∧ k v w = .yes := by
  cases l with
  | nil =>
    constructor
    · intro h; cases h
    · rintro ⟨v, w, hv, _⟩; cases hv
  | cons v l =>
    have e : twoK (v :: l) k = oneK l fun w => k v w := rfl
    rw [e, oneK_yes]
    constructor
    · rintro ⟨w, rfl, h⟩; exact ⟨v, w, rfl, h⟩
    · rintro ⟨v', w, hl, h⟩; cases hl; exact ⟨w, rfl, h⟩
theorem appendC1_ok {E : EI} {xs : List AV} {B : Bl} {n : Nat} {k : KH} (h : runB (appendC1 E) xs B n k = .yes) : ∃ s x, xs = [s, x] ∧ GoodH (appS E s x ⟨B, n⟩) k := by
  simp only [appendC1, fN'_eq, runB_mk, twoK_yes] at h
  obtain ⟨s, x, rfl, h⟩ := h
  obtain ⟨m, l, hl, h⟩ := elemsK_ok h
  rw [ifK_yes] at h
  have h1 : Nat.blt m limit = true := h.1
  refine ⟨s, x, rfl, ?_⟩
  simp only [appS, hl, h1, cond_true]
  exact appendK_ok h.2
theorem appendC_ok {ts : List TypeId} {xs : List AV} {B : Bl} {n : Nat} {k : KH} (h : runB (appendC P ts) xs B n k = .yes) : GoodH (oAppend P ts xs ⟨B, n⟩) k := by
  rcases ts with _ | ⟨t, _ | ⟨u, _ | ⟨w, ts⟩⟩⟩
  · cases h
  · cases h
  · simp only [appendC] at h
    cases hE : elemI P t with
    | none => rw [hE] at h; cases h
    | some E =>
      rw [hE] at h
      simp only [optB_some] at h
      cases hu : P.underlying u with
      | none => rw [hu] at h; cases h
      | some d =>
        rw [hu] at h
        cases d with
        | slice e => obtain ⟨s, x, rfl, h2⟩ := appendC1_ok h; simp only [oAppend, hE, hu]; exact h2
        | string => obtain ⟨s, x, rfl, h2⟩ := appendC1_ok h; simp only [oAppend, hE, hu]; exact h2
        | _ => cases h
  · cases h
theorem minK_eq (m n : Nat) (k : Nat → Ans) : minK m n k = k (Nat.min m n) := by
  simp only [minK]
  cases h : Nat.ble m n with
  | true =>
    have : m ≤ n := by simpa [ble_iff] using h
    show k m = _
    rw [show Nat.min m n = min m n from rfl, Nat.min_eq_left this]
  | false =>
    have : ¬ m ≤ n := by simpa [ble_iff] using h
    show k n = _
    rw [show Nat.min m n = min m n from rfl, Nat.min_eq_right (by omega)]
theorem copyK_ok {b o n es m : Nat} {l : List AV} {B : Bl} {x : Nat} {k : KH} (h : copyK b o n es m l B x k = .yes) : GoodH (copyR ⟨B, x⟩ b o n es m l) k := by
  obtain ⟨K, hK, h⟩ := blkK_yes h
  simp only [cellsK_yes, ifK_no, minK_eq, fN'_eq, takeLK_eq] at h
  obtain ⟨t, sz, tl, ro, rfl, rfl, h⟩ := h
  obtain ⟨t', ht, h⟩ := putK_ok _ _ _ h
  rw [setBK_eq] at h
  simp only [copyR, hK x, fN_eq, ht, setB_eq]
  exact h
theorem copyC_ok {ts : List TypeId} {xs : List AV} {B : Bl} {n : Nat} {k : KH} (h : runB (copyC P ts) xs B n k = .yes) : GoodH (oCopy P ts xs ⟨B, n⟩) k := by
  rcases ts with _ | ⟨t, _ | ⟨u, _ | ⟨w, ts⟩⟩⟩
  · cases h
  · cases h
  · simp only [copyC] at h
    cases hE : elemI P t with
    | none => rw [hE] at h; cases h
    | some E =>
      rw [hE] at h
      simp only [optB_some, fN'_eq, runB_mk, twoK_yes] at h
      obtain ⟨d, x, rfl, h⟩ := h
      obtain ⟨m, l, hl, h⟩ := elemsK_ok h
      cases d with
      | sl b o n' c => simp only [oCopy, hE, hl]; exact copyK_ok h
      | so b o n' z =>
        simp only [copyV, ifK_yes] at h
        simp only [oCopy, hE, hl, h.1, cond_true]
        exact copyK_ok h.2
      | nils => simp only [oCopy, hE, hl]; exact h
      | _ => cases h
  · cases h
theorem clearK_ok {b o n : Nat} {l : List AV} {B : Bl} {x : Nat} {k : KH} (h : clearK b o n l B x k = .yes) : GoodH (clearR ⟨B, x⟩ b o n l) k := by
  obtain ⟨K, hK, h⟩ := blkK_yes h
  simp only [cellsK_yes, ifK_no] at h
  obtain ⟨t, sz, tl, ro, rfl, rfl, h⟩ := h
  obtain ⟨t', ht, h⟩ := putK_ok _ _ _ h
  rw [setBK_eq] at h
  simp only [clearR, hK x, ht, setB_eq]
  exact h
theorem clearC_ok {ts : List TypeId} {xs : List AV} {B : Bl} {n : Nat} {k : KH} (h : runB (clearC P ts) xs B n k = .yes) : GoodH (oClear P ts xs ⟨B, n⟩) k := by
  rcases ts with _ | ⟨t, _ | ⟨u, ts⟩⟩
  · cases h
  · simp only [clearC] at h
    cases hE : elemI P t with
    | none => rw [hE] at h; cases h
    | some E =>
      rw [hE] at h
      simp only [optB_some, fN'_eq, runB_mk, oneK_yes] at h
      obtain ⟨d, rfl, h⟩ := h
      cases d with
      | sl b o n' c => simp only [oClear, hE]; exact clearK_ok h
      | so b o n' z =>
        simp only [clearV, ifK_yes] at h
        simp only [oClear, hE, h.1, cond_true]
        exact clearK_ok h.2
      | nils => simp only [oClear, hE]; exact h
      | _ => cases h
  · cases h
theorem lenC_ok {ts : List TypeId} {xs : List AV} {B : Bl} {n : Nat} {k : KH} (h : runB (lenC P ts) xs B n k = .yes) : GoodH (oLen P ts xs ⟨B, n⟩) k := by
  rcases ts with _ | ⟨t, _ | ⟨u, ts⟩⟩
  · cases h
  · simp only [lenC, bindB_eq, runB_mk, oneK_yes] at h
    obtain ⟨v, rfl, h⟩ := h
    cases hd : P.underlying t with
    | none => rw [hd] at h; cases h
    | some d =>
      rw [hd] at h
      cases d with
      | string =>
        simp only [lenV, runB_mk, strK_yes] at h
        obtain ⟨l, x, rfl, h⟩ := h
        simp only [oLen, hd]; exact h
      | array m e => simp only [oLen, hd]; cases v <;> exact h
      | slice e => cases v <;> first | (cases h; done) | (simp only [oLen, hd]; exact h)
      | map a b =>
        cases v with
        | nilm => simp only [oLen, hd]; exact h
        | map b =>
          simp only [lenV, runB_mk] at h
          obtain ⟨K, hK, h⟩ := blkK_yes h
          simp only [mpK_yes, fN'_eq] at h
          obtain ⟨es, rfl, h⟩ := h
          simp only [oLen, hd, hK n]; exact h
        | _ => cases h
      | _ => cases h
  · cases h
theorem oCap_heap {ts : List TypeId} {xs : List AV} {H H1 : Heap} {v : AV} (h : oCap P ts xs H = .val v H1) (H2 : Heap) : oCap P ts xs H2 = .val v H2 := by
  unfold oCap at h ⊢
  split at h
  · split at h <;> first | (injection h with h1 h2; simp_all; done) | (cases h; done)
  · cases h
theorem oMinMax_heap {mx : Bool} {xs : List AV} {H H1 : Heap} {v : AV} (h : oMinMax mx xs H = .val v H1) (H2 : Heap) : oMinMax mx xs H2 = .val v H2 := by
  unfold oMinMax at h ⊢
  simp only [fI_eq] at h ⊢
  split at h
  · injection h with h1 h2; rw [h1]
  · cases h
theorem builtC_ok {b : Builtin} {ts : List TypeId} {xs : List AV} {B : Bl} {n : Nat} {k : KH} (h : runB (builtC P b ts) xs B n k = .yes) : GoodH (oBuiltin P b ts xs ⟨B, n⟩) k := by
  cases b with
  | append => exact appendC_ok h
  | copy => exact copyC_ok h
  | clear => exact clearC_ok h
  | len => exact lenC_ok h
  | cap =>
    simp only [builtC, runB_mk, orK, orV_yes] at h
    obtain ⟨v, H1, h1, h⟩ := h
    simp only [oBuiltin, oCap_heap h1]; exact h
  | min =>
    simp only [builtC, runB_mk, orK, orV_yes] at h
    obtain ⟨v, H1, h1, h⟩ := h
    simp only [oBuiltin, oMinMax_heap h1]; exact h
  | max =>
    simp only [builtC, runB_mk, orK, orV_yes] at h
    obtain ⟨v, H1, h1, h⟩ := h
    simp only [oBuiltin, oMinMax_heap h1]; exact h
  | _ => cases h
/-! ### maps -/
theorem keyT_zero {d : Option TypeDesc} (h : Nat.beq (keyT d) 0 = true) : ∀ e, d = some e → plainK e = false := by
  rintro e rfl
  cases e <;> first | rfl | cases h
theorem lookS_heap {o : Option (List TypeDesc)} {ok : Bool} {z k : AV} {es : List (AV × AV)} {H H' : Heap} {v : AV} (h : lookS o ok z k es H = .val v H') (H2 : Heap) : lookS o ok z k es H2 = .val v H2 := by
  unfold lookS at h ⊢
  split at h
  · split at h
    · cases ok <;> simp only [cond_true, cond_false] at h ⊢ <;> (injection h with h1 h2; subst h1; rfl)
    · cases ok <;> simp only [cond_true, cond_false] at h ⊢ <;> (injection h with h1 h2; subst h1; rfl)
    · cases h
  · cases h
theorem keyV_ok {d : Option TypeDesc} {v : AV} {x : Ans} (h : keyV (keyT d) v x = .yes) : ∃ d', d = some d' ∧ plainK d' = true ∧ x = .yes ∧ ((∃ j, d' = .int j) ∧ (∃ j n, v = .int j n) ∨ d' = .string ∧ ∃ l y, v = .str l y) := by
  rcases d with _ | d
  · cases h
  · cases d with
    | int j =>
      replace h : intK v (fun _ _ => x) = .yes := h
      rw [intK_yes] at h
      obtain ⟨i, n, rfl, h⟩ := h
      exact ⟨_, rfl, rfl, h, .inl ⟨⟨_, rfl⟩, _, _, rfl⟩⟩
    | string =>
      replace h : strK v (fun _ _ => x) = .yes := h
      rw [strK_yes] at h
      obtain ⟨l, y, rfl, h⟩ := h
      exact ⟨_, rfl, rfl, h, .inr ⟨rfl, _, _, rfl⟩⟩
    | _ => cases h
theorem keyEqK_ok {d : TypeDesc} {a b : AV} {k : Bool → Ans} (hd : (∃ j, d = .int j) ∧ (∃ j n, a = .int j n) ∨ d = .string ∧ ∃ l y, a = .str l y) (h : keyEqK a b k = .yes) : ∃ c, keyEq d a b = some c ∧ k c = .yes := by
  rcases hd with ⟨⟨j, rfl⟩, i, n, rfl⟩ | ⟨rfl, l, y, rfl⟩
  · simp only [keyEqK, intK_yes, kindK_yes, ieqK_eq] at h
    obtain ⟨i', n', rfl, rfl, h⟩ := h
    exact ⟨_, by simp only [keyEq, decide_true, cond_true], h⟩
  · simp only [keyEqK, strK_yes, strEqK_eq] at h
    obtain ⟨m, z, rfl, h⟩ := h
    exact ⟨_, rfl, h⟩
theorem findK_ok {d : TypeDesc} {a : AV} (hd : (∃ j, d = .int j) ∧ (∃ j n, a = .int j n) ∨ d = .string ∧ ∃ l y, a = .str l y) : ∀ (l : List (AV × AV)) (i : Nat) {k : Nat → AV → Ans} {x : Ans}, findK l i a k x = .yes →
    (findE d a l i = some none ∧ x = .yes) ∨ (∃ j v, findE d a l i = some (some (j, v)) ∧ k j v = .yes)
  | [], i, k, x, h => .inl ⟨rfl, h⟩
  | (b, v) :: l, i, k, x, h => by
    replace h : keyEqK a b (fun c => Bool.rec (motive := fun _ => Ans) (fN' (Nat.succ i) fun i => findK l i a k x) (k i v) c) = .yes := h
    obtain ⟨c, hc, h⟩ := keyEqK_ok hd h
    cases c with
    | true => exact .inr ⟨i, v, by simp only [findE, hc], h⟩
    | false =>
      rcases findK_ok hd l (i + 1) h with ⟨h1, h2⟩ | ⟨j, w, h1, h2⟩
      · exact .inl ⟨by simp only [findE, hc]; exact h1, h2⟩
      · exact .inr ⟨j, w, by simp only [findE, hc]; exact h1, h2⟩
theorem setEK_eq : ∀ (i : Nat) (a v : AV) (l : List (AV × AV)) (k : List (AV × AV) → Ans), setEK i a v l k = k (setE l i a v)
  | 0, _a, _v, [], _k => rfl
  | 0, _a, _v, _x :: _l, _k => rfl
  | _i + 1, _a, _v, [], _k => rfl
  | i + 1, a, v, _x :: l, _k => setEK_eq i a v l _
theorem addEK_eq : ∀ (l : List (AV × AV)) (a v : AV) (k : List (AV × AV) → Ans), addEK l a v k = k (l ++ [(a, v)])
  | [], _a, _v, _k => rfl
  | _x :: l, a, v, _k => addEK_eq l a v _
theorem packK_ok : ∀ (l : List AV) {k : Nat → Ans}, packK l k = .yes → ∃ x, packA l = some x ∧ k x = .yes
  | [], k, h => ⟨0, rfl, h⟩
  | v :: l, k, h => by
    replace h : intK v (fun j i => kindK j .u8 (natK i fun c => ifK (Nat.blt c 256) (packK l fun x => fN' (Nat.add c (Nat.mul 256 x)) k) .no)) = .yes := h
    simp only [intK_yes, kindK_yes, natK_yes, ifK_yes] at h
    obtain ⟨j, n, rfl, rfl, c, rfl, hc, h⟩ := h
    obtain ⟨x, hx, h⟩ := packK_ok l h
    exact ⟨_, by simp only [packA, hx, hc, cond_true], h⟩
end Eng
end Go.Proofs.YtlajkdbpmkodpaaGreatDoor
namespace Go.Proofs.YtlajkdbpmkodpaaGreatDoor
namespace Eng
open Go
noncomputable section
/-! ### operations -/
/-- what goes on where a panic comes -/
abbrev KP := AV → Bl → Nat → Ans
abbrev CallK := FuncId → List AV → Bl → Nat → KH → KP → Ans
abbrev OpT := CallK → Fr → Bl → Nat → Dfr → KD → KP → Ans
def noOp : OpT := fun _ _ _ _ _ _ _ => .no
def oP1 (x : Operand) (f : Bx Pur1) : Bx OpT := bindB (opnd x) fun g => bindB f fun f => .mk fun _ T B n D k _ => g T fun v => f v fun v => k v B n D
def oP2 (x y : Operand) (f : Bx Pur2) : Bx OpT := bindB (opnd x) fun g => bindB (opnd y) fun h => bindB f fun f => .mk fun _ T B n D k _ => g T fun u => h T fun v => f u v fun v => k v B n D
def oV1 (x : Operand) (f : Bx Val1) : Bx OpT := bindB (opnd x) fun g => bindB f fun f => .mk fun _ T B n D k _ => g T fun v => f v B n fun v B n => k v B n D
def oV2 (x y : Operand) (f : Bx Val2) : Bx OpT := bindB (opnd x) fun g => bindB (opnd y) fun h => bindB f fun f => .mk fun _ T B n D k _ => g T fun u => h T fun v => f u v B n fun v B n => k v B n D
def oV3 (x y z : Operand) (f : Bx Val3) : Bx OpT := bindB (opnd x) fun g => bindB (opnd y) fun h => bindB (opnd z) fun i => bindB f fun f => .mk fun _ T B n D k _ => g T fun u => h T fun v => i T fun w => f u v w B n fun v B n => k v B n D
def oFr (f : Bx FrV) : Bx OpT := bindB f fun f => .mk fun _ T B n D k _ => f T B n fun v B n => k v B n D
def callC (P : Program) (c : Call) : Bx OpT := match c with
  | ⟨c, as, ts⟩ => bindB (opndL as.toList) fun ga => (match c with
    | .builtin .panic => .mk fun _ T B n _ _ p => ga T fun xs => oneK xs fun v => ifcK v fun t v => p (.ifc t v) B n
    | .builtin b => bindB (builtC P b ts.toList) fun f => .mk fun _ T B n D k _ => ga T fun xs => f xs B n fun v B n => k v B n D
    | .value f => bindB (opnd f) fun g => .mk fun call T B n D k p => ga T fun xs => g T fun v => fnK v fun f l => appK xs l fun xs => call f xs B n (fun v B n => k v B n D) p
    | .invoke _ _ => .mk noOp)
def deferC (c : Call) : Bx OpT := match c with
  | ⟨c, as, _⟩ => bindB (opndL as.toList) fun ga => (match c with
    | .value f => bindB (opnd f) fun g => .mk fun _ T B n D k _ => ga T fun xs => g T fun v => fnK v fun f l => appK xs l fun xs => k undefA B n ((f, xs) :: D)
    | _ => .mk noOp)
def makeFuncC (fn : Fn) (first : List Operand) (captured : List Operand) : Bx OpT := match fn, first with
  | .func f, [] => bindB (opndL captured) fun g => .mk fun _ T B n D k _ => g T fun l => k (.fn f l) B n D
  | _, _ => .mk noOp
def opC (o : Op) : Program → Bx OpT := match o with
  | .move x => fun _ => bindB (opnd x) fun g => .mk fun _ T B n D k _ => g T fun v => k v B n D
  | .assign x => fun _ => bindB (opnd x) fun g => .mk fun _ T B n D k _ => g T fun v => k v B n D
  | .pick c a b => fun _ => bindB (opnd c) fun gc => bindB (opnd a) fun ga => bindB (opnd b) fun gb => .mk fun _ T B n D k _ => gc T fun c => boolK c fun c => Bool.rec (motive := fun _ => Ans) (gb T fun v => k v B n D) (ga T fun v => k v B n D) c
  | .load t a => fun P => oV1 a (loadC (plcOf P t 0))
  | .store t a x => fun P => oV2 a x (storeC (szOf P t))
  | .fieldAddr t x f => fun P => oP1 x (addrC (fieldPlc P t f))
  | .indexAddr t x i => fun P => oP2 x i (indexAddrC P (P.underlying t))
  | .binOp op t x y _ => fun P => oP2 x y (binC P op t y)
  | .call c => fun P => callC P c
  | .defer c => fun _ => deferC c
  | .alloc t => fun P => optB (zeroOf P t) noOp fun v => fVA v fun v => .mk fun _ _ B n D k _ => newK v B n fun v B n => k v B n D
  | .box _ x => fun _ => oV1 x (.mk newK)
  | .build t ps => fun P => oFr (buildC P t ps.toList (P.underlying t))
  | .buildSlice t n ps => fun P => oFr (buildSliceC P t n ps.toList)
  | .nilCheck x => fun _ => oP1 x (.mk nilC)
  | .unOp op _ x => fun _ => oP1 x (unC op)
  | .convert s d x => fun P => oV1 x (convC P (P.underlying s) (P.underlying d))
  | .makeInterface t x => fun P => oP1 x (ifaceC (P.underlying t) t)
  | .makeFunc fn a b => fun _ => makeFuncC fn a.toList b.toList
  | .makeMap _ none => fun _ => .mk fun _ _ B n D k _ => pushK (.mp []) B n fun b B n => k (.map b) B n D
  | .makeSlice t l c => fun P => oV2 l c (makeSliceC P t)
  | .slice t x a b c => fun P => bindB (opnd x) fun g => bindB (sliceC P a b c (P.underlying t)) fun f => .mk fun _ T B n D k _ => g T fun v => f T v B fun v => k v B n D
  | .field t x f => fun P => oP1 x (partC (fieldPlc P t f))
  | .index t x i => fun P => oP2 x i (indexC P (P.underlying t))
  | .lookup t m x ok => fun P => oV2 m x (lookC P ok (P.underlying t))
  | .mapUpdate t m a b => fun P => oV3 m a b (mapUpC P (P.underlying t))
  | .typeAssert x _ a ok => fun P => oP1 x (assertC P a ok (P.underlying a))
  | .panic x => fun _ => bindB (opnd x) fun g => .mk fun _ T B n _ _ p => g T fun v => ifcK v fun t v => p (.ifc t v) B n
  | .extract x i => fun _ => bindB (opnd x) fun g => .mk fun _ T B n D k _ => g T fun v => tupK v fun l => nthK i l fun v => k v B n D
  | _ => fun _ => .mk noOp

/-! ### regions -/
abbrev KS := Fr → Bl → Nat → Dfr → Ans
abbrev KE := Ex → Fr → Bl → Nat → Dfr → Ans
abbrev KQ := AV → Fr → Bl → Nat → Dfr → Ans
abbrev StT := CallK → Fr → Bl → Nat → Dfr → KS → KQ → Ans
def noSt : StT := fun _ _ _ _ _ _ _ => .no
def dstC (d : Option Tmp) : Bx SetT := match d with
  | some t => tmpS t
  | none => .mk fun _ T k => k T
abbrev GdT := Fr → (Bool → Ans) → Ans
def wantV (v : AV) : Bool → (Bool → Ans) → Ans := match v with | .bool b => fun w k => fB' (b == w) k | _ => fun _ k => k false
def guardC (g : Option (Nat × Bool)) : List Oper → Option (Bx GdT) := match g with
  | none => fun _ => none
  | some (j, w) => fun ops => some (match (ops[j]?).bind (·.dst) with | some t => bindB (tmpG t) fun gt => .mk fun T k => gt T fun v => wantV v w k | none => .mk fun _ k => k false)
def operC1 (g : Option (Bx GdT)) (fo : Bx OpT) (d : Bx SetT) : Bx StT := bindB fo fun fo => bindB d fun pd => Option.rec (motive := fun _ => Bx StT)
  (.mk fun call T B n D k q => tk (fo call T B n D (fun v B n D => pd v T fun T => k T B n D) (fun v B n => q v T B n D)))
  (fun g => bindB g fun g => .mk fun call T B n D k q => tk (g T fun b => Bool.rec (motive := fun _ => Ans) (pd undefA T fun T => k T B n D) (fo call T B n D (fun v B n D => pd v T fun T => k T B n D) (fun v B n => q v T B n D)) b)) g
def operC (o : Oper) : Program → List Oper → Bx StT := match o with
  | ⟨d, op, _, _, _, g⟩ => fun P ops => operC1 (guardC g ops) (opC op P) (dstC d)
def opsC (l : List Oper) : Program → List Oper → Bx StT :=
  List.rec (motive := fun _ => Program → List Oper → Bx StT) (fun _ _ => .mk fun _ T B n D k _ => k T B n D)
    (fun o _ ih P ops => bindB (operC o P ops) fun fo => bindB (ih P ops) fun fl => .mk fun call T B n D k q => fo call T B n D (fun T B n D => fl call T B n D k q) q) l
def noCall : CallK := fun _ _ _ _ _ _ => .no
def noPan : KP := fun _ _ _ => .no
def eqK (u : AV) : AV → Ans → Ans := match u with
  | .bool a => fun v x => boolK v fun b => ifK (a == b) x .no
  | .int j a => fun v x => intK v fun i b => kindK j i (ieqK a b fun c => ifK c x .no)
  | .str l a => fun v x => strK v fun m b => ifK (Nat.beq l m) (ifK (Nat.beq a b) x .no) .no
  | .ptr a i => fun v x => ptrK v fun b j => ifK (Nat.beq a b) (ifK (Nat.beq i j) x .no) .no
  | u => fun v x => ifK (AV.eq u v) x .no
def emptyK (l : Dfr) : Ans → Ans := match l with | [] => fun k => k | _ => fun _ => .no
def eqC (d : Option Tmp) : Bx (Fr → AV → Ans → Ans) := match d with | some t => (bindB (tmpG t) fun gt => .mk fun T v x => gt T fun u => eqK u v x) | none => .mk fun _ _ x => x
/-- whether a read says the same still -/
def ckC1 (g : Option (Bx GdT)) (fo : Bx OpT) (d : Option Tmp) : Bx StT := bindB fo fun fo => bindB (eqC d) fun eq =>
  Option.rec (motive := fun _ => Bx StT)
  (.mk fun _ T B n D k _ => tk (fo noCall T B n [] (fun v _ _ E => emptyK E (eq T v (k T B n D))) noPan))
  (fun g => bindB g fun g => .mk fun _ T B n D k _ => tk (g T fun b => Bool.rec (motive := fun _ => Ans) (k T B n D) (fo noCall T B n [] (fun v _ _ E => emptyK E (eq T v (k T B n D))) noPan) b)) g
def ckC (o : Oper) : Program → List Oper → Bx StT := match o with
  | ⟨d, op, _, _, _, g⟩ => fun P ops => ckC1 (guardC g ops) (opC op P) d
/-- slots made empty -/
def tmpN (t : Nat) : Bx (Fr → (Fr → Ans) → Ans) := Bool.rec (motive := fun _ => Bx (Fr → (Fr → Ans) → Ans)) (.mk fun _ _ => .no)
  (bindB (modN (dg8 (Nat.div t 64))) fun mi => bindB (modN (dg8 (Nat.mod (Nat.div t 8) 8))) fun mj => bindB (modN (dg8 (Nat.mod t 8))) fun ml =>
    .mk fun T k => mi T (fun A => mj A (fun B => ml B fun _ p => p lf0)) k) (Nat.blt t 512)
def clrC (l : List Oper) : Bx (Fr → (Fr → Ans) → Ans) := List.rec (motive := fun _ => Bx (Fr → (Fr → Ans) → Ans)) (.mk fun T k => k T)
  (fun o _ ih => Option.rec (motive := fun _ => Bx (Fr → (Fr → Ans) → Ans)) ih (fun t => bindB (tmpN t) fun c => bindB ih fun r => .mk fun T k => c T fun T => r T k) o.dst) l
/-- a panic is let through where all else is done, and what the region made is gone -/
def finC (fin : Bool) (ops : List Oper) (fo : Bx StT) : Bx StT := bindB fo fun fo => Bool.rec (motive := fun _ => Bx StT)
  (.mk fun call T B n D k _ => fo call T B n D k fun _ _ _ _ _ => .no)
  (bindB (clrC ops) fun c => .mk fun call T B n D k q => fo call T B n D k fun v T B n D => c T fun T => q v T B n D) fin
def mvC (v : Mv) : Program → List Oper → Bx StT := match v with
  | .ex i fin => fun P ops => optB (ops[i]?) noSt fun o => finC fin ops (operC o P ops)
  | .ck i => fun P ops => optB (ops[i]?) noSt fun o => ckC o P ops
def drawC (l : List Mv) : Program → List Oper → Bx StT :=
  List.rec (motive := fun _ => Program → List Oper → Bx StT) (fun _ _ => .mk fun _ T B n D k _ => k T B n D)
    (fun v _ ih P ops => bindB (mvC v P ops) fun fo => bindB (ih P ops) fun fl => .mk fun call T B n D k q => fo call T B n D (fun T B n D => fl call T B n D k q) q) l
/-- the plans of a function's regions that draw, by their numbers -/
abbrev PlT := List (Nat × List Mv)
def lookP (id : Nat) (pl : PlT) : Option (List Mv) := List.rec (motive := fun _ => Option (List Mv)) none (fun p _ ih => Prod.rec (motive := fun _ => Option (List Mv)) (fun i l => Bool.rec (motive := fun _ => Option (List Mv)) ih (some l) (Nat.beq i id)) p) pl
def regC (draw : Bool) : Nat → Array Oper → Program → PlT → Bx StT := match draw with
  | false => fun _ ops P _ => opsC ops.toList P ops.toList
  | true => fun id ops P pl => optB (lookP id pl) noSt fun l => drawC l P ops.toList

/-! ### code -/
def seqE (e : Ex) : Ans → (Ex → Ans) → Ans := match e with
  | .normal => fun n _ => n
  | e => fun _ k => k e
def blockE (e : Ex) : Nat → (Ex → Ans) → Ans := match e with
  | .exit i => fun id k => ifK (Nat.beq i id) (k .normal) (k (.exit i))
  | e => fun _ k => k e
abbrev ExK := Code → PlT → Fr → Bl → Nat → Dfr → KE → Ans
abbrev CoT := ExK → CallK → Fr → Bl → Nat → Dfr → KE → Ans
def noCo : CoT := fun _ _ _ _ _ _ _ => .no
def codeC (c : Code) : Program → PlT → Bx CoT :=
  Code.rec (motive := fun _ => Program → PlT → Bx CoT)
    (fun _ _ => .mk fun _ _ T B n D k => k .normal T B n D)
    (fun id ops draw P pl => bindB (regC draw id ops P pl) fun f => .mk fun _ call T B n D k => f call T B n D (fun T B n D => k .normal T B n D) (fun v T B n D => k (.panic v) T B n D))
    (fun _ _ iha ihb P pl => .mk fun ih call T B n D k => runB (iha P pl) ih call T B n D fun e T B n D => seqE e (runB (ihb P pl) ih call T B n D k) fun e => k e T B n D)
    (fun c _ _ iha ihb P pl => bindB (opnd c) fun g => .mk fun ih call T B n D k => tk (g T fun c => boolK c fun c => Bool.rec (motive := fun _ => Ans) (runB (ihb P pl) ih call T B n D k) (runB (iha P pl) ih call T B n D k) c))
    (fun id _ ihb P pl => .mk fun ih call T B n D k => runB (ihb P pl) ih call T B n D fun e T B n D => blockE e id fun e => k e T B n D)
    (fun b ihb P pl => .mk fun ih call T B n D k => runB (ihb P pl) ih call T B n D fun e T B n D => seqE e (ih (.loop b) pl T B n D k) fun e => k e T B n D)
    (fun _ _ _ _ _ _ _ _ => .mk noCo)
    (fun id _ _ => .mk fun _ _ T B n D k => k (.exit id) T B n D)
    (fun _ ihb => ihb)
    (fun _ _ _ => .mk fun _ _ T B n D k => k .normal T B n D)
    (fun _ _ _ => .mk noCo)
    (fun _ _ => .mk fun _ _ T B n D k => k .ret T B n D)
    (fun _ _ _ => .mk noCo) c
/-! ### functions -/
def argsF (xs : List AV) : Nat → Fr → (Fr → Ans) → Ans :=
  List.rec (motive := fun _ => Nat → Fr → (Fr → Ans) → Ans) (fun _ T k => k T) (fun v _ ih i T k => runB (tmpS i) v T fun T => fN' (Nat.succ i) fun i => ih i T k) xs
abbrev RsT := Fr → Bl → (List AV → Ans) → Ans
def resC1 (P : Program) (r : ResultVar) : Bx (Fr → Bl → KV → Ans) := match r with
  | .tmp t => bindB (tmpG t) fun g => .mk fun T _ k => g T k
  | .cell a t => bindB (tmpG a) fun g => bindB (loadC (plcOf P t 0)) fun f => .mk fun T B k => g T fun v => f v B 0 fun v _ _ => k v
def resC (P : Program) (l : List ResultVar) : Bx RsT :=
  List.rec (motive := fun _ => Bx RsT) (.mk fun _ _ k => k []) (fun r _ ih => bindB (resC1 P r) fun f => bindB ih fun g => .mk fun T B k => f T B fun v => g T B fun l => k (v :: l)) l
def oneF (l : List AV) : (AV → Ans) → Ans := match l with
  | [v] => fun k => k v
  | l => fun k => k (.tup l)
/-- how a frame leaves -/
def leaveK (e : Ex) : (Md → Ans) → Ans := match e with
  | .normal => fun f => f .ret
  | .ret => fun f => f .ret
  | .panic v => fun f => f (.pan v)
  | .exit _ => fun _ => .no
def endE (e : Ex) : Ans → Ans := match e with
  | .normal => fun k => k
  | .ret => fun k => k
  | _ => fun _ => .no
/-- deferred functions: they may recover; what panics in them is not followed -/
abbrev KU := Fr → Bl → Nat → Dfr → Up → Ans
abbrev SuT := CallK → Fr → Bl → Nat → Dfr → Up → KU → Ans
def recovK (u : Up) : (AV → Up → Ans) → Ans := match u with
  | .pan v => fun k => k v (.done v)
  | .none => fun k => k .nili .none
  | .done v => fun k => k .nili (.done v)
abbrev OuT := CallK → Fr → Bl → Nat → Up → (AV → Bl → Nat → Up → Ans) → Ans
def opDC (o : Op) : Program → Bx OuT := match o with
  | .call ⟨.builtin .recover, xs, _⟩ => fun _ => bindB (opndL xs.toList) fun ga => .mk fun _ T B n u k => ga T fun _ => recovK u fun v u => k v B n u
  | o => fun P => bindB (opC o P) fun fo => .mk fun call T B n u k => fo call T B n [] (fun v B n E => emptyK E (k v B n u)) noPan
def operDC1 (g : Option (Bx GdT)) (fo : Bx OuT) (d : Bx SetT) : Bx SuT := bindB fo fun fo => bindB d fun pd => Option.rec (motive := fun _ => Bx SuT)
  (.mk fun call T B n D u k => tk (fo call T B n u fun v B n u => pd v T fun T => k T B n D u))
  (fun g => bindB g fun g => .mk fun call T B n D u k => tk (g T fun b => Bool.rec (motive := fun _ => Ans) (pd undefA T fun T => k T B n D u) (fo call T B n u fun v B n u => pd v T fun T => k T B n D u) b)) g
def operDC (o : Oper) : Program → List Oper → Bx SuT := match o with
  | ⟨d, op, _, _, _, g⟩ => fun P ops => operDC1 (guardC g ops) (opDC op P) (dstC d)
def opsDC (l : List Oper) : Program → List Oper → Bx SuT :=
  List.rec (motive := fun _ => Program → List Oper → Bx SuT) (fun _ _ => .mk fun _ T B n D u k => k T B n D u)
    (fun o _ ih P ops => bindB (operDC o P ops) fun fo => bindB (ih P ops) fun fl => .mk fun call T B n D u k => fo call T B n D u fun T B n D u => fl call T B n D u k) l
abbrev KEU := Ex → Fr → Bl → Nat → Dfr → Up → Ans
abbrev DcT := ExK → CallK → Fr → Bl → Nat → Dfr → Up → KEU → Ans
def noDc : DcT := fun _ _ _ _ _ _ _ _ => .no
def codeDC (c : Code) : Program → PlT → Bx DcT :=
  Code.rec (motive := fun _ => Program → PlT → Bx DcT)
    (fun _ pl => .mk fun ex _ T B n D u k => ex .skip pl T B n D fun e T B n D => k e T B n D u)
    (fun id ops draw => Bool.rec (motive := fun _ => Program → PlT → Bx DcT)
      (fun P _ => bindB (opsDC ops.toList P ops.toList) fun f => .mk fun _ call T B n D u k => f call T B n D u fun T B n D u => k .normal T B n D u)
      (fun _ pl => .mk fun ex _ T B n D u k => ex (.region id ops true) pl T B n D fun e T B n D => k e T B n D u) draw)
    (fun _ _ iha ihb P pl => .mk fun ex call T B n D u k => runB (iha P pl) ex call T B n D u fun e T B n D u => seqE e (runB (ihb P pl) ex call T B n D u k) fun e => k e T B n D u)
    (fun c _ _ iha ihb P pl => bindB (opnd c) fun g => .mk fun ex call T B n D u k => tk (g T fun c => boolK c fun c => Bool.rec (motive := fun _ => Ans) (runB (ihb P pl) ex call T B n D u k) (runB (iha P pl) ex call T B n D u k) c))
    (fun id b _ _ pl => .mk fun ex _ T B n D u k => ex (.block id b) pl T B n D fun e T B n D => k e T B n D u)
    (fun b _ _ pl => .mk fun ex _ T B n D u k => ex (.loop b) pl T B n D fun e T B n D => k e T B n D u)
    (fun _ _ _ _ _ _ _ _ => .mk noDc)
    (fun id _ pl => .mk fun ex _ T B n D u k => ex (.exit id) pl T B n D fun e T B n D => k e T B n D u)
    (fun b _ _ pl => .mk fun ex _ T B n D u k => ex (.scope b) pl T B n D fun e T B n D => k e T B n D u)
    (fun l _ pl => .mk fun ex _ T B n D u k => ex (.label l) pl T B n D fun e T B n D => k e T B n D u)
    (fun _ _ _ => .mk noDc)
    (fun _ pl => .mk fun ex _ T B n D u k => ex .ret pl T B n D fun e T B n D => k e T B n D u)
    (fun _ _ _ => .mk noDc) c
abbrev DfT := ExK → CallK → List AV → Bl → Nat → Md → (Md → Bl → Nat → Ans) → Ans
def noDf : DfT := fun _ _ _ _ _ _ _ => .no
/-- a function's plans, out of the table -/
def plF (f : FuncId) (pt : List PlT) : PlT := Nat.rec (motive := fun _ => List PlT → PlT) (fun l => List.rec (motive := fun _ => PlT) [] (fun p _ _ => p) l) (fun _ ih l => List.rec (motive := fun _ => PlT) [] (fun _ l _ => ih l) l) f pt
def dfnC (P : Program) (pt : List PlT) (f : FuncId) : Bx DfT := optB P.funcs[f]? noDf fun fn => optB fn.body noDf fun c => bindB (codeDC c P (plF f pt)) fun fc => bindB (resC P fn.results.toList) fun fr =>
  .mk fun ex call xs B n m k => argsF xs 0 fr0 fun T => fc ex call T B n [] (upOf m) fun e T B n D u => endE e (emptyK D (fr T B fun _ => k (mdOf u) B n))
def dfsF (P : Program) (pt : List PlT) (ex : ExK) (call : CallK) (ds : Dfr) : Md → Bl → Nat → (Md → Bl → Nat → Ans) → Ans :=
  List.rec (motive := fun _ => Md → Bl → Nat → (Md → Bl → Nat → Ans) → Ans) (fun m B n k => k m B n)
    (fun d _ ih m B n k => Prod.rec (motive := fun _ => Ans) (fun f xs => runB (dfnC P pt f) ex call xs B n m fun m B n => ih m B n k) d) ds
abbrev FnT := ExK → CallK → List AV → Bl → Nat → KH → KP → Ans
def noFn : FnT := fun _ _ _ _ _ _ _ => .no
def mdK (m : Md) (k : Ans) (p : AV → Ans) : Ans := match m with | .ret => k | .pan v => p v
def fnC (P : Program) (pt : List PlT) (f : FuncId) : Bx FnT := optB P.funcs[f]? noFn fun fn => optB fn.body noFn fun c => bindB (resC P fn.results.toList) fun fr =>
  .mk fun ex call xs B n k p => argsF xs 0 fr0 fun T => ex c (plF f pt) T B n [] fun e T B n D => leaveK e fun m => dfsF P pt ex call D m B n fun m B n => mdK m (fr T B fun l => oneF l fun v => k v B n) fun v => p v B n
def callK (P : Program) (pt : List PlT) (ex : ExK) (call : CallK) : CallK := fun f xs B n k p => runB (fnC P pt f) ex call xs B n k p
/-- the levels: code, calls -/
abbrev Sel (b : Bool) : Type := Bool.rec (motive := fun _ => Type) CallK ExK b
def lvF (P : Program) (pt : List PlT) (n : Nat) : (b : Bool) → Sel b := Nat.rec (motive := fun _ => (b : Bool) → Sel b)
  (fun b => Bool.rec (motive := Sel) (fun _ _ _ _ _ _ => .no : CallK) (fun _ _ _ _ _ _ _ => .no : ExK) b)
  (fun _ ih b => Bool.rec (motive := Sel) (callK P pt (ih true) (ih false)) (fun c pl T B x D k => runB (codeC c P pl) (ih true) (callK P pt (ih true) (ih false)) T B x D k : ExK) b) n
def exF (P : Program) (pt : List PlT) (n : Nat) : ExK := lvF P pt n true
def callN (P : Program) (pt : List PlT) (n : Nat) : CallK := lvF P pt n false
end
end Eng
end Go.Proofs.YtlajkdbpmkodpaaGreatDoor
namespace Go.Proofs.YtlajkdbpmkodpaaGreatDoor
namespace Eng
open Go
variable {P : Program}

/-- what an operation's result goes on with -/
def Good (r : OR) (B : Bl) (n : Nat) (D : Dfr) (k : KD) (p : KP) : Prop := match r with
  | .val v H => k v H.bl H.nx D = .yes
  | .dfr f xs => k undefA B n ((f, xs) :: D) = .yes
  | .pan v H => p v H.bl H.nx = .yes
  | _ => False
/-- a call, as the kernel runs it -/
def RC (cK : CallK) (c : CallF) : Prop := ∀ f xs B n k p, cK f xs B n k p = .yes → (∃ v H', c f xs ⟨B, n⟩ = .ret v H' ∧ k v H'.bl H'.nx = .yes) ∨ (∃ v H', c f xs ⟨B, n⟩ = .pan v H' ∧ p v H'.bl H'.nx = .yes)
theorem RC.no (c : CallF) : RC noCall c := fun _ _ _ _ _ _ h => by cases h
theorem GoodH.good {r : OR} {B : Bl} {n : Nat} {D : Dfr} {k : KD} {p : KP} (h : GoodH r fun v B n => k v B n D) : Good r B n D k p := by
  cases r <;> first | exact h | exact h.elim
theorem eqOp_heap {op : BinOp} {c : Bool} {H H1 : Heap} {v : AV} (h : eqOp op c H = .val v H1) (H2 : Heap) : eqOp op c H2 = .val v H2 := by
  cases op <;> simp only [eqOp, fB_eq] at h ⊢ <;> first | (injection h with h1 h2; rw [h1]) | (cases h; done)
theorem ev_T2_0 (u v : AV) : ev (.tmp 0) (T2 u v) = some u := rfl
theorem ev_T2_1 {T : Tm} {y : Operand} (u : AV) {v : AV} (hy : ev y T = some v) : ev (cstOp y) (T2 u v) = some v := by
  cases y with
  | const c => exact hy
  | _ => rfl
theorem cstOp_const (y : Operand) : (∃ c, y = .const c ∧ cstOp y = .const c) ∨ ((∀ c, y ≠ .const c) ∧ cstOp y = .tmp 1) := by
  cases y with
  | const c => exact .inl ⟨c, rfl, rfl⟩
  | _ => exact .inr ⟨fun c h => (by cases h), rfl⟩
/-- two values that are neither numbers nor texts -/
def oBinV (P : Program) (op : BinOp) (t : TypeId) (y : Operand) (u v : AV) (H : Heap) : OR := match u, v with
  | .bool a, .bool b => (match P.underlying t with | some .bool => eqOp op (a == b) H | _ => .bad)
  | .nilp, .nilp => (match P.underlying t with | some (.pointer _) => eqOp op true H | _ => .bad)
  | .ptr _ _, .nilp => (match P.underlying t with | some (.pointer _) => eqOp op false H | _ => .bad)
  | .nilp, .ptr _ _ => (match P.underlying t with | some (.pointer _) => eqOp op false H | _ => .bad)
  | .nili, .ifc _ _ => (match P.underlying t with | some (.interface _) => eqOp op false H | _ => .bad)
  | .ifc _ _, .nili => (match P.underlying t with | some (.interface _) => eqOp op false H | _ => .bad)
  | .nili, .nili => (match P.underlying t with | some (.interface _) => (match y with | .const _ => eqOp op true H | _ => .bad) | _ => .bad)
  | .nils, .nils => (match P.underlying t with | some (.slice _) => eqOp op true H | _ => .bad)
  | .sl _ _ _ _, .nils => (match P.underlying t with | some (.slice _) => eqOp op false H | _ => .bad)
  | .so _ _ _ _, .nils => (match P.underlying t with | some (.slice _) => eqOp op false H | _ => .bad)
  | .sz _, .nils => (match P.underlying t with | some (.slice _) => eqOp op false H | _ => .bad)
  | .agg l, .agg m => (match flatF P t with
    | some ds => bif P.eqGuardType P.depth t then .bad else (match flatEq ds l m with | some c => eqOp op c H | none => .bad)
    | none => .bad)
  | _, _ => .bad
def plainV (u : AV) : Bool := match u with | .int _ _ => false | .str _ _ => false | _ => true
theorem oBin_V {op : BinOp} {t : TypeId} {x y : Operand} {T : Tm} {H : Heap} {u v : AV} (hx : ev x T = some u) (hy : ev y T = some v) (hu : plainV u = true) : oBin P op t x y T H = oBinV P op t y u v H := by
  unfold oBin
  rw [hx, hy]
  cases u <;> first | (cases hu; done) | (cases v <;> rfl)
theorem oBinV_heap {op : BinOp} {t : TypeId} {y : Operand} {u v w : AV} {H H1 : Heap} (h : oBinV P op t (cstOp y) u v H = .val w H1) (H2 : Heap) : oBinV P op t y u v H2 = .val w H2 := by
  cases u <;> cases v <;> first
    | (cases h; done)
    | (simp only [oBinV] at h ⊢
       cases hd : P.underlying t with
       | none => rw [hd] at h; cases h
       | some d =>
         rw [hd] at h
         cases d <;> first
          | (cases h; done)
          | exact eqOp_heap h H2
          | (rcases cstOp_const y with ⟨c, rfl, hc⟩ | ⟨hn, hc⟩
             · rw [hc] at h; exact eqOp_heap h H2
             · rw [hc] at h; cases h))
    | (simp only [oBinV] at h ⊢
       cases hf : flatF P t with
       | none => rw [hf] at h; cases h
       | some ds =>
         rw [hf] at h
         cases hg : P.eqGuardType P.depth t <;> simp only [hg, cond_true, cond_false] at h ⊢
         · split at h
           · exact eqOp_heap h H2
           · cases h
         · cases h)
theorem isShift_not {op : BinOp} (h : isShift op = false) : op ≠ .shl ∧ op ≠ .shr := by
  cases op <;> first | (cases h; done) | (constructor <;> intro e <;> cases e)
theorem binC_ok {op : BinOp} {t : TypeId} {x y : Operand} {T : Tm} {u v : AV} (hx : ev x T = some u) (hy : ev y T = some v) {k : KV} (h : runB (binC P op t y) u v k = .yes) : ∃ w, (∀ H, oBin P op t x y T H = .val w H) ∧ k w = .yes := by
  have h' : binV u P op t y (runB (intOpC op)) (isShift op) (runB (strOpC op)) v k = .yes := by
    simp only [binC, bindB_eq] at h
    cases hs : isShift op <;> rw [hs] at h <;> exact h
  by_cases hu : plainV u = true
  · have h2 : orV (oBin P op t (.tmp 0) (cstOp y) (T2 u v) H00) k = .yes := by
      cases u <;> first | (cases hu; done) | exact h'
    rw [orV_yes, oBin_V (ev_T2_0 u v) (ev_T2_1 u hy) hu] at h2
    obtain ⟨w, H1, h1, h2⟩ := h2
    exact ⟨w, fun H => by rw [oBin_V hx hy hu]; exact oBinV_heap h1 H, h2⟩
  · cases u with
    | int j a =>
      simp only [binV, intK_yes] at h'
      obtain ⟨i, b, rfl, h'⟩ := h'
      cases hs : isShift op with
      | true =>
        rw [hs] at h'
        obtain ⟨w, hw, h'⟩ := intOpC_sh hs h'
        refine ⟨w, fun H => ?_, h'⟩
        have := hw H
        simp only [oBin, hx, hy]
        cases op <;> first | (cases hs; done) | exact this
      | false =>
        rw [hs] at h'
        simp only [ifK_false, kindK_yes] at h'
        obtain ⟨rfl, h'⟩ := h'
        obtain ⟨w, hw, h'⟩ := intOpC_ok hs h'
        refine ⟨w, fun H => ?_, h'⟩
        have := hw H
        simp only [oBin, hx, hy, decide_true, cond_true]
        cases op <;> first | (cases hs; done) | exact this
    | str l a =>
      simp only [binV, strK_yes] at h'
      obtain ⟨m, b, rfl, h'⟩ := h'
      obtain ⟨w, hw, h'⟩ := strOpC_ok h'
      exact ⟨w, fun H => by simp only [oBin, hx, hy]; exact hw H, h'⟩
    | _ => exact absurd rfl hu
theorem indexAddrC_ok {t : TypeId} {x i : Operand} {T : Tm} {u v : AV} (hx : ev x T = some u) (hi : ev i T = some v) {k : KV} (h : runB (indexAddrC P (P.underlying t)) u v k = .yes) : ∃ w, (∀ H, oIndexAddr P t x i T H = .val w H) ∧ k w = .yes := by
  cases hd : P.underlying t with
  | none => rw [hd] at h; cases h
  | some d =>
    rw [hd] at h
    cases d with
    | array n e =>
      simp only [indexAddrC] at h
      cases hz : szOf P e with
      | none => rw [hz] at h; cases h
      | some z =>
        rw [hz] at h
        simp only [optB_some, fN'_eq, runB_mk, ptrK_yes, idxK_yes] at h
        obtain ⟨b, o, rfl, j, m, rfl, hb, h⟩ := h
        exact ⟨_, fun H => by simp [oIndexAddr, hx, hi, hd, hz, idx, hb, fN_eq], h⟩
    | slice e =>
      simp only [indexAddrC] at h
      cases hz : szOf P e with
      | none => rw [hz] at h; cases h
      | some z =>
        rw [hz] at h
        simp only [optB_some, fN'_eq, runB_mk, idxRow_yes, idxK_yes] at h
        rcases h with ⟨b, o, n, c, rfl, j, m, rfl, hb, h⟩ | ⟨b, o, n, c, rfl, j, m, rfl, hb, h⟩
        · exact ⟨_, fun H => by simp [oIndexAddr, hx, hi, hd, hz, idx, hb, fN_eq], h⟩
        · exact ⟨_, fun H => by simp [oIndexAddr, hx, hi, hd, hz, idx, hb, fN_eq], h⟩
    | _ => cases h
theorem oPart_some {l : List AV} {p : Plc} {w : AV} (h : partL l p = some w) (H : Heap) : oPart l p H = .val w H := by
  simp only [oPart, h, fL_eq]
  cases w <;> rfl
theorem indexC_ok {t : TypeId} {x i : Operand} {T : Tm} {u v : AV} (hx : ev x T = some u) (hi : ev i T = some v) {k : KV} (h : runB (indexC P (P.underlying t)) u v k = .yes) : ∃ w, (∀ H, oIndex P t x i T H = .val w H) ∧ k w = .yes := by
  cases hd : P.underlying t with
  | none => rw [hd] at h; cases h
  | some d =>
    rw [hd] at h
    cases d with
    | array n e =>
      simp only [indexC] at h
      cases hp : plcOf P e 0 with
      | none => rw [hp] at h; cases h
      | some p =>
        rw [hp] at h
        rcases p with ⟨o, _ | _, z⟩
        · replace h : aggK u (fun l => idxK v n fun j => fN' (Nat.mul j z) fun o => nthK o l k) = .yes := h
          simp only [aggK_yes, idxK_yes, fN'_eq, nthK_eq, optK_yes] at h
          obtain ⟨l, rfl, j, m, rfl, hb, w, hw, h⟩ := h
          refine ⟨w, fun H => ?_, h⟩
          simp only [oIndex, hx, hi, hd, hp, idx, hb, cond_true]
          exact oPart_some (by simp only [partL, cond_false]; exact hw) H
        · replace h : aggK u (fun l => idxK v n fun j => fN' (Nat.mul j z) fun o => dropK o l fun l => takeLK z l fun l => k (.agg l)) = .yes := h
          simp only [aggK_yes, idxK_yes, fN'_eq, dropK_eq, takeLK_eq] at h
          obtain ⟨l, rfl, j, m, rfl, hb, h⟩ := h
          refine ⟨_, fun H => ?_, h⟩
          simp only [oIndex, hx, hi, hd, hp, idx, hb, cond_true]
          exact oPart_some (by simp only [partL, cond_true]) H
    | string =>
      simp only [indexC, runB_mk, strK_yes, idxK_yes, fN'_eq] at h
      obtain ⟨l, s, rfl, j, m, rfl, hb, h⟩ := h
      exact ⟨_, fun H => by simp only [oIndex, hx, hi, hd, idx, hb, cond_true, fN_eq], h⟩
    | _ => cases h
theorem sliceC_ok {t : TypeId} {x : Operand} {lo hi mx : Option Operand} {F : Fr} {T : Tm} (hR : Rep F T) {u : AV} (hx : ev x T = some u) {B : Bl} {k : KV} (h : runB (sliceC P lo hi mx (P.underlying t)) F u B k = .yes) : ∃ w, (∀ n, oSlice P t x lo hi mx T ⟨B, n⟩ = .val w ⟨B, n⟩) ∧ k w = .yes := by
  cases hd : P.underlying t with
  | none => rw [hd] at h; cases h
  | some d =>
    rw [hd] at h
    cases d with
    | string =>
      cases mx with
      | some m => cases h
      | none =>
        simp only [sliceC, Option.isSome_none, ifB_false, bindB_eq, runB_mk, strK_yes] at h
        obtain ⟨n, s, rfl, h⟩ := h
        obtain ⟨l, u, m, hb, h⟩ := bnd3C_ok hR h
        simp only [fN'_eq] at h
        exact ⟨_, fun n => by simp only [oSlice, hx, hd, oSliceS, hb, fN_eq], h⟩
    | slice e =>
      simp only [sliceC] at h
      cases hz : szOf P e with
      | none => rw [hz] at h; cases h
      | some z =>
        rw [hz] at h
        simp only [optB_some, fN'_eq, bindB_eq] at h
        have h' : sliceV u z (runB (bnd3C lo hi mx)) mx.isSome F B k = .yes := by cases mx <;> exact h
        cases u with
        | nils =>
          obtain ⟨l, u, m, hb, h'⟩ := bnd3C_ok hR h'
          exact ⟨_, fun n => by simp only [oSlice, hx, hd, hb, hz], h'⟩
        | sl b o n c =>
          obtain ⟨l, u, m, hb, h'⟩ := bnd3C_ok hR h'
          obtain ⟨w, hw, h'⟩ := rowK_ok h'
          exact ⟨w, fun n => by simp only [oSlice, hx, hd, hz, hb, hw], h'⟩
        | so b o n es =>
          simp only [sliceV, ifK_yes] at h'
          obtain ⟨he, h'⟩ := h'
          obtain ⟨kn, hk, h'⟩ := knownK_ok h'
          obtain ⟨l, u, m, hb, h'⟩ := bnd3C_ok hR h'
          cases mx with
          | none =>
            simp only [Option.isSome_none, ifK_false] at h'
            obtain ⟨w, hw, h'⟩ := openK_ok (m := m) h'
            exact ⟨w, fun n => by simp only [oSlice, hx, hd, hz, hk, he, cond_true, hb, hw], h'⟩
          | some mx =>
            simp only [Option.isSome_some, ifK_true] at h'
            obtain ⟨w, hw, h'⟩ := rowK_ok h'
            exact ⟨w, fun n => by simp only [oSlice, hx, hd, hz, hk, he, cond_true, hb, hw], h'⟩
        | _ => cases h'
    | array n e =>
      simp only [sliceC] at h
      cases hz : szOf P e with
      | none => rw [hz] at h; cases h
      | some z =>
        rw [hz] at h
        simp only [optB_some, fN'_eq, bindB_eq, runB_mk, ptrK_yes] at h
        obtain ⟨b, o, rfl, h⟩ := h
        obtain ⟨l, u, m, hb, h⟩ := bnd3C_ok hR h
        obtain ⟨w, hw, h⟩ := rowK_ok h
        exact ⟨w, fun n => by simp only [oSlice, hx, hd, hz, hb, hw], h⟩
    | _ => cases h
theorem convC_ok {s d : TypeId} {x : Operand} {T : Tm} {v : AV} (hx : ev x T = some v) {B : Bl} {n : Nat} {k : KH} (h : runB (convC P (P.underlying s) (P.underlying d)) v B n k = .yes) : GoodH (oConvert P s d x T ⟨B, n⟩) k := by
  cases hs : P.underlying s with
  | none => rw [hs] at h; cases h
  | some ds =>
    cases hd : P.underlying d with
    | none => rw [hs, hd] at h; cases ds <;> cases h
    | some dd =>
      rw [hs, hd] at h
      cases ds <;> cases dd <;> first
        | (cases h; done)
        | (simp only [convC, runB_mk, intK_yes, wrapK_eq] at h
           obtain ⟨j, i, rfl, h⟩ := h
           simp only [oConvert, hs, hd, hx, fI_eq]
           exact h)
        | (simp only [convC, runB_mk, strK_yes] at h
           obtain ⟨l, y, rfl, h⟩ := h
           simp only [oConvert, hs, hd, hx]
           exact h)
        | (rename_i e
           simp only [convC] at h
           cases he : P.underlying e with
           | none => rw [he] at h; cases h
           | some de =>
             rw [he] at h
             cases de <;> first
              | (cases h; done)
              | (rename_i ki
                 cases ki <;> first
                  | (cases h; done)
                  | (simp only [runB_mk, strK_yes, strCellsK_eq] at h
                     obtain ⟨l, y, rfl, h⟩ := h
                     have hl : Nat.blt l limit = true := by
                       simp only [newOpenK, ifK_yes] at h
                       exact h.1
                     simp only [oConvert, hs, hd, hx, he, hl, cond_true]
                     exact newOpenK_ok h)
                  | (simp only [runB_mk, ifK_no] at h
                     obtain ⟨h0, h⟩ := h
                     obtain ⟨m, l, hl, h⟩ := elemsK_ok h
                     obtain ⟨y, hy, h⟩ := packK_ok _ h
                     simp only [oConvert, hs, hd, hx, he, h0, cond_false, hl, hy, fN_eq]
                     exact h)))
theorem opC_ok {F : Fr} {T : Tm} (hR : Rep F T) {cK : CallK} {c : CallF} (hC : RC cK c) (o : Op) {B : Bl} {n : Nat} {D : Dfr} {k : KD} {p : KP} (h : runB (opC o P) cK F B n D k p = .yes) : Good (oper P c o T ⟨B, n⟩) B n D k p := by
  cases o with
  | move x =>
    simp only [opC, bindB_eq, runB_mk] at h
    obtain ⟨v, hv, h⟩ := opnd_ok hR x h
    simp only [oper, oMove, hv, okV]; exact h
  | assign x =>
    simp only [opC, bindB_eq, runB_mk] at h
    obtain ⟨v, hv, h⟩ := opnd_ok hR x h
    simp only [oper, oMove, hv, okV]; exact h
  | pick x a b =>
    simp only [opC, bindB_eq, runB_mk] at h
    obtain ⟨v, hv, h⟩ := opnd_ok hR x h
    rw [boolK_yes] at h
    obtain ⟨y, rfl, h⟩ := h
    cases y with
    | true =>
      obtain ⟨w, hw, h⟩ := opnd_ok hR a h
      simp only [oper, oPick, hv, hw, okV]; exact h
    | false =>
      obtain ⟨w, hw, h⟩ := opnd_ok hR b h
      simp only [oper, oPick, hv, hw, okV]; exact h
  | load t a =>
    simp only [opC, oV1, bindB_eq, runB_mk] at h
    obtain ⟨v, hv, h⟩ := opnd_ok hR a h
    obtain ⟨q, b, i, w, hq, rfl, hl, h⟩ := loadC_ok h
    simp only [oper, oLoad, hv, hq, hl]; exact h
  | store t a x =>
    simp only [opC, oV2, bindB_eq, runB_mk] at h
    obtain ⟨u, hu, h⟩ := opnd_ok hR a h
    obtain ⟨v, hv, h⟩ := opnd_ok hR x h
    obtain ⟨m, b, i, B', hm, rfl, hl, hs, h⟩ := storeC_ok h
    simp only [oper, oStore, hu, hv, hm, hl, cond_true, hs]; exact h
  | fieldAddr t x f =>
    simp only [opC, oP1, bindB_eq, runB_mk] at h
    obtain ⟨v, hv, h⟩ := opnd_ok hR x h
    obtain ⟨q, b, i, hq, rfl, hz, h⟩ := addrC_ok h
    simp only [oper, oFieldAddr, hv, hq, hz, cond_false, fN_eq]; exact h
  | indexAddr t x i =>
    simp only [opC, oP2, bindB_eq, runB_mk] at h
    obtain ⟨u, hu, h⟩ := opnd_ok hR x h
    obtain ⟨v, hv, h⟩ := opnd_ok hR i h
    obtain ⟨w, hw, h⟩ := indexAddrC_ok hu hv h
    simp only [oper, hw]; exact h
  | binOp op t x y t2 =>
    simp only [opC, oP2, bindB_eq, runB_mk] at h
    obtain ⟨u, hu, h⟩ := opnd_ok hR x h
    obtain ⟨v, hv, h⟩ := opnd_ok hR y h
    obtain ⟨w, hw, h⟩ := binC_ok hu hv h
    simp only [oper, hw]; exact h
  | call cl =>
    rcases cl with ⟨ce, as, ts⟩
    simp only [opC, callC, bindB_eq] at h
    cases ce with
    | builtin b =>
      by_cases hb : b = .panic
      · subst hb
        simp only [runB_mk] at h
        obtain ⟨xs, hxs, h⟩ := opndL_ok hR _ h
        simp only [oneK_yes, ifcK_yes] at h
        obtain ⟨v, rfl, t, w, rfl, h⟩ := h
        simp only [oper, oCall, hxs, oBuiltin]; exact h
      · have h2 : runB (opndL as.toList) F (fun xs => runB (builtC P b ts.toList) xs B n fun v B n => k v B n D) = .yes := by
          cases b <;> first | (exact absurd rfl hb) | (simp only [runB_mk] at h; exact h)
        obtain ⟨xs, hxs, h2⟩ := opndL_ok hR _ h2
        have := builtC_ok h2
        simp only [oper, oCall, hxs]
        exact this.good
    | value f =>
      simp only [runB_mk] at h
      obtain ⟨xs, hxs, h⟩ := opndL_ok hR _ h
      obtain ⟨v, hv, h⟩ := opnd_ok hR f h
      simp only [fnK_yes, appK_eq] at h
      obtain ⟨g, l, rfl, h⟩ := h
      rcases hC _ _ _ _ _ _ h with ⟨w, H', hw, h⟩ | ⟨w, H', hw, h⟩
      · simp only [oper, oCall, hxs, hv, hw, ofCall]; exact h
      · simp only [oper, oCall, hxs, hv, hw, ofCall]; exact h
    | invoke x m => cases h
  | defer cl =>
    rcases cl with ⟨ce, as, ts⟩
    simp only [opC, deferC, bindB_eq] at h
    cases ce with
    | value f =>
      simp only [runB_mk] at h
      obtain ⟨xs, hxs, h⟩ := opndL_ok hR _ h
      obtain ⟨v, hv, h⟩ := opnd_ok hR f h
      simp only [fnK_yes, appK_eq] at h
      obtain ⟨g, l, rfl, h⟩ := h
      simp only [oper, oDefer, hxs, hv]; exact h
    | _ => cases h
  | alloc t =>
    simp only [opC] at h
    cases hz : zeroOf P t with
    | none => rw [hz] at h; cases h
    | some v =>
      rw [hz] at h
      simp only [optB_some, fVA_eq, runB_mk] at h
      obtain ⟨B', hn, h⟩ := newK_ok h
      simp only [oper, oAlloc, hz, hn]; exact h
  | box t x =>
    simp only [opC, oV1, bindB_eq, runB_mk] at h
    obtain ⟨v, hv, h⟩ := opnd_ok hR x h
    obtain ⟨B', hn, h⟩ := newK_ok h
    simp only [oper, oBox, hv, hn]; exact h
  | build t ps =>
    simp only [opC, oFr, bindB_eq, runB_mk] at h
    cases hd : P.underlying t with
    | none => rw [hd] at h; cases h
    | some d =>
      rw [hd] at h
      cases d with
      | struct fs =>
        simp only [buildC] at h
        cases hz : zeroOf P t with
        | none => rw [hz] at h; cases h
        | some z =>
          rw [hz] at h
          simp only [optB_some] at h
          cases ha : fs.toList.all (fun f => (szOf P f.type).isSome) with
          | false => rw [ha] at h; cases h
          | true =>
            rw [ha] at h
            simp only [ifB_true, buildC1, bindB_eq, fVL_eq, runB_mk] at h
            obtain ⟨r, hr, h⟩ := fillC_ok hR _ _ h
            simp only [oper, oBuild, hd, hz, ha, cond_true, hr]; exact h
      | array m e =>
        simp only [buildC] at h
        cases hz : zeroOf P t with
        | none => rw [hz] at h; cases h
        | some z =>
          rw [hz] at h
          simp only [optB_some] at h
          cases hs : szOf P e with
          | none => rw [hs] at h; cases h
          | some m =>
            rw [hs] at h
            simp only [optB_some, buildC1, bindB_eq, fVL_eq, runB_mk] at h
            obtain ⟨r, hr, h⟩ := fillC_ok hR _ _ h
            simp only [oper, oBuild, hd, hz, hs, hr]; exact h
      | _ => cases h
  | buildSlice t len ps =>
    simp only [opC, oFr, bindB_eq, runB_mk, buildSliceC] at h
    cases hE : elemI P t with
    | none => rw [hE] at h; cases h
    | some E =>
      rw [hE] at h
      simp only [optB_some] at h
      cases hb : Nat.blt (Nat.mul len E.z) 10000 with
      | false => rw [hb] at h; cases h
      | true =>
        rw [hb] at h
        simp only [ifB_true, fVL_eq, fN'_eq, runB_mk] at h
        obtain ⟨r, hr, h⟩ := fillC_ok hR _ _ h
        simp only [layK_eq, pushK_eq] at h
        simp only [oper, oBuildSlice, hE, hb, cond_true, hr, layC_eq, fN_eq, newB_eq]; exact h
  | nilCheck x =>
    simp only [opC, oP1, bindB_eq, runB_mk] at h
    obtain ⟨v, hv, h⟩ := opnd_ok hR x h
    cases v <;> first | (cases h; done) | (simp only [oper, oNilCheck, hv]; exact h)
  | unOp op t x =>
    simp only [opC, oP1, bindB_eq, runB_mk] at h
    obtain ⟨v, hv, h⟩ := opnd_ok hR x h
    cases op with
    | not =>
      simp only [unC, runB_mk, boolK_yes, notK_eq] at h
      obtain ⟨b, rfl, h⟩ := h
      simp only [oper, oUn, hv, fB_eq]; exact h
    | neg =>
      simp only [unC, runB_mk, intK_yes, negK_eq, wrapK_eq] at h
      obtain ⟨j, i, rfl, h⟩ := h
      simp only [oper, oUn, hv, fI_eq]; exact h
    | _ => cases h
  | convert s d x =>
    simp only [opC, oV1, bindB_eq, runB_mk] at h
    obtain ⟨v, hv, h⟩ := opnd_ok hR x h
    exact (convC_ok hv h).good
  | makeInterface t x =>
    simp only [opC, oP1, bindB_eq, runB_mk] at h
    obtain ⟨v, hv, h⟩ := opnd_ok hR x h
    cases hd : P.underlying t with
    | none => rw [hd] at h; cases h
    | some d =>
      rw [hd] at h
      cases d <;> first | (cases h; done) | (simp only [oper, oMakeIface, hd, hv]; exact h)
  | makeFunc fn a b =>
    simp only [opC] at h
    cases fn with
    | func f =>
      cases ha : a.toList with
      | nil =>
        rw [ha] at h
        simp only [makeFuncC, bindB_eq, runB_mk] at h
        obtain ⟨l, hl, h⟩ := opndL_ok hR _ h
        simp only [oper, oMakeFunc, ha, hl]; exact h
      | cons y l => rw [ha] at h; cases h
    | _ => cases h
  | makeMap t r =>
    cases r with
    | none =>
      simp only [opC, runB_mk, pushK_eq] at h
      simp only [oper, oMakeMap, newB_eq]; exact h
    | some r => cases h
  | makeSlice t l cp =>
    simp only [opC, oV2, bindB_eq, runB_mk] at h
    obtain ⟨u, hu, h⟩ := opnd_ok hR l h
    obtain ⟨v, hv, h⟩ := opnd_ok hR cp h
    simp only [makeSliceC] at h
    cases hE : elemI P t with
    | none => rw [hE] at h; cases h
    | some E =>
      rw [hE] at h
      simp only [optB_some, fN'_eq, runB_mk, natV_yes, ifK_yes, layK_eq, pushK_eq] at h
      obtain ⟨i, hi, j, hj, h1, h2, h⟩ := h
      have h2 : Nat.blt j limit = true := h2
      cases u <;> first | (cases hi; done) | skip
      cases v <;> first | (cases hj; done) | skip
      rename_i ku nu kv nv
      cases nu <;> first | (cases hi; done) | skip
      cases nv <;> first | (cases hj; done) | skip
      simp only [natOf, Option.some.injEq] at hi hj
      subst hi hj
      simp only [oper, oMakeSlice, hE, hu, hv, h1, h2, Bool.and_self, cond_true, layC_eq, fN_eq, newB_eq]; exact h
  | slice t x a b m =>
    simp only [opC, bindB_eq, runB_mk] at h
    obtain ⟨v, hv, h⟩ := opnd_ok hR x h
    obtain ⟨w, hw, h⟩ := sliceC_ok hR hv h
    simp only [oper, hw]; exact h
  | field t x f =>
    simp only [opC, oP1, bindB_eq, runB_mk] at h
    obtain ⟨v, hv, h⟩ := opnd_ok hR x h
    obtain ⟨q, l, w, hq, rfl, hw, h⟩ := partC_ok h
    simp only [oper, oField, hv, hq, oPart_some hw]; exact h
  | index t x i =>
    simp only [opC, oP2, bindB_eq, runB_mk] at h
    obtain ⟨u, hu, h⟩ := opnd_ok hR x h
    obtain ⟨v, hv, h⟩ := opnd_ok hR i h
    obtain ⟨w, hw, h⟩ := indexC_ok hu hv h
    simp only [oper, hw]; exact h
  | lookup t m x ok =>
    simp only [opC, oV2, bindB_eq, runB_mk] at h
    obtain ⟨u, hu, h⟩ := opnd_ok hR m h
    obtain ⟨v, hv, h⟩ := opnd_ok hR x h
    cases hd : P.underlying t with
    | none => rw [hd] at h; cases h
    | some d =>
      rw [hd] at h
      cases d with
      | map kt e =>
        simp only [lookC] at h
        cases hz : zeroOf P e with
        | none => rw [hz] at h; cases h
        | some z =>
          rw [hz] at h
          simp only [optB_some, fVA_eq, fN'_eq] at h
          cases hkt : Nat.beq (keyT (P.underlying kt)) 0 with
          | true =>
            rw [hkt] at h
            simp only [ifB_true, lookSC, runB_mk, mapK_yes] at h
            obtain ⟨b, rfl, h3⟩ := h
            obtain ⟨K, hK, h4⟩ := blkK_yes h3
            simp only [mpK_yes, orV_yes] at h4
            obtain ⟨es, rfl, w, H1, h5, h6⟩ := h4
            have h7 := lookS_heap h5 ⟨B, n⟩
            cases hd' : P.underlying kt with
            | none => simp only [structD, hd', lookS] at h7; cases h7
            | some d' => simp only [oper, oLookup, hd, hu, hv, hd', hK n, hz, keyT_zero hkt _ hd', cond_false, h7]; exact h6
          | false =>
            rw [hkt] at h
            simp only [ifB_false] at h
            cases ok with
            | false =>
              simp only [runB_mk, mapK_yes] at h
              obtain ⟨b, rfl, h2⟩ := h
              obtain ⟨d', hd', hp, h3, hk⟩ := keyV_ok h2
              obtain ⟨K, hK, h4⟩ := blkK_yes h3
              rw [mpK_yes] at h4
              obtain ⟨es, rfl, h5⟩ := h4
              rcases findK_ok hk es 0 h5 with ⟨h1, h2⟩ | ⟨j, w, h1, h2⟩
              · simp only [oper, oLookup, hd, hu, hv, hd', hK n, hz, hp, cond_true, h1, cond_false]; exact h2
              · simp only [oper, oLookup, hd, hu, hv, hd', hK n, hz, hp, cond_true, h1, cond_false]; exact h2
            | true =>
              simp only [runB_mk, mapK_yes] at h
              obtain ⟨b, rfl, h2⟩ := h
              obtain ⟨d', hd', hp, h3, hk⟩ := keyV_ok h2
              obtain ⟨K, hK, h4⟩ := blkK_yes h3
              rw [mpK_yes] at h4
              obtain ⟨es, rfl, h5⟩ := h4
              rcases findK_ok hk es 0 h5 with ⟨h1, h2⟩ | ⟨j, w, h1, h2⟩
              · simp only [oper, oLookup, hd, hu, hv, hd', hK n, hz, hp, cond_true, h1]; exact h2
              · simp only [oper, oLookup, hd, hu, hv, hd', hK n, hz, hp, cond_true, h1]; exact h2
      | _ => cases h
  | mapUpdate t m x y =>
    simp only [opC, oV3, bindB_eq, runB_mk] at h
    obtain ⟨u, hu, h⟩ := opnd_ok hR m h
    obtain ⟨v, hv, h⟩ := opnd_ok hR x h
    obtain ⟨w, hw, h⟩ := opnd_ok hR y h
    cases hd : P.underlying t with
    | none => rw [hd] at h; cases h
    | some d =>
      rw [hd] at h
      cases d with
      | map kt e =>
        simp only [mapUpC, fN'_eq] at h
        cases hkt : Nat.beq (keyT (P.underlying kt)) 0 with
        | true =>
          rw [hkt] at h
          simp only [ifB_true, upSC, runB_mk, mapK_yes] at h
          obtain ⟨b, rfl, h3⟩ := h
          obtain ⟨K, hK, h4⟩ := blkK_yes h3
          simp only [mpK_yes, optK_yes, setBK_eq] at h4
          obtain ⟨es, rfl, nes, h5, h6⟩ := h4
          cases hd' : P.underlying kt with
          | none => simp only [structD, hd', upS] at h5; cases h5
          | some d' => simp only [oper, oMapUpdate, hd, hu, hv, hw, hd', hK n, keyT_zero hkt _ hd', cond_false, h5, setB_eq]; exact h6
        | false =>
          rw [hkt] at h
          simp only [ifB_false, runB_mk, mapK_yes] at h
          obtain ⟨b, rfl, h2⟩ := h
          obtain ⟨d', hd', hp, h3, hk⟩ := keyV_ok h2
          obtain ⟨K, hK, h4⟩ := blkK_yes h3
          rw [mpK_yes] at h4
          obtain ⟨es, rfl, h5⟩ := h4
          rcases findK_ok hk es 0 h5 with ⟨h1, h2⟩ | ⟨j, z, h1, h2⟩
          · simp only [addEK_eq, setBK_eq] at h2
            simp only [oper, oMapUpdate, hd, hu, hv, hw, hd', hK n, hp, cond_true, h1, setB_eq]; exact h2
          · simp only [setEK_eq, setBK_eq] at h2
            simp only [oper, oMapUpdate, hd, hu, hv, hw, hd', hK n, hp, cond_true, h1, setB_eq]; exact h2
      | _ => cases h
  | typeAssert x t a ok =>
    simp only [opC, oP1, bindB_eq, runB_mk] at h
    obtain ⟨v, hv, h⟩ := opnd_ok hR x h
    cases hd : P.underlying a with
    | none => rw [hd] at h; cases h
    | some d =>
      rw [hd] at h
      have hi : ∀ m, d ≠ .interface m := by
        rintro m rfl
        cases h
      cases ok with
      | false =>
        have h' : ifcK v (fun t v => ifK (Nat.beq t a) (k v B n D) .no) = .yes := by cases d <;> first | exact h | (cases h; done)
        simp only [ifcK_yes, ifK_yes] at h'
        obtain ⟨t', w, rfl, hb, h'⟩ := h'
        cases d <;> first | (exact absurd rfl (hi _)) | (simp only [oper, oAssert, hd, hv, hb, cond_true, cond_false]; exact h')
      | true =>
        cases hz : zeroOf P a with
        | none => cases d <;> (simp only [assertC, hz] at h; cases h)
        | some z =>
          have h' : ifcK v (fun t v => ifK (Nat.beq t a) (k (.tup [v, .bool true]) B n D) (k (.tup [z, .bool false]) B n D)) = .yes := by
            cases d <;> first | (cases h; done) | (simp only [assertC, hz, optB_some, fVA_eq, runB_mk] at h; exact h)
          simp only [ifcK_yes] at h'
          obtain ⟨t', w, rfl, h'⟩ := h'
          cases hb : Nat.beq t' a <;> rw [hb] at h'
          · cases d <;> first | (exact absurd rfl (hi _)) | (simp only [oper, oAssert, hd, hv, hb, hz, cond_true, cond_false]; exact h')
          · cases d <;> first | (exact absurd rfl (hi _)) | (simp only [oper, oAssert, hd, hv, hb, hz, cond_true]; exact h')
  | panic x =>
    simp only [opC, bindB_eq, runB_mk] at h
    obtain ⟨v, hv, h⟩ := opnd_ok hR x h
    simp only [ifcK_yes] at h
    obtain ⟨t, w, rfl, h⟩ := h
    simp only [oper, oPanic, hv]; exact h
  | extract x i =>
    simp only [opC, bindB_eq, runB_mk] at h
    obtain ⟨v, hv, h⟩ := opnd_ok hR x h
    simp only [tupK_yes, nthK_eq, optK_yes] at h
    obtain ⟨l, rfl, w, hw, h⟩ := h
    simp only [oper, oExtract, hv, hw, okV]; exact h
  | _ => cases h
end Eng
end Go.Proofs.YtlajkdbpmkodpaaGreatDoor
namespace Go.Proofs.YtlajkdbpmkodpaaGreatDoor
namespace Eng
open Go
variable {P : Program}

def putd (d : Option Tmp) (v : AV) (T : Tm) : Tm := match d with | some t => T.set (bits t) (some v) | none => T
theorem putT_d {β : Type} (d : Option Tmp) (v : AV) (T : Tm) (k : Tm → β) : putT d v T k = k (putd d v T) := putT_eq d v T k
theorem dstC_ok {F : Fr} {T : Tm} (hR : Rep F T) (d : Option Tmp) (v : AV) {k : Fr → Ans} (h : runB (dstC d) v F k = .yes) : ∃ F', Rep F' (putd d v T) ∧ k F' = .yes := by
  cases d with
  | none => exact ⟨F, hR, h⟩
  | some t => exact tmpS_ok hR t v h
theorem guardC_none {ops : Array Oper} {g : Option (Nat × Bool)} {T : Tm} (h : guardC g ops.toList = none) : want ops g T = some true := by
  cases g with
  | none => rfl
  | some p => obtain ⟨j, w⟩ := p; cases h
theorem guardC_some {ops : Array Oper} {g : Option (Nat × Bool)} {F : Fr} {T : Tm} (hR : Rep F T) {b : Bx GdT} (h : guardC g ops.toList = some b) {k : Bool → Ans} (hy : runB b F k = .yes) : ∃ w, want ops g T = some w ∧ k w = .yes := by
  cases g with
  | none => cases h
  | some p =>
    obtain ⟨j, w⟩ := p
    simp only [guardC, Option.some.injEq] at h
    subst h
    simp only [want, ← Array.getElem?_toList]
    cases hd : (ops.toList[j]?).bind (·.dst) with
    | none => rw [hd] at hy; exact ⟨false, rfl, hy⟩
    | some t =>
      rw [hd] at hy
      simp only [bindB_eq, runB_mk] at hy
      obtain ⟨v, hv, hy⟩ := tmpG_ok hR t hy
      simp only [hv]
      cases v with
      | bool b => simp only [wantV, fB'_eq] at hy; exact ⟨_, rfl, hy⟩
      | _ => exact ⟨false, rfl, hy⟩
/-- one operation done -/
def Did (P : Program) (c : CallF) (ops : Array Oper) (g : Option (Nat × Bool)) (d : Option Tmp) (o : Op) (T : Tm) (H : Heap) (D : Dfr) (T' : Tm) (H' : Heap) (D' : Dfr) : Prop :=
  (want ops g T = some false ∧ T' = putd d undefA T ∧ H' = H ∧ D' = D) ∨
  (want ops g T = some true ∧ ((∃ v, oper P c o T H = .val v H' ∧ T' = putd d v T ∧ D' = D) ∨ (∃ f xs, oper P c o T H = .dfr f xs ∧ T' = putd d undefA T ∧ H' = H ∧ D' = (f, xs) :: D)))
/-- one operation that panics -/
def Pan (P : Program) (c : CallF) (ops : Array Oper) (g : Option (Nat × Bool)) (o : Op) (T : Tm) (H : Heap) (v : AV) (H' : Heap) : Prop := want ops g T = some true ∧ oper P c o T H = .pan v H'
theorem didC_ok {ops : Array Oper} {g : Option (Nat × Bool)} {d : Option Tmp} {o : Op} {F : Fr} {T : Tm} (hR : Rep F T) {cK : CallK} {c : CallF} {fo : Bx OpT} {B : Bl} {n : Nat} {D : Dfr}
    (hfo : ∀ {k : KD} {p : KP}, runB fo cK F B n D k p = .yes → Good (oper P c o T ⟨B, n⟩) B n D k p) {k : KS} {q : KQ}
    (h : runB (operC1 (guardC g ops.toList) fo (dstC d)) cK F B n D k q = .yes) :
    (∃ F' T' H' D', Rep F' T' ∧ Did P c ops g d o T ⟨B, n⟩ D T' H' D' ∧ k F' H'.bl H'.nx D' = .yes) ∨ (∃ v H', Pan P c ops g o T ⟨B, n⟩ v H' ∧ q v F H'.bl H'.nx D = .yes) := by
  have go : ∀ {k : KS}, want ops g T = some true → runB fo cK F B n D (fun v B n D => runB (dstC d) v F fun T => k T B n D) (fun v B n => q v F B n D) = .yes →
      (∃ F' T' H' D', Rep F' T' ∧ Did P c ops g d o T ⟨B, n⟩ D T' H' D' ∧ k F' H'.bl H'.nx D' = .yes) ∨ (∃ v H', Pan P c ops g o T ⟨B, n⟩ v H' ∧ q v F H'.bl H'.nx D = .yes) := by
    intro k hw h
    have := hfo h
    cases hr : oper P c o T ⟨B, n⟩ with
    | val v H =>
      rw [hr] at this
      obtain ⟨F', hF, h⟩ := dstC_ok hR d v this
      exact .inl ⟨F', _, H, D, hF, .inr ⟨hw, .inl ⟨v, hr, rfl, rfl⟩⟩, h⟩
    | dfr f xs =>
      rw [hr] at this
      obtain ⟨F', hF, h⟩ := dstC_ok hR d undefA this
      exact .inl ⟨F', _, ⟨B, n⟩, _, hF, .inr ⟨hw, .inr ⟨f, xs, hr, rfl, rfl, rfl⟩⟩, h⟩
    | pan v H =>
      rw [hr] at this
      exact .inr ⟨v, H, ⟨hw, hr⟩, this⟩
    | _ => rw [hr] at this; exact this.elim
  cases hg : guardC g ops.toList with
  | none =>
    rw [hg] at h
    simp only [operC1, bindB_eq, runB_mk, tk_eq] at h
    exact go (guardC_none hg) h
  | some b =>
    rw [hg] at h
    simp only [operC1, bindB_eq, runB_mk, tk_eq] at h
    obtain ⟨w, hw, h⟩ := guardC_some hR hg h
    cases w with
    | true => exact go hw h
    | false =>
      obtain ⟨F', hF, h⟩ := dstC_ok hR d undefA h
      exact .inl ⟨F', _, ⟨B, n⟩, D, hF, .inl ⟨hw, rfl, rfl, rfl⟩, h⟩
theorem operC_ok {ops : Array Oper} {o : Oper} {F : Fr} {T : Tm} (hR : Rep F T) {cK : CallK} {c : CallF} (hC : RC cK c) {B : Bl} {n : Nat} {D : Dfr} {k : KS} {q : KQ} (h : runB (operC o P ops.toList) cK F B n D k q = .yes) :
    (∃ F' T' H' D', Rep F' T' ∧ Did P c ops o.guard o.dst o.op T ⟨B, n⟩ D T' H' D' ∧ k F' H'.bl H'.nx D' = .yes) ∨ (∃ v H', Pan P c ops o.guard o.op T ⟨B, n⟩ v H' ∧ q v F H'.bl H'.nx D = .yes) := by
  rcases o with ⟨d, op, ty, pos, af, g⟩
  exact didC_ok hR (fun h => opC_ok hR hC op h) h
theorem Did.one {c : CallF} {ops : Array Oper} {o : Oper} {T : Tm} {H : Heap} {D : Dfr} {T' : Tm} {H' : Heap} {D' : Dfr} (h : Did P c ops o.guard o.dst o.op T H D T' H' D') (k : Next) : oneOp P c ops o k ⟨T, H, D⟩ = k ⟨T', H', D'⟩ := by
  rcases h with ⟨hw, rfl, rfl, rfl⟩ | ⟨hw, ⟨v, hv, rfl, rfl⟩ | ⟨f, xs, hv, rfl, rfl, rfl⟩⟩
  · simp only [oneOp, hw, putT_d]
  · simp only [oneOp, hw, hv, after, putT_d]
  · simp only [oneOp, hw, hv, after, putT_d]
theorem Pan.one {c : CallF} {ops : Array Oper} {o : Oper} {T : Tm} {H : Heap} {D : Dfr} {v : AV} {H' : Heap} (h : Pan P c ops o.guard o.op T H v H') (k : Next) : oneOp P c ops o k ⟨T, H, D⟩ = .ok (.panic v) ⟨T, H', D⟩ := by
  obtain ⟨hw, hv⟩ := h
  simp only [oneOp, hw, hv, after]
/-- what a region comes to: its end, or a panic -/
def RegR (r : Res) (k : KS) (q : KQ) : Prop := (∃ F' S', r = .ok .normal S' ∧ Rep F' S'.T ∧ k F' S'.H.bl S'.H.nx S'.D = .yes) ∨ (∃ v F' S', r = .ok (.panic v) S' ∧ Rep F' S'.T ∧ q v F' S'.H.bl S'.H.nx S'.D = .yes)
theorem opsC_ok {ops : Array Oper} {cK : CallK} {c : CallF} (hC : RC cK c) : ∀ (l : List Oper) {F : Fr} {T : Tm}, Rep F T → ∀ {B : Bl} {n : Nat} {D : Dfr} {k : KS} {q : KQ}, runB (opsC l P ops.toList) cK F B n D k q = .yes →
    RegR (opsR P c ops l ⟨T, ⟨B, n⟩, D⟩) k q
  | [], F, T, hR, B, n, D, k, q, h => .inl ⟨F, _, rfl, hR, h⟩
  | o :: l, F, T, hR, B, n, D, k, q, h => by
    have e : opsC (o :: l) P ops.toList = bindB (operC o P ops.toList) fun fo => bindB (opsC l P ops.toList) fun fl => .mk fun call T B n D k q => fo call T B n D (fun T B n D => fl call T B n D k q) q := rfl
    rw [e] at h
    simp only [bindB_eq, runB_mk] at h
    rcases operC_ok hR hC h with ⟨F', T', H', D', hR', hd, h⟩ | ⟨v, H', hp, h⟩
    · have := opsC_ok hC l hR' h
      rw [opsR, hd.one]
      exact this
    · exact .inr ⟨v, F, ⟨T, H', D⟩, by rw [opsR, hp.one], hR, h⟩
theorem emptyK_yes {l : Dfr} {x : Ans} : emptyK l x = .yes ↔ l = [] ∧ x = .yes := by cases l <;> simp [emptyK]
theorem eqK_ok {u v : AV} {x : Ans} (h : eqK u v x = .yes) : AV.eq u v = true ∧ x = .yes := by
  cases u with
  | bool a =>
    simp only [eqK, boolK_yes, ifK_yes] at h
    obtain ⟨b, rfl, hb, h⟩ := h
    exact ⟨by simp only [AV.eq]; exact hb, h⟩
  | int j a =>
    simp only [eqK, intK_yes, kindK_yes, ieqK_eq, ifK_yes] at h
    obtain ⟨i, b, rfl, rfl, hb, h⟩ := h
    exact ⟨by simp only [AV.eq, decide_true, Bool.true_and]; exact hb, h⟩
  | str l a =>
    simp only [eqK, strK_yes, ifK_yes] at h
    obtain ⟨i, b, rfl, hb, hc, h⟩ := h
    exact ⟨by simp only [AV.eq, hb, hc, Bool.and_self], h⟩
  | ptr l a =>
    simp only [eqK, ptrK_yes, ifK_yes] at h
    obtain ⟨i, b, rfl, hb, hc, h⟩ := h
    exact ⟨by simp only [AV.eq, hb, hc, Bool.and_self], h⟩
  | _ => simp only [eqK, ifK_yes] at h; exact h
theorem ckC_ok {ops : Array Oper} {o : Oper} {F : Fr} {T : Tm} (hR : Rep F T) {cK : CallK} {B : Bl} {n : Nat} {D : Dfr} {k : KS} {q : KQ} (h : runB (ckC o P ops.toList) cK F B n D k q = .yes) :
    ckOp P ops o ⟨T, ⟨B, n⟩, D⟩ = true ∧ k F B n D = .yes := by
  rcases o with ⟨d, op, ty, pos, af, g⟩
  have go : ∀ {x : Ans}, want ops g T = some true → runB (opC op P) noCall F B n [] (fun v _ _ E => emptyK E (runB (eqC d) F v x)) noPan = .yes →
      ckOp P ops ⟨d, op, ty, pos, af, g⟩ ⟨T, ⟨B, n⟩, D⟩ = true ∧ x = .yes := by
    intro x hw h
    have := opC_ok hR (RC.no fun _ _ _ => .bad) op h
    simp only [ckOp, hw]
    cases hr : oper P (fun _ _ _ => .bad) op T ⟨B, n⟩ with
    | val v H =>
      rw [hr] at this
      simp only [Good, emptyK_yes] at this
      cases d with
      | none => exact ⟨rfl, this.2⟩
      | some t =>
        have := this.2
        simp only [eqC, bindB_eq, runB_mk] at this
        obtain ⟨u, hu, this⟩ := tmpG_ok hR t this
        have := eqK_ok this
        simp only [hu]
        exact this
    | dfr f xs => rw [hr] at this; simp only [Good, emptyK_yes] at this; exact absurd this.1 (by simp)
    | pan v H => rw [hr] at this; cases this
    | _ => rw [hr] at this; exact this.elim
  have h : runB (ckC1 (guardC g ops.toList) (opC op P) d) cK F B n D k q = .yes := h
  cases hg : guardC g ops.toList with
  | none =>
    rw [hg] at h
    simp only [ckC1, bindB_eq, runB_mk, tk_eq] at h
    exact go (guardC_none hg) h
  | some b =>
    rw [hg] at h
    simp only [ckC1, bindB_eq, runB_mk, tk_eq] at h
    obtain ⟨w, hw, h⟩ := guardC_some hR hg h
    cases w with
    | true => exact go hw h
    | false => exact ⟨by simp only [ckOp, hw], h⟩
theorem tmpN_ok {F : Fr} {T : Tm} (h : Rep F T) (t : Nat) {k : Fr → Ans} (hy : runB (tmpN t) F k = .yes) : ∃ F', Rep F' (T.set (bits t) none) ∧ k F' = .yes := by
  obtain ⟨p, rfl, hp⟩ := h
  unfold tmpN at hy
  cases hb : Nat.blt t 512 with
  | false => rw [hb] at hy; cases hy
  | true =>
    rw [hb] at hy
    simp only [bindB_eq, runB_mk, encF] at hy
    have ht := blt_true.1 hb
    let i := dg8 (t / 64)
    let j := dg8 (t / 8 % 8)
    let l := dg8 (t % 8)
    rw [modN_enc _ _ _ _ _ (updD (p i) j (updD (p i j) l none))] at hy
    · refine ⟨_, ⟨_, rfl, ?_⟩, hy⟩
      intro s u hs hu
      rw [Tr.get_set_bits]
      by_cases hts : t = s
      · subst hts
        have hu : updD p i (updD (p i) j (updD (p i j) l none)) i j l = some u := hu
        rw [updD_same, updD_same, updD_same] at hu
        cases hu
      · rw [if_neg hts]
        refine hp s u hs ?_
        rw [← hu]
        by_cases h1 : t / 64 = s / 64
        · by_cases h2 : t / 8 % 8 = s / 8 % 8
          · have h3 : t % 8 ≠ s % 8 := by omega
            have h3' : dg8 (t % 8) ≠ dg8 (s % 8) := fun h => h3 (dg8_inj (by omega) (by omega) h)
            show _ = updD p i _ (dg8 (s / 64)) (dg8 (s / 8 % 8)) (dg8 (s % 8))
            rw [← h1, ← h2]
            show _ = updD p i _ i j (dg8 (s % 8))
            rw [updD_same, updD_same, updD_other _ h3']
          · have h2' : dg8 (t / 8 % 8) ≠ dg8 (s / 8 % 8) := fun h => h2 (dg8_inj (by omega) (by omega) h)
            show _ = updD p i _ (dg8 (s / 64)) (dg8 (s / 8 % 8)) (dg8 (s % 8))
            rw [← h1]
            show _ = updD p i _ i (dg8 (s / 8 % 8)) (dg8 (s % 8))
            rw [updD_same, updD_other _ h2']
        · by_cases h64 : t / 64 < 8 ∧ s / 64 < 8
          · have h1' : dg8 (t / 64) ≠ dg8 (s / 64) := fun h => h1 (dg8_inj h64.1 h64.2 h)
            show _ = updD p i _ (dg8 (s / 64)) (dg8 (s / 8 % 8)) (dg8 (s % 8))
            rw [updD_other _ h1']
          · omega
    · intro g
      rw [modN_enc _ _ _ _ _ (updD (p i j) l none)]
      · rfl
      · intro g
        rw [modN_enc _ _ _ _ _ none]
        · rfl
        · intro g
          rfl
theorem clrC_ok : ∀ (l : List Oper) {F : Fr} {T : Tm}, Rep F T → ∀ {k : Fr → Ans}, runB (clrC l) F k = .yes → ∃ F', Rep F' (clearD l T) ∧ k F' = .yes
  | [], F, T, hR, k, h => ⟨F, hR, h⟩
  | o :: l, F, T, hR, k, h => by
    have e : clrC (o :: l) = Option.rec (motive := fun _ => Bx (Fr → (Fr → Ans) → Ans)) (clrC l) (fun t => bindB (tmpN t) fun c => bindB (clrC l) fun r => .mk fun T k => c T fun T => r T k) o.dst := rfl
    rw [e] at h
    simp only [clearD]
    cases hd : o.dst with
    | none => rw [hd] at h; exact clrC_ok l hR h
    | some t =>
      rw [hd] at h
      simp only [bindB_eq, runB_mk] at h
      obtain ⟨F1, h1, h⟩ := tmpN_ok hR t h
      exact clrC_ok l h1 h
theorem finC_ok {fin : Bool} {ops : List Oper} {fo : Bx StT} {cK : CallK} {F : Fr} {B : Bl} {n : Nat} {D : Dfr} {k : KS} {q : KQ} (h : runB (finC fin ops fo) cK F B n D k q = .yes) :
    ∃ q', runB fo cK F B n D k q' = .yes ∧ ∀ v F T B n D, Rep F T → q' v F B n D = .yes → fin = true ∧ ∃ F', Rep F' (clearD ops T) ∧ q v F' B n D = .yes := by
  simp only [finC, bindB_eq] at h
  cases fin with
  | false => exact ⟨_, h, fun v F T B n D _ hq => by cases hq⟩
  | true =>
    simp only [runB_mk] at h
    exact ⟨_, h, fun v F T B n D hR hq => ⟨rfl, clrC_ok ops hR hq⟩⟩
theorem drawC_ok {ops : Array Oper} {cK : CallK} {c : CallF} (hC : RC cK c) : ∀ (l : List Mv) {F : Fr} {T : Tm}, Rep F T → ∀ {B : Bl} {n : Nat} {D : Dfr} {k : KS} {q : KQ}, runB (drawC l P ops.toList) cK F B n D k q = .yes →
    RegR (drawR P c ops l ⟨T, ⟨B, n⟩, D⟩) k q
  | [], F, T, hR, B, n, D, k, q, h => .inl ⟨F, _, rfl, hR, h⟩
  | v :: l, F, T, hR, B, n, D, k, q, h => by
    have e : drawC (v :: l) P ops.toList = bindB (mvC v P ops.toList) fun fo => bindB (drawC l P ops.toList) fun fl => .mk fun call T B n D k q => fo call T B n D (fun T B n D => fl call T B n D k q) q := rfl
    rw [e] at h
    simp only [bindB_eq, runB_mk] at h
    cases v with
    | ex i fin =>
      simp only [mvC, Array.getElem?_toList] at h
      cases ho : ops[i]? with
      | none => rw [ho] at h; cases h
      | some o =>
        rw [ho] at h
        simp only [optB_some] at h
        obtain ⟨q', h, hq⟩ := finC_ok h
        rcases operC_ok hR hC h with ⟨F', T', H', D', hR', hd, h⟩ | ⟨v, H', ⟨hw, hv⟩, h⟩
        · have := drawC_ok hC l hR' h
          rcases hd with ⟨hw, rfl, rfl, rfl⟩ | ⟨hw, ⟨v, hv, rfl, rfl⟩ | ⟨f, xs, hv, rfl, rfl, rfl⟩⟩
          · simp only [drawR, ho, hw, putT_d]; exact this
          · simp only [drawR, ho, hw, hv, putT_d]; exact this
          · simp only [drawR, ho, hw, hv, putT_d]; exact this
        · obtain ⟨rfl, F', hR', h⟩ := hq _ _ _ _ _ _ hR h
          exact .inr ⟨v, F', ⟨clearD ops.toList T, H', D⟩, by simp only [drawR, ho, hw, hv, cond_true], hR', h⟩
    | ck i =>
      simp only [mvC, Array.getElem?_toList] at h
      cases ho : ops[i]? with
      | none => rw [ho] at h; cases h
      | some o =>
        rw [ho] at h
        simp only [optB_some] at h
        obtain ⟨hck, h⟩ := ckC_ok hR h
        have := drawC_ok hC l hR h
        simp only [drawR, ho, hck, cond_true]
        exact this
/-- the plans that are told are the plans -/
def PlOK (P : Program) (pl : PlT) : Code → Prop
  | .region id ops true => ∀ l, lookP id pl = some l → planOf P ops = some l
  | .seq a b => PlOK P pl a ∧ PlOK P pl b
  | .cond _ a b => PlOK P pl a ∧ PlOK P pl b
  | .block _ b => PlOK P pl b
  | .loop b => PlOK P pl b
  | .scope b => PlOK P pl b
  | _ => True
noncomputable def plB (P : Program) (pl : PlT) : Code → Bool
  | .region id ops true => match lookP id pl with | some l => decide (planOf P ops = some l) | none => true
  | .seq a b => plB P pl a && plB P pl b
  | .cond _ a b => plB P pl a && plB P pl b
  | .block _ b => plB P pl b
  | .loop b => plB P pl b
  | .scope b => plB P pl b
  | _ => true
theorem plB_ok {pl : PlT} : ∀ (c : Code), plB P pl c = true → PlOK P pl c := by
  intro c
  induction c with
  | region id ops draw =>
    intro h
    cases draw with
    | false => trivial
    | true =>
      intro l hl
      simp only [plB, hl, decide_eq_true_eq] at h
      exact h
  | seq a b iha ihb => intro h; simp only [plB, Bool.and_eq_true] at h; exact ⟨iha h.1, ihb h.2⟩
  | cond x a b iha ihb => intro h; simp only [plB, Bool.and_eq_true] at h; exact ⟨iha h.1, ihb h.2⟩
  | block id b ihb => intro h; exact ihb h
  | loop b ihb => intro h; exact ihb h
  | scope b ihb => intro h; exact ihb h
  | _ => intro _; trivial
theorem plOK_nil : ∀ (c : Code), PlOK P [] c := by
  intro c
  induction c with
  | region id ops draw =>
    cases draw with
    | false => trivial
    | true => intro l hl; cases hl
  | seq a b iha ihb => exact ⟨iha, ihb⟩
  | cond x a b iha ihb => exact ⟨iha, ihb⟩
  | block id b ihb => exact ihb
  | loop b ihb => exact ihb
  | scope b ihb => exact ihb
  | _ => trivial
/-- a table of plans, a row a function -/
def PtOK (P : Program) (pt : List PlT) : Prop := ∀ (f : FuncId) fn c, P.funcs[f]? = some fn → fn.body = some c → PlOK P (plF f pt) c
noncomputable def ptB (P : Program) : List PlT → Nat → Bool
  | [], _ => true
  | [] :: r, f => ptB P r (Nat.succ f)
  | (p :: l) :: r, f => (match P.funcs[f]? with | some fn => (match fn.body with | some c => plB P (p :: l) c | none => true) | none => true) && ptB P r (Nat.succ f)
theorem ptB_append : ∀ (l m : List PlT) (i : Nat), ptB P l i = true → ptB P m (i + l.length) = true → ptB P (l ++ m) i = true
  | [], m, i, _, h => by simpa using h
  | p :: l, m, i, h1, h2 => by
    have h2' : ptB P m (i + 1 + l.length) = true := by rw [show i + 1 + l.length = i + (l.length + 1) by omega]; exact h2
    cases p with
    | nil => exact ptB_append l m (i + 1) h1 h2'
    | cons q r =>
      simp only [ptB, Bool.and_eq_true, List.cons_append] at h1 ⊢
      exact ⟨h1.1, ptB_append l m (i + 1) h1.2 h2'⟩
theorem plF_get : ∀ (f : FuncId) (pt : List PlT), plF f pt = (pt[f]?).getD []
  | 0, [] => rfl
  | 0, p :: l => rfl
  | f + 1, [] => rfl
  | f + 1, p :: l => by
    show plF f l = _
    rw [plF_get f l]
    simp
theorem ptB_get : ∀ (pt : List PlT) (i : Nat), ptB P pt i = true → ∀ (j : Nat) pl, pt[j]? = some pl → ∀ fn c, P.funcs[i + j]? = some fn → fn.body = some c → PlOK P pl c
  | [], _, _, j, pl, hj, _, _, _, _ => by simp at hj
  | p :: r, i, h, j, pl, hj, fn, c, hf, hb => by
    cases j with
    | zero =>
      simp only [List.getElem?_cons_zero, Option.some.injEq] at hj
      subst hj
      rw [Nat.add_zero] at hf
      cases p with
      | nil => exact plOK_nil c
      | cons q l =>
        simp only [ptB, Bool.and_eq_true, hf, hb] at h
        exact plB_ok c h.1
    | succ j =>
      have hr : ptB P r (i + 1) = true := by
        cases p with
        | nil => exact h
        | cons q l => simp only [ptB, Bool.and_eq_true] at h; exact h.2
      exact ptB_get r (i + 1) hr j pl (by simpa using hj) fn c (by rw [show i + 1 + j = i + (j + 1) by omega]; exact hf) hb
theorem ptB_ok {pt : List PlT} (h : ptB P pt 0 = true) : PtOK P pt := by
  intro f fn c hf hb
  rw [plF_get]
  cases hp : pt[f]? with
  | none => exact plOK_nil c
  | some pl => exact ptB_get pt 0 h f pl hp fn c (by rw [Nat.zero_add]; exact hf) hb
theorem regC_ok {id : Nat} {ops : Array Oper} {draw : Bool} {pl : PlT} (hpl : PlOK P pl (.region id ops draw)) {cK : CallK} {c : CallF} (hC : RC cK c) {F : Fr} {T : Tm} (hR : Rep F T) {B : Bl} {n : Nat} {D : Dfr} {k : KS} {q : KQ} (h : runB (regC draw id ops P pl) cK F B n D k q = .yes) :
    RegR (regionR P c ops draw ⟨T, ⟨B, n⟩, D⟩) k q := by
  cases draw with
  | false => exact opsC_ok hC _ hR h
  | true =>
    simp only [regC] at h
    simp only [regionR]
    cases hp : lookP id pl with
    | none => rw [hp] at h; cases h
    | some l => rw [hp] at h; rw [hpl l hp]; exact drawC_ok hC l hR h

/-! ### code -/
/-- code, as the kernel runs it -/
def RX (P : Program) (eK : ExK) (ex : ExF) : Prop := ∀ c pl F T B n D k, PlOK P pl c → Rep F T → eK c pl F B n D k = .yes → ∃ e F' S', ex c ⟨T, ⟨B, n⟩, D⟩ = .ok e S' ∧ Rep F' S'.T ∧ k e F' S'.H.bl S'.H.nx S'.D = .yes
theorem codeC_ok {eK : ExK} {ex : ExF} (hX : RX P eK ex) {cK : CallK} {c : CallF} (hC : RC cK c) : ∀ (x : Code) {pl : PlT}, PlOK P pl x → ∀ {F : Fr} {T : Tm}, Rep F T → ∀ {B : Bl} {n : Nat} {D : Dfr} {k : KE}, runB (codeC x P pl) eK cK F B n D k = .yes →
    ∃ e F' S', stepC P c ex x ⟨T, ⟨B, n⟩, D⟩ = .ok e S' ∧ Rep F' S'.T ∧ k e F' S'.H.bl S'.H.nx S'.D = .yes := by
  intro x
  induction x with
  | skip => intro pl hpl F T hR B n D k h; exact ⟨_, F, _, rfl, hR, h⟩
  | label l => intro pl hpl F T hR B n D k h; exact ⟨_, F, _, rfl, hR, h⟩
  | exit id => intro pl hpl F T hR B n D k h; exact ⟨_, F, _, rfl, hR, h⟩
  | ret => intro pl hpl F T hR B n D k h; exact ⟨_, F, _, rfl, hR, h⟩
  | region id ops draw =>
    intro pl hpl F T hR B n D k h
    have e : codeC (.region id ops draw) P pl = bindB (regC draw id ops P pl) fun f => .mk fun _ call T B n D k => f call T B n D (fun T B n D => k .normal T B n D) (fun v T B n D => k (.panic v) T B n D) := rfl
    rw [e] at h
    simp only [bindB_eq, runB_mk] at h
    rcases regC_ok hpl hC hR h with ⟨F', S', h1, hR', h⟩ | ⟨v, F', S', h1, hR', h⟩
    · exact ⟨_, F', S', h1, hR', h⟩
    · exact ⟨_, F', S', h1, hR', h⟩
  | seq a b iha ihb =>
    intro pl hpl F T hR B n D k h
    have h : runB (codeC a P pl) eK cK F B n D (fun e T B n D => seqE e (runB (codeC b P pl) eK cK T B n D k) fun e => k e T B n D) = .yes := h
    obtain ⟨e, F', S', h1, hR', h⟩ := iha hpl.1 hR h
    cases e with
    | normal =>
      obtain ⟨e, F2, S2, h2, hR2, h⟩ := ihb hpl.2 hR' h
      exact ⟨e, F2, S2, by simp only [stepC, h1, seqK]; exact h2, hR2, h⟩
    | _ => exact ⟨_, F', S', by simp only [stepC, h1, seqK], hR', h⟩
  | cond x a b iha ihb =>
    intro pl hpl F T hR B n D k h
    have e : codeC (.cond x a b) P pl = bindB (opnd x) fun g => .mk fun ih call T B n D k => tk (g T fun c => boolK c fun c => Bool.rec (motive := fun _ => Ans) (runB (codeC b P pl) ih call T B n D k) (runB (codeC a P pl) ih call T B n D k) c) := rfl
    rw [e] at h
    simp only [bindB_eq, runB_mk, tk_eq] at h
    obtain ⟨v, hv, h⟩ := opnd_ok hR x h
    rw [boolK_yes] at h
    obtain ⟨y, rfl, h⟩ := h
    cases y with
    | true =>
      obtain ⟨e, F', S', h1, hR', h⟩ := iha hpl.1 hR h
      exact ⟨e, F', S', by simp only [stepC, condK, hv]; exact h1, hR', h⟩
    | false =>
      obtain ⟨e, F', S', h1, hR', h⟩ := ihb hpl.2 hR h
      exact ⟨e, F', S', by simp only [stepC, condK, hv]; exact h1, hR', h⟩
  | block id b ihb =>
    intro pl hpl F T hR B n D k h
    have h : runB (codeC b P pl) eK cK F B n D (fun e T B n D => blockE e id fun e => k e T B n D) = .yes := h
    obtain ⟨e, F', S', h1, hR', h⟩ := ihb hpl hR h
    cases e with
    | exit i =>
      simp only [blockE] at h
      cases hi : Nat.beq i id with
      | true => rw [hi] at h; exact ⟨_, F', S', by simp only [stepC, h1, blockK, hi, cond_true], hR', h⟩
      | false => rw [hi] at h; exact ⟨_, F', S', by simp only [stepC, h1, blockK, hi, cond_false], hR', h⟩
    | _ => exact ⟨_, F', S', by simp only [stepC, h1, blockK], hR', h⟩
  | loop b ihb =>
    intro pl hpl F T hR B n D k h
    have h : runB (codeC b P pl) eK cK F B n D (fun e T B n D => seqE e (eK (.loop b) pl T B n D k) fun e => k e T B n D) = .yes := h
    obtain ⟨e, F', S', h1, hR', h⟩ := ihb hpl hR h
    cases e with
    | normal =>
      obtain ⟨e, F2, S2, h2, hR2, h⟩ := hX _ _ _ _ _ _ _ _ hpl hR' h
      exact ⟨e, F2, S2, by simp only [stepC, h1, seqK]; exact h2, hR2, h⟩
    | _ => exact ⟨_, F', S', by simp only [stepC, h1, seqK], hR', h⟩
  | scope b ihb =>
    intro pl hpl F T hR B n D k h
    obtain ⟨e, F', S', h1, hR', h⟩ := ihb hpl hR h
    exact ⟨e, F', S', by simp only [stepC]; exact h1, hR', h⟩
  | _ => intro pl hpl F T hR B n D k h; cases h

/-! ### functions -/
theorem argsF_ok : ∀ (xs : List AV) (i : Nat) {F : Fr} {T : Tm}, Rep F T → ∀ {k : Fr → Ans}, argsF xs i F k = .yes → ∃ F', Rep F' (layT T i xs) ∧ k F' = .yes
  | [], i, F, T, hR, k, h => ⟨F, hR, h⟩
  | v :: xs, i, F, T, hR, k, h => by
    have h : runB (tmpS i) v F (fun T => fN' (Nat.succ i) fun i => argsF xs i T k) = .yes := h
    obtain ⟨F', hR', h⟩ := tmpS_ok hR i v h
    exact argsF_ok xs (i + 1) hR' h
theorem resC1_ok {F : Fr} {T : Tm} (hR : Rep F T) {r : ResultVar} {H : Heap} {k : KV} (h : runB (resC1 P r) F H.bl k = .yes) : ∃ v, resV P r T H = some v ∧ k v = .yes := by
  cases r with
  | tmp t =>
    simp only [resC1, bindB_eq, runB_mk] at h
    exact tmpG_ok hR t h
  | cell a t =>
    simp only [resC1, bindB_eq, runB_mk] at h
    obtain ⟨v, hv, h⟩ := tmpG_ok hR a h
    obtain ⟨q, b, i, w, hq, rfl, hl, h⟩ := loadC_ok h
    exact ⟨w, by simp only [resV, hv, hq]; rw [hl H.nx], h⟩
theorem resC_ok {F : Fr} {T : Tm} (hR : Rep F T) {H : Heap} : ∀ (l : List ResultVar) {k : List AV → Ans}, runB (resC P l) F H.bl k = .yes → ∃ vs, resL P T H l = some vs ∧ k vs = .yes
  | [], k, h => ⟨[], rfl, h⟩
  | r :: l, k, h => by
    have e : resC P (r :: l) = bindB (resC1 P r) fun f => bindB (resC P l) fun g => .mk fun T B k => f T B fun v => g T B fun l => k (v :: l) := rfl
    rw [e] at h
    simp only [bindB_eq, runB_mk] at h
    obtain ⟨v, hv, h⟩ := resC1_ok hR h
    obtain ⟨vs, hvs, h⟩ := resC_ok hR l h
    exact ⟨v :: vs, by simp only [resL, hv, hvs], h⟩
theorem resA_of {T : Tm} {H : Heap} {fn : Func} {vs : List AV} (h : resL P T H fn.results.toList = some vs) : ∃ v, resA P fn T H = some v ∧ ∀ (k : KV), oneF vs k = k v := by
  rcases vs with _ | ⟨v, _ | ⟨w, l⟩⟩
  · exact ⟨_, by simp only [resA, h], fun k => rfl⟩
  · exact ⟨_, by simp only [resA, h], fun k => rfl⟩
  · exact ⟨_, by simp only [resA, h], fun k => rfl⟩
theorem recovK_eq (u : Up) (k : AV → Up → Ans) : recovK u k = k (recov u).1 (recov u).2 := by cases u <;> rfl
theorem opDC_ok {F : Fr} {T : Tm} (hR : Rep F T) {cK : CallK} {c : CallF} (hC : RC cK c) (o : Op) {B : Bl} {n : Nat} {u : Up} {k : AV → Bl → Nat → Up → Ans} (h : runB (opDC o P) cK F B n u k = .yes) :
    ∃ v H u', ((oper P c o T ⟨B, n⟩ = .val v H ∧ u' = u) ∨ (oper P c o T ⟨B, n⟩ = .rcv ∧ recov u = (v, u') ∧ H = ⟨B, n⟩)) ∧ k v H.bl H.nx u' = .yes := by
  have gen : opDC o P = (bindB (opC o P) fun fo => .mk fun call T B n u k => fo call T B n [] (fun v B n E => emptyK E (k v B n u)) noPan) → ∃ v H u', ((oper P c o T ⟨B, n⟩ = .val v H ∧ u' = u) ∨ (oper P c o T ⟨B, n⟩ = .rcv ∧ recov u = (v, u') ∧ H = ⟨B, n⟩)) ∧ k v H.bl H.nx u' = .yes := by
    intro e
    rw [e] at h
    simp only [bindB_eq, runB_mk] at h
    have := opC_ok hR hC o h
    cases hr : oper P c o T ⟨B, n⟩ with
    | val v H =>
      rw [hr] at this
      simp only [Good, emptyK_yes] at this
      exact ⟨v, H, u, .inl ⟨rfl, rfl⟩, this.2⟩
    | dfr f xs =>
      rw [hr] at this
      simp only [Good, emptyK_yes] at this
      exact absurd this.1 (by simp)
    | pan v H => rw [hr] at this; cases this
    | _ => rw [hr] at this; exact this.elim
  cases o with
  | call cl =>
    rcases cl with ⟨ce, as, ts⟩
    cases ce with
    | builtin b =>
      cases b <;> first
        | exact gen rfl
        | (simp only [opDC, bindB_eq, runB_mk] at h
           obtain ⟨xs, hxs, h⟩ := opndL_ok hR _ h
           rw [recovK_eq] at h
           exact ⟨_, ⟨B, n⟩, _, .inr ⟨by simp only [oper, oCall, hxs, oBuiltin], rfl, rfl⟩, h⟩)
    | _ => exact gen rfl
  | _ => exact gen rfl
/-- a deferred function's operation done -/
def DidD (P : Program) (c : CallF) (ops : Array Oper) (g : Option (Nat × Bool)) (d : Option Tmp) (o : Op) (T : Tm) (H : Heap) (u : Up) (T' : Tm) (H' : Heap) (u' : Up) : Prop :=
  (want ops g T = some false ∧ T' = putd d undefA T ∧ H' = H ∧ u' = u) ∨ (want ops g T = some true ∧ ∃ v, ((oper P c o T H = .val v H' ∧ u' = u) ∨ (oper P c o T H = .rcv ∧ recov u = (v, u') ∧ H' = H)) ∧ T' = putd d v T)
theorem operDC_ok {ops : Array Oper} {o : Oper} {F : Fr} {T : Tm} (hR : Rep F T) {cK : CallK} {c : CallF} (hC : RC cK c) {B : Bl} {n : Nat} {D : Dfr} {u : Up} {k : KU} (h : runB (operDC o P ops.toList) cK F B n D u k = .yes) :
    ∃ F' T' H' u', Rep F' T' ∧ DidD P c ops o.guard o.dst o.op T ⟨B, n⟩ u T' H' u' ∧ k F' H'.bl H'.nx D u' = .yes := by
  rcases o with ⟨d, op, ty, pos, af, g⟩
  have h : runB (operDC1 (guardC g ops.toList) (opDC op P) (dstC d)) cK F B n D u k = .yes := h
  have go : want ops g T = some true → runB (opDC op P) cK F B n u (fun v B n u => runB (dstC d) v F fun T => k T B n D u) = .yes → ∃ F' T' H' u', Rep F' T' ∧ DidD P c ops g d op T ⟨B, n⟩ u T' H' u' ∧ k F' H'.bl H'.nx D u' = .yes := by
    intro hw h
    obtain ⟨v, H, u', hr, h⟩ := opDC_ok hR hC op h
    obtain ⟨F', hF, h⟩ := dstC_ok hR d v h
    exact ⟨F', _, H, u', hF, .inr ⟨hw, v, hr, rfl⟩, h⟩
  cases hg : guardC g ops.toList with
  | none =>
    rw [hg] at h
    simp only [operDC1, bindB_eq, runB_mk, tk_eq] at h
    exact go (guardC_none hg) h
  | some b =>
    rw [hg] at h
    simp only [operDC1, bindB_eq, runB_mk, tk_eq] at h
    obtain ⟨w, hw, h⟩ := guardC_some hR hg h
    cases w with
    | true => exact go hw h
    | false =>
      obtain ⟨F', hF, h⟩ := dstC_ok hR d undefA h
      exact ⟨F', _, ⟨B, n⟩, u, hF, .inl ⟨hw, rfl, rfl, rfl⟩, h⟩
theorem opsDC_ok {ops : Array Oper} {cK : CallK} {c : CallF} (hC : RC cK c) : ∀ (l : List Oper) {F : Fr} {T : Tm}, Rep F T → ∀ {B : Bl} {n : Nat} {D : Dfr} {u : Up} {k : KU}, runB (opsDC l P ops.toList) cK F B n D u k = .yes →
    ∃ F' S' u', opsD P c ops l ⟨T, ⟨B, n⟩, D⟩ u = .ok .normal S' u' ∧ Rep F' S'.T ∧ k F' S'.H.bl S'.H.nx S'.D u' = .yes
  | [], F, T, hR, B, n, D, u, k, h => ⟨F, _, u, rfl, hR, h⟩
  | o :: l, F, T, hR, B, n, D, u, k, h => by
    have e : opsDC (o :: l) P ops.toList = bindB (operDC o P ops.toList) fun fo => bindB (opsDC l P ops.toList) fun fl => .mk fun call T B n D u k => fo call T B n D u fun T B n D u => fl call T B n D u k := rfl
    rw [e] at h
    simp only [bindB_eq, runB_mk] at h
    obtain ⟨F', T', H', u', hR', hd, h⟩ := operDC_ok hR hC h
    obtain ⟨F2, S2, u2, h2, hR2, h⟩ := opsDC_ok hC l hR' h
    refine ⟨F2, S2, u2, ?_, hR2, h⟩
    rcases hd with ⟨hw, rfl, rfl, rfl⟩ | ⟨hw, v, ⟨hv, rfl⟩ | ⟨hv, hu, rfl⟩, rfl⟩
    · simp only [opsD, hw, putT_d]; exact h2
    · simp only [opsD, hw, hv, putT_d]; exact h2
    · simp only [opsD, hw, hv, hu, putT_d]; exact h2
theorem codeDC_ok {eK : ExK} {ex : ExF} (hX : RX P eK ex) {cK : CallK} {c : CallF} (hC : RC cK c) : ∀ (x : Code) {pl : PlT}, PlOK P pl x → ∀ {F : Fr} {T : Tm}, Rep F T → ∀ {B : Bl} {n : Nat} {D : Dfr} {u : Up} {k : KEU}, runB (codeDC x P pl) eK cK F B n D u k = .yes →
    ∃ e F' S' u', execD P c ex x ⟨T, ⟨B, n⟩, D⟩ u = .ok e S' u' ∧ Rep F' S'.T ∧ k e F' S'.H.bl S'.H.nx S'.D u' = .yes := by
  have low : ∀ (x : Code) {pl : PlT}, PlOK P pl x → (∀ S u, execD P c ex x S u = liftD u (ex x S)) → ∀ {F : Fr} {T : Tm}, Rep F T → ∀ {B : Bl} {n : Nat} {D : Dfr} {u : Up} {k : KEU}, eK x pl F B n D (fun e T B n D => k e T B n D u) = .yes →
      ∃ e F' S' u', execD P c ex x ⟨T, ⟨B, n⟩, D⟩ u = .ok e S' u' ∧ Rep F' S'.T ∧ k e F' S'.H.bl S'.H.nx S'.D u' = .yes := by
    intro x pl hpl hx F T hR B n D u k h
    obtain ⟨e, F', S', h1, hR', h⟩ := hX _ _ _ _ _ _ _ _ hpl hR h
    exact ⟨e, F', S', u, by rw [hx, h1]; rfl, hR', h⟩
  intro x
  induction x with
  | region id ops draw =>
    cases draw with
    | true =>
      intro pl hpl F T hR B n D u k h
      exact low (.region id ops true) hpl (fun S u => rfl) hR h
    | false =>
      intro pl hpl F T hR B n D u k h
      have e : codeDC (.region id ops false) P pl = bindB (opsDC ops.toList P ops.toList) fun f => .mk fun _ call T B n D u k => f call T B n D u fun T B n D u => k .normal T B n D u := rfl
      rw [e] at h
      simp only [bindB_eq, runB_mk] at h
      obtain ⟨F', S', u', h1, hR', h⟩ := opsDC_ok hC _ hR h
      exact ⟨_, F', S', u', h1, hR', h⟩
  | seq a b iha ihb =>
    intro pl hpl F T hR B n D u k h
    have h : runB (codeDC a P pl) eK cK F B n D u (fun e T B n D u => seqE e (runB (codeDC b P pl) eK cK T B n D u k) fun e => k e T B n D u) = .yes := h
    obtain ⟨e, F', S', u', h1, hR', h⟩ := iha hpl.1 hR h
    cases e with
    | normal =>
      obtain ⟨e, F2, S2, u2, h2, hR2, h⟩ := ihb hpl.2 hR' h
      exact ⟨e, F2, S2, u2, by simp only [execD, h1]; exact h2, hR2, h⟩
    | _ => exact ⟨_, F', S', u', by simp only [execD, h1], hR', h⟩
  | cond x a b iha ihb =>
    intro pl hpl F T hR B n D u k h
    have e : codeDC (.cond x a b) P pl = bindB (opnd x) fun g => .mk fun ex call T B n D u k => tk (g T fun c => boolK c fun c => Bool.rec (motive := fun _ => Ans) (runB (codeDC b P pl) ex call T B n D u k) (runB (codeDC a P pl) ex call T B n D u k) c) := rfl
    rw [e] at h
    simp only [bindB_eq, runB_mk, tk_eq] at h
    obtain ⟨v, hv, h⟩ := opnd_ok hR x h
    rw [boolK_yes] at h
    obtain ⟨y, rfl, h⟩ := h
    cases y with
    | true =>
      obtain ⟨e, F', S', u', h1, hR', h⟩ := iha hpl.1 hR h
      exact ⟨e, F', S', u', by simp only [execD, hv]; exact h1, hR', h⟩
    | false =>
      obtain ⟨e, F', S', u', h1, hR', h⟩ := ihb hpl.2 hR h
      exact ⟨e, F', S', u', by simp only [execD, hv]; exact h1, hR', h⟩
  | block id b ihb => intro pl hpl F T hR B n D u k h; exact low _ hpl (fun S u => rfl) hR h
  | loop b ihb => intro pl hpl F T hR B n D u k h; exact low _ hpl (fun S u => rfl) hR h
  | scope b ihb => intro pl hpl F T hR B n D u k h; exact low _ hpl (fun S u => rfl) hR h
  | skip => intro pl hpl F T hR B n D u k h; exact low _ hpl (fun S u => rfl) hR h
  | label l => intro pl hpl F T hR B n D u k h; exact low _ hpl (fun S u => rfl) hR h
  | exit id => intro pl hpl F T hR B n D u k h; exact low _ hpl (fun S u => rfl) hR h
  | ret => intro pl hpl F T hR B n D u k h; exact low _ hpl (fun S u => rfl) hR h
  | _ => intro pl hpl F T hR B n D u k h; cases h
theorem endE_yes {e : Ex} {x : Ans} : endE e x = .yes ↔ (e = .normal ∨ e = .ret) ∧ x = .yes := by cases e <;> simp [endE]
theorem dfnC_ok {pt : List PlT} (hpt : PtOK P pt) {eK : ExK} {ex : ExF} (hX : RX P eK ex) {cK : CallK} {c : CallF} (hC : RC cK c) {f : FuncId} {xs : List AV} {m : Md} {B : Bl} {n : Nat} {k : Md → Bl → Nat → Ans} (h : runB (dfnC P pt f) eK cK xs B n m k = .yes) :
    ∃ m' H', (∀ ds, runDefers P c ex ((f, xs) :: ds) m ⟨B, n⟩ = runDefers P c ex ds m' H') ∧ k m' H'.bl H'.nx = .yes := by
  simp only [dfnC] at h
  cases hf : P.funcs[f]? with
  | none => rw [hf] at h; cases h
  | some fn =>
    rw [hf] at h
    simp only [optB_some] at h
    cases hb : fn.body with
    | none => rw [hb] at h; cases h
    | some x =>
      rw [hb] at h
      simp only [optB_some, bindB_eq, runB_mk] at h
      obtain ⟨F, hR, h⟩ := argsF_ok xs 0 (Rep.fr0 .lf) h
      obtain ⟨e, F', S', u', h1, hR', h⟩ := codeDC_ok hX hC x (hpt f fn x hf hb) hR h
      simp only [endE_yes, emptyK_yes] at h
      obtain ⟨he, hD, h⟩ := h
      obtain ⟨vs, hvs, h⟩ := resC_ok hR' _ h
      obtain ⟨v, hv, _⟩ := resA_of hvs
      refine ⟨mdOf u', S'.H, fun ds => ?_, h⟩
      simp only [runDefers, hf, hb, argsT_eq]
      rcases he with rfl | rfl
      · rw [h1]
        simp only [hD, hv, List.isEmpty_nil, Option.isSome_some, Bool.and_self, cond_true]
      · rw [h1]
        simp only [hD, hv, List.isEmpty_nil, Option.isSome_some, Bool.and_self, cond_true]
theorem dfsF_ok {pt : List PlT} (hpt : PtOK P pt) {eK : ExK} {ex : ExF} (hX : RX P eK ex) {cK : CallK} {c : CallF} (hC : RC cK c) : ∀ (ds : Dfr) {m : Md} {B : Bl} {n : Nat} {k : Md → Bl → Nat → Ans}, dfsF P pt eK cK ds m B n k = .yes → ∃ m' H', runDefers P c ex ds m ⟨B, n⟩ = some (m', H') ∧ k m' H'.bl H'.nx = .yes
  | [], m, B, n, k, h => ⟨m, ⟨B, n⟩, rfl, h⟩
  | (f, xs) :: ds, m, B, n, k, h => by
    have h : runB (dfnC P pt f) eK cK xs B n m (fun m B n => dfsF P pt eK cK ds m B n k) = .yes := h
    obtain ⟨m1, H1, h1, h⟩ := dfnC_ok hpt hX hC h
    obtain ⟨m', H', h2, h⟩ := dfsF_ok hpt hX hC ds h
    exact ⟨m', H', by rw [h1]; exact h2, h⟩
theorem leaveK_ok {e : Ex} {f : Md → Ans} (h : leaveK e f = .yes) : ∃ m, ((e = .normal ∨ e = .ret) ∧ m = .ret ∨ ∃ v, e = .panic v ∧ m = .pan v) ∧ f m = .yes := by
  cases e with
  | normal => exact ⟨.ret, .inl ⟨.inl rfl, rfl⟩, h⟩
  | ret => exact ⟨.ret, .inl ⟨.inr rfl, rfl⟩, h⟩
  | panic v => exact ⟨.pan v, .inr ⟨v, rfl, rfl⟩, h⟩
  | exit i => cases h
/-- how a function ends -/
theorem leave_ok {pt : List PlT} (hpt : PtOK P pt) {eK : ExK} {ex : ExF} (hX : RX P eK ex) {cK : CallK} {c : CallF} (hC : RC cK c) {fn : Func} {e : Ex} {S : St} {F : Fr} (hR : Rep F S.T) {k : KH} {p : KP}
    (h : leaveK e (fun m => dfsF P pt eK cK S.D m S.H.bl S.H.nx fun m B n => mdK m (runB (resC P fn.results.toList) F B fun l => oneF l fun v => k v B n) fun v => p v B n) = .yes) :
    (∃ v H', (match (Res.ok e S) with | .ok .normal S => leave P c ex fn .ret S | .ok .ret S => leave P c ex fn .ret S | .ok (.panic v) S => leave P c ex fn (.pan v) S | _ => .bad) = .ret v H' ∧ k v H'.bl H'.nx = .yes) ∨
    (∃ v H', (match (Res.ok e S) with | .ok .normal S => leave P c ex fn .ret S | .ok .ret S => leave P c ex fn .ret S | .ok (.panic v) S => leave P c ex fn (.pan v) S | _ => .bad) = .pan v H' ∧ p v H'.bl H'.nx = .yes) := by
  obtain ⟨m, he, h⟩ := leaveK_ok h
  obtain ⟨m', H', h2, h⟩ := dfsF_ok hpt hX hC _ h
  have hm : (match (Res.ok e S) with | .ok .normal S => leave P c ex fn .ret S | .ok .ret S => leave P c ex fn .ret S | .ok (.panic v) S => leave P c ex fn (.pan v) S | _ => .bad) = leave P c ex fn m S := by
    rcases he with ⟨rfl | rfl, rfl⟩ | ⟨v, rfl, rfl⟩ <;> rfl
  rw [hm]
  cases m' with
  | ret =>
    have h : runB (resC P fn.results.toList) F H'.bl (fun l => oneF l fun v => k v H'.bl H'.nx) = .yes := h
    obtain ⟨vs, hvs, h⟩ := resC_ok hR _ h
    obtain ⟨v, hv, hk⟩ := resA_of hvs
    rw [hk] at h
    refine .inl ⟨v, H', ?_, h⟩
    unfold leave
    cases hD : S.D with
    | nil =>
      rw [hD] at h2
      have h2 : some (m, S.H) = some (.ret, H') := h2
      injection h2 with h2
      injection h2 with h3 h2
      subst h2 h3
      simp only [hv]
    | cons d ds =>
      rw [hD] at h2
      have h2 : runDefers P c ex (d :: ds) m S.H = some (.ret, H') := h2
      simp only [h2, hv]
  | pan v =>
    have h : p v H'.bl H'.nx = .yes := h
    refine .inr ⟨v, H', ?_, h⟩
    unfold leave
    cases hD : S.D with
    | nil =>
      rw [hD] at h2
      have h2 : some (m, S.H) = some (.pan v, H') := h2
      injection h2 with h2
      injection h2 with h3 h2
      subst h2 h3
      rfl
    | cons d ds =>
      rw [hD] at h2
      have h2 : runDefers P c ex (d :: ds) m S.H = some (.pan v, H') := h2
      simp only [h2]
theorem callK_ok {pt : List PlT} (hpt : PtOK P pt) {eK : ExK} {ex : ExF} (hX : RX P eK ex) {cK : CallK} {c : CallF} (hC : RC cK c) : RC (callK P pt eK cK) (callB P c ex) := by
  intro f xs B n k p h
  simp only [callK, fnC] at h
  cases hf : P.funcs[f]? with
  | none => rw [hf] at h; cases h
  | some fn =>
    rw [hf] at h
    simp only [optB_some] at h
    cases hb : fn.body with
    | none => rw [hb] at h; cases h
    | some x =>
      rw [hb] at h
      simp only [optB_some, bindB_eq, runB_mk] at h
      obtain ⟨F, hR, h⟩ := argsF_ok xs 0 (Rep.fr0 .lf) h
      obtain ⟨e, F', S', h1, hR', h⟩ := hX _ _ _ _ _ _ _ _ (hpt f fn x hf hb) hR h
      have := leave_ok hpt hX hC hR' h
      simp only [callB, hf, hb, argsT_eq, h1]
      exact this
/-- what the kernel runs is the engine -/
theorem lvF_ok {pt : List PlT} (hpt : PtOK P pt) : ∀ n, RX P (exF P pt n) (exec P n) ∧ RC (callN P pt n) (callF P n)
  | 0 => ⟨fun c pl F T B n D k _ _ h => (by cases h), fun f xs B n k p h => (by cases h)⟩
  | n + 1 => by
    obtain ⟨h1, h2⟩ := lvF_ok hpt n
    have hc : RC (callN P pt (n + 1)) (callF P (n + 1)) := callK_ok hpt h1 h2
    exact ⟨fun c pl F T B m D k hpl hR h => codeC_ok h1 hc c hpl hR h, hc⟩
theorem exF_ok {pt : List PlT} (hpt : PtOK P pt) (n : Nat) : RX P (exF P pt n) (exec P n) := (lvF_ok hpt n).1
theorem run_ok {pt : List PlT} (hpt : PtOK P pt) (n : Nat) : RC (callN P pt n) (callF P n) := (lvF_ok hpt n).2
end Eng
end Go.Proofs.YtlajkdbpmkodpaaGreatDoor
