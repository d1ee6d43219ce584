/-
  THE ENGINE, part B: statements, calls, deferred calls; regions that draw their order by a plan that serves every order.
-/
import Derived.Test.YtbdhainbcfobeaaGreatDoorEngA
namespace Go.Proofs.YtbdhainbcfobeaaGreatDoor
namespace Eng
open Go

/-! ### the plan of a region that draws -/
inductive Cl where | pure | read | make | loud | bad
  deriving DecidableEq
def cls (P : Program) : Op → Cl
  | .slice t .. => match P.underlying t with
    | some (.slice _) => .read
    | _ => .pure
  | .move _ | .assign _ | .pick .. | .build .. | .nilCheck _ | .binOp .. | .unOp .. | .makeInterface .. | .makeFunc .. | .fieldAddr ..
  | .field .. | .indexAddr .. | .index .. | .typeAssert .. | .extract .. => .pure
  | .load .. | .lookup .. => .read
  | .alloc _ | .box .. | .buildSlice .. | .makeMap .. | .makeSlice .. => .make
  | .convert s d _ => match P.underlying s, P.underlying d with
    | some (.int _), some (.int _) => .pure
    | some .string, some .string => .pure
    | some .string, some (.slice _) => .make
    | some (.slice _), some .string => .read
    | _, _ => .bad
  | .store .. | .mapUpdate .. | .defer _ | .panic _ => .loud
  | .call { callee := .builtin b, argTypes := ts, .. } => match b with
    | .min | .max => .pure
    | .len | .cap => match (ts[0]?).bind P.underlying with
      | some (.map _ _) => .read
      | _ => .pure
    | .recover => .bad
    | _ => .loud
  | .call _ => .loud
  | _ => .bad

/-- the edges that bind: what an operation waits for -/
def needs (o : Oper) : List Nat := (o.after.toList.filter (Region.binds .any)).map (·.on)
def tmpsOf (xs : List Operand) : List Tmp := xs.filterMap fun | .tmp t => some t | _ => none
structure ON where          -- an operation's digest
  cl : Cl
  ns : List Nat
  dst : Option Tmp
  looks : List Tmp
def digest (P : Program) (ops : Array Oper) : List ON := ops.toList.map fun o =>
  ⟨cls P o.op, needs o, o.dst, Oper.looksAt ops o⟩
/-- what each waits for, as bits; the edges lead to earlier ones -/
def reach : List ON → List Nat → List Nat
  | [], acc => acc
  | d :: ds, acc => reach ds (acc ++ [d.ns.foldl (fun m n => m ||| 2 ^ n ||| acc.getD n 0) 0])
/-- a move of the plan: an operation (and whether all that come later wait for it), or a look whether a read says the same still -/
inductive Mv where | ex (i : Nat) (fin : Bool) | ck (i : Nat)
  deriving DecidableEq
def isN (c : Cl) (d : ON) : Bool := decide (d.cl = c)
def bef (rs : List Nat) (i j : Nat) : Bool := (rs.getD j 0).testBit i
/-- whether all that are not done wait for one -/
def finOf (n : Nat) (rs : List Nat) (i done : Nat) : Bool := (List.range n).all fun j => Nat.beq j i || done.testBit j || bef rs i j
/-- the order: what is pure or only reads first, then what writes, then what makes memory -/
def planF (ds : List ON) (rs : List Nat) : Nat → Nat → List Mv → Option (List Mv)
  | 0, _, acc => some acc
  | n + 1, done, acc =>
    let rdy := (List.range ds.length).filter fun i => !done.testBit i && ((ds[i]?).map fun d => d.ns.all fun j => done.testBit j).getD false
    let of (f : ON → Bool) := rdy.find? fun i => ((ds[i]?).map f).getD false
    match of fun d => isN .pure d || isN .read d with
    | some i => planF ds rs n (done ||| 2 ^ i) (acc ++ [.ex i false])
    | none => match of (isN .loud) with
      | some i =>
        let again := (List.range ds.length).filter fun j => done.testBit j && ((ds[j]?).map (isN .read)).getD false && !bef rs j i
        planF ds rs n (done ||| 2 ^ i) (acc ++ [.ex i (finOf ds.length rs i done)] ++ again.map Mv.ck)
      | none => match of (isN .make) with
        | some i => planF ds rs n (done ||| 2 ^ i) (acc ++ [.ex i false])
        | none => none
/-- which reads are looked at again, next -/
def cksOf : List Mv → List Nat
  | .ck i :: l => i :: cksOf l
  | _ => []
def clOf (ds : List ON) (i : Nat) : Cl := match ds[i]? with | some d => d.cl | none => .bad
/-- whether a plan keeps the order that is asked: step by step -/
def walk (ds : List ON) (rs : List Nat) : List Mv → List Nat → Bool
  | [], done => (List.range ds.length).all fun i => done.contains i
  | .ck i :: l, done => (match ds[i]? with
    | some d => done.contains i && (List.range ds.length).all fun j => !done.contains j || bef rs j i || (match (ds[j]?).bind (·.dst) with | some t => !d.looks.contains t | none => true)
    | none => false) && walk ds rs l done
  | .ex i fin :: l, done => match ds[i]? with
    | some d => !done.contains i && d.ns.all (fun k => done.contains k) && !isN .bad d &&
        (!isN .loud d || (List.range ds.length).all fun j => Nat.beq j i || (bif done.contains j then bef rs j i || decide (clOf ds j = .pure) || (decide (clOf ds j = .read) && (cksOf l).contains j)
          else bef rs i j || decide (clOf ds j = .pure) || decide (clOf ds j = .make))) &&
        (!fin || (List.range ds.length).all fun j => Nat.beq j i || done.contains j || bef rs i j) && walk ds rs l (i :: done)
    | none => false
/-- whether two operations bear with one another: each slot is written once, and what is read of another's is ordered -/
def pairOk (rs : List Nat) (i j : Nat) (a b : ON) : Bool := match a.dst, b.dst with
  | some t, some u => !Nat.beq t u && (bef rs i j || (!b.looks.contains t && !a.looks.contains u))
  | some t, none => bef rs i j || !b.looks.contains t
  | none, some u => bef rs i j || !a.looks.contains u
  | none, none => true
def pairsOk (ds : List ON) (rs : List Nat) : Bool :=
  (List.range ds.length).all fun j => (List.range j).all fun i =>
    (match ds[i]?, ds[j]? with | some a, some b => pairOk rs i j a b | _, _ => false)
/-- the edges lead to earlier ones -/
def edgesOk (ds : List ON) : Bool := (List.range ds.length).all fun i => match ds[i]? with | some d => d.ns.all fun j => Nat.blt j i | none => false
def planOK (ds : List ON) (rs : List Nat) (pos : List Mv) : Bool := edgesOk ds && pairsOk ds rs && walk ds rs pos []
def planOf (P : Program) (ops : Array Oper) : Option (List Mv) :=
  let ds := digest P ops
  let rs := reach ds []
  match planF ds rs ds.length 0 [] with
  | some pos => bif planOK ds rs pos then some pos else none
  | none => none

/-! ### states -/
inductive Ex where
  | normal
  | exit (id : Nat)
  | ret
  | panic (v : AV)
structure St where
  T : Tm
  H : Heap
  D : List (FuncId × List AV)
inductive Res where
  | bad
  | ok (e : Ex) (S : St)

/-- whether an operation is wanted: its guard's value -/
def want (ops : Array Oper) (g : Option (Nat × Bool)) (T : Tm) : Option Bool := match g with
  | none => some true
  | some (j, w) => match (ops[j]?).bind (·.dst) with
    | some t => match T.get (bits t) with
      | some (.bool b) => some (b == w)
      | some _ => some false
      | none => none
    | none => some false

def putT {β : Type} (d : Option Tmp) (v : AV) (T : Tm) (k : Tm → β) : β := match d with
  | some t => T.setK (bits t) (some v) k
  | none => k T

abbrev Next := St → Res
/-- what follows an operation -/
def after (d : Option Tmp) (S : St) (k : Next) (r : OR) : Res := match r with
  | .val v H => putT d v S.T fun T => k ⟨T, H, S.D⟩
  | .dfr f xs => putT d undefA S.T fun T => k ⟨T, S.H, (f, xs) :: S.D⟩
  | .pan v H => .ok (.panic v) ⟨S.T, H, S.D⟩
  | .bad => .bad
  | .rcv => .bad
def oneOp (P : Program) (call : CallF) (ops : Array Oper) (o : Oper) (k : Next) (S : St) : Res := match want ops o.guard S.T with
  | some true => after o.dst S k (oper P call o.op S.T S.H)
  | some false => putT o.dst undefA S.T fun T => k ⟨T, S.H, S.D⟩
  | none => .bad
def opsR (P : Program) (call : CallF) (ops : Array Oper) : List Oper → St → Res
  | [], S => .ok .normal S
  | o :: l, S => oneOp P call ops o (opsR P call ops l) S
/-- whether a read that was made says the same still -/
def ckOp (P : Program) (ops : Array Oper) (o : Oper) (S : St) : Bool := match want ops o.guard S.T with
  | some true => (match oper P (fun _ _ _ => .bad) o.op S.T S.H with
    | .val v _ => (match o.dst with
      | some t => (match S.T.get (bits t) with | some u => AV.eq u v | none => false)
      | none => true)
    | _ => false)
  | some false => true
  | none => false
def clearD (ops : List Oper) (T : Tm) : Tm := match ops with
  | [] => T
  | o :: l => clearD l (match o.dst with | some t => T.set (bits t) none | none => T)
def drawR (P : Program) (call : CallF) (ops : Array Oper) : List Mv → St → Res
  | [], S => .ok .normal S
  | .ex i fin :: l, S => match ops[i]? with
    | some o => (match want ops o.guard S.T with
      | some true => (match oper P call o.op S.T S.H with
        | .val v H => putT o.dst v S.T fun T => drawR P call ops l ⟨T, H, S.D⟩
        | .dfr f xs => putT o.dst undefA S.T fun T => drawR P call ops l ⟨T, S.H, (f, xs) :: S.D⟩
        | .pan v H => bif fin then .ok (.panic v) ⟨clearD ops.toList S.T, H, S.D⟩ else .bad
        | .bad => .bad
        | .rcv => .bad)
      | some false => putT o.dst undefA S.T fun T => drawR P call ops l ⟨T, S.H, S.D⟩
      | none => .bad)
    | none => .bad
  | .ck i :: l, S => match ops[i]? with
    | some o => bif ckOp P ops o S then drawR P call ops l S else .bad
    | none => .bad
def regionR (P : Program) (call : CallF) (ops : Array Oper) (draw : Bool) : St → Res := match draw with
  | false => opsR P call ops ops.toList
  | true => match planOf P ops with | some l => drawR P call ops l | none => fun _ => .bad

/-! ### code -/
abbrev ExF := Code → St → Res
def seqK (b : St → Res) (r : Res) : Res := match r with
  | .ok .normal S => b S
  | r => r
def blockK (id : Nat) (r : Res) : Res := match r with
  | .ok (.exit i) S => bif Nat.beq i id then .ok .normal S else .ok (.exit i) S
  | r => r
def condK (c : Operand) (a b : St → Res) (S : St) : Res := match ev c S.T with
  | some (.bool true) => a S
  | some (.bool false) => b S
  | _ => .bad
/-- code, by its structure; a loop's next round is taken from below -/
def stepC (P : Program) (call : CallF) (ih : ExF) : Code → St → Res
  | .skip => fun S => .ok .normal S
  | .label _ => fun S => .ok .normal S
  | .region _ ops draw => regionR P call ops draw
  | .seq a b => fun S => seqK (stepC P call ih b) (stepC P call ih a S)
  | .cond x a b => condK x (stepC P call ih a) (stepC P call ih b)
  | .block id b => fun S => blockK id (stepC P call ih b S)
  | .loop b => fun S => seqK (ih (.loop b)) (stepC P call ih b S)
  | .scope b => stepC P call ih b
  | .exit id => fun S => .ok (.exit id) S
  | .ret => fun S => .ok .ret S
  | _ => fun _ => .bad

/-! ### functions -/
def argsT {β : Type} (xs : List AV) (i : Nat) (T : Tm) (k : Tm → β) : β := match xs with
  | [] => k T
  | v :: l => T.setK (bits i) (some v) fun T => argsT l (Nat.succ i) T k
/-- one result of a function -/
def resV (P : Program) (r : ResultVar) (T : Tm) (H : Heap) : Option AV := match r with
  | .tmp t => T.get (bits t)
  | .cell a t => match T.get (bits a), plcOf P t 0 with
    | some (.ptr b i), some p => (match loadR H b i p.agg p.sz with | .val v _ => some v | _ => none)
    | _, _ => none
def resL (P : Program) (T : Tm) (H : Heap) : List ResultVar → Option (List AV)
  | [] => some []
  | r :: l => match resV P r T H, resL P T H l with | some v, some m => some (v :: m) | _, _ => none
def resA (P : Program) (fn : Func) (T : Tm) (H : Heap) : Option AV := match resL P T H fn.results.toList with
  | some [v] => some v
  | some l => some (.tup l)
  | none => none

/-- the caller's state, as a deferred call sees it -/
inductive Up where
  | none                    -- it is no deferred call, or its caller returns
  | pan (v : AV)            -- its caller panics
  | done (v : AV)           -- its caller's panic has been recovered
/-- a deferred function's body: it may recover (in a region that does not draw) -/
inductive ResD where
  | bad
  | ok (e : Ex) (S : St) (u : Up)
def recov (u : Up) : AV × Up := match u with
  | .pan v => (v, .done v)
  | u => (.nili, u)
def liftD (u : Up) (r : Res) : ResD := match r with | .ok e S => .ok e S u | .bad => .bad
def opsD (P : Program) (call : CallF) (ops : Array Oper) : List Oper → St → Up → ResD
  | [], S, u => .ok .normal S u
  | o :: l, S, u => match want ops o.guard S.T with
    | some true => (match oper P call o.op S.T S.H with
      | .val v H => putT o.dst v S.T fun T => opsD P call ops l ⟨T, H, S.D⟩ u
      | .rcv => (match recov u with | (v, u) => putT o.dst v S.T fun T => opsD P call ops l ⟨T, S.H, S.D⟩ u)
      | .pan v H => .ok (.panic v) ⟨S.T, H, S.D⟩ u
      | _ => .bad)
    | some false => putT o.dst undefA S.T fun T => opsD P call ops l ⟨T, S.H, S.D⟩ u
    | none => .bad
def execD (P : Program) (call : CallF) (ex : ExF) : Code → St → Up → ResD
  | .seq a b, S, u => match execD P call ex a S u with
    | .ok .normal S u => execD P call ex b S u
    | r => r
  | .cond x a b, S, u => (match ev x S.T with
    | some (.bool true) => execD P call ex a S u
    | some (.bool false) => execD P call ex b S u
    | _ => .bad)
  | .region i ops false, S, u => opsD P call ops ops.toList S u
  | c, S, u => liftD u (ex c S)

/-- how a function's frame leaves -/
inductive Md where | ret | pan (v : AV)
def upOf : Md → Up
  | .ret => .none
  | .pan v => .pan v
def mdOf : Up → Md
  | .pan v => .pan v
  | .none => .ret
  | .done _ => .ret
/-- what its deferred calls do -/
def runDefers (P : Program) (call : CallF) (ex : ExF) : List (FuncId × List AV) → Md → Heap → Option (Md × Heap)
  | [], m, H => some (m, H)
  | (f, xs) :: ds, m, H => match P.funcs[f]? with
    | some fn => (match fn.body with
      | some c => argsT xs 0 .lf fun T => (match execD P call ex c ⟨T, H, []⟩ (upOf m) with
        | .ok (.panic v) S _ => bif S.D.isEmpty then runDefers P call ex ds (.pan v) S.H else none
        | .ok .normal S u => bif S.D.isEmpty && (resA P fn S.T S.H).isSome then runDefers P call ex ds (mdOf u) S.H else none
        | .ok .ret S u => bif S.D.isEmpty && (resA P fn S.T S.H).isSome then runDefers P call ex ds (mdOf u) S.H else none
        | _ => none)
      | none => none)
    | none => none
def leave (P : Program) (call : CallF) (ex : ExF) (fn : Func) (m : Md) (S : St) : CR := match S.D with
  | [] => (match m with
    | .ret => (match resA P fn S.T S.H with | some v => .ret v S.H | none => .bad)
    | .pan v => .pan v S.H)
  | ds => (match runDefers P call ex ds m S.H with
    | some (.ret, H) => (match resA P fn S.T H with | some v => .ret v H | none => .bad)
    | some (.pan v, H) => .pan v H
    | none => .bad)
def callB (P : Program) (call : CallF) (ex : ExF) (f : FuncId) (xs : List AV) (H : Heap) : CR := match P.funcs[f]? with
  | some fn => (match fn.body with
    | some c => argsT xs 0 .lf fun T => (match ex c ⟨T, H, []⟩ with
      | .ok .normal S => leave P call ex fn .ret S
      | .ok .ret S => leave P call ex fn .ret S
      | .ok (.panic v) S => leave P call ex fn (.pan v) S
      | _ => .bad)
    | none => .bad)
  | none => .bad

/-- the whole: so deep -/
def level (P : Program) : Nat → ExF × CallF
  | 0 => (fun _ _ => .bad, fun _ _ _ => .bad)
  | n + 1 => (stepC P (callB P (level P n).2 (level P n).1) (level P n).1, callB P (level P n).2 (level P n).1)
def exec (P : Program) (n : Nat) : ExF := (level P n).1
def callF (P : Program) (n : Nat) : CallF := (level P n).2
end Eng
end Go.Proofs.YtbdhainbcfobeaaGreatDoor
