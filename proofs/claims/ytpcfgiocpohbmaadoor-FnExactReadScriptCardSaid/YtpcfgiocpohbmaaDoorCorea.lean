/- An evaluator for the part of the language that this program uses, proved sound over the model: states told as values and lists; what an evaluation tells, the call does. No condition. -/
import Derived.Calls
import Derived.Orders
import Derived.Below
import Derived.Laws.AppendOwn
import Derived.Laws.Slices
import Derived.Laws.StructEq
import Derived.Laws.Tables
import Derived.Laws.MakeOwn
import Derived.Laws.IdiomStrings
import Derived.Laws.BytesArg
import Derived.Laws.NewFold
import Derived.SizedLaws
import Derived.Carry
import Derived.ProofKit
import Derived.KernelRfl
import Derived.Laws.Strings
import Derived.Sort.Grow
import Derived.Deep.Draws
set_option linter.unusedVariables false
set_option linter.unusedSimpArgs false
set_option maxRecDepth 100000
namespace Go.FG
inductive Ck where
 | i (k : IntKind) | b | s | l (e : Nat) | o
inductive CV where
 | i (k : IntKind) (n : Int) | b (x : Bool) | s (x : ByteArray) | l (e : Nat) (xs : List (List CV))
abbrev Row := List (List CV)
def CV.kd : CV -> Ck
 | .i k _ => .i k | .b _ => .b | .s _ => .s | .l e _ => .l e
def cvI : CV -> Int | .i _ n => n | _ => 0
def cvB : CV -> Bool | .b x => x | _ => false
def cvS : CV -> ByteArray | .s x => x | _ => ⟨#[]⟩
def cvL : CV -> Row | .l _ xs => xs | _ => []
def cellAt (xs : Row) (i j : Nat) : CV := (xs.getD i []).getD j (.b false)
inductive AV where
 | i (k : IntKind) (n : Int) | b (x : Bool) | s (x : ByteArray)
 | sh (e : Nat) (xs : Row)
 | nl
 | own (nm : Nat)
 | vw (nm lo hi : Nat)
 | bp (nm j : Nat)
 | rp (nm i j : Nat)
 | sp (e : Nat) (xs : Row) (i j : Nat)
 | inn (nm i j : Nat)
 | ip (nm i j i2 j2 : Nat)
 | iv (nm i j lo hi : Nat)
 | fn (f : Nat) (caps : List (List CV))
 | fp (xs : List CV) (j : Nat)
inductive SV where
 | v (agg : Bool) (xs : List AV) | tup (xs : List (Bool × List AV)) | un
inductive Obj where
 | box (xs : List AV) | fbox (xs : List CV) | row (e : Nat) (ex : Bool) (xs : Row) | frow (e : Nat) (xs : Row) | dead
inductive Cel where
 | v (x : SV) | o (x : Obj) | non
def isF (n : Nat) : Bool := Nat.beq (n % 1000) 999 && Nat.blt n 900000000
abbrev St := Nat -> Cel
def upd (s : St) (k : Nat) (c : Cel) : St := fun n => bif Nat.beq n k then c else s n
def wr (s : St) : List (Nat × Cel) -> St
 | [] => s
 | (k, c) :: r => wr (upd s k c) r
def slk (n : Nat) : Nat := 2 * n
def obk (n : Nat) : Nat := 2 * n + 1
inductive Rd (α : Type) where
 | ret (a : α) | fail | get (k : Nat) (f : Cel -> Rd α)
def Rd.bind {α β : Type} : Rd α -> (α -> Rd β) -> Rd β
 | .ret a, f => f a
 | .fail, _ => .fail
 | .get k g, f => .get k fun c => (g c).bind f
def Rd.run {α : Type} : Rd α -> St -> List Nat -> Option (α × List Nat)
 | .ret a, _, l => some (a, l)
 | .fail, _, _ => none
 | .get k f, s, l => (f (s k)).run s (k :: l)
structure TI where
 agg : Bool
 ks : List Ck
 bytes : Nat
inductive AA where
 | i (k : IntKind) (n : Int) | b (x : Bool) | s (x : ByteArray) | sh (e : Nat) (xs : Row) | nl
 | ow (e : Nat) (ex : Bool) (xs : Row) | kp (xs : Row) | fn (f : Nat) (caps : List (List CV))
inductive Arg where
 | v (agg : Bool) (xs : List AA) | pt (xs : List AA) | fb (xs : List CV)
structure Res where
 rs : List Arg
 outs : List (List AA)
structure MemI where
 f : World -> (Nat -> Prop) -> Prop
 fr : ∀ {w w' : World} {K K' : Nat -> Prop}, f w K -> (∀ b, K b -> w'.heap[b]? = w.heap[b]?) -> (∀ b, K b -> K' b) -> f w' K'
def MemI.non : MemI := ⟨fun _ _ => True, fun _ _ _ => trivial⟩
structure Tab where
 ty : Nat -> Option TI
 fo : Nat -> Nat -> Option (Nat × Nat)
 eqs : List Nat
 fls : Nat -> Nat -> Bool := fun _ _ => false
 gp : MemI := .non
inductive Om where
 | nat | own (e : Nat) | sh (e : Nat)
structure Env extends Tab where
 call : Nat -> List Arg -> Option (Bool × Res)
 om : Nat -> Nat -> Om
 mode : Nat -> Nat -> Bool
 keep : Nat -> List Nat
 tk : Nat -> Bool
instance : Coe Env Tab := ⟨Env.toTab⟩
structure Eff where
 cond : Bool
 ws : List (Nat × Cel)
def memB (n : Nat) : List Nat -> Bool
 | [] => false | m :: r => Nat.beq n m || memB n r
def cst : Value -> SV
 | .int k n => .v false [.i k n] | .bool x => .v false [.b x] | .string x => bif Nat.ble x.size 4611686018427387904 then .v false [.s x] else .un
 | .slice none 0 0 => .v false [.nl]
 | _ => .un
def opd (x : Operand) : Rd SV :=
 match x with
 | .tmp t => .get (slk t) fun | .v x => .ret x | _ => .ret .un
 | .const v => .ret (cst v)
 | .func f => .ret (.v false [.fn f []])
 | .global _ => .fail
def getO (nm : Nat) : Rd Obj := .get (obk nm) fun | .o x => .ret x | _ => .fail
def fresh (nm : Nat) : Rd Unit := .get (obk nm) fun | .non => bif Nat.ble nm 899999999 then .ret () else .fail | _ => .fail
def opd1 (x : Operand) : Rd AV := (opd x).bind fun | .v false [a] => .ret a | _ => .fail
def opdI (x : Operand) : Rd (IntKind × Int) := (opd1 x).bind fun | .i k n => .ret (k, n) | _ => .fail
def dw (o : Oper) (v : SV) : List (Nat × Cel) := match o.dst with | some d => [(slk d, .v v)] | none => []
def val (o : Oper) (v : SV) : Rd Eff := .ret ⟨true, dw o v⟩
def val1 (o : Oper) (v : AV) : Rd Eff := val o (.v false [v])
def valC (o : Oper) (c : Bool) (v : AV) : Rd Eff := .ret ⟨c, dw o (.v false [v])⟩
def tyR (E : Env) (t : Nat) : Rd TI := match E.ty t with | some i => .ret i | none => .fail
def kindR (E : Env) (t : Nat) : Rd Ck := (tyR E t).bind fun ti => match ti.agg, ti.ks with | false, [k] => .ret k | _, _ => .fail
def zeroAV : Ck -> AV
 | .i k => .i k 0 | .b => .b false | .s => .s ⟨#[]⟩ | .l _ => .nl | .o => .nl
def zeroCV : Ck -> CV
 | .i k => .i k 0 | .b => .b false | .s => .s ⟨#[]⟩ | .l e => .l e [] | .o => .b false
def noO (ks : List Ck) : Bool := ks.all fun | .o => false | _ => true
def dec : Ck -> CV -> AV
 | .i k, x => .i k (cvI x) | .b, x => .b (cvB x) | .s, x => .s (cvS x) | .l e, x => .sh e (cvL x) | .o, _ => .nl
def decs (xs : Row) (i : Nat) : Nat -> List Ck -> List AV
 | _, [] => []
 | j, k :: ks => dec k (cellAt xs i j) :: decs xs i (j + 1) ks
def decO (nm : Nat) (xs : Row) (i : Nat) : Nat -> List Ck -> List AV
 | _, [] => []
 | j, .l _ :: ks => .inn nm i j :: decO nm xs i (j + 1) ks
 | j, k :: ks => dec k (cellAt xs i j) :: decO nm xs i (j + 1) ks
def ofCV : CV -> AV
 | .i k n => .i k n | .b x => .b x | .s x => .s x | .l e xs => .sh e xs
def splice {α : Type} (xs : List α) (j : Nat) (ys : List α) : List α := xs.take j ++ ys ++ xs.drop (j + ys.length)
def setC (xs : Row) (i j : Nat) (ys : List CV) : Row := xs.set i (splice (xs.getD i []) j ys)
def mkSV (agg : Bool) (xs : List AV) : SV := .v agg xs
def view (xs : Row) (lo hi : Nat) : Row := (xs.drop lo).take (hi - lo)
def plain (ks : List Ck) : Bool := ks.all fun | .i _ => true | .b => true | .s => true | _ => false
def ckB : Ck -> Ck -> Bool
 | .i a, .i b => decide (a = b) | .b, .b => true | .s, .s => true | .l a, .l b => Nat.beq a b | .o, .o => true | _, _ => false
def cksB : List Ck -> List Ck -> Bool
 | [], [] => true | x :: l, y :: r => ckB x y && cksB l r | _, _ => false
def emb (ex : Bool) (k : Ck) (a : AV) : Rd (CV × List (Nat × Cel)) :=
 match k, a with
 | .i k, .i k' n => if k = k' then .ret (.i k n, []) else .fail
 | .b, .b x => .ret (.b x, [])
 | .s, .s x => .ret (.s x, [])
 | .l e, .nl => .ret (.l e [], [])
 | .l e, .sh e' xs => bif Nat.beq e e' && !ex then .ret (.l e xs, []) else .fail
 | .l e, .own nm => (getO nm).bind fun
  | .row e' ex' xs => bif Nat.beq e e' && ex' then (bif ex then .ret (.l e xs, [(obk nm, .o .dead)]) else .fail) else .fail
  | .frow e' xs => bif Nat.beq e e' && !ex then .ret (.l e xs, []) else .fail
  | _ => .fail
 | _, _ => .fail
def embs (ex : Bool) : List Ck -> List AV -> Rd (List CV × List (Nat × Cel))
 | [], [] => .ret ([], [])
 | k :: ks, a :: r => (emb ex k a).bind fun (c, w) => (embs ex ks r).bind fun (cs, ws) => .ret (c :: cs, w ++ ws)
 | _, _ => .fail
def exOf : List AV -> Bool
 | [] => true
 | .sh _ _ :: _ => false
 | _ :: r => exOf r
end Go.FG

namespace Go.FG
def binI (op : BinOp) (k : IntKind) (a b : Int) : Option (Bool × AV) :=
 match op with
 | .add => some (true, .i k (k.wrap (a + b)))
 | .sub => some (true, .i k (k.wrap (a - b)))
 | .mul => some (true, .i k (k.wrap (a * b)))
 | .quo => some (!(b == 0), .i k (k.wrap (a.tdiv b)))
 | .rem => some (!(b == 0), .i k (a.tmod b))
 | .and => some (true, .i k (k.wrap (BitVec.ofInt k.bits a &&& BitVec.ofInt k.bits b).toNat))
 | .or => some (true, .i k (k.wrap (BitVec.ofInt k.bits a ||| BitVec.ofInt k.bits b).toNat))
 | .xor => some (true, .i k (k.wrap (BitVec.ofInt k.bits a ^^^ BitVec.ofInt k.bits b).toNat))
 | .eql => some (true, .b (a == b))
 | .neq => some (true, .b (a != b))
 | .lss => some (true, .b (decide (a < b)))
 | .leq => some (true, .b (decide (a <= b)))
 | .gtr => some (true, .b (decide (a > b)))
 | .geq => some (true, .b (decide (a ≥ b)))
 | _ => none
def binS (op : BinOp) (a b : ByteArray) : Option (Bool × AV) :=
 match op with
 | .add => some (decide (a.size + b.size <= 4611686018427387904), .s (a ++ b))
 | .eql => some (true, .b (a.toList == b.toList))
 | .neq => some (true, .b (!(a.toList == b.toList)))
 | .lss => some (true, .b (Op.bytesLess a.toList b.toList))
 | .leq => some (true, .b (Op.bytesLess a.toList b.toList || a.toList == b.toList))
 | .gtr => some (true, .b (!(Op.bytesLess a.toList b.toList || a.toList == b.toList)))
 | .geq => some (true, .b (!(Op.bytesLess a.toList b.toList)))
 | _ => none
def eqC : List AV -> List AV -> Option Bool
 | [], [] => some true
 | .i k a :: l, .i k' b :: r => if k = k' then (match eqC l r with | some t => some ((a == b) && t) | none => none) else none
 | .b a :: l, .b b :: r => match eqC l r with | some t => some ((a == b) && t) | none => none
 | .s a :: l, .s b :: r => match eqC l r with | some t => some ((a.toList == b.toList) && t) | none => none
 | _, _ => none
def kdAV : AV -> Ck
 | .i k _ => .i k | .b _ => .b | .s _ => .s | _ => .o
def binV (op : BinOp) (k : Ck) : AV -> AV -> Option (Bool × AV)
 | .i k a, .i k' b => if k = k' then binI op k a b else none
 | .s a, .s b => binS op a b
 | .b a, .b b => match op, k with | .eql, .b => some (true, .b (a == b)) | .neq, .b => some (true, .b (!(a == b))) | _, _ => none
 | _, _ => none
def shV (op : BinOp) : AV -> AV -> Option (Bool × AV)
 | .i k a, .i _ b => match op with
  | .shl => some (decide (0 <= b), .i k (k.wrap (a * 2 ^ (min b.toNat k.bits))))
  | .shr => some (decide (0 <= b), .i k (a.fdiv (2 ^ (min b.toNat k.bits))))
  | _ => none
 | _, _ => none
def isSh : BinOp -> Bool | .shl => true | .shr => true | _ => false
def isEq : BinOp -> Bool | .eql => true | .neq => true | _ => false
def optR {α : Type} : Option α -> Rd α | some a => .ret a | none => .fail
def binR (E : Env) (t : Nat) (op : BinOp) (x y : SV) : Rd (Bool × AV) :=
 match x, y with
 | .v false [a], .v false [b] => bif isSh op then optR (shV op a b) else (kindR E t).bind fun k => optR (binV op k a b)
 | .v true xs, .v true ys => (tyR E t).bind fun ti =>
   bif isEq op && memB t E.eqs && cksB (xs.map kdAV) ti.ks && cksB (ys.map kdAV) ti.ks && plain ti.ks then optR (match eqC xs ys with | some r => some (true, AV.b (match op with | .eql => r | _ => !r)) | none => none) else .fail
 | _, _ => .fail
def fills : List AV -> List (Nat × List AV) -> List AV
 | z, [] => z
 | z, (j, ys) :: r => fills (splice z j ys) r
def partsR (E : Env) (t : Nat) : List (Nat × Operand) -> Rd (List (Nat × List AV))
 | [] => .ret []
 | (f, x) :: r => (opd x).bind fun
  | .v _ ys => match E.fo t f with
   | some (o, n) => bif Nat.beq ys.length n then (partsR E t r).bind fun l => .ret ((o, ys) :: l) else .fail
   | none => .fail
  | _ => .fail
def rowOf (E : Env) (a : AV) : Rd (Nat × Row) :=
 match a with
 | .sh e xs => .ret (e, xs)
 | .own nm => (getO nm).bind fun | .row e _ xs => .ret (e, xs) | .frow e xs => .ret (e, xs) | _ => .fail
 | .vw nm lo hi => (getO nm).bind fun | .row e _ xs => .ret (e, view xs lo hi) | .frow e xs => .ret (e, view xs lo hi) | _ => .fail
 | .inn nm i j => (getO nm).bind fun
  | .row e true xs => (tyR E e).bind fun ti => match ti.ks[j]? with | some (.l e2) => .ret (e2, cvL (cellAt xs i j)) | _ => .fail
  | _ => .fail
 | _ => .fail
def lenR (E : Env) (k : Ck) (a : AV) : Rd Int :=
 match k, a with
 | .s, .s x => .ret x.size
 | .l _, .nl => .ret 0
 | .l _, .vw nm lo hi => (getO nm).bind fun | .row _ _ _ => .ret ((hi - lo : Nat) : Int) | .frow _ _ => .ret ((hi - lo : Nat) : Int) | _ => .fail
 | .l _, a => (rowOf E a).bind fun (_, xs) => .ret xs.length
 | _, _ => .fail
def elemsR (ex : Bool) (ks : List Ck) : List (Nat × Operand) -> Row -> Rd (Row × List (Nat × Cel))
 | [], z => .ret (z, [])
 | (i, x) :: r, z => (opd x).bind fun
  | .v _ ys => bif Nat.ble (i + 1) z.length then (embs ex ks ys).bind fun (cs, w) => (elemsR ex ks r (z.set i cs)).bind fun (z, ws) => .ret (z, w ++ ws) else .fail
  | _ => .fail
def exParts : List (Nat × Operand) -> Rd Bool
 | [] => .ret true
 | (_, x) :: r => (opd x).bind fun
  | .v _ ys => (exParts r).bind fun b => .ret (exOf ys && b)
  | _ => .fail
def zeros (ks : List Ck) (n : Nat) : Row := List.replicate n (ks.map zeroCV)
def bytesOf (xs : Row) : ByteArray := ⟨(xs.map fun y => UInt8.ofNat (cvI (y.getD 0 (.b false))).toNat).toArray⟩
def rowBytes (s : ByteArray) : Row := s.data.toList.map fun b => [.i .u8 (b.toNat : Int)]
def u8s : List Ck -> Bool | [.i .u8] => true | _ => false
def flat (E : Env) (ks : List Ck) : Bool := ks.all fun
 | .l e => match E.ty e with | some ti => plain ti.ks | none => false
 | _ => true
def roomy (n : Nat) (bytes : Nat) : Bool := decide (n * bytes <= 140737488355328) && decide (n <= 9223372036854775807)
def loadR (E : Env) (ti : TI) (p : AV) : Rd (List AV) :=
 match p with
 | .bp nm j => (getO nm).bind fun
  | .box xs => bif Nat.ble (j + ti.ks.length) xs.length then .ret ((xs.drop j).take ti.ks.length) else .fail
  | .fbox xs => bif Nat.ble (j + ti.ks.length) xs.length then .ret (((xs.drop j).take ti.ks.length).map ofCV) else .fail
  | _ => .fail
 | .fp xs j => bif Nat.ble (j + ti.ks.length) xs.length then .ret (((xs.drop j).take ti.ks.length).map ofCV) else .fail
 | .sp e xs i j => (tyR E e).bind fun te => bif cksB ((te.ks.drop j).take ti.ks.length) ti.ks then .ret (decs xs i j ti.ks) else .fail
 | .rp nm i j => (getO nm).bind fun
  | .row e ex xs => (tyR E e).bind fun te => bif cksB ((te.ks.drop j).take ti.ks.length) ti.ks then (bif ex && isF nm then (bif plain ti.ks then .ret (decs xs i j ti.ks) else .fail) else .ret (bif ex then decO nm xs i j ti.ks else decs xs i j ti.ks)) else .fail
  | .frow e xs => (tyR E e).bind fun te => bif cksB ((te.ks.drop j).take ti.ks.length) ti.ks then .ret (decs xs i j ti.ks) else .fail
  | _ => .fail
 | .ip nm i j i2 j2 => (getO nm).bind fun
  | .row e true xs => (tyR E e).bind fun te => match te.ks[j]? with
   | some (.l e2) => (tyR E e2).bind fun t2 => bif cksB ((t2.ks.drop j2).take ti.ks.length) ti.ks then .ret (decs (cvL (cellAt xs i j)) i2 j2 ti.ks) else .fail
   | _ => .fail
  | _ => .fail
 | _ => .fail
def storeR (E : Env) (p : AV) (ys : List AV) : Rd (List (Nat × Cel)) :=
 match p with
 | .bp nm j => (getO nm).bind fun
  | .box xs => bif Nat.ble (j + ys.length) xs.length then .ret [(obk nm, .o (.box (splice xs j ys)))] else .fail
  | _ => .fail
 | .rp nm i j => (getO nm).bind fun
  | .row e ex xs => (tyR E e).bind fun te => bif plain ((te.ks.drop j).take ys.length) then (embs false ((te.ks.drop j).take ys.length) ys).bind fun (cs, _) => .ret [(obk nm, .o (.row e ex (setC xs i j cs)))] else .fail
  | _ => .fail
 | .ip nm i j i2 j2 => (getO nm).bind fun
  | .row e true xs => (tyR E e).bind fun te => match te.ks[j]? with
   | some (.l e2) => (tyR E e2).bind fun t2 => bif plain t2.ks then (embs false ((t2.ks.drop j2).take ys.length) ys).bind fun (cs, _) =>
     .ret [(obk nm, .o (.row e true (setC xs i j [.l e2 (setC (cvL (cellAt xs i j)) i2 j2 cs)])))] else .fail
   | _ => .fail
  | _ => .fail
 | _ => .fail
def noOwn : List AV -> Bool
 | [] => true
 | .own _ :: _ => false
 | _ :: r => noOwn r
def oneOwn : Nat -> List AV -> Option (Nat × Nat)
 | _, [] => none
 | q, .own n :: r => bif noOwn r then some (q, n) else none
 | q, _ :: r => oneOwn (q + 1) r
def embF (e2 n2 : Nat) (zs : Row) : List Ck -> List AV -> Option (List CV)
 | [], [] => some []
 | .i k :: ks, .i k' x :: r => if k = k' then (embF e2 n2 zs ks r).map (.i k x :: ·) else none
 | .b :: ks, .b x :: r => (embF e2 n2 zs ks r).map (.b x :: ·)
 | .s :: ks, .s x :: r => (embF e2 n2 zs ks r).map (.s x :: ·)
 | .l e :: ks, .own n :: r => bif Nat.beq e e2 && Nat.beq n n2 then (embF e2 n2 zs ks r).map (.l e2 zs :: ·) else none
 | _, _ => none
def storeF (E : Env) (n i j : Nat) (ys : List AV) : Rd (List (Nat × Cel)) :=
 (getO n).bind fun
 | .row e true xs => (tyR E e).bind fun te => match oneOwn 0 ys with
  | some (q, n2) => bif Nat.beq n n2 then .fail else (getO n2).bind fun
   | .row e2 true zs => (tyR E e2).bind fun t2 => bif plain t2.ks && Nat.ble (j + ys.length) te.ks.length then (match embF e2 n2 zs ((te.ks.drop j).take ys.length) ys with
    | some cs => .ret [(obk n, .o (.row e true (setC xs i j cs))), (obk n2, .o .dead)]
    | none => .fail) else .fail
   | _ => .fail
  | none => .fail
 | _ => .fail
def cutR (E : Env) (n i j i2 j2 lo hi : Nat) : Rd (List (Nat × Cel)) :=
 (getO n).bind fun
 | .row e true xs => (tyR E e).bind fun te => match te.ks[j]?, te.ks[j2]? with
  | some (.l e2), some (.l e3) => bif Nat.beq e2 e3 then .ret [(obk n, .o (.row e false (setC xs i j [.l e2 (view (cvL (cellAt xs i2 j2)) lo hi)])))] else .fail
  | _, _ => .fail
 | _ => .fail
def isIv : List AV -> Option (Nat × Nat × Nat × Nat × Nat)
 | [.iv n i j lo hi] => some (n, i, j, lo, hi)
 | _ => none
def storeX (E : Env) (p : AV) (ys : List AV) : Rd (List (Nat × Cel)) :=
 match p with
 | .rp n i j => bif isF n then storeF E n i j ys else (match isIv ys with
  | some (n2, i2, j2, lo, hi) => bif Nat.beq n n2 then cutR E n i j i2 j2 lo hi else .fail
  | none => storeR E (.rp n i j) ys)
 | p => storeR E p ys
def fieldR (E : Env) (t : Nat) (f : Nat) (p : AV) : Rd AV :=
 match E.fo t f with
 | none => .fail
 | some (o, _) => match p with
  | .bp nm j => .ret (.bp nm (j + o))
  | .rp nm i j => .ret (.rp nm i (j + o))
  | .sp e xs i j => .ret (.sp e xs i (j + o))
  | .ip nm i j i2 j2 => .ret (.ip nm i j i2 (j2 + o))
  | .fp xs j => .ret (.fp xs (j + o))
  | _ => .fail
def indexR (E : Env) (e : Nat) (x : AV) (n : Int) : Rd (Bool × AV) :=
 match x with
 | .sh e' xs => bif Nat.beq e e' then .ret (decide (0 <= n) && decide (n < (xs.length : Int)), .sp e' xs n.toNat 0) else .fail
 | .own nm => (getO nm).bind fun
  | .row e' _ xs => bif Nat.beq e e' then .ret (decide (0 <= n) && decide (n < (xs.length : Int)), .rp nm n.toNat 0) else .fail
  | .frow e' xs => bif Nat.beq e e' then .ret (decide (0 <= n) && decide (n < (xs.length : Int)), .rp nm n.toNat 0) else .fail
  | _ => .fail
 | .vw nm lo hi => (getO nm).bind fun
  | .row e' _ xs => bif Nat.beq e e' then .ret (decide (0 <= n) && decide (n < ((hi - lo : Nat) : Int)), .rp nm (lo + n.toNat) 0) else .fail
  | .frow e' xs => bif Nat.beq e e' then .ret (decide (0 <= n) && decide (n < ((hi - lo : Nat) : Int)), .rp nm (lo + n.toNat) 0) else .fail
  | _ => .fail
 | .inn nm i j => (getO nm).bind fun
  | .row e1 true xs => (tyR E e1).bind fun te => match te.ks[j]? with
   | some (.l e') => bif Nat.beq e e' then .ret (decide (0 <= n) && decide (n < ((cvL (cellAt xs i j)).length : Int)), .ip nm i j n.toNat 0) else .fail
   | _ => .fail
  | _ => .fail
 | _ => .fail
def optI (x : Option Operand) (d : Int) : Rd Int :=
 match x with
 | none => .ret d
 | some x => (opdI x).bind fun (_, n) => .ret n
def inB (l h n : Int) : Bool := decide (0 <= l) && decide (l <= h) && decide (h <= n)
def sliceL (e : Nat) (x : AV) (lo hi : Option Operand) : Rd (Bool × AV) :=
 match x with
 | .sh e' xs => bif Nat.beq e e' then (optI lo 0).bind fun l => (optI hi xs.length).bind fun h => .ret (inB l h xs.length, .sh e' (view xs l.toNat h.toNat)) else .fail
 | .own nm => (getO nm).bind fun
  | .row e' _ xs => bif Nat.beq e e' then (optI lo 0).bind fun l => (optI hi xs.length).bind fun h => .ret (inB l h xs.length, .vw nm l.toNat h.toNat) else .fail
  | .frow e' xs => bif Nat.beq e e' then (optI lo 0).bind fun l => (optI hi xs.length).bind fun h => .ret (inB l h xs.length, .vw nm l.toNat h.toNat) else .fail
  | _ => .fail
 | .vw nm a b => (getO nm).bind fun
  | .row e' _ _ => bif Nat.beq e e' then (optI lo 0).bind fun l => (optI hi ((b - a : Nat) : Int)).bind fun h => .ret (inB l h ((b - a : Nat) : Int), .vw nm (a + l.toNat) (a + h.toNat)) else .fail
  | .frow e' _ => bif Nat.beq e e' then (optI lo 0).bind fun l => (optI hi ((b - a : Nat) : Int)).bind fun h => .ret (inB l h ((b - a : Nat) : Int), .vw nm (a + l.toNat) (a + h.toNat)) else .fail
  | _ => .fail
 | .nl => (optI lo 0).bind fun l => (optI hi 0).bind fun h => .ret (inB l h 0, .nl)
 | _ => .fail
def sliceI (E : Env) (e n i j : Nat) (lo hi : Option Operand) : Rd (Bool × AV) :=
 (getO n).bind fun
 | .row e1 true xs => (tyR E e1).bind fun te => match te.ks[j]? with
  | some (.l e') => bif Nat.beq e e' then (optI lo 0).bind fun l => (optI hi (cvL (cellAt xs i j)).length).bind fun h => .ret (inB l h (cvL (cellAt xs i j)).length, .iv n i j l.toNat h.toNat) else .fail
  | _ => .fail
 | _ => .fail
def sliceX (E : Env) (e : Nat) (x : AV) (lo hi : Option Operand) : Rd (Bool × AV) :=
 match x with
 | .inn n i j => sliceI E e n i j lo hi
 | x => sliceL e x lo hi
def sliceR (E : Env) (k : Ck) (x : AV) (lo hi : Option Operand) : Rd (Bool × AV) :=
 match k, x with
 | .s, .s a => (optI lo 0).bind fun l => (optI hi a.size).bind fun h => .ret (inB l h a.size, .s (a.extract l.toNat h.toNat))
 | .l e, x => (tyR E e).bind fun _ => sliceX E e x lo hi
 | _, _ => .fail
def baseR (e : Nat) (s : AV) : Rd (Bool × Row × List Nat) :=
 match s with
 | .nl => .ret (true, [], [])
 | .own nm => (getO nm).bind fun
  | .row e' ex xs => bif Nat.beq e e' then .ret (ex, xs, [nm]) else .fail
  | _ => .fail
 | .vw nm lo hi => (getO nm).bind fun
  | .row e' ex xs => bif Nat.beq e e' then .ret (ex, view xs lo hi, [nm]) else .fail
  | _ => .fail
 | _ => .fail
def moreR (E : Env) (nm0 e : Nat) (ks : List Ck) (b : List Nat) (x : AV) : Rd (Bool × Row × List (Nat × Cel)) :=
 match x with
 | .s a => bif u8s ks then .ret (true, rowBytes a, []) else .fail
 | .nl => .ret (true, [], [])
 | .sh e' xs => bif Nat.beq e e' then .ret (plain ks, xs, []) else .fail
 | .own nm => (getO nm).bind fun
  | .row e' ex xs => bif Nat.beq e e' then
    (bif plain ks || !ex then .ret (plain ks, xs, [])
    else bif memB nm b then .fail
    else bif E.tk nm0 then .ret (false, xs, [(obk nm, .o (.frow e xs))]) else .ret (true, xs, [(obk nm, .o .dead)])) else .fail
  | .frow e' xs => bif Nat.beq e e' then .ret (plain ks, xs, []) else .fail
  | _ => .fail
 | .vw nm lo hi => (getO nm).bind fun
  | .row e' ex xs => bif Nat.beq e e' then
    (bif plain ks || !ex then .ret (plain ks, view xs lo hi, [])
    else bif memB nm b then .fail
    else bif E.tk nm0 then .ret (false, view xs lo hi, [(obk nm, .o (.frow e xs))]) else .fail) else .fail
  | .frow e' xs => bif Nat.beq e e' then .ret (plain ks, view xs lo hi, []) else .fail
  | _ => .fail
 | .inn nm i j => bif plain ks then (rowOf E (.inn nm i j)).bind fun (e', xs) => bif Nat.beq e e' then .ret (true, xs, []) else .fail else .fail
 | _ => .fail
def deads (b : List Nat) : List (Nat × Cel) := b.map fun n => (obk n, .o .dead)
def appendR (E : Env) (nm0 : Nat) (t : Nat) (s x : AV) : Rd (Bool × AV × List (Nat × Cel)) :=
 (tyR E t).bind fun ti => match ti.agg, ti.ks with
 | false, [.l e] => (tyR E e).bind fun te => bif noO te.ks then (baseR e s).bind fun (exb, xs, b) =>
   (moreR E nm0 e te.ks b x).bind fun (exx, ys, w2) => (fresh nm0).bind fun _ =>
   .ret (roomy (xs.length + ys.length) te.bytes, .own nm0, deads b ++ (w2 ++ [(obk nm0, .o (.row e (exb && exx) (xs ++ ys)))])) else .fail
 | _, _ => .fail
def zerosR (E : Env) (nm0 : Nat) (t : Nat) (s : AV) (n : Int) : Rd (Bool × AV × List (Nat × Cel)) :=
 (tyR E t).bind fun ti => match ti.agg, ti.ks with
 | false, [.l e] => (tyR E e).bind fun te => bif noO te.ks && flat E te.ks then (baseR e s).bind fun (ex, xs, b) => (fresh nm0).bind fun _ =>
   .ret (decide (0 <= n) && roomy (xs.length + n.toNat) te.bytes && decide (n <= 9223372036854775807), .own nm0, deads b ++ [(obk nm0, .o (.row e ex (xs ++ zeros te.ks n.toNat)))]) else .fail
 | _, _ => .fail
def clearR (E : Env) (e : Nat) (x : AV) : Rd (List (Nat × Cel)) :=
 match x with
 | .own nm => (getO nm).bind fun
  | .row e' ex xs => (tyR E e).bind fun te => bif Nat.beq e e' && plain te.ks then .ret [(obk nm, .o (.row e' ex (zeros te.ks xs.length)))] else .fail
  | _ => .fail
 | .vw nm lo hi => (getO nm).bind fun
  | .row e' ex xs => (tyR E e).bind fun te => bif Nat.beq e e' && plain te.ks then .ret [(obk nm, .o (.row e' ex (xs.take lo ++ zeros te.ks (hi - lo) ++ xs.drop hi)))] else .fail
  | _ => .fail
 | .nl => .ret []
 | _ => .fail
def minmax (mx : Bool) (a b : Int) : Int := bif mx then (if b > a then b else a) else (if b < a then b else a)
def minmaxR (mx : Bool) : List Operand -> IntKind -> Int -> Rd AV
 | [], k, a => .ret (.i k a)
 | x :: r, k, a => (opdI x).bind fun (_, b) => minmaxR mx r k (minmax mx a b)
end Go.FG

namespace Go.FG
inductive Src where
 | own (nm e : Nat) (ex : Bool) | no
structure Pk where
 a : AA
 src : Src
 rd : List Nat
def packR (E : Env) (mt : Bool) (a : AV) : Rd Pk :=
 match a with
 | .i k n => .ret ⟨.i k n, .no, []⟩ | .b x => .ret ⟨.b x, .no, []⟩ | .s x => .ret ⟨.s x, .no, []⟩
 | .sh e xs => .ret ⟨.sh e xs, .no, []⟩
 | .nl => .ret ⟨.nl, .no, []⟩
 | .fn f caps => .ret ⟨.fn f caps, .no, []⟩
 | .own nm => (getO nm).bind fun
  | .row e ex xs => bif mt then .ret ⟨.ow e ex xs, .own nm e ex, []⟩ else .ret ⟨.sh e xs, .no, [nm]⟩
  | .frow e xs => .ret ⟨.sh e xs, .no, []⟩
  | _ => .fail
 | .vw nm lo hi => bif mt then .fail else (getO nm).bind fun
  | .row e _ xs => .ret ⟨.sh e (view xs lo hi), .no, [nm]⟩
  | .frow e xs => .ret ⟨.sh e (view xs lo hi), .no, []⟩
  | _ => .fail
 | .inn nm i j => (getO nm).bind fun
  | .row e true xs => (tyR E e).bind fun te => match te.ks[j]? with
   | some (.l e2) => (tyR E e2).bind fun t2 => bif plain t2.ks && !mt then .ret ⟨.sh e2 (cvL (cellAt xs i j)), .no, [nm]⟩ else .fail
   | _ => .fail
  | _ => .fail
 | _ => .fail
def packsR (E : Env) (mt : Bool) : List AV -> Rd (List Pk)
 | [] => .ret []
 | a :: r => (packR E mt a).bind fun p => (packsR E mt r).bind fun l => .ret (p :: l)
structure Pa where
 arg : Arg
 box : Option (Nat × List AV)
 cs : List Pk
def argR (E : Env) (mt : Bool) (x : SV) : Rd Pa :=
 match x with
 | .v false [.bp nm 0] => bif mt then (getO nm).bind fun
   | .box xs => (packsR E true xs).bind fun l => .ret ⟨.pt (l.map (·.a)), some (nm, xs), l⟩
   | _ => .fail
  else .fail
 | .v agg xs => (packsR E mt xs).bind fun l => .ret ⟨.v agg (l.map (·.a)), none, l⟩
 | _ => .fail
def nlzC : Ck -> AV -> AV
 | .l e, .nl => .sh e []
 | _, a => a
def nlzs : List Ck -> List AV -> List AV
 | k :: ks, a :: r => nlzC k a :: nlzs ks r
 | _, r => r
def nlz (E : Tab) (t : Option Nat) (v : SV) : SV :=
 match t with
 | none => v
 | some t => match E.ty t, v with
  | some ti, .v g xs => .v g (nlzs ti.ks xs)
  | _, v => v
def argsR (E : Env) (f : Nat) (tys : Option (List Nat)) : Nat -> List Operand -> Rd (List Pa)
 | _, [] => .ret []
 | p, x :: r => (opd x).bind fun v => (argR E (E.mode f p) (bif E.mode f p then v else nlz E (match tys with | some l => l[p]? | none => none) v)).bind fun a => bif Nat.ble a.cs.length 100 then (argsR E f tys (p + 1) r).bind fun l => .ret (a :: l) else .fail
def Pk.mts (p : Pk) : List Nat := match p.src with | .own nm _ _ => [nm] | .no => []
def Pa.mts (p : Pa) : List Nat := (match p.box with | some (nm, _) => [nm] | none => []) ++ p.cs.flatMap (·.mts)
def Pa.rds (p : Pa) : List Nat := p.cs.flatMap (·.rd)
def nodupB : List Nat -> Bool
 | [] => true | n :: r => !memB n r && nodupB r
def apartB : List Nat -> List Nat -> Bool
 | [], _ => true | n :: r, l => !memB n l && apartB r l
def backAA (ok : Bool) (nm : Nat) (a : AA) : Rd (AV × List (Nat × Cel)) :=
 match a with
 | .i k n => .ret (.i k n, []) | .b x => .ret (.b x, []) | .s x => .ret (.s x, []) | .nl => .ret (.nl, [])
 | .sh e xs => bif ok then .ret (.sh e xs, []) else .fail
 | .ow e ex xs => bif ex || ok then (fresh nm).bind fun _ => .ret (.own nm, [(obk nm, .o (.row e ex xs))]) else .fail
 | _ => .fail
def backAAs (ok : Bool) : Nat -> List AA -> Rd (List AV × List (Nat × Cel))
 | _, [] => .ret ([], [])
 | nm, a :: r => (backAA ok nm a).bind fun (v, w) => (backAAs ok (nm + 1) r).bind fun (vs, ws) => .ret (v :: vs, w ++ ws)
def backArg (ok : Bool) (nm : Nat) (a : Arg) : Rd ((Bool × List AV) × List (Nat × Cel)) :=
 match a with
 | .v agg xs => (backAAs ok nm xs).bind fun (vs, ws) => .ret ((agg, vs), ws)
 | .pt xs => (backAAs ok nm xs).bind fun (vs, ws) => (fresh (nm + 30)).bind fun _ => .ret ((false, [.bp (nm + 30) 0]), ws ++ [(obk (nm + 30), .o (.box vs))])
 | .fb _ => .fail
def backArgs (ok : Bool) : Nat -> List Arg -> Rd (List (Bool × List AV) × List (Nat × Cel))
 | _, [] => .ret ([], [])
 | nm, a :: r => (backArg ok nm a).bind fun (v, w) => (backArgs ok (nm + 40) r).bind fun (vs, ws) => .ret (v :: vs, w ++ ws)
def outPk (ok : Bool) (p : Pk) (a : AA) : Rd (List (Nat × Cel)) :=
 match p.src, a with
 | .no, _ => .ret []
 | .own nm e ex, .kp xs => bif ex || ok then .ret [(obk nm, .o (.row e ex xs))] else .fail
 | .own nm _ _, .nl => .ret [(obk nm, .o .dead)]
 | _, _ => .fail
def outPks (ok : Bool) : List Pk -> List AA -> Rd (List (Nat × Cel))
 | [], _ => .ret []
 | p :: r, l => (outPk ok p (l.headD .nl)).bind fun w => (outPks ok r l.tail).bind fun ws => .ret (w ++ ws)
def outBox (ok : Bool) (nm : Nat) (p : Pk) (v : AV) (a : AA) : Rd (AV × List (Nat × Cel)) :=
 match p.src, a with
 | .own n e ex, .kp xs => bif ex || ok then .ret (v, [(obk n, .o (.row e ex xs))]) else .fail
 | .own n _ _, a => (backAA ok nm a).bind fun (v, w) => .ret (v, (obk n, .o .dead) :: w)
 | .no, a => backAA ok nm a
def outBoxs (ok : Bool) : Nat -> List Pk -> List AV -> List AA -> Rd (List AV × List (Nat × Cel))
 | _, [], [], [] => .ret ([], [])
 | nm, p :: ps, v :: vs, a :: as => (outBox ok nm p v a).bind fun (v, w) => (outBoxs ok (nm + 1) ps vs as).bind fun (vs, ws) => .ret (v :: vs, w ++ ws)
 | _, _, _, _ => .fail
def outPa (ok : Bool) (nm : Nat) (p : Pa) (l : List AA) : Rd (List (Nat × Cel)) :=
 match p.box with
 | some (n, vs) => (outBoxs ok nm p.cs vs l).bind fun (vs, ws) => .ret (ws ++ [(obk n, .o (.box vs))])
 | none => outPks ok p.cs l
def outPas (ok : Bool) : Nat -> List Pa -> List (List AA) -> Rd (List (Nat × Cel))
 | _, [], _ => .ret []
 | nm, p :: r, l => (outPa ok nm p (l.headD [])).bind fun w => (outPas ok (nm + 40) r l.tail).bind fun ws => .ret (w ++ ws)
def resSV : List (Bool × List AV) -> SV
 | [(agg, xs)] => .v agg xs
 | l => .tup l
def argLen : Arg -> Nat | .v _ xs => xs.length | .pt xs => xs.length | .fb _ => 0
def frozR : List Nat -> Rd (List (Nat × Cel))
 | [] => .ret []
 | n :: r => (getO n).bind fun
  | .row e _ xs => (frozR r).bind fun ws => .ret ((obk n, .o (.frow e xs)) :: ws)
  | _ => .fail
def callR1 (E : Env) (nm : Nat) (o : Oper) (f : Nat) (args : List Operand) (tys : Option (List Nat)) (caps : List (List CV)) : Rd Eff :=
 (argsR E f tys 0 args).bind fun ps =>
  bif nodupB (ps.flatMap (·.mts)) && apartB (ps.flatMap (·.mts)) (ps.flatMap (·.rds)) then
   match E.call f (ps.map (·.arg) ++ caps.map Arg.fb) with
   | some (c, r) => bif Nat.ble ps.length 400 && (r.rs.all fun a => Nat.ble (argLen a) 30) && (r.outs.all fun a => Nat.ble a.length 100) then (frozR (bif E.tk nm then ps.flatMap (·.rds) else [])).bind fun w0 =>
    (outPas (E.tk nm || (ps.flatMap (·.rds)).isEmpty) (nm + 400) ps r.outs).bind fun w1 => (backArgs (E.tk nm || (ps.flatMap (·.rds)).isEmpty) (nm + 1) r.rs).bind fun (vs, w2) =>
    bif nodupB ((w1 ++ w2).map (·.1)) then .ret ⟨c, w0 ++ (w1 ++ w2) ++ dw o (resSV vs)⟩ else .fail else .fail
   | none => .fail
  else .fail
def Rd.or {α : Type} : Rd α -> Rd α -> Rd α
 | .ret a, _ => .ret a
 | .fail, y => y
 | .get k f, y => .get k fun c => (f c).or y
def callR (E : Env) (nm : Nat) (o : Oper) (f : Nat) (args : List Operand) (tys : List Nat) (caps : List (List CV)) : Rd Eff :=
 (callR1 E nm o f args none caps).or (callR1 E nm o f args (some tys) caps)
def innCallR (E : Env) (o : Oper) (f n i j : Nat) (y : Operand) : Rd Eff :=
 (opdI y).bind fun (k, m) => (getO n).bind fun
  | .row e true xs => (tyR E e).bind fun te => match te.ks[j]? with
   | some (.l e2) => match E.call f [.v false [.ow e2 true (cvL (cellAt xs i j))], .v false [.i k m]] with
    | some (c, r) => match r.rs, r.outs with
     | [.v false [.i k2 m2]], [[.kp ys]] => .ret ⟨c, (obk n, .o (.row e true (setC xs i j [.l e2 ys]))) :: dw o (.v false [.i k2 m2])⟩
     | _, _ => .fail
    | none => .fail
   | _ => .fail
  | _ => .fail
def capR : List Operand -> Rd (List (List CV) × List (Nat × Cel))
 | [] => .ret ([], [])
 | x :: r => (opd1 x).bind fun
  | .bp nm 0 => (getO nm).bind fun
   | .box xs => (capC xs).bind fun cs => (capR r).bind fun (l, ws) => .ret (cs :: l, (obk nm, .o (.fbox cs)) :: ws)
   | .fbox cs => (capR r).bind fun (l, ws) => .ret (cs :: l, ws)
   | _ => .fail
  | _ => .fail
where capC : List AV -> Rd (List CV)
 | [] => .ret []
 | a :: r => (capC r).bind fun l => match a with
  | .i k n => .ret (.i k n :: l) | .b x => .ret (.b x :: l) | .s x => .ret (.s x :: l)
  | .sh e xs => .ret (.l e xs :: l)
  | _ => .fail
def opR (E : Env) (nm : Nat) (o : Oper) : Rd Eff :=
 match o.op with
 | .move x | .assign x => (opd x).bind fun v => val o v
 | .nilCheck x => (opd1 x).bind fun p => match p with
  | .bp nm j => val o (.v false [.bp nm j])
  | .rp nm i j => val o (.v false [.rp nm i j])
  | _ => .fail
 | .pick c a b => (opd1 c).bind fun c => (opd a).bind fun a => (opd b).bind fun b =>
  match c, a, b with
  | .b c, .v false [.b p], .v false [.b q] => val1 o (.b (bif c then p else q))
  | .b c, .tup [], b => .ret ⟨!c, dw o b⟩
  | .b c, a, .tup [] => .ret ⟨c, dw o a⟩
  | _, _, _ => .fail
 | .alloc t => (tyR E t).bind fun ti => bif noO ti.ks then (fresh nm).bind fun _ => .ret ⟨true, (obk nm, .o (.box (ti.ks.map zeroAV))) :: dw o (.v false [.bp nm 0])⟩ else .fail
 | .box t x => (opd x).bind fun
  | .v _ xs => (fresh nm).bind fun _ => .ret ⟨true, (obk nm, .o (.box xs)) :: dw o (.v false [.bp nm 0])⟩
  | _ => .fail
 | .build t ps => (tyR E t).bind fun ti => bif noO ti.ks && ti.agg then (partsR E t ps.toList).bind fun l => val o (.v true (fills (ti.ks.map zeroAV) l)) else .fail
 | .buildSlice t n ps => (tyR E t).bind fun ti => match ti.agg, ti.ks with
  | false, [.l e] => (tyR E e).bind fun te => bif noO te.ks then (exParts ps.toList).bind fun ex => (elemsR (ex && flat E te.ks) te.ks ps.toList (zeros te.ks n)).bind fun (xs, w) => (fresh nm).bind fun _ =>
    .ret ⟨Nat.ble (n * te.ks.length) 16777216 && nodupB (w.map (·.1)), w ++ (obk nm, .o (.row e (ex && flat E te.ks) xs)) :: dw o (.v false [.own nm])⟩ else .fail
  | _, _ => .fail
 | .load t p => (tyR E t).bind fun ti => (opd1 p).bind fun p => (loadR E ti p).bind fun xs => val o (.v ti.agg xs)
 | .store t p x => (tyR E t).bind fun ti => (opd1 p).bind fun p => (opd x).bind fun
  | .v _ ys => bif Nat.beq ys.length ti.ks.length then (storeX E p ys).bind fun w => .ret ⟨true, w ++ dw o .un⟩ else .fail
  | _ => .fail
 | .fieldAddr t p f => (opd1 p).bind fun p => (fieldR E t f p).bind fun q => val1 o q
 | .field t x f => (opd x).bind fun
  | .v true xs => match E.fo t f with
   | some (j, n) => bif E.fls t f && Nat.beq n 1 then (match xs.drop j with | a :: _ => val1 o a | [] => .fail) else .fail
   | none => .fail
  | _ => .fail
 | .indexAddr t x i => (kindR E t).bind fun
  | .l e => (opd1 x).bind fun x => (opdI i).bind fun (_, n) => (indexR E e x n).bind fun (c, q) => valC o c q
  | _ => .fail
 | .index t x i => (kindR E t).bind fun k => (opd1 x).bind fun x => (opdI i).bind fun (_, n) => match k, x with
  | .s, .s a => valC o (decide (0 <= n) && decide (n < (a.size : Int))) (.i .u8 ((a.data.getD n.toNat 0).toNat : Int))
  | _, _ => .fail
 | .binOp op t x y _ => (opd x).bind fun x => (opd y).bind fun y => (binR E t op x y).bind fun (c, v) => valC o c v
 | .unOp op _ x => (opd1 x).bind fun x => match op, x with
  | .not, .b x => val1 o (.b (!x))
  | .neg, .i k n => val1 o (.i k (k.wrap (0 - n)))
  | _, _ => .fail
 | .convert src dst x => (kindR E src).bind fun ks => (kindR E dst).bind fun kd => (opd1 x).bind fun x => match kd, ks, x with
  | .i k, .i _, .i _ n => val1 o (.i k (k.wrap n))
  | .s, .s, .s a => val1 o (.s a)
  | .s, .l e', .nl => (tyR E e').bind fun te => bif u8s te.ks && !te.agg then val1 o (.s ⟨#[]⟩) else .fail
  | .s, .l e', a => (rowOf E a).bind fun (e, xs) => (tyR E e).bind fun te => bif Nat.beq e e' && u8s te.ks && !te.agg then valC o (decide (xs.length <= 4611686018427387904)) (.s (bytesOf xs)) else .fail
  | _, _, _ => .fail
 | .makeSlice t l c => (opdI l).bind fun (_, n) => (opdI c).bind fun (_, m) => (tyR E t).bind fun ti => match ti.agg, ti.ks with
  | false, [.l e] => (tyR E e).bind fun te => bif noO te.ks && flat E te.ks then (fresh (bif plain te.ks then nm else nm + 999)).bind fun _ => .ret ⟨decide (0 <= n) && decide (n = m) && roomy n.toNat te.bytes, (obk (bif plain te.ks then nm else nm + 999), .o (.row e true (zeros te.ks n.toNat))) :: dw o (.v false [.own (bif plain te.ks then nm else nm + 999)])⟩ else .fail
  | _, _ => .fail
 | .slice t x lo hi mx => match mx with
  | some _ => .fail
  | none => (kindR E t).bind fun k => (opd1 x).bind fun x => (sliceR E k x lo hi).bind fun (c, v) => valC o c v
 | .extract x i => (opd x).bind fun
  | .tup l => match l[i]? with | some (agg, xs) => val o (.v agg xs) | none => .fail
  | _ => .fail
 | .makeFunc (.func f) first caps => bif first.isEmpty then (capR caps.toList).bind fun (l, ws) => .ret ⟨true, ws ++ dw o (.v false [.fn f l])⟩ else .fail
 | .call c => match c.callee with
  | .builtin .len => match c.args.toList, c.argTypes.toList with
   | [x], [t] => (kindR E t).bind fun k => (opd1 x).bind fun x => (lenR E k x).bind fun n => val1 o (.i .i64 n)
   | _, _ => .fail
  | .builtin .cap => match c.args.toList, c.argTypes.toList with
   | [x], [t] => (kindR E t).bind fun | .l _ => ((opd1 x).bind fun | .nl => val1 o (.i .i64 0) | _ => .fail) | _ => .fail
   | _, _ => .fail
  | .builtin .min => match c.args.toList with
   | x :: r => (opdI x).bind fun (k, n) => (minmaxR false r k n).bind fun v => val1 o v
   | _ => .fail
  | .builtin .max => match c.args.toList with
   | x :: r => (opdI x).bind fun (k, n) => (minmaxR true r k n).bind fun v => val1 o v
   | _ => .fail
  | .builtin .clear => match c.args.toList with
   | [x] => match c.argTypes.toList with
    | [t] => (kindR E t).bind fun | .l e => ((opd1 x).bind fun x => (clearR E e x).bind fun w => .ret ⟨true, w ++ dw o (.tup [])⟩) | _ => .fail
    | _ => .fail
   | _ => .fail
  | .builtin .append => match c.args.toList, c.argTypes.toList with
   | [s, x], [t, u] => (kindR E u).bind fun ku => (opd1 s).bind fun s => (opd1 x).bind fun x => match ku, x with
    | .i _, .i _ n => (zerosR E nm t s n).bind fun (b, v, w) => .ret ⟨b, w ++ dw o (.v false [v])⟩
    | .l _, x => (appendR E nm t s x).bind fun (b, v, w) => .ret ⟨b, w ++ dw o (.v false [v])⟩
    | .s, x => (appendR E nm t s x).bind fun (b, v, w) => .ret ⟨b, w ++ dw o (.v false [v])⟩
    | _, _ => .fail
   | _, _ => .fail
  | .value f => (opd1 f).bind fun
   | .fn f caps => match c.args.toList, caps with
    | [x, y], [] => (opd x).bind fun
     | .v false [.inn n i j] => bif E.mode f 0 then innCallR E o f n i j y else callR E nm o f c.args.toList c.argTypes.toList caps
     | _ => callR E nm o f c.args.toList c.argTypes.toList caps
    | _, _ => callR E nm o f c.args.toList c.argTypes.toList caps
   | _ => .fail
  | _ => .fail
 | _ => .fail
inductive Ex where
 | normal | exit (id : Nat) | ret
structure Lg where
 rs : List Nat
 ws : List Nat
def forceAV {R : Type} (a : AV) (f : AV -> R) : R :=
 match a with
 | .i k n => f (.i k n) | .b x => f (.b x) | .s x => f (.s x) | .sh e xs => f (.sh e xs) | .nl => f .nl | .own n => f (.own n) | .vw n lo hi => f (.vw n lo hi)
 | .bp n j => f (.bp n j) | .rp n i j => f (.rp n i j) | .sp e xs i j => f (.sp e xs i j) | .inn n i j => f (.inn n i j) | .ip n i j i2 j2 => f (.ip n i j i2 j2) | .iv n i j lo hi => f (.iv n i j lo hi) | .fn g caps => f (.fn g caps) | .fp xs j => f (.fp xs j)
def forceB {R : Type} (a : Bool) (f : Bool -> R) : R := match a with | true => f true | false => f false
def forceAVs {R : Type} : List AV -> (List AV -> R) -> R
 | [], f => f [] | a :: r, f => forceAV a fun a => forceAVs r fun r => f (a :: r)
def forceT {R : Type} : List (Bool × List AV) -> (List (Bool × List AV) -> R) -> R
 | [], f => f [] | (g, xs) :: r, f => forceB g fun g => forceAVs xs fun xs => forceT r fun r => f ((g, xs) :: r)
def forceSV {R : Type} (v : SV) (f : SV -> R) : R :=
 match v with
 | .v g xs => forceB g fun g => forceAVs xs fun xs => f (.v g xs) | .tup l => forceT l fun l => f (.tup l) | .un => f .un
def forceO {R : Type} (o : Obj) (f : Obj -> R) : R :=
 match o with
 | .box xs => forceAVs xs fun xs => f (.box xs) | .fbox cs => f (.fbox cs) | .row e ex xs => forceB ex fun ex => f (.row e ex xs) | .frow e xs => f (.frow e xs) | .dead => f .dead
def forceC {R : Type} (c : Cel) (f : Cel -> R) : R :=
 match c with
 | .v x => forceSV x fun x => f (.v x) | .o x => forceO x fun x => f (.o x) | .non => f .non
def forceW {R : Type} : List (Nat × Cel) -> (List (Nat × Cel) -> R) -> R
 | [], f => f [] | (k, c) :: r, f => forceC c fun c => forceW r fun r => f ((k, c) :: r)
theorem forceAV_eq {R : Type} (a : AV) (f : AV -> R) : forceAV a f = f a := by cases a <;> rfl
theorem forceB_eq {R : Type} (a : Bool) (f : Bool -> R) : forceB a f = f a := by cases a <;> rfl
theorem forceAVs_eq {R : Type} : ∀ (l : List AV) (f : List AV -> R), forceAVs l f = f l
 | [], _ => rfl
 | a :: r, f => by simp only [forceAVs, forceAV_eq, forceAVs_eq r]
theorem forceT_eq {R : Type} : ∀ (l : List (Bool × List AV)) (f : List (Bool × List AV) -> R), forceT l f = f l
 | [], _ => rfl
 | (g, xs) :: r, f => by simp only [forceT, forceB_eq, forceAVs_eq, forceT_eq r]
theorem forceSV_eq {R : Type} (v : SV) (f : SV -> R) : forceSV v f = f v := by cases v <;> simp only [forceSV, forceB_eq, forceAVs_eq, forceT_eq]
theorem forceO_eq {R : Type} (v : Obj) (f : Obj -> R) : forceO v f = f v := by cases v <;> simp only [forceO, forceB_eq, forceAVs_eq]
theorem forceC_eq {R : Type} (v : Cel) (f : Cel -> R) : forceC v f = f v := by cases v <;> simp only [forceC, forceSV_eq, forceO_eq]
theorem forceW_eq {R : Type} : ∀ (l : List (Nat × Cel)) (f : List (Nat × Cel) -> R), forceW l f = f l
 | [], _ => rfl
 | (k, c) :: r, f => by simp only [forceW, forceC_eq, forceW_eq r]
def ops {R : Type} (E : Env) (all : Array Oper) (rid : Nat) : Nat -> List Oper -> St -> List Lg -> (St -> List Lg -> Option R) -> Option R
 | _, [], σ, lg, K => K σ lg
 | i, o :: rest, σ, lg, K => match o.guard with
  | none => match (opR E ((rid + 1) * 1000000 + i * 1000) o).run σ [] with
   | some (e, l) => bif e.cond then forceW e.ws (fun ws => ops E all rid (i + 1) rest (wr σ ws) (⟨l, ws.map (·.1)⟩ :: lg) K) else none
   | none => none
  | some (g, want) => match (all.getD g default).dst with
   | none => none
   | some d => match σ (slk d) with
    | .v (.v false [.b x]) =>
     let perform := fun y => match (opR E ((rid + 1) * 1000000 + i * 1000) o).run (upd σ (slk d) (.v (.v false [.b y]))) [] with
      | some (e, l) => bif e.cond then forceW e.ws (fun ws => ops E all rid (i + 1) rest (wr (upd σ (slk d) (.v (.v false [.b y]))) ws) (⟨slk d :: l, ws.map (·.1)⟩ :: lg) K) else none
      | none => none
     let skip := fun y => ops E all rid (i + 1) rest (wr (upd σ (slk d) (.v (.v false [.b y]))) (dw o (.tup []))) (⟨[slk d], (dw o (.tup [])).map (·.1)⟩ :: lg) K
     bif x then (bif want then perform true else skip true) else (bif want then skip false else perform false)
    | .v (.tup []) => ops E all rid (i + 1) rest (wr σ (dw o (.tup []))) (⟨[slk d], (dw o (.tup [])).map (·.1)⟩ :: lg) K
    | _ => none
def ddA (acc : List Nat) : List Nat -> List Nat
 | [] => acc | n :: r => bif memB n acc then ddA acc r else ddA (n :: acc) r
def forceN {R : Type} : List Nat -> (List Nat -> R) -> R
 | [], f => f [] | n :: r, f => forceN r fun r => f (n :: r)
def forceNN {R : Type} : List (List Nat) -> (List (List Nat) -> R) -> R
 | [], f => f [] | n :: r, f => forceN n fun n => forceNN r fun r => f (n :: r)
theorem forceN_eq {R : Type} : ∀ (l : List Nat) (f : List Nat -> R), forceN l f = f l
 | [], _ => rfl
 | n :: r, f => by simp only [forceN, forceN_eq r]
theorem forceNN_eq {R : Type} : ∀ (l : List (List Nat)) (f : List (List Nat) -> R), forceNN l f = f l
 | [], _ => rfl
 | n :: r, f => by simp only [forceNN, forceN_eq, forceNN_eq r]
theorem ddA_mem : ∀ (l acc : List Nat) (x : Nat), x ∈ ddA acc l -> x ∈ acc \/ x ∈ l
 | [], _, _, h => .inl h
 | n :: r, acc, x, h => by
  unfold ddA at h
  cases hb : memB n acc with
  | true =>
   rw [hb] at h
   rcases ddA_mem r acc x h with h | h
   ·exact .inl h
   ·exact .inr (List.mem_cons_of_mem _ h)
  | false =>
   rw [hb] at h
   rcases ddA_mem r (n :: acc) x h with h | h
   ·rcases List.mem_cons.1 h with rfl | h
    ·exact .inr List.mem_cons_self
    ·exact .inl h
   ·exact .inr (List.mem_cons_of_mem _ h)
def ancs : List (List Nat) -> List Oper -> List (List Nat)
 | acc, [] => acc
 | acc, o :: r => forceN (ddA [] (o.after.toList.flatMap fun e => bif Region.binds .any e then e.on :: acc.getD e.on [] else [])) fun x => ancs (acc ++ [x]) r
def ordB : Nat -> List Oper -> Bool
 | _, [] => true
 | i, o :: r => (o.after.toList.all fun e => !Region.binds .any e || Nat.blt e.on i) && ordB (i + 1) r
def clash (a b : Lg) : Bool := !(apartB a.ws b.ws && apartB a.ws b.rs && apartB b.ws a.rs)
def calmRow (an : List Nat) (j : Nat) (a : Lg) : Nat -> List Lg -> Bool
 | _, [] => true
 | i, b :: r => (memB i an || !clash a b) && calmRow an j a (i + 1) r
def calm : Nat -> List (List Nat) -> List Lg -> List Lg -> Bool
 | _, _, _, [] => true
 | j, an, done, a :: r => calmRow (an.getD j []) j a 0 done && calm (j + 1) an (done ++ [a]) r
def forceLg {R : Type} : List Lg -> (List Lg -> R) -> R
 | [], f => f [] | a :: r, f => forceN a.rs fun rs => forceN a.ws fun ws => forceLg r fun r => f (⟨rs, ws⟩ :: r)
theorem forceLg_eq {R : Type} : ∀ (l : List Lg) (f : List Lg -> R), forceLg l f = f l
 | [], _ => rfl
 | n :: r, f => by simp only [forceLg, forceN_eq, forceLg_eq r]
def calmF (an : List (List Nat)) (l : List Lg) : Bool := forceNN an fun an => forceLg l fun l => calm 0 an [] l
theorem calmF_eq (an : List (List Nat)) (l : List Lg) : calmF an l = calm 0 an [] l := by simp only [calmF, forceNN_eq, forceLg_eq]
def namesAV : AV -> List Nat
 | .own n => [n] | .vw n _ _ => [n] | .bp n _ => [n] | .rp n _ _ => [n] | .inn n _ _ => [n] | .ip n _ _ _ _ => [n] | .iv n _ _ _ _ => [n] | _ => []
def namesSV : SV -> List Nat
 | .v _ xs => xs.flatMap namesAV | .tup l => l.flatMap fun (_, xs) => xs.flatMap namesAV | .un => []
def addN : List Nat -> List Nat -> List Nat
 | l, [] => l
 | l, n :: r => forceN (bif memB n l then l else l ++ [n]) fun l => addN l r
def slot (σ : St) (n : Nat) : SV := match σ (slk n) with | .v x => x | _ => .un
def objN (σ : St) (nm : Nat) : List Nat := match σ (obk nm) with | .o (.box xs) => xs.flatMap namesAV | _ => []
def idx (n : Nat) : Nat -> List Nat -> Option Nat
 | _, [] => none | i, m :: r => bif Nat.beq n m then some i else idx n (i + 1) r
def enc (f : Bool) (k : Nat) : Nat := bif f then k * 1000 + 999 else k
def ren (l : List Nat) (n : Nat) : Option Nat := bif Nat.ble 900000000 n then (bif memB n l then some n else none) else (match idx n 0 l with | some k => some (enc (isF n) k) | none => none)
def renAV (l : List Nat) (a : AV) : AV :=
 match a with
 | .own n => match ren l n with | some k => .own k | none => .nl
 | .vw n lo hi => match ren l n with | some k => .vw k lo hi | none => .nl
 | .bp n j => match ren l n with | some k => .bp k j | none => .nl
 | .rp n i j => match ren l n with | some k => .rp k i j | none => .nl
 | .inn n i j => match ren l n with | some k => .inn k i j | none => .nl
 | .ip n i j i2 j2 => match ren l n with | some k => .ip k i j i2 j2 | none => .nl
 | .iv n i j lo hi => match ren l n with | some k => .iv k i j lo hi | none => .nl
 | a => a
def knownB (l : List Nat) (ns : List Nat) : Bool := ns.all fun n => memB n l
def renSV (l : List Nat) (v : SV) : SV :=
 bif knownB l (namesSV v) then (match v with
 | .v agg xs => .v agg (xs.map (renAV l)) | .tup r => .tup (r.map fun (g, xs) => (g, xs.map (renAV l))) | .un => .un) else .un
def renO (l : List Nat) (o : Cel) : Cel :=
 match o with
 | .o (.box xs) => bif knownB l (xs.flatMap namesAV) then .o (.box (xs.map (renAV l))) else .o .dead
 | .o x => .o x
 | _ => .o .dead
def tabl : List (Nat × Cel) -> St
 | [], _ => .non
 | (k, c) :: r, n => bif Nat.beq n k then c else tabl r n
def objsOf (σ : St) (l : List Nat) : List Nat -> List (Nat × Cel)
 | [] => [] | n :: r => match ren l n with | some k => (obk k, renO l (σ (obk n))) :: objsOf σ l r | none => objsOf σ l r
def canonN (keep : List Nat) (σ : St) : List Nat :=
 forceN (addN [] (keep.flatMap fun n => namesSV (slot σ n))) fun l0 => forceN (addN l0 (l0.flatMap (objN σ))) fun l1 => addN l1 (l1.flatMap (objN σ))
def canonL (keep : List Nat) (σ : St) (l : List Nat) : List (Nat × Cel) :=
 bif Nat.ble l.length 900 then keep.map (fun n => (slk n, .v (renSV l (slot σ n)))) ++ objsOf σ l l else []
def isK (x : Nat) : Bool := Nat.ble 1000000000000000 x
def kSlot (x : Nat) : Nat := (x / 1000000) % 1000000000
def kCell (x : Nat) : Nat := (x / 1000) % 1000
def kTy (x : Nat) : Nat := x % 1000
def kNm (x : Nat) : Nat := 800000000 + ((x / 1000) % 1000000) * 100
def nlOne {α : Type} (x : Nat) (σ : St) (f : St -> α) : α :=
 match slot σ (kSlot x) with
 | .v false [.bp nm 0] => match σ (obk nm), σ (obk (kNm x)) with
  | .o (.box xs), .non => match xs[kCell x]? with
   | some .nl => forceAVs (xs.set (kCell x) (.own (kNm x))) fun ys => f (upd (upd σ (obk nm) (.o (.box ys))) (obk (kNm x)) (.o (.row (kTy x) true [])))
   | _ => f σ
  | _, _ => f σ
 | _ => f σ
def nlAll {α : Type} : List Nat -> St -> (St -> α) -> α
 | [], σ, f => f σ
 | x :: r, σ, f => bif isK x then nlOne x σ (fun σ => nlAll r σ f) else nlAll r σ f
def canonT (keep : List Nat) (σ : St) : List (Nat × Cel) := nlAll keep σ fun σ => forceN (keep.filter fun x => !isK x) fun keep => forceN (canonN keep σ) fun l => canonL keep σ l
def canon (keep : List Nat) (σ : St) : St := tabl (canonT keep σ)
def Env.kep (E : Env) (n : Nat) : List Nat := (E.keep n).filter fun x => bif isK x then (match E.ty (kTy x) with | some _ => true | none => false) else true
def firstRid : Code -> Nat
 | .region id _ _ => id | .seq a _ => firstRid a | .block _ c => firstRid c | .scope c => firstRid c | _ => 0
def iterK {R : Type} (g : St -> Option R) (cn : St -> St) (K : Ex -> St -> Option R) : Ex -> St -> Option R
 | .normal, σ => g (cn σ)
 | e, σ => K e (cn σ)
def iter {R : Type} (f : St -> (Ex -> St -> Option R) -> Option R) (cn : St -> St) : Nat -> St -> (Ex -> St -> Option R) -> Option R
 | 0, _, _ => none
 | n + 1, σ, K => f σ (iterK (fun s => iter f cn n s K) cn K)
theorem iter_succ {R : Type} (f : St -> (Ex -> St -> Option R) -> Option R) (cn : St -> St) (n : Nat) (σ : St) (K : Ex -> St -> Option R) : iter f cn (n + 1) σ K = f σ (iterK (fun s => iter f cn n s K) cn K) := rfl
abbrev It (R : Type) := Nat -> (St -> (Ex -> St -> Option R) -> Option R) -> (St -> St) -> List (Nat × Cel) -> (Ex -> St -> Option R) -> Option R
def iterN {R : Type} (n : Nat) : It R := fun _ f cn L K => iter f cn n (tabl L) K
def seqK {R : Type} (f : St -> (Ex -> St -> Option R) -> Option R) (K : Ex -> St -> Option R) : Ex -> St -> Option R
 | .normal, σ => f σ K
 | e, σ => K e σ
def blkK {R : Type} (id : Nat) (K : Ex -> St -> Option R) : Ex -> St -> Option R
 | .exit j, σ => bif Nat.beq j id then K .normal σ else K (.exit j) σ
 | e, σ => K e σ
def exc {R : Type} (E : Env) (it : It R) : Code -> St -> (Ex -> St -> Option R) -> Option R
 | .skip, σ, K => K .normal σ
 | .region id os draw, σ, K => ops E os id 0 os.toList σ [] fun σ lg => bif !draw || (ordB 0 os.toList && calmF (ancs [] os.toList) lg.reverse) then K .normal σ else none
 | .seq a b, σ, K => exc E it a σ (seqK (exc E it b) K)
 | .cond c a b, σ, K => match c with
  | .tmp t => match σ (slk t) with
   | .v (.v false [.b x]) => bif x then (exc E it a (upd σ (slk t) (.v (.v false [.b true]))) K) else (exc E it b (upd σ (slk t) (.v (.v false [.b false]))) K)
   | _ => none
  | _ => none
 | .block id c, σ, K => exc E it c σ (blkK id K)
 | .loop c, σ, K => it (firstRid c) (exc E it c) (canon (E.kep (firstRid c))) (canonT (E.kep (firstRid c)) σ) K
 | .exit id, σ, K => K (.exit id) σ
 | .ret, σ, K => K .ret σ
 | _, _, _ => none
def loopsOf : Code -> List Code
 | .seq a b => loopsOf a ++ loopsOf b
 | .cond _ a b => loopsOf a ++ loopsOf b
 | .block _ c => loopsOf c
 | .loop c => c :: loopsOf c
 | _ => []
def loopC (rid : Nat) : Code -> Option Code
 | .seq a b => match loopC rid a with | some r => some r | none => loopC rid b
 | .cond _ a b => match loopC rid a with | some r => some r | none => loopC rid b
 | .block _ c => loopC rid c
 | .loop c => bif Nat.beq (firstRid c) rid then some c else loopC rid c
 | _ => none
def loopOf (F : Func) (rid : Nat) : Code := ((F.body.bind (loopC rid)).getD .skip)
end Go.FG

namespace Go.FG
def nmA (p j : Nat) : Nat := 900000000 + p * 1000 + j
def injAA (nm : Nat) (a : AA) : AV :=
 match a with
 | .i k n => .i k n | .b x => .b x | .s x => .s x | .sh e xs => .sh e xs | .nl => .nl
 | .ow _ _ _ => .own nm | .kp _ => .nl | .fn f caps => .fn f caps
def injOb (nm : Nat) (a : AA) : List (Nat × Cel) := match a with | .ow e ex xs => [(obk nm, .o (.row e ex xs))] | _ => []
def injAAs (nm : Nat) : List AA -> List AV
 | [] => [] | a :: r => injAA nm a :: injAAs (nm + 1) r
def injObs (nm : Nat) : List AA -> List (Nat × Cel)
 | [] => [] | a :: r => injOb nm a ++ injObs (nm + 1) r
def injSV (p : Nat) (a : Arg) : SV :=
 match a with
 | .v agg xs => .v agg (injAAs (nmA p 0) xs)
 | .pt _ => .v false [.bp (nmA p 900) 0]
 | .fb xs => .v false [.fp xs 0]
def injOs (p : Nat) (a : Arg) : List (Nat × Cel) :=
 match a with
 | .v _ xs => injObs (nmA p 0) xs
 | .pt xs => (obk (nmA p 900), .o (.box (injAAs (nmA p 0) xs))) :: injObs (nmA p 0) xs
 | .fb _ => []
def injL : Nat -> List Arg -> List (Nat × Cel)
 | _, [] => [] | p, a :: r => (slk p, .v (injSV p a)) :: injOs p a ++ injL (p + 1) r
def inj (args : List Arg) : St := tabl (injL 0 args)
def hasTy (E : Env) (e : Nat) : Bool := match E.ty e with | some _ => true | none => false
def finAV (E : Env) (om : Om) (σ : St) (k : Ck) (a : AV) : Option (AA × List Nat × List Nat) :=
 match a with
 | .i k n => some (.i k n, [], []) | .b x => some (.b x, [], []) | .s x => some (.s x, [], [])
 | .sh e xs => match om with | .own _ => none | _ => some (.sh e xs, [], [])
 | .nl => match om with
  | .own e => bif hasTy E e then some (.ow e true [], [], []) else none
  | .sh e => some (.sh e [], [], [])
  | .nat => match k with | .l e => bif hasTy E e then some (.ow e true [], [], []) else none | _ => some (.nl, [], [])
 | .own nm => match σ (obk nm) with
  | .o (.row e ex xs) => match om with | .sh _ => some (.sh e xs, [], [nm]) | _ => some (.ow e ex xs, [nm], [])
  | .o (.frow e xs) => match om with | .own _ => none | _ => some (.sh e xs, [], [])
  | _ => none
 | .vw nm lo hi => match σ (obk nm) with
  | .o (.row e ex xs) => match om with | .sh _ => some (.sh e (view xs lo hi), [], [nm]) | _ => some (.ow e ex (view xs lo hi), [nm], [])
  | .o (.frow e xs) => match om with | .own _ => none | _ => some (.sh e (view xs lo hi), [], [])
  | _ => none
 | _ => none
def finAVs (E : Env) (q : Nat) (σ : St) : Nat -> List Ck -> List AV -> Option (List AA × List Nat × List Nat)
 | _, _, [] => some ([], [], [])
 | j, ks, a :: r => match finAV E (E.om q j) σ (ks.headD .o) a, finAVs E q σ (j + 1) ks.tail r with
  | some (x, l, m), some (xs, ls, ms) => some (x :: xs, l ++ ls, m ++ ms)
  | _, _ => none
def finSV (E : Env) (q : Nat) (σ : St) (ks : List Ck) (v : SV) : Option (Arg × List Nat × List Nat) :=
 match v with
 | .v false [.bp nm 0] => match σ (obk nm) with
  | .o (.box xs) => match finAVs E q σ 0 [] xs with | some (l, ns, ms) => some (.pt l, nm :: ns, ms) | none => none
  | _ => none
 | .v agg xs => match finAVs E q σ 0 ks xs with | some (l, ns, ms) => some (.v agg l, ns, ms) | none => none
 | _ => none
def resOf (E : Env) (q : Nat) (σ : St) (r : ResultVar) (t : Nat) : Option (Arg × List Nat × List Nat) :=
 match E.ty t with
 | none => none
 | some ti => match r with
  | .tmp s => finSV E q σ ti.ks (slot σ s)
  | .cell a t' => match E.ty t', slot σ a with
   | some ti', .v false [.bp nm 0] => match σ (obk nm) with | .o (.box xs) => bif Nat.beq xs.length ti'.ks.length then finSV E q σ ti.ks (.v ti'.agg xs) else none | _ => none
   | _, _ => none
def resOfs (E : Env) (σ : St) : Nat -> List ResultVar -> List Nat -> Option (List Arg × List Nat × List Nat)
 | _, [], _ => some ([], [], [])
 | q, r :: rs, ts => match resOf E q σ r (ts.headD 0), resOfs E σ (q + 1) rs ts.tail with
  | some (a, l, m), some (as, ls, ms) => some (a :: as, l ++ ls, m ++ ms)
  | _, _ => none
def sameB (a b : Bool) : Bool := bif a then b else !b
def keptAA (σ : St) (tk : List Nat) (nm : Nat) (a : AA) : AA × List Nat :=
 match a with
 | .ow e ex _ => bif memB nm tk then (.nl, []) else (match σ (obk nm) with | .o (.row e' ex' xs) => bif Nat.beq e e' && sameB ex ex' then (.kp xs, [nm]) else (.nl, []) | _ => (.nl, []))
 | _ => (.nl, [])
def keptAAs (σ : St) (tk : List Nat) (nm : Nat) : List AA -> List AA × List Nat
 | [] => ([], []) | a :: r => ((keptAA σ tk nm a).1 :: (keptAAs σ tk (nm + 1) r).1, (keptAA σ tk nm a).2 ++ (keptAAs σ tk (nm + 1) r).2)
def boxAA (E : Env) (om : Om) (σ : St) (nm : Nat) (b : AA) (a : AV) : Option (AA × List Nat × List Nat) :=
 match om, b, a with
 | .nat, .ow e ex _, .own n => bif Nat.beq n nm then (match σ (obk n) with | .o (.row e' ex' xs) => bif Nat.beq e e' && sameB ex ex' then some (.kp xs, [n], []) else none | _ => none) else finAV E om σ .o a
 | _, _, a => finAV E om σ .o a
def boxAAs (E : Env) (q : Nat) (σ : St) : Nat -> List AA -> List AV -> Option (List AA × List Nat × List Nat)
 | _, _, [] => some ([], [], [])
 | j, bs, a :: r => match boxAA E (E.om q j) σ (nmA q j) (bs.headD .nl) a, boxAAs E q σ (j + 1) bs.tail r with
  | some (x, l, m), some (xs, ls, ms) => some (x :: xs, l ++ ls, m ++ ms)
  | _, _ => none
def hasOw : List AA -> Bool
 | [] => false | .ow _ _ _ :: _ => true | _ :: r => hasOw r
def outsOf (E : Env) (σ : St) (tk : List Nat) : Nat -> List Arg -> Option (List (List AA) × List Nat × List Nat)
 | _, [] => some ([], [], [])
 | p, a :: r => match outsOf E σ tk (p + 1) r with
  | none => none
  | some (l, ns, ms) => match a with
   | .v _ xs => bif hasOw xs then some ((keptAAs σ tk (nmA p 0) xs).1 :: l, (keptAAs σ tk (nmA p 0) xs).2 ++ ns, ms) else some ([] :: l, ns, ms)
   | .pt xs => match σ (obk (nmA p 900)) with
    | .o (.box vs) => match boxAAs E p σ 0 xs vs with | some (as, ns', ms') => some (as :: l, nmA p 900 :: (ns' ++ ns), ms' ++ ms) | none => none
    | _ => none
   | .fb _ => some ([] :: l, ns, ms)
def dropNil : List (List AA) -> List (List AA)
 | [] => []
 | x :: r => match x, dropNil r with | [], [] => [] | x, r => x :: r
def fin (E : Env) (F : Func) (args : List Arg) (e : Ex) (σ : St) : Option Res :=
 match e with
 | .exit _ => none
 | _ => match resOfs E σ 500 F.results.toList F.resultTypes.toList with
  | some (rs, tk, fz) => match outsOf E σ (tk ++ fz) 0 args with
   | some (outs, ns, ms) => bif nodupB (tk ++ ns) && apartB (tk ++ ns) (fz ++ ms) && Nat.ble args.length 500 && (args.all fun a => Nat.ble (argLen a) 100) && (rs.all fun a => Nat.ble (argLen a) 100) && (outs.all fun a => Nat.ble a.length 100) then some ⟨rs, dropNil outs⟩ else none
   | none => none
  | none => none
def body (E : Env) (it : It Res) (F : Func) (args : List Arg) : Option Res :=
 match F.body with
 | some c => exc E it c (inj args) (fin E F args)
 | none => none
end Go.FG

namespace Go.FG
structure Pl where
 nil : Bool
 blk : Nat
 off : Nat
 cap : Nat
 n : Nat
 sz : Nat
def hdr (p : Pl) : Value := if p.nil = true then .slice none 0 0 else .slice (some ⟨p.blk, p.off, none⟩) p.n p.cap
def Blk (w : World) (b : Nat) (vals : Array Value) : Prop :=
 ∃ t fr, w.heap[b]? = some (.cells vals t fr) /\ ∀ o, o <= vals.size -> (decide (fr.1 <= o) && decide (o < fr.2)) = false
def scal : CV -> Value
 | .i k n => .int k n | .b x => .bool x | .s x => .string x | .l _ _ => .nilIface
def okS (x : ByteArray) : Prop := x.size <= 4611686018427387904
def okC : CV -> Prop
 | .s x => okS x | _ => True
def Sc (u : Value) (x : CV) : Prop := u = scal x /\ okC x
structure Cor where
 P : Nat -> Pl
 G : Nat -> Nat -> Nat -> Pl
 K : Nat -> Prop
abbrev ad (b o : Nat) : Addr := ⟨b, o, none⟩
inductive Holds (E : Tab) (w : World) (K : Nat -> Prop) : Value -> CV -> Prop
 | i (k n) : Holds E w K (.int k n) (.i k n)
 | b (x) : Holds E w K (.bool x) (.b x)
 | s (x) (h : okS x) : Holds E w K (.string x) (.s x)
 | nl (e A c) : Holds E w K (.slice A 0 c) (.l e [])
 | l (e xs b o c ti) (U : Nat -> Nat -> Value) (ht : E.ty e = some ti) (hc : xs.length <= c) (hm : c <= maxLen) (hK : K b) (hs : ∀ y ∈ xs, y.map CV.kd = ti.ks)
   (hcell : ∀ i j y x, xs[i]? = some y -> y[j]? = some x -> w.cell? (ad b (o + i * ti.ks.length + j)) = some (U i j))
   (hin : ∀ i j y x, xs[i]? = some y -> y[j]? = some x -> Holds E w K (U i j) x) : Holds E w K (.slice (some (ad b o)) xs.length c) (.l e xs)
theorem Blk.cell {w : World} {b : Nat} {vals : Array Value} (h : Blk w b vals) (o : Nat) : w.cell? (ad b o) = vals[o]? := by
 obtain ⟨t, fr, h, _⟩ := h
 simp [World.cell?, h]
theorem Blk.lt {w : World} {b : Nat} {vals : Array Value} (h : Blk w b vals) : b < w.heap.size := by
 obtain ⟨t, fr, h, _⟩ := h
 exact (Array.getElem?_eq_some_iff.1 h).1
theorem Blk.free {w : World} {b : Nat} {vals : Array Value} (h : Blk w b vals) {o : Nat} (ho : o < vals.size) : w.frozen? (ad b o) = false := by
 obtain ⟨t, fr, h, hf⟩ := h
 have := hf o (Nat.le_of_lt ho)
 simpa [World.frozen?, h] using this
theorem Blk.frame {w w' : World} {b : Nat} {vals : Array Value} (h : Blk w b vals) (e : w'.heap[b]? = w.heap[b]?) : Blk w' b vals := by
 obtain ⟨t, fr, h, hf⟩ := h
 exact ⟨t, fr, e.trans h, hf⟩
theorem Holds.frame {E : Tab} {w w' : World} {K K' : Nat -> Prop} {v : Value} {x : CV} (h : Holds E w K v x) (hw : ∀ b, K b -> w'.heap[b]? = w.heap[b]?) (hK : ∀ b, K b -> K' b) : Holds E w' K' v x := by
 induction h with
 | i => exact .i _ _
 | b => exact .b _
 | s x h => exact .s _ h
 | nl => exact .nl _ _ _
 | l e xs b o c ti U ht hc hm hKb hs hcell hin ih =>
  exact .l e xs b o c ti U ht hc hm (hK b hKb) hs (fun i j y x h1 h2 => (World.cell?_of_block (a := ad b _) (hw b hKb)).trans (hcell i j y x h1 h2)) (fun i j y x h1 h2 => ih i j y x h1 h2)
structure RowAt (w : World) (p : Pl) (xs : Row) (R : Nat -> Nat -> Value -> CV -> Prop) : Prop where
 n : p.n = xs.length
 nil : p.nil = true -> xs = [] /\ p.cap = 0
 mem : p.nil = false -> ∃ vals, Blk w p.blk vals /\ p.n <= p.cap /\ p.cap <= maxLen /\ p.off + p.cap * p.sz <= vals.size /\
  ∀ (i : Nat) (y : List CV) (j : Nat) (x : CV), xs[i]? = some y -> y[j]? = some x -> ∃ u : Value, vals[p.off + i * p.sz + j]? = some u /\ R i j u x
def XC (E : Tab) (w : World) (G : Nat -> Nat -> Pl) (i j : Nat) (u : Value) : CV -> Prop
 | .l e ys => u = hdr (G i j) /\ ∃ ti, E.ty e = some ti /\ plain ti.ks = true /\ (G i j).sz = ti.ks.length /\ (∀ y ∈ ys, y.map CV.kd = ti.ks) /\ RowAt w (G i j) ys (fun _ _ u x => Sc u x)
 | x => Sc u x
def isL : CV -> Bool | .l _ _ => true | _ => false
def InnAt (xs : Row) (i j : Nat) : Prop := ∃ y x, xs[i]? = some y /\ y[j]? = some x /\ isL x = true
structure InnSep (p : Pl) (G : Nat -> Nat -> Pl) (xs : Row) : Prop where
 out : ∀ i j, InnAt xs i j -> (G i j).nil = false -> p.nil = false -> (G i j).blk ≠ p.blk
 one : ∀ i j i' j', InnAt xs i j -> InnAt xs i' j' -> (G i j).nil = false -> (G i' j').nil = false -> (G i j).blk = (G i' j').blk -> i = i' /\ j = j'
structure RowOk (E : Tab) (w : World) (c : Cor) (nm e : Nat) (ex : Bool) (xs : Row) : Prop where
 sh : ∃ ti, E.ty e = some ti /\ (c.P nm).sz = ti.ks.length /\ ∀ y ∈ xs, y.map CV.kd = ti.ks
 at_ : RowAt w (c.P nm) xs (fun i j u x => if ex = true then XC E w (c.G nm) i j u x else Holds E w c.K u x)
 inn : ex = true -> InnSep (c.P nm) (c.G nm) xs
def FB (E : Tab) (w : World) (K : Nat -> Prop) (b : Nat) (cs : List CV) : Prop :=
 K b /\ ∀ (q : Nat) (x : CV), cs[q]? = some x -> ∃ u : Value, w.cell? (ad b q) = some u /\ Holds E w K u x
def VwAt (p : Pl) (lo hi : Nat) (v : Value) : Prop :=
 lo <= hi /\ hi <= p.n /\ (p.nil = true -> v = .slice none 0 0) /\
 (p.nil = false -> (lo < p.cap /\ v = .slice (some (ad p.blk (p.off + lo * p.sz))) (hi - lo) (p.cap - lo)) \/ (lo = p.cap /\ ∃ o, o <= p.off + p.cap * p.sz /\ v = .slice (some (ad p.blk o)) 0 0))
def AVOk (E : Tab) (w : World) (c : Cor) : AV -> Value -> Prop
 | .i k n, v => v = .int k n
 | .b x, v => v = .bool x
 | .s x, v => v = .string x /\ okS x
 | .sh e xs, v => Holds E w c.K v (.l e xs)
 | .nl, v => v = .slice none 0 0
 | .own nm, v => v = hdr (c.P nm)
 | .vw nm lo hi, v => VwAt (c.P nm) lo hi v
 | .bp nm j, v => v = .pointer (some (ad (c.P nm).blk j))
 | .rp nm i j, v => i < (c.P nm).n /\ v = .pointer (some (ad (c.P nm).blk ((c.P nm).off + i * (c.P nm).sz + j)))
 | .sp e xs i j, v => ∃ b o cp ti, Holds E w c.K (.slice (some (ad b o)) xs.length cp) (.l e xs) /\ i < xs.length /\ E.ty e = some ti /\ v = .pointer (some (ad b (o + i * ti.ks.length + j)))
 | .inn nm i j, v => (i < (c.P nm).n /\ v = hdr (c.G nm i j)) /\ isF nm = false
 | .ip nm i j i2 j2, v => (i < (c.P nm).n /\ i2 < (c.G nm i j).n /\ v = .pointer (some (ad (c.G nm i j).blk ((c.G nm i j).off + i2 * (c.G nm i j).sz + j2)))) /\ isF nm = false
 | .iv nm i j lo hi, v => (i < (c.P nm).n /\ VwAt (c.G nm i j) lo hi v) /\ isF nm = false
 | .fn f caps, v => ∃ ps : Array Value, v = .func (.func f) #[] ps /\ ps.size = caps.length /\ ∀ (q : Nat) (cs : List CV), caps[q]? = some cs -> ∃ b : Nat, ps[q]? = some (.pointer (some (ad b 0))) /\ FB E w c.K b cs
 | .fp cs j, v => ∃ b, v = .pointer (some (ad b j)) /\ FB E w c.K b cs
def VOk (E : Tab) (w : World) (c : Cor) (agg : Bool) (xs : List AV) (v : Value) : Prop :=
 match agg, xs with
 | false, [a] => AVOk E w c a v
 | true, xs => ∃ vals : Array Value, v = .agg vals /\ vals.size = xs.length /\ ∀ (j : Nat) (a : AV), xs[j]? = some a -> ∃ u : Value, vals[j]? = some u /\ AVOk E w c a u
 | _, _ => False
def SVOk (E : Tab) (w : World) (c : Cor) : SV -> Value -> Prop
 | .v agg xs, v => VOk E w c agg xs v
 | .tup l, v => ∃ vs : Array Value, v = .tuple vs /\ vs.size = l.length /\ ∀ (j : Nat) (agg : Bool) (xs : List AV), l[j]? = some (agg, xs) -> ∃ u : Value, vs[j]? = some u /\ VOk E w c agg xs u
 | .un, _ => True
def ObjOk (E : Tab) (w : World) (c : Cor) (nm : Nat) : Obj -> Prop
 | .box xs => ∃ vals, Blk w (c.P nm).blk vals /\ vals.size = xs.length /\ ∀ (j : Nat) (a : AV), xs[j]? = some a -> ∃ u : Value, vals[j]? = some u /\ AVOk E w c a u
 | .fbox cs => FB E w c.K (c.P nm).blk cs
 | .row e ex xs => RowOk E w c nm e ex xs
 | .frow e xs => Holds E w c.K (hdr (c.P nm)) (.l e xs) /\ (c.P nm).n = xs.length /\ ∃ ti, E.ty e = some ti /\ (c.P nm).sz = ti.ks.length
 | .dead => True
def foot (c : Cor) (nm : Nat) : Obj -> Nat -> Prop
 | .box _, b => b = (c.P nm).blk
 | .row _ ex xs, b => ((c.P nm).nil = false /\ b = (c.P nm).blk) \/ (ex = true /\ ∃ i j, InnAt xs i j /\ (c.G nm i j).nil = false /\ b = (c.G nm i j).blk)
 | _, _ => False
def Own (σ : St) (c : Cor) (b : Nat) : Prop := ∃ nm o, σ (obk nm) = .o o /\ foot c nm o b
def KnownAV (σ : St) (a : AV) : Prop := ∀ n ∈ namesAV a, σ (obk n) ≠ .non
def KnownSV (σ : St) (v : SV) : Prop := ∀ n ∈ namesSV v, σ (obk n) ≠ .non
structure Ok (E : Tab) (σ : St) (w : World) (c : Cor) : Prop where
 obj : ∀ nm o, σ (obk nm) = .o o -> ObjOk E w c nm o
 sep : ∀ nm o nm' o' b, σ (obk nm) = .o o -> σ (obk nm') = .o o' -> foot c nm o b -> foot c nm' o' b -> nm = nm'
 kk : ∀ nm o b, σ (obk nm) = .o o -> foot c nm o b -> ¬ c.K b
 lt : ∀ b, c.K b -> b < w.heap.size
 kn : ∀ nm xs, σ (obk nm) = .o (.box xs) -> ∀ a ∈ xs, KnownAV σ a
 gp : E.gp.f w c.K
structure SlOk (E : Tab) (σ : St) (a : Act) (w : World) (c : Cor) : Prop where
 ok : ∀ n, SVOk E w c (slot σ n) (a.eval (.tmp n))
 kn : ∀ n, KnownSV σ (slot σ n)
 df : a.defers = []
def Agree (σ : St) (c c' : Cor) : Prop := ∀ nm, (σ (obk nm) ≠ .non \/ 900000000 <= nm) -> c'.P nm = c.P nm /\ c'.G nm = c.G nm
def AgreeW (σ : St) (c c' : Cor) : Prop := ∀ nm, (σ (obk nm) ≠ .non \/ 900000000 <= nm) -> c'.P nm = c.P nm /\ (isF nm = false -> c'.G nm = c.G nm)
theorem Agree.w {σ : St} {c c' : Cor} (h : Agree σ c c') : AgreeW σ c c' := fun nm hn => ⟨(h nm hn).1, fun _ => (h nm hn).2⟩
structure Grow (σ : St) (c : Cor) (w : World) (σ' : St) (c' : Cor) (w' : World) : Prop where
 os : w'.os = w.os
 tape : w'.tape = w.tape
 output : w'.output = w.output
 size : w.heap.size <= w'.heap.size
 K : ∀ b, c.K b -> c'.K b
 same : ∀ b, b < w.heap.size -> ¬ Own σ c b -> w'.heap[b]? = w.heap[b]?
 own : ∀ b, Own σ' c' b -> Own σ c b \/ w.heap.size <= b
 kn : ∀ b, c'.K b -> c.K b \/ Own σ c b \/ w.heap.size <= b
theorem Own.lt {E : Tab} {σ : St} {w : World} {c : Cor} (h : Ok E σ w c) {b : Nat} (ho : Own σ c b) : b < w.heap.size := by
 obtain ⟨nm, o, h1, h2⟩ := ho
 have hob := h.obj nm o h1
 cases o with
 | box xs =>
  obtain ⟨vals, hb, _⟩ := hob
  cases h2; exact hb.lt
 | fbox => exact h2.elim
 | frow => exact h2.elim
 | dead => exact h2.elim
 | row e ex xs =>
  rcases h2 with ⟨hn, rfl⟩ | ⟨hex, i, j, ⟨y, x, hy, hx, hl⟩, hn, rfl⟩
  ·obtain ⟨vals, hb, _⟩ := hob.at_.mem hn; exact hb.lt
  ·by_cases hp : (c.P nm).nil = true
   ·have := (hob.at_.nil hp).1; subst this; simp at hy
   ·obtain ⟨vals, hb, _, _, _, hc⟩ := hob.at_.mem (by simpa using hp)
    obtain ⟨u, _, hu⟩ := hc i y j x hy hx
    rw [if_pos hex] at hu
    cases x with
    | l e2 ys =>
     obtain ⟨_, ti, _, _, _, _, hr⟩ := hu
     obtain ⟨v2, hb2, _⟩ := hr.mem hn
     exact hb2.lt
    | i => simp [isL] at hl
    | b => simp [isL] at hl
    | s => simp [isL] at hl
theorem Ok.notK {E : Tab} {σ : St} {w : World} {c : Cor} (h : Ok E σ w c) {b : Nat} (ho : Own σ c b) : ¬ c.K b := by
 obtain ⟨nm, o, h1, h2⟩ := ho
 exact h.kk nm o b h1 h2
theorem Grow.refl (σ : St) (c : Cor) (w : World) : Grow σ c w σ c w :=
 ⟨rfl, rfl, rfl, Nat.le_refl _, fun _ h => h, fun _ _ _ => rfl, fun _ h => .inl h, fun _ h => .inl h⟩
theorem Grow.trans {σ σ1 σ2 : St} {c c1 c2 : Cor} {w w1 w2 : World} (h : Grow σ c w σ1 c1 w1) (k : Grow σ1 c1 w1 σ2 c2 w2) : Grow σ c w σ2 c2 w2 where
 os := k.os.trans h.os
 tape := k.tape.trans h.tape
 output := k.output.trans h.output
 size := Nat.le_trans h.size k.size
 K b hb := k.K b (h.K b hb)
 same b hb hn := (k.same b (Nat.lt_of_lt_of_le hb h.size) (fun ho => (h.own b ho).elim hn (fun h => by omega))).trans (h.same b hb hn)
 own b hb := (k.own b hb).elim (h.own b) (fun h1 => .inr (Nat.le_trans h.size h1))
 kn b hb := by
  rcases k.kn b hb with h1 | h1 | h1
  ·exact h.kn b h1
  ·exact .inr (h.own b h1)
  ·exact .inr (.inr (Nat.le_trans h.size h1))
theorem Grow.Kheap {E : Tab} {σ σ' : St} {c c' : Cor} {w w' : World} (hok : Ok E σ w c) (h : Grow σ c w σ' c' w') : ∀ b, c.K b -> w'.heap[b]? = w.heap[b]? :=
 fun b hb => h.same b (hok.lt b hb) (fun ho => hok.notK ho hb)
theorem FB.frame {E : Tab} {w w' : World} {K K' : Nat -> Prop} {b : Nat} {cs : List CV} (h : FB E w K b cs) (hw : ∀ b, K b -> w'.heap[b]? = w.heap[b]?) (hK : ∀ b, K b -> K' b) : FB E w' K' b cs :=
 ⟨hK b h.1, fun q x hq => by
  obtain ⟨u, hu, hh⟩ := h.2 q x hq
  exact ⟨u, (World.cell?_of_block (a := ad b q) (hw b h.1)).trans hu, hh.frame hw hK⟩⟩
theorem AVOk.frameW {E : Tab} {w w' : World} {c c' : Cor} {a : AV} {v : Value} (h : AVOk E w c a v) (hw : ∀ b, c.K b -> w'.heap[b]? = w.heap[b]?) (hK : ∀ b, c.K b -> c'.K b)
  (hP : ∀ n ∈ namesAV a, c'.P n = c.P n /\ (isF n = false -> c'.G n = c.G n)) : AVOk E w' c' a v := by
 cases a with
 | i => exact h
 | b => exact h
 | s => exact h
 | nl => exact h
 | sh e xs => exact Holds.frame h hw hK
 | own n => have := hP n (by simp [namesAV]); simp only [AVOk, this.1] at h ⊢; exact h
 | vw n lo hi => have := hP n (by simp [namesAV]); simp only [AVOk, this.1] at h ⊢; exact h
 | bp n j => have := hP n (by simp [namesAV]); simp only [AVOk, this.1] at h ⊢; exact h
 | rp n i j => have := hP n (by simp [namesAV]); simp only [AVOk, this.1] at h ⊢; exact h
 | inn n i j => have h0 := hP n (by simp [namesAV]); have this := h0.2 h.2; simp only [AVOk, h0.1, this] at h ⊢; exact h
 | ip n i j i2 j2 => have h0 := hP n (by simp [namesAV]); have this := h0.2 h.2; simp only [AVOk, h0.1, this] at h ⊢; exact h
 | iv n i j lo hi => have h0 := hP n (by simp [namesAV]); have this := h0.2 h.2; simp only [AVOk, h0.1, this] at h ⊢; exact h
 | sp e xs i j =>
  obtain ⟨b, o, cp, ti, h1, h2, h3, h4⟩ := h
  exact ⟨b, o, cp, ti, h1.frame hw hK, h2, h3, h4⟩
 | fn f caps =>
  obtain ⟨ps, h1, h2, h3⟩ := h
  exact ⟨ps, h1, h2, fun q cs hq => by obtain ⟨b, hb, hf⟩ := h3 q cs hq; exact ⟨b, hb, hf.frame hw hK⟩⟩
 | fp cs j =>
  obtain ⟨b, h1, h2⟩ := h
  exact ⟨b, h1, h2.frame hw hK⟩
theorem VOk.frameW {E : Tab} {w w' : World} {c c' : Cor} {agg : Bool} {xs : List AV} {v : Value} (h : VOk E w c agg xs v) (hw : ∀ b, c.K b -> w'.heap[b]? = w.heap[b]?) (hK : ∀ b, c.K b -> c'.K b)
  (hP : ∀ n ∈ xs.flatMap namesAV, c'.P n = c.P n /\ (isF n = false -> c'.G n = c.G n)) : VOk E w' c' agg xs v := by
 unfold VOk at h ⊢
 split at h
 ·rename_i a
  exact AVOk.frameW h hw hK (fun n hn => hP n (by simpa using hn))
 ·obtain ⟨vals, h1, h2, h3⟩ := h
  refine ⟨vals, h1, h2, fun j a hj => ?_⟩
  obtain ⟨u, hu, hv⟩ := h3 j a hj
  exact ⟨u, hu, hv.frameW hw hK (fun n hn => hP n (List.mem_flatMap.2 ⟨a, List.mem_of_getElem? hj, hn⟩))⟩
 ·exact h.elim
theorem SVOk.frameW {E : Tab} {w w' : World} {c c' : Cor} {s : SV} {v : Value} (h : SVOk E w c s v) (hw : ∀ b, c.K b -> w'.heap[b]? = w.heap[b]?) (hK : ∀ b, c.K b -> c'.K b)
  (hP : ∀ n ∈ namesSV s, c'.P n = c.P n /\ (isF n = false -> c'.G n = c.G n)) : SVOk E w' c' s v := by
 cases s with
 | un => trivial
 | v agg xs => exact VOk.frameW h hw hK hP
 | tup l =>
  obtain ⟨vs, h1, h2, h3⟩ := h
  refine ⟨vs, h1, h2, fun j agg xs hj => ?_⟩
  obtain ⟨u, hu, hv⟩ := h3 j agg xs hj
  exact ⟨u, hu, hv.frameW hw hK (fun n hn => hP n (List.mem_flatMap.2 ⟨(agg, xs), List.mem_of_getElem? hj, hn⟩))⟩
theorem AVOk.frame {E : Tab} {w w' : World} {c c' : Cor} {a : AV} {v : Value} (h : AVOk E w c a v) (hw : ∀ b, c.K b -> w'.heap[b]? = w.heap[b]?) (hK : ∀ b, c.K b -> c'.K b)
  (hP : ∀ n ∈ namesAV a, c'.P n = c.P n /\ c'.G n = c.G n) : AVOk E w' c' a v := h.frameW hw hK (fun n hn => ⟨(hP n hn).1, fun _ => (hP n hn).2⟩)
theorem VOk.frame {E : Tab} {w w' : World} {c c' : Cor} {agg : Bool} {xs : List AV} {v : Value} (h : VOk E w c agg xs v) (hw : ∀ b, c.K b -> w'.heap[b]? = w.heap[b]?) (hK : ∀ b, c.K b -> c'.K b)
  (hP : ∀ n ∈ xs.flatMap namesAV, c'.P n = c.P n /\ c'.G n = c.G n) : VOk E w' c' agg xs v := h.frameW hw hK (fun n hn => ⟨(hP n hn).1, fun _ => (hP n hn).2⟩)
theorem SVOk.frame {E : Tab} {w w' : World} {c c' : Cor} {s : SV} {v : Value} (h : SVOk E w c s v) (hw : ∀ b, c.K b -> w'.heap[b]? = w.heap[b]?) (hK : ∀ b, c.K b -> c'.K b)
  (hP : ∀ n ∈ namesSV s, c'.P n = c.P n /\ c'.G n = c.G n) : SVOk E w' c' s v := h.frameW hw hK (fun n hn => ⟨(hP n hn).1, fun _ => (hP n hn).2⟩)
theorem RowAt.frame {w w' : World} {p : Pl} {xs : Row} {R R' : Nat -> Nat -> Value -> CV -> Prop} (h : RowAt w p xs R) (hw : p.nil = false -> w'.heap[p.blk]? = w.heap[p.blk]?)
  (hR : ∀ i j y x u, xs[i]? = some y -> y[j]? = some x -> R i j u x -> R' i j u x) : RowAt w' p xs R' where
 n := h.n
 nil := h.nil
 mem hn := by
  obtain ⟨vals, h1, h2, h3, h4, h5⟩ := h.mem hn
  refine ⟨vals, h1.frame (hw hn), h2, h3, h4, fun i y j x hi hj => ?_⟩
  obtain ⟨u, hu, hr⟩ := h5 i y j x hi hj
  exact ⟨u, hu, hR i j y x u hi hj hr⟩
theorem XC.frame {E : Tab} {w w' : World} {G : Nat -> Nat -> Pl} {i j : Nat} {u : Value} {x : CV} (h : XC E w G i j u x) (hw : isL x = true -> (G i j).nil = false -> w'.heap[(G i j).blk]? = w.heap[(G i j).blk]?) : XC E w' G i j u x := by
 cases x with
 | l e ys =>
  obtain ⟨h1, ti, h2, h3, h4, h5, h6⟩ := h
  exact ⟨h1, ti, h2, h3, h4, h5, h6.frame (hw rfl) (fun _ _ _ _ _ _ _ h => h)⟩
 | i => exact h
 | b => exact h
 | s => exact h
theorem ObjOk.frame {E : Tab} {w w' : World} {c c' : Cor} {nm : Nat} {o : Obj} (h : ObjOk E w c nm o) (hw : ∀ b, c.K b -> w'.heap[b]? = w.heap[b]?) (hK : ∀ b, c.K b -> c'.K b)
  (hf : ∀ b, foot c nm o b -> w'.heap[b]? = w.heap[b]?) (hP : c'.P nm = c.P nm /\ c'.G nm = c.G nm)
  (hPs : ∀ xs, o = .box xs -> ∀ a ∈ xs, ∀ n ∈ namesAV a, c'.P n = c.P n /\ (isF n = false -> c'.G n = c.G n)) : ObjOk E w' c' nm o := by
 cases o with
 | dead => trivial
 | box xs =>
  obtain ⟨vals, h1, h2, h3⟩ := h
  refine ⟨vals, ?_, h2, fun j a hj => ?_⟩
  ·rw [hP.1]; exact h1.frame (hf _ rfl)
  ·obtain ⟨u, hu, hv⟩ := h3 j a hj
   exact ⟨u, hu, hv.frameW hw hK (hPs xs rfl a (List.mem_of_getElem? hj))⟩
 | fbox cs => show FB E w' c'.K (c'.P nm).blk cs; rw [hP.1]; exact FB.frame h hw hK
 | frow e xs =>
  obtain ⟨h1, h2, h3⟩ := h
  refine ⟨?_, ?_, ?_⟩
  ·rw [hP.1]; exact h1.frame hw hK
  ·rw [hP.1]; exact h2
  ·rw [hP.1]; exact h3
 | row e ex xs =>
  obtain ⟨h1, h2, h3⟩ := h
  refine ⟨by rw [hP.1]; exact h1, ?_, by rw [hP.1, hP.2]; exact h3⟩
  rw [hP.1, hP.2]
  refine h2.frame (fun hn => hf _ (.inl ⟨hn, rfl⟩)) (fun i j y x u hi hj hr => ?_)
  by_cases hx : ex = true
  ·rw [if_pos hx] at hr ⊢
   exact hr.frame (fun hl hn => hf _ (.inr ⟨hx, i, j, ⟨y, x, hi, hj, hl⟩, hn, rfl⟩))
  ·rw [if_neg hx] at hr ⊢
   exact hr.frame hw hK
end Go.FG

namespace Go.FG
theorem upd_same (s : St) (k : Nat) (c : Cel) : upd s k c k = c := by simp [upd]
theorem upd_ne (s : St) {k n : Nat} (c : Cel) (h : n ≠ k) : upd s k c n = s n := by
 have : Nat.beq n k = false := by
  cases hb : Nat.beq n k with
  | false => rfl
  | true => exact absurd (Nat.eq_of_beq_eq_true hb) h
 simp [upd, this]
theorem slk_ne_obk (n m : Nat) : slk n ≠ obk m := by unfold slk obk; omega
theorem obk_ne_slk (n m : Nat) : obk n ≠ slk m := by unfold slk obk; omega
theorem slk_inj {n m : Nat} (h : slk n = slk m) : n = m := by unfold slk at h; omega
theorem obk_inj {n m : Nat} (h : obk n = obk m) : n = m := by unfold obk at h; omega
theorem upd_obk_slk (s : St) (d : Nat) (c : Cel) (m : Nat) : upd s (slk d) c (obk m) = s (obk m) := upd_ne s c (obk_ne_slk m d)
theorem upd_obk (s : St) (n : Nat) (c : Cel) (m : Nat) : upd s (obk n) c (obk m) = if m = n then c else s (obk m) := by
 by_cases h : m = n
 ·subst h; simp [upd_same]
 ·rw [if_neg h]; exact upd_ne s c (fun e => h (obk_inj e))
theorem slot_upd_obk (s : St) (n : Nat) (c : Cel) (m : Nat) : slot (upd s (obk n) c) m = slot s m := by
 unfold slot; rw [upd_ne s c (slk_ne_obk m n)]
theorem slot_upd_slk (s : St) (d : Nat) (v : SV) (m : Nat) : slot (upd s (slk d) (.v v)) m = if m = d then v else slot s m := by
 by_cases h : m = d
 ·subst h; simp [slot, upd_same]
 ·rw [if_neg h]; unfold slot; rw [upd_ne s _ (fun e => h (slk_inj e))]
theorem wr_append (s : St) (l r : List (Nat × Cel)) : wr s (l ++ r) = wr (wr s l) r := by
 induction l generalizing s with
 | nil => rfl
 | cons a l ih => obtain ⟨k, c⟩ := a; exact ih _
def Rd.val {α : Type} (m : Rd α) (σ : St) : Option α := (m.run σ []).map (·.1)
theorem Rd.run_map {α : Type} (m : Rd α) (σ : St) : ∀ l, (m.run σ l).map (·.1) = m.val σ := by
 induction m with
 | ret a => intro l; rfl
 | fail => intro l; rfl
 | get k f ih => intro l; simp only [Rd.run, Rd.val]; rw [ih, ih]
theorem Rd.val_of_run {α : Type} {m : Rd α} {σ : St} {l l' : List Nat} {a : α} (h : m.run σ l = some (a, l')) : m.val σ = some a := by
 rw [<- Rd.run_map m σ l, h]; rfl
@[simp] theorem Rd.val_ret {α : Type} (a : α) (σ : St) : (Rd.ret a).val σ = some a := rfl
@[simp] theorem Rd.val_fail {α : Type} (σ : St) : (Rd.fail : Rd α).val σ = none := rfl
@[simp] theorem Rd.val_get {α : Type} (k : Nat) (f : Cel -> Rd α) (σ : St) : (Rd.get k f).val σ = (f (σ k)).val σ := by
 simp only [Rd.val, Rd.run]; exact (Rd.run_map (f (σ k)) σ [k])
@[simp] theorem Rd.val_bind {α β : Type} (m : Rd α) (f : α -> Rd β) (σ : St) : (m.bind f).val σ = (m.val σ).bind fun a => (f a).val σ := by
 induction m with
 | ret a => rfl
 | fail => rfl
 | get k g ih => simp only [Rd.bind, Rd.val_get]; exact ih _
theorem Rd.bind_some {α β : Type} {m : Rd α} {f : α -> Rd β} {σ : St} {b : β} (h : (m.bind f).val σ = some b) : ∃ a, m.val σ = some a /\ (f a).val σ = some b := by
 rw [Rd.val_bind, Option.bind_eq_some_iff] at h; exact h
theorem bif_fail {α : Type} {b : Bool} {m : Rd α} {σ : St} {a : α} (h : (bif b then m else Rd.fail).val σ = some a) : b = true /\ m.val σ = some a := by
 cases b with
 | true => exact ⟨rfl, h⟩
 | false => simp at h
def OwnIn (Ch : Nat -> Prop) (σ : St) (c : Cor) (b : Nat) : Prop := ∃ nm o, Ch nm /\ σ (obk nm) = .o o /\ foot c nm o b
theorem OwnIn.own {Ch : Nat -> Prop} {σ : St} {c : Cor} {b : Nat} (h : OwnIn Ch σ c b) : Own σ c b := by
 obtain ⟨nm, o, _, h1, h2⟩ := h; exact ⟨nm, o, h1, h2⟩
theorem foot_congr {c c' : Cor} {nm : Nat} {o : Obj} (h : c'.P nm = c.P nm /\ c'.G nm = c.G nm) (b : Nat) : foot c' nm o b = foot c nm o b := by
 cases o <;> simp only [foot, h.1, h.2]
theorem Ok.changeW {E : Tab} {σ σ' : St} {w w' : World} {c c' : Cor} (h : Ok E σ w c) (Ch : Nat -> Prop)
  (hσ : ∀ nm, ¬ Ch nm -> σ' (obk nm) = σ (obk nm)) (hne : ∀ nm, σ (obk nm) ≠ .non -> σ' (obk nm) ≠ .non) (hA : AgreeW σ c c') (hAG : ∀ nm, ¬ Ch nm -> σ (obk nm) ≠ .non -> c'.G nm = c.G nm)
  (hW : ∀ b, b < w.heap.size -> ¬ OwnIn Ch σ c b -> w'.heap[b]? = w.heap[b]?) (hsz : w.heap.size <= w'.heap.size)
  (hK : ∀ b, c.K b -> c'.K b) (hK' : ∀ b, c'.K b -> c.K b \/ OwnIn Ch σ c b \/ w.heap.size <= b) (hKlt : ∀ b, c'.K b -> b < w'.heap.size)
  (hob : ∀ nm o, Ch nm -> σ' (obk nm) = .o o -> ObjOk E w' c' nm o)
  (hft : ∀ nm o b, Ch nm -> σ' (obk nm) = .o o -> foot c' nm o b -> (OwnIn Ch σ c b \/ w.heap.size <= b) /\ ¬ c'.K b)
  (hsp : ∀ nm o nm' o' b, Ch nm -> Ch nm' -> σ' (obk nm) = .o o -> σ' (obk nm') = .o o' -> foot c' nm o b -> foot c' nm' o' b -> nm = nm')
  (hkn : ∀ nm xs, Ch nm -> σ' (obk nm) = .o (.box xs) -> ∀ a ∈ xs, KnownAV σ' a)
  (hos : w'.os = w.os) (htape : w'.tape = w.tape) (hout : w'.output = w.output) : Ok E σ' w' c' /\ Grow σ c w σ' c' w' := by
 have notin : ∀ nm o b, ¬ Ch nm -> σ (obk nm) = .o o -> foot c nm o b -> ¬ OwnIn Ch σ c b := by
  intro nm o b hc ho hf ⟨nm2, o2, hc2, ho2, hf2⟩
  exact hc (h.sep nm o nm2 o2 b ho ho2 hf hf2 ▸ hc2)
 have agr : ∀ nm o, ¬ Ch nm -> σ' (obk nm) = .o o -> σ (obk nm) = .o o /\ (c'.P nm = c.P nm /\ c'.G nm = c.G nm) := by
  intro nm o hc ho
  rw [hσ nm hc] at ho
  exact ⟨ho, (hA nm (.inl (by rw [ho]; simp))).1, hAG nm hc (by rw [ho]; simp)⟩
 have kheap : ∀ b, c.K b -> w'.heap[b]? = w.heap[b]? := fun b hb => hW b (h.lt b hb) (fun hi => h.notK hi.own hb)
 have lt : ∀ nm o b, σ (obk nm) = .o o -> foot c nm o b -> b < w.heap.size := fun nm o b ho hf => Own.lt h ⟨nm, o, ho, hf⟩
 refine ⟨⟨?_, ?_, ?_, hKlt, ?_, E.gp.fr h.gp kheap hK⟩, ⟨hos, htape, hout, hsz, hK, ?_, ?_, ?_⟩⟩
 ·intro nm o ho
  by_cases hc : Ch nm
  ·exact hob nm o hc ho
  ·obtain ⟨ho', ha⟩ := agr nm o hc ho
   refine (h.obj nm o ho').frame kheap hK (fun b hb => hW b (lt nm o b ho' hb) (notin nm o b hc ho' hb)) ha ?_
   intro xs hx a hm n hn
   exact hA n (.inl (h.kn nm xs (hx ▸ ho') a hm n hn))
 ·intro nm o nm' o' b ho ho' hf hf'
  by_cases hc : Ch nm
  ·by_cases hc' : Ch nm'
   ·exact hsp nm o nm' o' b hc hc' ho ho' hf hf'
   ·obtain ⟨h1, ha⟩ := agr nm' o' hc' ho'
    rw [foot_congr ha] at hf'
    rcases (hft nm o b hc ho hf).1 with hi | hi
    ·exact absurd hi (notin nm' o' b hc' h1 hf')
    ·have := lt nm' o' b h1 hf'; omega
  ·obtain ⟨h1, ha⟩ := agr nm o hc ho
   rw [foot_congr ha] at hf
   by_cases hc' : Ch nm'
   ·rcases (hft nm' o' b hc' ho' hf').1 with hi | hi
    ·exact absurd hi (notin nm o b hc h1 hf)
    ·have := lt nm o b h1 hf; omega
   ·obtain ⟨h2, ha'⟩ := agr nm' o' hc' ho'
    rw [foot_congr ha'] at hf'
    exact h.sep nm o nm' o' b h1 h2 hf hf'
 ·intro nm o b ho hf
  by_cases hc : Ch nm
  ·exact (hft nm o b hc ho hf).2
  ·obtain ⟨h1, ha⟩ := agr nm o hc ho
   rw [foot_congr ha] at hf
   intro hk
   rcases hK' b hk with h2 | h2 | h2
   ·exact h.kk nm o b h1 hf h2
   ·exact notin nm o b hc h1 hf h2
   ·have := lt nm o b h1 hf; omega
 ·intro nm xs ho a hm
  by_cases hc : Ch nm
  ·exact hkn nm xs hc ho a hm
  ·obtain ⟨h1, _⟩ := agr nm _ hc ho
   intro n hn
   exact hne n (h.kn nm xs h1 a hm n hn)
 ·intro b hb hn
  exact hW b hb (fun hi => hn hi.own)
 ·rintro b ⟨nm, o, ho, hf⟩
  by_cases hc : Ch nm
  ·exact (hft nm o b hc ho hf).1.imp OwnIn.own id
  ·obtain ⟨h1, ha⟩ := agr nm o hc ho
   rw [foot_congr ha] at hf
   exact .inl ⟨nm, o, h1, hf⟩
 ·intro b hb
  rcases hK' b hb with h2 | h2 | h2
  ·exact .inl h2
  ·exact .inr (.inl h2.own)
  ·exact .inr (.inr h2)
theorem Ok.change {E : Tab} {σ σ' : St} {w w' : World} {c c' : Cor} (h : Ok E σ w c) (Ch : Nat -> Prop)
  (hσ : ∀ nm, ¬ Ch nm -> σ' (obk nm) = σ (obk nm)) (hne : ∀ nm, σ (obk nm) ≠ .non -> σ' (obk nm) ≠ .non) (hA : Agree σ c c')
  (hW : ∀ b, b < w.heap.size -> ¬ OwnIn Ch σ c b -> w'.heap[b]? = w.heap[b]?) (hsz : w.heap.size <= w'.heap.size)
  (hK : ∀ b, c.K b -> c'.K b) (hK' : ∀ b, c'.K b -> c.K b \/ OwnIn Ch σ c b \/ w.heap.size <= b) (hKlt : ∀ b, c'.K b -> b < w'.heap.size)
  (hob : ∀ nm o, Ch nm -> σ' (obk nm) = .o o -> ObjOk E w' c' nm o)
  (hft : ∀ nm o b, Ch nm -> σ' (obk nm) = .o o -> foot c' nm o b -> (OwnIn Ch σ c b \/ w.heap.size <= b) /\ ¬ c'.K b)
  (hsp : ∀ nm o nm' o' b, Ch nm -> Ch nm' -> σ' (obk nm) = .o o -> σ' (obk nm') = .o o' -> foot c' nm o b -> foot c' nm' o' b -> nm = nm')
  (hkn : ∀ nm xs, Ch nm -> σ' (obk nm) = .o (.box xs) -> ∀ a ∈ xs, KnownAV σ' a)
  (hos : w'.os = w.os) (htape : w'.tape = w.tape) (hout : w'.output = w.output) : Ok E σ' w' c' /\ Grow σ c w σ' c' w' :=
 h.changeW Ch hσ hne hA.w (fun nm _ hn => (hA nm (.inl hn)).2) hW hsz hK hK' hKlt hob hft hsp hkn hos htape hout
theorem Ok.slot {E : Tab} {σ σ' : St} {w : World} {c : Cor} (h : Ok E σ w c) (hσ : ∀ nm, σ' (obk nm) = σ (obk nm)) : Ok E σ' w c /\ Grow σ c w σ' c w := by
 refine ⟨⟨fun nm o ho => h.obj nm o (hσ nm ▸ ho), fun nm o nm' o' b h1 h2 => h.sep nm o nm' o' b (hσ nm ▸ h1) (hσ nm' ▸ h2), fun nm o b h1 => h.kk nm o b (hσ nm ▸ h1), h.lt, fun nm xs ho a hm n hn => by rw [hσ]; exact h.kn nm xs (hσ nm ▸ ho) a hm n hn, h.gp⟩,
  ⟨rfl, rfl, rfl, Nat.le_refl _, fun _ h => h, fun _ _ _ => rfl, fun b ⟨nm, o, ho, hf⟩ => .inl ⟨nm, o, hσ nm ▸ ho, hf⟩, fun _ h => .inl h⟩⟩
theorem eval_put_same (a : Act) (d : Nat) (v : Value) (h : d < a.tmps.size) : (a.put (some d) v).eval (.tmp d) = v := by
 simp [Act.put, Act.eval, h]
theorem eval_put_ne (a : Act) (d n : Nat) (v : Value) (h : n ≠ d) : (a.put (some d) v).eval (.tmp n) = a.eval (.tmp n) := by
 simp only [Act.put, Act.eval, Array.getD_eq_getD_getElem?, Array.getElem?_setIfInBounds]
 rw [if_neg (fun e => h e.symm)]
theorem SlOk.changeW {E : Tab} {σ σ' : St} {a : Act} {w w' : World} {c c' : Cor} (h : SlOk E σ a w c) (hok : Ok E σ w c) (hG : Grow σ c w σ' c' w') (hA : AgreeW σ c c') (hne : ∀ nm, σ (obk nm) ≠ .non -> σ' (obk nm) ≠ .non)
  (o : Oper) (v : Value) (hs : ∀ n, o.dst ≠ some n -> slot σ' n = slot σ n) (hd : ∀ d, o.dst = some d -> d < a.tmps.size /\ SVOk E w' c' (slot σ' d) v /\ KnownSV σ' (slot σ' d)) : SlOk E σ' (a.put o.dst v) w' c' := by
 have keep : ∀ n, SVOk E w' c' (slot σ n) (a.eval (.tmp n)) := fun n => (h.ok n).frameW (hG.Kheap hok) hG.K (fun m hm => hA m (.inl (h.kn n m hm)))
 have keepk : ∀ n, KnownSV σ' (slot σ n) := fun n m hm => hne m (h.kn n m hm)
 cases ho : o.dst with
 | none =>
  refine ⟨fun n => ?_, fun n => ?_, h.df⟩
  ·rw [hs n (by simp [ho])]; exact keep n
  ·rw [hs n (by simp [ho])]; exact keepk n
 | some d =>
  obtain ⟨h1, h2, h3⟩ := hd d ho
  refine ⟨fun n => ?_, fun n => ?_, h.df⟩
  ·by_cases hn : n = d
   ·subst hn; rw [eval_put_same a n v h1]; exact h2
   ·rw [eval_put_ne a d n v hn, hs n (by rw [ho]; simpa using fun e => hn e.symm)]; exact keep n
  ·by_cases hn : n = d
   ·subst hn; exact h3
   ·rw [hs n (by rw [ho]; simpa using fun e => hn e.symm)]; exact keepk n
theorem SlOk.change {E : Tab} {σ σ' : St} {a : Act} {w w' : World} {c c' : Cor} (h : SlOk E σ a w c) (hok : Ok E σ w c) (hG : Grow σ c w σ' c' w') (hA : Agree σ c c') (hne : ∀ nm, σ (obk nm) ≠ .non -> σ' (obk nm) ≠ .non)
  (o : Oper) (v : Value) (hs : ∀ n, o.dst ≠ some n -> slot σ' n = slot σ n) (hd : ∀ d, o.dst = some d -> d < a.tmps.size /\ SVOk E w' c' (slot σ' d) v /\ KnownSV σ' (slot σ' d)) : SlOk E σ' (a.put o.dst v) w' c' :=
 h.changeW hok hG hA.w hne o v hs hd
theorem slot_dw (σ : St) (o : Oper) (v : SV) : (∀ n, o.dst ≠ some n -> slot (wr σ (dw o v)) n = slot σ n) /\ (∀ d, o.dst = some d -> slot (wr σ (dw o v)) d = v) /\ ∀ nm, wr σ (dw o v) (obk nm) = σ (obk nm) := by
 cases ho : o.dst with
 | none => simp [dw, ho, wr]
 | some d =>
  refine ⟨fun n hn => ?_, fun d' hd => ?_, fun nm => ?_⟩
  ·simp only [dw, ho, wr]; rw [slot_upd_slk, if_neg (by rintro rfl; exact hn rfl)]
  ·cases hd; simp only [dw, ho, wr]; rw [slot_upd_slk, if_pos rfl]
  ·simp only [dw, ho, wr]; exact upd_obk_slk _ _ _ _
end Go.FG

namespace Go.FG
def zeroV : Ck -> Value
 | .i k => .int k 0 | .b => .bool false | .s => .string ⟨#[]⟩ | .l _ => .slice none 0 0 | .o => .nilIface
def valAV : AV -> Value
 | .i k n => .int k n | .b x => .bool x | .s x => .string x | _ => .nilIface
structure EnvOk (P : Program) (E : Tab) : Prop where
 info : ∀ t ti, E.ty t = some ti -> ∃ inf, P.info? t = some inf /\ inf.size = ti.ks.length /\ inf.bytes = ti.bytes /\ 0 < ti.ks.length /\
  (noO ti.ks = true -> ∃ z, inf.zero = some z /\ z.cells = (ti.ks.map zeroV).toArray /\ (ti.agg = true -> z = .agg (ti.ks.map zeroV).toArray))
 desc : ∀ t ti, E.ty t = some ti -> ∃ d, P.underlying t = some d /\
  (ti.agg = true -> ∃ fs, d = .struct fs /\ ∀ f o n, E.fo t f = some (o, n) -> ∃ fd, fs[f]? = some fd /\ fd.offset = o /\ (P.info? fd.type).map (·.size) = some n /\ n ≠ 0 /\ o + n <= ti.ks.length) /\
  (ti.agg = false -> (∃ k, ti.ks = [.i k] /\ d = .int k) \/ (ti.ks = [.b] /\ d = .bool) \/ (ti.ks = [.s] /\ d = .string) \/ (∃ e, ti.ks = [.l e] /\ d = .slice e) \/
   (ti.ks = [.o] /\ (match d with | .struct _ | .array _ _ => false | _ => true) = true))
 fo : ∀ t f o n, E.fo t f = some (o, n) -> ∃ ti, E.ty t = some ti /\ ti.agg = true
 pl : ∀ t ti, E.ty t = some ti -> ti.agg = true -> ∀ fs, P.underlying t = some (.struct fs) -> ∃ pl, fs.toList.mapM (fun f => (P.info? f.type).map fun i => (f.offset, i.size)) = some pl /\ ∀ f o n, E.fo t f = some (o, n) -> pl[f]? = some (o, n)
 eq : ∀ t ti, memB t E.eqs = true -> E.ty t = some ti -> ∀ (w : World) (x y : Operand) (xs ys : List AV) (r : Bool), eqC xs ys = some r -> xs.map kdAV = ti.ks -> ys.map kdAV = ti.ks ->
  (do eqGuard .eql t x y (.agg (xs.map valAV).toArray) (.agg (ys.map valAV).toArray); binOp .eql t (.agg (xs.map valAV).toArray) (.agg (ys.map valAV).toArray)).run P w = .ok (.bool r) w /\
  (do eqGuard .neq t x y (.agg (xs.map valAV).toArray) (.agg (ys.map valAV).toArray); binOp .neq t (.agg (xs.map valAV).toArray) (.agg (ys.map valAV).toArray)).run P w = .ok (.bool !r) w
 fl : ∀ t f, E.fls t f = true -> ∀ fs fd, P.underlying t = some (.struct fs) -> fs[f]? = some fd -> ∀ w, (Go.isAgg fd.type).run P w = .ok false w
theorem cells_one {v : Value} (h : v.oneCell' = true) : v.cells = #[v] := by cases v <;> simp_all [Value.cells, Value.oneCell']
theorem AVOk.one {E : Tab} {w : World} {c : Cor} {a : AV} {v : Value} (h : AVOk E w c a v) : v.oneCell' = true := by
 cases a with
 | i => cases h; rfl
 | b => cases h; rfl
 | s => cases h.1; rfl
 | nl => cases h; rfl
 | sh e xs => cases h <;> rfl
 | own n => cases h; unfold hdr; split <;> rfl
 | vw n lo hi =>
  obtain ⟨_, _, h1, h2⟩ := h
  by_cases hn : (c.P n).nil = true
  ·rw [h1 hn]; rfl
  ·rcases h2 (by simpa using hn) with ⟨_, h⟩ | ⟨_, o, _, h⟩ <;> rw [h] <;> rfl
 | bp n j => cases h; rfl
 | rp n i j => rw [h.2]; rfl
 | sp e xs i j => obtain ⟨_, _, _, _, _, _, _, h⟩ := h; rw [h]; rfl
 | inn n i j => rw [h.1.2]; unfold hdr; split <;> rfl
 | ip n i j i2 j2 => rw [h.1.2.2]; rfl
 | iv n i j lo hi =>
  obtain ⟨⟨_, _, _, h1, h2⟩, _⟩ := h
  by_cases hn : (c.G n i j).nil = true
  ·rw [h1 hn]; rfl
  ·rcases h2 (by simpa using hn) with ⟨_, h⟩ | ⟨_, o, _, h⟩ <;> rw [h] <;> rfl
 | fn f caps => obtain ⟨ps, h, _⟩ := h; rw [h]; rfl
 | fp cs j => obtain ⟨b, h, _⟩ := h; rw [h]; rfl
section
variable {P : Program} (w : World)
theorem Addr.add_ad (b o i : Nat) : (ad b o).add i = ad b (o + i) := by unfold Addr.add ad; split <;> simp_all
theorem run_store_blk (b o : Nat) : ∀ (vs : List Value) (i : Nat) (w : World) (cur : Array Value), Blk w b cur -> o + i + vs.length <= cur.size -> (∀ v ∈ vs, v.oneCell' = true) ->
  (storeCells (ad b o) vs i).run P w = .ok () (w.setRow b (cur.toList.take (o + i) ++ vs ++ cur.toList.drop (o + i + vs.length)).toArray) := by
 intro vs
 induction vs with
 | nil =>
  intro i w cur hb _ _
  obtain ⟨t, fr, hg, hf⟩ := hb
  simp only [storeCells, List.append_nil, List.length_nil, Nat.add_zero, List.take_append_drop, Array.toArray_toList]
  rw [setRow_self w b cur t fr hg]
  rfl
 | cons v rest ih =>
  intro i w cur hb hl h1
  have hi : o + i < cur.size := by simp at hl; omega
  have hfro := hb.free hi
  obtain ⟨t, fr, hg, hf⟩ := hb
  have hcell : w.cell? (ad b (o + i)) = some cur[o + i] := by simp [World.cell?, hg, hi]
  have hst : (store ((ad b o).add i) v).run P w = .ok () (w.setRow b (cur.setIfInBounds (o + i) v)) := by
   rw [Addr.add_ad, run_store P w _ v _ (h1 v (by simp)), hcell]
   simp [hfro, setCell_eq_setRow w b (o + i) cur t fr v hg]
  have hb' : Blk (w.setRow b (cur.setIfInBounds (o + i) v)) b (cur.setIfInBounds (o + i) v) := ⟨t, fr, setRow_heap w b cur _ t fr hg, by simpa using hf⟩
  have ih' := ih (i + 1) (w.setRow b (cur.setIfInBounds (o + i) v)) (cur.setIfInBounds (o + i) v) hb' (by simp at hl ⊢; omega) (fun x hx => h1 x (by simp [hx]))
  simp only [storeCells, Sem.run_bind, hst, Result.andThen_ok, ih', setRow_setRow]
  congr 3
  have e := list_seg_step cur.toList (o + i) v rest (by simp at hl ⊢; omega)
  simpa [Array.toList_setIfInBounds, Nat.add_assoc] using e
def putAt (cur : Array Value) (o : Nat) (vs : List Value) : Array Value := (cur.toList.take o ++ vs ++ cur.toList.drop (o + vs.length)).toArray
theorem size_putAt {cur : Array Value} {o : Nat} {vs : List Value} (h : o + vs.length <= cur.size) : (putAt cur o vs).size = cur.size := by
 simp [putAt]; omega
theorem putAt_get {cur : Array Value} {o : Nat} {vs : List Value} (h : o + vs.length <= cur.size) (k : Nat) :
  (putAt cur o vs)[k]? = if o <= k /\ k < o + vs.length then vs[k - o]? else cur[k]? := by
 simp only [putAt, List.getElem?_toArray]
 by_cases h1 : k < o
 ·rw [if_neg (by omega), List.append_assoc, List.getElem?_append_left (by simp; omega), List.getElem?_take, if_pos h1]; simp
 ·by_cases h2 : k < o + vs.length
  ·rw [if_pos ⟨by omega, h2⟩, List.append_assoc, List.getElem?_append_right (by simp; omega), List.getElem?_append_left (by simp; omega)]
   congr 1; simp; omega
  ·rw [if_neg (by omega), List.append_assoc, List.getElem?_append_right (by simp; omega), List.getElem?_append_right (by simp; omega), List.getElem?_drop]
   simp only [Array.getElem?_toList]
   congr 1; simp; omega
theorem run_store_put {b o : Nat} {vs : List Value} {cur : Array Value} (hb : Blk w b cur) (hl : o + vs.length <= cur.size) (h1 : ∀ v ∈ vs, v.oneCell' = true) :
  (storeCells (ad b o) vs).run P w = .ok () (w.setRow b (putAt cur o vs)) := by
 have := run_store_blk (P := P) b o vs 0 w cur hb (by simpa using hl) h1
 simpa [putAt] using this
theorem Blk.setRow {w : World} {b : Nat} {cur new : Array Value} (h : Blk w b cur) (hs : new.size = cur.size) : Blk (w.setRow b new) b new := by
 obtain ⟨t, fr, hg, hf⟩ := h
 exact ⟨t, fr, setRow_heap w b cur new t fr hg, by rw [hs]; exact hf⟩
theorem Blk.alloc (w : World) (cs : Array Value) (t : TypeId) : Blk (w.alloc (.cells cs t)) w.heap.size cs :=
 ⟨t, (0, 0), heap_alloc_new w _, fun o _ => by simp⟩
theorem run_loadCells_blk {b o : Nat} {cs : List Value} (h : ∀ j v, cs[j]? = some v -> w.cell? (ad b (o + j)) = some v) : (loadCells (ad b o) cs.length).run P w = .ok cs.toArray w :=
 run_loadCells_list w (ad b o) cs (fun j v hj => by rw [Addr.add_ad]; exact h j v hj)
theorem run_loadAt {E : Tab} (hE : EnvOk P E) {t : Nat} {ti : TI} (ht : E.ty t = some ti) {b o : Nat} {cs : List Value} (hl : cs.length = ti.ks.length) (h : ∀ j v, cs[j]? = some v -> w.cell? (ad b (o + j)) = some v) :
  (Instr.loadAt t (.pointer (some (ad b o)))).run P w = .ok (if ti.agg = true then .agg cs.toArray else cs.headD .nilIface) w := by
 obtain ⟨inf, hi, hsz, _, hpos, _⟩ := hE.info t ti ht
 obtain ⟨d, hd, ha, hn⟩ := hE.desc t ti ht
 cases hag : ti.agg with
 | true =>
  obtain ⟨fs, rfl, _⟩ := ha hag
  have hr := run_loadCells_blk (P := P) w (b := b) (o := o) h
  simp only [Instr.loadAt, Instr.sureAddr, loadVar, isAgg, Sem.run_bind, run_underlying hd, Sem.run_pure, Result.andThen_ok, if_true, sizeOf, typeInfo, program, Sem.run, hi, hsz, <- hl, hr]
 | false =>
  have hone : ∃ k, ti.ks = [k] := by rcases hn hag with ⟨k, h, _⟩ | ⟨h, _⟩ | ⟨h, _⟩ | ⟨e, h, _⟩ | ⟨h, _⟩ <;> exact ⟨_, h⟩
  obtain ⟨k, hk⟩ := hone
  rw [hk] at hl
  obtain ⟨v, rfl⟩ := List.length_eq_one_iff.1 hl
  have hc := h 0 v rfl
  simp only [Nat.add_zero] at hc
  have hnot : (match d with | .struct _ | .array _ _ => true | _ => false) = false := by
   rcases hn hag with ⟨k, _, rfl⟩ | ⟨_, rfl⟩ | ⟨_, rfl⟩ | ⟨e, _, rfl⟩ | ⟨_, h⟩
   ·rfl
   ·rfl
   ·rfl
   ·rfl
   ·cases d <;> simp_all
  have hagg : (isAgg t).run P w = .ok false w := by
   simp only [isAgg, Sem.run_bind, run_underlying hd, Result.andThen_ok]
   cases d <;> simp_all
  simp only [Instr.loadAt, Instr.sureAddr, loadVar, Sem.run_bind, Sem.run_pure, Result.andThen_ok, hagg, Bool.false_eq_true, if_false, run_load, hc, List.headD]
theorem run_storeAt {E : Tab} (hE : EnvOk P E) {t : Nat} {ti : TI} (ht : E.ty t = some ti) {b o : Nat} {v : Value} {cur : Array Value} (hl : v.cells.size = ti.ks.length) (hb : Blk w b cur) (hf : o + v.cells.size <= cur.size) (h1 : ∀ u ∈ v.cells.toList, u.oneCell' = true) :
  (Instr.storeAt t (.pointer (some (ad b o))) v).run P w = .ok () (w.setRow b (putAt cur o v.cells.toList)) := by
 obtain ⟨inf, hi, hsz, _⟩ := hE.info t ti ht
 have hr := run_store_put (P := P) w hb (o := o) (vs := v.cells.toList) (by simpa using hf) h1
 simp only [Instr.storeAt, Instr.sureAddr, storeVar, Sem.run_bind, Sem.run_pure, Result.andThen_ok, sizeOf, typeInfo, program, Sem.run, hi, hsz, hl, ne_eq, not_true_eq_false, if_false, hr]
theorem run_alloc {E : Tab} (hE : EnvOk P E) {t : Nat} {ti : TI} (ht : E.ty t = some ti) (ho : noO ti.ks = true) :
  (Instr.alloc t true (.tuple #[])).run P w = .ok (.pointer (some (ad w.heap.size 0))) (w.alloc (.cells (ti.ks.map zeroV).toArray t)) := by
 obtain ⟨inf, hi, hsz, _, _, hz⟩ := hE.info t ti ht
 obtain ⟨z, hz1, hz2, _⟩ := hz ho
 simp only [Instr.alloc, Sem.run_bind, zeroValue, typeInfo, program, Sem.run, hi, Result.andThen_ok, Sem.run_pure, hz1, newVar, newRow, newObj, hz2]
 rfl
theorem run_boxI (t : Nat) (v : Value) : (Instr.box t v).run P w = .ok (.pointer (some (ad w.heap.size 0))) (w.alloc (.cells v.cells t)) := by
 simp only [Instr.box, Sem.run_bind, newVar, newRow, newObj, Sem.run, Result.andThen_ok, Sem.run_pure]
 rfl
theorem run_fieldAt {E : Tab} (hE : EnvOk P E) {t f off n : Nat} (hf : E.fo t f = some (off, n)) (b o : Nat) :
  (Instr.fieldAt t (.pointer (some (ad b o))) f).run P w = .ok (.pointer (some (ad b (o + off)))) w := by
 obtain ⟨ti, ht, hag⟩ := hE.fo t f off n hf
 obtain ⟨d, hd, ha, _⟩ := hE.desc t ti ht
 obtain ⟨fs, rfl, hfs⟩ := ha hag
 obtain ⟨fd, h1, h2, h3, h4, _⟩ := hfs f off n hf
 cases hq : P.info? fd.type with
 | none => simp [hq] at h3
 | some inf =>
  have hs : inf.size = n := by simpa [hq] using h3
  have hne : ¬ inf.size = 0 := by omega
  simp only [Instr.fieldAt, Sem.run_bind, run_underlying hd, Result.andThen_ok, h1, Instr.sureAddr, Sem.run_pure, fieldPlace, sizeOf, typeInfo, program, Sem.run, hq, if_neg hne, Sem.run_ite, Addr.add_ad, h2]
theorem desc_slice {E : Tab} (hE : EnvOk P E) {t e : Nat} {ti : TI} (ht : E.ty t = some ti) (hag : ti.agg = false) (hk : ti.ks = [.l e]) : P.underlying t = some (.slice e) := by
 obtain ⟨d, hd, _, hn⟩ := hE.desc t ti ht
 rcases hn hag with ⟨k, h, _⟩ | ⟨h, _⟩ | ⟨h, _⟩ | ⟨e', h, rfl⟩ | ⟨h, _⟩ <;> rw [hk] at h <;> simp_all
theorem run_indexAt {E : Tab} (hE : EnvOk P E) {t e : Nat} {te : TI} (hu : P.underlying t = some (.slice e)) (he : E.ty e = some te) (b o n c : Nat) (k : IntKind) (i : Int) (h0 : 0 <= i) (h1 : i < n) :
  (Instr.indexAt t (.slice (some (ad b o)) n c) (.int k i)).run P w = .ok (.pointer (some (ad b (o + i.toNat * te.ks.length)))) w := by
 obtain ⟨inf, hi, hsz, _⟩ := hE.info e te he
 simp only [Instr.indexAt, asIntOf, Sem.run_bind, Sem.run_pure, Result.andThen_ok, run_underlying hu, h0, h1, and_self, if_true, sizeOf, typeInfo, program, Sem.run, hi, hsz, Addr.add_ad]
end
end Go.FG

namespace Go.FG
section
variable {P : Program} {E : Env} {σ : St} {a : Act} {w : World} {c : Cor}
theorem opd_ok (hsl : SlOk E σ a w c) {x : Operand} {v : SV} (h : (opd x).val σ = some v) : SVOk E w c v (a.eval x) /\ KnownSV σ v := by
 cases x with
 | tmp t =>
  simp only [opd, Rd.val_get] at h
  cases hc : σ (slk t) with
  | v x =>
   rw [hc] at h
   obtain rfl := Option.some.inj h
   have h1 := hsl.ok t; have h2 := hsl.kn t
   simp only [slot, hc] at h1 h2
   exact ⟨h1, h2⟩
  | o x => rw [hc] at h; simp at h; subst h; exact ⟨trivial, fun n hn => by simp [namesSV] at hn⟩
  | non => rw [hc] at h; simp at h; subst h; exact ⟨trivial, fun n hn => by simp [namesSV] at hn⟩
 | const v' =>
  obtain rfl := Option.some.inj h
  refine ⟨?_, ?_⟩
  ·show SVOk E w c (cst v') v'
   unfold cst
   split
   case h_3 x =>
    cases hd : Nat.ble x.size 4611686018427387904 with
    | true => exact ⟨rfl, Nat.le_of_ble_eq_true hd⟩
    | false => exact trivial
   all_goals first | trivial | rfl
  ·unfold cst
   intro n hn
   split at hn
   case h_3 x =>
    cases hd : Nat.ble x.size 4611686018427387904 with
    | true => simp [hd, namesSV, namesAV] at hn
    | false => simp [hd, namesSV] at hn
   all_goals simp [namesSV, namesAV] at hn
 | global g => simp [opd] at h
 | func f =>
  obtain rfl := Option.some.inj h
  exact ⟨⟨#[], rfl, rfl, fun q cs hq => by simp at hq⟩, fun n hn => by simp [namesSV, namesAV] at hn⟩
theorem opd1_ok (hsl : SlOk E σ a w c) {x : Operand} {v : AV} (h : (opd1 x).val σ = some v) : AVOk E w c v (a.eval x) /\ KnownAV σ v := by
 obtain ⟨s, h1, h2⟩ := Rd.bind_some h
 obtain ⟨h3, h4⟩ := opd_ok hsl h1
 split at h2
 ·obtain rfl := Option.some.inj h2
  exact ⟨h3, fun n hn => h4 n (by simpa [namesSV] using hn)⟩
 ·simp at h2
theorem opdI_ok (hsl : SlOk E σ a w c) {x : Operand} {k : IntKind} {n : Int} (h : (opdI x).val σ = some (k, n)) : a.eval x = .int k n := by
 obtain ⟨s, h1, h2⟩ := Rd.bind_some h
 obtain ⟨h3, _⟩ := opd1_ok hsl h1
 split at h2
 ·simp at h2; obtain ⟨rfl, rfl⟩ := h2; exact h3
 ·simp at h2
theorem getO_some {nm : Nat} {x : Obj} (h : (getO nm).val σ = some x) : σ (obk nm) = .o x := by
 simp only [getO, Rd.val_get] at h
 split at h
 ·rename_i y hy; simp at h; subst h; exact hy
 ·simp at h
theorem tyR_some {t : Nat} {ti : TI} (h : (tyR E t).val σ = some ti) : E.ty t = some ti := by
 unfold tyR at h; split at h
 ·simp at h; subst h; assumption
 ·simp at h
theorem fresh_some {nm : Nat} {u : Unit} (h : (fresh nm).val σ = some u) : σ (obk nm) = .non /\ nm < 900000000 := by
 simp only [fresh, Rd.val_get] at h
 split at h
 ·rename_i hy
  obtain ⟨h1, _⟩ := bif_fail h
  exact ⟨hy, by have := Nat.le_of_ble_eq_true h1; omega⟩
 ·simp at h
def Goal (P : Program) (E : Env) (σ : St) (a : Act) (w : World) (c : Cor) (o : Oper) (ws : List (Nat × Cel)) : Prop :=
 ∀ (K : Act -> World -> Prop) (Q : Exit -> Act -> World -> Prop),
  (∀ v w' c', Ok E (wr σ ws) w' c' -> SlOk E (wr σ ws) (a.put o.dst v) w' c' -> Grow σ c w (wr σ ws) c' w' -> AgreeW σ c c' -> K (a.put o.dst v) w') -> o.wp P a w K Q
theorem wp_value {o : Oper} {v : Value} {w' : World} {K : Act -> World -> Prop} {Q : Exit -> Act -> World -> Prop} (hr : (execOp a.eval o).run P w = .ok (.value v) w') (hK : K (a.put o.dst v) w') : o.wp P a w K Q := by
 unfold Oper.wp; rw [hr]; exact hK
theorem wp_skipped {o : Oper} {w' : World} {K : Act -> World -> Prop} {Q : Exit -> Act -> World -> Prop} (hr : (execOp a.eval o).run P w = .ok .skip w') (hK : K (a.put o.dst undef) w') : o.wp P a w K Q := by
 unfold Oper.wp; rw [hr]; exact hK
theorem Agree.refl (σ : St) (c : Cor) : Agree σ c c := fun _ _ => ⟨rfl, rfl⟩
theorem goal_val (hok : Ok E σ w c) (hsl : SlOk E σ a w c) {o : Oper} (hd : ∀ d, o.dst = some d -> d < a.tmps.size) {s : SV} {v : Value}
  (hs : SVOk E w c s v) (hk : KnownSV σ s) (hr : (execOp a.eval o).run P w = .ok (.value v) w) : Goal P E σ a w c o (dw o s) := by
 intro K Q hK
 obtain ⟨s1, s2, s3⟩ := slot_dw σ o s
 obtain ⟨h1, h2⟩ := hok.slot s3
 refine wp_value hr (hK v w c h1 ?_ h2 (Agree.refl _ _).w)
 refine hsl.change hok h2 (Agree.refl _ _) (fun nm hn => by rw [s3]; exact hn) o v s1 (fun d ho => ⟨hd d ho, ?_, ?_⟩)
 ·rw [s2 d ho]; exact hs
 ·rw [s2 d ho]; intro n hn; rw [s3]; exact hk n hn
theorem goal_new (hok : Ok E σ w c) (hsl : SlOk E σ a w c) {o : Oper} (hd : ∀ d, o.dst = some d -> d < a.tmps.size) {nm : Nat} {ob : Obj} {s : SV} {v : Value} {w' : World} {p : Pl} {g : Nat -> Nat -> Pl}
  (hn : σ (obk nm) = .non) (hlt : nm < 900000000)
  (hob : ∀ c' : Cor, c'.P nm = p -> c'.G nm = g -> (∀ b, c.K b -> c'.K b) -> Agree σ c c' -> ObjOk E w' c' nm ob)
  (hft : ∀ c' : Cor, c'.P nm = p -> c'.G nm = g -> ∀ b, foot c' nm ob b -> w.heap.size <= b)
  (hkn : ∀ xs, ob = .box xs -> ∀ a ∈ xs, KnownAV σ a)
  (hsv : ∀ c' : Cor, c'.P nm = p -> c'.G nm = g -> SVOk E w' c' s v) (hks : ∀ n ∈ namesSV s, n = nm \/ σ (obk n) ≠ .non)
  (hW : ∀ b, b < w.heap.size -> w'.heap[b]? = w.heap[b]?) (hsz : w.heap.size <= w'.heap.size) (hos : w'.os = w.os) (htp : w'.tape = w.tape) (hou : w'.output = w.output)
  (hr : (execOp a.eval o).run P w = .ok (.value v) w') : Goal P E σ a w c o ((obk nm, .o ob) :: dw o s) := by
 intro K Q hK
 let c' : Cor := ⟨fun n => if n = nm then p else c.P n, fun n => if n = nm then g else c.G n, c.K⟩
 have hP : c'.P nm = p := if_pos rfl
 have hG : c'.G nm = g := if_pos rfl
 have hA : Agree σ c c' := fun m hm => by
  have : m ≠ nm := by rintro rfl; rcases hm with h | h; exact h hn; omega
  exact ⟨if_neg this, if_neg this⟩
 let σ1 := upd σ (obk nm) (.o ob)
 obtain ⟨s1, s2, s3⟩ := slot_dw σ1 o s
 have key : ∀ m, wr σ1 (dw o s) (obk m) = if m = nm then .o ob else σ (obk m) := fun m => by rw [s3]; exact upd_obk _ _ _ _
 have hne : ∀ m, σ (obk m) ≠ .non -> wr σ1 (dw o s) (obk m) ≠ .non := fun m hm => by rw [key]; split <;> simp_all
 have hh := hok.change (σ' := wr σ1 (dw o s)) (w' := w') (c' := c') (fun m => m = nm) (fun m hm => by rw [key, if_neg hm]) hne hA
  (fun b hb _ => hW b hb) hsz (fun _ h => h) (fun _ h => .inl h) (fun b hb => Nat.lt_of_lt_of_le (hok.lt b hb) hsz)
  (fun m x hm ho => by subst hm; rw [key, if_pos rfl] at ho; cases ho; exact hob c' hP hG (fun _ h => h) hA)
  (fun m x b hm ho hf => by
   subst hm; rw [key, if_pos rfl] at ho; cases ho
   have := hft c' hP hG b hf
   exact ⟨.inr this, fun hk => by have := hok.lt b hk; omega⟩)
  (fun m x m' x' b hm hm' _ _ _ _ => by rw [hm, hm'])
  (fun m xs hm ho y hy n hn' => by subst hm; rw [key, if_pos rfl] at ho; cases ho; exact hne n (hkn xs rfl y hy n hn')) hos htp hou
 refine wp_value hr (hK v w' c' hh.1 ?_ hh.2 hA.w)
 refine hsl.change hok hh.2 hA hne o v (fun n hn' => by rw [s1 n hn']; exact slot_upd_obk _ _ _ _) (fun d ho => ⟨hd d ho, ?_, ?_⟩)
 ·show SVOk E w' c' (slot (wr σ1 (dw o s)) d) v
  rw [s2 d ho]; exact hsv c' hP hG
 ·show KnownSV (wr σ1 (dw o s)) (slot (wr σ1 (dw o s)) d)
  rw [s2 d ho]; intro n hn'; rw [key]; split
  ·simp
  ·rename_i h; exact (hks n hn').resolve_left h
theorem goal_put (hok : Ok E σ w c) (hsl : SlOk E σ a w c) {o : Oper} (hd : ∀ d, o.dst = some d -> d < a.tmps.size) {nm : Nat} {ob ob' : Obj} {s : SV} {v : Value} {w' : World}
  (hn : σ (obk nm) = .o ob) (hob : ObjOk E w' c nm ob') (hft : ∀ b, foot c nm ob' b -> foot c nm ob b)
  (hkn : ∀ xs, ob' = .box xs -> ∀ a ∈ xs, KnownAV σ a)
  (hsv : SVOk E w' c s v) (hks : KnownSV σ s)
  (hW : ∀ b, b < w.heap.size -> ¬ foot c nm ob b -> w'.heap[b]? = w.heap[b]?) (hsz : w.heap.size <= w'.heap.size) (hos : w'.os = w.os) (htp : w'.tape = w.tape) (hou : w'.output = w.output)
  (hr : (execOp a.eval o).run P w = .ok (.value v) w' \/ ((execOp a.eval o).run P w = .ok .skip w' /\ v = undef)) : Goal P E σ a w c o ([(obk nm, .o ob')] ++ dw o s) := by
 intro K Q hK
 let σ1 := upd σ (obk nm) (.o ob')
 obtain ⟨s1, s2, s3⟩ := slot_dw σ1 o s
 have key : ∀ m, wr σ1 (dw o s) (obk m) = if m = nm then .o ob' else σ (obk m) := fun m => by rw [s3]; exact upd_obk _ _ _ _
 have hne : ∀ m, σ (obk m) ≠ .non -> wr σ1 (dw o s) (obk m) ≠ .non := fun m hm => by rw [key]; split <;> simp_all
 have hin : ∀ b, foot c nm ob b -> OwnIn (fun m => m = nm) σ c b := fun b hb => ⟨nm, ob, rfl, hn, hb⟩
 have hh := hok.change (σ' := wr σ1 (dw o s)) (w' := w') (c' := c) (fun m => m = nm) (fun m hm => by rw [key, if_neg hm]) hne (Agree.refl _ _)
  (fun b hb hni => hW b hb (fun hf => hni (hin b hf))) hsz (fun _ h => h) (fun _ h => .inl h) (fun b hb => Nat.lt_of_lt_of_le (hok.lt b hb) hsz)
  (fun m x hm ho => by subst hm; rw [key, if_pos rfl] at ho; cases ho; exact hob)
  (fun m x b hm ho hf => by
   subst hm; rw [key, if_pos rfl] at ho; cases ho
   exact ⟨.inl (hin b (hft b hf)), hok.kk _ _ b hn (hft b hf)⟩)
  (fun m x m' x' b hm hm' _ _ _ _ => by rw [hm, hm'])
  (fun m xs hm ho y hy n hn' => by subst hm; rw [key, if_pos rfl] at ho; cases ho; exact hne n (hkn xs rfl y hy n hn')) hos htp hou
 have hsl' : SlOk E (wr σ1 (dw o s)) (a.put o.dst v) w' c := by
  refine hsl.change hok hh.2 (Agree.refl _ _) hne o v (fun n hn' => by rw [s1 n hn']; exact slot_upd_obk _ _ _ _) (fun d ho => ⟨hd d ho, ?_, ?_⟩)
  ·rw [s2 d ho]; exact hsv
  ·rw [s2 d ho]; intro n hn'; rw [key]; split
   ·simp
   ·exact hks n hn'
 rcases hr with hr | ⟨hr, rfl⟩
 ·exact wp_value hr (hK v w' c hh.1 hsl' hh.2 (Agree.refl _ _).w)
 ·exact wp_skipped hr (hK undef w' c hh.1 hsl' hh.2 (Agree.refl _ _).w)
end
end Go.FG

namespace Go.FG
theorem ckB_eq : ∀ {x y : Ck}, ckB x y = true -> x = y := by
 intro x y h
 cases x <;> cases y <;> simp [ckB] at h <;> first | rfl | (subst h; rfl) | (have := Nat.eq_of_beq_eq_true h; subst this; rfl)
theorem cksB_eq : ∀ {a b : List Ck}, cksB a b = true -> a = b
 | [], [], _ => rfl
 | [], _ :: _, h => by simp [cksB] at h
 | _ :: _, [], h => by simp [cksB] at h
 | x :: l, y :: r, h => by
  simp only [cksB, Bool.and_eq_true] at h
  rw [ckB_eq h.1, cksB_eq h.2]
structure Lies (E : Env) (w : World) (K : Nat -> Prop) (b o n c e : Nat) (xs : Row) (ti : TI) (U : Nat -> Nat -> Value) : Prop where
 nn : n = xs.length
 ty : E.ty e = some ti
 cap : xs.length <= c
 mx : c <= maxLen
 kb : K b
 sh : ∀ y ∈ xs, y.map CV.kd = ti.ks
 cell : ∀ i j y x, xs[i]? = some y -> y[j]? = some x -> w.cell? (ad b (o + i * ti.ks.length + j)) = some (U i j)
 inn : ∀ i j y x, xs[i]? = some y -> y[j]? = some x -> Holds E w K (U i j) x
theorem Holds.lies {E : Env} {w : World} {K : Nat -> Prop} {b o n c e : Nat} {xs : Row} (h : Holds E w K (.slice (some (ad b o)) n c) (.l e xs)) (hn : 0 < xs.length) : ∃ ti U, Lies E w K b o n c e xs ti U := by
 generalize hv : Value.slice (some (ad b o)) n c = v at h
 generalize hx : CV.l e xs = x at h
 cases h with
 | i => cases hx
 | b => cases hx
 | s => cases hx
 | nl => cases hx; simp at hn
 | l e xs b o c ti U ht hc hm hK hs hcell hin =>
  cases hx; cases hv
  exact ⟨ti, U, rfl, ht, hc, hm, hK, hs, hcell, hin⟩
theorem dec_ok {E : Env} {w : World} {c : Cor} {u : Value} {x : CV} (h : Holds E w c.K u x) : AVOk E w c (dec x.kd x) u := by
 cases x with
 | i k n => cases h; rfl
 | b => cases h; rfl
 | s => cases h with | s _ ho => exact ⟨rfl, ho⟩
 | l e xs => exact h
theorem ofCV_ok {E : Env} {w : World} {c : Cor} {u : Value} {x : CV} (h : Holds E w c.K u x) : AVOk E w c (ofCV x) u := by
 cases x with
 | i k n => cases h; rfl
 | b => cases h; rfl
 | s => cases h with | s _ ho => exact ⟨rfl, ho⟩
 | l e xs => exact h
theorem dec_scal {E : Env} {w : World} {c : Cor} {u : Value} {x : CV} (hl : isL x = false) (h : Sc u x) : AVOk E w c (dec x.kd x) u := by
 cases x with
 | i => exact h.1
 | b => exact h.1
 | s => exact h
 | l => simp [isL] at hl
theorem names_dec (k : Ck) (x : CV) : namesAV (dec k x) = [] := by cases k <;> rfl
theorem names_ofCV (x : CV) : namesAV (ofCV x) = [] := by cases x <;> rfl
theorem decs_get (xs : Row) (i : Nat) : ∀ (ks : List Ck) (j q : Nat), (decs xs i j ks)[q]? = (ks[q]?).map fun k => dec k (cellAt xs i (j + q)) := by
 intro ks
 induction ks with
 | nil => intro j q; simp [decs]
 | cons k ks ih =>
  intro j q
  cases q with
  | zero => simp [decs]
  | succ q => simp only [decs, List.getElem?_cons_succ, ih]; congr 2; funext k; congr 2; omega
theorem decO_get (nm : Nat) (xs : Row) (i : Nat) : ∀ (ks : List Ck) (j q : Nat), (decO nm xs i j ks)[q]? = (ks[q]?).map fun k => match k with | .l _ => AV.inn nm i (j + q) | k => dec k (cellAt xs i (j + q)) := by
 intro ks
 induction ks with
 | nil => intro j q; simp [decO]
 | cons k ks ih =>
  intro j q
  cases q with
  | zero => cases k <;> simp [decO]
  | succ q =>
   have e : j + 1 + q = j + (q + 1) := by omega
   cases k <;> simp only [decO, List.getElem?_cons_succ, ih, e]
theorem cellAt_some {xs : Row} {i j : Nat} {y : List CV} {x : CV} (hi : xs[i]? = some y) (hj : y[j]? = some x) : cellAt xs i j = x := by
 simp [cellAt, List.getD, hi, hj]
theorem length_decs (xs : Row) (i : Nat) : ∀ (ks : List Ck) (j : Nat), (decs xs i j ks).length = ks.length := by
 intro ks; induction ks with
 | nil => intro j; rfl
 | cons k ks ih => intro j; simp [decs, ih]
theorem length_decO (nm : Nat) (xs : Row) (i : Nat) : ∀ (ks : List Ck) (j : Nat), (decO nm xs i j ks).length = ks.length := by
 intro ks; induction ks with
 | nil => intro j; rfl
 | cons k ks ih => intro j; cases k <;> simp [decO, ih]
theorem seg_cells {ks ks2 : List Ck} {j : Nat} {y : List CV} (hy : y.map CV.kd = ks) (h : (ks.drop j).take ks2.length = ks2) {q : Nat} (hq : q < ks2.length) : ∃ x, y[j + q]? = some x /\ ks2[q]? = some x.kd := by
 have h1 : ks2[q]? = ks[j + q]? := by
  rw [<- h, List.getElem?_take, if_pos hq, List.getElem?_drop]
 rw [<- hy, List.getElem?_map] at h1
 cases hx : y[j + q]? with
 | none => rw [hx] at h1; simp at h1; omega
 | some x => exact ⟨x, rfl, by rw [h1, hx]; rfl⟩
section
variable {P : Program} {E : Env} {σ : St} {a : Act} {w : World} {c : Cor}
theorem row_inner {p : Pl} {G : Nat -> Nat -> Pl} {xs : Row} {ks : List Ck} {i j e2 : Nat} (hat : RowAt w p xs (fun i j u x => if true = true then XC E w G i j u x else Holds E w c.K u x)) (hsh : ∀ y ∈ xs, y.map CV.kd = ks) (hi : i < p.n) (hk : ks[j]? = some (.l e2)) :
  ∃ ys y, xs[i]? = some y /\ y[j]? = some (.l e2 ys) /\ ∃ u, XC E w G i j u (.l e2 ys) := by
 have hi' : i < xs.length := by rw [<- hat.n]; exact hi
 have hy : xs[i]? = some xs[i] := by simp [hi']
 have h1 := hsh xs[i] (List.getElem_mem hi')
 rw [<- h1, List.getElem?_map] at hk
 cases hx : xs[i][j]? with
 | none => rw [hx] at hk; cases hk
 | some x =>
  rw [hx] at hk
  cases x with
  | l e ys =>
   cases hk
   have hnil : p.nil = false := by
    cases hn : p.nil with
    | false => rfl
    | true => have := (hat.nil hn).1; subst this; simp at hi'
   obtain ⟨vals, _, _, _, _, hcl⟩ := hat.mem hnil
   obtain ⟨u, _, hr⟩ := hcl i _ j _ hy hx
   rw [if_pos rfl] at hr
   exact ⟨ys, _, hy, hx, u, hr⟩
  | i => cases hk
  | b => cases hk
  | s => cases hk
theorem plain_kd {ks : List Ck} (h : plain ks = true) {y : List CV} (hy : y.map CV.kd = ks) {j : Nat} {x : CV} (hx : y[j]? = some x) : isL x = false := by
 have h1 : x.kd ∈ ks := by rw [<- hy]; exact List.mem_map.2 ⟨x, List.mem_of_getElem? hx, rfl⟩
 have h2 := List.all_eq_true.1 h _ h1
 cases x <;> simp_all [CV.kd, isL]
structure Loaded (E : Env) (σ : St) (w : World) (c : Cor) (ti : TI) (v : Value) (xs : List AV) : Prop where
 ex : ∃ (b o : Nat) (cs : List Value), v = .pointer (some (ad b o)) /\ cs.length = ti.ks.length /\ (∀ (j : Nat) (u : Value), cs[j]? = some u -> w.cell? (ad b (o + j)) = some u) /\
  xs.length = ti.ks.length /\ (∀ (j : Nat) (x : AV), xs[j]? = some x -> ∃ u : Value, cs[j]? = some u /\ AVOk E w c x u)
 kn : ∀ x ∈ xs, KnownAV σ x
theorem loaded_of {ti : TI} {b o : Nat} {xs : List AV} (hl : xs.length = ti.ks.length) (h : ∀ (j : Nat) (x : AV), xs[j]? = some x -> ∃ u : Value, w.cell? (ad b (o + j)) = some u /\ AVOk E w c x u) (hk : ∀ x ∈ xs, KnownAV σ x) :
  Loaded E σ w c ti (.pointer (some (ad b o))) xs := by
 refine ⟨⟨b, o, (List.range xs.length).map (fun j => (w.cell? (ad b (o + j))).getD undef), rfl, by simp [hl], ?_, hl, ?_⟩, hk⟩
 ·intro j u hu
  simp only [List.getElem?_map] at hu
  by_cases hj : j < xs.length
  ·obtain ⟨u', hu', _⟩ := h j xs[j] (by simp [hj])
   simp only [hj, List.getElem?_range, Option.map_some, hu', Option.getD_some, Option.some.injEq] at hu
   rw [hu', hu]
  ·simp [List.getElem?_eq_none (l := List.range xs.length) (by simpa using hj)] at hu
 ·intro j x hx
  obtain ⟨u, hu, hv⟩ := h j x hx
  refine ⟨u, ?_, hv⟩
  have hj : j < xs.length := (List.getElem?_eq_some_iff.1 hx).1
  simp [hj, hu]
theorem loadR_ok (hok : Ok E σ w c) {ti : TI} {p : AV} {v : Value} {xs : List AV} (hp : AVOk E w c p v) (h : (loadR E ti p).val σ = some xs) : Loaded E σ w c ti v xs := by
 have nok : ∀ (n : Nat) (k : Ck) (x : CV), n ∈ namesAV (dec k x) -> σ (obk n) ≠ .non := fun n k x hn => by rw [names_dec] at hn; simp at hn
 cases p with
 | bp nm j =>
  obtain ⟨o, ho, h2⟩ := Rd.bind_some h
  have hob := hok.obj nm o (getO_some ho)
  obtain rfl : v = _ := hp
  cases o with
  | box ys =>
   obtain ⟨hle, h3⟩ := bif_fail h2
   have hle := Nat.le_of_ble_eq_true hle
   obtain rfl := Option.some.inj h3
   obtain ⟨vals, hb, hs, hc⟩ := hob
   refine loaded_of (by simp; omega) (fun q x hx => ?_) (fun x hx => hok.kn nm ys (getO_some ho) x (List.mem_of_mem_drop (List.mem_of_mem_take hx)))
   rw [List.getElem?_take] at hx
   split at hx
   ·rw [List.getElem?_drop] at hx
    obtain ⟨u, hu, hv⟩ := hc (j + q) x hx
    exact ⟨u, (hb.cell (j + q)).trans hu, hv⟩
   ·cases hx
  | fbox cs =>
   obtain ⟨hle, h3⟩ := bif_fail h2
   have hle := Nat.le_of_ble_eq_true hle
   obtain rfl := Option.some.inj h3
   refine loaded_of (by simp; omega) (fun q x hx => ?_) (fun x hx => ?_)
   ·rw [List.getElem?_map, List.getElem?_take] at hx
    split at hx
    ·rw [List.getElem?_drop] at hx
     cases hy : cs[j + q]? with
     | none => rw [hy] at hx; cases hx
     | some y =>
      rw [hy] at hx; cases hx
      obtain ⟨u, hu, hv⟩ := hob.2 (j + q) y hy
      exact ⟨u, hu, ofCV_ok hv⟩
    ·cases hx
   ·obtain ⟨y, _, rfl⟩ := List.mem_map.1 hx
    intro n hn; rw [names_ofCV] at hn; simp at hn
  | row => simp at h2
  | frow => simp at h2
  | dead => simp at h2
 | fp cs j =>
  obtain ⟨hle, h3⟩ := bif_fail h
  have hle := Nat.le_of_ble_eq_true hle
  obtain rfl := Option.some.inj h3
  obtain ⟨b, rfl, hb⟩ := hp
  refine loaded_of (by simp; omega) (fun q x hx => ?_) (fun x hx => ?_)
  ·rw [List.getElem?_map, List.getElem?_take] at hx
   split at hx
   ·rw [List.getElem?_drop] at hx
    cases hy : cs[j + q]? with
    | none => rw [hy] at hx; cases hx
    | some y =>
     rw [hy] at hx; cases hx
     obtain ⟨u, hu, hv⟩ := hb.2 (j + q) y hy
     exact ⟨u, hu, ofCV_ok hv⟩
   ·cases hx
  ·obtain ⟨y, _, rfl⟩ := List.mem_map.1 hx
   intro n hn; rw [names_ofCV] at hn; simp at hn
 | sp e ys i j =>
  obtain ⟨te, ht, h2⟩ := Rd.bind_some h
  have ht := tyR_some ht
  obtain ⟨hk, h3⟩ := bif_fail h2
  have hk := cksB_eq hk
  obtain rfl := Option.some.inj h3
  obtain ⟨b, o, cp, ti2, hh, hi, ht2, rfl⟩ := hp
  obtain rfl : te = ti2 := Option.some.inj (ht.symm.trans ht2)
  refine loaded_of (length_decs _ _ _ _) (fun q x hx => ?_) (fun x hx => ?_)
  ·rw [decs_get] at hx
   obtain ⟨ti3, U, hL⟩ := hh.lies (by omega)
   obtain rfl : te = ti3 := Option.some.inj (ht.symm.trans hL.ty)
   have hq : q < ti.ks.length := by
    cases hq : ti.ks[q]? with
    | none => rw [hq] at hx; cases hx
    | some k => exact (List.getElem?_eq_some_iff.1 hq).1
   have hy : ys[i]? = some ys[i] := by simp [hi]
   obtain ⟨z, hz, hkq⟩ := seg_cells (hL.sh ys[i] (List.getElem_mem hi)) hk hq
   rw [hkq] at hx; cases hx
   rw [cellAt_some hy hz]
   exact ⟨U i (j + q), by have := hL.cell i (j + q) _ z hy hz; rwa [show o + i * te.ks.length + j + q = o + i * te.ks.length + (j + q) by omega], dec_ok (hL.inn i (j + q) _ z hy hz)⟩
  ·obtain ⟨q, hq⟩ := List.getElem?_of_mem hx
   rw [decs_get] at hq
   cases hkq : ti.ks[q]? with
   | none => rw [hkq] at hq; cases hq
   | some k => rw [hkq] at hq; cases hq; intro n hn; exact nok n _ _ hn
 | rp nm i j =>
  obtain ⟨o, ho, h2⟩ := Rd.bind_some h
  have ho := getO_some ho
  have hob := hok.obj nm o ho
  obtain ⟨hi, rfl⟩ := hp
  cases o with
  | row e ex ys =>
   obtain ⟨te, ht, h2⟩ := Rd.bind_some h2
   have ht := tyR_some ht
   obtain ⟨hk, h3⟩ := bif_fail h2
   have hk := cksB_eq hk
   have h3 : (ex = true /\ plain ti.ks = true /\ xs = decs ys i j ti.ks) \/ ((ex = false \/ isF nm = false) /\ xs = bif ex then decO nm ys i j ti.ks else decs ys i j ti.ks) := by
    cases hF : (ex && isF nm) with
    | true =>
     rw [hF, cond_true] at h3
     obtain ⟨hpl, h3⟩ := bif_fail h3
     rw [Bool.and_eq_true] at hF
     exact .inl ⟨hF.1, hpl, (Option.some.inj h3).symm⟩
    | false =>
     rw [hF, cond_false] at h3
     refine .inr ⟨?_, (Option.some.inj h3).symm⟩
     cases ex with
     | false => exact .inl rfl
     | true => exact .inr (by simpa using hF)
   obtain ⟨⟨ti2, ht2, hsz, hsh⟩, hat, _⟩ := hob
   obtain rfl : te = ti2 := Option.some.inj (ht.symm.trans ht2)
   have hnil : (c.P nm).nil = false := by
    cases hn : (c.P nm).nil with
    | false => rfl
    | true => have := (hat.nil hn).1; subst this; rw [hat.n] at hi; simp at hi
   obtain ⟨vals, hb, hnc, _, hfit, hcl⟩ := hat.mem hnil
   have hi' : i < ys.length := by rw [<- hat.n]; exact hi
   have hy : ys[i]? = some ys[i] := by simp [hi']
   rcases h3 with ⟨rfl, hpl, rfl⟩ | h3
   ·refine loaded_of (length_decs _ _ _ _) (fun q x hx => ?_) (fun x hx => ?_)
    ·have hq : q < ti.ks.length := by
      have := (List.getElem?_eq_some_iff.1 hx).1
      simpa [length_decs] using this
     obtain ⟨z, hz, hkq⟩ := seg_cells (hsh ys[i] (List.getElem_mem hi')) hk hq
     obtain ⟨u, hu, hr⟩ := hcl i _ (j + q) z hy hz
     rw [if_pos rfl] at hr
     rw [decs_get, hkq] at hx; cases hx
     refine ⟨u, ?_, ?_⟩
     ·rw [hb.cell]; rw [<- hu]; congr 1; omega
     ·have hzk := List.all_eq_true.1 hpl z.kd (List.mem_of_getElem? hkq)
      show AVOk E w c (dec z.kd (cellAt ys i (j + q))) u
      rw [cellAt_some hy hz]
      cases z with
      | l e2 zs => cases hzk
      | i k n => exact dec_scal rfl hr
      | b t => exact dec_scal rfl hr
      | s t => exact dec_scal rfl hr
    ·obtain ⟨q, hq⟩ := List.getElem?_of_mem hx
     intro n hn
     rw [decs_get] at hq
     cases hkq : ti.ks[q]? with
     | none => rw [hkq] at hq; cases hq
     | some k => rw [hkq] at hq; cases hq; exact nok n _ _ hn
   obtain ⟨hFn, rfl⟩ := h3
   refine loaded_of (by cases ex <;> simp [length_decs, length_decO]) (fun q x hx => ?_) (fun x hx => ?_)
   ·have hq : q < ti.ks.length := by
     have := (List.getElem?_eq_some_iff.1 hx).1
     cases ex <;> simpa [length_decs, length_decO] using this
    obtain ⟨z, hz, hkq⟩ := seg_cells (hsh ys[i] (List.getElem_mem hi')) hk hq
    obtain ⟨u, hu, hr⟩ := hcl i _ (j + q) z hy hz
    refine ⟨u, ?_, ?_⟩
    ·rw [hb.cell]; rw [<- hu]; congr 1; omega
    ·cases ex with
     | false =>
      rw [if_neg (by simp)] at hr
      have hx : (decs ys i j ti.ks)[q]? = some x := hx
      rw [decs_get, hkq] at hx; cases hx
      rw [cellAt_some hy hz]; exact dec_ok hr
     | true =>
      rw [if_pos rfl] at hr
      have hx : (decO nm ys i j ti.ks)[q]? = some x := hx
      rw [decO_get, hkq] at hx
      cases z with
      | l e2 zs => cases hx; exact ⟨⟨hi, hr.1⟩, hFn.resolve_left (by simp)⟩
      | i k n => cases hx; rw [cellAt_some hy hz]; exact dec_scal rfl hr
      | b t => cases hx; rw [cellAt_some hy hz]; exact dec_scal rfl hr
      | s t => cases hx; rw [cellAt_some hy hz]; exact dec_scal rfl hr
   ·obtain ⟨q, hq⟩ := List.getElem?_of_mem hx
    intro n hn
    cases ex with
    | false =>
     have hq : (decs ys i j ti.ks)[q]? = some x := hq
     rw [decs_get] at hq
     cases hkq : ti.ks[q]? with
     | none => rw [hkq] at hq; cases hq
     | some k => rw [hkq] at hq; cases hq; exact nok n _ _ hn
    | true =>
     have hq : (decO nm ys i j ti.ks)[q]? = some x := hq
     rw [decO_get] at hq
     cases hkq : ti.ks[q]? with
     | none => rw [hkq] at hq; cases hq
     | some k =>
      rw [hkq] at hq
      cases k with
      | l e2 => cases hq; simp [namesAV] at hn; subst hn; rw [ho]; simp
      | i => cases hq; exact nok n _ _ hn
      | b => cases hq; exact nok n _ _ hn
      | s => cases hq; exact nok n _ _ hn
      | o => cases hq; exact nok n _ _ hn
  | frow e ys =>
   obtain ⟨te, ht, h2⟩ := Rd.bind_some h2
   have ht := tyR_some ht
   obtain ⟨hk, h3⟩ := bif_fail h2
   have hk := cksB_eq hk
   obtain rfl := Option.some.inj h3
   obtain ⟨hh, hn, ti2, ht2, hsz⟩ := hob
   obtain rfl : te = ti2 := Option.some.inj (ht.symm.trans ht2)
   have hi' : i < ys.length := by rw [<- hn]; exact hi
   have hy : ys[i]? = some ys[i] := by simp [hi']
   have hnil : (c.P nm).nil = false := by
    cases hq : (c.P nm).nil with
    | false => rfl
    | true => unfold hdr at hh; rw [if_pos hq] at hh; cases hh; simp at hi'
   unfold hdr at hh; rw [if_neg (by simp [hnil]), hn] at hh
   refine loaded_of (length_decs _ _ _ _) (fun q x hx => ?_) (fun x hx => ?_)
   ·rw [decs_get] at hx
    obtain ⟨ti3, U, hL⟩ := hh.lies (by omega)
    obtain rfl : te = ti3 := Option.some.inj (ht.symm.trans hL.ty)
    have hq : q < ti.ks.length := by
     cases hq : ti.ks[q]? with
     | none => rw [hq] at hx; cases hx
     | some k => exact (List.getElem?_eq_some_iff.1 hq).1
    obtain ⟨z, hz, hkq⟩ := seg_cells (hL.sh ys[i] (List.getElem_mem hi')) hk hq
    rw [hkq] at hx; cases hx
    rw [cellAt_some hy hz]
    exact ⟨U i (j + q), by have := hL.cell i (j + q) _ z hy hz; rw [<- this]; congr 2; rw [hsz]; omega, dec_ok (hL.inn i (j + q) _ z hy hz)⟩
   ·obtain ⟨q, hq⟩ := List.getElem?_of_mem hx
    rw [decs_get] at hq
    cases hkq : ti.ks[q]? with
    | none => rw [hkq] at hq; cases hq
    | some k => rw [hkq] at hq; cases hq; intro n hn; exact nok n _ _ hn
  | box => simp at h2
  | fbox => simp at h2
  | dead => simp at h2
 | ip nm i j i2 j2 =>
  obtain ⟨o, ho, h2⟩ := Rd.bind_some h
  have ho := getO_some ho
  have hob := hok.obj nm o ho
  obtain ⟨⟨hi1, hi, rfl⟩, hFp⟩ := hp
  cases o with
  | row e ex ys =>
   cases ex with
   | false => simp at h2
   | true =>
    obtain ⟨te, ht, h2⟩ := Rd.bind_some h2
    have ht := tyR_some ht
    split at h2
    ·rename_i e2 hk2
     obtain ⟨t2, ht2, h2⟩ := Rd.bind_some h2
     have ht2 := tyR_some ht2
     obtain ⟨hk, h3⟩ := bif_fail h2
     have hk := cksB_eq hk
     obtain rfl := Option.some.inj h3
     obtain ⟨⟨tj, htj, hsz, hsh⟩, hat, _⟩ := hob
     obtain rfl : te = tj := Option.some.inj (ht.symm.trans htj)
     obtain ⟨zs, y, hy, hyj, uu, _, tk, htk, hpl, hsz2, hsh2, hat2⟩ := row_inner (c := c) hat hsh hi1 hk2
     obtain rfl : t2 = tk := Option.some.inj (ht2.symm.trans htk)
     rw [cellAt_some hy hyj]
     refine loaded_of (length_decs _ _ _ _) (fun q x hx => ?_) (fun x hx => ?_)
     ·rw [decs_get] at hx
      have hq : q < ti.ks.length := by
       cases hq : ti.ks[q]? with
       | none => rw [hq] at hx; cases hx
       | some k => exact (List.getElem?_eq_some_iff.1 hq).1
      have hi2 : i2 < zs.length := by rw [<- hat2.n]; exact hi
      have hnil2 : (c.G nm i j).nil = false := by
       cases hn : (c.G nm i j).nil with
       | false => rfl
       | true => have := (hat2.nil hn).1; subst this; simp at hi2
      obtain ⟨vals, hb, _, _, _, hcl⟩ := hat2.mem hnil2
      have hzi : zs[i2]? = some zs[i2] := by simp [hi2]
      obtain ⟨z, hz, hkq⟩ := seg_cells (hsh2 zs[i2] (List.getElem_mem hi2)) hk hq
      obtain ⟨u, hu, hr⟩ := hcl i2 _ (j2 + q) z hzi hz
      rw [hkq] at hx; cases hx
      refine ⟨u, ?_, ?_⟩
      ·rw [hb.cell, <- hu]; congr 1; omega
      ·show AVOk E w c (dec z.kd (cellAt zs i2 (j2 + q))) u
       rw [cellAt_some hzi hz]
       exact dec_scal (plain_kd hpl (hsh2 _ (List.getElem_mem hi2)) hz) hr
     ·obtain ⟨q, hq⟩ := List.getElem?_of_mem hx
      rw [decs_get] at hq
      cases hkq : ti.ks[q]? with
      | none => rw [hkq] at hq; cases hq
      | some k => rw [hkq] at hq; cases hq; intro n hn; exact nok n _ _ hn
    ·simp at h2
  | frow => simp at h2
  | box => simp at h2
  | fbox => simp at h2
  | dead => simp at h2
 | i => simp [loadR] at h
 | b => simp [loadR] at h
 | s => simp [loadR] at h
 | sh => simp [loadR] at h
 | nl => simp [loadR] at h
 | own => simp [loadR] at h
 | vw => simp [loadR] at h
 | inn => simp [loadR] at h
 | iv => simp [loadR] at h
 | fn => simp [loadR] at h
end
end Go.FG

namespace Go.FG
section
variable {P : Program} {E : Env} {σ : St} {a : Act} {w : World} {c : Cor} {o : Oper} {nm : Nat} {e : Eff}
theorem exec_v {s : Sem Value} {v : Value} {w' : World} (hr : s.run P w = .ok v w') : (do pure (Next.value (<- s)) : Sem Next).run P w = .ok (.value v) w' := by
 simp only [Sem.run_bind, hr, Result.andThen_ok, Sem.run_pure]
theorem val_goal (hok : Ok E σ w c) (hsl : SlOk E σ a w c) (hd : ∀ d, o.dst = some d -> d < a.tmps.size) {s : SV} {v : Value} (h : (val o s).val σ = some e) (hs : SVOk E w c s v) (hk : KnownSV σ s) (hr : (execOp a.eval o).run P w = .ok (.value v) w) : Goal P E σ a w c o e.ws := by
 obtain rfl := Option.some.inj h
 exact goal_val hok hsl hd hs hk hr
theorem valC_goal (hok : Ok E σ w c) (hsl : SlOk E σ a w c) (hd : ∀ d, o.dst = some d -> d < a.tmps.size) {b : Bool} {x : AV} {v : Value} (h : (valC o b x).val σ = some e) (hc : e.cond = true) (hs : b = true -> AVOk E w c x v) (hk : KnownAV σ x) (hr : b = true -> (execOp a.eval o).run P w = .ok (.value v) w) : Goal P E σ a w c o e.ws := by
 obtain rfl := Option.some.inj h
 have hc : b = true := hc
 exact goal_val hok hsl hd (hs hc) (fun n hn => hk n (by simpa [namesSV] using hn)) (hr hc)
theorem known_nil {σ : St} {x : AV} (h : namesAV x = []) : KnownAV σ x := fun n hn => by rw [h] at hn; simp at hn
theorem op_move (hok : Ok E σ w c) (hsl : SlOk E σ a w c) (hd : ∀ d, o.dst = some d -> d < a.tmps.size) {x : Operand} (ho : o.op = .move x \/ o.op = .assign x) (h : (opR E nm o).val σ = some e) : Goal P E σ a w c o e.ws := by
 have h' : ((opd x).bind fun v => val o v).val σ = some e := by rcases ho with ho | ho <;> simpa [opR, ho] using h
 obtain ⟨v, h1, h2⟩ := Rd.bind_some h'
 obtain ⟨hv, hk⟩ := opd_ok hsl h1
 refine val_goal hok hsl hd h2 hv hk ?_
 rcases ho with ho | ho <;> (unfold execOp; rw [ho]; rfl)
theorem op_nilCheck (hok : Ok E σ w c) (hsl : SlOk E σ a w c) (hd : ∀ d, o.dst = some d -> d < a.tmps.size) {x : Operand} (ho : o.op = .nilCheck x) (h : (opR E nm o).val σ = some e) : Goal P E σ a w c o e.ws := by
 simp only [opR, ho] at h
 obtain ⟨p, h1, h⟩ := Rd.bind_some h
 obtain ⟨ex, kx⟩ := opd1_ok hsl h1
 cases p with
 | bp n j =>
  have ex' : a.eval x = .pointer (some (ad (c.P n).blk j)) := ex
  refine val_goal hok hsl hd h (v := a.eval x) ex (fun n hn => kx n (by simpa [namesSV] using hn)) ?_
  unfold execOp; rw [ho]; simp only [ex']; rfl
 | rp n i j =>
  have ex' : a.eval x = .pointer (some (ad (c.P n).blk ((c.P n).off + i * (c.P n).sz + j))) := ex.2
  refine val_goal hok hsl hd h (v := a.eval x) ex (fun n hn => kx n (by simpa [namesSV] using hn)) ?_
  unfold execOp; rw [ho]; simp only [ex']; rfl
 | _ => cases h
theorem op_pick (hok : Ok E σ w c) (hsl : SlOk E σ a w c) (hd : ∀ d, o.dst = some d -> d < a.tmps.size) {x y z : Operand} (ho : o.op = .pick x y z) (h : (opR E nm o).val σ = some e) (hc : e.cond = true) : Goal P E σ a w c o e.ws := by
 simp only [opR, ho] at h
 obtain ⟨cx, h1, h⟩ := Rd.bind_some h
 obtain ⟨vy, h2, h⟩ := Rd.bind_some h
 obtain ⟨vz, h3, h⟩ := Rd.bind_some h
 obtain ⟨ex, kx⟩ := opd1_ok hsl h1
 obtain ⟨ey, ky⟩ := opd_ok hsl h2
 obtain ⟨ez, kz⟩ := opd_ok hsl h3
 have run : ∀ b, a.eval x = .bool b -> (execOp a.eval o).run P w = .ok (.value (if b then a.eval y else a.eval z)) w := by
  intro b hb
  unfold execOp; rw [ho]
  simp only [hb, asBool, Sem.run_bind, Sem.run_pure, Result.andThen_ok]
 cases cx with
 | b b =>
  replace ex : a.eval x = .bool b := ex
  have both : ∀ p q, vy = .v false [.b p] -> vz = .v false [.b q] -> Goal P E σ a w c o e.ws := by
   rintro p q rfl rfl
   refine val_goal hok hsl hd h (v := if b then a.eval y else a.eval z) ?_ (fun n hn => by simp [namesSV, namesAV] at hn) (run b ex)
   cases b
   ·exact ez
   ·exact ey
  have lft : vy = .tup [] -> Goal P E σ a w c o e.ws := by
   rintro rfl
   replace h : (Rd.ret (⟨!b, dw o vz⟩ : Eff)).val σ = some e := by cases vz <;> exact h
   obtain rfl := Option.some.inj h
   have hb : b = false := by simpa using hc
   subst hb
   exact goal_val hok hsl hd ez kz (run false ex)
  have rgt : vz = .tup [] -> vy ≠ .tup [] -> Goal P E σ a w c o e.ws := by
   rintro rfl hne
   replace h : (Rd.ret (⟨b, dw o vy⟩ : Eff)).val σ = some e := by
    cases vy with
    | un => exact h
    | tup l => cases l with
     | nil => exact absurd rfl hne
     | cons => exact h
    | v g xs => cases g <;> (rcases xs with _ | ⟨⟨⟩, _ | ⟨_, _⟩⟩ <;> exact h)
   obtain rfl := Option.some.inj h
   have hb : b = true := hc
   subst hb
   exact goal_val hok hsl hd ey ky (run true ex)
  cases vy with
  | un => cases vz with
   | un => simp at h
   | tup l => cases l with
    | nil => exact rgt rfl (by simp)
    | cons => simp at h
   | v => simp at h
  | tup l => cases l with
   | nil => exact lft rfl
   | cons => cases vz with
    | un => simp at h
    | tup l2 => cases l2 with
     | nil => exact rgt rfl (by simp)
     | cons => simp at h
    | v => simp at h
  | v g xs => cases vz with
   | un => simp at h
   | tup l2 => cases l2 with
    | nil => exact rgt rfl (by simp)
    | cons => simp at h
   | v g2 ys =>
    cases g <;> cases g2 <;> rcases xs with _ | ⟨⟨⟩, _ | ⟨_, _⟩⟩ <;> rcases ys with _ | ⟨⟨⟩, _ | ⟨_, _⟩⟩ <;> first | (simp at h; done) | exact both _ _ rfl rfl
 | i => simp at h
 | s => simp at h
 | sh => simp at h
 | nl => simp at h
 | own => simp at h
 | vw => simp at h
 | bp => simp at h
 | rp => simp at h
 | sp => simp at h
 | inn => simp at h
 | ip => simp at h
 | iv => simp at h
 | fn => simp at h
 | fp => simp at h
theorem op_load (hE : EnvOk P E) (hok : Ok E σ w c) (hsl : SlOk E σ a w c) (hd : ∀ d, o.dst = some d -> d < a.tmps.size) {t : Nat} {p : Operand} (ho : o.op = .load t p) (h : (opR E nm o).val σ = some e) : Goal P E σ a w c o e.ws := by
 simp only [opR, ho] at h
 obtain ⟨ti, h1, h⟩ := Rd.bind_some h
 obtain ⟨pv, h2, h⟩ := Rd.bind_some h
 obtain ⟨xs, h3, h⟩ := Rd.bind_some h
 have ht := tyR_some h1
 obtain ⟨ep, _⟩ := opd1_ok hsl h2
 obtain ⟨⟨b, of, cs, hv, hl, hcell, hlen, hav⟩, hkn⟩ := loadR_ok hok ep h3
 have hr := run_loadAt (P := P) w hE ht hl hcell
 refine val_goal hok hsl hd h (v := if ti.agg = true then .agg cs.toArray else cs.headD .nilIface) ?_ (fun n hn => by obtain ⟨x, hx, hn⟩ := List.mem_flatMap.1 hn; exact hkn x hx n hn) ?_
 ·show VOk E w c ti.agg xs _
  cases hag : ti.agg with
  | true =>
   rw [if_pos rfl]
   exact ⟨cs.toArray, rfl, by simp [hl, hlen], fun j x hj => by obtain ⟨u, hu, hx⟩ := hav j x hj; exact ⟨u, by simpa using hu, hx⟩⟩
  | false =>
   obtain ⟨d, _, _, hn⟩ := hE.desc t ti ht
   have h1 : ti.ks.length = 1 := by rcases hn hag with ⟨k, h, _⟩ | ⟨h, _⟩ | ⟨h, _⟩ | ⟨e', h, _⟩ | ⟨h, _⟩ <;> simp [h]
   obtain ⟨x, rfl⟩ := List.length_eq_one_iff.1 (hlen.trans h1)
   obtain ⟨v, rfl⟩ := List.length_eq_one_iff.1 (hl.trans h1)
   obtain ⟨u, hu, hx⟩ := hav 0 x rfl
   simp at hu; subst hu
   simpa [VOk] using hx
 ·unfold execOp; rw [ho]
  exact exec_v (by rw [hv]; exact hr)
theorem op_fieldAddr (hE : EnvOk P E) (hok : Ok E σ w c) (hsl : SlOk E σ a w c) (hd : ∀ d, o.dst = some d -> d < a.tmps.size) {t f : Nat} {p : Operand} (ho : o.op = .fieldAddr t p f) (h : (opR E nm o).val σ = some e) : Goal P E σ a w c o e.ws := by
 simp only [opR, ho] at h
 obtain ⟨pv, h1, h⟩ := Rd.bind_some h
 obtain ⟨q, h2, h⟩ := Rd.bind_some h
 obtain ⟨ep, kp⟩ := opd1_ok hsl h1
 unfold fieldR at h2
 cases hf : E.fo t f with
 | none => rw [hf] at h2; simp at h2
 | some r =>
  obtain ⟨off, n⟩ := r
  rw [hf] at h2
  have run : ∀ b o', a.eval p = .pointer (some (ad b o')) -> (execOp a.eval o).run P w = .ok (.value (.pointer (some (ad b (o' + off))))) w := by
   intro b o' hp
   unfold execOp; rw [ho]
   exact exec_v (by rw [hp]; exact run_fieldAt (P := P) w hE hf b o')
  cases pv with
  | bp nm2 j =>
   obtain rfl := Option.some.inj h2
   exact val_goal hok hsl hd h (s := .v false [.bp nm2 (j + off)]) (v := .pointer (some (ad (c.P nm2).blk (j + off)))) rfl (fun n hn => kp n (by simpa [namesSV, namesAV] using hn)) (run _ _ ep)
  | rp nm2 i j =>
   obtain rfl := Option.some.inj h2
   refine val_goal hok hsl hd h (s := .v false [.rp nm2 i (j + off)]) ?_ (fun n hn => kp n (by simpa [namesSV, namesAV] using hn)) (run _ _ ep.2)
   exact ⟨ep.1, by rw [show (c.P nm2).off + i * (c.P nm2).sz + j + off = (c.P nm2).off + i * (c.P nm2).sz + (j + off) by omega]⟩
  | sp e2 xs i j =>
   obtain rfl := Option.some.inj h2
   obtain ⟨b, o', cp, ti, e1, e2', e3, e4⟩ := ep
   refine val_goal hok hsl hd h (s := .v false [.sp e2 xs i (j + off)]) ?_ (fun n hn => by simp [namesSV, namesAV] at hn) (run _ _ e4)
   exact ⟨b, o', cp, ti, e1, e2', e3, by rw [show o' + i * ti.ks.length + j + off = o' + i * ti.ks.length + (j + off) by omega]⟩
  | ip nm2 i j i2 j2 =>
   obtain rfl := Option.some.inj h2
   refine val_goal hok hsl hd h (s := .v false [.ip nm2 i j i2 (j2 + off)]) ?_ (fun n hn => kp n (by simpa [namesSV, namesAV] using hn)) (run _ _ ep.1.2.2)
   exact ⟨⟨ep.1.1, ep.1.2.1, by rw [show (c.G nm2 i j).off + i2 * (c.G nm2 i j).sz + j2 + off = (c.G nm2 i j).off + i2 * (c.G nm2 i j).sz + (j2 + off) by omega]⟩, ep.2⟩
  | fp cs j =>
   obtain rfl := Option.some.inj h2
   obtain ⟨b, e1, e2'⟩ := ep
   exact val_goal hok hsl hd h (s := .v false [.fp cs (j + off)]) ⟨b, rfl, e2'⟩ (fun n hn => by simp [namesSV, namesAV] at hn) (run _ _ e1)
  | i => simp at h2
  | b => simp at h2
  | s => simp at h2
  | sh => simp at h2
  | nl => simp at h2
  | own => simp at h2
  | vw => simp at h2
  | inn => simp at h2
  | iv => simp at h2
  | fn => simp at h2
theorem op_extract (hok : Ok E σ w c) (hsl : SlOk E σ a w c) (hd : ∀ d, o.dst = some d -> d < a.tmps.size) {x : Operand} {i : Nat} (ho : o.op = .extract x i) (h : (opR E nm o).val σ = some e) : Goal P E σ a w c o e.ws := by
 simp only [opR, ho] at h
 obtain ⟨v, h1, h⟩ := Rd.bind_some h
 obtain ⟨ev, kv⟩ := opd_ok hsl h1
 split at h
 ·rename_i l
  split at h
  ·rename_i agg xs hl
   obtain ⟨vs, e1, e2, e3⟩ := ev
   obtain ⟨u, hu, hv⟩ := e3 i agg xs hl
   refine val_goal hok hsl hd h (v := u) hv (fun n hn => kv n (List.mem_flatMap.2 ⟨(agg, xs), List.mem_of_getElem? hl, hn⟩)) ?_
   unfold execOp; rw [ho]
   refine exec_v ?_
   rw [e1]; simp only [Instr.extract, hu]; rfl
  ·simp at h
 ·simp at h
theorem op_unOp (hok : Ok E σ w c) (hsl : SlOk E σ a w c) (hd : ∀ d, o.dst = some d -> d < a.tmps.size) {x : Operand} {op : UnOp} {t : Nat} (ho : o.op = .unOp op t x) (h : (opR E nm o).val σ = some e) : Goal P E σ a w c o e.ws := by
 simp only [opR, ho] at h
 obtain ⟨v, h1, h⟩ := Rd.bind_some h
 obtain ⟨ev, kv⟩ := opd1_ok hsl h1
 cases op with
 | not =>
  cases v with
  | b b =>
   refine val_goal hok hsl hd h (v := .bool !b) rfl (fun n hn => by simp [namesSV, namesAV] at hn) ?_
   unfold execOp; rw [ho]
   refine exec_v ?_
   rw [show a.eval x = .bool b from ev]; rfl
  | _ => simp at h
 | neg =>
  cases v with
  | i k n =>
   refine val_goal hok hsl hd h (v := .int k (k.wrap (0 - n))) rfl (fun n hn => by simp [namesSV, namesAV] at hn) ?_
   unfold execOp; rw [ho]
   refine exec_v ?_
   rw [show a.eval x = .int k n from ev]; rfl
  | _ => simp at h
 | _ => cases v <;> simp at h
theorem kindR_some {E : Env} {σ : St} {t : Nat} {k : Ck} (h : (kindR E t).val σ = some k) : ∃ ti, E.ty t = some ti /\ ti.agg = false /\ ti.ks = [k] := by
 obtain ⟨ti, h1, h2⟩ := Rd.bind_some h
 split at h2
 ·rename_i k' h3 h4
  simp at h2; subst h2
  exact ⟨ti, tyR_some h1, h3, h4⟩
 ·simp at h2
theorem kindR_slice {E : Env} {σ : St} (hE : EnvOk P E) {t e : Nat} (h : (kindR E t).val σ = some (.l e)) : P.underlying t = some (.slice e) := by
 obtain ⟨ti, h1, h2, h3⟩ := kindR_some h
 exact desc_slice hE h1 h2 h3
theorem kindR_string {E : Env} {σ : St} (hE : EnvOk P E) {t : Nat} (h : (kindR E t).val σ = some .s) : P.underlying t = some .string := by
 obtain ⟨ti, h1, h2, h3⟩ := kindR_some h
 obtain ⟨d, hd, _, hn⟩ := hE.desc t ti h1
 rcases hn h2 with ⟨k, h, _⟩ | ⟨h, _⟩ | ⟨h, rfl⟩ | ⟨e', h, _⟩ | ⟨h, _⟩ <;> rw [h3] at h <;> simp_all
theorem op_index (hE : EnvOk P E) (hok : Ok E σ w c) (hsl : SlOk E σ a w c) (hd : ∀ d, o.dst = some d -> d < a.tmps.size) {x y : Operand} {t : Nat} (ho : o.op = .index t x y) (h : (opR E nm o).val σ = some e) (hc : e.cond = true) : Goal P E σ a w c o e.ws := by
 simp only [opR, ho] at h
 obtain ⟨kk, h0, h⟩ := Rd.bind_some h
 obtain ⟨v, h1, h⟩ := Rd.bind_some h
 obtain ⟨⟨k, n⟩, h2, h⟩ := Rd.bind_some h
 obtain ⟨ev, kv⟩ := opd1_ok hsl h1
 have ei := opdI_ok hsl h2
 cases kk with
 | s => cases v with
  | s s =>
   have hu := kindR_string hE h0
   refine valC_goal hok hsl hd h hc (v := .int .u8 ((s.data.getD n.toNat 0).toNat : Int)) (fun _ => rfl) (known_nil rfl) (fun hb => ?_)
   simp only [Bool.and_eq_true, decide_eq_true_eq] at hb
   obtain ⟨h0, h3⟩ := hb
   unfold execOp; rw [ho]
   refine exec_v ?_
   replace ev : a.eval x = .string s := ev.1
   have hlt : n.toNat < s.size := by omega
   have hg : s[n.toNat]? = some s[n.toNat] := by simp [hlt]
   have hs : s[n.toNat] = s.data.getD n.toNat 0 := by
    rw [Array.getD, dif_pos (show n.toNat < s.data.size from hlt)]; rfl
   simp only [ev, ei, Instr.index, asIntOf, Sem.run_bind, Sem.run_pure, Result.andThen_ok, run_underlying hu, h0, if_true, hg, hs]
  | _ => simp at h
 | _ => simp at h
end
end Go.FG

namespace Go.FG
section
variable {P : Program} {E : Env} {σ : St} {a : Act} {w : World} {c : Cor} {o : Oper} {nm : Nat} {e : Eff}
theorem bif_some {α : Type} {b : Bool} {x : α} {σ : St} {r : α} (h : (bif b then Rd.ret x else Rd.fail).val σ = some r) : b = true /\ r = x := by
 obtain ⟨h1, h2⟩ := bif_fail h
 exact ⟨h1, (Option.some.inj h2).symm⟩
theorem hdr_of_pos {p : Pl} (h : p.nil = false) : hdr p = .slice (some (ad p.blk p.off)) p.n p.cap := by unfold hdr; rw [if_neg (by simp [h])]
theorem hdr_nil {p : Pl} (h : p.nil = true) : hdr p = .slice none 0 0 := by unfold hdr; rw [if_pos h]
theorem obj_row {nm e : Nat} {ex : Bool} {xs : Row} (hok : Ok E σ w c) (h : σ (obk nm) = .o (.row e ex xs)) :
  (c.P nm).n = xs.length /\ ((c.P nm).nil = true -> xs = []) /\ ∃ ti, E.ty e = some ti /\ (c.P nm).sz = ti.ks.length /\ ((c.P nm).nil = false -> (c.P nm).n <= (c.P nm).cap /\ (c.P nm).cap <= maxLen) := by
 have hob := hok.obj nm _ h
 obtain ⟨ti, h1, h2, _⟩ := hob.sh
 exact ⟨hob.at_.n, fun hn => (hob.at_.nil hn).1, ti, h1, h2, fun hn => by obtain ⟨_, _, h3, h4, _⟩ := hob.at_.mem hn; exact ⟨h3, h4⟩⟩
theorem obj_frow {nm e : Nat} {xs : Row} (hok : Ok E σ w c) (h : σ (obk nm) = .o (.frow e xs)) :
  (c.P nm).n = xs.length /\ ((c.P nm).nil = true -> xs = []) /\ ∃ ti, E.ty e = some ti /\ (c.P nm).sz = ti.ks.length := by
 obtain ⟨h1, h2, h3⟩ := hok.obj nm _ h
 refine ⟨h2, fun hn => ?_, h3⟩
 rw [hdr_nil hn] at h1
 cases h1; rfl
theorem op_indexAddr (hE : EnvOk P E) (hok : Ok E σ w c) (hsl : SlOk E σ a w c) (hd : ∀ d, o.dst = some d -> d < a.tmps.size) {x y : Operand} {t : Nat} (ho : o.op = .indexAddr t x y) (h : (opR E nm o).val σ = some e) (hc : e.cond = true) : Goal P E σ a w c o e.ws := by
 simp only [opR, ho] at h
 obtain ⟨kk, h0, h⟩ := Rd.bind_some h
 cases kk with
 | l el =>
  obtain ⟨v, h1, h⟩ := Rd.bind_some h
  obtain ⟨⟨k, n⟩, h2, h⟩ := Rd.bind_some h
  obtain ⟨⟨b, q⟩, h3, h⟩ := Rd.bind_some h
  obtain ⟨ev, kv⟩ := opd1_ok hsl h1
  have ei := opdI_ok hsl h2
  have hu := kindR_slice hE h0
  have run : ∀ te b o' m cp, E.ty el = some te -> a.eval x = .slice (some (ad b o')) m cp -> 0 <= n -> n < (m : Int) -> (execOp a.eval o).run P w = .ok (.value (.pointer (some (ad b (o' + n.toNat * te.ks.length))))) w := by
   intro te b o' m cp hte hx h0 h1
   unfold execOp; rw [ho]
   refine exec_v ?_
   rw [hx, ei]
   exact run_indexAt (P := P) w hE hu hte b o' m cp k n h0 h1
  cases v with
  | sh e' xs =>
   obtain ⟨hbe, h3⟩ := bif_some h3
   obtain ⟨rfl, rfl⟩ := Prod.mk.inj h3
   have := Nat.eq_of_beq_eq_true hbe; subst this
   obtain rfl := Option.some.inj h
   have hc : (decide (0 <= n) && decide (n < (xs.length : Int))) = true := hc
   simp only [Bool.and_eq_true, decide_eq_true_eq] at hc
   obtain ⟨c0, c1⟩ := hc
   have ev : Holds E w c.K (a.eval x) (.l el xs) := ev
   generalize hv : a.eval x = v at ev
   have hne : 0 < xs.length := by omega
   cases ev with
   | nl => simp at hne
   | l _ _ bb oo cc ti U ht hcap hmx hK hs hcell hin =>
    exact goal_val hok hsl hd (s := .v false [.sp el xs n.toNat 0]) (v := .pointer (some (ad bb (oo + n.toNat * ti.ks.length)))) ⟨bb, oo, cc, ti, .l el xs bb oo cc ti U ht hcap hmx hK hs hcell hin, by omega, ht, rfl⟩ (fun n hn => by simp [namesSV, namesAV] at hn) (run ti bb oo _ cc ht hv c0 c1)
  | own nm2 =>
   obtain ⟨ob, hg, h3⟩ := Rd.bind_some h3
   have hg := getO_some hg
   have main : ∀ (xs : Row), (c.P nm2).n = xs.length -> ((c.P nm2).nil = true -> xs = []) -> (∃ ti, E.ty el = some ti /\ (c.P nm2).sz = ti.ks.length) -> (b, q) = (decide (0 <= n) && decide (n < (xs.length : Int)), AV.rp nm2 n.toNat 0) -> Goal P E σ a w c o e.ws := by
    intro xs hn hnil hty hbq
    obtain ⟨rfl, rfl⟩ := Prod.mk.inj hbq
    obtain rfl := Option.some.inj h
    have hc : (decide (0 <= n) && decide (n < (xs.length : Int))) = true := hc
    simp only [Bool.and_eq_true, decide_eq_true_eq] at hc
    obtain ⟨c0, c1⟩ := hc
    obtain ⟨ti, ht, hsz⟩ := hty
    have hnn : (c.P nm2).nil = false := by
     cases hq : (c.P nm2).nil with
     | false => rfl
     | true => rw [hnil hq] at c1; simp at c1; omega
    have hx : a.eval x = .slice (some (ad (c.P nm2).blk (c.P nm2).off)) (c.P nm2).n (c.P nm2).cap := by rw [<- hdr_of_pos hnn]; exact ev
    refine goal_val hok hsl hd (s := .v false [.rp nm2 n.toNat 0]) (v := .pointer (some (ad (c.P nm2).blk ((c.P nm2).off + n.toNat * ti.ks.length)))) ⟨by omega, by rw [hsz]; rfl⟩ (fun m hm => by simp [namesSV, namesAV] at hm; subst hm; rw [hg]; simp) (run ti _ _ _ _ ht hx c0 (by rw [hn]; exact c1))
   cases ob with
   | row e' ex xs =>
    obtain ⟨hbe, h4⟩ := bif_some h3
    have := Nat.eq_of_beq_eq_true hbe; subst this
    obtain ⟨i1, i2, ti, i3, i4, _⟩ := obj_row hok hg
    exact main xs i1 i2 ⟨ti, i3, i4⟩ h4
   | frow e' xs =>
    obtain ⟨hbe, h4⟩ := bif_some h3
    have := Nat.eq_of_beq_eq_true hbe; subst this
    obtain ⟨i1, i2, i3⟩ := obj_frow hok hg
    exact main xs i1 i2 i3 h4
   | _ => simp at h3
  | vw nm2 lo hi =>
   obtain ⟨ob, hg, h3⟩ := Rd.bind_some h3
   have hg := getO_some hg
   have main : ∀ (xs : Row), (c.P nm2).n = xs.length -> (∃ ti, E.ty el = some ti /\ (c.P nm2).sz = ti.ks.length) -> (b, q) = (decide (0 <= n) && decide (n < ((hi - lo : Nat) : Int)), AV.rp nm2 (lo + n.toNat) 0) -> Goal P E σ a w c o e.ws := by
    intro xs hn hty hbq
    obtain ⟨rfl, rfl⟩ := Prod.mk.inj hbq
    obtain rfl := Option.some.inj h
    have hc : (decide (0 <= n) && decide (n < ((hi - lo : Nat) : Int))) = true := hc
    simp only [Bool.and_eq_true, decide_eq_true_eq] at hc
    obtain ⟨c0, c1⟩ := hc
    obtain ⟨ti, ht, hsz⟩ := hty
    obtain ⟨v1, v2, v3, v4⟩ := ev
    have hnn : (c.P nm2).nil = false := by
     cases hq : (c.P nm2).nil with
     | false => rfl
     | true =>
      obtain ⟨f1, _⟩ : (c.P nm2).n = 0 /\ True := by
       have hob := hok.obj nm2 _ hg
       rw [hn]
       cases ob with
       | row e' ex ys => obtain ⟨j1, j2, _⟩ := obj_row hok hg; rw [<- hn, j1, j2 hq]; simp
       | frow e' ys => obtain ⟨j1, j2, _⟩ := obj_frow hok hg; rw [<- hn, j1, j2 hq]; simp
       | _ => simp at h3
      omega
    rcases v4 hnn with ⟨u1, hx⟩ | ⟨u1, oo, u2, hx⟩
    ·refine goal_val hok hsl hd (s := .v false [.rp nm2 (lo + n.toNat) 0]) (v := .pointer (some (ad (c.P nm2).blk ((c.P nm2).off + lo * (c.P nm2).sz + n.toNat * ti.ks.length)))) ⟨by omega, ?_⟩ (fun m hm => by simp [namesSV, namesAV] at hm; subst hm; rw [hg]; simp) (run ti _ _ _ _ ht hx c0 c1)
     rw [<- hsz, show (c.P nm2).off + (lo + n.toNat) * (c.P nm2).sz + 0 = (c.P nm2).off + lo * (c.P nm2).sz + n.toNat * (c.P nm2).sz by rw [Nat.add_mul]; omega]
    ·exfalso
     have hcap : (c.P nm2).n <= (c.P nm2).cap := by
      cases ob with
      | row e' ex ys => obtain ⟨_, _, _, _, _, j⟩ := obj_row hok hg; exact (j hnn).1
      | frow e' ys =>
       obtain ⟨j1, j2, _⟩ := hok.obj nm2 _ hg
       rw [hdr_of_pos hnn] at j1
       by_cases hz : 0 < ys.length
       ·obtain ⟨t3, U, L⟩ := j1.lies hz
        rw [j2]; exact L.cap
       ·omega
      | _ => simp at h3
     omega
   cases ob with
   | row e' ex xs =>
    obtain ⟨hbe, h4⟩ := bif_some h3
    have := Nat.eq_of_beq_eq_true hbe; subst this
    obtain ⟨i1, i2, ti, i3, i4, _⟩ := obj_row hok hg
    exact main xs i1 ⟨ti, i3, i4⟩ h4
   | frow e' xs =>
    obtain ⟨hbe, h4⟩ := bif_some h3
    have := Nat.eq_of_beq_eq_true hbe; subst this
    obtain ⟨i1, i2, i3⟩ := obj_frow hok hg
    exact main xs i1 i3 h4
   | _ => simp at h3
  | inn nm2 i j =>
   obtain ⟨ob, hg, h3⟩ := Rd.bind_some h3
   have hg := getO_some hg
   cases ob with
   | row e' ex xs =>
    cases ex with
    | false => simp at h3
    | true =>
     obtain ⟨te, ht, h3⟩ := Rd.bind_some h3
     have ht := tyR_some ht
     split at h3
     ·rename_i e2 hk2
      obtain ⟨hbe, h3⟩ := bif_some h3
      obtain ⟨rfl, rfl⟩ := Prod.mk.inj h3
      have := Nat.eq_of_beq_eq_true hbe; subst this
      obtain rfl := Option.some.inj h
      obtain ⟨⟨hi1, hx⟩, hFv⟩ := ev
      obtain ⟨⟨tj, htj, hsz, hsh⟩, hat, _⟩ := hok.obj nm2 _ hg
      obtain rfl : te = tj := Option.some.inj (ht.symm.trans htj)
      obtain ⟨zs, y', hy, hyj, uu, _, tk, htk, hpl, hsz2, hsh2, hat2⟩ := row_inner (c := c) hat hsh hi1 hk2
      have hc : (decide (0 <= n) && decide (n < ((cvL (cellAt xs i j)).length : Int))) = true := hc
      rw [cellAt_some hy hyj] at hc
      simp only [Bool.and_eq_true, decide_eq_true_eq] at hc
      obtain ⟨c0, c1⟩ := hc
      have c1 : n < (zs.length : Int) := c1
      have hnn : (c.G nm2 i j).nil = false := by
       cases hq : (c.G nm2 i j).nil with
       | false => rfl
       | true => have := (hat2.nil hq).1; subst this; simp at c1; omega
      rw [hdr_of_pos hnn] at hx
      refine goal_val hok hsl hd (s := .v false [.ip nm2 i j n.toNat 0]) (v := .pointer (some (ad (c.G nm2 i j).blk ((c.G nm2 i j).off + n.toNat * tk.ks.length)))) ⟨⟨hi1, by rw [hat2.n]; omega, by rw [hsz2]; rfl⟩, hFv⟩ (fun m hm => by simp [namesSV, namesAV] at hm; subst hm; rw [hg]; simp) (run tk _ _ _ _ htk hx c0 (by rw [hat2.n]; exact c1))
     ·simp at h3
   | _ => simp at h3
  | _ => simp [indexR] at h3
 | _ => simp at h
end
end Go.FG

namespace Go.FG
section
variable {P : Program} {E : Env} {σ : St} {a : Act} {w : World} {c : Cor} {o : Oper} {nm : Nat} {e : Eff}
theorem optI_ok (hsl : SlOk E σ a w c) {x : Option Operand} {d n : Int} (h : (optI x d).val σ = some n) : (x = none /\ n = d) \/ ∃ y k, x = some y /\ a.eval y = .int k n := by
 cases x with
 | none => exact .inl ⟨rfl, (Option.some.inj h).symm⟩
 | some y =>
  obtain ⟨⟨k, m⟩, h1, h2⟩ := Rd.bind_some h
  obtain rfl := Option.some.inj h2
  exact .inr ⟨y, k, rfl, opdI_ok hsl h1⟩
theorem run_bound {x : Value} {k : IntKind} {n : Int} {y : Nat} {code : BoundsCode} (hx : x = .int k n) (h0 : 0 <= n) (h1 : n <= y) : (Instr.sliceBound x y code).run P w = .ok n.toNat w := by
 subst hx
 simp only [Instr.sliceBound, asIntOf, Sem.run_bind, Sem.run_pure, Result.andThen_ok, h0, h1, and_self, if_true]
theorem run_bounds (hsl : SlOk E σ a w c) {isS : Bool} {len cap : Nat} {lo hi : Option Operand} {l h : Int} (hl : (optI lo 0).val σ = some l) (hh : (optI hi len).val σ = some h) (h0 : 0 <= l) (h1 : l <= h) (h2 : h <= cap) :
  (Instr.sliceBounds isS len cap (lo.map a.eval) (hi.map a.eval) none).run P w = .ok (l.toNat, h.toNat, cap) w := by
 have low : ∀ v, lo = some v -> ∀ code, (Instr.sliceBound (a.eval v) h.toNat code).run P w = .ok l.toNat w := by
  intro v hv code
  rcases optI_ok hsl hl with ⟨hx, _⟩ | ⟨y, k, hx, hy⟩
  ·rw [hx] at hv; cases hv
  ·rw [hx] at hv; cases hv
   exact run_bound hy h0 (by omega)
 have high : ∀ v, hi = some v -> ∀ code, (Instr.sliceBound (a.eval v) cap code).run P w = .ok h.toNat w := by
  intro v hv code
  rcases optI_ok hsl hh with ⟨hx, _⟩ | ⟨y, k, hx, hy⟩
  ·rw [hx] at hv; cases hv
  ·rw [hx] at hv; cases hv
   exact run_bound hy (by omega) h2
 have l0 : lo = none -> l = 0 := fun hx => by rcases optI_ok hsl hl with ⟨_, hn⟩ | ⟨y, k, hy, _⟩; exact hn; rw [hx] at hy; cases hy
 have h0' : hi = none -> h = len := fun hx => by rcases optI_ok hsl hh with ⟨_, hn⟩ | ⟨y, k, hy, _⟩; exact hn; rw [hx] at hy; cases hy
 cases lo with
 | none =>
  obtain rfl := l0 rfl
  cases hi with
  | none => obtain rfl := h0' rfl; simp [Instr.sliceBounds]
  | some v => simp [Instr.sliceBounds, high v rfl]
 | some u =>
  cases hi with
  | none =>
   obtain rfl := h0' rfl
   have := low u rfl
   simp only [Int.toNat_natCast] at this
   simp [Instr.sliceBounds, this]
  | some v => simp [Instr.sliceBounds, high v rfl, low u rfl]
theorem run_sliceS {t : Nat} (hu : P.underlying t = some .string) (hsl : SlOk E σ a w c) {lo hi : Option Operand} {l h : Int} {s : ByteArray} (hl : (optI lo 0).val σ = some l) (hh : (optI hi s.size).val σ = some h) (h0 : 0 <= l) (h1 : l <= h) (h2 : h <= (s.size : Int)) :
  (Instr.sliceAt t (.string s) (lo.map a.eval) (hi.map a.eval) none).run P w = .ok (.string (s.extract l.toNat h.toNat)) w := by
 simp only [Instr.sliceAt, Instr.slice, Sem.run_bind, run_underlying hu, Result.andThen_ok, Option.isSome_none, Bool.false_eq_true, if_false, run_bounds (P := P) hsl hl hh h0 h1 h2, Sem.run_pure]
theorem run_sliceL {t el : Nat} {te : TI} (hE : EnvOk P E) (hu : P.underlying t = some (.slice el)) (he : E.ty el = some te) (hsl : SlOk E σ a w c) {lo hi : Option Operand} {l h : Int} {A : Option Addr} {n cp : Nat} (hl : (optI lo 0).val σ = some l) (hh : (optI hi n).val σ = some h) (h0 : 0 <= l) (h1 : l <= h) (h2 : h <= (cp : Int)) :
  (Instr.sliceAt t (.slice A n cp) (lo.map a.eval) (hi.map a.eval) none).run P w = .ok (.slice (if cp = l.toNat then A else A.map (·.add (l.toNat * te.ks.length))) (h.toNat - l.toNat) (cp - l.toNat)) w := by
 obtain ⟨inf, hi', hsz, _⟩ := hE.info el te he
 simp only [Instr.sliceAt, Instr.slice, Sem.run_bind, run_underlying hu, Result.andThen_ok, run_bounds (P := P) hsl hl hh h0 h1 h2, sizeOf, typeInfo, program, Sem.run, hi', hsz, Sem.run_pure]
theorem view_get {xs : Row} {lo hi i : Nat} : (view xs lo hi)[i]? = if i < hi - lo then xs[lo + i]? else none := by
 unfold view; rw [List.getElem?_take]; split <;> simp [List.getElem?_drop]
theorem length_view {xs : Row} {lo hi : Nat} (h : hi <= xs.length) : (view xs lo hi).length = hi - lo := by unfold view; simp; omega
theorem mem_view {xs : Row} {lo hi : Nat} {y : List CV} (h : y ∈ view xs lo hi) : y ∈ xs := List.mem_of_mem_drop (List.mem_of_mem_take h)
theorem holds_cut {K : Nat -> Prop} {A : Option Addr} {n cp el : Nat} {xs : Row} {te : TI} (he : E.ty el = some te) (h : Holds E w K (.slice A n cp) (.l el xs)) {lo hi : Nat} (h1 : lo <= hi) (h2 : hi <= xs.length) :
  n = xs.length /\ Holds E w K (.slice (if cp = lo then A else A.map (·.add (lo * te.ks.length))) (hi - lo) (cp - lo)) (.l el (view xs lo hi)) := by
 generalize hv : Value.slice A n cp = v at h
 generalize hx : CV.l el xs = x at h
 cases h with
 | i => cases hx
 | b => cases hx
 | s => cases hx
 | nl =>
  cases hx; cases hv
  have : hi = 0 := by simpa using h2
  subst this
  have : lo = 0 := by omega
  subst this
  exact ⟨rfl, .nl _ _ _⟩
 | l _ _ b oo cp ti U ht hc hm hK hs hcell hin =>
  cases hx; cases hv
  refine ⟨rfl, ?_⟩
  obtain rfl : te = ti := Option.some.inj (he.symm.trans ht)
  by_cases hz : hi - lo = 0
  ·rw [hz]
   have : view xs lo hi = [] := by unfold view; rw [hz]; simp
   rw [this]; exact .nl _ _ _
  ·rw [if_neg (by omega)]
   simp only [Option.map_some, Addr.add_ad]
   have hl := length_view (xs := xs) (lo := lo) h2
   rw [<- hl]
   refine .l el (view xs lo hi) b (oo + lo * te.ks.length) (cp - lo) te (fun i j => U (lo + i) j) ht (by rw [hl]; omega) (by omega) hK (fun y hy => hs y (mem_view hy)) (fun i j y x hi' hj => ?_) (fun i j y x hi' hj => ?_)
   ·rw [view_get] at hi'
    split at hi'
    ·have := hcell (lo + i) j y x hi' hj
     rw [<- this]; congr 2; rw [Nat.add_mul]; omega
    ·cases hi'
   ·rw [view_get] at hi'
    split at hi'
    ·exact hin (lo + i) j y x hi' hj
    ·cases hi'
theorem op_slice (hE : EnvOk P E) (hok : Ok E σ w c) (hsl : SlOk E σ a w c) (hd : ∀ d, o.dst = some d -> d < a.tmps.size) {x : Operand} {t : Nat} {lo hi mx : Option Operand} (ho : o.op = .slice t x lo hi mx) (h : (opR E nm o).val σ = some e) (hc : e.cond = true) : Goal P E σ a w c o e.ws := by
 simp only [opR, ho] at h
 cases mx with
 | some m => simp at h
 | none =>
 obtain ⟨kk, hk, h⟩ := Rd.bind_some h
 obtain ⟨v, h1, h⟩ := Rd.bind_some h
 obtain ⟨⟨b, q⟩, h3, h⟩ := Rd.bind_some h
 obtain ⟨ev, kv⟩ := opd1_ok hsl h1
 have exec : ∀ {u r : Value}, a.eval x = u -> (Instr.sliceAt t u (lo.map a.eval) (hi.map a.eval) none).run P w = .ok r w -> (execOp a.eval o).run P w = .ok (.value r) w := by
  intro u r hu hr
  unfold execOp; rw [ho]
  exact exec_v (by rw [hu]; exact hr)
 cases kk with
 | s => cases v with
  | s s =>
   have hu := kindR_string hE hk
   obtain ⟨l, hl, h3⟩ := Rd.bind_some h3
   obtain ⟨hh, hh', h3⟩ := Rd.bind_some h3
   obtain ⟨rfl, rfl⟩ := Prod.mk.inj (Option.some.inj h3)
   obtain rfl := Option.some.inj h
   have hc : inB l hh s.size = true := hc
   simp only [inB, Bool.and_eq_true, decide_eq_true_eq] at hc
   obtain ⟨⟨c0, c1⟩, c2⟩ := hc
   exact goal_val hok hsl hd (s := .v false [.s _]) (v := .string _) ⟨rfl, by have h5 := ev.2; unfold okS at h5 ⊢; rw [ByteArray.size_extract]; omega⟩ (fun n hn => by simp [namesSV, namesAV] at hn) (exec ev.1 (run_sliceS (P := P) hu hsl hl hh' c0 c1 c2))
  | _ => simp [sliceR] at h3
 | l el =>
  have hu := kindR_slice hE hk
  obtain ⟨te, hte, h3⟩ := Rd.bind_some h3
  have hte := tyR_some hte
  cases v with
  | sh e' xs =>
   obtain ⟨hbe, h4⟩ := bif_fail h3
   have := Nat.eq_of_beq_eq_true hbe; subst this
   obtain ⟨l, hl, h4⟩ := Rd.bind_some h4
   obtain ⟨hh, hh', h4⟩ := Rd.bind_some h4
   obtain ⟨rfl, rfl⟩ := Prod.mk.inj (Option.some.inj h4)
   obtain rfl := Option.some.inj h
   have hc : inB l hh xs.length = true := hc
   simp only [inB, Bool.and_eq_true, decide_eq_true_eq] at hc
   obtain ⟨⟨c0, c1⟩, c2⟩ := hc
   have ev : Holds E w c.K (a.eval x) (.l el xs) := ev
   generalize hv : a.eval x = v at ev
   cases ev with
   | nl _ A cp =>
    have h0 : hh = 0 := by simp at c2; omega
    have l0 : l = 0 := by omega
    subst h0; subst l0
    have hr := run_sliceL (P := P) (te := te) hE hu hte hsl (A := A) (n := 0) (cp := cp) hl hh' (by omega) (by omega) (by omega)
    exact goal_val hok hsl hd (s := .v false [.sh el (view [] (0 : Int).toNat (0 : Int).toNat)]) (.nl _ _ _) (fun n hn => by simp [namesSV, namesAV] at hn) (exec hv hr)
   | l _ _ bb oo cp ti U ht hcap hmx hK hs hcell hin =>
    have hr := run_sliceL (P := P) (te := ti) hE hu ht hsl (A := some (ad bb oo)) (cp := cp) hl hh' c0 c1 (by omega)
    have hcut := (holds_cut (lo := l.toNat) (hi := hh.toNat) ht (.l el xs bb oo cp ti U ht hcap hmx hK hs hcell hin) (by omega) (by omega)).2
    exact goal_val hok hsl hd (s := .v false [.sh el (view xs l.toNat hh.toNat)]) hcut (fun n hn => by simp [namesSV, namesAV] at hn) (exec hv hr)
  | own nm2 =>
   obtain ⟨ob, hg, h3⟩ := Rd.bind_some h3
   have hg := getO_some hg
   have main : ∀ (xs : Row), (c.P nm2).n = xs.length -> ((c.P nm2).nil = true -> xs = []) -> (∃ ti, E.ty el = some ti /\ (c.P nm2).sz = ti.ks.length) -> ((c.P nm2).nil = false -> (c.P nm2).n <= (c.P nm2).cap) ->
     ((optI lo 0).bind fun l => (optI hi xs.length).bind fun h => Rd.ret (inB l h xs.length, AV.vw nm2 l.toNat h.toNat)).val σ = some (b, q) -> Goal P E σ a w c o e.ws := by
    intro xs hn hnil hty hcp h4
    obtain ⟨l, hl, h4⟩ := Rd.bind_some h4
    obtain ⟨hh, hh', h4⟩ := Rd.bind_some h4
    obtain ⟨rfl, rfl⟩ := Prod.mk.inj (Option.some.inj h4)
    obtain rfl := Option.some.inj h
    have hc : inB l hh xs.length = true := hc
    simp only [inB, Bool.and_eq_true, decide_eq_true_eq] at hc
    obtain ⟨⟨c0, c1⟩, c2⟩ := hc
    obtain ⟨ti, ht, hsz⟩ := hty
    have ev : a.eval x = hdr (c.P nm2) := ev
    cases hq : (c.P nm2).nil with
    | true =>
     rw [hdr_nil hq] at ev
     have hx := hnil hq; subst hx
     have h0 : hh = 0 := by simp at c2; omega
     have l0 : l = 0 := by omega
     subst h0; subst l0
     have hr := run_sliceL (P := P) (te := ti) hE hu ht hsl (A := none) (n := 0) (cp := 0) hl hh' (by omega) (by omega) (by simp)
     refine goal_val hok hsl hd (s := .v false [.vw nm2 0 0]) (v := .slice none 0 0) ⟨Nat.le_refl _, Nat.zero_le _, fun _ => rfl, fun hf => by rw [hq] at hf; cases hf⟩ (fun m hm => by simp [namesSV, namesAV] at hm; subst hm; rw [hg]; simp) (exec ev (by simpa using hr))
    | false =>
     rw [hdr_of_pos hq] at ev
     have hcp := hcp hq
     have hr := run_sliceL (P := P) (te := ti) hE hu ht hsl (A := some (ad (c.P nm2).blk (c.P nm2).off)) (n := (c.P nm2).n) (cp := (c.P nm2).cap) hl (by rw [hn]; exact hh') c0 c1 (by omega)
     refine goal_val hok hsl hd (s := .v false [.vw nm2 l.toNat hh.toNat]) ⟨by omega, by omega, fun hf => (by rw [hq] at hf; cases hf), fun _ => ?_⟩ (fun m hm => by simp [namesSV, namesAV] at hm; subst hm; rw [hg]; simp) (exec ev hr)
     by_cases hle : (c.P nm2).cap = l.toNat
     ·refine .inr ⟨hle.symm, (c.P nm2).off, by omega, ?_⟩
      rw [if_pos hle, show hh.toNat - l.toNat = 0 by omega, show (c.P nm2).cap - l.toNat = 0 by omega]
     ·refine .inl ⟨by omega, ?_⟩
      rw [if_neg hle]; simp only [Option.map_some, Addr.add_ad, hsz]
   cases ob with
   | row e' ex xs =>
    obtain ⟨hbe, h4⟩ := bif_fail h3
    have := Nat.eq_of_beq_eq_true hbe; subst this
    obtain ⟨i1, i2, ti, i3, i4, i5⟩ := obj_row hok hg
    exact main xs i1 i2 ⟨ti, i3, i4⟩ (fun h => (i5 h).1) h4
   | frow e' xs =>
    obtain ⟨hbe, h4⟩ := bif_fail h3
    have := Nat.eq_of_beq_eq_true hbe; subst this
    obtain ⟨i1, i2, i3⟩ := obj_frow hok hg
    refine main xs i1 i2 i3 (fun hnn => ?_) h4
    obtain ⟨j1, j2, _⟩ := hok.obj nm2 _ hg
    rw [hdr_of_pos hnn] at j1
    by_cases hz : 0 < xs.length
    ·obtain ⟨t3, U, L⟩ := j1.lies hz
     rw [j2]; exact L.cap
    ·omega
   | _ => simp at h3
  | vw nm2 lo2 hi2 =>
   obtain ⟨ob, hg, h3⟩ := Rd.bind_some h3
   have hg := getO_some hg
   have main : (∃ ti, E.ty el = some ti /\ (c.P nm2).sz = ti.ks.length) -> ((c.P nm2).nil = true -> (c.P nm2).n = 0) -> ((c.P nm2).nil = false -> (c.P nm2).n <= (c.P nm2).cap) ->
     ((optI lo 0).bind fun l => (optI hi ((hi2 - lo2 : Nat) : Int)).bind fun h => Rd.ret (inB l h ((hi2 - lo2 : Nat) : Int), AV.vw nm2 (lo2 + l.toNat) (lo2 + h.toNat))).val σ = some (b, q) -> Goal P E σ a w c o e.ws := by
    intro hty hnil hcp h4
    obtain ⟨l, hl, h4⟩ := Rd.bind_some h4
    obtain ⟨hh, hh', h4⟩ := Rd.bind_some h4
    obtain ⟨rfl, rfl⟩ := Prod.mk.inj (Option.some.inj h4)
    obtain rfl := Option.some.inj h
    have hc : inB l hh ((hi2 - lo2 : Nat) : Int) = true := hc
    simp only [inB, Bool.and_eq_true, decide_eq_true_eq] at hc
    obtain ⟨⟨c0, c1⟩, c2⟩ := hc
    obtain ⟨ti, ht, hsz⟩ := hty
    obtain rfl : te = ti := Option.some.inj (hte.symm.trans ht)
    obtain ⟨v1, v2, v3, v4⟩ := ev
    cases hq : (c.P nm2).nil with
    | true =>
     have hz := hnil hq
     have ex := v3 hq
     have hi0 : hi2 = 0 := by omega
     have lo0 : lo2 = 0 := by omega
     subst hi0; subst lo0
     have h0 : hh = 0 := by simp at c2; omega
     have l0 : l = 0 := by omega
     subst h0; subst l0
     have hr := run_sliceL (P := P) (te := te) hE hu ht hsl (A := none) (n := 0) (cp := 0) hl (by simpa using hh') (by omega) (by omega) (by simp)
     refine goal_val hok hsl hd (s := .v false [.vw nm2 (0 + (0 : Int).toNat) (0 + (0 : Int).toNat)]) (v := .slice none 0 0) ⟨Nat.le_refl _, Nat.zero_le _, fun _ => rfl, fun hf => by rw [hq] at hf; cases hf⟩ (fun m hm => by simp [namesSV, namesAV] at hm; subst hm; rw [hg]; simp) (exec ex (by simpa using hr))
    | false =>
     have hcp := hcp hq
     rcases v4 hq with ⟨u1, ex⟩ | ⟨u1, oo, u2, ex⟩
     ·have hr := run_sliceL (P := P) (te := te) hE hu ht hsl (A := some (ad (c.P nm2).blk ((c.P nm2).off + lo2 * (c.P nm2).sz))) (n := hi2 - lo2) (cp := (c.P nm2).cap - lo2) hl hh' c0 c1 (by omega)
      refine goal_val hok hsl hd (s := .v false [.vw nm2 (lo2 + l.toNat) (lo2 + hh.toNat)]) ⟨by omega, by omega, fun hf => (by rw [hq] at hf; cases hf), fun _ => ?_⟩ (fun m hm => by simp [namesSV, namesAV] at hm; subst hm; rw [hg]; simp) (exec ex hr)
      by_cases hle : (c.P nm2).cap - lo2 = l.toNat
      ·refine .inr ⟨by omega, (c.P nm2).off + lo2 * (c.P nm2).sz, ?_, ?_⟩
       ·have := Nat.mul_le_mul_right (c.P nm2).sz (Nat.le_of_lt u1); omega
       ·rw [if_pos hle, show hh.toNat - l.toNat = 0 by omega, show (c.P nm2).cap - lo2 - l.toNat = 0 by omega]
      ·refine .inl ⟨by omega, ?_⟩
       rw [if_neg hle]; simp only [Option.map_some, Addr.add_ad, hsz]
       rw [show lo2 + hh.toNat - (lo2 + l.toNat) = hh.toNat - l.toNat by omega, show (c.P nm2).cap - (lo2 + l.toNat) = (c.P nm2).cap - lo2 - l.toNat by omega, Nat.add_mul, Nat.add_assoc]
     ·have hr := run_sliceL (P := P) (te := te) hE hu ht hsl (A := some (ad (c.P nm2).blk oo)) (n := 0) (cp := 0) hl (by rw [show hi2 - lo2 = 0 by omega] at hh'; exact hh') c0 c1 (by omega)
      have h0 : hh = 0 := by omega
      have l0 : l = 0 := by omega
      subst h0; subst l0
      refine goal_val hok hsl hd (s := .v false [.vw nm2 (lo2 + (0 : Int).toNat) (lo2 + (0 : Int).toNat)]) (v := .slice (some (ad (c.P nm2).blk oo)) 0 0) ⟨Nat.le_refl _, by simp; omega, fun hf => (by rw [hq] at hf; cases hf), fun _ => .inr ⟨by simpa using u1, oo, u2, rfl⟩⟩ (fun m hm => by simp [namesSV, namesAV] at hm; subst hm; rw [hg]; simp) (exec ex (by simpa using hr))
   cases ob with
   | row e' ex xs =>
    obtain ⟨hbe, h4⟩ := bif_fail h3
    have := Nat.eq_of_beq_eq_true hbe; subst this
    obtain ⟨i1, i2, ti, i3, i4, i5⟩ := obj_row hok hg
    exact main ⟨ti, i3, i4⟩ (fun hn => by rw [i1, i2 hn]; rfl) (fun h => (i5 h).1) h4
   | frow e' xs =>
    obtain ⟨hbe, h4⟩ := bif_fail h3
    have := Nat.eq_of_beq_eq_true hbe; subst this
    obtain ⟨i1, i2, i3⟩ := obj_frow hok hg
    refine main i3 (fun hn => by rw [i1, i2 hn]; rfl) (fun hnn => ?_) h4
    obtain ⟨j1, j2, _⟩ := hok.obj nm2 _ hg
    rw [hdr_of_pos hnn] at j1
    by_cases hz : 0 < xs.length
    ·obtain ⟨t3, U, L⟩ := j1.lies hz
     rw [j2]; exact L.cap
    ·omega
   | _ => simp at h3
  | inn nm2 i j =>
   obtain ⟨ob, hg, h3⟩ := Rd.bind_some h3
   have hg := getO_some hg
   cases ob with
   | row e' ex xs =>
    cases ex with
    | false => simp at h3
    | true =>
     obtain ⟨t1, ht1, h3⟩ := Rd.bind_some h3
     have ht1 := tyR_some ht1
     split at h3
     ·rename_i e2 hk2
      obtain ⟨hbe, h4⟩ := bif_fail h3
      have := Nat.eq_of_beq_eq_true hbe; subst this
      obtain ⟨⟨hi1, hx⟩, hFv⟩ := ev
      obtain ⟨⟨tj, htj, hsz0, hsh⟩, hat, _⟩ := hok.obj nm2 _ hg
      obtain rfl : t1 = tj := Option.some.inj (ht1.symm.trans htj)
      obtain ⟨zs, y', hy, hyj, uu, _, ti, ht, hpl, hsz, hsh2, hat2⟩ := row_inner (c := c) hat hsh hi1 hk2
      rw [cellAt_some hy hyj] at h4
      obtain ⟨l, hl, h4⟩ := Rd.bind_some h4
      obtain ⟨hh, hh', h4⟩ := Rd.bind_some h4
      obtain ⟨rfl, rfl⟩ := Prod.mk.inj (Option.some.inj h4)
      obtain rfl := Option.some.inj h
      have hc : inB l hh zs.length = true := hc
      have hh' : (optI hi (zs.length : Int)).val σ = some hh := hh'
      simp only [inB, Bool.and_eq_true, decide_eq_true_eq] at hc
      obtain ⟨⟨c0, c1⟩, c2⟩ := hc
      have hn := hat2.n
      cases hq : (c.G nm2 i j).nil with
      | true =>
       rw [hdr_nil hq] at hx
       have hz := (hat2.nil hq).1; subst hz
       have h0 : hh = 0 := by simp at c2; omega
       have l0 : l = 0 := by omega
       subst h0; subst l0
       have hr := run_sliceL (P := P) (te := ti) hE hu ht hsl (A := none) (n := 0) (cp := 0) hl hh' (by omega) (by omega) (by simp)
       refine goal_val hok hsl hd (s := .v false [.iv nm2 i j 0 0]) (v := .slice none 0 0) ⟨⟨hi1, Nat.le_refl _, Nat.zero_le _, fun _ => rfl, fun hf => by rw [hq] at hf; cases hf⟩, hFv⟩ (fun m hm => by simp [namesSV, namesAV] at hm; subst hm; rw [hg]; simp) (exec hx (by simpa using hr))
      | false =>
       rw [hdr_of_pos hq] at hx
       have hcp : (c.G nm2 i j).n <= (c.G nm2 i j).cap := by obtain ⟨_, _, q, _⟩ := hat2.mem hq; exact q
       have hr := run_sliceL (P := P) (te := ti) hE hu ht hsl (A := some (ad (c.G nm2 i j).blk (c.G nm2 i j).off)) (n := (c.G nm2 i j).n) (cp := (c.G nm2 i j).cap) hl (by rw [hn]; exact hh') c0 c1 (by omega)
       refine goal_val hok hsl hd (s := .v false [.iv nm2 i j l.toNat hh.toNat]) ⟨⟨hi1, by omega, by omega, fun hf => (by rw [hq] at hf; cases hf), fun _ => ?_⟩, hFv⟩ (fun m hm => by simp [namesSV, namesAV] at hm; subst hm; rw [hg]; simp) (exec hx hr)
       by_cases hle : (c.G nm2 i j).cap = l.toNat
       ·refine .inr ⟨hle.symm, (c.G nm2 i j).off, by omega, ?_⟩
        rw [if_pos hle, show hh.toNat - l.toNat = 0 by omega, show (c.G nm2 i j).cap - l.toNat = 0 by omega]
       ·refine .inl ⟨by omega, ?_⟩
        rw [if_neg hle]; simp only [Option.map_some, Addr.add_ad, hsz]
     ·simp at h3
   | _ => simp at h3
  | nl =>
   obtain ⟨l, hl, h4⟩ := Rd.bind_some h3
   obtain ⟨hh, hh', h4⟩ := Rd.bind_some h4
   obtain ⟨rfl, rfl⟩ := Prod.mk.inj (Option.some.inj h4)
   obtain rfl := Option.some.inj h
   have hc : inB l hh 0 = true := hc
   simp only [inB, Bool.and_eq_true, decide_eq_true_eq] at hc
   obtain ⟨⟨c0, c1⟩, c2⟩ := hc
   have h0 : hh = 0 := by omega
   have l0 : l = 0 := by omega
   subst h0; subst l0
   have hr := run_sliceL (P := P) (te := te) hE hu hte hsl (A := none) (n := 0) (cp := 0) hl hh' (by omega) (by omega) (by simp)
   exact goal_val hok hsl hd (s := .v false [.nl]) (v := .slice none 0 0) rfl (fun n hn => by simp [namesSV, namesAV] at hn) (exec ev (by simpa using hr))
  | _ => simp [sliceX, sliceL] at h3
 | _ => simp [sliceR] at h3
end
end Go.FG

namespace Go.FG
section
variable {P : Program} {E : Env} {σ : St} {a : Act} {w : World} {c : Cor} {o : Oper} {nm : Nat} {e : Eff}
theorem rowOf_len (hok : Ok E σ w c) {x : AV} {v : Value} (hx : AVOk E w c x v) {el : Nat} {xs : Row} (h : (rowOf E x).val σ = some (el, xs)) : ∃ A cp, v = .slice A xs.length cp := by
 cases x with
 | sh e' ys =>
  obtain ⟨rfl, rfl⟩ := Prod.mk.inj (Option.some.inj h)
  have hx : Holds E w c.K v (.l e' ys) := hx
  cases hx with
  | nl => exact ⟨_, _, rfl⟩
  | l => exact ⟨_, _, rfl⟩
 | own n =>
  obtain ⟨ob, hg, h⟩ := Rd.bind_some h
  have hg := getO_some hg
  have hx : v = hdr (c.P n) := hx
  have main : ∀ ys : Row, (c.P n).n = ys.length -> ((c.P n).nil = true -> ys = []) -> ∃ A cp, v = .slice A ys.length cp := by
   intro ys h1 h2
   cases hq : (c.P n).nil with
   | true => rw [hx, hdr_nil hq, h2 hq]; exact ⟨_, _, rfl⟩
   | false => rw [hx, hdr_of_pos hq, h1]; exact ⟨_, _, rfl⟩
  cases ob with
  | row e' ex ys =>
   obtain ⟨rfl, rfl⟩ := Prod.mk.inj (Option.some.inj h)
   obtain ⟨i1, i2, _⟩ := obj_row hok hg
   exact main _ i1 i2
  | frow e' ys =>
   obtain ⟨rfl, rfl⟩ := Prod.mk.inj (Option.some.inj h)
   obtain ⟨i1, i2, _⟩ := obj_frow hok hg
   exact main _ i1 i2
  | _ => simp at h
 | vw n lo hi =>
  obtain ⟨ob, hg, h⟩ := Rd.bind_some h
  have hg := getO_some hg
  obtain ⟨v1, v2, v3, v4⟩ := hx
  have main : ∀ ys : Row, (c.P n).n = ys.length -> ((c.P n).nil = true -> ys = []) -> ((c.P n).nil = false -> (c.P n).n <= (c.P n).cap) -> ∃ A cp, v = .slice A (view ys lo hi).length cp := by
   intro ys h1 h2 h3
   rw [length_view (by omega)]
   cases hq : (c.P n).nil with
   | true =>
    have := h2 hq; subst this
    rw [v3 hq, show hi - lo = 0 by simp at h1; omega]; exact ⟨_, _, rfl⟩
   | false =>
    rcases v4 hq with ⟨_, h⟩ | ⟨u1, oo, _, h⟩
    ·rw [h]; exact ⟨_, _, rfl⟩
    ·have := h3 hq
     rw [h, show hi - lo = 0 by omega]; exact ⟨_, _, rfl⟩
  cases ob with
  | row e' ex ys =>
   obtain ⟨rfl, rfl⟩ := Prod.mk.inj (Option.some.inj h)
   obtain ⟨i1, i2, ti, _, _, i5⟩ := obj_row hok hg
   exact main _ i1 i2 (fun h => (i5 h).1)
  | frow e' ys =>
   obtain ⟨rfl, rfl⟩ := Prod.mk.inj (Option.some.inj h)
   obtain ⟨i1, i2, _⟩ := obj_frow hok hg
   refine main _ i1 i2 (fun hnn => ?_)
   obtain ⟨j1, j2, _⟩ := hok.obj n _ hg
   rw [hdr_of_pos hnn] at j1
   by_cases hz : 0 < ys.length
   ·obtain ⟨t3, U, L⟩ := j1.lies hz
    rw [j2]; exact L.cap
   ·omega
  | _ => simp at h
 | inn n i j =>
  obtain ⟨ob, hg, h⟩ := Rd.bind_some h
  have hg := getO_some hg
  cases ob with
  | row e' ex ys =>
   cases ex with
   | false => simp at h
   | true =>
   obtain ⟨te, ht, h⟩ := Rd.bind_some h
   have ht := tyR_some ht
   split at h
   ·rename_i e2 hk2
    obtain ⟨rfl, rfl⟩ := Prod.mk.inj (Option.some.inj h)
    obtain ⟨⟨hi1, hx⟩, _⟩ := hx
    obtain ⟨⟨tj, htj, hsz, hsh⟩, hat, _⟩ := hok.obj n _ hg
    obtain rfl : te = tj := Option.some.inj (ht.symm.trans htj)
    obtain ⟨zs, y', hy, hyj, uu, _, tk, htk, hpl, hsz2, hsh2, hat2⟩ := row_inner (c := c) hat hsh hi1 hk2
    rw [cellAt_some hy hyj]
    cases hq : (c.G n i j).nil with
    | true => rw [hx, hdr_nil hq, show cvL (.l e2 zs) = zs from rfl, (hat2.nil hq).1]; exact ⟨_, _, rfl⟩
    | false => rw [hx, hdr_of_pos hq, hat2.n]; exact ⟨_, _, rfl⟩
   ·simp at h
  | _ => simp at h
 | _ => simp [rowOf] at h
theorem exec_builtin {cl : Call} {b : Builtin} (ho : o.op = .call cl) (hb : cl.callee = .builtin b) :
  ∃ cs, (execOp a.eval o).run P w = (builtin b cl.argTypes o.type cs (cl.args.map a.eval)).run P w := by
 unfold execOp; rw [ho]
 simp only [resolve, hb, Sem.run_bind, Sem.run_pure, Result.andThen_ok, invoke]
 exact ⟨_, rfl⟩
theorem toList_one {α : Type} {x : Array α} {y : α} (h : x.toList = [y]) : x = #[y] := by apply Array.ext'; simpa using h
theorem toList_two {α : Type} {x : Array α} {y z : α} (h : x.toList = [y, z]) : x = #[y, z] := by apply Array.ext'; simpa using h
theorem op_len (hE : EnvOk P E) (hok : Ok E σ w c) (hsl : SlOk E σ a w c) (hd : ∀ d, o.dst = some d -> d < a.tmps.size) {cl : Call} (ho : o.op = .call cl) (hb : cl.callee = .builtin .len) (h : (opR E nm o).val σ = some e) : Goal P E σ a w c o e.ws := by
 simp only [opR, ho, hb] at h
 split at h
 ·rename_i x t hx ht
  obtain ⟨k, hk, h⟩ := Rd.bind_some h
  obtain ⟨v, h1, h⟩ := Rd.bind_some h
  obtain ⟨n, h2, h⟩ := Rd.bind_some h
  obtain ⟨ev, kv⟩ := opd1_ok hsl h1
  have hx := toList_one hx
  have ht := toList_one ht
  have exec : ∀ r, (Builtin.len_ #[t] o.type #[a.eval x]).run P w = .ok r w -> (execOp a.eval o).run P w = .ok (.value r) w := by
   intro r hr
   obtain ⟨cs, hcs⟩ := exec_builtin (P := P) (a := a) (w := w) ho hb
   rw [hcs, hx, ht]
   simp only [builtin, List.map_toArray, List.map_cons, List.map_nil]
   exact exec_v hr
  have fin : ∀ m : Nat, n = m -> (Builtin.len_ #[t] o.type #[a.eval x]).run P w = .ok (goInt m) w -> Goal P E σ a w c o e.ws := by
   intro m hm hr
   subst hm
   exact val_goal hok hsl hd h (v := goInt m) rfl (fun n hn => by simp [namesSV, namesAV] at hn) (exec _ hr)
  cases k with
  | s => cases v with
   | s s =>
    obtain rfl := Option.some.inj h2
    have ev : a.eval x = .string s := ev.1
    exact fin s.size rfl (by rw [ev]; simp [Builtin.len_, run_underlying (kindR_string hE hk)])
   | _ => simp [lenR] at h2
  | l el =>
   have hu := kindR_slice hE hk
   have sl : ∀ A (m : Nat) cp, a.eval x = .slice A m cp -> n = m -> Goal P E σ a w c o e.ws := by
    intro A m cp hv hn
    exact fin m hn (by rw [hv]; simp [Builtin.len_, run_underlying hu])
   have gen : ∀ (el' : Nat) (xs : Row), (rowOf E v).val σ = some (el', xs) -> n = xs.length -> Goal P E σ a w c o e.ws := by
    intro el' xs hr hn
    obtain ⟨A, cp, hv⟩ := rowOf_len hok ev hr
    exact sl _ _ _ hv hn
   cases v with
   | nl =>
    obtain rfl := Option.some.inj h2
    exact sl none 0 0 ev rfl
   | vw m lo hi =>
    obtain ⟨ob, hg, h2⟩ := Rd.bind_some h2
    have hg := getO_some hg
    have r1 : ∃ (e1 : Nat) (ys : Row), (rowOf E (.vw m lo hi)).val σ = some (e1, view ys lo hi) /\ (c.P m).n = ys.length /\ n = ((hi - lo : Nat) : Int) := by
     cases ob with
     | row e1 ex ys => exact ⟨e1, ys, by simp [rowOf, getO, hg], (obj_row hok hg).1, (Option.some.inj h2).symm⟩
     | frow e1 ys => exact ⟨e1, ys, by simp [rowOf, getO, hg], (obj_frow hok hg).1, (Option.some.inj h2).symm⟩
     | _ => simp at h2
    obtain ⟨e1, ys, h5, h6, h7⟩ := r1
    refine gen e1 _ h5 ?_
    rw [length_view (by have := ev.2.1; omega)]; exact h7
   | _ =>
    obtain ⟨⟨el', xs⟩, hr, h3⟩ := Rd.bind_some h2
    obtain rfl := Option.some.inj h3
    exact gen el' xs hr rfl
  | _ => simp [lenR] at h2
 ·simp at h
end
end Go.FG

namespace Go.FG
section
variable {P : Program} {E : Env} {σ : St} {a : Act} {w : World} {c : Cor} {o : Oper} {nm : Nat} {e : Eff}
theorem optR_some {α : Type} {x : Option α} {σ : St} {r : α} (h : (optR x).val σ = some r) : x = some r := by
 cases x with
 | none => simp [optR] at h
 | some y => exact h
theorem op_cap (hE : EnvOk P E) (hok : Ok E σ w c) (hsl : SlOk E σ a w c) (hd : ∀ d, o.dst = some d -> d < a.tmps.size) {cl : Call} (ho : o.op = .call cl) (hb : cl.callee = .builtin .cap) (h : (opR E nm o).val σ = some e) : Goal P E σ a w c o e.ws := by
 simp only [opR, ho, hb] at h
 split at h
 ·rename_i x t hx ht
  obtain ⟨k, hk, h⟩ := Rd.bind_some h
  have hx := toList_one hx
  have ht := toList_one ht
  cases k with
  | l el =>
   obtain ⟨v, h1, h⟩ := Rd.bind_some h
   obtain ⟨ev, kv⟩ := opd1_ok hsl h1
   have hu := kindR_slice hE hk
   cases v with
   | nl =>
    refine val_goal hok hsl hd h (v := goInt 0) rfl (fun n hn => by simp [namesSV, namesAV] at hn) ?_
    obtain ⟨cs, hcs⟩ := exec_builtin (P := P) (a := a) (w := w) ho hb
    rw [hcs, hx, ht]
    simp only [builtin, List.map_toArray, List.map_cons, List.map_nil]
    refine exec_v ?_
    rw [show a.eval x = .slice none 0 0 from ev]
    simp [Builtin.cap_, run_underlying hu]
   | _ => simp at h
  | _ => simp at h
 ·simp at h
theorem minmaxR_ok (hsl : SlOk E σ a w c) (mx : Bool) : ∀ (r : List Operand) (k : IntKind) (n : Int) (v : AV), (minmaxR mx r k n).val σ = some v ->
  ∃ m, v = .i k m /\ ((r.map a.eval).foldlM (if mx then Builtin.max2 else Builtin.min2) (.int k n)).run P w = .ok (.int k m) w := by
 intro r
 induction r with
 | nil => intro k n v h; obtain rfl := Option.some.inj h; exact ⟨n, rfl, rfl⟩
 | cons x r ih =>
  intro k n v h
  obtain ⟨⟨k2, m⟩, h1, h2⟩ := Rd.bind_some h
  have hx := opdI_ok hsl h1
  obtain ⟨q, hq, hr⟩ := ih k (minmax mx n m) v h2
  refine ⟨q, hq, ?_⟩
  simp only [List.map_cons, List.foldlM_cons, Sem.run_bind, hx]
  cases mx with
  | true =>
   have : (Builtin.max2 (.int k n) (.int k2 m)).run P w = .ok (.int k (minmax true n m)) w := by simp [Builtin.max2, minmax]
   simp only [if_true, this, Result.andThen_ok] at hr ⊢
   exact hr
  | false =>
   have : (Builtin.min2 (.int k n) (.int k2 m)).run P w = .ok (.int k (minmax false n m)) w := by simp [Builtin.min2, minmax]
   simp only [Bool.false_eq_true, if_false, this, Result.andThen_ok] at hr ⊢
   exact hr
theorem op_minmax (mx : Bool) (hok : Ok E σ w c) (hsl : SlOk E σ a w c) (hd : ∀ d, o.dst = some d -> d < a.tmps.size) {cl : Call} (ho : o.op = .call cl) (hb : cl.callee = .builtin (if mx then .max else .min)) (h : (opR E nm o).val σ = some e) : Goal P E σ a w c o e.ws := by
 have main : ∀ x r, cl.args.toList = x :: r -> ((opdI x).bind fun (k, n) => (minmaxR mx r k n).bind fun v => val1 o v).val σ = some e -> Goal P E σ a w c o e.ws := by
  intro x r hx h
  obtain ⟨⟨k, n⟩, h1, h⟩ := Rd.bind_some h
  obtain ⟨v, h2, h⟩ := Rd.bind_some h
  have ex := opdI_ok hsl h1
  obtain ⟨m, rfl, hr⟩ := minmaxR_ok (P := P) hsl mx r k n v h2
  refine val_goal hok hsl hd h (v := .int k m) rfl (fun n hn => by simp [namesSV, namesAV] at hn) ?_
  obtain ⟨cs, hcs⟩ := exec_builtin (P := P) (a := a) (w := w) ho hb
  have hargs : cl.args.map a.eval = ((x :: r).map a.eval).toArray := by rw [<- hx]; apply Array.ext'; simp
  rw [hcs, hargs]
  cases mx with
  | true =>
   simp only [if_true, builtin]
   refine exec_v ?_
   simp only [Builtin.max_, List.map_cons, ex]
   exact hr
  | false =>
   simp only [Bool.false_eq_true, if_false, builtin]
   refine exec_v ?_
   simp only [Builtin.min_, List.map_cons, ex]
   exact hr
 cases mx with
 | true =>
  simp only [opR, ho, hb, if_true] at h
  split at h
  ·rename_i x r hx; exact main x r hx h
  ·simp at h
 | false =>
  simp only [opR, ho, hb, Bool.false_eq_true, if_false] at h
  split at h
  ·rename_i x r hx; exact main x r hx h
  ·simp at h
theorem run_binI {op : BinOp} {t : Nat} {k : IntKind} {m n : Int} {b : Bool} {v : AV} (hs : isSh op = false) (h : binI op k m n = some (b, v)) (hb : b = true) :
  ∃ u, AVOk E w c v u /\ namesAV v = [] /\ (binOp op t (.int k m) (.int k n)).run P w = .ok u w := by
 subst hb
 cases op <;> simp only [binI, Option.some.injEq, Prod.mk.injEq, true_and, reduceCtorEq] at h <;> first | (simp [isSh] at hs; done) | skip
 case quo =>
  obtain ⟨h1, rfl⟩ := h
  have hn : ¬ n = 0 := by simpa using h1
  exact ⟨_, rfl, rfl, by simp [binOp, Op.intDiv, hn]⟩
 case rem =>
  obtain ⟨h1, rfl⟩ := h
  have hn : ¬ n = 0 := by simpa using h1
  exact ⟨_, rfl, rfl, by simp [binOp, Op.intDiv, hn]⟩
 all_goals (subst h; exact ⟨_, rfl, rfl, by simp [binOp, Op.intArith, Op.intBits, Op.intCmp]⟩)
theorem run_binS {op : BinOp} {t : Nat} {m n : ByteArray} {b : Bool} {v : AV} (hs : isSh op = false) (h : binS op m n = some (b, v)) (hb : b = true) :
  ∃ u, AVOk E w c v u /\ namesAV v = [] /\ (binOp op t (.string m) (.string n)).run P w = .ok u w := by
 subst hb
 cases op <;> simp only [binS, Option.some.injEq, Prod.mk.injEq, true_and, reduceCtorEq] at h <;> first | (simp [isSh] at hs; done) | skip
 case add =>
  obtain ⟨h1, rfl⟩ := h
  have h1 := of_decide_eq_true h1
  refine ⟨_, ⟨rfl, by unfold okS; rw [ByteArray.size_append]; omega⟩, rfl, ?_⟩
  have : ¬ (((m.size + n.size : Nat) : Int) > IntKind.i64.max) := by
   have : IntKind.i64.max = 9223372036854775807 := by decide
   omega
  simp only [binOp, Op.stringOp, if_neg this, Sem.run_pure]
 all_goals (subst h; exact ⟨_, rfl, rfl, by simp [binOp, Op.stringOp]⟩)
theorem run_eqGuard_plain {op : BinOp} {t : Nat} {x y : Operand} {u v : Value} (hu : ∀ xs, u ≠ .agg xs) (hn : u ≠ .nilIface) : (eqGuard op t x y u v).run P w = .ok () w := by
 unfold eqGuard
 cases op <;> cases u <;> first | rfl | (exact absurd rfl (hu _)) | (exact absurd rfl hn) | (cases v <;> rfl)
theorem run_bin_bool {P : Program} (w : World) {t : Nat} (h : P.underlying t = some .bool) (m n : Bool) : (binOp .eql t (.bool m) (.bool n)).run P w = .ok (.bool (m == n)) w /\ (binOp .neq t (.bool m) (.bool n)).run P w = .ok (.bool !(m == n)) w := by
 have h1 : (Op.equal t (.bool m) (.bool n)).run P w = .ok (m == n) w := by
  show (Op.equalIn (9999 + 1) t (.bool m) (.bool n)).run P w = _
  exact run_equalIn_bool w 9999 t m n h
 simp only [binOp, Sem.run_bind, h1, Result.andThen_ok, Sem.run_pure]
 exact ⟨trivial, trivial⟩
theorem plain_vals {xs : List AV} {ks : List Ck} (hk : xs.map kdAV = ks) (hp : plain ks = true) {vals : Array Value} (hs : vals.size = xs.length) (hv : ∀ (j : Nat) (a : AV), xs[j]? = some a -> ∃ u : Value, vals[j]? = some u /\ AVOk E w c a u) : vals = (xs.map valAV).toArray := by
 apply Array.ext'
 apply List.ext_getElem?
 intro j
 simp only [Array.getElem?_toList, List.getElem?_map]
 cases hx : xs[j]? with
 | none =>
  have := List.getElem?_eq_none_iff.1 hx
  simp; omega
 | some a =>
  obtain ⟨u, hu, ha⟩ := hv j a hx
  rw [hu]
  have hm : kdAV a ∈ ks := by rw [<- hk]; exact List.mem_map.2 ⟨a, List.mem_of_getElem? hx, rfl⟩
  have hp' := List.all_eq_true.1 hp _ hm
  cases a <;> simp [kdAV] at hp' <;> first | (have h1 : u = _ := ha; rw [h1]; rfl) | (have h1 : u = _ := ha.1; rw [h1]; rfl)
theorem binR_ok (hE : EnvOk P E) {op : BinOp} {t : Nat} {x y : Operand} {sx sy : SV} {ux uy : Value} (ex : SVOk E w c sx ux) (ey : SVOk E w c sy uy) {b : Bool} {v : AV} (h3 : (binR E t op sx sy).val σ = some (b, v)) (hc : b = true) :
  ∃ u, AVOk E w c v u /\ namesAV v = [] /\ (do eqGuard op t x y ux uy; binOp op t ux uy).run P w = .ok u w := by
 have fin : ∀ u, AVOk E w c v u -> namesAV v = [] -> (do eqGuard op t x y ux uy; binOp op t ux uy).run P w = .ok u w -> ∃ u, AVOk E w c v u /\ namesAV v = [] /\ (do eqGuard op t x y ux uy; binOp op t ux uy).run P w = .ok u w :=
  fun u hu hn hr => ⟨u, hu, hn, hr⟩
 have pl : ∀ u1 u2 r, ux = u1 -> uy = u2 -> (∀ xs, u1 ≠ .agg xs) -> u1 ≠ .nilIface -> (binOp op t u1 u2).run P w = .ok r w -> (do eqGuard op t x y ux uy; binOp op t ux uy).run P w = .ok r w := by
  intro u1 u2 r h1 h2 h3 h4 h5
  rw [h1, h2]
  simp only [Sem.run_bind, run_eqGuard_plain (P := P) (w := w) (op := op) (t := t) (x := x) (y := y) (v := u2) h3 h4, Result.andThen_ok, h5]
 unfold binR at h3
 split at h3
 ·rename_i p q
  have ex : AVOk E w c p ux := ex
  have ey : AVOk E w c q uy := ey
  cases hsh : isSh op with
  | true =>
   rw [hsh] at h3
   replace h3 := optR_some h3
   cases p <;> cases q <;> first | (simp [shV] at h3; done) | skip
   cases op <;> simp only [shV, Option.some.injEq, Prod.mk.injEq, reduceCtorEq] at h3 <;> (obtain ⟨rfl, rfl⟩ := h3)
   ·refine fin _ rfl rfl (pl _ _ _ ex ey (by simp) (by simp) ?_)
    have : ¬ (_ : Int) < 0 := Int.not_lt.2 (of_decide_eq_true hc)
    simp [binOp, Op.shift, this]
   ·refine fin _ rfl rfl (pl _ _ _ ex ey (by simp) (by simp) ?_)
    have : ¬ (_ : Int) < 0 := Int.not_lt.2 (of_decide_eq_true hc)
    simp [binOp, Op.shift, this]
  | false =>
   rw [hsh] at h3
   obtain ⟨k, hk, h3⟩ := Rd.bind_some h3
   replace h3 := optR_some h3
   cases p with
   | i k1 m =>
    cases q with
    | i k2 n =>
     have h9 := h3
     simp only [binV] at h9
     split at h9
     ·rename_i hkk; subst hkk
      obtain ⟨u, hu, hn, hr⟩ := run_binI (P := P) (t := t) (E := E) (c := c) (w := w) hsh h9 hc
      exact fin u hu hn (pl _ _ _ ex ey (by simp) (by simp) hr)
     ·cases h9
    | _ => simp [binV] at h3
   | s m =>
    cases q with
    | s n =>
     obtain ⟨u, hu, hn, hr⟩ := run_binS (P := P) (t := t) (E := E) (c := c) (w := w) hsh h3 hc
     exact fin u hu hn (pl _ _ _ ex.1 ey.1 (by simp) (by simp) hr)
    | _ => simp [binV] at h3
   | b m =>
    cases q with
    | b n =>
     have hbool : k = .b -> P.underlying t = some .bool := by
      rintro rfl
      obtain ⟨ti, q1, q2, q3⟩ := kindR_some hk
      obtain ⟨d, hd', _, hn⟩ := hE.desc t ti q1
      rcases hn q2 with ⟨k, h, _⟩ | ⟨h, rfl⟩ | ⟨h, _⟩ | ⟨e', h, _⟩ | ⟨h, _⟩ <;> rw [q3] at h <;> simp_all
     cases op <;> cases k <;> simp only [binV, Option.some.injEq, Prod.mk.injEq, reduceCtorEq] at h3 <;> (obtain ⟨rfl, rfl⟩ := h3)
     ·refine fin _ rfl rfl (pl _ _ _ ex ey (by simp) (by simp) ?_)
      exact (run_bin_bool (P := P) w (hbool rfl) _ _).1
     ·refine fin _ rfl rfl (pl _ _ _ ex ey (by simp) (by simp) ?_)
      exact (run_bin_bool (P := P) w (hbool rfl) _ _).2
    | _ => simp [binV] at h3
   | _ => simp [binV] at h3
 ·rename_i xs ys
  obtain ⟨ti, ht, h3⟩ := Rd.bind_some h3
  have ht := tyR_some ht
  obtain ⟨h4, h3⟩ := bif_fail h3
  simp only [Bool.and_eq_true] at h4
  obtain ⟨⟨⟨⟨h5, h6⟩, h7⟩, h8⟩, h9⟩ := h4
  have h7 := cksB_eq h7
  have h8 := cksB_eq h8
  replace h3 := optR_some h3
  obtain ⟨X, hX, sX, vX⟩ := ex
  obtain ⟨Y, hY, sY, vY⟩ := ey
  have eX := plain_vals h7 h9 sX vX
  have eY := plain_vals h8 h9 sY vY
  cases hq : eqC xs ys with
  | none => rw [hq] at h3; cases h3
  | some r =>
   rw [hq] at h3
   obtain ⟨r1, r2⟩ := hE.eq t ti h6 ht w x y xs ys r hq h7 h8
   cases op <;> first | (simp [isEq] at h5; done) | skip
   ·obtain ⟨_, rfl⟩ := Prod.mk.inj (Option.some.inj h3)
    exact fin _ rfl rfl (by rw [hX, hY, eX, eY]; exact r1)
   ·obtain ⟨_, rfl⟩ := Prod.mk.inj (Option.some.inj h3)
    exact fin _ rfl rfl (by rw [hX, hY, eX, eY]; exact r2)
 ·simp at h3
theorem op_binOp (hE : EnvOk P E) (hok : Ok E σ w c) (hsl : SlOk E σ a w c) (hd : ∀ d, o.dst = some d -> d < a.tmps.size) {op : BinOp} {t ty : Nat} {x y : Operand} (ho : o.op = .binOp op t x y ty) (h : (opR E nm o).val σ = some e) (hc : e.cond = true) : Goal P E σ a w c o e.ws := by
 simp only [opR, ho] at h
 obtain ⟨sx, h1, h⟩ := Rd.bind_some h
 obtain ⟨sy, h2, h⟩ := Rd.bind_some h
 obtain ⟨⟨b, v⟩, h3, h⟩ := Rd.bind_some h
 obtain rfl := Option.some.inj h
 obtain ⟨u, hu, hn, hr⟩ := binR_ok (P := P) (x := x) (y := y) hE (opd_ok hsl h1).1 (opd_ok hsl h2).1 h3 hc
 refine goal_val hok hsl hd (s := .v false [v]) hu (fun n hn' => by simp [namesSV, hn] at hn') ?_
 unfold execOp; rw [ho]
 exact exec_v hr
end
end Go.FG

namespace Go.FG
theorem vw_own {p : Pl} (hn : p.nil = false -> p.n <= p.cap) (hz : p.nil = true -> p.n = 0) : VwAt p 0 p.n (hdr p) := by
 refine ⟨Nat.zero_le _, Nat.le_refl _, fun h => hdr_nil h, fun h => ?_⟩
 rw [hdr_of_pos h]
 by_cases hc : p.cap = 0
 ·refine .inr ⟨hc.symm, p.off, Nat.le_add_right _ _, ?_⟩
  have := hn h
  rw [hc, show p.n = 0 by omega]
 ·refine .inl ⟨by omega, ?_⟩
  simp
theorem view_all (xs : Row) : view xs 0 xs.length = xs := by unfold view; simp
def SrcOk (w : World) (v : Value) (xs : Row) (sz : Nat) (R : Nat -> Nat -> Value -> CV -> Prop) : Prop :=
 ∃ A cp, v = .slice A xs.length cp /\ (xs ≠ [] -> ∃ b o, A = some (ad b o) /\ ∀ (i : Nat) (y : List CV) (j : Nat) (x : CV), xs[i]? = some y -> y[j]? = some x -> ∃ u : Value, w.cell? (ad b (o + i * sz + j)) = some u /\ R i j u x)
theorem SrcOk.imp {w : World} {v : Value} {xs : Row} {sz : Nat} {R R' : Nat -> Nat -> Value -> CV -> Prop} (h : SrcOk w v xs sz R) (hR : ∀ (i : Nat) (y : List CV) (j : Nat) (x : CV) (u : Value), xs[i]? = some y -> y[j]? = some x -> R i j u x -> R' i j u x) : SrcOk w v xs sz R' := by
 obtain ⟨A, cp, h1, h2⟩ := h
 refine ⟨A, cp, h1, fun hne => ?_⟩
 obtain ⟨b, o, h3, h4⟩ := h2 hne
 refine ⟨b, o, h3, fun i y j x hi hj => ?_⟩
 obtain ⟨u, hu, hr⟩ := h4 i y j x hi hj
 exact ⟨u, hu, hR i y j x u hi hj hr⟩
theorem src_vw {w : World} {p : Pl} {xs : Row} {R : Nat -> Nat -> Value -> CV -> Prop} {lo hi : Nat} {v : Value} (h : RowAt w p xs R) (hv : VwAt p lo hi v) : SrcOk w v (view xs lo hi) p.sz (fun i j u x => R (lo + i) j u x) := by
 obtain ⟨v1, v2, v3, v4⟩ := hv
 have hl := length_view (xs := xs) (lo := lo) (hi := hi) (by rw [<- h.n]; exact v2)
 cases hq : p.nil with
 | true =>
  have hx := (h.nil hq).1
  have h0 := h.n
  rw [hx] at h0
  refine ⟨none, 0, ?_, fun hne => absurd (by rw [hx]; unfold view; simp) hne⟩
  rw [v3 hq, hl]
  have : p.n = 0 := h0
  congr 1; omega
 | false =>
  obtain ⟨vals, hb, hnc, hcm, hfit, hc⟩ := h.mem hq
  rcases v4 hq with ⟨u1, rfl⟩ | ⟨u1, oo, u2, rfl⟩
  ·refine ⟨_, _, by rw [hl], fun hne => ⟨_, _, rfl, fun i y j x hi' hj => ?_⟩⟩
   rw [view_get] at hi'
   split at hi'
   ·obtain ⟨u, hu, hr⟩ := hc (lo + i) y j x hi' hj
    refine ⟨u, ?_, hr⟩
    rw [hb.cell, <- hu]; congr 1; rw [Nat.add_mul]; omega
   ·cases hi'
  ·have h0 : hi - lo = 0 := by omega
   refine ⟨_, _, by rw [hl, h0], fun hne => absurd (List.eq_nil_of_length_eq_zero (hl.trans h0)) hne⟩
theorem holds_vw {E : Env} {w : World} {K : Nat -> Prop} {p : Pl} {e : Nat} {te : TI} {xs : Row} (he : E.ty e = some te) (h : Holds E w K (hdr p) (.l e xs)) (hn : p.n = xs.length) (hs : p.sz = te.ks.length) {lo hi : Nat} {v : Value} (hv : VwAt p lo hi v) : Holds E w K v (.l e (view xs lo hi)) := by
 obtain ⟨v1, v2, v3, v4⟩ := hv
 have hl := length_view (xs := xs) (lo := lo) (hi := hi) (by rw [<- hn]; exact v2)
 have nil : hi - lo = 0 -> view xs lo hi = [] := fun h0 => List.eq_nil_of_length_eq_zero (hl.trans h0)
 cases hq : p.nil with
 | true =>
  rw [hdr_nil hq] at h
  have hx : xs = [] := by cases h; rfl
  subst hx
  have hn : p.n = 0 := hn
  rw [v3 hq, nil (by omega)]; exact .nl _ _ _
 | false =>
  rw [hdr_of_pos hq] at h
  rcases v4 hq with ⟨u1, rfl⟩ | ⟨u1, oo, u2, rfl⟩
  ·have := (holds_cut (lo := lo) (hi := hi) he h v1 (by rw [<- hn]; exact v2)).2
   rw [if_neg (by omega)] at this
   simpa only [Option.map_some, Addr.add_ad, hs] using this
  ·by_cases hz : hi - lo = 0
   ·rw [nil hz]; exact .nl _ _ _
   ·have h1 : 0 < xs.length := by omega
    obtain ⟨t3, U, L⟩ := h.lies h1
    have := L.cap
    omega
theorem src_holds {E : Env} {w : World} {K : Nat -> Prop} {v : Value} {e : Nat} {te : TI} {xs : Row} (he : E.ty e = some te) (h : Holds E w K v (.l e xs)) : SrcOk w v xs te.ks.length (fun _ _ u x => Holds E w K u x) /\ ∀ y ∈ xs, y.map CV.kd = te.ks := by
 cases h with
 | nl => exact ⟨⟨_, _, rfl, fun h => absurd rfl h⟩, fun y hy => by cases hy⟩
 | l _ _ b o cp ti U ht hc hm hK hs hcell hin =>
  obtain rfl : te = ti := Option.some.inj (he.symm.trans ht)
  exact ⟨⟨_, _, rfl, fun _ => ⟨b, o, rfl, fun i y j x hi hj => ⟨U i j, hcell i j y x hi hj, hin i j y x hi hj⟩⟩⟩, hs⟩
theorem holds_scal {E : Env} {w : World} {K : Nat -> Prop} {u : Value} {x : CV} (h : Holds E w K u x) (hl : isL x = false) : Sc u x := by
 cases h with
 | i => exact ⟨rfl, trivial⟩
 | b => exact ⟨rfl, trivial⟩
 | s _ h => exact ⟨rfl, h⟩
 | nl => simp [isL] at hl
 | l => simp [isL] at hl
theorem scal_holds {E : Env} {w : World} {K : Nat -> Prop} {u : Value} {x : CV} (hl : isL x = false) (h : Sc u x) : Holds E w K u x := by
 obtain ⟨h1, h2⟩ := h
 subst h1
 cases x with
 | i k n => exact .i k n
 | b x => exact .b x
 | s x => exact .s x h2
 | l => simp [isL] at hl
theorem xc_scal {E : Env} {w : World} {G : Nat -> Nat -> Pl} {i j : Nat} {u : Value} {x : CV} (h : XC E w G i j u x) (hl : isL x = false) : Sc u x := by
 cases x with
 | l => simp [isL] at hl
 | i => exact h
 | b => exact h
 | s => exact h
theorem scal_xc {E : Env} {w : World} {G : Nat -> Nat -> Pl} {i j : Nat} {u : Value} {x : CV} (hl : isL x = false) (h : Sc u x) : XC E w G i j u x := by
 cases x with
 | l => simp [isL] at hl
 | i => exact h
 | b => exact h
 | s => exact h
theorem SrcOk.list {w : World} {v : Value} {xs : Row} {sz : Nat} {R : Nat -> Nat -> Value -> CV -> Prop} (h : SrcOk w v xs sz R) (hs : ∀ y ∈ xs, y.length = sz) :
  ∃ (A : Option Addr) (cp : Nat) (news : List Value), v = .slice A xs.length cp /\ news.length = xs.length * sz /\ (xs = [] \/ ∃ b o, A = some (ad b o) /\ ∀ j u, news[j]? = some u -> w.cell? (ad b (o + j)) = some u) /\
   ∀ (i : Nat) (y : List CV) (j : Nat) (x : CV), xs[i]? = some y -> y[j]? = some x -> ∃ u : Value, news[i * sz + j]? = some u /\ R i j u x := by
 obtain ⟨A, cp, rfl, h2⟩ := h
 by_cases hx : xs = []
 ·subst hx
  exact ⟨A, cp, [], rfl, by simp, .inl rfl, fun i y j x hi hj => by simp at hi⟩
 ·obtain ⟨b, o, h3, h4⟩ := h2 hx
  have ex : ∀ q, q < xs.length * sz -> ∃ u, w.cell? (ad b (o + q)) = some u := by
   intro q hq
   have hsz : 0 < sz := by rcases Nat.eq_zero_or_pos sz with h | h; (subst h; simp at hq); exact h
   have hi : q / sz < xs.length := by rw [Nat.div_lt_iff_lt_mul hsz]; exact hq
   have hj : q % sz < xs[q / sz].length := by rw [hs _ (List.getElem_mem hi)]; exact Nat.mod_lt _ hsz
   obtain ⟨u, hu, _⟩ := h4 (q / sz) xs[q / sz] (q % sz) (xs[q / sz][q % sz]) (by simp [hi]) (by simp [hj])
   refine ⟨u, ?_⟩
   rw [<- hu]; congr 2
   have := Nat.div_add_mod q sz
   rw [Nat.mul_comm] at this; omega
  refine ⟨A, cp, (List.range (xs.length * sz)).map (fun q => (w.cell? (ad b (o + q))).getD undef), rfl, by simp, .inr ⟨b, o, h3, fun j u hj => ?_⟩, fun i y j x hi hj => ?_⟩
  ·rw [List.getElem?_map] at hj
   by_cases hjl : j < xs.length * sz
   ·obtain ⟨u', hu'⟩ := ex j hjl
    simp only [hjl, List.getElem?_range, Option.map_some, hu', Option.getD_some, Option.some.injEq] at hj
    rw [hu', hj]
   ·rw [List.getElem?_eq_none (l := List.range (xs.length * sz)) (by simpa using hjl)] at hj; cases hj
  ·obtain ⟨u, hu, hr⟩ := h4 i y j x hi hj
   refine ⟨u, ?_, hr⟩
   have hil := (List.getElem?_eq_some_iff.1 hi).1
   have hjl := (List.getElem?_eq_some_iff.1 hj).1
   rw [hs y (List.mem_of_getElem? hi)] at hjl
   have hlt : i * sz + j < xs.length * sz := by
    have : (i + 1) * sz <= xs.length * sz := Nat.mul_le_mul_right _ hil
    rw [Nat.add_mul] at this; omega
   rw [List.getElem?_map, List.getElem?_range hlt, Option.map_some]
   rw [show o + (i * sz + j) = o + i * sz + j by omega, hu]; rfl
section
variable {P : Program} {E : Env} {σ : St} {a : Act} {w : World} {c : Cor} {o : Oper} {nm : Nat} {e : Eff}
theorem row_src (hok : Ok E σ w c) {nm e : Nat} {ex : Bool} {xs : Row} (h : σ (obk nm) = .o (.row e ex xs)) {lo hi : Nat} {v : Value} (hv : VwAt (c.P nm) lo hi v) :
  ∃ te, E.ty e = some te /\ (∀ y ∈ view xs lo hi, y.map CV.kd = te.ks) /\ SrcOk w v (view xs lo hi) te.ks.length (fun i j u x => if ex = true then XC E w (c.G nm) (lo + i) j u x else Holds E w c.K u x) := by
 obtain ⟨⟨ti, h1, h2, h3⟩, h4, _⟩ := hok.obj nm _ h
 have := src_vw h4 hv
 rw [h2] at this
 exact ⟨ti, h1, fun y hy => h3 y (mem_view hy), this⟩
theorem row_vw_own (hok : Ok E σ w c) {nm e : Nat} {ex : Bool} {xs : Row} (h : σ (obk nm) = .o (.row e ex xs)) : VwAt (c.P nm) 0 xs.length (hdr (c.P nm)) := by
 obtain ⟨h1, h2, ti, h3, h4, h5⟩ := obj_row hok h
 rw [<- h1]
 exact vw_own (fun hn => (h5 hn).1) (fun hn => by rw [h1, h2 hn]; rfl)
theorem frow_vw_own (hok : Ok E σ w c) {nm e : Nat} {xs : Row} (h : σ (obk nm) = .o (.frow e xs)) : VwAt (c.P nm) 0 xs.length (hdr (c.P nm)) := by
 obtain ⟨h1, h2, ti, h3, h4⟩ := obj_frow hok h
 rw [<- h1]
 refine vw_own (fun hn => ?_) (fun hn => by rw [h1, h2 hn]; rfl)
 obtain ⟨j1, j2, _⟩ := hok.obj nm _ h
 rw [hdr_of_pos hn] at j1
 by_cases hz : 0 < xs.length
 ·obtain ⟨t3, U, L⟩ := j1.lies hz
  rw [j2]; exact L.cap
 ·omega
theorem frow_holds (hok : Ok E σ w c) {nm e : Nat} {xs : Row} (h : σ (obk nm) = .o (.frow e xs)) {lo hi : Nat} {v : Value} (hv : VwAt (c.P nm) lo hi v) : Holds E w c.K v (.l e (view xs lo hi)) := by
 obtain ⟨h1, h2, ti, h3, h4⟩ := hok.obj nm _ h
 exact holds_vw h3 h1 h2 h4 hv
theorem inn_row (hok : Ok E σ w c) {nm e e2 i j : Nat} {xs : Row} {te : TI} (h : σ (obk nm) = .o (.row e true xs)) (ht : E.ty e = some te) (hk : te.ks[j]? = some (.l e2)) (hi : i < (c.P nm).n) :
  ∃ ys y t2, xs[i]? = some y /\ y[j]? = some (.l e2 ys) /\ E.ty e2 = some t2 /\ plain t2.ks = true /\ (c.G nm i j).sz = t2.ks.length /\ (∀ y ∈ ys, y.map CV.kd = t2.ks) /\ RowAt w (c.G nm i j) ys (fun _ _ u x => Sc u x) /\ VwAt (c.G nm i j) 0 ys.length (hdr (c.G nm i j)) := by
 obtain ⟨⟨tj, htj, hsz, hsh⟩, hat, _⟩ := hok.obj nm _ h
 obtain rfl : te = tj := Option.some.inj (ht.symm.trans htj)
 obtain ⟨zs, y, hy, hyj, uu, _, tk, htk, hpl, hsz2, hsh2, hat2⟩ := row_inner (c := c) hat hsh hi hk
 refine ⟨zs, y, tk, hy, hyj, htk, hpl, hsz2, hsh2, hat2, ?_⟩
 have := vw_own (p := c.G nm i j) (fun hn => by obtain ⟨_, _, q, _⟩ := hat2.mem hn; exact q) (fun hn => by rw [hat2.n, (hat2.nil hn).1]; rfl)
 rwa [hat2.n] at this
theorem holds_len {E : Env} {w : World} {K : Nat -> Prop} {v : Value} {e : Nat} {xs : Row} (h : Holds E w K v (.l e xs)) : xs.length <= maxLen := by
 cases h with
 | nl => exact Nat.zero_le _
 | l _ _ b o cp ti U ht hc hm => exact Nat.le_trans hc hm
theorem rowAt_len {w : World} {p : Pl} {xs : Row} {R : Nat -> Nat -> Value -> CV -> Prop} (h : RowAt w p xs R) : xs.length <= maxLen := by
 cases hn : p.nil with
 | true => rw [(h.nil hn).1]; exact Nat.zero_le _
 | false =>
  obtain ⟨vals, _, h2, h3, _⟩ := h.mem hn
  rw [<- h.n]; exact Nat.le_trans h2 h3
theorem view_len_le (xs : Row) (lo hi : Nat) : (view xs lo hi).length <= xs.length := by unfold view; simp; omega
theorem rowOf_plain (hok : Ok E σ w c) {x : AV} {v : Value} (hx : AVOk E w c x v) {el : Nat} {xs : Row} {te : TI} (h : (rowOf E x).val σ = some (el, xs)) (ht : E.ty el = some te) (hp : plain te.ks = true) :
  SrcOk w v xs te.ks.length (fun _ _ u x => Sc u x) /\ (∀ y ∈ xs, y.map CV.kd = te.ks) /\ xs.length <= maxLen := by
 have ofH : ∀ {xs : Row} {v : Value}, Holds E w c.K v (.l el xs) -> SrcOk w v xs te.ks.length (fun _ _ u x => Sc u x) /\ (∀ y ∈ xs, y.map CV.kd = te.ks) /\ xs.length <= maxLen := by
  intro xs v hh
  obtain ⟨h1, h2⟩ := src_holds ht hh
  exact ⟨h1.imp fun i y j x u hi hj hr => holds_scal hr (plain_kd hp (h2 y (List.mem_of_getElem? hi)) hj), h2, holds_len hh⟩
 have ofR : ∀ {nm : Nat} {ex : Bool} {xs : Row} {lo hi : Nat} {v : Value}, σ (obk nm) = .o (.row el ex xs) -> VwAt (c.P nm) lo hi v -> SrcOk w v (view xs lo hi) te.ks.length (fun _ _ u x => Sc u x) /\ (∀ y ∈ view xs lo hi, y.map CV.kd = te.ks) /\ (view xs lo hi).length <= maxLen := by
  intro nm ex xs lo hi v hg hv
  obtain ⟨t2, q1, q2, q3⟩ := row_src hok hg hv
  obtain rfl : te = t2 := Option.some.inj (ht.symm.trans q1)
  refine ⟨q3.imp fun i y j x u hi hj hr => ?_, q2, Nat.le_trans (view_len_le _ _ _) (rowAt_len (hok.obj nm _ hg).at_)⟩
  have hl := plain_kd hp (q2 y (List.mem_of_getElem? hi)) hj
  split at hr
  ·exact xc_scal hr hl
  ·exact holds_scal hr hl
 cases x with
 | sh e' ys =>
  obtain ⟨rfl, rfl⟩ := Prod.mk.inj (Option.some.inj h)
  exact ofH hx
 | own n =>
  obtain ⟨ob, hg, h⟩ := Rd.bind_some h
  have hg := getO_some hg
  have hx : v = hdr (c.P n) := hx
  subst hx
  cases ob with
  | row e' ex ys =>
   obtain ⟨rfl, rfl⟩ := Prod.mk.inj (Option.some.inj h)
   have := ofR hg (row_vw_own hok hg)
   rwa [view_all] at this
  | frow e' ys =>
   obtain ⟨rfl, rfl⟩ := Prod.mk.inj (Option.some.inj h)
   have := ofH (frow_holds hok hg (frow_vw_own hok hg))
   rwa [view_all] at this
  | _ => simp at h
 | vw n lo hi =>
  obtain ⟨ob, hg, h⟩ := Rd.bind_some h
  have hg := getO_some hg
  cases ob with
  | row e' ex ys =>
   obtain ⟨rfl, rfl⟩ := Prod.mk.inj (Option.some.inj h)
   exact ofR hg hx
  | frow e' ys =>
   obtain ⟨rfl, rfl⟩ := Prod.mk.inj (Option.some.inj h)
   exact ofH (frow_holds hok hg hx)
  | _ => simp at h
 | inn n i j =>
  obtain ⟨ob, hg, h⟩ := Rd.bind_some h
  have hg := getO_some hg
  cases ob with
  | row e' ex ys =>
   cases ex with
   | false => simp at h
   | true =>
   obtain ⟨t1, ht1, h⟩ := Rd.bind_some h
   have ht1 := tyR_some ht1
   split at h
   ·rename_i e2 hk2
    obtain ⟨rfl, rfl⟩ := Prod.mk.inj (Option.some.inj h)
    obtain ⟨⟨hi1, hx⟩, _⟩ := hx
    obtain ⟨zs, y, t2, q1, q2, q3, q4, q5, q6, q7, q8⟩ := inn_row hok hg ht1 hk2 hi1
    obtain rfl : te = t2 := Option.some.inj (ht.symm.trans q3)
    rw [cellAt_some q1 q2]
    have := src_vw q7 q8
    rw [view_all, q5] at this
    subst hx
    exact ⟨this, q6, rowAt_len q7⟩
   ·simp at h
  | _ => simp at h
 | _ => simp [rowOf] at h
end
end Go.FG

namespace Go.FG
def CellsOk (E : Env) (w : World) (c : Cor) (vals : Array Value) (xs : List AV) : Prop :=
 vals.size = xs.length /\ ∀ (j : Nat) (a : AV), xs[j]? = some a -> ∃ u : Value, vals[j]? = some u /\ AVOk E w c a u
theorem VOk.cells {E : Env} {w : World} {c : Cor} {agg : Bool} {xs : List AV} {v : Value} (h : VOk E w c agg xs v) : CellsOk E w c v.cells xs := by
 unfold VOk at h
 split at h
 ·rename_i a
  rw [cells_one h.one]
  refine ⟨rfl, fun j a' hj => ?_⟩
  cases j with
  | zero => simp at hj; subst hj; exact ⟨v, rfl, h⟩
  | succ => simp at hj
 ·obtain ⟨vals, rfl, hs, hv⟩ := h
  exact ⟨hs, hv⟩
 ·exact h.elim
theorem CellsOk.one {E : Env} {w : World} {c : Cor} {xs : List AV} {vals : Array Value} (h : CellsOk E w c vals xs) : ∀ u ∈ vals.toList, u.oneCell' = true := by
 intro u hu
 obtain ⟨j, hj⟩ := List.getElem?_of_mem hu
 have hlt : j < xs.length := by
  rw [<- h.1]; have := (List.getElem?_eq_some_iff.1 hj).1; simpa using this
 obtain ⟨u', h1, h2⟩ := h.2 j xs[j] (by simp [hlt])
 rw [Array.getElem?_toList, h1] at hj
 cases hj; exact h2.one
theorem length_splice {α : Type} {xs ys : List α} {j : Nat} (h : j + ys.length <= xs.length) : (splice xs j ys).length = xs.length := by
 unfold splice; simp; omega
theorem splice_get {α : Type} {xs ys : List α} {j : Nat} (h : j + ys.length <= xs.length) (k : Nat) : (splice xs j ys)[k]? = if j <= k /\ k < j + ys.length then ys[k - j]? else xs[k]? := by
 unfold splice
 by_cases h1 : k < j
 ·rw [if_neg (by omega), List.append_assoc, List.getElem?_append_left (by simp; omega), List.getElem?_take, if_pos h1]
 ·by_cases h2 : k < j + ys.length
  ·rw [if_pos ⟨by omega, h2⟩, List.append_assoc, List.getElem?_append_right (by simp; omega), List.getElem?_append_left (by simp; omega)]
   congr 1; simp; omega
  ·rw [if_neg (by omega), List.append_assoc, List.getElem?_append_right (by simp; omega), List.getElem?_append_right (by simp; omega), List.getElem?_drop]
   congr 1; simp; omega
theorem mem_splice {α : Type} {xs ys : List α} {j : Nat} {x : α} (h : x ∈ splice xs j ys) : x ∈ xs \/ x ∈ ys := by
 unfold splice at h
 simp only [List.mem_append] at h
 rcases h with (h | h) | h
 ·exact .inl (List.mem_of_mem_take h)
 ·exact .inr h
 ·exact .inl (List.mem_of_mem_drop h)
theorem CellsOk.put {E : Env} {w : World} {c : Cor} {xs ys : List AV} {vals vs : Array Value} (h : CellsOk E w c vals xs) (h' : CellsOk E w c vs ys) {j : Nat} (hl : j + ys.length <= xs.length) : CellsOk E w c (putAt vals j vs.toList) (splice xs j ys) := by
 have hb : j + vs.toList.length <= vals.size := by rw [h.1, Array.length_toList, h'.1]; exact hl
 refine ⟨by rw [size_putAt hb, length_splice hl]; exact h.1, fun k a hk => ?_⟩
 rw [splice_get hl] at hk
 rw [putAt_get hb, Array.length_toList, h'.1]
 split at hk
 ·rename_i hc
  rw [if_pos hc, Array.getElem?_toList]; exact h'.2 _ a hk
 ·rename_i hc
  rw [if_neg hc]; exact h.2 k a hk
theorem fold_get (off : Nat) : ∀ (l : List Value) (k : Nat) (cells : Array Value), off + k + l.length <= cells.size ->
  ((l.zipIdx k).foldl (fun r p => r.setIfInBounds (off + p.2) p.1) cells).size = cells.size /\
  ∀ q : Nat, ((l.zipIdx k).foldl (fun r p => r.setIfInBounds (off + p.2) p.1) cells)[q]? = if off + k <= q /\ q < off + k + l.length then l[q - (off + k)]? else cells[q]? := by
 intro l
 induction l with
 | nil => intro k cells _; refine ⟨rfl, fun q => ?_⟩; rw [if_neg (by simp)]; rfl
 | cons v rest ih =>
  intro k cells hl
  simp only [List.length_cons] at hl
  obtain ⟨h1, h2⟩ := ih (k + 1) (cells.setIfInBounds (off + k) v) (by simp; omega)
  simp only [List.zipIdx_cons, List.foldl_cons]
  refine ⟨by rw [h1]; simp, fun q => ?_⟩
  rw [h2 q]
  by_cases hq : q = off + k
  ·subst hq
   rw [if_neg (by omega), if_pos ⟨by omega, by simp⟩, Array.getElem?_setIfInBounds, if_pos rfl, if_pos (by omega)]
   simp
  ·by_cases hr : off + (k + 1) <= q /\ q < off + (k + 1) + rest.length
   ·rw [if_pos hr, if_pos ⟨by omega, by simp; omega⟩]
    rw [show q - (off + k) = (q - (off + (k + 1))) + 1 by omega, List.getElem?_cons_succ]
   ·rw [if_neg hr, if_neg (by simp; omega), Array.getElem?_setIfInBounds, if_neg (fun h => hq h.symm)]
theorem foldl_put {off : Nat} {vs cells : Array Value} (h : off + vs.size <= cells.size) : (vs.zipIdx.foldl (fun r (p : Value × Nat) => r.setIfInBounds (off + p.2) p.1) cells) = putAt cells off vs.toList := by
 rw [<- Array.foldl_toList, Array.toList_zipIdx]
 obtain ⟨h1, h2⟩ := fold_get off vs.toList 0 cells (by simpa using h)
 have hb : off + vs.toList.length <= cells.size := by simpa using h
 apply Array.ext_getElem?
 intro q
 rw [h2 q, putAt_get hb]
 simp
theorem zeroAV_ok {E : Env} {w : World} {c : Cor} {k : Ck} (h : (match k with | .o => false | _ => true) = true) : AVOk E w c (zeroAV k) (zeroV k) := by cases k <;> first | rfl | exact ⟨rfl, Nat.zero_le _⟩ | simp at h
theorem names_zero (k : Ck) : namesAV (zeroAV k) = [] := by cases k <;> rfl
theorem zeros_ok {E : Env} {w : World} {c : Cor} {ks : List Ck} (h : noO ks = true) : CellsOk E w c (ks.map zeroV).toArray (ks.map zeroAV) := by
 refine ⟨by simp, fun j a hj => ?_⟩
 rw [List.getElem?_map] at hj
 cases hk : ks[j]? with
 | none => rw [hk] at hj; cases hj
 | some k =>
  rw [hk] at hj; cases hj
  exact ⟨zeroV k, by simp [hk], zeroAV_ok (List.all_eq_true.1 h k (List.mem_of_getElem? hk))⟩
section
variable {P : Program} {E : Env} {σ : St} {a : Act} {w : World} {c : Cor} {o : Oper} {nm : Nat} {e : Eff}
theorem partsR_ok (hE : EnvOk P E) (hsl : SlOk E σ a w c) {t : Nat} {pl : List (Nat × Nat)} {size : Nat} (hpl : ∀ f o n, E.fo t f = some (o, n) -> pl[f]? = some (o, n) /\ o + n <= size) : ∀ (ps : List (Nat × Operand)) (l : List (Nat × List AV)), (partsR E t ps).val σ = some l ->
  ∀ (vals : Array Value) (xs : List AV), CellsOk E w c vals xs -> xs.length = size -> (∀ a ∈ xs, KnownAV σ a) ->
  ∃ vals', Instr.fill (fun i => pl[i]?) vals (ps.map fun (i, x) => (i, a.eval x)) = some vals' /\ CellsOk E w c vals' (fills xs l) /\ (∀ a ∈ fills xs l, KnownAV σ a) := by
 intro ps
 induction ps with
 | nil => intro l h vals xs hv _ hk; obtain rfl := Option.some.inj h; exact ⟨vals, rfl, hv, hk⟩
 | cons p r ih =>
  obtain ⟨f, x⟩ := p
  intro l h vals xs hv hsz hk
  obtain ⟨v, h1, h⟩ := Rd.bind_some h
  obtain ⟨hov, hkv⟩ := opd_ok hsl h1
  cases v with
  | v g ys =>
   replace h : (match E.fo t f with | some (o, n) => bif Nat.beq ys.length n then (partsR E t r).bind fun l => .ret ((o, ys) :: l) else .fail | none => .fail : Rd (List (Nat × List AV))).val σ = some l := h
   cases hf : E.fo t f with
   | none => rw [hf] at h; simp at h
   | some q =>
    obtain ⟨off, n⟩ := q
    rw [hf] at h
    obtain ⟨hn, h⟩ := bif_fail h
    have hn := Nat.eq_of_beq_eq_true hn
    obtain ⟨l', hl', h⟩ := Rd.bind_some h
    obtain rfl := Option.some.inj h
    obtain ⟨hp1, hp2⟩ := hpl f off n hf
    have hc := VOk.cells hov
    have hfit : off + ys.length <= xs.length := by omega
    obtain ⟨vals', q1, q2, q3⟩ := ih l' hl' (putAt vals off (a.eval x).cells.toList) (splice xs off ys) (hv.put hc hfit) (by rw [length_splice hfit]; exact hsz)
     (fun b hb => by
      rcases mem_splice hb with hb | hb
      ·exact hk b hb
      ·exact fun n hn => hkv n (List.mem_flatMap.2 ⟨b, hb, hn⟩))
    refine ⟨vals', ?_, q2, q3⟩
    simp only [List.map_cons, Instr.fill, hp1]
    have c1 : (a.eval x).cells.size = n := by rw [hc.1, hn]
    have c2 : ¬ (off + (a.eval x).cells.size > vals.size) := by rw [hc.1, hv.1]; omega
    rw [if_neg (by simp [c1]; rw [c1] at c2; omega)]
    have := foldl_put (off := off) (vs := (a.eval x).cells) (cells := vals) (by omega)
    rw [<- q1]
    exact congrArg (fun z => Instr.fill (fun i => pl[i]?) z _) this
  | tup => simp at h
  | un => simp at h
theorem op_build (hE : EnvOk P E) (hok : Ok E σ w c) (hsl : SlOk E σ a w c) (hd : ∀ d, o.dst = some d -> d < a.tmps.size) {t : Nat} {ps : Array (Nat × Operand)} (ho : o.op = .build t ps) (h : (opR E nm o).val σ = some e) : Goal P E σ a w c o e.ws := by
 simp only [opR, ho] at h
 obtain ⟨ti, h1, h⟩ := Rd.bind_some h
 obtain ⟨hb, h⟩ := bif_fail h
 obtain ⟨l, h2, h⟩ := Rd.bind_some h
 have ht := tyR_some h1
 simp only [Bool.and_eq_true] at hb
 obtain ⟨hno, hag⟩ := hb
 obtain ⟨inf, hi, hsz, _, _, hz⟩ := hE.info t ti ht
 obtain ⟨z, hz1, hz2, _⟩ := hz hno
 obtain ⟨d, hd', ha, _⟩ := hE.desc t ti ht
 obtain ⟨fs, rfl, hfs⟩ := ha hag
 obtain ⟨pl, hp1, hp2⟩ := hE.pl t ti ht hag fs hd'
 obtain ⟨vals, q1, q2, q3⟩ := partsR_ok (size := ti.ks.length) hE hsl (fun f o n hf => ⟨hp2 f o n hf, (hfs f o n hf).choose_spec.2.2.2.2⟩) ps.toList l h2 _ _ (zeros_ok (w := w) (c := c) (E := E) hno) (by simp) (fun b hb => by obtain ⟨k, _, rfl⟩ := List.mem_map.1 hb; exact known_nil (names_zero k))
 refine val_goal hok hsl hd h (v := .agg vals) ⟨vals, rfl, q2.1, q2.2⟩ (fun n hn => by obtain ⟨x, hx, hn⟩ := List.mem_flatMap.1 hn; exact q3 x hx n hn) ?_
 unfold execOp; rw [ho]
 refine exec_v (run_build w t _ vals ?_)
 simp only [Program.built, hi, hd', hz1, hp1, hz2, List.getElem?_toArray, Array.toList_map]
 exact q1
theorem op_field (hE : EnvOk P E) (hok : Ok E σ w c) (hsl : SlOk E σ a w c) (hd : ∀ d, o.dst = some d -> d < a.tmps.size) {t f : Nat} {x : Operand} (ho : o.op = .field t x f) (h : (opR E nm o).val σ = some e) : Goal P E σ a w c o e.ws := by
 simp only [opR, ho] at h
 obtain ⟨v, h1, h⟩ := Rd.bind_some h
 obtain ⟨hv, hk⟩ := opd_ok hsl h1
 cases v with
 | v g xs =>
  cases g with
  | true =>
   cases hf : E.fo t f with
   | none => rw [hf] at h; simp at h
   | some r =>
    obtain ⟨j, n⟩ := r
    rw [hf] at h
    obtain ⟨hb, h⟩ := bif_fail h
    rw [Bool.and_eq_true] at hb
    cases hx : xs.drop j with
    | nil => rw [hx] at h; simp at h
    | cons y ys =>
     rw [hx] at h
     have hj : xs[j]? = some y := by
      have := List.getElem?_drop (xs := xs) (i := j) (j := 0)
      rw [hx] at this; simpa using this.symm
     obtain ⟨vals, q1, q2, q3⟩ : ∃ vals : Array Value, a.eval x = .agg vals /\ vals.size = xs.length /\ ∀ (j : Nat) (b : AV), xs[j]? = some b -> ∃ u : Value, vals[j]? = some u /\ AVOk E w c b u := hv
     obtain ⟨u, hu, hav⟩ := q3 j y hj
     obtain ⟨ti, ht, hag⟩ := hE.fo t f j n hf
     obtain ⟨d, hd', ha, _⟩ := hE.desc t ti ht
     obtain ⟨fs, rfl, hfs⟩ := ha hag
     obtain ⟨fd, g1, g2, _⟩ := hfs f j n hf
     have hAg := hE.fl t f hb.1 fs fd hd' g1 w
     refine val_goal hok hsl hd h (s := .v false [y]) (v := u) hav (fun m hm => hk m (List.mem_flatMap.2 ⟨y, List.mem_of_getElem? hj, by simpa [namesSV] using hm⟩)) ?_
     unfold execOp; rw [ho]
     refine exec_v ?_
     simp only [Instr.field, Sem.run_bind, run_underlying hd', Result.andThen_ok, g1, q1, asAgg, Sem.run_pure, part, hAg, Bool.false_eq_true, if_false, g2, hu]
  | false => simp at h
 | tup => simp at h
 | un => simp at h
theorem op_alloc (hE : EnvOk P E) (hok : Ok E σ w c) (hsl : SlOk E σ a w c) (hd : ∀ d, o.dst = some d -> d < a.tmps.size) {t : Nat} (ho : o.op = .alloc t) (h : (opR E nm o).val σ = some e) : Goal P E σ a w c o e.ws := by
 simp only [opR, ho] at h
 obtain ⟨ti, h1, h⟩ := Rd.bind_some h
 obtain ⟨hb, h⟩ := bif_fail h
 obtain ⟨u, h2, h⟩ := Rd.bind_some h
 obtain ⟨hf, hlt⟩ := fresh_some h2
 obtain rfl := Option.some.inj h
 have hr := run_alloc (P := P) w hE (tyR_some h1) hb
 refine goal_new hok hsl hd (p := ⟨false, w.heap.size, 0, 0, 0, 0⟩) (g := fun _ _ => ⟨false, 0, 0, 0, 0, 0⟩) hf hlt (fun c' hP _ _ _ => ?_) (fun c' hP _ b hb => ?_) (fun xs hx b hb => ?_) (fun c' hP _ => ?_) (fun n hn => .inl (by simpa [namesSV, namesAV] using hn)) (fun b hb => heap_alloc_old w _ b hb) (by simp) rfl rfl rfl (v := .pointer (some (ad w.heap.size 0))) (w' := w.alloc (.cells (ti.ks.map zeroV).toArray t)) ?_
 ·obtain ⟨z1, z2⟩ := zeros_ok (E := E) (w := w.alloc (.cells (ti.ks.map zeroV).toArray t)) (c := c') hb
  exact ⟨_, by rw [hP]; exact Blk.alloc w _ t, z1, z2⟩
 ·have : b = (c'.P nm).blk := hb
  rw [this, hP]; exact Nat.le_refl _
 ·cases hx
  obtain ⟨k, _, rfl⟩ := List.mem_map.1 hb
  exact known_nil (names_zero k)
 ·show _ = _
  rw [hP]
 ·unfold execOp; rw [ho]
  exact exec_v hr
theorem op_box (hok : Ok E σ w c) (hsl : SlOk E σ a w c) (hd : ∀ d, o.dst = some d -> d < a.tmps.size) {t : Nat} {x : Operand} (ho : o.op = .box t x) (h : (opR E nm o).val σ = some e) : Goal P E σ a w c o e.ws := by
 simp only [opR, ho] at h
 obtain ⟨v, h1, h⟩ := Rd.bind_some h
 obtain ⟨hv, hk⟩ := opd_ok hsl h1
 cases v with
 | v g xs =>
  obtain ⟨u, h2, h⟩ := Rd.bind_some h
  obtain ⟨hf, hlt⟩ := fresh_some h2
  obtain rfl := Option.some.inj h
  have hr := run_boxI (P := P) w t (a.eval x)
  have kx : ∀ b ∈ xs, KnownAV σ b := fun b hb n hn => hk n (List.mem_flatMap.2 ⟨b, hb, hn⟩)
  have hcl := VOk.cells hv
  refine goal_new hok hsl hd (p := ⟨false, w.heap.size, 0, 0, 0, 0⟩) (g := fun _ _ => ⟨false, 0, 0, 0, 0, 0⟩) hf hlt (fun c' hP _ hK hA => ?_) (fun c' hP _ b hb => ?_) (fun ys hx b hb => ?_) (fun c' hP _ => ?_) (fun n hn => .inl (by simpa [namesSV, namesAV] using hn)) (fun b hb => heap_alloc_old w _ b hb) (by simp) rfl rfl rfl (v := .pointer (some (ad w.heap.size 0))) (w' := w.alloc (.cells (a.eval x).cells t)) ?_
  ·refine ⟨_, by rw [hP]; exact Blk.alloc w _ t, hcl.1, fun j y hj => ?_⟩
   obtain ⟨u, hu, hy⟩ := hcl.2 j y hj
   exact ⟨u, hu, hy.frame (fun b hb => heap_alloc_old w _ b (hok.lt b hb)) hK (fun n hn => hA n (.inl (kx y (List.mem_of_getElem? hj) n hn)))⟩
  ·have : b = (c'.P nm).blk := hb
   rw [this, hP]; exact Nat.le_refl _
  ·cases hx; exact kx b hb
  ·show _ = _
   rw [hP]
  ·unfold execOp; rw [ho]
   exact exec_v hr
 | tup => simp at h
 | un => simp at h
end
end Go.FG

namespace Go.FG
def nilG (E : Env) (ks : List Ck) (_i j : Nat) : Pl :=
 ⟨true, 0, 0, 0, 0, match ks[j]? with | some (.l e) => (match E.ty e with | some t => t.ks.length | none => 0) | _ => 0⟩
theorem innSep_nil {p : Pl} {G : Nat -> Nat -> Pl} {xs : Row} (h : ∀ i j, (G i j).nil = true) : InnSep p G xs :=
 ⟨fun i j _ hn => (by rw [h] at hn; cases hn), fun i j i' j' _ _ hn => (by rw [h] at hn; cases hn)⟩
theorem zero_xc {E : Env} {w : World} {ks : List Ck} (hf : flat E ks = true) (hn : noO ks = true) {i j : Nat} {k : Ck} (hk : ks[j]? = some k) : XC E w (nilG E ks) i j (zeroV k) (zeroCV k) := by
 have h1 := List.all_eq_true.1 hf k (List.mem_of_getElem? hk)
 have h2 := List.all_eq_true.1 hn k (List.mem_of_getElem? hk)
 cases k with
 | l e =>
  replace h1 : (match E.ty e with | some ti => plain ti.ks | none => false) = true := h1
  cases ht : E.ty e with
  | none => rw [ht] at h1; cases h1
  | some t =>
   rw [ht] at h1
   refine ⟨rfl, t, ht, h1, ?_, fun y hy => (by cases hy), ⟨rfl, fun _ => ⟨rfl, rfl⟩, fun h => by cases h⟩⟩
   show (match ks[j]? with | some (.l e) => (match E.ty e with | some t => t.ks.length | none => 0) | _ => 0) = _
   rw [hk]; simp only [ht]
 | o => cases h2
 | s => exact ⟨rfl, Nat.zero_le _⟩
 | _ => exact ⟨rfl, trivial⟩
theorem zero_holds {E : Env} {w : World} {K : Nat -> Prop} {k : Ck} (h2 : (match k with | .o => false | _ => true) = true) : Holds E w K (zeroV k) (zeroCV k) := by
 cases k with
 | o => cases h2
 | i k => exact .i _ _
 | b => exact .b _
 | s => exact .s _ (Nat.zero_le _)
 | l e => exact .nl _ _ _
theorem zero_kd {k : Ck} (h2 : (match k with | .o => false | _ => true) = true) : (zeroCV k).kd = k := by cases k <;> first | rfl | cases h2
theorem zeros_sh {ks : List Ck} (hn : noO ks = true) (n : Nat) : ∀ y ∈ zeros ks n, y.map CV.kd = ks := by
 intro y hy
 rw [(List.mem_replicate.1 hy).2, List.map_map]
 have : ∀ k ∈ ks, (CV.kd ∘ zeroCV) k = k := fun k hk => zero_kd (List.all_eq_true.1 hn k hk)
 conv => rhs; rw [<- List.map_id ks]
 exact List.map_congr_left this
theorem zeros_get {ks : List Ck} {n i j : Nat} {y : List CV} {x : CV} (hi : (zeros ks n)[i]? = some y) (hj : y[j]? = some x) : i < n /\ ∃ k, ks[j]? = some k /\ x = zeroCV k := by
 unfold zeros at hi
 have hlt := (List.getElem?_eq_some_iff.1 hi).1
 rw [List.length_replicate] at hlt
 rw [List.getElem?_replicate, if_pos hlt] at hi
 cases hi
 rw [List.getElem?_map] at hj
 cases hk : ks[j]? with
 | none => rw [hk] at hj; cases hj
 | some k => rw [hk] at hj; cases hj; exact ⟨hlt, k, rfl, rfl⟩
theorem madeCells_get {ks : List Ck} {n i j : Nat} {k : Ck} (hi : i < n) (hk : ks[j]? = some k) : (madeCells (ks.map zeroV).toArray (n * ks.length))[i * ks.length + j]? = some (zeroV k) := by
 have hj := (List.getElem?_eq_some_iff.1 hk).1
 have hlt : i * ks.length + j < n * ks.length := by
  have : (i + 1) * ks.length <= n * ks.length := Nat.mul_le_mul_right _ hi
  rw [Nat.add_mul] at this; omega
 have hm : (i * ks.length + j) % ks.length = j := by rw [Nat.mul_comm, Nat.mul_add_mod]; exact Nat.mod_eq_of_lt hj
 unfold madeCells
 rw [Array.getElem?_map, Array.getElem?_range, if_pos hlt, Option.map_some]
 congr 1
 simp only [List.size_toArray, List.length_map, hm]
 rw [getElem!_def, List.getElem?_toArray, List.getElem?_map, hk]; rfl
theorem kindR_int {P : Program} {E : Env} {σ : St} (hE : EnvOk P E) {t : Nat} {k : IntKind} (h : (kindR E t).val σ = some (.i k)) : P.underlying t = some (.int k) := by
 obtain ⟨ti, h1, h2, h3⟩ := kindR_some h
 obtain ⟨d, hd, _, hn⟩ := hE.desc t ti h1
 rcases hn h2 with ⟨k, h, rfl⟩ | ⟨h, _⟩ | ⟨h, _⟩ | ⟨e', h, _⟩ | ⟨h, _⟩ <;> rw [h3] at h <;> simp_all
theorem desc_u8 {P : Program} {E : Env} (hE : EnvOk P E) {e : Nat} {te : TI} (ht : E.ty e = some te) (h : (u8s te.ks && !te.agg) = true) : te.ks = [.i .u8] /\ P.underlying e = some (.int .u8) := by
 simp only [Bool.and_eq_true, Bool.not_eq_true'] at h
 have hk : te.ks = [.i .u8] := by
  have := h.1
  unfold u8s at this
  split at this
  ·assumption
  ·cases this
 obtain ⟨d, hd, _, hn⟩ := hE.desc e te ht
 refine ⟨hk, ?_⟩
 rcases hn h.2 with ⟨k, h, rfl⟩ | ⟨h, _⟩ | ⟨h, _⟩ | ⟨e', h, _⟩ | ⟨h, _⟩ <;> rw [hk] at h <;> simp_all
section
variable {P : Program} {E : Env} {σ : St} {a : Act} {w : World} {c : Cor} {o : Oper} {nm : Nat} {e : Eff}
theorem run_bytes (hE : EnvOk P E) {src dst el : Nat} {te : TI} (hs : P.underlying src = some (.slice el)) (hd : P.underlying dst = some .string) (he : P.underlying el = some (.int .u8)) (hk : te.ks = [.i .u8]) {v : Value} {xs : Row}
  (h : SrcOk w v xs te.ks.length (fun _ _ u x => Sc u x)) (hsh : ∀ y ∈ xs, y.map CV.kd = te.ks) : (convert src dst v).run P w = .ok (.string (bytesOf xs)) w := by
 obtain ⟨A, cp, rfl, h2⟩ := h
 by_cases hx : xs = []
 ·subst hx
  rw [List.length_nil]
  have e0 : bytesOf [] = ByteArray.empty := rfl
  rw [e0]
  cases A with
  | none => exact run_convert_bytes_nil w src el hs he 0 cp dst hd
  | some ad' =>
   rw [run_convert_bytes_string w src dst el _ 0 cp hs he hd]
   exact run_bytesToString w ad' 0 cp [] rfl
 ·obtain ⟨b, oo, rfl, h3⟩ := h2 hx
  have := run_convert_bytes_arg w src el hs he b oo xs.length cp (xs.map fun y => cvI (y.getD 0 (.b false))) (by simp) (fun i hi => by
   have hy := hsh xs[i] (List.getElem_mem hi)
   rw [hk] at hy
   cases hq : xs[i] with
   | nil => rw [hq] at hy; cases hy
   | cons x r =>
    rw [hq] at hy
    simp only [List.map_cons, List.cons.injEq, List.map_eq_nil_iff] at hy
    obtain ⟨hx1, rfl⟩ := hy
    obtain ⟨u, hu, hr⟩ := h3 i xs[i] 0 x (by simp [hi]) (by rw [hq]; rfl)
    rw [hk] at hu
    simp only [List.length_cons, List.length_nil, Nat.zero_add, Nat.mul_one, Nat.add_zero] at hu
    rw [hu, hr.1]
    cases x with
    | i k n => cases hx1; simp [scal, List.getD, hi, hq, cvI]
    | _ => cases hx1) dst hd
  rw [this]
  unfold strOfNums bytesOf
  rw [List.map_map]; rfl
theorem size_bytesOf (xs : Row) : (bytesOf xs).size = xs.length := by unfold bytesOf; simp [ByteArray.size]
theorem length_rowBytes (s : ByteArray) : (rowBytes s).length = s.size := by unfold rowBytes; simp
theorem rowBytes_get {s : ByteArray} {i j : Nat} {y : List CV} {x : CV} (hi : (rowBytes s)[i]? = some y) (hj : y[j]? = some x) : j = 0 /\ ∃ b, s.data[i]? = some b /\ x = .i .u8 (b.toNat : Int) := by
 unfold rowBytes at hi
 rw [List.getElem?_map, Array.getElem?_toList] at hi
 cases hb : s.data[i]? with
 | none => rw [hb] at hi; cases hi
 | some b =>
  rw [hb] at hi; cases hi
  cases j with
  | zero => cases hj; exact ⟨rfl, b, rfl, rfl⟩
  | succ j => simp at hj
theorem rowBytes_sh (s : ByteArray) : ∀ y ∈ rowBytes s, y.map CV.kd = [.i .u8] := by
 intro y hy
 obtain ⟨b, _, rfl⟩ := List.mem_map.1 hy
 rfl
theorem op_convert (hE : EnvOk P E) (hok : Ok E σ w c) (hsl : SlOk E σ a w c) (hd : ∀ d, o.dst = some d -> d < a.tmps.size) {src dst : Nat} {x : Operand} (ho : o.op = .convert src dst x) (h : (opR E nm o).val σ = some e) (hc : e.cond = true) : Goal P E σ a w c o e.ws := by
 simp only [opR, ho] at h
 obtain ⟨ks, h1, h⟩ := Rd.bind_some h
 obtain ⟨kd, h2, h⟩ := Rd.bind_some h
 obtain ⟨v, h3, h⟩ := Rd.bind_some h
 obtain ⟨ev, kv⟩ := opd1_ok hsl h3
 have exec : ∀ {u r : Value} {w' : World}, a.eval x = u -> (convert src dst u).run P w = .ok r w' -> (execOp a.eval o).run P w = .ok (.value r) w' := by
  intro u r w' hu hr
  unfold execOp; rw [ho]
  exact exec_v (by rw [hu]; exact hr)
 cases kd with
 | i k =>
  cases ks with
  | i k0 =>
   cases v with
   | i k1 n =>
    refine val_goal hok hsl hd h (v := .int k (k.wrap n)) rfl (fun n hn => by simp [namesSV, namesAV] at hn) (exec ev ?_)
    simp [convert, run_underlying (kindR_int hE h1), run_underlying (kindR_int hE h2), Conv.intToInt]
   | _ => simp at h
  | _ => simp at h
 | s =>
  have hdst := kindR_string hE h2
  cases ks with
  | s =>
   cases v with
   | s s =>
    refine val_goal hok hsl hd h (v := .string s) ⟨rfl, ev.2⟩ (fun n hn => by simp [namesSV, namesAV] at hn) (exec ev.1 ?_)
    simp [convert, run_underlying (kindR_string hE h1), run_underlying hdst]
   | _ => simp at h
  | l el =>
   have hsrc := kindR_slice hE h1
   have gen : (∀ e, v = e -> ((rowOf E e).bind fun (e, xs) => (tyR E e).bind fun te => bif Nat.beq e el && u8s te.ks && !te.agg then valC o (decide (xs.length <= 4611686018427387904)) (.s (bytesOf xs)) else .fail).val σ = some ‹Eff›) -> Goal P E σ a w c o (‹Eff›).ws := by
    intro h
    obtain ⟨⟨e1, xs⟩, q1, h⟩ := Rd.bind_some (h v rfl)
    obtain ⟨te, q2, h⟩ := Rd.bind_some h
    have q2 := tyR_some q2
    obtain ⟨q3, h9⟩ := bif_fail h
    rw [Bool.and_assoc, Bool.and_eq_true] at q3
    have := Nat.eq_of_beq_eq_true q3.1; subst this
    obtain ⟨q4, q5⟩ := desc_u8 hE q2 q3.2
    have hp : plain te.ks = true := by rw [q4]; rfl
    obtain ⟨r1, r2, r3⟩ := rowOf_plain hok ev q1 q2 hp
    exact valC_goal hok hsl hd h9 hc (v := .string (bytesOf xs)) (fun hb => ⟨rfl, by unfold okS; rw [size_bytesOf]; exact of_decide_eq_true hb⟩) (known_nil rfl) (fun _ => exec rfl (run_bytes hE hsrc hdst q5 q4 r1 r2))
   cases v with
   | nl =>
    obtain ⟨te, q1, h⟩ := Rd.bind_some h
    obtain ⟨q3, h⟩ := bif_fail h
    obtain ⟨q4, q5⟩ := desc_u8 hE (tyR_some q1) q3
    exact val_goal hok hsl hd h (v := .string ByteArray.empty) ⟨rfl, Nat.zero_le _⟩ (fun n hn => by simp [namesSV, namesAV] at hn) (exec ev (run_convert_bytes_nil w src el hsrc q5 0 0 dst hdst))
   | _ => exact gen (fun _ hv => by cases hv; exact h)
  | _ => simp at h
 | _ => simp at h
theorem op_makeSlice (hE : EnvOk P E) (hok : Ok E σ w c) (hsl : SlOk E σ a w c) (hd : ∀ d, o.dst = some d -> d < a.tmps.size) {t : Nat} {x y : Operand} (ho : o.op = .makeSlice t x y) (h : (opR E nm o).val σ = some e) (hc : e.cond = true) : Goal P E σ a w c o e.ws := by
 simp only [opR, ho] at h
 obtain ⟨⟨k1, n⟩, h1, h⟩ := Rd.bind_some h
 obtain ⟨⟨k2, m⟩, h2, h⟩ := Rd.bind_some h
 obtain ⟨ti, h3, h⟩ := Rd.bind_some h
 have ex := opdI_ok hsl h1
 have ey := opdI_ok hsl h2
 have h3 := tyR_some h3
 split at h
 ·rename_i el hag hks
  obtain ⟨te, h4, h⟩ := Rd.bind_some h
  have h4 := tyR_some h4
  obtain ⟨h5, h⟩ := bif_fail h
  obtain ⟨u, h6, h⟩ := Rd.bind_some h
  obtain ⟨hf, hlt⟩ := fresh_some h6
  obtain rfl := Option.some.inj h
  generalize (bif plain te.ks then nm else nm + 999) = nm at hf hlt hc ⊢
  simp only [Bool.and_eq_true, decide_eq_true_eq, roomy] at hc h5
  obtain ⟨⟨c0, rfl⟩, c1, c2⟩ := hc
  obtain ⟨hno, hfl⟩ := h5
  have hu := desc_slice hE h3 hag hks
  obtain ⟨inf, hi, hsz, hby, hpos, hz⟩ := hE.info el te h4
  obtain ⟨z, hz1, hz2, _⟩ := hz hno
  have hr := run_make (P := P) w t el inf z hu hi hz1 k1 k2 n n c0 (Int.le_refl _) (by
   have e1 : ((n.toNat * te.bytes : Nat) : Int) <= 140737488355328 := (by generalize n.toNat * te.bytes = q at c1 ⊢; omega)
   rw [hby, Int.mul_comm]
   rw [Int.natCast_mul, Int.toNat_of_nonneg c0] at e1
   omega) (by omega)
  rw [hz2, hsz] at hr
  refine goal_new hok hsl hd (p := ⟨false, w.heap.size, 0, n.toNat, n.toNat, te.ks.length⟩) (g := nilG E te.ks) hf hlt (fun c' hP hG _ _ => ?_) (fun c' hP hG b hb => ?_) (fun xs hx b hb => by cases hx) (fun c' hP _ => ?_) (fun n hn => .inl (by simpa [namesSV, namesAV] using hn)) (fun b hb => heap_alloc_old w _ b hb) (by simp) rfl rfl rfl (v := .slice (some ⟨w.heap.size, 0, none⟩) n.toNat n.toNat) (w' := w.alloc (.cells (madeCells (te.ks.map zeroV).toArray (n.toNat * te.ks.length)) el)) ?_
  ·refine ⟨⟨te, h4, by rw [hP], zeros_sh hno _⟩, ?_, fun _ => innSep_nil (fun i j => (by rw [hG]; try rfl))⟩
   rw [hP, hG]
   refine ⟨by simp [zeros], fun hn => (by cases hn), fun _ => ⟨_, Blk.alloc w _ el, Nat.le_refl _, (by show n.toNat <= 2 ^ 63 - 1; omega), by rw [size_madeCells]; simp, fun i y j x hi hj => ?_⟩⟩
   obtain ⟨hin, k, hk, rfl⟩ := zeros_get hi hj
   refine ⟨zeroV k, ?_, by rw [if_pos rfl]; exact zero_xc hfl hno hk⟩
   rw [Nat.zero_add]; exact madeCells_get hin hk
  ·rcases hb with ⟨_, rfl⟩ | ⟨_, i, j, _, hn, _⟩
   ·rw [hP]; exact Nat.le_refl _
   ·rw [hG] at hn; cases hn
  ·show _ = hdr _
   rw [hP]; rfl
  ·unfold execOp; rw [ho]
   exact exec_v (by rw [ex, ey]; exact hr)
 ·simp at h
end
end Go.FG

namespace Go.FG
theorem length_setC {xs : Row} {i j : Nat} {cs : List CV} : (setC xs i j cs).length = xs.length := by unfold setC; simp
theorem setC_get {xs : Row} {i j : Nat} {cs y : List CV} (hy : xs[i]? = some y) (i' : Nat) : (setC xs i j cs)[i']? = if i' = i then some (splice y j cs) else xs[i']? := by
 have hlt := (List.getElem?_eq_some_iff.1 hy).1
 have hd : xs.getD i [] = y := by rw [List.getD_eq_getElem?_getD, hy]; rfl
 unfold setC
 rw [List.getElem?_set, hd]
 by_cases h : i' = i
 ·subst h; simp [hlt]
 ·rw [if_neg h, if_neg (fun e => h e.symm)]
theorem Blk.uniq {w : World} {b : Nat} {v1 v2 : Array Value} (h1 : Blk w b v1) (h2 : Blk w b v2) : v1 = v2 := by
 obtain ⟨t, fr, h1, _⟩ := h1
 obtain ⟨t', fr', h2, _⟩ := h2
 rw [h1] at h2; cases h2; rfl
theorem RowAt.pos {w : World} {p : Pl} {xs : Row} {R : Nat -> Nat -> Value -> CV -> Prop} (h : RowAt w p xs R) {i : Nat} (hi : i < p.n) : p.nil = false /\ ∃ vals, Blk w p.blk vals := by
 have hnil : p.nil = false := by
  cases hn : p.nil with
  | false => rfl
  | true => have := (h.nil hn).1; subst this; have := h.n; simp at this; omega
 obtain ⟨vals, hb, _⟩ := h.mem hnil
 exact ⟨hnil, vals, hb⟩
theorem RowAt.put2 {w : World} {p : Pl} {xs : Row} {R R' : Nat -> Nat -> Value -> CV -> Prop} (h : RowAt w p xs R) {vals : Array Value} (hbv : Blk w p.blk vals) (hs : ∀ y ∈ xs, y.length = p.sz) {i j : Nat} {cs : List CV} {vs : List Value} (hi : i < p.n) (hj : j + cs.length <= p.sz) (hl : vs.length = cs.length)
  (hnew : ∀ (q : Nat) (x : CV), cs[q]? = some x -> ∃ u : Value, vs[q]? = some u /\ R' i (j + q) u x)
  (hold : ∀ (i1 : Nat) (y : List CV) (j1 : Nat) (x : CV) (u : Value), xs[i1]? = some y -> y[j1]? = some x -> (i1 ≠ i \/ ¬ (j <= j1 /\ j1 < j + cs.length)) -> R i1 j1 u x -> R' i1 j1 u x) :
  p.off + i * p.sz + j + vs.length <= vals.size /\ RowAt (w.setRow p.blk (putAt vals (p.off + i * p.sz + j) vs)) p (setC xs i j cs) R' := by
 have hnil : p.nil = false := by
  cases hn : p.nil with
  | false => rfl
  | true => have := (h.nil hn).1; subst this; have := h.n; simp at this; omega
 obtain ⟨vals', hb, hnc, hcm, hfit, hc⟩ := h.mem hnil
 obtain rfl := hbv.uniq hb
 have hi' : i < xs.length := by rw [<- h.n]; exact hi
 have hy : xs[i]? = some xs[i] := by simp [hi']
 have hyl := hs xs[i] (List.getElem_mem hi')
 have h1 : (i + 1) * p.sz <= p.cap * p.sz := Nat.mul_le_mul_right _ (by omega)
 rw [Nat.add_mul] at h1
 have hfit2 : p.off + i * p.sz + j + vs.length <= vals.size := by omega
 refine ⟨hfit2, ⟨by rw [length_setC]; exact h.n, fun hn => (by rw [hnil] at hn; cases hn), fun _ => ?_⟩⟩
 refine ⟨_, hb.setRow (size_putAt hfit2), hnc, hcm, by rw [size_putAt hfit2]; exact hfit, fun i' y j' x hi1 hj1 => ?_⟩
 rw [setC_get hy] at hi1
 rw [putAt_get hfit2]
 by_cases hii : i' = i
 ·subst hii
  rw [if_pos rfl] at hi1
  cases hi1
  rw [splice_get (by omega)] at hj1
  by_cases hq : j <= j' /\ j' < j + cs.length
  ·rw [if_pos hq] at hj1
   rw [if_pos (by omega)]
   obtain ⟨u, hu, hr⟩ := hnew (j' - j) x hj1
   refine ⟨u, ?_, ?_⟩
   ·rw [<- hu]; congr 1; omega
   ·rwa [show j + (j' - j) = j' by omega] at hr
  ·rw [if_neg hq] at hj1
   obtain ⟨u, hu, hr⟩ := hc _ _ _ _ hy hj1
   exact ⟨u, by rw [if_neg (by omega)]; exact hu, hold _ _ _ _ _ hy hj1 (.inr hq) hr⟩
 ·rw [if_neg hii] at hi1
  obtain ⟨u, hu, hr⟩ := hc _ _ _ _ hi1 hj1
  refine ⟨u, ?_, hold _ _ _ _ _ hi1 hj1 (.inl hii) hr⟩
  have hj2 : j' < p.sz := by rw [<- hs y (List.mem_of_getElem? hi1)]; exact (List.getElem?_eq_some_iff.1 hj1).1
  rw [if_neg ?_]; exact hu
  rcases Nat.lt_or_gt_of_ne hii with hlt | hgt
  ·have : (i' + 1) * p.sz <= i * p.sz := Nat.mul_le_mul_right _ hlt
   rw [Nat.add_mul] at this; omega
  ·have : (i + 1) * p.sz <= i' * p.sz := Nat.mul_le_mul_right _ hgt
   rw [Nat.add_mul] at this; omega
theorem RowAt.put {w : World} {p : Pl} {xs : Row} {R R' : Nat -> Nat -> Value -> CV -> Prop} (h : RowAt w p xs R) {vals : Array Value} (hbv : Blk w p.blk vals) (hs : ∀ y ∈ xs, y.length = p.sz) {i j : Nat} {cs : List CV} {vs : List Value} (hi : i < p.n) (hj : j + cs.length <= p.sz) (hl : vs.length = cs.length)
  (hnew : ∀ (q : Nat) (x : CV), cs[q]? = some x -> ∃ u : Value, vs[q]? = some u /\ R' i (j + q) u x)
  (hold : ∀ (i : Nat) (y : List CV) (j : Nat) (x : CV) (u : Value), xs[i]? = some y -> y[j]? = some x -> R i j u x -> R' i j u x) :
  p.off + i * p.sz + j + vs.length <= vals.size /\ RowAt (w.setRow p.blk (putAt vals (p.off + i * p.sz + j) vs)) p (setC xs i j cs) R' :=
 h.put2 hbv hs hi hj hl hnew (fun i1 y j1 x u h1 h2 _ hr => hold i1 y j1 x u h1 h2 hr)
theorem innAt_iff {xs : Row} {ks : List Ck} (h : ∀ y ∈ xs, y.map CV.kd = ks) (i j : Nat) : InnAt xs i j ↔ i < xs.length /\ ∃ e, ks[j]? = some (.l e) := by
 constructor
 ·rintro ⟨y, x, hy, hx, hl⟩
  refine ⟨(List.getElem?_eq_some_iff.1 hy).1, ?_⟩
  cases x with
  | l e ys => exact ⟨e, by rw [<- h y (List.mem_of_getElem? hy), List.getElem?_map, hx]; rfl⟩
  | i => simp [isL] at hl
  | b => simp [isL] at hl
  | s => simp [isL] at hl
 ·rintro ⟨hi, e, hk⟩
  have hy : xs[i]? = some xs[i] := by simp [hi]
  have h1 := h xs[i] (List.getElem_mem hi)
  rw [<- h1, List.getElem?_map] at hk
  cases hx : xs[i][j]? with
  | none => rw [hx] at hk; cases hk
  | some x =>
   rw [hx] at hk
   cases x with
   | l e2 ys => exact ⟨_, _, hy, hx, rfl⟩
   | i => cases hk
   | b => cases hk
   | s => cases hk
theorem kd_splice {y cs : List CV} {ks : List Ck} {j : Nat} (hy : y.map CV.kd = ks) (hc : cs.map CV.kd = (ks.drop j).take cs.length) (hj : j + cs.length <= ks.length) : (splice y j cs).map CV.kd = ks := by
 have hl : y.length = ks.length := by rw [<- hy]; simp
 apply List.ext_getElem?
 intro q
 rw [List.getElem?_map, splice_get (by omega)]
 split
 ·rename_i h
  have : (cs.map CV.kd)[q - j]? = ((ks.drop j).take cs.length)[q - j]? := by rw [hc]
  rw [List.getElem?_map] at this
  rw [this, List.getElem?_take, if_pos (by omega), List.getElem?_drop]; congr 1; omega
 ·rw [<- hy, List.getElem?_map]
theorem sh_setC {xs : Row} {ks : List Ck} {i j : Nat} {cs : List CV} (h : ∀ y ∈ xs, y.map CV.kd = ks) (hc : cs.map CV.kd = (ks.drop j).take cs.length) (hj : j + cs.length <= ks.length) (hi : i < xs.length) : ∀ y ∈ setC xs i j cs, y.map CV.kd = ks := by
 intro y hy
 obtain ⟨q, hq⟩ := List.getElem?_of_mem hy
 rw [setC_get (y := xs[i]) (by simp [hi])] at hq
 split at hq
 ·cases hq; exact kd_splice (h _ (List.getElem_mem hi)) hc hj
 ·exact h y (List.mem_of_getElem? hq)
theorem rowAt_holds {E : Env} {w : World} {K : Nat -> Prop} {p : Pl} {xs : Row} {el : Nat} {te : TI} (ht : E.ty el = some te) (hs : p.sz = te.ks.length) (hsh : ∀ y ∈ xs, y.map CV.kd = te.ks)
  (h : RowAt w p xs (fun _ _ u x => Holds E w K u x)) (hK : p.nil = false -> K p.blk) : Holds E w K (hdr p) (.l el xs) := by
 cases hq : p.nil with
 | true => rw [hdr_nil hq, (h.nil hq).1]; exact .nl _ _ _
 | false =>
  rw [hdr_of_pos hq, h.n]
  obtain ⟨vals, hb, hnc, hmx, _, hc⟩ := h.mem hq
  have hc' := fun i y j x (h1 : xs[i]? = some y) (h2 : y[j]? = some x) => hc i y j x h1 h2
  refine .l el xs p.blk p.off p.cap te (fun i j => (vals[p.off + i * p.sz + j]?).getD undef) ht (by rw [<- h.n]; exact hnc) hmx (hK hq) hsh (fun i j y x h1 h2 => ?_) (fun i j y x h1 h2 => ?_)
  ·obtain ⟨u, hu, _⟩ := hc' i y j x h1 h2
   rw [hb.cell, <- hs, hu]; rfl
  ·obtain ⟨u, hu, hr⟩ := hc' i y j x h1 h2
   simp only [hu, Option.getD_some]; exact hr
theorem xc_holds {E : Env} {w : World} {K : Nat -> Prop} {G : Nat -> Nat -> Pl} {i j : Nat} {u : Value} {x : CV} (h : XC E w G i j u x) (hK : isL x = true -> (G i j).nil = false -> K (G i j).blk) : Holds E w K u x := by
 cases x with
 | l e ys =>
  obtain ⟨rfl, t, ht, hp, hs, hsh, hat⟩ := h
  exact rowAt_holds ht hs hsh (hat.frame (fun _ => rfl) (fun i j y x u hi hj hr => scal_holds (plain_kd hp (hsh y (List.mem_of_getElem? hi)) hj) hr)) (hK rfl)
 | i => exact scal_holds rfl h
 | b => exact scal_holds rfl h
 | s => exact scal_holds rfl h
section
variable {P : Program} {E : Env} {σ : St} {a : Act} {w : World} {c : Cor} {o : Oper} {nm : Nat} {e : Eff}
theorem emb_plain {ex : Bool} {k : Ck} {x : AV} {cv : CV} {ws : List (Nat × Cel)} {u : Value} (hp : plain [k] = true) (h : (emb ex k x).val σ = some (cv, ws)) (hx : AVOk E w c x u) : cv.kd = k /\ Sc u cv /\ isL cv = false /\ ws = [] := by
 cases k with
 | i k =>
  cases x with
  | i k' n =>
   replace h : (if k = k' then Rd.ret (CV.i k n, []) else .fail : Rd (CV × List (Nat × Cel))).val σ = some (cv, ws) := h
   split at h
   ·rename_i hk; subst hk
    obtain ⟨rfl, rfl⟩ := Prod.mk.inj (Option.some.inj h); exact ⟨rfl, ⟨hx, trivial⟩, rfl, rfl⟩
   ·simp at h
  | _ => simp [emb] at h
 | b =>
  cases x with
  | b n => obtain ⟨rfl, rfl⟩ := Prod.mk.inj (Option.some.inj h); exact ⟨rfl, ⟨hx, trivial⟩, rfl, rfl⟩
  | _ => simp [emb] at h
 | s =>
  cases x with
  | s n => obtain ⟨rfl, rfl⟩ := Prod.mk.inj (Option.some.inj h); exact ⟨rfl, hx, rfl, rfl⟩
  | _ => simp [emb] at h
 | l => simp [plain] at hp
 | o => simp [plain] at hp
theorem embs_plain {ex : Bool} : ∀ {ks : List Ck} {xs : List AV} {cs : List CV} {ws : List (Nat × Cel)} (hp : plain ks = true) (h : (embs ex ks xs).val σ = some (cs, ws)), cs.map CV.kd = ks /\ cs.length = xs.length /\ ws = [] /\
  ∀ (vals : Array Value), CellsOk E w c vals xs -> ∀ (q : Nat) (x : CV), cs[q]? = some x -> vals[q]? = some (scal x) /\ isL x = false /\ okC x := by
 intro ks
 induction ks with
 | nil =>
  intro xs cs ws hp h
  cases xs with
  | nil => obtain ⟨rfl, rfl⟩ := Prod.mk.inj (Option.some.inj h); exact ⟨rfl, rfl, rfl, fun _ _ q x hq => by simp at hq⟩
  | cons => simp [embs] at h
 | cons k ks ih =>
  intro xs cs ws hp h
  cases xs with
  | nil => simp [embs] at h
  | cons x xs =>
   obtain ⟨⟨cv, w1⟩, h1, h⟩ := Rd.bind_some h
   obtain ⟨⟨cr, w2⟩, h2, h⟩ := Rd.bind_some h
   obtain ⟨rfl, rfl⟩ := Prod.mk.inj (Option.some.inj h)
   simp only [plain, List.all_cons, Bool.and_eq_true] at hp
   have hp1 : plain [k] = true := by simp [plain, hp.1]
   have hp2 : plain ks = true := hp.2
   obtain ⟨i1, i2, i3, i4⟩ := ih hp2 h2
   have e1 := fun u (hu : AVOk E w c x u) => emb_plain hp1 h1 hu
   have kd1 : cv.kd = k /\ w1 = [] := by
    cases k <;> cases x <;> simp [emb, plain] at h1 hp1 <;> first
     | (obtain ⟨rfl, rfl⟩ := h1; exact ⟨rfl, rfl⟩)
     | (split at h1 <;> simp at h1; rename_i hk; subst hk; obtain ⟨rfl, rfl⟩ := h1; exact ⟨rfl, rfl⟩)
   refine ⟨by simp [kd1.1, i1], by simp [i2], by rw [kd1.2, i3]; rfl, fun vals hv q y hq => ?_⟩
   cases q with
   | zero =>
    cases hq
    obtain ⟨u, hu, ha⟩ := hv.2 0 x rfl
    obtain ⟨_, ⟨rfl, ho⟩, hl, _⟩ := e1 u ha
    exact ⟨hu, hl, ho⟩
   | succ q =>
    have hv2 : CellsOk E w c (vals.extract 1 vals.size) xs := by
     refine ⟨by simp; have := hv.1; simp at this; omega, fun j b hj => ?_⟩
     obtain ⟨u, hu, hb⟩ := hv.2 (j + 1) b hj
     refine ⟨u, ?_, hb⟩
     have := (Array.getElem?_eq_some_iff.1 hu).1
     rw [Array.getElem?_extract, if_pos (by omega), Nat.add_comm]; exact hu
    obtain ⟨r1, r2⟩ := i4 _ hv2 q y hq
    refine ⟨?_, r2⟩
    rw [Array.getElem?_extract] at r1
    split at r1
    ·rw [Nat.add_comm]; exact r1
    ·cases r1
theorem wsk_run {s : Sem Unit} {w' : World} (hr : s.run P w = .ok () w') : (do s; pure Next.skip : Sem Next).run P w = .ok .skip w' := by
 simp only [Sem.run_bind, hr, Result.andThen_ok, Sem.run_pure]
theorem oneOwn_ok : ∀ {ys : List AV} {q0 q n2 : Nat}, oneOwn q0 ys = some (q, n2) -> q0 <= q /\ ys[q - q0]? = some (.own n2) /\ ∀ (k m : Nat), ys[k]? = some (.own m) -> k = q - q0 := by
 have none_ok : ∀ {ys : List AV}, noOwn ys = true -> ∀ (k m : Nat), ys[k]? ≠ some (.own m) := by
  intro ys
  induction ys with
  | nil => intro h k m h; simp at h
  | cons y ys ih =>
   intro h k m hk
   cases y with
   | own n => cases h
   | _ =>
    cases k with
    | zero => cases hk
    | succ k => exact ih (by simpa [noOwn] using h) k m hk
 intro ys
 induction ys with
 | nil => intro q0 q n2 h; cases h
 | cons y ys ih =>
  intro q0 q n2 h
  have step : oneOwn (q0 + 1) ys = some (q, n2) -> (∀ m, y ≠ .own m) -> q0 <= q /\ (y :: ys)[q - q0]? = some (.own n2) /\ ∀ (k m : Nat), (y :: ys)[k]? = some (.own m) -> k = q - q0 := by
   intro h hy
   obtain ⟨h1, h2, h3⟩ := ih h
   have e : q - q0 = (q - (q0 + 1)) + 1 := by omega
   refine ⟨by omega, by rw [e, List.getElem?_cons_succ]; exact h2, fun k m hk => ?_⟩
   cases k with
   | zero => cases hk; exact absurd rfl (hy m)
   | succ k => have := h3 k m hk; omega
  cases y with
  | own n =>
   unfold oneOwn at h
   cases h1 : noOwn ys with
   | false => rw [h1] at h; cases h
   | true =>
    rw [h1] at h; cases h
    refine ⟨Nat.le_refl _, by rw [Nat.sub_self]; rfl, fun k m hk => ?_⟩
    cases k with
    | zero => omega
    | succ k => exact absurd hk (none_ok h1 k m)
  | _ => exact step (by simpa [oneOwn] using h) (fun m h => by cases h)
theorem embF_ok {E : Env} {w : World} {c : Cor} {e2 n2 : Nat} {zs : Row} : ∀ {ks : List Ck} {ys : List AV} {cs : List CV}, embF e2 n2 zs ks ys = some cs -> cs.map CV.kd = ks /\ cs.length = ys.length /\
  ∀ (q : Nat) (x : CV), cs[q]? = some x -> ∃ y, ys[q]? = some y /\ ((isL x = false /\ ∀ u, AVOk E w c y u -> Sc u x) \/ (x = .l e2 zs /\ y = .own n2)) := by
 intro ks
 induction ks with
 | nil =>
  intro ys cs h
  cases ys with
  | nil => cases h; exact ⟨rfl, rfl, fun q x h => by simp at h⟩
  | cons => cases h
 | cons k ks ih =>
  intro ys cs h
  have go : ∀ {y : AV} {r : List AV} {x : CV}, ys = y :: r -> (embF e2 n2 zs ks r).map (x :: ·) = some cs -> x.kd = k -> ((isL x = false /\ ∀ u, AVOk E w c y u -> Sc u x) \/ (x = .l e2 zs /\ y = .own n2)) ->
    cs.map CV.kd = k :: ks /\ cs.length = ys.length /\ ∀ (q : Nat) (x : CV), cs[q]? = some x -> ∃ y, ys[q]? = some y /\ ((isL x = false /\ ∀ u, AVOk E w c y u -> Sc u x) \/ (x = .l e2 zs /\ y = .own n2)) := by
   intro y r x hy hm hk hx
   subst hy
   cases hr : embF e2 n2 zs ks r with
   | none => rw [hr] at hm; cases hm
   | some cr =>
    rw [hr] at hm; cases hm
    obtain ⟨i1, i2, i3⟩ := ih hr
    refine ⟨by simp [hk, i1], by simp [i2], fun q z hq => ?_⟩
    cases q with
    | zero => cases hq; exact ⟨y, rfl, hx⟩
    | succ q => exact i3 q z hq
  cases ys with
  | nil => cases k <;> cases h
  | cons y r =>
   cases k with
   | i k =>
    cases y with
    | i k' n =>
     unfold embF at h
     split at h
     ·rename_i hk; subst hk; exact go rfl h rfl (.inl ⟨rfl, fun u hu => ⟨hu, trivial⟩⟩)
     ·cases h
    | _ => cases h
   | b =>
    cases y with
    | b n => exact go rfl h rfl (.inl ⟨rfl, fun u hu => ⟨hu, trivial⟩⟩)
    | _ => cases h
   | s =>
    cases y with
    | s n => exact go rfl h rfl (.inl ⟨rfl, fun u hu => hu⟩)
    | _ => cases h
   | l e =>
    cases y with
    | own n =>
     unfold embF at h
     cases hb : (Nat.beq e e2 && Nat.beq n n2) with
     | false => rw [hb] at h; cases h
     | true =>
      rw [hb, cond_true] at h
      simp only [Bool.and_eq_true] at hb
      have := Nat.eq_of_beq_eq_true hb.1; subst this
      have := Nat.eq_of_beq_eq_true hb.2; subst this
      exact go rfl h rfl (.inr ⟨rfl, rfl⟩)
    | _ => cases h
   | o => cases y <;> cases h
theorem goal_fill (hok : Ok E σ w c) (hsl : SlOk E σ a w c) (hd : ∀ d, o.dst = some d -> d < a.tmps.size) {n i j : Nat} {ys : List AV} {ws : List (Nat × Cel)} {X : Array Value} (hF : isF n = true) (hi : i < (c.P n).n) (h : (storeF E n i j ys).val σ = some ws) (hcl : CellsOk E w c X ys) (hpos : 0 < ys.length)
  (exec : ∀ (cur : Array Value), Blk w (c.P n).blk cur -> (c.P n).off + i * (c.P n).sz + j + X.size <= cur.size -> (execOp a.eval o).run P w = .ok .skip (w.setRow (c.P n).blk (putAt cur ((c.P n).off + i * (c.P n).sz + j) X.toList))) : Goal P E σ a w c o (ws ++ dw o .un) := by
 unfold storeF at h
 obtain ⟨ob, hg0, h⟩ := Rd.bind_some h
 have hg := getO_some hg0
 split at h
 ·rename_i el xs
  obtain ⟨te, h6, h⟩ := Rd.bind_some h
  have h6 := tyR_some h6
  split at h
  ·rename_i q n2 hone
   cases hb0 : Nat.beq n n2 with
   | true => rw [hb0] at h; simp at h
   | false =>
    rw [hb0, cond_false] at h
    have hne : n ≠ n2 := fun e => by subst e; rw [Nat.beq_refl] at hb0; cases hb0
    obtain ⟨ob2, hg20, h⟩ := Rd.bind_some h
    have hg2 := getO_some hg20
    split at h
    ·rename_i e2 zs
     obtain ⟨t2, h7, h⟩ := Rd.bind_some h
     have h7 := tyR_some h7
     obtain ⟨h8, h⟩ := bif_fail h
     simp only [Bool.and_eq_true] at h8
     obtain ⟨hpl, hle⟩ := h8
     have hle := Nat.le_of_ble_eq_true hle
     split at h
     ·rename_i cs hcs
      obtain rfl := Option.some.inj h
      obtain ⟨m1, m2, m3⟩ := embF_ok (E := E) (w := w) (c := c) hcs
      obtain ⟨_, _, hu⟩ := oneOwn_ok hone
      rw [Nat.sub_zero] at hu
      obtain ⟨⟨t1, q1, hsz, hsh⟩, hat, hin⟩ := hok.obj n _ hg
      obtain rfl : te = t1 := Option.some.inj (h6.symm.trans q1)
      obtain ⟨⟨t3, q3, hsz2, hsh2⟩, hat2, _⟩ := hok.obj n2 _ hg2
      obtain rfl : t2 = t3 := Option.some.inj (h7.symm.trans q3)
      have hjl : j + cs.length <= te.ks.length := by rw [m2]; exact hle
      have hkd : cs.map CV.kd = (te.ks.drop j).take cs.length := by rw [m1, m2]
      have hi' : i < xs.length := by rw [<- hat.n]; exact hi
      obtain ⟨hnil, vals, hb⟩ := hat.pos hi
      have hinn := innAt_iff hsh
      have hsh' := sh_setC hsh hkd hjl hi'
      have hinn' := innAt_iff hsh'
      have same : ∀ i' j', InnAt (setC xs i j cs) i' j' -> InnAt xs i' j' := fun i' j' hx => (hinn i' j').2 (by have := (hinn' i' j').1 hx; rwa [length_setC] at this)
      have hyl : ∀ y ∈ xs, y.length = (c.P n).sz := fun y hy => by rw [hsz, <- hsh y hy]; simp
      let w' := w.setRow (c.P n).blk (putAt vals ((c.P n).off + i * (c.P n).sz + j) X.toList)
      have hoth : ∀ b, b ≠ (c.P n).blk -> w'.heap[b]? = w.heap[b]? := fun b hb => setRow_other w _ b _ hb
      have noInn2 : ∀ i j, ¬ InnAt zs i j := by
       rintro i j ⟨y, x, h1, h2, h3⟩
       rw [plain_kd hpl (hsh2 y (List.mem_of_getElem? h1)) h2] at h3; cases h3
      have own2 : (c.P n2).nil = false -> foot c n2 (.row e2 true zs) (c.P n2).blk := fun hn => .inl ⟨hn, rfl⟩
      have own1 : foot c n (.row el true xs) (c.P n).blk := .inl ⟨hnil, rfl⟩
      have ne12 : (c.P n2).nil = false -> (c.P n2).blk ≠ (c.P n).blk := fun hn he => hne (hok.sep n _ n2 _ _ hg hg2 own1 (by rw [<- he]; exact own2 hn))
      let c' : Cor := ⟨c.P, fun m i' j' => if m = n /\ i' = i /\ j' = j + q then c.P n2 else c.G m i' j', c.K⟩
      have hG1 : c'.G n i (j + q) = c.P n2 := if_pos ⟨rfl, rfl, rfl⟩
      have hG2 : ∀ i' j', ¬ (i' = i /\ j' = j + q) -> c'.G n i' j' = c.G n i' j' := fun i' j' h => if_neg (fun e => h ⟨e.2.1, e.2.2⟩)
      have hG3 : ∀ m, m ≠ n -> c'.G m = c.G m := fun m hm => by funext i' j'; exact if_neg (fun e => hm e.1)
      have innp : ∀ i' j', InnAt (setC xs i j cs) i' j' -> (c'.G n i' j').nil = false -> (i' = i /\ j' = j + q /\ (c.P n2).nil = false /\ (c'.G n i' j').blk = (c.P n2).blk) \/ (¬ (i' = i /\ j' = j + q) /\ (c.G n i' j').nil = false /\ (c'.G n i' j').blk = (c.G n i' j').blk /\ foot c n (.row el true xs) (c.G n i' j').blk) := by
       intro i' j' hh hn
       by_cases he : i' = i /\ j' = j + q
       ·obtain ⟨rfl, rfl⟩ := he
        rw [hG1] at hn ⊢
        exact .inl ⟨rfl, rfl, hn, rfl⟩
       ·rw [hG2 i' j' he] at hn ⊢
        exact .inr ⟨he, hn, rfl, .inr ⟨rfl, i', j', same i' j' hh, hn, rfl⟩⟩
      obtain ⟨hfit, hat'⟩ := RowAt.put2 (R' := fun i1 j1 u1 x1 => if true = true then XC E w' (c'.G n) i1 j1 u1 x1 else Holds E w' c'.K u1 x1) hat hb hyl (i := i) (j := j) (cs := cs) (vs := X.toList) hi (by rw [hsz]; exact hjl) (by rw [Array.length_toList, hcl.1, m2])
       (fun k x hk => by
        obtain ⟨y, hy, hxy⟩ := m3 k x hk
        obtain ⟨u, hu1, hu2⟩ := hcl.2 k y hy
        refine ⟨u, by rw [Array.getElem?_toList]; exact hu1, ?_⟩
        rw [if_pos rfl]
        rcases hxy with ⟨hl, hsc⟩ | ⟨rfl, rfl⟩
        ·exact scal_xc hl (hsc u hu2)
        ·have hkq : k = q := hu k n2 hy
         subst hkq
         have hu2 : u = hdr (c.P n2) := hu2
         refine ⟨by rw [hG1]; exact hu2, t2, h7, hpl, by rw [hG1]; exact hsz2, hsh2, ?_⟩
         rw [hG1]
         exact hat2.frame (fun hn => hoth _ (ne12 hn)) (fun i1 j1 y1 x1 u1 g1 g2 hr => by rw [if_pos rfl] at hr; exact xc_scal hr (plain_kd hpl (hsh2 y1 (List.mem_of_getElem? g1)) g2)))
       (fun i1 y1 j1 x1 u1 h1 h2 hseg hr => by
        rw [if_pos rfl] at hr ⊢
        have hr' : XC E w' (c.G n) i1 j1 u1 x1 := hr.frame (fun hl hn => hoth _ ((hin rfl).out i1 j1 ⟨y1, x1, h1, h2, hl⟩ hn hnil))
        have hne' : ¬ (i1 = i /\ j1 = j + q) := by
         rintro ⟨rfl, rfl⟩
         have hq : q < cs.length := by
          obtain ⟨_, hq, _⟩ := oneOwn_ok hone
          rw [Nat.sub_zero] at hq
          rw [m2]; exact (List.getElem?_eq_some_iff.1 hq).1
         rcases hseg with h | h
         ·exact h rfl
         ·exact h ⟨by omega, by omega⟩
        cases x1 with
        | l ee zz =>
         obtain ⟨r1, r2⟩ := hr'
         unfold XC
         rw [hG2 i1 j1 hne']
         exact ⟨r1, r2⟩
        | i => exact hr'
        | b => exact hr'
        | s => exact hr')
      have hr := exec vals hb (by rw [Array.length_toList] at hfit; exact hfit)
      let σ1 := upd (upd σ (obk n) (.o (.row el true (setC xs i j cs)))) (obk n2) (.o .dead)
      obtain ⟨s1, s2, s3⟩ := slot_dw σ1 o .un
      have key : ∀ m, wr σ1 (dw o .un) (obk m) = if m = n2 then .o .dead else if m = n then .o (.row el true (setC xs i j cs)) else σ (obk m) := fun m => by
       rw [s3]
       show (upd (upd σ (obk n) (.o (.row el true (setC xs i j cs)))) (obk n2) (.o .dead)) (obk m) = _
       rw [upd_obk, upd_obk]
      have hnon : ∀ m, σ (obk m) ≠ .non -> wr σ1 (dw o .un) (obk m) ≠ .non := fun m hm => by rw [key]; split; simp; split; simp; exact hm
      have hA : AgreeW σ c c' := fun m _ => ⟨rfl, fun hf => hG3 m (fun e => by subst e; rw [hF] at hf; cases hf)⟩
      have hCh : ∀ m, m = n \/ m = n2 -> ∃ ob, σ (obk m) = .o ob := by rintro m (rfl | rfl); exact ⟨_, hg⟩; exact ⟨_, hg2⟩
      have at1 : ∀ m x, (m = n \/ m = n2) -> wr σ1 (dw o .un) (obk m) = .o x -> (m = n2 /\ x = .dead) \/ (m = n /\ x = .row el true (setC xs i j cs)) := by
       intro m x hm hx
       rw [key] at hx
       by_cases e2' : m = n2
       ·rw [if_pos e2'] at hx; cases hx; exact .inl ⟨e2', rfl⟩
       ·rw [if_neg e2', if_pos (hm.resolve_right e2')] at hx; cases hx; exact .inr ⟨hm.resolve_right e2', rfl⟩
      have hh := hok.changeW (σ' := wr σ1 (dw o .un)) (w' := w') (c' := c') (fun m => m = n \/ m = n2) (fun m hm => by rw [key, if_neg (fun e => hm (.inr e)), if_neg (fun e => hm (.inl e))]) hnon hA (fun m hm _ => hG3 m (fun e => hm (.inl e)))
       (fun b _ hni => hoth b (fun e => hni ⟨n, _, .inl rfl, hg, by rw [e]; exact own1⟩)) (by simp [w', World.setRow]) (fun _ h => h) (fun _ h => .inl h) (fun b hb => Nat.lt_of_lt_of_le (hok.lt b hb) (by simp [w', World.setRow]))
       (fun m x hm hx => by
        rcases at1 m x hm hx with ⟨rfl, rfl⟩ | ⟨rfl, rfl⟩
        ·trivial
        ·refine ⟨⟨te, q1, hsz, hsh'⟩, hat', fun _ => ⟨fun i1 j1 hh hn _ he => ?_, fun i1 j1 i2 j2 h1 h2 n1 n2' he => ?_⟩⟩
         ·rcases innp i1 j1 hh hn with ⟨_, _, g1, g2⟩ | ⟨_, g1, g2, g3⟩
          ·exact ne12 g1 (g2.symm.trans he)
          ·exact (hin rfl).out i1 j1 (same i1 j1 hh) g1 hnil (g2.symm.trans he)
         ·rcases innp i1 j1 h1 n1 with ⟨a1, a2, a3, a4⟩ | ⟨a1, a2, a3, a4⟩ <;> rcases innp i2 j2 h2 n2' with ⟨b1, b2, b3, b4⟩ | ⟨b1, b2, b3, b4⟩
          ·exact ⟨a1.trans b1.symm, a2.trans b2.symm⟩
          ·exfalso
           exact hne (hok.sep m _ n2 _ _ hg hg2 b4 (by rw [<- b3, <- he, a4]; exact own2 a3))
          ·exfalso
           exact hne (hok.sep m _ n2 _ _ hg hg2 a4 (by rw [<- a3, he, b4]; exact own2 b3))
          ·exact (hin rfl).one i1 j1 i2 j2 (same i1 j1 h1) (same i2 j2 h2) a2 b2 (a3.symm.trans (he.trans b3)))
       (fun m x b hm hx hf => by
        rcases at1 m x hm hx with ⟨rfl, rfl⟩ | ⟨rfl, rfl⟩
        ·exact hf.elim
        ·have hin2 : OwnIn (fun k => k = m \/ k = n2) σ c b := by
          rcases hf with ⟨_, rfl⟩ | ⟨_, i1, j1, hh, hn, rfl⟩
          ·exact ⟨m, _, .inl rfl, hg, own1⟩
          ·rcases innp i1 j1 hh hn with ⟨_, _, g1, g2⟩ | ⟨_, g1, g2, g3⟩
           ·rw [g2]; exact ⟨n2, _, .inr rfl, hg2, own2 g1⟩
           ·rw [g2]; exact ⟨m, _, .inl rfl, hg, g3⟩
         exact ⟨.inl hin2, hok.notK hin2.own⟩)
       (fun m x m' x' b hm hm' hx hx' hf hf' => by
        rcases at1 m x hm hx with ⟨rfl, rfl⟩ | ⟨rfl, rfl⟩
        ·exact hf.elim
        ·rcases at1 m' x' hm' hx' with ⟨rfl, rfl⟩ | ⟨rfl, rfl⟩
         ·exact hf'.elim
         ·rfl)
       (fun m bs hm hx => by
        rcases at1 m _ hm hx with ⟨_, h⟩ | ⟨_, h⟩ <;> cases h) rfl rfl rfl
      intro K Q hK
      refine wp_skipped hr (hK undef w' c' hh.1 ?_ hh.2 hA)
      refine hsl.changeW hok hh.2 hA hnon o undef (fun k hk => by rw [s1 k hk]; show slot (upd (upd σ (obk n) (.o (.row el true (setC xs i j cs)))) (obk n2) (.o .dead)) k = _; rw [slot_upd_obk, slot_upd_obk]) (fun d ho => ⟨hd d ho, ?_, ?_⟩)
      ·rw [s2 d ho]; trivial
      ·rw [s2 d ho]; intro k hk; simp [namesSV] at hk
     ·simp at h
    ·simp at h
  ·simp at h
 ·simp at h
theorem isIv_ok {ys : List AV} {n i j lo hi : Nat} (h : isIv ys = some (n, i, j, lo, hi)) : ys = [.iv n i j lo hi] := by
 unfold isIv at h
 split at h
 ·cases h; rfl
 ·cases h
theorem goal_cut (hok : Ok E σ w c) (hsl : SlOk E σ a w c) (hd : ∀ d, o.dst = some d -> d < a.tmps.size) {n i j i2 j2 lo hj' : Nat} {ws : List (Nat × Cel)} {X : Array Value} (hF : isF n = false) (hi : i < (c.P n).n) (h : (cutR E n i j i2 j2 lo hj').val σ = some ws) (hcl : CellsOk E w c X [.iv n i2 j2 lo hj'])
  (exec : ∀ (cur : Array Value), Blk w (c.P n).blk cur -> (c.P n).off + i * (c.P n).sz + j + X.size <= cur.size -> (execOp a.eval o).run P w = .ok .skip (w.setRow (c.P n).blk (putAt cur ((c.P n).off + i * (c.P n).sz + j) X.toList))) : Goal P E σ a w c o (ws ++ dw o .un) := by
 unfold cutR at h
 obtain ⟨ob, hg0, h⟩ := Rd.bind_some h
 have hg := getO_some hg0
 split at h
 ·rename_i el xs
  obtain ⟨te, h6, h⟩ := Rd.bind_some h
  have h6 := tyR_some h6
  split at h
  ·rename_i e2 e3 hk hk2
   obtain ⟨hb0, h9⟩ := bif_fail h
   clear h
   have := Nat.eq_of_beq_eq_true hb0; subst this
   obtain rfl := Option.some.inj h9
   obtain ⟨u, hu, ⟨⟨hi2, hvw⟩, _⟩⟩ := hcl.2 0 _ rfl
   obtain ⟨⟨t1, q1, hsz, hsh⟩, hat, hin⟩ := hok.obj n _ hg
   obtain rfl : te = t1 := Option.some.inj (h6.symm.trans q1)
   obtain ⟨zs, y, t3, r1, r2, r3, r4, r5, r6, r7, _⟩ := inn_row hok hg h6 hk2 hi2
   rw [cellAt_some r1 r2]
   simp only [cvL]
   generalize hcs : [CV.l e2 (view zs lo hj')] = cs
   have hcl1 : cs.length = 1 := by rw [<- hcs]; rfl
   have hjk : j < te.ks.length := (List.getElem?_eq_some_iff.1 hk).1
   have hjl : j + cs.length <= te.ks.length := by omega
   have hkd : cs.map CV.kd = (te.ks.drop j).take cs.length := by
    rw [hcl1, List.take_one, List.head?_drop, hk, <- hcs]; rfl
   have hi' : i < xs.length := by rw [<- hat.n]; exact hi
   obtain ⟨hnil, vals, hb⟩ := hat.pos hi
   have hsh' := sh_setC hsh hkd hjl hi'
   have hyl : ∀ y ∈ xs, y.length = (c.P n).sz := fun y hy => by rw [hsz, <- hsh y hy]; simp
   let w' := w.setRow (c.P n).blk (putAt vals ((c.P n).off + i * (c.P n).sz + j) X.toList)
   have hoth : ∀ b, b ≠ (c.P n).blk -> w'.heap[b]? = w.heap[b]? := fun b hb => setRow_other w _ b _ hb
   have own1 : foot c n (.row el true xs) (c.P n).blk := .inl ⟨hnil, rfl⟩
   let K' : Nat -> Prop := fun b => c.K b \/ ∃ i1 j1, InnAt xs i1 j1 /\ (c.G n i1 j1).nil = false /\ b = (c.G n i1 j1).blk
   let c' : Cor := ⟨c.P, c.G, K'⟩
   have hKne : ∀ b, K' b -> b ≠ (c.P n).blk := by
    rintro b (hb | ⟨i1, j1, hh, hn, rfl⟩) he
    ·exact hok.kk n _ _ hg own1 (he ▸ hb)
    ·exact (hin rfl).out i1 j1 hh hn hnil he
   have hold : ∀ (i1 : Nat) (y1 : List CV) (j1 : Nat) (x1 : CV) (u1 : Value), xs[i1]? = some y1 -> y1[j1]? = some x1 -> XC E w (c.G n) i1 j1 u1 x1 -> Holds E w' K' u1 x1 := by
    intro i1 y1 j1 x1 u1 h1 h2 hr
    have hh : Holds E w K' u1 x1 := xc_holds hr (fun hl hn => .inr ⟨i1, j1, ⟨y1, x1, h1, h2, hl⟩, hn, rfl⟩)
    exact hh.frame (fun b hb => hoth b (hKne b hb)) (fun _ h => h)
   have hnew : Holds E w' K' u (.l e2 (view zs lo hj')) := by
    have hh : Holds E w K' (hdr (c.G n i2 j2)) (.l e2 zs) :=
     rowAt_holds r3 r5 r6 (r7.frame (fun _ => rfl) (fun i j y x u hi hj hr => scal_holds (plain_kd r4 (r6 y (List.mem_of_getElem? hi)) hj) hr)) (fun hn => .inr ⟨i2, j2, ⟨y, _, r1, r2, rfl⟩, hn, rfl⟩)
    exact (holds_vw r3 hh r7.n r5 hvw).frame (fun b hb => hoth b (hKne b hb)) (fun _ h => h)
   obtain ⟨hfit, hat'⟩ := RowAt.put (R' := fun i1 j1 u1 x1 => if false = true then XC E w' (c'.G n) i1 j1 u1 x1 else Holds E w' c'.K u1 x1) hat hb hyl (i := i) (j := j) (cs := cs) (vs := X.toList) hi (by rw [hsz]; exact hjl) (by rw [Array.length_toList, hcl.1, hcl1]; rfl)
    (fun k x hk => by
     rw [<- hcs] at hk
     cases k with
     | zero =>
      cases hk
      refine ⟨u, by rw [Array.getElem?_toList]; exact hu, ?_⟩
      rw [if_neg (by simp)]; exact hnew
     | succ k => simp at hk)
    (fun i1 y1 j1 x1 u1 h1 h2 hr => by
     rw [if_pos rfl] at hr
     rw [if_neg (by simp)]
     exact hold i1 y1 j1 x1 u1 h1 h2 hr)
   have hr := exec vals hb (by rw [Array.length_toList] at hfit; exact hfit)
   let σ1 := upd σ (obk n) (.o (.row el false (setC xs i j cs)))
   obtain ⟨s1, s2, s3⟩ := slot_dw σ1 o .un
   have key : ∀ m, wr σ1 (dw o .un) (obk m) = if m = n then .o (.row el false (setC xs i j cs)) else σ (obk m) := fun m => by
    rw [s3]
    show (upd σ (obk n) (.o (.row el false (setC xs i j cs)))) (obk m) = _
    rw [upd_obk]
   have hnon : ∀ m, σ (obk m) ≠ .non -> wr σ1 (dw o .un) (obk m) ≠ .non := fun m hm => by rw [key]; split; simp; exact hm
   have hA : AgreeW σ c c' := fun m _ => ⟨rfl, fun _ => rfl⟩
   have at1 : ∀ m x, m = n -> wr σ1 (dw o .un) (obk m) = .o x -> x = .row el false (setC xs i j cs) := by
    intro m x hm hx
    rw [key, if_pos hm] at hx; cases hx; rfl
   have hh := hok.changeW (σ' := wr σ1 (dw o .un)) (w' := w') (c' := c') (fun m => m = n) (fun m hm => by rw [key, if_neg hm]) hnon hA (fun m hm _ => rfl)
    (fun b _ hni => hoth b (fun e => hni ⟨n, _, rfl, hg, by rw [e]; exact own1⟩)) (by simp [w', World.setRow]) (fun _ h => .inl h)
    (fun b hb => by
     rcases hb with hb | ⟨i1, j1, hh, hn, rfl⟩
     ·exact .inl hb
     ·exact .inr (.inl ⟨n, _, rfl, hg, .inr ⟨rfl, i1, j1, hh, hn, rfl⟩⟩))
    (fun b hb => by
     have hlt : b < w.heap.size := by
      rcases hb with hb | ⟨i1, j1, hh, hn, rfl⟩
      ·exact hok.lt b hb
      ·exact Own.lt hok ⟨n, _, hg, .inr ⟨rfl, i1, j1, hh, hn, rfl⟩⟩
     exact Nat.lt_of_lt_of_le hlt (by simp [w', World.setRow]))
    (fun m x hm hx => by
     obtain rfl := at1 m x hm hx
     subst hm
     exact ⟨⟨te, q1, hsz, hsh'⟩, hat', fun h => by cases h⟩)
    (fun m x b hm hx hf => by
     obtain rfl := at1 m x hm hx
     subst hm
     rcases hf with ⟨_, rfl⟩ | ⟨hx, _⟩
     ·exact ⟨.inl ⟨m, _, rfl, hg, own1⟩, fun hk => hKne _ hk rfl⟩
     ·cases hx)
    (fun m x m' x' b hm hm' hx hx' hf hf' => by rw [hm, hm'])
    (fun m bs hm hx => by
     have := at1 m _ hm hx; cases this) rfl rfl rfl
   intro K Q hK
   refine wp_skipped hr (hK undef w' c' hh.1 ?_ hh.2 hA)
   refine hsl.changeW hok hh.2 hA hnon o undef (fun k hk => by rw [s1 k hk]; show slot (upd σ (obk n) (.o (.row el false (setC xs i j cs)))) k = _; rw [slot_upd_obk]) (fun d ho => ⟨hd d ho, ?_, ?_⟩)
   ·rw [s2 d ho]; trivial
   ·rw [s2 d ho]; intro k hk; simp [namesSV] at hk
  ·simp at h
 ·simp at h
theorem op_store (hE : EnvOk P E) (hok : Ok E σ w c) (hsl : SlOk E σ a w c) (hd : ∀ d, o.dst = some d -> d < a.tmps.size) {t : Nat} {p x : Operand} (ho : o.op = .store t p x) (h : (opR E nm o).val σ = some e) : Goal P E σ a w c o e.ws := by
 simp only [opR, ho] at h
 obtain ⟨ti, h1, h⟩ := Rd.bind_some h
 obtain ⟨pv, h2, h⟩ := Rd.bind_some h
 obtain ⟨xv, h3, h⟩ := Rd.bind_some h
 have h1 := tyR_some h1
 obtain ⟨ep, kp⟩ := opd1_ok hsl h2
 obtain ⟨ex, kx⟩ := opd_ok hsl h3
 cases xv with
 | v g ys =>
  obtain ⟨h4, h⟩ := bif_fail h
  have h4 := Nat.eq_of_beq_eq_true h4
  obtain ⟨ws, h5, h⟩ := Rd.bind_some h
  obtain rfl := Option.some.inj h
  have hcl := VOk.cells ex
  have hcs : (a.eval x).cells.size = ti.ks.length := by rw [hcl.1, h4]
  have ky : ∀ b ∈ ys, KnownAV σ b := fun b hb n hn => kx n (List.mem_flatMap.2 ⟨b, hb, hn⟩)
  obtain ⟨_, _, _, _, hpos, _⟩ := hE.info t ti h1
  have exec : ∀ {b of : Nat} {cur : Array Value}, a.eval p = .pointer (some (ad b of)) -> Blk w b cur -> of + (a.eval x).cells.size <= cur.size -> (execOp a.eval o).run P w = .ok .skip (w.setRow b (putAt cur of (a.eval x).cells.toList)) := by
   intro b of cur hp hb hf
   unfold execOp; rw [ho]
   refine wsk_run ?_
   rw [hp]
   exact run_storeAt w hE h1 hcs hb hf hcl.one
  have hkK : ∀ (b : Nat) (new : Array Value), Own σ c b -> ∀ b', c.K b' -> (w.setRow b new).heap[b']? = w.heap[b']? := by
   intro b new hb b' hk
   exact setRow_other w b b' new (fun e => by subst e; exact hok.notK hb hk)
  have h50 : (storeR E pv ys).val σ = some ws \/ (∃ n i j, pv = .rp n i j /\ isF n = true /\ (storeF E n i j ys).val σ = some ws) \/ (∃ n i j i2 j2 lo hi, pv = .rp n i j /\ isF n = false /\ ys = [.iv n i2 j2 lo hi] /\ (cutR E n i j i2 j2 lo hi).val σ = some ws) := by
   cases pv with
   | rp n i j =>
    unfold storeX at h5
    simp only at h5
    cases hF : isF n with
    | true => rw [hF, cond_true] at h5; exact .inr (.inl ⟨n, i, j, rfl, hF, h5⟩)
    | false =>
     rw [hF, cond_false] at h5
     cases hv : isIv ys with
     | none => rw [hv] at h5; exact .inl h5
     | some q =>
      obtain ⟨n2, i2, j2, lo, hi⟩ := q
      rw [hv] at h5
      obtain ⟨hb, h9⟩ := bif_fail h5
      clear h5
      have := Nat.eq_of_beq_eq_true hb
      subst this
      exact .inr (.inr ⟨n, i, j, i2, j2, lo, hi, rfl, hF, isIv_ok hv, h9⟩)
   | _ => exact .inl h5
  clear h5
  rcases h50 with h5 | ⟨n, i, j, rfl, hF, h5⟩ | ⟨n, i, j, i2, j2, lo, hi, rfl, hF, rfl, h5⟩
  rotate_left
  ·obtain ⟨hpi, hpv⟩ := ep
   exact goal_fill hok hsl hd hF hpi h5 hcl (by rw [<- h4] at hpos; exact hpos) (fun cur hb hf => exec hpv hb hf)
  ·obtain ⟨hpi, hpv⟩ := ep
   exact goal_cut hok hsl hd hF hpi h5 hcl (fun cur hb hf => exec hpv hb hf)
  cases pv with
  | bp n j =>
   obtain ⟨ob, hg, h5⟩ := Rd.bind_some h5
   have hg := getO_some hg
   cases ob with
   | box xs =>
    obtain ⟨h6, h5⟩ := bif_fail h5
    have h6 := Nat.le_of_ble_eq_true h6
    obtain rfl := Option.some.inj h5
    obtain ⟨cur, hb, hsz, hcv⟩ := hok.obj n _ hg
    have hown : Own σ c (c.P n).blk := ⟨n, _, hg, rfl⟩
    have hfit : j + (a.eval x).cells.size <= cur.size := by rw [hcl.1, hsz]; exact h6
    have hfit' : j + (a.eval x).cells.toList.length <= cur.size := by rw [Array.length_toList]; exact hfit
    have hfr := hkK (c.P n).blk (putAt cur j (a.eval x).cells.toList) hown
    refine goal_put hok hsl hd hg (ob' := .box (splice xs j ys)) ?_ (fun b hb => hb) (fun zs hz b hb => ?_) (s := .un) trivial (fun n hn => by simp [namesSV] at hn) (fun b hb hnf => setRow_other w _ b _ (fun e => hnf e)) (by simp [World.setRow]) rfl rfl rfl (.inr ⟨exec ep hb hfit, rfl⟩)
    ·have := (CellsOk.put (E := E) (w := w) (c := c) ⟨hsz, hcv⟩ hcl h6)
     refine ⟨_, hb.setRow (size_putAt hfit'), this.1, fun q b hq => ?_⟩
     obtain ⟨u, hu, hub⟩ := this.2 q b hq
     exact ⟨u, hu, hub.frame hfr (fun _ h => h) (fun _ _ => ⟨rfl, rfl⟩)⟩
    ·cases hz
     rcases mem_splice hb with hb | hb
     ·exact hok.kn n xs hg b hb
     ·exact ky b hb
   | _ => simp at h5
  | rp n i j =>
   obtain ⟨ob, hg, h5⟩ := Rd.bind_some h5
   have hg := getO_some hg
   cases ob with
   | row el exx xs =>
    obtain ⟨te, h6, h5⟩ := Rd.bind_some h5
    have h6 := tyR_some h6
    obtain ⟨h7, h5⟩ := bif_fail h5
    obtain ⟨⟨cs, w2⟩, h8, h5⟩ := Rd.bind_some h5
    obtain rfl := Option.some.inj h5
    obtain ⟨m1, m2, _, m3⟩ := embs_plain (E := E) (w := w) (c := c) h7 h8
    obtain ⟨⟨t2, q1, hsz, hsh⟩, hat, hin⟩ := hok.obj n _ hg
    obtain rfl : te = t2 := Option.some.inj (h6.symm.trans q1)
    obtain ⟨hi, hpv⟩ := ep
    have hlk : cs.length = ((te.ks.drop j).take ys.length).length := by rw [<- m1]; simp
    have hjl : j + cs.length <= te.ks.length := by
     rw [List.length_take, List.length_drop] at hlk
     have : 0 < cs.length := by rw [m2, h4]; exact hpos
     omega
    have hkd : cs.map CV.kd = (te.ks.drop j).take cs.length := by rw [m1, m2]
    have hi' : i < xs.length := by rw [<- hat.n]; exact hi
    have hnil : (c.P n).nil = false := by
     cases hn : (c.P n).nil with
     | false => rfl
     | true => have := (hat.nil hn).1; subst this; simp at hi'
    have hown : Own σ c (c.P n).blk := ⟨n, _, hg, .inl ⟨hnil, rfl⟩⟩
    have hfr := fun new => hkK (c.P n).blk new hown
    have hinn := innAt_iff hsh
    have hsh' := sh_setC hsh hkd hjl hi'
    have hinn' := innAt_iff hsh'
    have same : ∀ i' j', InnAt (setC xs i j cs) i' j' -> InnAt xs i' j' := fun i' j' hx => (hinn i' j').2 (by have := (hinn' i' j').1 hx; rwa [length_setC] at this)
    obtain ⟨_, vals, hb⟩ := hat.pos hi
    have hyl : ∀ y ∈ xs, y.length = (c.P n).sz := fun y hy => by rw [hsz, <- hsh y hy]; simp
    have hfr' := hfr (putAt vals ((c.P n).off + i * (c.P n).sz + j) (a.eval x).cells.toList)
    have hw : ∀ b, c.K b -> (w.setRow (c.P n).blk (putAt vals ((c.P n).off + i * (c.P n).sz + j) (a.eval x).cells.toList)).heap[b]? = w.heap[b]? := hfr'
    generalize hgw : w.setRow (c.P n).blk (putAt vals ((c.P n).off + i * (c.P n).sz + j) (a.eval x).cells.toList) = w' at hw
    have hoth : ∀ b, b ≠ (c.P n).blk -> w'.heap[b]? = w.heap[b]? := fun b hb => by rw [<- hgw]; exact setRow_other w _ b _ hb
    obtain ⟨hfit, hat'⟩ := RowAt.put (R' := fun i1 j1 u1 x1 => if exx = true then XC E w' (c.G n) i1 j1 u1 x1 else Holds E w' c.K u1 x1) hat hb hyl (i := i) (j := j) (cs := cs) (vs := (a.eval x).cells.toList) hi (by rw [hsz]; exact hjl) (by rw [Array.length_toList, hcl.1, m2])
     (fun q y hq => by
      obtain ⟨r1, r2, r3⟩ := m3 _ hcl q y hq
      refine ⟨scal y, by rw [Array.getElem?_toList]; exact r1, ?_⟩
      split
      ·exact scal_xc r2 ⟨rfl, r3⟩
      ·exact scal_holds r2 ⟨rfl, r3⟩)
     (fun i1 y1 j1 x1 u1 h1 h2 hr => by
      cases exx with
      | true =>
       rw [if_pos rfl] at hr ⊢
       exact hr.frame (fun hl hn => hoth _ ((hin rfl).out i1 j1 ⟨y1, x1, h1, h2, hl⟩ hn hnil))
      | false =>
       rw [if_neg (by simp)] at hr ⊢
       exact hr.frame hw (fun _ h => h))
    rw [hgw] at hat'
    refine goal_put hok hsl hd hg (ob' := .row el exx (setC xs i j cs)) ?_ ?_ (fun zs hz => by cases hz) (s := .un) trivial (fun n hn => by simp [namesSV] at hn) (w' := w') (fun b hb hnf => hoth b (fun e => hnf (.inl ⟨hnil, e⟩))) (by rw [<- hgw]; simp [World.setRow]) (by rw [<- hgw]; rfl) (by rw [<- hgw]; rfl) (by rw [<- hgw]; rfl) (.inr ⟨?_, rfl⟩)
    ·exact ⟨⟨te, q1, hsz, hsh'⟩, hat', fun hx => ⟨fun i1 j1 hh => (hin hx).out i1 j1 (same i1 j1 hh), fun i1 j1 i2 j2 h1 h2 => (hin hx).one i1 j1 i2 j2 (same i1 j1 h1) (same i2 j2 h2)⟩⟩
    ·rintro b (hb | ⟨hx, i1, j1, hh, hn⟩)
     ·exact .inl hb
     ·exact .inr ⟨hx, i1, j1, same i1 j1 hh, hn⟩
    ·rw [<- hgw]
     refine exec hpv hb ?_
     rw [Array.length_toList] at hfit; exact hfit
   | _ => simp at h5
  | ip n i j i2 j2 =>
   obtain ⟨ob, hg, h5⟩ := Rd.bind_some h5
   have hg := getO_some hg
   cases ob with
   | row el exx xs =>
    cases exx with
    | false => simp at h5
    | true =>
    obtain ⟨te, h6, h5⟩ := Rd.bind_some h5
    have h6 := tyR_some h6
    split at h5
    ·rename_i e2 hk2
     obtain ⟨t2, h7, h5⟩ := Rd.bind_some h5
     have h7 := tyR_some h7
     obtain ⟨h8, h5⟩ := bif_fail h5
     obtain ⟨⟨cs, w2⟩, h9, h5⟩ := Rd.bind_some h5
     obtain rfl := Option.some.inj h5
     have hpseg : plain ((t2.ks.drop j2).take ys.length) = true := List.all_eq_true.2 (fun k hk => List.all_eq_true.1 h8 k (List.mem_of_mem_drop (List.mem_of_mem_take hk)))
     obtain ⟨m1, m2, _, m3⟩ := embs_plain (E := E) (w := w) (c := c) hpseg h9
     obtain ⟨⟨hi, hi2, hpv⟩, _⟩ := ep
     obtain ⟨⟨t1, q1, hsz, hsh⟩, hat, hin⟩ := hok.obj n _ hg
     obtain rfl : te = t1 := Option.some.inj (h6.symm.trans q1)
     obtain ⟨zs, y, t3, r1, r2, r3, r4, r5, r6, r7, _⟩ := inn_row hok hg h6 hk2 hi
     obtain rfl : t2 = t3 := Option.some.inj (h7.symm.trans r3)
     rw [cellAt_some r1 r2]
     simp only [cvL]
     have hlk : cs.length = ((t2.ks.drop j2).take ys.length).length := by rw [<- m1]; simp
     have hjl : j2 + cs.length <= t2.ks.length := by
      rw [List.length_take, List.length_drop] at hlk
      have : 0 < cs.length := by rw [m2, h4]; exact hpos
      omega
     have hkd : cs.map CV.kd = (t2.ks.drop j2).take cs.length := by rw [m1, m2]
     have hi2' : i2 < zs.length := by rw [<- r7.n]; exact hi2
     have hi' : i < xs.length := (List.getElem?_eq_some_iff.1 r1).1
     obtain ⟨hnil2, vals, hb⟩ := r7.pos hi2
     obtain ⟨hnil, pv, hpb⟩ := hat.pos hi
     have hina : InnAt xs i j := ⟨y, _, r1, r2, rfl⟩
     have hown : Own σ c (c.G n i j).blk := ⟨n, _, hg, .inr ⟨rfl, i, j, hina, hnil2, rfl⟩⟩
     have hw := hkK (c.G n i j).blk (putAt vals ((c.G n i j).off + i2 * (c.G n i j).sz + j2) (a.eval x).cells.toList) hown
     have hzl : ∀ y ∈ zs, y.length = (c.G n i j).sz := fun y hy => by rw [r5, <- r6 y hy]; simp
     obtain ⟨hfit, hat'⟩ := RowAt.put (R' := fun _ _ u1 x1 => Sc u1 x1) r7 hb hzl (i := i2) (j := j2) (cs := cs) (vs := (a.eval x).cells.toList) hi2 (by rw [r5]; exact hjl) (by rw [Array.length_toList, hcl.1, m2])
      (fun q y hq => ⟨scal y, by rw [Array.getElem?_toList]; exact (m3 _ hcl q y hq).1, rfl, (m3 _ hcl q y hq).2.2⟩) (fun _ _ _ _ _ _ _ hr => hr)
     generalize hgw : w.setRow (c.G n i j).blk (putAt vals ((c.G n i j).off + i2 * (c.G n i j).sz + j2) (a.eval x).cells.toList) = w' at hw hat'
     have hoth : ∀ b, b ≠ (c.G n i j).blk -> w'.heap[b]? = w.heap[b]? := fun b hb => by rw [<- hgw]; exact setRow_other w _ b _ hb
     have hjk : j < te.ks.length := (List.getElem?_eq_some_iff.1 hk2).1
     have hkd1 : [CV.l e2 (setC zs i2 j2 cs)].map CV.kd = (te.ks.drop j).take [CV.l e2 (setC zs i2 j2 cs)].length := by
      rw [List.length_singleton, List.take_one, List.head?_drop, hk2]; rfl
     have hsh' := sh_setC (i := i) (j := j) (cs := [CV.l e2 (setC zs i2 j2 cs)]) hsh hkd1 (by simp; omega) hi'
     have hinn := innAt_iff hsh
     have hinn' := innAt_iff hsh'
     have same : ∀ i' j', InnAt (setC xs i j [CV.l e2 (setC zs i2 j2 cs)]) i' j' -> InnAt xs i' j' := fun i' j' hx => (hinn i' j').2 (by have := (hinn' i' j').1 hx; rwa [length_setC] at this)
     have hpne : (c.P n).blk ≠ (c.G n i j).blk := fun e => (hin rfl).out i j hina hnil2 hnil e.symm
     have hat2 : RowAt w' (c.P n) (setC xs i j [CV.l e2 (setC zs i2 j2 cs)]) (fun i1 j1 u1 x1 => if true = true then XC E w' (c.G n) i1 j1 u1 x1 else Holds E w' c.K u1 x1) := by
      obtain ⟨vs, k1, k2, k3, k4, k5⟩ := hat.mem hnil
      refine ⟨by rw [length_setC]; exact hat.n, fun hn => (by rw [hnil] at hn; cases hn), fun _ => ⟨vs, k1.frame (hoth _ hpne), k2, k3, k4, fun i1 y1 j1 x1 g1 g2 => ?_⟩⟩
      rw [setC_get r1] at g1
      simp only [if_true] at k5 ⊢
      by_cases hii : i1 = i
      ·subst hii
       rw [if_pos rfl] at g1
       cases g1
       have hyl : y.length = te.ks.length := by rw [<- hsh y (List.mem_of_getElem? r1)]; simp
       rw [splice_get (by simp; omega)] at g2
       by_cases hq : j <= j1 /\ j1 < j + [CV.l e2 (setC zs i2 j2 cs)].length
       ·rw [if_pos hq] at g2
        have : j1 = j := by simp at hq; omega
        subst this
        simp at g2
        subst g2
        obtain ⟨u, hu, hr⟩ := k5 _ _ _ _ r1 r2
        refine ⟨u, hu, hr.1, t2, r3, r4, r5, sh_setC r6 hkd hjl hi2', hat'⟩
       ·rw [if_neg hq] at g2
        obtain ⟨u, hu, hr⟩ := k5 _ _ _ _ r1 g2
        refine ⟨u, hu, hr.frame (fun hl hn => hoth _ (fun e => ?_))⟩
        have := ((hin rfl).one _ _ _ _ ⟨y, x1, r1, g2, hl⟩ hina hn hnil2 e).2
        simp at hq; omega
      ·rw [if_neg hii] at g1
       obtain ⟨u, hu, hr⟩ := k5 _ _ _ _ g1 g2
       exact ⟨u, hu, hr.frame (fun hl hn => hoth _ (fun e => hii ((hin rfl).one _ _ _ _ ⟨y1, x1, g1, g2, hl⟩ hina hn hnil2 e).1))⟩
     refine goal_put hok hsl hd hg (ob' := .row el true (setC xs i j [CV.l e2 (setC zs i2 j2 cs)])) ?_ ?_ (fun zs hz => by cases hz) (s := .un) trivial (fun n hn => by simp [namesSV] at hn) (w' := w') (fun b hb hnf => hoth b (fun e => hnf (.inr ⟨rfl, i, j, hina, hnil2, e⟩))) (by rw [<- hgw]; simp [World.setRow]) (by rw [<- hgw]; rfl) (by rw [<- hgw]; rfl) (by rw [<- hgw]; rfl) (.inr ⟨?_, rfl⟩)
     ·exact ⟨⟨te, q1, hsz, hsh'⟩, hat2, fun hx => ⟨fun i1 j1 hh => (hin hx).out i1 j1 (same i1 j1 hh), fun i1 j1 i2 j2 h1 h2 => (hin hx).one i1 j1 i2 j2 (same i1 j1 h1) (same i2 j2 h2)⟩⟩
     ·rintro b (hb | ⟨hx, i1, j1, hh, hn⟩)
      ·exact .inl hb
      ·exact .inr ⟨hx, i1, j1, same i1 j1 hh, hn⟩
     ·rw [<- hgw]
      refine exec hpv hb ?_
      rw [Array.length_toList] at hfit; exact hfit
    ·simp at h5
   | _ => simp at h5
  | _ => simp [storeR] at h5
 | tup => simp at h
 | un => simp at h
end
end Go.FG

