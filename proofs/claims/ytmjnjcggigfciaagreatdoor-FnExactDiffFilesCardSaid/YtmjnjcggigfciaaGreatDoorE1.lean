import GoSem.Dispatch
import Derived.Calls
import Derived.KernelRfl
import Derived.Laws.Append
import Derived.Laws.IdiomCopy
import Derived.Laws.BytesString
set_option linter.unusedVariables false
namespace Go.Abs
open Go

/-- Kinds of values. -/
inductive Ty where
  | int (k : IntKind)
  | bool
  | str
  | list (e : Ty)
  | one (f : Ty)
  | pair (f r : Ty)
  deriving DecidableEq

abbrev Ty.den : Ty → Type
  | .int _ => Int
  | .bool => Bool
  | .str => ByteArray
  | .list e => List e.den
  | .one f => f.den
  | .pair f r => f.den × r.den

def Ty.dflt : (τ : Ty) → τ.den
  | .int _ => (0 : Int)
  | .bool => false
  | .str => ByteArray.empty
  | .list _ => []
  | .one f => f.dflt
  | .pair f r => (f.dflt, r.dflt)

def Ty.size : Ty → Nat
  | .one f => f.size
  | .pair f r => f.size + r.size
  | _ => 1

/-- no slice inside -/
def Ty.flat : Ty → Bool
  | .list _ => false
  | .one f => f.flat
  | .pair f r => f.flat && r.flat
  | _ => true

def Ty.isAgg : Ty → Bool
  | .one _ => true
  | .pair _ _ => true
  | _ => false

abbrev Dyn := (τ : Ty) × τ.den

def toTy (τ : Ty) (y : Dyn) : Option τ.den := if h : y.1 = τ then some (h ▸ y.2) else none

def Ty.getF : (τ : Ty) → Nat → τ.den → Option Dyn
  | .pair a _, 0, x => some ⟨a, x.1⟩
  | .pair _ r, k + 1, x => r.getF k x.2
  | .one a, 0, x => some ⟨a, x⟩
  | _, _, _ => none

def Ty.setF : (τ : Ty) → Nat → τ.den → Dyn → Option τ.den
  | .pair a _, 0, x, y => if h : y.1 = a then some (h ▸ y.2, x.2) else none
  | .pair _ r, k + 1, x, y => (r.setF k x.2 y).map fun z => (x.1, z)
  | .one a, 0, x, y => if h : y.1 = a then some (h ▸ y.2) else none
  | _, _, _, _ => none

inductive Step where
  | ix (i : Nat)
  | fl (k : Nat)

def getP : (τ : Ty) → τ.den → List Step → Option Dyn
  | τ, x, [] => some ⟨τ, x⟩
  | .list e, xs, .ix i :: p => getP e (xs.getD i e.dflt) p
  | τ, x, .fl k :: p => (τ.getF k x).bind fun y => getP y.1 y.2 p
  | _, _, _ => none

def setP : (τ : Ty) → τ.den → List Step → Dyn → Option τ.den
  | τ, x, [], y => if h : y.1 = τ then some (h ▸ y.2) else none
  | .list e, xs, .ix i :: p, y => (setP e (xs.getD i e.dflt) p y).map fun z => xs.set i z
  | τ, x, .fl k :: p, y => (τ.getF k x).bind fun z => (setP z.1 z.2 p y).bind fun z' => τ.setF k x ⟨z.1, z'⟩
  | _, _, _, _ => none

/-- What a slot holds. -/
inductive SV where
  | val (τ : Ty) (x : τ.den)
  | nil
  | at (id : Nat) (ver : Nat) (p : List Step)
  | ptr (id : Nat) (ver : Nat) (p : List Step) (σ : Ty)
  | sp (τ : Ty) (x : τ.den)
  | bp (id : Nat) (p : List Nat)
  | agg (xs : List SV)
  | tup (xs : List SV)
  | fn (f : FuncId) (caps : List SV)
  | undef

/-- a struct's fields in slots -/
def fieldsOf : (τ : Ty) → τ.den → List SV
  | .one f, x => [.val f x]
  | .pair f r, x => .val f x.1 :: fieldsOf r x.2
  | .int k, x => [.val (.int k) x]
  | .bool, x => [.val .bool x]
  | .str, x => [.val .str x]
  | .list e, x => [.val (.list e) x]

def getSV : SV → List Nat → Option SV
  | v, [] => some v
  | .val τ x, k :: p => ((fieldsOf τ x)[k]?).bind fun v => getSV v p
  | .agg vs, k :: p => (vs[k]?).bind fun v => getSV v p
  | _, _ => none

def setSV : SV → List Nat → SV → Option SV
  | _, [], u => some u
  | .val τ x, k :: p, u => ((fieldsOf τ x)[k]?).bind fun v => (setSV v p u).map fun v' => .agg ((fieldsOf τ x).set k v')
  | .agg vs, k :: p, u => (vs[k]?).bind fun v => (setSV v p u).map fun v' => .agg (vs.set k v')
  | _, _, _ => none

def Ty.fldOff : Ty → Nat → Option (Ty × Nat)
  | .pair a _, 0 => some (a, 0)
  | .pair a r, k + 1 => (r.fldOff k).map fun p => (p.1, a.size + p.2)
  | .one a, 0 => some (a, 0)
  | _, _ => none

def fldPath : Ty → List Nat → Option (Ty × Nat)
  | σ, [] => some (σ, 0)
  | σ, k :: p => (σ.fldOff k).bind fun q => (fldPath q.1 p).map fun r => (r.1, q.2 + r.2)

structure Root where
  d : Nat
  τ : Ty
  xs : List τ.den
  ver : Nat

inductive RSt where
  | none
  | dead
  | frz (τ : Ty) (xs : List τ.den)
  | live (r : Root)
  | box (σ : Ty) (c : SV)
  | hole (r : Root) (p : List Step)

structure St where
  sl : Nat → SV
  rt : Nat → RSt

def St.put (s : St) (i : Nat) (v : SV) : St := { s with sl := fun j => bif Nat.beq j i then v else s.sl j }
def St.putR (s : St) (i : Nat) (v : RSt) : St := { s with rt := fun j => bif Nat.beq j i then v else s.rt j }

/-- What an operation asks of the state. -/
inductive Rd (α : Type) : Type 1 where
  | ret (a : α)
  | sl (i : Nat) (k : SV → Rd α)
  | rt (id : Nat) (k : RSt → Rd α)
  | br (g : Nat) (k : Bool → Rd α)
  | chk (b : Bool) (k : Rd α)
  | ite (b : Bool) (k k' : Rd α)
  | opt (δ : Type) (o : Option δ) (k : δ → Rd α)
  | fail

namespace Rd
def bind {α β : Type} : Rd α → (α → Rd β) → Rd β
  | .ret a, f => f a
  | .sl i k, f => .sl i fun v => (k v).bind f
  | .rt i k, f => .rt i fun v => (k v).bind f
  | .br b k, f => .br b fun v => (k v).bind f
  | .chk b k, f => .chk b (k.bind f)
  | .ite b k k', f => .ite b (k.bind f) (k'.bind f)
  | .opt δ o k, f => .opt δ o fun v => (k v).bind f
  | .fail, _ => .fail

/-- What comes of it, and what it looked at. -/
def run {α : Type} : Rd α → St → List Nat → Option (α × List Nat)
  | .ret a, _, l => some (a, l)
  | .sl i f, s, l => (f (s.sl i)).run s (2 * i :: l)
  | .rt i f, s, l => (f (s.rt i)).run s ((2 * i + 1) :: l)
  | .br g f, s, l => match s.sl g with
    | .val .bool b => (f b).run s (2 * g :: l)
    | _ => none
  | .chk b f, s, l => cond b (f.run s l) none
  | .ite b f g, s, l => cond b (f.run s l) (g.run s l)
  | .opt _ o f, s, l => o.bind fun x => (f x).run s l
  | .fail, _, _ => none

/-- The same in words of what comes behind it. -/
def ev {α γ : Type} : Rd α → St → List Nat → (α → St → List Nat → Option γ) → Option γ
  | .ret a, s, l, k => k a s l
  | .sl i f, s, l, k => (f (s.sl i)).ev s (2 * i :: l) k
  | .rt i f, s, l, k => (f (s.rt i)).ev s ((2 * i + 1) :: l) k
  | .br g f, s, l, k => match s.sl g with
    | .val .bool b => cond b ((f true).ev (s.put g (.val .bool true)) (2 * g :: l) k) ((f false).ev (s.put g (.val .bool false)) (2 * g :: l) k)
    | _ => none
  | .chk b f, s, l, k => cond b (f.ev s l k) none
  | .ite b f g, s, l, k => cond b (f.ev s l k) (g.ev s l k)
  | .opt _ o f, s, l, k => o.bind fun x => (f x).ev s l k
  | .fail, _, _, _ => none
end Rd

def opd : Operand → Rd SV
  | .tmp t => .sl t .ret
  | .const (.int k n) => .ret (.val (.int k) n)
  | .const (.bool b) => .ret (.val .bool b)
  | .const (.string s) => .ret (.val .str s)
  | .const (.slice none 0 0) => .ret .nil
  | .func f => .ret (.fn f [])
  | _ => .fail

structure Eff where
  v : SV
  rts : List (Nat × RSt)

def opList : List Operand → Rd (List SV)
  | [] => .ret []
  | o :: r => (opd o).bind fun v => (opList r).bind fun vs => .ret (v :: vs)

def svV (id ver : Nat) (d : Nat) (τ : Ty) (p : List Step) (x : τ.den) (fs : List SV) : SV :=
  bif τ.flat || Nat.beq d 0 then .val τ x else
  match τ with
  | .list _ => .at id ver p
  | _ => .agg fs
def svF (id ver : Nat) (d : Nat) : (τ : Ty) → List Step → Nat → τ.den → List SV
  | .one f, p, k, x => [svV id ver d f (p ++ [.fl k]) x (svF id ver d f (p ++ [.fl k]) 0 x)]
  | .pair f r, p, k, x => svV id ver d f (p ++ [.fl k]) x.1 (svF id ver d f (p ++ [.fl k]) 0 x.1) :: svF id ver d r p (k + 1) x.2
  | _, _, _, _ => [.undef]
/-- the content of a place, told as a slot: plain where nothing owned is inside -/
def svAt (id ver : Nat) (d : Nat) (τ : Ty) (p : List Step) (x : τ.den) : SV := svV id ver d τ p x (svF id ver d τ p 0 x)

/-- the depth at which a place lies owned -/
def depthP : Nat → List Step → Nat
  | d, [] => d
  | d, .ix _ :: p => depthP (d - 1) p
  | d, .fl _ :: p => depthP d p

abbrev apartIds (l m : List (Nat × RSt)) : Bool := l.all fun p => m.all fun q => !(Nat.beq p.1 q.1)

def nix : List Step → Nat
  | [] => 0
  | .ix _ :: p => nix p + 1
  | .fl _ :: p => nix p

/-- a pointer's root: a pointer through a slice that lies in memory holds for its version alone -/
def live {α : Type} (id ver : Nat) (p : List Step) (k : Root → Rd α) : Rd α :=
  .rt id fun
    | .live r => bif Nat.ble (nix p) 1 || Nat.beq r.ver ver then k r else .fail
    | _ => .fail

/-- a slice's root -/
def liveS {α : Type} (id ver : Nat) (p : List Step) (k : Root → Rd α) : Rd α :=
  .rt id fun
    | .live r => bif Nat.beq (nix p) 0 || Nat.beq r.ver ver then k r else .fail
    | _ => .fail

/-- a slice's kind and content -/
def content : SV → Rd Dyn
  | .val τ x => .ret ⟨τ, x⟩
  | .at id ver p => .rt id fun
    | .live r => bif Nat.beq (nix p) 0 || Nat.beq r.ver ver then
        match getP (.list r.τ) r.xs p with
        | some y => .ret y
        | none => .fail
      else .fail
    | .frz τ xs => match p with
        | [] => .ret ⟨.list τ, xs⟩
        | _ => .fail
    | _ => .fail
  | _ => .fail

mutual
/-- the slot's value can be stored as of a kind -/
def stor : SV → Ty → Rd Unit
  | .val τ _, σ => if τ = σ then .ret () else .fail
  | .nil, .list _ => .ret ()
  | .at id ver p, .list e => (content (.at id ver p)).bind fun y => if y.1 = .list e then .ret () else .fail
  | .agg vs, σ => bif σ.isAgg then storL vs σ else .fail
  | _, _ => .fail
def storL : List SV → Ty → Rd Unit
  | [v], .one f => stor v f
  | v :: vs, .pair f r => (stor v f).bind fun _ => storL vs r
  | _, _ => .fail
end

def asInt {α : Type} : SV → (IntKind → Int → Rd α) → Rd α
  | .val (.int k) x, f => f k x
  | _, _ => .fail

def asBool {α : Type} : SV → (Bool → Rd α) → Rd α
  | .val .bool x, f => f x
  | _, _ => .fail

/-- shifted down; bit by bit -/
def shrI (k : IntKind) (x y : Int) : Int := x.fdiv (2 ^ min y.toNat k.bits)
def andI (k : IntKind) (x y : Int) : Int := k.wrap ((BitVec.ofInt k.bits x &&& BitVec.ofInt k.bits y).toNat : Int)

def binOp (op : BinOp) (a b : SV) : Rd SV :=
  match a, b with
  | .val (.int k) x, .val (.int k') y =>
    if k = k' then
      match op with
      | .add => .ret (.val (.int k) (k.wrap (x + y)))
      | .sub => .ret (.val (.int k) (k.wrap (x - y)))
      | .mul => .ret (.val (.int k) (k.wrap (x * y)))
      | .quo => .chk (!decide (y = 0)) (.ret (.val (.int k) (k.wrap (x.tdiv y))))
      | .rem => .chk (!decide (y = 0)) (.ret (.val (.int k) (x.tmod y)))
      | .shr => .chk (decide (0 ≤ y)) (.ret (.val (.int k) (shrI k x y)))
      | .and => .ret (.val (.int k) (andI k x y))
      | .eql => .ret (.val .bool (decide (x = y)))
      | .neq => .ret (.val .bool (!decide (x = y)))
      | .lss => .ret (.val .bool (decide (x < y)))
      | .leq => .ret (.val .bool (decide (x ≤ y)))
      | .gtr => .ret (.val .bool (decide (x > y)))
      | .geq => .ret (.val .bool (decide (x ≥ y)))
      | _ => .fail
    else .fail
  | .val .str x, .val .str y =>
    match op with
    | .add => .chk (decide (x.size + y.size ≤ 9223372036854775807)) (.ret (.val .str (x ++ y)))
    | .eql => .ret (.val .bool (x.toList == y.toList))
    | .neq => .ret (.val .bool (!(x.toList == y.toList)))
    | .lss => .ret (.val .bool (Op.bytesLess x.toList y.toList))
    | .leq => .ret (.val .bool (Op.bytesLess x.toList y.toList || x.toList == y.toList))
    | .gtr => .ret (.val .bool (!Op.bytesLess x.toList y.toList && !(x.toList == y.toList)))
    | .geq => .ret (.val .bool (!Op.bytesLess x.toList y.toList))
    | _ => .fail
  | _, _ => .fail

def fresh {α : Type} (id : Nat) (k : Rd α) : Rd α :=
  .rt id fun
    | .none => k
    | _ => .fail

def room (b : Nat) : Nat := 140737488355328 / b

/-- bytes as a string, and back -/
def strOf (xs : List Int) : ByteArray := ⟨(xs.map fun n => UInt8.ofNat n.toNat).toArray⟩
def bytesOfStr (s : ByteArray) : List Int := s.data.toList.map fun b => (b.toNat : Int)

/-- bytes of a string, read -/
def bt (s : ByteArray) (i : Int) : Int := ((s.data.toList.getD i.toNat 0).toNat : Int)

/-- A value to be laid into memory at a depth: what is taken over ends. -/
def lay : (τ : Ty) → Nat → SV → Rd (τ.den × List (Nat × RSt))
  | τ, d, .val σ x => match toTy τ ⟨σ, x⟩ with
    | some y => bif Nat.beq d 0 || τ.flat then .ret (y, []) else .fail
    | none => .fail
  | .list e, d, .nil => .ret ([], [])
  | .list e, d, .at id ver [] => .rt id fun
    | .live r => match toTy (.list e) ⟨.list r.τ, r.xs⟩ with
      | some y => match d with
        | 0 => .ret (y, [(id, .frz r.τ r.xs)])
        | d + 1 => bif Nat.ble d r.d || e.flat then .ret (y, [(id, .dead)]) else .fail
      | none => .fail
    | .frz τ xs => match toTy (.list e) ⟨.list τ, xs⟩ with
      | some y => bif Nat.beq d 0 then .ret (y, []) else .fail
      | none => .fail
    | _ => .fail
  | .one f, d, .agg [v] => (lay f d v).bind fun (x, l) => .ret (x, l)
  | .pair f r, d, .agg (v :: vs) => (lay f d v).bind fun (x, l) => (lay r d (.agg vs)).bind fun (y, m) => .chk (apartIds l m) (.ret ((x, y), l ++ m))
  | _, _, _ => .fail

def layAll (τ : Ty) (d : Nat) : List SV → Rd (List τ.den × List (Nat × RSt))
  | [] => .ret ([], [])
  | v :: vs => (lay τ d v).bind fun (x, l) => (layAll τ d vs).bind fun (xs, m) => .chk (apartIds l m) (.ret (x :: xs, l ++ m))

def DEEP : Nat := 9

def inOrder : Nat → List (Nat × Operand) → Option (List Operand)
  | _, [] => some []
  | i, (j, o) :: r => bif Nat.beq i j then (inOrder (i + 1) r).map (o :: ·) else none

/-- Several values. -/
abbrev DL : List Ty → Type
  | [] => Unit
  | [τ] => τ.den
  | τ :: r => τ.den × DL r

def DL.cons {τ : Ty} : {r : List Ty} → τ.den → DL r → DL (τ :: r)
  | [], x, _ => x
  | _ :: _, x, y => (x, y)
def DL.head {τ : Ty} : {r : List Ty} → DL (τ :: r) → τ.den
  | [], x => x
  | _ :: _, x => x.1
def DL.tail {τ : Ty} : {r : List Ty} → DL (τ :: r) → DL r
  | [], _ => ()
  | _ :: _, x => x.2
def DL.app : {a b : List Ty} → DL a → DL b → DL (a ++ b)
  | [], _, _, y => y
  | _ :: _, _, x, y => DL.cons x.head (DL.app x.tail y)
def DL.left : {a b : List Ty} → DL (a ++ b) → DL a
  | [], _, _ => ()
  | _ :: _, _, x => DL.cons x.head (DL.left x.tail)
def DL.right : {a b : List Ty} → DL (a ++ b) → DL b
  | [], _, x => x
  | _ :: _, _, x => DL.right (DL.tail x)

/-- How an argument (or a variable at a cut) is told. -/
inductive Par where
  | val (τ : Ty)
  | own (d : Nat) (τ : Ty)
  | io (d : Nat) (τ : Ty)
  | box (d : Nat) (τ : Ty)
  | agg (p : Par)
  | fn (f : FuncId) (p : Par)
  | any (k : Nat)
  | skip
  | nil
  | cons (a b : Par)

def Par.ins : Par → List Ty
  | .val τ => [τ]
  | .own _ τ => [.list τ]
  | .io _ τ => [.list τ]
  | .box _ τ => [τ]
  | .agg p => p.ins
  | .fn _ p => p.ins
  | .any _ => []
  | .skip => []
  | .nil => []
  | .cons a b => a.ins ++ b.ins

/-- of what is told: what comes back -/
def Par.hasOut : Par → Bool
  | .io _ _ => true
  | .box _ _ => true
  | .agg p => p.hasOut
  | .fn _ p => p.hasOut
  | .cons a b => a.hasOut || b.hasOut
  | _ => false
/-- of a struct's fields: all can be told apart -/
def Par.aggOk : Par → Bool
  | .skip => false
  | .fn _ _ => false
  | .agg p => p.aggOk
  | .cons a b => a.aggOk && b.aggOk
  | _ => true
def Par.outAgg : Par → Par
  | .val τ => .any τ.size
  | .own _ _ => .any 1
  | .agg p => .agg p.outAgg
  | .cons a b => .cons a.outAgg b.outAgg
  | .fn _ _ => .nil
  | .io d τ => .io d τ
  | .box d τ => .box d τ
  | .any k => .any k
  | .skip => .skip
  | .nil => .nil
def Par.outTop : Par → Par
  | .io d τ => .io d τ
  | .box d τ => .box d τ
  | .agg p => bif p.hasOut then .agg p.outAgg else .skip
  | .fn f p => bif p.hasOut then .fn f p.outTop else .skip
  | .cons a b => .cons a.outTop b.outTop
  | .nil => .nil
  | _ => .skip

def Par.outs (p : Par) : List Ty := p.outTop.ins

structure Sum where
  pars : Par
  res : List (Nat × Ty)
  run : Nat → DL pars.ins → Option (DL (res.map (·.2) ++ pars.outs))

structure Env where
  ty : TypeId → Option (Ty × Nat)
  arr : TypeId → Option Nat := fun _ => none
  cmp : TypeId → Bool := fun _ => false
  frz : Nat → List Nat := fun _ => []
  sum : FuncId → List FuncId → Option Sum

def tyOf {α : Type} (E : Env) (t : TypeId) (k : Ty → Nat → Rd α) : Rd α :=
  match E.ty t with
  | some (τ, n) => k τ n
  | none => .fail

mutual
/-- results in slots: what is owned gets a root -/
def unpack1 : Nat → (τ : Ty) → Nat → τ.den → (SV × List (Nat × RSt) × Nat)
  | d, τ, i, x => bif τ.flat || Nat.beq d 0 then (.val τ x, [], i) else
    match τ, x with
    | .list e, x => (.at i 0 [], [(i, .live ⟨d - 1, e, x, 0⟩)], i + 1)
    | .one f, x => match unpack1 d f i x with
      | (v, rs, j) => (.agg [v], rs, j)
    | .pair f r, x => match unpack1 d f i x.1 with
      | (v, rs, j) => match unpackF d r j x.2 with
        | (vs, qs, l) => (.agg (v :: vs), rs ++ qs, l)
    | τ, x => (.val τ x, [], i)
def unpackF : Nat → (τ : Ty) → Nat → τ.den → (List SV × List (Nat × RSt) × Nat)
  | d, .one f, i, x => match unpack1 d f i x with
      | (v, rs, j) => ([v], rs, j)
  | d, .pair f r, i, x => match unpack1 d f i x.1 with
      | (v, rs, j) => match unpackF d r j x.2 with
        | (vs, qs, l) => (v :: vs, rs ++ qs, l)
  | d, .list e, i, x => bif Nat.beq d 0 then ([.val (.list e) x], [], i) else ([.at i 0 []], [(i, .live ⟨d - 1, e, x, 0⟩)], i + 1)
  | _, .int k, i, x => ([.val (.int k) x], [], i)
  | _, .bool, i, x => ([.val .bool x], [], i)
  | _, .str, i, x => ([.val .str x], [], i)
end

def unpack : (l : List (Nat × Ty)) → Nat → DL (l.map (·.2)) → (List SV × List (Nat × RSt) × Nat)
  | [], i, _ => ([], [], i)
  | (d, τ) :: r, i, x => match unpack1 d τ i (DL.head x) with
    | (v, rs, j) => match unpack r j (DL.tail x) with
      | (vs, qs, l) => (v :: vs, rs ++ qs, l)

/-- given: the slot's value and the roots of what is told; the next free id -/
def give : (p : Par) → Nat → DL p.ins → (List SV × List (Nat × RSt) × Nat)
  | .val τ, i, x => ([.val τ x], [], i)
  | .own d τ, i, x => ([.at i 0 []], [(i, .live ⟨d, τ, x, 0⟩)], i + 1)
  | .io d τ, i, x => ([.at i 0 []], [(i, .live ⟨d, τ, x, 0⟩)], i + 1)
  | .box d τ, i, x => match unpack1 d τ (i + 1) x with
    | (v, rs, j) => ([.bp i []], (i, .box τ v) :: rs, j)
  | .agg p, i, x => match give p i x with
    | (vs, rs, j) => ([.agg vs], rs, j)
  | .fn f p, i, x => match give p i x with
    | (vs, rs, j) => ([.fn f vs], rs, j)
  | .any _, i, _ => ([.undef], [], i)
  | .skip, i, _ => ([.undef], [], i)
  | .nil, i, _ => ([], [], i)
  | .cons a b, i, x => match give a i (DL.left x) with
    | (vs, rs, j) => match give b j (DL.right x) with
      | (ws, qs, l) => (vs ++ ws, rs ++ qs, l)

def noneOf (l m : List Nat) : Bool := l.all fun i => m.all fun j => !(Nat.beq i j)

/-- how many slices stand one in the other -/
def Ty.deep : Ty → Nat
  | .list e => e.deep + 1
  | .one f => f.deep
  | .pair f r => max f.deep r.deep
  | _ => 0

/-- lent to a call: read there alone; the roots that are lent -/
def lend : (τ : Ty) → SV → Rd (τ.den × List Nat)
  | τ, .val σ x => match toTy τ ⟨σ, x⟩ with
    | some y => .ret (y, [])
    | none => .fail
  | .list e, .nil => .ret ([], [])
  | .list e, .at id ver p => (content (.at id ver p)).bind fun y => match toTy (.list e) y with
    | some y => .rt id fun
      | .frz _ _ => .ret (y, [])
      | _ => .ret (y, [id])
    | none => .fail
  | .one f, .agg [v] => lend f v
  | .pair f r, .agg (v :: vs) => (lend f v).bind fun (x, l) => (lend r (.agg vs)).bind fun (y, m) => .ret ((x, y), l ++ m)
  | _, _ => .fail

/-- What a call is told: its numbers, the roots that end, where what comes back is laid, the roots that are lent. -/
structure Tk (p : Par) where
  x : DL p.ins
  dead : List (Nat × RSt)
  back : List (Nat × List Step)
  lent : List Nat

def idsOf (dead : List (Nat × RSt)) (back : List (Nat × List Step)) : List Nat := dead.map (·.1) ++ back.map (·.1)
def depthOk (τ : Ty) (d k : Nat) : Bool := Nat.beq d k || (Nat.ble τ.deep d && Nat.ble τ.deep k)

def takeP : (p : Par) → SV → Rd (Tk p)
  | .val τ, v => (lend τ v).bind fun (x, l) => .ret ⟨x, [], [], l⟩
  | .own d τ, .nil => .ret ⟨([] : List τ.den), [], [], []⟩
  | .own d τ, .at id ver [] => liveS id ver [] fun r => match toTy (.list τ) ⟨.list r.τ, r.xs⟩ with
    | some y => bif Nat.ble d r.d then .ret ⟨y, [(id, .dead)], [], []⟩ else .fail
    | none => .fail
  | .io d τ, .at id ver p => liveS id ver p fun r => match getP (.list r.τ) r.xs p with
    | some z => match toTy (.list τ) z with
      | some y => bif depthOk (.list τ) (d + 1) (depthP (r.d + 1) p) then .ret ⟨y, [], [(id, p)], []⟩ else .fail
      | none => .fail
    | none => .fail
  | .box d τ, .bp id [] => .rt id fun
    | .box σ c => if σ = τ then (lay τ d c).bind fun (y, l) => .chk (apartIds [(id, .dead)] l) (.ret ⟨y, l, [(id, [])], []⟩) else .fail
    | _ => .fail
  | .any k, .val τ _ => bif Nat.beq k τ.size then .ret ⟨(), [], [], []⟩ else .fail
  | .skip, _ => .ret ⟨(), [], [], []⟩
  | .agg p, .agg vs => .chk (!p.hasOut || p.aggOk) ((takeL p vs).bind fun t => .ret ⟨t.x, t.dead, t.back, t.lent⟩)
  | .fn f p, .fn g vs => bif Nat.beq f g then (takeL p vs).bind fun t => .ret ⟨t.x, t.dead, t.back, t.lent⟩ else .fail
  | _, _ => .fail where
  takeL : (p : Par) → List SV → Rd (Tk p)
  | .nil, [] => .ret ⟨(), [], [], []⟩
  | .cons a b, v :: vs => (takeP a v).bind fun t => (takeL b vs).bind fun u =>
      .chk (noneOf (idsOf t.dead t.back) (idsOf u.dead u.back) && (noneOf (idsOf t.dead t.back) u.lent && noneOf t.lent (idsOf u.dead u.back)))
        (.ret ⟨DL.app t.x u.x, t.dead ++ u.dead, t.back ++ u.back, t.lent ++ u.lent⟩)
  | _, _ => .fail

def bump (r : Root) : Nat := bif r.τ.flat then r.ver else r.ver + 1

/-- what comes back is laid where it was; i: the next free id -/
def putBack : (q : Par) → Nat → DL q.ins → List (Nat × List Step) → Rd (List (Nat × RSt) × List (Nat × RSt) × List (Nat × List Step) × Nat)
  | .io d τ, i, y, (id, p) :: bs => .rt id fun
    | .live r => match setP (.list r.τ) r.xs p ⟨.list τ, y⟩ with
      | some xs => .ret ([(id, .live { r with xs := xs, ver := bump r })], [], bs, i)
      | none => .fail
    | _ => .fail
  | .box d τ, i, y, (id, _) :: bs => match unpack1 d τ i y with
    | (v, rs, j) => .ret ([(id, .box τ v)], rs, bs, j)
  | .agg p, i, y, bs => putBack p i y bs
  | .fn _ p, i, y, bs => putBack p i y bs
  | .cons a b, i, y, bs => (putBack a i (DL.left y) bs).bind fun (l, nl, bs, j) => (putBack b j (DL.right y) bs).bind fun (m, nm, bs, j) => .ret (l ++ m, nl ++ nm, bs, j)
  | _, i, _, bs => .ret ([], [], bs, i)

def fnsOf : List SV → List FuncId
  | [] => []
  | .fn f _ :: r => f :: fnsOf r
  | _ :: r => fnsOf r

/-- the ids are new -/
def allFresh {α : Type} : List (Nat × RSt) → Rd α → Rd α
  | [], k => k
  | (i, _) :: l, k => .rt i fun
    | .none => allFresh l k
    | _ => .fail

/-- what comes back hangs on nothing that was lent -/
def deepRes : List (Nat × Ty) → Bool
  | [] => true
  | (d, τ) :: r => Nat.ble τ.deep d && deepRes r
def deepOut : Par → Bool
  | .io d τ => Nat.ble τ.deep d
  | .box d τ => Nat.ble τ.deep d
  | .agg p => deepOut p
  | .fn _ p => deepOut p
  | .cons a b => deepOut a && deepOut b
  | _ => true

/-- A call of a function that has a contract. -/
def callF (E : Env) (n : Nat) (d : Nat) (f : FuncId) (vs : List SV) : Rd Eff :=
  match E.sum f (fnsOf vs) with
  | none => .fail
  | some s => (takeP.takeL s.pars vs).bind fun t => .chk (t.lent.isEmpty || (deepRes s.res && deepOut s.pars)) (.opt _ (s.run n t.x) fun y =>
    match unpack s.res (32 * d) (DL.left y) with
    | (ws, rs, j) => (putBack s.pars.outTop j (DL.right y) t.back).bind fun (m, nw, _) => allFresh (rs ++ nw) (.ret ⟨match ws with | [v] => v | _ => .tup ws, t.dead ++ m ++ (nw ++ rs)⟩))

/-- how deep what a slot builds is owned: a hint -/
def bsd (E : Env) (d : Nat) : Nat := bif (E.frz (1000000 + d)).isEmpty then DEEP else 0

def zeros : (τ : Ty) → Nat → List τ.den
  | τ, n => List.replicate n τ.dflt

/-- what is appended to -/
def sameP {α : Type} : List Step → List Step → Rd α → Rd α
  | [], [], k => k
  | .ix i :: p, .ix j :: q, k => .chk (decide (i = j)) (sameP p q k)
  | .fl i :: p, .fl j :: q, k => bif Nat.beq i j then sameP p q k else .fail
  | _, _, _ => .fail

/-- a slice inside another one is taken out: J is its new root -/
def appBase (J : Nat) (e : Ty) : SV → Rd (Nat × List e.den × List (Nat × RSt))
  | .nil => .ret (DEEP, [], [])
  | .at id ver [] => liveS id ver [] fun r => match toTy (.list e) ⟨.list r.τ, r.xs⟩ with
    | some xs => .ret (r.d, xs, [(id, .dead)])
    | none => .fail
  | .at id ver p => fresh J (liveS id ver p fun r => match getP (.list r.τ) r.xs p with
    | some y => match toTy (.list e) y with
      | some xs => bif Nat.beq (nix p) 1 && Nat.ble 1 r.d then .ret (r.d - 1, xs, [(J, .dead), (id, .hole r p)]) else .fail
      | none => .fail
    | none => .fail)
  | _ => .fail

/-- what is appended -/
def appSrc (e : Ty) : SV → Rd (Nat × List e.den × List (Nat × RSt))
  | .nil => .ret (DEEP, [], [])
  | .val σ z => match toTy (.list e) ⟨σ, z⟩ with
    | some ys => .ret (0, ys, [])
    | none => .fail
  | .at id ver p => bif e.flat then (content (.at id ver p)).bind fun z => match toTy (.list e) z with
      | some ys => .ret (DEEP, ys, [])
      | none => .fail
    else match p with
    | [] => .rt id fun
      | .live r => match toTy (.list e) ⟨.list r.τ, r.xs⟩ with
        | some ys => .ret (r.d, ys, [(id, .dead)])
        | none => .fail
      | .frz τ zs => match toTy (.list e) ⟨.list τ, zs⟩ with
        | some ys => .ret (0, ys, [])
        | none => .fail
      | _ => .fail
    | _ => .fail
  | _ => .fail

def appDepth (e : Ty) (a b : Nat) : Nat := bif e.flat then DEEP else (bif Nat.ble a b then a else b)

def sameOpd : Operand → Operand → Bool
  | .tmp a, .tmp b => Nat.beq a b
  | _, _ => false

/-- zero values: a slice is nil -/
def zeroV : Ty → SV
  | .list _ => .nil
  | τ => .val τ τ.dflt
def zeroFs : Ty → List SV
  | .one f => [zeroV f]
  | .pair f r => zeroV f :: zeroFs r
  | _ => []
def Ty.chain : Ty → Bool
  | .one _ => true
  | .pair _ r => r.chain
  | _ => false
def zeroB (σ : Ty) : SV := bif σ.isAgg then bif !σ.flat && σ.chain then .agg (zeroFs σ) else .val σ σ.dflt else zeroV σ

/-- the fields of a struct that is built: as told, else zero -/
def partsF (σ : Ty) : List (Nat × Operand) → List SV → Rd (List SV)
  | [], vs => .ret vs
  | (k, o) :: ps, vs => (opd o).bind fun v => match σ.fldOff k with
    | some (f, _) => (stor v f).bind fun _ => partsF σ ps (vs.set k v)
    | none => .fail

/-- a field's place -/
def fieldOf (σ : Ty) (f : Nat) : SV → Rd Eff
    | .ptr id ver p τ => if τ = σ then match σ.fldOff f with
      | some q => .ret ⟨.ptr id ver (p ++ [.fl f]) q.1, []⟩
      | none => .fail else .fail
    | .sp τ y => if τ = σ then match τ.getF f y with
      | some z => .ret ⟨.sp z.1 z.2, []⟩
      | none => .fail else .fail
    | .bp id p => .rt id fun
      | .box τ _ => match fldPath τ p with
        | some q => if q.1 = σ then match σ.fldOff f with
          | some _ => .ret ⟨.bp id (p ++ [f]), []⟩
          | none => .fail else .fail
        | none => .fail
      | _ => .fail
    | _ => .fail

/-- an array's place: each one apart -/
def pickIx {α : Type} (i : Int) (k : Nat → Rd α) : Nat → Nat → Rd α
  | 0, _ => .fail
  | n + 1, c => .ite (decide (i = (c : Int))) (k c) (pickIx i k n (c + 1))

def arrAddr (E : Env) (t : TypeId) (x i : Operand) (σ : Ty) : Rd Eff :=
  match E.arr t with
  | some m => (opd x).bind fun v => (opd i).bind fun iv => asInt iv fun _ j => pickIx j (fun k => fieldOf σ k v) m 0
  | none => .fail

/-- fields alike -/
def eqT : (τ : Ty) → τ.den → τ.den → Bool
  | .int _, x, y => decide (x = y)
  | .bool, x, y => x == y
  | .str, x, y => x.toList == y.toList
  | .list _, _, _ => false
  | .one f, x, y => eqT f x y
  | .pair f r, x, y => eqT f x.1 y.1 && eqT r x.2 y.2
/-- a struct of plain fields -/
def Ty.leafy : Ty → Bool
  | .one f => !f.isAgg && f.flat
  | .pair f r => !f.isAgg && f.flat && r.leafy
  | _ => false

/-- an owned slice that is cut at its end stays owned: a hint -/
def keepS (E : Env) (d : Nat) : Bool := !(E.frz (2000000 + d)).isEmpty
def keepCut (d id : Nat) (r : Root) : Option Int → Option Int → Rd Eff
  | none, some h => fresh (32 * d) (.chk (decide (0 ≤ h) && decide (h ≤ (r.xs.length : Int))) (.ret ⟨.at (32 * d) 0 [], [(32 * d, .live ⟨r.d, r.τ, r.xs.take h.toNat, 0⟩), (id, .dead)]⟩))
  | _, _ => .fail

/-- One operation; d is the slot that it writes. -/
def op (E : Env) (n : Nat) (d : Nat) : Op → Rd Eff
  | .move x => (opd x).bind fun v => .ret ⟨v, []⟩
  | .assign x => (opd x).bind fun v => .ret ⟨v, []⟩
  | .pick (.tmp g) a b => .br g fun c => (opd (bif c then a else b)).bind fun v => .ret ⟨v, []⟩
  | .unOp .not _ x => (opd x).bind fun v => asBool v fun b => .ret ⟨.val .bool (!b), []⟩
  | .unOp .neg _ x => (opd x).bind fun v => asInt v fun k n => .ret ⟨.val (.int k) (k.wrap (0 - n)), []⟩
  | .binOp o t x y _ => (opd x).bind fun a => (opd y).bind fun b =>
    bif E.cmp t then tyOf E t fun σ _ => (lend σ a).bind fun (p, _) => (lend σ b).bind fun (q, _) =>
      match o with
      | .eql => .ret ⟨.val .bool (eqT σ p q), []⟩
      | .neq => .ret ⟨.val .bool (!(eqT σ p q)), []⟩
      | _ => .fail
    else
    match a, b with
    | .val .bool p, .val .bool q => tyOf E t fun
      | .bool, _ => match o with
        | .eql => .ret ⟨.val .bool (p == q), []⟩
        | .neq => .ret ⟨.val .bool (!(p == q)), []⟩
        | _ => .fail
      | _, _ => .fail
    | a, b => (binOp o a b).bind fun v => .ret ⟨v, []⟩
  | .makeFunc (.func f) first caps => bif first.isEmpty then (opList caps.toList).bind fun vs => .ret ⟨.fn f vs, []⟩ else .fail
  | .convert src dst x => tyOf E dst fun
    | .int k, _ => (opd x).bind fun v => tyOf E src fun
      | .int _, _ => asInt v fun _ n => .ret ⟨.val (.int k) (k.wrap n), []⟩
      | _, _ => .fail
    | .str, _ => tyOf E src fun
      | .str, _ => (opd x).bind fun
        | .val .str s => .ret ⟨.val .str s, []⟩
        | _ => .fail
      | .list (.int .u8), _ => (opd x).bind fun
        | .nil => .ret ⟨.val .str ByteArray.empty, []⟩
        | v => (content v).bind fun
          | ⟨.list (.int .u8), xs⟩ => .ret ⟨.val .str (strOf xs), []⟩
          | _ => .fail
      | _, _ => .fail
    | .list (.int .u8), _ => tyOf E src fun
      | .str, _ => fresh (32 * d) ((opd x).bind fun
        | .val .str s => .chk (decide (s.size ≤ room 1)) (.ret ⟨.at (32 * d) 0 [], [(32 * d, .live ⟨DEEP, .int .u8, bytesOfStr s, 0⟩)]⟩)
        | _ => .fail)
      | _, _ => .fail
    | _, _ => .fail
  | .extract t i => (opd t).bind fun
    | .tup vs => match vs[i]? with
      | some v => .ret ⟨v, []⟩
      | none => .fail
    | _ => .fail
  | .indexAddr t x i => tyOf E t fun
    | .list e0, _ => (opd x).bind fun v => (opd i).bind fun iv => asInt iv fun _ i =>
      match v with
      | .at id ver p => .rt id fun
        | .live r => bif Nat.beq (nix p) 0 || Nat.beq r.ver ver then
            match getP (.list r.τ) r.xs p with
            | some ⟨.list e, ys⟩ => if e = e0 then .chk (decide (0 ≤ i) && decide (i < (ys.length : Int))) (.ret ⟨.ptr id r.ver (p ++ [.ix i.toNat]) e, []⟩) else .fail
            | _ => .fail
          else .fail
        | .hole r q => match p, q with
            | [], .ix j :: _ => if r.τ = e0 then .chk (decide (0 ≤ i) && decide (i.toNat = j)) (.ret ⟨.ptr id r.ver [.ix i.toNat] r.τ, []⟩) else .fail
            | _, _ => .fail
        | .frz e ys => match p with
            | [] => if e = e0 then .chk (decide (0 ≤ i) && decide (i < (ys.length : Int))) (.ret ⟨.sp e (ys.getD i.toNat e.dflt), []⟩) else .fail
            | _ => .fail
        | _ => .fail
      | .val (.list e) ys => if e = e0 then .chk (decide (0 ≤ i) && decide (i < (ys.length : Int))) (.ret ⟨.sp e (ys.getD i.toNat e.dflt), []⟩) else .fail
      | _ => .fail
    | σ, _ => arrAddr E t x i σ
  | .index t x i => tyOf E t fun
    | .str, _ => (opd x).bind fun v => (opd i).bind fun iv => asInt iv fun _ i =>
      match v with
      | .val .str s => .chk (decide (0 ≤ i) && decide (i < (s.size : Int))) (.ret ⟨.val (.int .u8) (bt s i), []⟩)
      | _ => .fail
    | _, _ => .fail
  | .fieldAddr t x f => match E.arr t with
    | none => tyOf E t fun σ _ => (opd x).bind fun v => fieldOf σ f v
    | some _ => .fail
  | .nilCheck x => (opd x).bind fun
    | .ptr id ver p τ => .ret ⟨.ptr id ver p τ, []⟩
    | .sp τ y => .ret ⟨.sp τ y, []⟩
    | .bp id p => .rt id fun
      | .box _ _ => .ret ⟨.bp id p, []⟩
      | _ => .fail
    | _ => .fail
  | .load t x => tyOf E t fun σ _ => (opd x).bind fun
    | .ptr id ver p _ => live id ver p fun r => match getP (.list r.τ) r.xs p with
      | some ⟨τ, y⟩ => if τ = σ then .ret ⟨svAt id r.ver (depthP (r.d + 1) p) τ p y, []⟩ else .fail
      | none => .fail
    | .sp τ y => if τ = σ then .ret ⟨.val τ y, []⟩ else .fail
    | .bp id p => .rt id fun
      | .box τ c => match fldPath τ p with
        | some q => if q.1 = σ then match getSV c p with
          | some v => .ret ⟨v, []⟩
          | none => .fail else .fail
        | none => .fail
      | _ => .fail
    | _ => .fail
  | .store t x y => tyOf E t fun σ _ => (opd x).bind fun
    | .ptr id ver p _ => (opd y).bind fun v => .rt id fun
      | .live r => bif Nat.ble (nix p) 1 || Nat.beq r.ver ver then
        (lay σ (depthP (r.d + 1) p) v).bind fun (z, l) =>
        match setP (.list r.τ) r.xs p ⟨σ, z⟩ with
        | some xs => .chk (apartIds [(id, .dead)] l) (.ret ⟨.undef, (id, .live { r with xs := xs, ver := bif σ.flat then r.ver else r.ver + 1 }) :: l⟩)
        | none => .fail
        else .fail
      | .hole r q => bif Nat.beq (nix p) 1 then sameP p q (
        (lay σ r.d v).bind fun (z, l) =>
        match setP (.list r.τ) r.xs p ⟨σ, z⟩ with
        | some xs => .chk (apartIds [(id, .dead)] l) (.ret ⟨.undef, (id, .live { r with xs := xs, ver := r.ver + 1 }) :: l⟩)
        | none => .fail)
        else .fail
      | _ => .fail
    | .bp id p => (opd y).bind fun v => .rt id fun
      | .box τ c => match fldPath τ p with
        | some q => if q.1 = σ then (stor v σ).bind fun _ => match setSV c p v with
          | some c' => .ret ⟨.undef, [(id, .box τ c')]⟩
          | none => .fail else .fail
        | none => .fail
      | _ => .fail
    | _ => .fail
  | .alloc t => tyOf E t fun σ _ => fresh (32 * d) (.ret ⟨.bp (32 * d) [], [(32 * d, .box σ (zeroB σ))]⟩)
  | .box t x => tyOf E t fun σ _ => fresh (32 * d) ((opd x).bind fun v => (stor v σ).bind fun _ => .ret ⟨.bp (32 * d) [], [(32 * d, .box σ v)]⟩)
  | .build t parts => tyOf E t fun σ _ => bif σ.isAgg then (partsF σ parts.toList (zeroFs σ)).bind fun vs => .ret ⟨.agg vs, []⟩ else .fail
  | .buildSlice t m parts => tyOf E t fun
    | .list e, _ => match inOrder 0 parts.toList with
      | some os => bif Nat.beq m os.length && Nat.ble (m * e.size) 16777216 then fresh (32 * d) ((opList os).bind fun vs => (layAll e (bsd E d) vs).bind fun (xs, l) => .ret ⟨.at (32 * d) 0 [], (32 * d, .live ⟨bsd E d, e, xs, 0⟩) :: l⟩) else .fail
      | none => .fail
    | _, _ => .fail
  | .makeSlice t x y => tyOf E t fun
    | .list e, b => fresh (32 * d) ((opd x).bind fun v => asInt v fun _ m => (opd y).bind fun v' => asInt v' fun _ m' =>
        .chk (bif sameOpd x y then decide (0 ≤ m) && decide (m.toNat ≤ room b) else decide (0 ≤ m) && (decide (m ≤ m') && decide (m'.toNat ≤ room b)))
          (.ret ⟨.at (32 * d) 0 [], [(32 * d, .live ⟨DEEP, e, zeros e m.toNat, 0⟩)]⟩))
    | _, _ => .fail
  | .slice t x lo hi none => tyOf E t fun τ0 _ => (opd x).bind fun v =>
    (match lo with | some o => (opd o).bind fun v => asInt v fun _ i => .ret (some i) | none => .ret none).bind fun lo =>
    (match hi with | some o => (opd o).bind fun v => asInt v fun _ i => .ret (some i) | none => .ret none).bind fun hi =>
    match v with
    | .val .str s => if τ0 = Ty.str then match lo, hi with
      | some l, some h => .chk (decide (0 ≤ l) && (decide (l ≤ h) && decide (h ≤ (s.size : Int)))) (.ret ⟨.val .str (s.extract l.toNat h.toNat), []⟩)
      | some l, none => .chk (decide (0 ≤ l) && decide (l ≤ (s.size : Int))) (.ret ⟨.val .str (s.extract l.toNat s.size), []⟩)
      | none, some h => .chk (decide (0 ≤ h) && decide (h ≤ (s.size : Int))) (.ret ⟨.val .str (s.extract 0 h.toNat), []⟩)
      | none, none => .ret ⟨.val .str s, []⟩
      else .fail
    | v => match v with
      | .at id ver [] => .rt id fun
        | .live r => if τ0 = Ty.list r.τ then (bif keepS E d then keepCut d id r lo hi else cut r.τ r.xs lo hi [(id, .frz r.τ r.xs)]) else .fail
        | .frz τ xs => if τ0 = Ty.list τ then cut τ xs lo hi [] else .fail
        | _ => .fail
      | .val (.list e) xs => if τ0 = Ty.list e then cut e xs lo hi [] else .fail
      | _ => .fail
  | .slice t x none (some hi) (some mx) => tyOf E t fun
    | .list e, _ => (opd x).bind fun v => (content v).bind fun
      | ⟨.list _, _⟩ => (opd hi).bind fun h => asInt h fun _ h => (opd mx).bind fun m => asInt m fun _ m => .chk (decide (h = 0) && decide (m = 0)) (.ret ⟨.nil, []⟩)
      | _ => .fail
    | _, _ => .fail
  | .call c => match c.callee with
    | .builtin .len => match c.args.toList with
      | [x] => match c.argTypes.toList with
        | t :: _ => tyOf E t fun
          | .str, _ => (opd x).bind fun
            | .val .str s => .ret ⟨.val (.int .i64) (s.size : Int), []⟩
            | _ => .fail
          | .list _, _ => (opd x).bind fun
            | .nil => .ret ⟨.val (.int .i64) (0 : Int), []⟩
            | v => (content v).bind fun
              | ⟨.list _, xs⟩ => .ret ⟨.val (.int .i64) (xs.length : Int), []⟩
              | _ => .fail
          | _, _ => .fail
        | _ => .fail
      | _ => .fail
    | .builtin .max => match c.args.toList with
      | [x, y] => (opd x).bind fun v => (opd y).bind fun u => asInt v fun k p => asInt u fun k' q => if k = k' then .ret ⟨.val (.int k) (max p q), []⟩ else .fail
      | _ => .fail
    | .builtin .min => match c.args.toList with
      | [x, y] => (opd x).bind fun v => (opd y).bind fun u => asInt v fun k p => asInt u fun k' q => if k = k' then .ret ⟨.val (.int k) (min p q), []⟩ else .fail
      | _ => .fail
    | .builtin .append => match c.args.toList, c.argTypes.toList with
      | [x, y], [t, t'] => bif Nat.beq t t' then tyOf E t fun
        | .list e, b => fresh (32 * d) ((opd x).bind fun v => (opd y).bind fun u => (appBase (32 * d + 1) e v).bind fun (dd, xs, l) => (appSrc e u).bind fun (d2, ys, m) =>
          .chk (apartIds l m && decide (xs.length + ys.length ≤ room b))
          (.ret ⟨.at (32 * d) 0 [], (32 * d, .live ⟨appDepth e dd d2, e, xs ++ ys, 0⟩) :: (l ++ m)⟩))
        | _, _ => .fail
        else .fail
      | _, _ => .fail
    | .value f => (opd f).bind fun
      | .fn g caps => (opList c.args.toList).bind fun vs => callF E n d g (vs ++ caps)
      | _ => .fail
    | _ => .fail
  | _ => .fail where
  cut (e : Ty) (xs : List e.den) (lo hi : Option Int) (l : List (Nat × RSt)) : Rd Eff :=
  match lo, hi with
  | some i, some h => .chk (decide (0 ≤ i) && (decide (i ≤ h) && decide (h ≤ (xs.length : Int)))) (.ret ⟨.val (.list e) ((xs.take h.toNat).drop i.toNat), l⟩)
  | some i, none => .chk (decide (0 ≤ i) && decide (i ≤ (xs.length : Int))) (.ret ⟨.val (.list e) (xs.drop i.toNat), l⟩)
  | none, some h => .chk (decide (0 ≤ h) && decide (h ≤ (xs.length : Int))) (.ret ⟨.val (.list e) (xs.take h.toNat), l⟩)
  | none, none => .ret ⟨.val (.list e) xs, l⟩

def putRs : List (Nat × RSt) → St → St
  | [], s => s
  | (i, r) :: l, s => putRs l (s.putR i r)

def Eff.on (e : Eff) (d : Option Tmp) (s : St) : St :=
  match d with
  | some d => putRs e.rts (s.put d e.v)
  | none => putRs e.rts s

/-- The slot of a guard. -/
def guardSlot (ops : Array Oper) (j : Nat) : Option Tmp := (ops[j]?).bind (·.dst)

/-- An operation under its guard. -/
def opG (E : Env) (n : Nat) (ops : Array Oper) (o : Oper) : Rd Eff :=
  match o.guard with
  | none => op E n (o.dst.getD 999) o.op
  | some (j, want) => match guardSlot ops j with
    | none => .fail
    | some g => .sl g fun
      | .tup [] => .ret ⟨.tup [], []⟩
      | _ => .br g fun b => bif (b == want) then op E n (o.dst.getD 999) o.op else .ret ⟨.tup [], []⟩

/-- what an operation writes -/
def wrote (o : Oper) (e : Eff) : List Nat := (match o.dst with | some d => [2 * d] | none => []) ++ e.rts.map fun p => 2 * p.1 + 1

def indep (a b : List Nat × List Nat) : Bool := noneOf a.1 b.2 && noneOf b.1 a.2 && noneOf a.1 b.1

/-- the operations that stand ahead of one, directly or through others, as bits -/
def aheadM (ms : List Nat) (o : Oper) : Nat := o.after.toList.foldl (fun m e => bif Region.binds .any e then Nat.lor (Nat.lor m (Nat.shiftLeft 1 e.on)) (ms.getD e.on 0) else m) 0
def aheads : List Oper → List Nat → List Nat
  | [], ms => ms
  | o :: r, ms => aheads r (ms ++ [aheadM ms o])
def edgesOk (ops : List Oper) : Nat → Bool
  | i => match ops with
    | [] => true
    | o :: r => o.after.toList.all (fun e => !(Region.binds .any e) || Nat.blt e.on i) && edgesOk r (i + 1)
def pairsOk (m : Nat) (a : List Nat × List Nat) : List (List Nat × List Nat) → Nat → Bool
  | [], _ => true
  | b :: r, i => (Nat.beq (Nat.land (Nat.shiftRight m i) 1) 1 || indep b a) && pairsOk m a r (i + 1)
def allPairs (ms : List Nat) : List (List Nat × List Nat) → List (List Nat × List Nat) → Nat → Bool
  | _, [], _ => true
  | done, a :: r, j => pairsOk (ms.getD j 0) a done 0 && allPairs ms (done ++ [a]) r (j + 1)
/-- Every two operations whose order is open leave each other alone. -/
def okLog (ops : List Oper) (logs : List (List Nat × List Nat)) : Bool := edgesOk ops 0 && allPairs (aheads ops []) [] logs 0

section
variable {γ : Type}

/-- A region's operations in line. -/
def evOps (E : Env) (n : Nat) (ops : Array Oper) (draw : Bool) : List Oper → List (List Nat × List Nat) → St → (St → Option γ) → Option γ
  | [], logs, s, k => bif draw then cond (okLog ops.toList logs) (k s) none else k s
  | o :: r, logs, s, k => (opG E n ops o).ev s [] fun e s' l => evOps E n ops draw r (logs ++ [(wrote o e, l)]) (e.on o.dst s') k

inductive Ex where
  | normal
  | exit (id : Nat)
  | ret

/-- A cut: the slots that live there, and what is left from there on. -/
structure Cut (γ : Type) where
  slots : List Nat
  pars : Par
  C : Nat → DL pars.ins → Option γ

def putAll : List Nat → List SV → St → St
  | i :: l, v :: vs, s => putAll l vs (s.put i v)
  | _, _, s => s

def giveSt (slots : List Nat) (p : Par) (x : DL p.ins) : St :=
  match give p 16 x with
  | (vs, rs, _) => putRs rs (putAll slots vs ⟨fun _ => .undef, fun _ => .none⟩)

/-- slots that are alike at a cut: a is what b is (k = 0) or what b holds at k - 1: told as 1000000 + 8 (1000 a + b) + k -/
def plainS : List Nat → List Nat
  | [] => []
  | q :: l => bif Nat.ble 1000000 q then plainS l else q :: plainS l
def aliS : List Nat → List (Nat × Nat × Nat)
  | [] => []
  | q :: l => bif Nat.ble 1000000 q then ((q - 1000000) / 8000, (q - 1000000) / 8 % 1000, (q - 1000000) % 8) :: aliS l else aliS l
def alike (s : St) : SV → SV → Bool
  | .at i _ [], .at j _ [] => Nat.beq i j && match s.rt i with
    | .live _ => true
    | .frz _ _ => true
    | _ => false
  | .bp i [], .bp j [] => Nat.beq i j && match s.rt i with
    | .box _ _ => true
    | _ => false
  | _, _ => false
def capt : Nat → List SV → SV
  | 0, v :: _ => v
  | n + 1, _ :: vs => capt n vs
  | _, [] => .undef
def alSrc (s : St) (b : Nat) : Nat → SV
  | 0 => s.sl b
  | k + 1 => match s.sl b with
    | .fn _ vs => capt k vs
    | _ => .undef
def alOk (s : St) : List (Nat × Nat × Nat) → Bool
  | [] => true
  | (a, b, k) :: l => alike s (s.sl a) (alSrc s b k) && alOk s l
def putAl : List (Nat × Nat × Nat) → St → St
  | [], s => s
  | (a, b, k) :: l, s => putAl l (s.put a (alSrc s b k))
def giveCut (slots : List Nat) (p : Par) (x : DL p.ins) : St := putAl (aliS slots) (giveSt (plainS slots) p x)

def headRegion : Code → Nat
  | .seq a _ => headRegion a
  | .region i _ _ => i
  | .block _ a => headRegion a
  | .loop a => headRegion a
  | _ => 1000000

def Cut.go (c : Cut γ) (n : Nat) (s : St) : Option γ := bif alOk s (aliS c.slots) then (takeP.takeL c.pars ((plainS c.slots).map s.sl)).ev s [] fun t _ _ => c.C n t.x else none

/-- what a slot owns, frozen ahead of a region -/
def frzR (s : St) (id : Nat) : St := match s.rt id with
  | .live r => s.putR id (.frz r.τ r.xs)
  | _ => s
def frzL : List SV → St → St
  | [], s => s
  | .at id _ [] :: l, s => frzL l (frzR s id)
  | _ :: l, s => frzL l s
def frz1 (s : St) (i : Nat) : St :=
  match s.sl i with
  | .at id _ [] => frzR s id
  | .bp id [] => match s.rt id with
    | .box _ (.agg vs) => frzL vs s
    | _ => s
  | _ => s
def frzAll : List Nat → St → St
  | [], s => s
  | i :: l, s => frzAll l (frz1 s i)

def evC (E : Env) (L : Nat → Option (Cut γ)) (n : Nat) : Code → St → (Ex → St → Option γ) → Option γ
  | .skip, s, k => k .normal s
  | .ret, s, k => k .ret s
  | .exit i, s, k => k (.exit i) s
  | .seq a b, s, k => evC E L n a s fun ex s' => match ex with
    | .normal => match L (2 * headRegion b + 1) with
      | some c => c.go n s'
      | none => evC E L n b s' k
    | e => k e s'
  | .block i a, s, k => evC E L n a s fun ex s' => match ex with
    | .exit j => bif Nat.beq j i then k .normal s' else k (.exit j) s'
    | e => k e s'
  | .loop a, s, _ => match L (2 * headRegion a) with
    | some c => c.go n s
    | none => none
  | .cond c a b, s, k => match c with
    | .tmp t => match s.sl t with
      | .val .bool x => cond x (evC E L n a (s.put t (.val .bool true)) k) (evC E L n b (s.put t (.val .bool false)) k)
      | _ => none
    | _ => none
  | .region id ops draw, s, k => evOps E n ops draw ops.toList [] (frzAll (E.frz id) s) (k .normal)
  | _, _, _ => none
end

end Go.Abs
set_option linter.unusedVariables false
set_option linter.unusedSimpArgs false
namespace Go.Abs
open Go

/-- block b of the world has the cells c -/
def Has (w : World) (b : Nat) (c : Array Value) : Prop := ∃ e fr, w.heap[b]? = some (.cells c e fr)
/-- and they may be written -/
def Own (k : Nat) (w : World) (b : Nat) (c : Array Value) : Prop := ∃ e lo hi, w.heap[b]? = some (.cells c e (lo, hi)) ∧ ∀ i, i < c.size + k → ¬ (lo ≤ i ∧ i < hi)
/-- behind a row of bytes a mark may stand; behind no other one -/
def Ty.mk : Ty → Nat
  | .int .u8 => 0
  | _ => 1

abbrev Fp := Nat → Prop
def seg (c : Array Value) (o n : Nat) : List Value := (c.toList.drop o).take n

def reps {α : Type} (R : α → List Value → Fp → Prop) (sz : Nat) (xs : List α) (c : Array Value) (o : Nat) (F : Fp) : Prop :=
  ∃ G : Nat → Fp, (∀ i (h : i < xs.length), R xs[i] (seg c (o + i * sz) sz) (G i)) ∧
    (∀ i j b, i < xs.length → j < xs.length → G i b → G j b → i = j) ∧ ∀ b, F b ↔ ∃ i, i < xs.length ∧ G i b

/-- The cells bear the value; F: the blocks that they own (to the depth d), S: the blocks that nobody writes. -/
def rep (w : World) (S : Fp) : (τ : Ty) → Nat → τ.den → List Value → Fp → Prop
  | .int k, _, x, cs, F => cs = [.int k x] ∧ ∀ b, ¬ F b
  | .bool, _, x, cs, F => cs = [.bool x] ∧ ∀ b, ¬ F b
  | .str, _, x, cs, F => cs = [.string x] ∧ ∀ b, ¬ F b
  | .one f, d, x, cs, F => rep w S f d x cs F
  | .pair f r, d, x, cs, F => ∃ F1 F2, rep w S f d x.1 (cs.take f.size) F1 ∧ rep w S r d x.2 (cs.drop f.size) F2 ∧ (∀ b, F1 b → ¬ F2 b) ∧ ∀ b, F b ↔ F1 b ∨ F2 b
  | .list e, d, xs, cs, F => ((∃ A, cs = [.slice A 0 0]) ∧ xs = [] ∧ ∀ b, ¬ F b) ∨
      ∃ b o c arr G, cs = [.slice (some ⟨b, o, none⟩) xs.length c] ∧ xs.length ≤ c ∧ o + c * e.size ≤ arr.size ∧ reps (rep w S e (d - 1)) e.size xs arr o G ∧
        (d = 0 ∧ Has w b arr ∧ S b ∧ (∀ b, ¬ F b) ∨ 0 < d ∧ Own e.mk w b arr ∧ ¬ G b ∧ ∀ b', F b' ↔ b' = b ∨ G b')

theorem Own.has {k : Nat} {w : World} {b : Nat} {c : Array Value} (h : Own k w b c) : Has w b c := let ⟨e, lo, hi, h, _⟩ := h; ⟨e, _, h⟩
theorem Has.lt {w : World} {b : Nat} {c : Array Value} (h : Has w b c) : b < w.heap.size := by
  obtain ⟨e, fr, h⟩ := h
  exact (Array.getElem?_eq_some_iff.1 h).1
theorem Has.eq {w : World} {b : Nat} {c c' : Array Value} (h : Has w b c) (h' : Has w b c') : c = c' := by
  obtain ⟨e, fr, h⟩ := h
  obtain ⟨e', fr', h'⟩ := h'
  rw [h] at h'; cases h'; rfl
theorem Has.of_eq {w w' : World} {b : Nat} {c : Array Value} (h : Has w b c) (e : w'.heap[b]? = w.heap[b]?) : Has w' b c := by
  obtain ⟨t, fr, h⟩ := h
  exact ⟨t, fr, e.trans h⟩
theorem Own.of_eq {k : Nat} {w w' : World} {b : Nat} {c : Array Value} (h : Own k w b c) (e : w'.heap[b]? = w.heap[b]?) : Own k w' b c := by
  obtain ⟨t, lo, hi, h, g⟩ := h
  exact ⟨t, lo, hi, e.trans h, g⟩
theorem Has.cell {w : World} {b : Nat} {c : Array Value} (h : Has w b c) (o : Nat) : w.cell? ⟨b, o, none⟩ = c[o]? := by
  obtain ⟨e, fr, h⟩ := h
  simp [World.cell?, h]
theorem Own.frozen {k : Nat} {w : World} {b : Nat} {c : Array Value} (h : Own k w b c) {o : Nat} (ho : o < c.size) : w.frozen? ⟨b, o, none⟩ = false := by
  obtain ⟨e, lo, hi, h, g⟩ := h
  have := g o (Nat.lt_of_lt_of_le ho (Nat.le_add_right _ _))
  simp [World.frozen?, h]
  omega

theorem Ty.size_pos : ∀ τ : Ty, 0 < τ.size
  | .int _ | .bool | .str | .list _ => by simp [Ty.size]
  | .one f => by simpa [Ty.size] using f.size_pos
  | .pair f r => by have := f.size_pos; simp [Ty.size]; omega

theorem rep_len {w : World} {S : Fp} : ∀ {τ : Ty} {d : Nat} {x : τ.den} {cs : List Value} {F : Fp}, rep w S τ d x cs F → cs.length = τ.size
  | .int _, _, _, _, _, h => by rw [h.1]; rfl
  | .bool, _, _, _, _, h => by rw [h.1]; rfl
  | .str, _, _, _, _, h => by rw [h.1]; rfl
  | .one f, _, _, _, _, h => by rw [rep_len (τ := f) h]; rfl
  | .pair f r, _, _, cs, _, h => by
    obtain ⟨F1, F2, h1, h2, _⟩ := h
    have a := rep_len h1; have b := rep_len h2
    have := r.size_pos
    simp at a b
    simp [Ty.size]; omega
  | .list _, _, _, _, _, h => by
    rcases h with h | ⟨_, _, _, _, _, h, _⟩
    · obtain ⟨A, h⟩ := h.1
      rw [h]; rfl
    · rw [h]; rfl

theorem reps_imp {α : Type} {R R' : α → List Value → Fp → Prop} {sz : Nat} {xs : List α} {c : Array Value} {o : Nat} {F : Fp}
    (h : reps R sz xs c o F) (k : ∀ x cs G, x ∈ xs → (∀ b, G b → F b) → R x cs G → R' x cs G) : reps R' sz xs c o F := by
  obtain ⟨G, h1, h2, h3⟩ := h
  exact ⟨G, fun i hi => k _ _ _ (List.getElem_mem _) (fun b hb => (h3 b).2 ⟨i, hi, hb⟩) (h1 i hi), h2, h3⟩

/-- at depth 0, or where no slice is inside, nothing is owned -/
theorem rep_none {w : World} {S : Fp} : ∀ {τ : Ty} {d : Nat} {x : τ.den} {cs : List Value} {F : Fp}, (d = 0 ∨ τ.flat = true) → rep w S τ d x cs F → ∀ b, ¬ F b
  | .int _, _, _, _, _, _, h => h.2
  | .bool, _, _, _, _, _, h => h.2
  | .str, _, _, _, _, _, h => h.2
  | .one f, _, _, _, _, k, h => rep_none (τ := f) k h
  | .pair f r, _, _, _, _, k, h => by
    obtain ⟨F1, F2, h1, h2, _, h4⟩ := h
    intro b hb
    rcases (h4 b).1 hb with hb | hb
    · exact rep_none (k.imp id (fun k => by simp [Ty.flat] at k; exact k.1)) h1 b hb
    · exact rep_none (k.imp id (fun k => by simp [Ty.flat] at k; exact k.2)) h2 b hb
  | .list _, _, _, _, _, k, h => by
    rcases h with h | ⟨_, _, _, _, _, _, _, _, _, h | h⟩
    · exact h.2.2
    · exact h.2.2.2
    · rcases k with k | k
      · omega
      · simp [Ty.flat] at k

/-- the footprint may be told in other words -/
theorem rep_iff {w : World} {S : Fp} : ∀ {τ : Ty} {d : Nat} {x : τ.den} {cs : List Value} {F F' : Fp}, rep w S τ d x cs F → (∀ b, F' b ↔ F b) → rep w S τ d x cs F'
  | .int _, _, _, _, _, _, h, k => ⟨h.1, fun b hb => h.2 b ((k b).1 hb)⟩
  | .bool, _, _, _, _, _, h, k => ⟨h.1, fun b hb => h.2 b ((k b).1 hb)⟩
  | .str, _, _, _, _, _, h, k => ⟨h.1, fun b hb => h.2 b ((k b).1 hb)⟩
  | .one f, _, _, _, _, _, h, k => rep_iff (τ := f) h k
  | .pair f r, _, _, _, _, _, h, k => by
    obtain ⟨F1, F2, h1, h2, h3, h4⟩ := h
    exact ⟨F1, F2, h1, h2, h3, fun b => (k b).trans (h4 b)⟩
  | .list _, _, _, _, _, _, h, k => by
    rcases h with h | ⟨b, o, c, arr, G, h1, h2, h3, h4, h | h⟩
    · exact .inl ⟨h.1, h.2.1, fun b hb => h.2.2 b ((k b).1 hb)⟩
    · exact .inr ⟨b, o, c, arr, G, h1, h2, h3, h4, .inl ⟨h.1, h.2.1, h.2.2.1, fun b hb => h.2.2.2 b ((k b).1 hb)⟩⟩
    · exact .inr ⟨b, o, c, arr, G, h1, h2, h3, h4, .inr ⟨h.1, h.2.1, h.2.2.1, fun b' => (k b').trans (h.2.2.2 b')⟩⟩

/-- another world, alike where it matters; more blocks that nobody writes -/
theorem rep_frame {w w' : World} {S S' : Fp} (hS : ∀ b, S b → S' b) (hw : ∀ b, S b → w'.heap[b]? = w.heap[b]?) :
    ∀ {τ : Ty} {d : Nat} {x : τ.den} {cs : List Value} {F : Fp}, (∀ b, F b → w'.heap[b]? = w.heap[b]?) → rep w S τ d x cs F → rep w' S' τ d x cs F
  | .int _, _, _, _, _, _, h => h
  | .bool, _, _, _, _, _, h => h
  | .str, _, _, _, _, _, h => h
  | .one f, _, _, _, _, k, h => rep_frame hS hw (τ := f) k h
  | .pair f r, _, _, _, _, k, h => by
    obtain ⟨F1, F2, h1, h2, h3, h4⟩ := h
    exact ⟨F1, F2, rep_frame hS hw (fun b hb => k b ((h4 b).2 (.inl hb))) h1, rep_frame hS hw (fun b hb => k b ((h4 b).2 (.inr hb))) h2, h3, h4⟩
  | .list e, d, xs, _, _, k, h => by
    rcases h with h | ⟨b, o, c, arr, G, h1, h2, h3, h4, h⟩
    · exact .inl h
    · have hG : ∀ b, G b → w'.heap[b]? = w.heap[b]? := by
        rcases h with h | h
        · obtain ⟨rfl, _⟩ := h
          obtain ⟨G', q1, q2, q3⟩ := h4
          intro b hb
          obtain ⟨i, hi, hb⟩ := (q3 b).1 hb
          exact absurd hb (rep_none (.inl rfl) (q1 i hi) b)
        · exact fun b' hb => k b' ((h.2.2.2 b').2 (.inr hb))
      refine .inr ⟨b, o, c, arr, G, h1, h2, h3, reps_imp h4 fun x cs G' _ hb h => rep_frame hS hw (fun b hb' => hG b (hb b hb')) h, ?_⟩
      rcases h with h | h
      · exact .inl ⟨h.1, h.2.1.of_eq (hw b h.2.2.1), hS b h.2.2.1, h.2.2.2⟩
      · exact .inr ⟨h.1, h.2.1.of_eq (k b ((h.2.2.2 b).2 (.inl rfl))), h.2.2.1, h.2.2.2⟩

theorem rep_mono {w : World} {S S' : Fp} {τ : Ty} {d : Nat} {x : τ.den} {cs : List Value} {F : Fp} (hS : ∀ b, S b → S' b) (h : rep w S τ d x cs F) : rep w S' τ d x cs F :=
  rep_frame hS (fun _ _ => rfl) (fun _ _ => rfl) h

/-- what is owned lies in the heap -/
theorem rep_lt {w : World} {S : Fp} : ∀ {τ : Ty} {d : Nat} {x : τ.den} {cs : List Value} {F : Fp}, rep w S τ d x cs F → ∀ b, F b → b < w.heap.size
  | .int _, _, _, _, _, h => fun b hb => absurd hb (h.2 b)
  | .bool, _, _, _, _, h => fun b hb => absurd hb (h.2 b)
  | .str, _, _, _, _, h => fun b hb => absurd hb (h.2 b)
  | .one f, _, _, _, _, h => rep_lt (τ := f) h
  | .pair f r, _, _, _, _, h => by
    obtain ⟨F1, F2, h1, h2, _, h4⟩ := h
    intro b hb
    rcases (h4 b).1 hb with hb | hb
    · exact rep_lt h1 b hb
    · exact rep_lt h2 b hb
  | .list e, _, _, _, _, h => by
    rcases h with h | ⟨b, o, c, arr, G, h1, h2, h3, h4, h | h⟩
    · exact fun b hb => absurd hb (h.2.2 b)
    · exact fun b hb => absurd hb (h.2.2.2 b)
    · intro b' hb
      rcases (h.2.2.2 b').1 hb with rfl | hb
      · exact h.2.1.has.lt
      · obtain ⟨G', q1, q2, q3⟩ := h4
        obtain ⟨i, hi, hb⟩ := (q3 b').1 hb
        exact rep_lt (q1 i hi) b' hb

theorem reps_none {w : World} {S : Fp} {τ : Ty} {xs : List τ.den} {c : Array Value} {o : Nat} {F : Fp} {d : Nat} (k : d = 0 ∨ τ.flat = true)
    (h : reps (rep w S τ d) τ.size xs c o F) : ∀ b, ¬ F b := by
  obtain ⟨G, q1, q2, q3⟩ := h
  intro b hb
  obtain ⟨i, hi, hb⟩ := (q3 b).1 hb
  exact rep_none k (q1 i hi) b hb

/-- What is owned may be owned to a lesser depth: then nobody writes the rest any more. -/
theorem rep_lower {w : World} {S : Fp} : ∀ {τ : Ty} {d d' : Nat} {x : τ.den} {cs : List Value} {F : Fp}, rep w S τ d x cs F → d' ≤ d →
    ∃ F', (∀ b, F' b → F b) ∧ rep w (fun b => S b ∨ (F b ∧ ¬ F' b)) τ d' x cs F'
  | .int _, _, _, _, _, F, h, _ => ⟨F, fun _ h => h, h⟩
  | .bool, _, _, _, _, F, h, _ => ⟨F, fun _ h => h, h⟩
  | .str, _, _, _, _, F, h, _ => ⟨F, fun _ h => h, h⟩
  | .one f, _, _, _, _, F, h, k => rep_lower (τ := f) h k
  | .pair f r, d, d', x, cs, F, h, k => by
    obtain ⟨F1, F2, h1, h2, h3, h4⟩ := h
    obtain ⟨G1, a1, b1⟩ := rep_lower h1 k
    obtain ⟨G2, a2, b2⟩ := rep_lower h2 k
    refine ⟨fun b => G1 b ∨ G2 b, ?_, G1, G2, rep_mono ?_ b1, rep_mono ?_ b2, fun b hb hb' => h3 b (a1 b hb) (a2 b hb'), fun b => Iff.rfl⟩
    · exact fun b hb => (h4 b).2 (hb.imp (a1 b) (a2 b))
    · exact fun b hb => hb.imp id fun hb => ⟨(h4 b).2 (.inl hb.1), fun hc => hc.elim hb.2 fun hc => h3 b hb.1 (a2 b hc)⟩
    · exact fun b hb => hb.imp id fun hb => ⟨(h4 b).2 (.inr hb.1), fun hc => hc.elim (fun hc => h3 b (a1 b hc) hb.1) hb.2⟩
  | .list e, d, d', xs, cs, F, h, k => by
    rcases h with h | ⟨b, o, c, arr, G, h1, h2, h3, h4, h⟩
    · exact ⟨F, fun _ h => h, .inl h⟩
    · rcases h with h | h
      · have : d' = d := by omega
        subst this
        exact ⟨F, fun _ h => h, rep_mono (fun b hb => .inl hb) (.inr ⟨b, o, c, arr, G, h1, h2, h3, h4, .inl h⟩)⟩
      · obtain ⟨Gi, q1, q2, q3⟩ := h4
        have hGF : ∀ b, G b → F b := fun b' hb => (h.2.2.2 b').2 (.inr hb)
        have key : ∀ i, ∃ G', (i < xs.length → ∀ b, G' b → Gi i b) ∧ ∀ hi : i < xs.length, rep w (fun b => S b ∨ (Gi i b ∧ ¬ G' b)) e (d' - 1) xs[i] (seg arr (o + i * e.size) e.size) G' := by
          intro i
          by_cases hi : i < xs.length
          · obtain ⟨G', p1, p2⟩ := rep_lower (q1 i hi) (show d' - 1 ≤ d - 1 by omega)
            exact ⟨G', fun _ => p1, fun _ => p2⟩
          · exact ⟨fun _ => False, fun h => absurd h hi, fun h => absurd h hi⟩
        obtain ⟨Gs, hGs⟩ := Classical.axiomOfChoice key
        rcases Nat.eq_zero_or_pos d' with h0 | h0
        · have r : reps (rep w (fun b => S b ∨ (F b ∧ ¬ False)) e (d' - 1)) e.size xs arr o (fun b => ∃ i, i < xs.length ∧ Gs i b) :=
            ⟨Gs, fun i hi => rep_mono (fun b hb => hb.imp id fun hb => ⟨hGF b ((q3 b).2 ⟨i, hi, hb.1⟩), id⟩) ((hGs i).2 hi),
              fun i j b hi hj x y => q2 i j b hi hj ((hGs i).1 hi b x) ((hGs j).1 hj b y), fun b => Iff.rfl⟩
          exact ⟨fun _ => False, fun _ h => h.elim, .inr ⟨b, o, c, arr, _, h1, h2, h3, r, .inl ⟨h0, h.2.1.has, .inr ⟨(h.2.2.2 b).2 (.inl rfl), id⟩, fun _ h => h⟩⟩⟩
        · let F' : Fp := fun b' => b' = b ∨ ∃ i, i < xs.length ∧ Gs i b'
          have r : reps (rep w (fun b' => S b' ∨ (F b' ∧ ¬ F' b')) e (d' - 1)) e.size xs arr o (fun b => ∃ i, i < xs.length ∧ Gs i b) :=
            ⟨Gs, fun i hi => rep_mono (fun b' hb => hb.imp id fun hb => ⟨hGF b' ((q3 b').2 ⟨i, hi, hb.1⟩), by
                rintro (rfl | ⟨j, hj, hc⟩)
                · exact h.2.2.1 ((q3 _).2 ⟨i, hi, hb.1⟩)
                · have := q2 i j b' hi hj hb.1 ((hGs j).1 hj b' hc)
                  subst this
                  exact hb.2 hc⟩) ((hGs i).2 hi),
              fun i j b hi hj x y => q2 i j b hi hj ((hGs i).1 hi b x) ((hGs j).1 hj b y), fun b => Iff.rfl⟩
          refine ⟨F', ?_, .inr ⟨b, o, c, arr, _, h1, h2, h3, r, .inr ⟨h0, h.2.1, ?_, fun b' => Iff.rfl⟩⟩⟩
          · rintro b' (rfl | ⟨i, hi, hb⟩)
            · exact (h.2.2.2 _).2 (.inl rfl)
            · exact hGF b' ((q3 b').2 ⟨i, hi, (hGs i).1 hi b' hb⟩)
          · rintro ⟨i, hi, hb⟩
            exact h.2.2.1 ((q3 b).2 ⟨i, hi, (hGs i).1 hi b hb⟩)

/-- frozen whole -/
theorem rep_freeze {w : World} {S : Fp} {τ : Ty} {d : Nat} {x : τ.den} {cs : List Value} {F : Fp} (h : rep w S τ d x cs F) :
    rep w (fun b => S b ∨ F b) τ 0 x cs (fun _ => False) := by
  obtain ⟨F', h1, h2⟩ := rep_lower h (Nat.zero_le d)
  exact rep_iff (rep_mono (fun b hb => hb.imp id (·.1)) h2) fun b => ⟨fun h => h.elim, fun h => absurd h (rep_none (.inl rfl) h2 b)⟩

theorem Ty.flat_deep : ∀ {τ : Ty}, τ.flat = true → τ.deep = 0
  | .int _, _ | .bool, _ | .str, _ => rfl
  | .list _, h => by simp [Ty.flat] at h
  | .one f, h => flat_deep (τ := f) h
  | .pair f r, h => by
    simp [Ty.flat] at h
    simp [Ty.deep, flat_deep h.1, flat_deep h.2]

/-- owned to the ground: the blocks that nobody writes don't matter -/
theorem rep_deep {w : World} {S S' : Fp} : ∀ {τ : Ty} {d : Nat} {x : τ.den} {cs : List Value} {F : Fp}, τ.deep ≤ d → rep w S τ d x cs F → rep w S' τ d x cs F
  | .int _, _, _, _, _, _, h => h
  | .bool, _, _, _, _, _, h => h
  | .str, _, _, _, _, _, h => h
  | .one f, _, _, _, _, k, h => rep_deep (τ := f) k h
  | .pair f r, _, _, _, _, k, h => by
    obtain ⟨F1, F2, h1, h2, h3, h4⟩ := h
    simp [Ty.deep] at k
    exact ⟨F1, F2, rep_deep (by omega) h1, rep_deep (by omega) h2, h3, h4⟩
  | .list e, d, _, _, _, k, h => by
    simp [Ty.deep] at k
    rcases h with h | ⟨b, o, c, arr, G, h1, h2, h3, h4, h⟩
    · exact .inl h
    · refine .inr ⟨b, o, c, arr, G, h1, h2, h3, reps_imp h4 fun x cs G' _ _ h => rep_deep (by omega) h, ?_⟩
      rcases h with h | h
      · omega
      · exact .inr h

/-- where no slice is inside, depth, world and the blocks don't matter -/
theorem rep_flat {w w' : World} {S S' : Fp} {d d' : Nat} : ∀ {τ : Ty} {x : τ.den} {cs : List Value} {F : Fp}, τ.flat = true → rep w S τ d x cs F → rep w' S' τ d' x cs F
  | .int _, _, _, _, _, h => h
  | .bool, _, _, _, _, h => h
  | .str, _, _, _, _, h => h
  | .one f, _, _, _, k, h => rep_flat (τ := f) k h
  | .pair f r, _, _, _, k, h => by
    obtain ⟨F1, F2, h1, h2, h3, h4⟩ := h
    simp [Ty.flat] at k
    exact ⟨F1, F2, rep_flat k.1 h1, rep_flat k.2 h2, h3, h4⟩
  | .list e, _, _, _, k, _ => by simp [Ty.flat] at k
end Go.Abs
set_option linter.unusedVariables false
set_option linter.unusedSimpArgs false
namespace Go.Abs
open Go

theorem add0 (b o j : Nat) : Addr.add ⟨b, o, none⟩ j = ⟨b, o + j, none⟩ := by
  unfold Addr.add
  split
  · rename_i h; subst h; rfl
  · rfl

theorem seg_get {c : Array Value} {o n i : Nat} : (seg c o n)[i]? = if i < n then c[o + i]? else none := by
  unfold seg
  by_cases h : i < n
  · rw [if_pos h, List.getElem?_take_of_lt h, List.getElem?_drop, Array.getElem?_toList]
  · rw [if_neg h, List.getElem?_take_eq_none (by omega)]

theorem seg_len {c : Array Value} {o n : Nat} (h : o + n ≤ c.size) : (seg c o n).length = n := by
  simp [seg]; omega

theorem seg_ext {c c' : Array Value} {o o' n : Nat} (h : ∀ i, i < n → c[o + i]? = c'[o' + i]?) : seg c o n = seg c' o' n := by
  apply List.ext_getElem?
  intro i
  rw [seg_get, seg_get]
  split
  · rename_i hi; exact h i hi
  · rfl

theorem seg_seg {c : Array Value} {o n a m : Nat} (h : a + m ≤ n) : ((seg c o n).drop a).take m = seg c (o + a) m := by
  apply List.ext_getElem?
  intro i
  rw [seg_get]
  by_cases hi : i < m
  · rw [if_pos hi, List.getElem?_take_of_lt hi, List.getElem?_drop, seg_get, if_pos (by omega), Nat.add_assoc]
  · rw [if_neg hi, List.getElem?_take_eq_none (by omega)]

theorem run_load_seg {P : Program} {w : World} {b o n : Nat} {c : Array Value} (h : Has w b c) (hn : o + n ≤ c.size) :
    (loadCells ⟨b, o, none⟩ n).run P w = .ok (seg c o n).toArray w := by
  have := run_loadCells_list (P := P) w ⟨b, o, none⟩ (seg c o n) (fun j v hj => by
    rw [add0, h.cell]
    rw [seg_get] at hj
    split at hj
    · exact hj
    · cases hj)
  rwa [seg_len hn] at this

/-- the cells of a block, written over from place o on -/
def ovr : Array Value → Nat → List Value → Array Value
  | c, _, [] => c
  | c, o, v :: vs => ovr (c.setIfInBounds o v) (o + 1) vs

theorem ovr_size : ∀ (vs : List Value) (c : Array Value) (o : Nat), (ovr c o vs).size = c.size
  | [], _, _ => rfl
  | v :: vs, c, o => by rw [ovr, ovr_size vs]; simp

theorem ovr_get : ∀ (vs : List Value) (c : Array Value) (o i : Nat), o + vs.length ≤ c.size →
    (ovr c o vs)[i]? = if o ≤ i ∧ i < o + vs.length then vs[i - o]? else c[i]?
  | [], c, o, i, _ => by rw [ovr, if_neg (by simp)]
  | v :: vs, c, o, i, h => by
    simp at h
    rw [ovr, ovr_get vs _ _ _ (by simp; omega)]
    by_cases h1 : o + 1 ≤ i ∧ i < o + 1 + vs.length
    · rw [if_pos h1, if_pos (by simp; omega)]
      rw [show i - o = (i - (o + 1)) + 1 by omega]; rfl
    · rw [if_neg h1]
      by_cases h2 : i = o
      · subst h2
        rw [if_pos (by simp)]
        rw [Array.getElem?_setIfInBounds_self_of_lt (by omega)]
        simp
      · rw [if_neg (by simp; omega), Array.getElem?_setIfInBounds_ne (by omega)]

theorem seg_ovr {c : Array Value} {o : Nat} {vs : List Value} (h : o + vs.length ≤ c.size) : seg (ovr c o vs) o vs.length = vs := by
  apply List.ext_getElem?
  intro i
  rw [seg_get]
  split
  · rw [ovr_get vs c o _ h, if_pos (by omega)]; congr 1; omega
  · rw [List.getElem?_eq_none (by omega)]

theorem ovr_other {c : Array Value} {o : Nat} {vs : List Value} (h : o + vs.length ≤ c.size) (i : Nat) (hi : i < o ∨ o + vs.length ≤ i) : (ovr c o vs)[i]? = c[i]? := by
  rw [ovr_get vs c o i h, if_neg (by omega)]

/-- nothing but block b is another one -/
structure Same (w w' : World) : Prop where
  os : w'.os = w.os
  tape : w'.tape = w.tape
  output : w'.output = w.output

theorem Same.refl (w : World) : Same w w := ⟨rfl, rfl, rfl⟩
theorem Same.trans {a b c : World} (h : Same a b) (k : Same b c) : Same a c := ⟨k.os.trans h.os, k.tape.trans h.tape, k.output.trans h.output⟩

theorem setCell_own {k : Nat} {w : World} {b o : Nat} {c : Array Value} (v : Value) (h : Own k w b c) : Own k (w.setCell ⟨b, o, none⟩ v) b (c.setIfInBounds o v) := by
  obtain ⟨e, lo, hi, h, g⟩ := h
  refine ⟨e, lo, hi, ?_, by simpa using g⟩
  simp [World.setCell, Array.getElem?_modify, h]

theorem setCell_other {w : World} {a : Addr} {v : Value} {k : Nat} (h : k ≠ a.block) : (w.setCell a v).heap[k]? = w.heap[k]? := by
  simp [World.setCell, Array.getElem?_modify, Ne.symm h]

theorem setCell_size {w : World} {a : Addr} {v : Value} : (w.setCell a v).heap.size = w.heap.size := by simp [World.setCell]

theorem run_store_seg {P : Program} {q b : Nat} : ∀ (vs : List Value) (w : World) (o i : Nat) (c : Array Value), Own q w b c → o + i + vs.length ≤ c.size → (∀ v ∈ vs, v.oneCell' = true) →
    ∃ w', (storeCells ⟨b, o, none⟩ vs i).run P w = .ok () w' ∧ Own q w' b (ovr c (o + i) vs) ∧ w'.heap.size = w.heap.size ∧ (∀ k, k ≠ b → w'.heap[k]? = w.heap[k]?) ∧ Same w w'
  | [], w, o, i, c, h, _, _ => ⟨w, rfl, h, rfl, fun _ _ => rfl, Same.refl w⟩
  | v :: vs, w, o, i, c, h, hl, h1 => by
    simp at hl
    have h1v : v.oneCell' = true := h1 v (by simp)
    have hc : w.cell? ⟨b, o + i, none⟩ = some c[o + i] := by rw [h.has.cell]; exact Array.getElem?_eq_getElem (by omega)
    have hf := h.frozen (o := o + i) (by omega)
    obtain ⟨w', r, h2, h3, h4, h5⟩ := run_store_seg (P := P) vs (w.setCell ⟨b, o + i, none⟩ v) o (i + 1) _ (setCell_own v h) (by simp; omega) (fun v hv => h1 v (by simp [hv]))
    refine ⟨w', ?_, by rw [ovr, Nat.add_assoc]; exact h2, h3.trans setCell_size, fun k hk => (h4 k hk).trans (setCell_other hk), Same.trans (⟨rfl, rfl, rfl⟩ : Same w (w.setCell ⟨b, o + i, none⟩ v)) h5⟩
    simp only [storeCells, add0]
    have : (store ⟨b, o + i, none⟩ v).run P w = .ok () (w.setCell ⟨b, o + i, none⟩ v) := by
      cases v <;> simp [Value.oneCell'] at h1v <;> simp [store, Sem.run, hc, hf]
    rw [Sem.run_bind, this]
    exact r

theorem rep_one {w : World} {S : Fp} : ∀ {τ : Ty} {d : Nat} {x : τ.den} {cs : List Value} {F : Fp}, rep w S τ d x cs F → ∀ v ∈ cs, v.oneCell' = true
  | .int _, _, _, _, _, h => by rw [h.1]; simp [Value.oneCell']
  | .bool, _, _, _, _, h => by rw [h.1]; simp [Value.oneCell']
  | .str, _, _, _, _, h => by rw [h.1]; simp [Value.oneCell']
  | .one f, _, _, _, _, h => rep_one (τ := f) h
  | .pair f r, _, _, cs, _, h => by
    obtain ⟨F1, F2, h1, h2, _⟩ := h
    intro v hv
    rw [← List.take_append_drop f.size cs] at hv
    rcases List.mem_append.1 hv with hv | hv
    · exact rep_one h1 v hv
    · exact rep_one h2 v hv
  | .list _, _, _, _, _, h => by
    rcases h with h | ⟨_, _, _, _, _, h, _⟩
    · obtain ⟨A, h⟩ := h.1
      rw [h]; simp [Value.oneCell']
    · rw [h]; simp [Value.oneCell']

/-! ### Places -/
def walk (w : World) : Ty → Nat → Nat → List Step → Option (Ty × Nat × Nat)
  | τ, b, o, [] => some (τ, b, o)
  | τ, b, o, .fl k :: p => match τ.fldOff k with
    | some (σ, δ) => walk w σ b (o + δ) p
    | none => none
  | .list e, b, o, .ix i :: p => match w.cell? ⟨b, o, none⟩ with
    | some (.slice (some ⟨b', o', none⟩) n c) => if i < n then walk w e b' (o' + i * e.size) p else none
    | _ => none
  | _, _, _, _ => none

def walkV (w : World) (v : Value) (e : Ty) : List Step → Option (Ty × Nat × Nat)
  | .ix i :: p => match v with
    | .slice (some ⟨b', o', none⟩) n c => if i < n then walk w e b' (o' + i * e.size) p else none
    | _ => none
  | _ => none

abbrev Disj (F G : Fp) : Prop := ∀ b, F b → ¬ G b

/-- A place inside what is told: it is told apart, and laid anew. -/
def Focus (w : World) (S : Fp) (own : Prop) (F : Fp) (σ : Ty) (dd : Nat) (b o : Nat) (y : σ.den) {X : Type} (set : σ.den → Option X)
    (R : World → Fp → Array Value → X → Fp → Prop) (A : Array Value → Prop) : Prop :=
  ∃ q arr Fs Fr, Has w b arr ∧ A arr ∧ o + σ.size ≤ arr.size ∧ rep w S σ dd y (seg arr o σ.size) Fs ∧ Disj Fr Fs ∧ (∀ b', F b' ↔ Fr b' ∨ Fs b' ∨ (own ∧ b' = b)) ∧
    (own → Own q w b arr ∧ ¬ Fr b ∧ ¬ Fs b) ∧
    ∀ (w' : World) (S' : Fp) (arr' : Array Value) (y' : σ.den) (Fs' : Fp), (∀ b, S b → S' b) → (∀ b', Fr b' ∨ S b' → w'.heap[b']? = w.heap[b']?) → arr'.size = arr.size →
      (∀ i, i < o ∨ o + σ.size ≤ i → arr'[i]? = arr[i]?) → (own → Own q w' b arr') → rep w' S' σ dd y' (seg arr' o σ.size) Fs' → Disj Fr Fs' → (own → ¬ Fs' b) →
      ∃ x', set y' = some x' ∧ R w' S' arr' x' (fun b' => Fr b' ∨ Fs' b' ∨ (own ∧ b' = b))

theorem take_drop_pair {cs : List Value} {a n m : Nat} : ((cs.drop a).drop n).take m = (cs.drop (a + n)).take m := by rw [List.drop_drop]

/-- a field of what is told -/
theorem focusF {w : World} {S : Fp} : ∀ {τ : Ty} {d : Nat} {x : τ.den} {cs : List Value} {F : Fp} {k : Nat} {σ : Ty} {δ : Nat}, rep w S τ d x cs F → τ.fldOff k = some (σ, δ) →
    ∃ (y : σ.den) (Fs Fr : Fp), τ.getF k x = some ⟨σ, y⟩ ∧ δ + σ.size ≤ τ.size ∧ rep w S σ d y ((cs.drop δ).take σ.size) Fs ∧ Disj Fr Fs ∧ (∀ b, F b ↔ Fr b ∨ Fs b) ∧
      ∀ (w' : World) (S' : Fp) (cs' : List Value) (y' : σ.den) (Fs' : Fp), (∀ b, S b → S' b) → (∀ b', Fr b' ∨ S b' → w'.heap[b']? = w.heap[b']?) → cs'.length = cs.length →
        (∀ i, i < δ ∨ δ + σ.size ≤ i → cs'[i]? = cs[i]?) → rep w' S' σ d y' ((cs'.drop δ).take σ.size) Fs' → Disj Fr Fs' →
        ∃ x', τ.setF k x ⟨σ, y'⟩ = some x' ∧ rep w' S' τ d x' cs' (fun b => Fr b ∨ Fs' b)
  | .one a, d, x, cs, F, 0, σ, δ, h, hk => by
    simp [Ty.fldOff] at hk
    obtain ⟨rfl, rfl⟩ := hk
    have hl := rep_len h
    simp [Ty.size] at hl
    refine ⟨x, F, fun _ => False, rfl, by simp [Ty.size], ?_, fun _ h => h.elim, fun b => by simp, ?_⟩
    · rw [List.drop_zero, List.take_of_length_le (by omega)]; exact h
    · intro w' S' cs' y' Fs' _ _ hc _ hr _
      rw [List.drop_zero, List.take_of_length_le (by omega)] at hr
      exact ⟨y', by simp [Ty.setF], rep_iff (τ := a) hr (fun b => by simp)⟩
  | .pair a r, d, x, cs, F, 0, σ, δ, h, hk => by
    simp [Ty.fldOff] at hk
    obtain ⟨rfl, rfl⟩ := hk
    obtain ⟨F1, F2, h1, h2, h3, h4⟩ := h
    refine ⟨x.1, F1, F2, rfl, by simp [Ty.size], by simpa using h1, fun b hb hb' => h3 b hb' hb, fun b => (h4 b).trans Or.comm, ?_⟩
    intro w' S' cs' y' Fs' hS hw hc ho hr hd
    refine ⟨(y', x.2), by simp [Ty.setF], Fs', F2, by simpa using hr, ?_, fun b hb hb' => hd b hb' hb, fun b => Or.comm⟩
    have e : cs'.drop a.size = cs.drop a.size := by
      apply List.ext_getElem?
      intro i
      rw [List.getElem?_drop, List.getElem?_drop]
      exact ho _ (by omega)
    rw [e]
    exact rep_frame hS (fun b hb => hw b (.inr hb)) (fun b hb => hw b (.inl hb)) h2
  | .pair a r, d, x, cs, F, k + 1, σ, δ, h, hk => by
    simp only [Ty.fldOff, Option.map_eq_some_iff] at hk
    obtain ⟨⟨σ', δ'⟩, hk, e⟩ := hk
    obtain ⟨rfl, rfl⟩ : σ' = σ ∧ a.size + δ' = δ := by simpa using e
    obtain ⟨F1, F2, h1, h2, h3, h4⟩ := h
    obtain ⟨y, Fs, Fr, g1, g2, g3, g4, g5, g6⟩ := focusF h2 hk
    refine ⟨y, Fs, fun b => F1 b ∨ Fr b, g1, by simp [Ty.size]; omega, by rw [take_drop_pair] at g3; exact g3, ?_, ?_, ?_⟩
    · rintro b (hb | hb) hb'
      · exact h3 b hb ((g5 b).2 (.inr hb'))
      · exact g4 b hb hb'
    · intro b; rw [h4, g5, or_assoc]
    · intro w' S' cs' y' Fs' hS hw hc ho hr hd
      obtain ⟨x', s1, s2⟩ := g6 w' S' (cs'.drop a.size) y' Fs' hS (fun b hb => hw b (hb.imp .inr id)) (by simp [hc]) (fun i hi => by
        rw [List.getElem?_drop, List.getElem?_drop]; exact ho _ (by omega)) (by rw [take_drop_pair]; exact hr) (fun b hb => hd b (.inr hb))
      refine ⟨(x.1, x'), by simp [Ty.setF, s1], F1, _, ?_, s2, ?_, fun b => or_assoc⟩
      · have e : cs'.take a.size = cs.take a.size := by
          apply List.ext_getElem?
          intro i
          by_cases hi : i < a.size
          · rw [List.getElem?_take_of_lt hi, List.getElem?_take_of_lt hi]; exact ho _ (by omega)
          · rw [List.getElem?_take_eq_none (by omega), List.getElem?_take_eq_none (by omega)]
        rw [e]
        exact rep_frame hS (fun b hb => hw b (.inr hb)) (fun b hb => hw b (.inl (.inl hb))) h1
      · rintro b hb (hb' | hb')
        · exact h3 b hb ((g5 b).2 (.inl hb'))
        · exact hd b (.inl hb) hb'

theorem depth_ix (d i : Nat) (p : List Step) : depthP d (.ix i :: p) = depthP (d - 1) p := rfl

/-- what 'walk' leads to -/
def FocW (p : List Step) : Prop := ∀ {w : World} {S : Fp} {τ : Ty} {d : Nat} {x : τ.den} {F : Fp} {b0 o0 : Nat} {arr0 : Array Value} {σ : Ty} {b o : Nat},
  rep w S τ d x (seg arr0 o0 τ.size) F → Has w b0 arr0 → o0 + τ.size ≤ arr0.size → walk w τ b0 o0 p = some (σ, b, o) → nix p ≤ d →
  ∃ y, getP τ x p = some ⟨σ, y⟩ ∧ (nix p = 0 → b = b0 ∧ o0 ≤ o ∧ o + σ.size ≤ o0 + τ.size) ∧
    Focus w S (nix p ≠ 0) F σ (depthP d p) b o y (fun y' => setP τ x p ⟨σ, y'⟩)
      (fun w' S' arr' x' F' => rep w' S' τ d x' (seg (if nix p = 0 then arr' else arr0) o0 τ.size) F') (fun arr => nix p = 0 → arr = arr0)

def FocV (p : List Step) : Prop := ∀ {w : World} {S : Fp} {e : Ty} {d : Nat} {xs : List e.den} {F : Fp} {v : Value} {σ : Ty} {b o : Nat},
  rep w S (.list e) d xs [v] F → walkV w v e p = some (σ, b, o) → nix p ≤ d →
  ∃ y, getP (.list e) xs p = some ⟨σ, y⟩ ∧
    Focus w S True F σ (depthP d p) b o y (fun y' => setP (.list e) xs p ⟨σ, y'⟩) (fun w' S' arr' x' F' => rep w' S' (.list e) d x' [v] F') (fun _ => True)

theorem focV_of {i : Nat} {p : List Step} (ih : FocW p) : FocV (.ix i :: p) := by
  intro w S e d xs F v σ b o h hw hn
  rcases h with h | ⟨b1, o1, c, arr1, G, h1, h2, h3, h4, h⟩
  · obtain ⟨A, hA⟩ := h.1
    rw [List.cons.inj hA |>.1] at hw
    simp only [walkV] at hw
    split at hw
    · rename_i q; cases q; simp at hw
    · cases hw
  · obtain rfl : v = .slice (some ⟨b1, o1, none⟩) xs.length c := by simpa using h1
    simp only [walkV] at hw
    split at hw
    case isFalse => cases hw
    case isTrue hi =>
    simp only [nix] at hn
    obtain ⟨hd, hown, hGb, hF⟩ := h.resolve_left (by omega)
    obtain ⟨Gi, q1, q2, q3⟩ := h4
    have hsz : o1 + i * e.size + e.size ≤ arr1.size := by
      have : (i + 1) * e.size ≤ c * e.size := Nat.mul_le_mul_right _ (by omega)
      rw [Nat.add_mul] at this; omega
    obtain ⟨y, g1, g2, q, arr, Fs, Fr, a1, a2, a3, a4, a5, a6, a7, a8⟩ := ih (q1 i hi) hown.has hsz hw (by omega)
    have hget : xs.getD i e.dflt = xs[i] := by simp [List.getD, List.getElem?_eq_getElem hi]
    have hGiF : ∀ j, j < xs.length → ∀ b', Gi j b' → G b' := fun j hj b' hb => (q3 b').2 ⟨j, hj, hb⟩
    refine ⟨y, by simp only [getP, hget]; exact g1, ?_⟩
    -- the others' blocks
    refine ⟨if nix p = 0 then e.mk else q, arr, Fs, fun b' => (∃ j, j < xs.length ∧ j ≠ i ∧ Gi j b') ∨ Fr b' ∨ (nix p ≠ 0 ∧ b' = b1), a1, trivial, a3, a4, ?_, ?_, ?_, ?_⟩
    · rintro b' (⟨j, hj, hne, hb⟩ | hb | ⟨hne, rfl⟩) hb'
      · exact hne (q2 j i b' hj hi hb ((a6 b').2 (.inr (.inl hb'))))
      · exact a5 b' hb hb'
      · exact hGb (hGiF i hi _ ((a6 _).2 (.inr (.inl hb'))))
    · intro b'
      rw [hF, q3]
      constructor
      · rintro (rfl | ⟨j, hj, hb⟩)
        · by_cases hne : nix p = 0
          · exact .inr (.inr ⟨trivial, (g2 hne).1.symm⟩)
          · exact .inl (.inr (.inr ⟨hne, rfl⟩))
        · by_cases hji : j = i
          · subst hji
            rcases (a6 b').1 hb with hb | hb | ⟨hne, rfl⟩
            · exact .inl (.inr (.inl hb))
            · exact .inr (.inl hb)
            · exact .inr (.inr ⟨trivial, rfl⟩)
          · exact .inl (.inl ⟨j, hj, hji, hb⟩)
      · rintro ((⟨j, hj, hne, hb⟩ | hb | ⟨hne, rfl⟩) | hb | ⟨_, rfl⟩)
        · exact .inr ⟨j, hj, hb⟩
        · exact .inr ⟨i, hi, (a6 b').2 (.inl hb)⟩
        · exact .inl rfl
        · exact .inr ⟨i, hi, (a6 b').2 (.inr (.inl hb))⟩
        · by_cases hne : nix p = 0
          · exact .inl (g2 hne).1
          · exact .inr ⟨i, hi, (a6 b').2 (.inr (.inr ⟨hne, rfl⟩))⟩
    · intro _
      by_cases hne : nix p = 0
      · obtain rfl := (g2 hne).1
        obtain rfl := a2 hne
        refine ⟨by rw [if_pos hne]; exact hown, ?_, fun hb => hGb (hGiF i hi _ ((a6 b).2 (.inr (.inl hb))))⟩
        rintro (⟨j, hj, _, hb⟩ | hb | ⟨h, _⟩)
        · exact hGb (hGiF j hj _ hb)
        · exact hGb (hGiF i hi _ ((a6 b).2 (.inl hb)))
        · exact h hne
      · obtain ⟨u1, u2, u3⟩ := a7 hne
        refine ⟨by rw [if_neg hne]; exact u1, ?_, u3⟩
        rintro (⟨j, hj, hji, hb⟩ | hb | ⟨_, rfl⟩)
        · exact hji (q2 j i b hj hi hb ((a6 b).2 (.inr (.inr ⟨hne, rfl⟩))))
        · exact u2 hb
        · exact hGb (hGiF i hi _ ((a6 _).2 (.inr (.inr ⟨hne, rfl⟩))))
    · intro w' S' arr' y' Fs' hS hww hsize hout hown' hr hdj hnb
      obtain ⟨z, s1, s2⟩ := a8 w' S' arr' y' Fs' hS (fun b' hb => hww b' (hb.imp (fun hb => .inr (.inl hb)) id)) hsize hout (fun hx => by have := hown' trivial; rwa [if_neg hx] at this) hr
        (fun b' hb => hdj b' (.inr (.inl hb))) (fun _ => hnb trivial)
      refine ⟨xs.set i z, by simp only [setP, hget, s1]; rfl, ?_⟩
      -- the block of the list
      have harr : ∃ arr1', Own e.mk w' b1 arr1' ∧ arr1'.size = arr1.size ∧ (∀ j, j < o1 + i * e.size ∨ o1 + i * e.size + e.size ≤ j → arr1'[j]? = arr1[j]?) ∧
          arr1' = (if nix p = 0 then arr' else arr1) := by
        by_cases hne : nix p = 0
        · obtain ⟨rfl, v1, v2⟩ := g2 hne
          obtain rfl := a2 hne
          exact ⟨arr', by have := hown' trivial; rwa [if_pos hne] at this, hsize, fun j hj => hout j (by omega), by rw [if_pos hne]⟩
        · exact ⟨arr1, hown.of_eq (hww b1 (.inl (.inr (.inr ⟨hne, rfl⟩)))), rfl, fun _ _ => rfl, by rw [if_neg hne]⟩
      obtain ⟨arr1', t1, t2, t3, t4⟩ := harr
      rw [← t4] at s2
      let Gi' : Nat → Fp := fun j => if j = i then (fun b' => Fr b' ∨ Fs' b' ∨ (nix p ≠ 0 ∧ b' = b)) else Gi j
      have hGi' : ∀ j, j ≠ i → Gi' j = Gi j := fun j hj => if_neg hj
      have hGii : Gi' i = fun b' => Fr b' ∨ Fs' b' ∨ (nix p ≠ 0 ∧ b' = b) := if_pos rfl
      have hmul : ∀ j, j < xs.length → j ≠ i → ∀ q, q < e.size → o1 + j * e.size + q < o1 + i * e.size ∨ o1 + i * e.size + e.size ≤ o1 + j * e.size + q := by
        intro j hj hne q hq
        rcases Nat.lt_or_gt_of_ne hne with hl | hl
        · have : (j + 1) * e.size ≤ i * e.size := Nat.mul_le_mul_right _ (by omega)
          rw [Nat.add_mul] at this; omega
        · have : (i + 1) * e.size ≤ j * e.size := Nat.mul_le_mul_right _ (by omega)
          rw [Nat.add_mul] at this; omega
      have hdis : ∀ j b', j < xs.length → j ≠ i → Gi j b' → ¬ (Fr b' ∨ Fs' b' ∨ (nix p ≠ 0 ∧ b' = b)) := by
        rintro j b' hj hne hb (hb' | hb' | ⟨hx, rfl⟩)
        · exact hne (q2 j i b' hj hi hb ((a6 b').2 (.inl hb')))
        · exact hdj b' (.inl ⟨j, hj, hne, hb⟩) hb'
        · exact hne (q2 j i b' hj hi hb ((a6 b').2 (.inr (.inr ⟨hx, rfl⟩))))
      refine .inr ⟨b1, o1, c, arr1', fun b' => ∃ j, j < xs.length ∧ Gi' j b', by simp, by simpa using h2, by rw [t2]; exact h3, ⟨Gi', ?_, ?_, ?_⟩, .inr ⟨hd, t1, ?_, ?_⟩⟩
      · intro j hj
        simp at hj
        by_cases hji : j = i
        · subst hji
          rw [hGii]
          simpa using s2
        · rw [hGi' j hji, List.getElem_set_ne (Ne.symm hji)]
          have : seg arr1' (o1 + j * e.size) e.size = seg arr1 (o1 + j * e.size) e.size := seg_ext fun q hq => t3 _ (hmul j hj hji q hq)
          rw [this]
          exact rep_frame hS (fun b' hb => hww b' (.inr hb)) (fun b' hb => hww b' (.inl (.inl ⟨j, hj, hji, hb⟩))) (q1 j hj)
      · intro j k b' hj hk hb hb'
        simp at hj hk
        by_cases hji : j = i
        · by_cases hki : k = i
          · omega
          · subst hji
            rw [hGii] at hb; rw [hGi' k hki] at hb'
            exact absurd hb (hdis k b' hk hki hb')
        · by_cases hki : k = i
          · subst hki
            rw [hGii] at hb'; rw [hGi' j hji] at hb
            exact absurd hb' (hdis j b' hj hji hb)
          · rw [hGi' j hji] at hb; rw [hGi' k hki] at hb'
            exact q2 j k b' hj hk hb hb'
      · intro b'; simp
      · rintro ⟨j, hj, hb⟩
        by_cases hji : j = i
        · subst hji
          rw [hGii] at hb
          rcases hb with hb | hb | ⟨hx, rfl⟩
          · exact hGb (hGiF j hi _ ((a6 _).2 (.inl hb)))
          · by_cases hne : nix p = 0
            · obtain rfl := (g2 hne).1
              exact hnb trivial hb
            · exact hdj b1 (.inr (.inr ⟨hne, rfl⟩)) hb
          · exact hGb (hGiF j hi _ ((a6 _).2 (.inr (.inr ⟨hx, rfl⟩))))
        · rw [hGi' j hji] at hb
          exact hGb (hGiF j hj _ hb)
      · intro b'
        constructor
        · rintro ((⟨j, hj, hne, hb⟩ | hb | ⟨hne, rfl⟩) | hb | ⟨_, rfl⟩)
          · exact .inr ⟨j, hj, by rw [hGi' j hne]; exact hb⟩
          · exact .inr ⟨i, hi, by rw [hGii]; exact .inl hb⟩
          · exact .inl rfl
          · exact .inr ⟨i, hi, by rw [hGii]; exact .inr (.inl hb)⟩
          · by_cases hne : nix p = 0
            · exact .inl (g2 hne).1
            · exact .inr ⟨i, hi, by rw [hGii]; exact .inr (.inr ⟨hne, rfl⟩)⟩
        · rintro (rfl | ⟨j, hj, hb⟩)
          · by_cases hne : nix p = 0
            · exact .inr (.inr ⟨trivial, (g2 hne).1.symm⟩)
            · exact .inl (.inr (.inr ⟨hne, rfl⟩))
          · by_cases hji : j = i
            · subst hji
              rw [hGii] at hb
              rcases hb with hb | hb | ⟨hx, rfl⟩
              · exact .inl (.inr (.inl hb))
              · exact .inr (.inl hb)
              · exact .inr (.inr ⟨trivial, rfl⟩)
            · rw [hGi' j hji] at hb
              exact .inl (.inl ⟨j, hj, hji, hb⟩)
theorem focW (p : List Step) : FocW p := by
  induction p with
  | nil =>
    intro w S τ d x F b0 o0 arr0 σ b o h hb hs hw hn
    simp [walk] at hw
    obtain ⟨rfl, rfl, rfl⟩ := hw
    refine ⟨x, rfl, fun _ => ⟨rfl, Nat.le_refl _, Nat.le_refl _⟩, 1, arr0, F, fun _ => False, hb, fun _ => rfl, hs, h, fun _ h => h.elim, fun b' => by simp [nix], fun h => absurd rfl h, ?_⟩
    intro w' S' arr' y' Fs' hS hww hsize hout hown hr hdj hnb
    exact ⟨y', by simp [setP], by simp only [nix, if_true]; exact rep_iff hr (fun b' => by simp)⟩
  | cons s p focWp =>
   cases s with
   | fl k =>
    intro w S τ d x F b0 o0 arr0 σ b o h hb hs hw hn
    have hw' : (match τ.fldOff k with | some (σ, δ) => walk w σ b0 (o0 + δ) p | none => none) = some (σ, b, o) := by
      cases τ <;> exact hw
    cases hk : τ.fldOff k with
    | none => rw [hk] at hw'; cases hw'
    | some q =>
    obtain ⟨σ1, δ⟩ := q
    rw [hk] at hw'
    obtain ⟨y1, Fs1, Fr1, g1, g2, g3, g4, g5, g6⟩ := focusF h hk
    rw [seg_seg g2] at g3
    obtain ⟨y, e1, e2, qk, arr, Fs, Fr, a1, a2, a3, a4, a5, a6, a7, a8⟩ := focWp g3 hb (by omega) hw' hn
    have hgp : getP τ x (.fl k :: p) = some ⟨σ, y⟩ := by
      have : getP τ x (.fl k :: p) = (τ.getF k x).bind fun y => getP y.1 y.2 p := by cases τ <;> rfl
      rw [this, g1]; exact e1
    have hsp : ∀ y', setP τ x (.fl k :: p) ⟨σ, y'⟩ = (setP σ1 y1 p ⟨σ, y'⟩).bind fun z' => τ.setF k x ⟨σ1, z'⟩ := by
      intro y'
      have : setP τ x (.fl k :: p) ⟨σ, y'⟩ = (τ.getF k x).bind fun z => (setP z.1 z.2 p ⟨σ, y'⟩).bind fun z' => τ.setF k x ⟨z.1, z'⟩ := by cases τ <;> rfl
      rw [this, g1]; rfl
    refine ⟨y, hgp, fun h0 => ?_, qk, arr, Fs, fun b' => Fr1 b' ∨ Fr b', a1, a2, a3, a4, ?_, ?_, ?_, ?_⟩
    · obtain ⟨v1, v2, v3⟩ := e2 h0
      exact ⟨v1, by omega, by omega⟩
    · rintro b' (hb' | hb') hb''
      · exact g4 b' hb' ((a6 b').2 (.inr (.inl hb'')))
      · exact a5 b' hb' hb''
    · intro b'
      rw [g5, a6, or_assoc]; rfl
    · intro hne
      obtain ⟨u1, u2, u3⟩ := a7 hne
      exact ⟨u1, fun hb' => hb'.elim (fun hb' => g4 b hb' ((a6 b).2 (.inr (.inr ⟨hne, rfl⟩)))) u2, u3⟩
    · intro w' S' arr' y' Fs' hS hww hsize hout hown hr hdj hnb
      obtain ⟨z, s1, s2⟩ := a8 w' S' arr' y' Fs' hS (fun b' hb' => hww b' (hb'.imp .inr id)) hsize hout hown hr (fun b' hb' => hdj b' (.inr hb')) hnb
      show ∃ x', setP τ x (.fl k :: p) ⟨σ, y'⟩ = some x' ∧ rep w' S' τ d x' (seg (if nix p = 0 then arr' else arr0) o0 τ.size) _
      have hnx : nix (.fl k :: p) = nix p := rfl
      have q1 : (seg (if nix p = 0 then arr' else arr0) o0 τ.size).length = (seg arr0 o0 τ.size).length := by
        rw [seg_len hs]
        apply seg_len
        by_cases h0 : nix p = 0
        · rw [if_pos h0, hsize, a2 h0]; exact hs
        · rw [if_neg h0]; exact hs
      have q2 : ∀ i, i < δ ∨ δ + σ1.size ≤ i → (seg (if nix p = 0 then arr' else arr0) o0 τ.size)[i]? = (seg arr0 o0 τ.size)[i]? := by
        intro i hi
        rw [seg_get, seg_get]
        by_cases hi' : i < τ.size
        · rw [if_pos hi', if_pos hi']
          by_cases h0 : nix p = 0
          · obtain ⟨v1, v2, v3⟩ := e2 h0
            rw [if_pos h0, hout _ (by omega), a2 h0]
          · rw [if_neg h0]
        · rw [if_neg hi', if_neg hi']
      have q3 : Disj Fr1 (fun b' => Fr b' ∨ Fs' b' ∨ (nix p ≠ 0 ∧ b' = b)) := by
        rintro b' hb' (hb'' | hb'' | ⟨hne, rfl⟩)
        · exact g4 b' hb' ((a6 b').2 (.inl hb''))
        · exact hdj b' (.inl hb') hb''
        · exact g4 b' hb' ((a6 b').2 (.inr (.inr ⟨hne, rfl⟩)))
      obtain ⟨x', t1, t2⟩ := g6 w' S' (seg (if nix p = 0 then arr' else arr0) o0 τ.size) z _ hS (fun b' hb' => hww b' (hb'.imp .inl id)) q1 q2
        (by rw [seg_seg g2]; exact s2) q3
      have s1' : setP σ1 y1 p ⟨σ, y'⟩ = some z := s1
      exact ⟨x', by rw [hsp, s1']; exact t1, rep_iff t2 (fun b' => or_assoc)⟩
   | ix i =>
    intro w S τ d x F b0 o0 arr0 σ b o h hb hs hw hn
    cases τ with
    | list e =>
      have hl : seg arr0 o0 1 = [arr0[o0]'(by simp [Ty.size] at hs; omega)] := by
        apply List.ext_getElem?
        intro j
        rw [seg_get]
        by_cases hj : j = 0
        · subst hj; simp
        · rw [if_neg (by omega), List.getElem?_eq_none (by simp; omega)]
      simp only [Ty.size] at h hs
      rw [hl] at h
      have hw' : walkV w (arr0[o0]'(by omega)) e (.ix i :: p) = some (σ, b, o) := by
        simp only [walk, hb.cell, Array.getElem?_eq_getElem (show o0 < arr0.size by omega)] at hw
        simp only [walkV]
        split at hw
        · rename_i q; injection q with q; rw [q]; exact hw
        · cases hw
      obtain ⟨y, e1, qk, arr, Fs, Fr, a1, _, a3, a4, a5, a6, a7, a8⟩ := focV_of focWp h hw' hn
      refine ⟨y, e1, fun h0 => by simp [nix] at h0, qk, arr, Fs, Fr, a1, fun h0 => by simp [nix] at h0, a3, a4, a5, ?_, fun _ => a7 trivial, ?_⟩
      · intro b'; rw [a6]; simp [nix]
      · intro w' S' arr' y' Fs' hS hww hsize hout hown hr hdj hnb
        obtain ⟨z, s1, s2⟩ := a8 w' S' arr' y' Fs' hS hww hsize hout (fun _ => hown (by simp [nix])) hr hdj (fun _ => hnb (by simp [nix]))
        refine ⟨z, s1, ?_⟩
        simp only [nix, Nat.add_eq_zero_iff, Nat.one_ne_zero, and_false, if_false, Ty.size]
        rw [hl]
        exact rep_iff s2 (fun b' => by simp)
    | _ => simp [walk] at hw

theorem focV : ∀ {p : List Step}, FocV p
  | .ix i :: p => focV_of (focW p)
  | [] => fun _ hw _ => by simp [walkV] at hw
  | .fl _ :: _ => fun _ hw _ => by simp [walkV] at hw

/-- what 'walk' reads are slices alone -/
def SlicesStay (w w' : World) (B : Fp) : Prop := ∀ b o a n c, B b → w.cell? ⟨b, o, none⟩ = some (.slice (some a) n c) → w'.cell? ⟨b, o, none⟩ = some (.slice (some a) n c)

def WK (p : List Step) : Prop := ∀ {w w' : World} {S : Fp} {τ : Ty} {d : Nat} {x : τ.den} {F : Fp} {b0 o0 : Nat} {arr0 : Array Value} {r : Ty × Nat × Nat},
  rep w S τ d x (seg arr0 o0 τ.size) F → Has w b0 arr0 → o0 + τ.size ≤ arr0.size → walk w τ b0 o0 p = some r → nix p ≤ d →
  SlicesStay w w' (fun b => F b ∨ b = b0) → walk w' τ b0 o0 p = some r

theorem walkV_of {w w' : World} {i : Nat} {p : List Step} (ih : WK p) {S : Fp} {e : Ty} {d : Nat} {xs : List e.den} {F : Fp} {v : Value} {r : Ty × Nat × Nat}
    (h : rep w S (.list e) d xs [v] F) (hw : walkV w v e (.ix i :: p) = some r) (hn : nix (.ix i :: p) ≤ d) (hk : SlicesStay w w' F) : walkV w' v e (.ix i :: p) = some r := by
  rcases h with h | ⟨b1, o1, c, arr1, G, h1, h2, h3, h4, h⟩
  · obtain ⟨A, hA⟩ := h.1
    rw [List.cons.inj hA |>.1] at hw
    simp only [walkV] at hw
    split at hw
    · rename_i q; cases q; simp at hw
    · cases hw
  · obtain rfl : v = .slice (some ⟨b1, o1, none⟩) xs.length c := by simpa using h1
    simp only [walkV] at hw ⊢
    split at hw
    case isFalse => cases hw
    case isTrue hi =>
    rw [if_pos hi]
    simp only [nix] at hn
    obtain ⟨hd, hown, hGb, hF⟩ := h.resolve_left (by omega)
    obtain ⟨Gi, q1, q2, q3⟩ := h4
    have hsz : o1 + i * e.size + e.size ≤ arr1.size := by
      have : (i + 1) * e.size ≤ c * e.size := Nat.mul_le_mul_right _ (by omega)
      rw [Nat.add_mul] at this; omega
    refine ih (q1 i hi) hown.has hsz hw (by omega) fun b o a n c hb => hk b o a n c ?_
    rcases hb with hb | rfl
    · exact (hF b).2 (.inr ((q3 b).2 ⟨i, hi, hb⟩))
    · exact (hF _).2 (.inl rfl)

theorem wk (p : List Step) : WK p := by
  induction p with
  | nil => intro w w' S τ d x F b0 o0 arr0 r h hb hs hw hn hk; simpa [walk] using hw
  | cons s p ih =>
    cases s with
    | fl k =>
      intro w w' S τ d x F b0 o0 arr0 r h hb hs hw hn hk
      have e : ∀ w, walk w τ b0 o0 (.fl k :: p) = match τ.fldOff k with | some (σ, δ) => walk w σ b0 (o0 + δ) p | none => none := by intro w; cases τ <;> rfl
      rw [e] at hw ⊢
      cases hf : τ.fldOff k with
      | none => rw [hf] at hw; cases hw
      | some q =>
        obtain ⟨σ, δ⟩ := q
        rw [hf] at hw
        obtain ⟨y, Fs, Fr, _, g2, g3, _, g5, _⟩ := focusF h hf
        rw [seg_seg g2] at g3
        exact ih g3 hb (by omega) hw hn fun b o a n c hb => hk b o a n c (hb.imp (fun hb => (g5 b).2 (.inr hb)) id)
    | ix i =>
      intro w w' S τ d x F b0 o0 arr0 r h hb hs hw hn hk
      cases τ with
      | list e =>
        have hl : seg arr0 o0 1 = [arr0[o0]'(by simp [Ty.size] at hs; omega)] := by
          apply List.ext_getElem?
          intro j
          rw [seg_get]
          by_cases hj : j = 0
          · subst hj; simp
          · rw [if_neg (by omega), List.getElem?_eq_none (by simp; omega)]
        simp only [Ty.size] at h hs
        rw [hl] at h
        simp only [walk, hb.cell, Array.getElem?_eq_getElem (show o0 < arr0.size by omega)] at hw
        split at hw
        · rename_i q
          injection q with q
          rw [q] at h
          have hc : w.cell? ⟨b0, o0, none⟩ = some arr0[o0] := by rw [hb.cell]; exact Array.getElem?_eq_getElem _
          rw [q] at hc
          have := walkV_of (w' := w') ih h (i := i) (r := r) (by simp only [walkV]; exact hw) hn (fun b o a n c hb => hk b o a n c (.inl hb))
          simp only [walk, hk _ _ _ _ _ (.inr rfl) hc]
          exact this
        · cases hw
      | _ => simp [walk] at hw

theorem walkV_stay {w w' : World} {p : List Step} {S : Fp} {e : Ty} {d : Nat} {xs : List e.den} {F : Fp} {v : Value} {r : Ty × Nat × Nat}
    (h : rep w S (.list e) d xs [v] F) (hw : walkV w v e p = some r) (hn : nix p ≤ d) (hk : SlicesStay w w' F) : walkV w' v e p = some r := by
  cases p with
  | nil => simp [walkV] at hw
  | cons s p => cases s with
    | fl k => simp [walkV] at hw
    | ix i => exact walkV_of (wk p) h hw hn hk

theorem walkV_frame {w w' : World} {p : List Step} {S : Fp} {e : Ty} {d : Nat} {xs : List e.den} {F : Fp} {v : Value} {r : Ty × Nat × Nat}
    (h : rep w S (.list e) d xs [v] F) (hw : walkV w v e p = some r) (hn : nix p ≤ d) (hk : ∀ b, F b → w'.heap[b]? = w.heap[b]?) : walkV w' v e p = some r :=
  walkV_stay h hw hn fun b o a n c hb hc => by simp only [World.cell?, hk b hb] at hc ⊢; exact hc
end Go.Abs
set_option linter.unusedVariables false
set_option linter.unusedSimpArgs false
namespace Go.Abs
open Go

theorem St.put_same {s : St} {i : Nat} {v : SV} (h : s.sl i = v) : s.put i v = s := by
  cases s with
  | mk sl rt =>
    simp only [St.put, St.mk.injEq, and_true]
    funext j
    cases hj : Nat.beq j i with
    | false => rfl
    | true => have := Nat.eq_of_beq_eq_true hj; subst this; exact h.symm

theorem put_sl (s : St) (i j : Nat) (v : SV) : (s.put i v).sl j = if j = i then v else s.sl j := by
  by_cases h : j = i
  · subst h; simp [St.put, cond]
  · have : Nat.beq j i = false := by
      cases hb : Nat.beq j i with
      | false => rfl
      | true => exact absurd (Nat.eq_of_beq_eq_true hb) h
    simp [St.put, this, h]
theorem put_rt (s : St) (i : Nat) (v : SV) : (s.put i v).rt = s.rt := rfl
theorem putR_sl (s : St) (i : Nat) (v : RSt) : (s.putR i v).sl = s.sl := rfl
theorem putR_rt (s : St) (i j : Nat) (v : RSt) : (s.putR i v).rt j = if j = i then v else s.rt j := by
  by_cases h : j = i
  · subst h; simp [St.putR, cond]
  · have : Nat.beq j i = false := by
      cases hb : Nat.beq j i with
      | false => rfl
      | true => exact absurd (Nat.eq_of_beq_eq_true hb) h
    simp [St.putR, this, h]

namespace Rd
theorem ev_run {α γ : Type} : ∀ (m : Rd α) (s : St) (l : List Nat) (k : α → St → List Nat → Option γ), m.ev s l k = (m.run s l).bind fun p => k p.1 s p.2
  | .ret a, s, l, k => rfl
  | .sl i f, s, l, k => by simp only [ev, run]; exact ev_run _ s _ k
  | .rt i f, s, l, k => by simp only [ev, run]; exact ev_run _ s _ k
  | .br g f, s, l, k => by
    simp only [ev, run]
    split
    · rename_i b hb
      cases b with
      | true => simp only [cond_true, St.put_same hb]; exact ev_run _ s _ k
      | false => simp only [cond_false, St.put_same hb]; exact ev_run _ s _ k
    · rfl
  | .chk b f, s, l, k => by
    simp only [ev, run]
    cases b with
    | true => exact ev_run _ s _ k
    | false => rfl
  | .ite b f g, s, l, k => by
    simp only [ev, run]
    cases b with
    | true => exact ev_run _ s _ k
    | false => exact ev_run _ s _ k
  | .opt δ o f, s, l, k => by
    simp only [ev, run]
    cases o with
    | none => rfl
    | some x => exact ev_run _ s _ k
  | .fail, _, _, _ => rfl

theorem run_bind {α β : Type} : ∀ (m : Rd α) (f : α → Rd β) (s : St) (l : List Nat), (m.bind f).run s l = (m.run s l).bind fun p => (f p.1).run s p.2
  | .ret a, f, s, l => rfl
  | .sl i g, f, s, l => by simp only [bind, run]; exact run_bind _ f s _
  | .rt i g, f, s, l => by simp only [bind, run]; exact run_bind _ f s _
  | .br g h, f, s, l => by
    simp only [bind, run]
    split
    · exact run_bind _ f s _
    · rfl
  | .chk b g, f, s, l => by
    simp only [bind, run]
    cases b with
    | true => exact run_bind _ f s _
    | false => rfl
  | .ite b g g', f, s, l => by
    simp only [bind, run]
    cases b with
    | true => exact run_bind _ f s _
    | false => exact run_bind _ f s _
  | .opt δ o g, f, s, l => by
    simp only [bind, run]
    cases o with
    | none => rfl
    | some x => exact run_bind _ f s _
  | .fail, _, _, _ => rfl

theorem run_sub {α : Type} : ∀ (m : Rd α) (s : St) (l : List Nat) (p : α × List Nat), m.run s l = some p → ∀ i ∈ l, i ∈ p.2
  | .ret a, s, l, p, h => by simp [run] at h; subst h; exact fun i hi => hi
  | .sl i f, s, l, p, h => fun j hj => run_sub (f (s.sl i)) s (2 * i :: l) p h j (List.mem_cons_of_mem _ hj)
  | .rt i f, s, l, p, h => fun j hj => run_sub (f (s.rt i)) s ((2 * i + 1) :: l) p h j (List.mem_cons_of_mem _ hj)
  | .br g f, s, l, p, h => by
    simp only [run] at h
    split at h
    · rename_i b hb
      exact fun j hj => run_sub (f b) s (2 * g :: l) p h j (List.mem_cons_of_mem _ hj)
    · cases h
  | .chk b f, s, l, p, h => by
    cases b with
    | true => exact run_sub f s l p h
    | false => cases h
  | .ite b f g, s, l, p, h => by
    cases b with
    | true => exact run_sub f s l p h
    | false => exact run_sub g s l p h
  | .opt δ o f, s, l, p, h => by
    cases o with
    | none => cases h
    | some x => exact run_sub (f x) s l p h
  | .fail, _, _, _, h => by cases h

/-- What comes of it hangs on what it looked at alone. -/
theorem run_local {α : Type} : ∀ (m : Rd α) (s s' : St) (l : List Nat) (p : α × List Nat), m.run s l = some p →
    (∀ i, 2 * i ∈ p.2 → s'.sl i = s.sl i) → (∀ i, 2 * i + 1 ∈ p.2 → s'.rt i = s.rt i) → m.run s' l = some p
  | .ret a, s, s', l, p, h, _, _ => h
  | .sl i f, s, s', l, p, h, h1, h2 => by
    simp only [run] at h ⊢
    rw [h1 i (run_sub _ _ _ _ h _ (by simp))]
    exact run_local (f (s.sl i)) s s' _ p h h1 h2
  | .rt i f, s, s', l, p, h, h1, h2 => by
    simp only [run] at h ⊢
    rw [h2 i (run_sub _ _ _ _ h _ (by simp))]
    exact run_local (f (s.rt i)) s s' _ p h h1 h2
  | .br g f, s, s', l, p, h, h1, h2 => by
    simp only [run] at h ⊢
    split at h
    · rename_i b hb
      have e : s'.sl g = s.sl g := h1 g (run_sub _ _ _ _ h _ (by simp))
      simp only [e, hb]
      exact run_local (f b) s s' _ p h h1 h2
    · cases h
  | .chk b f, s, s', l, p, h, h1, h2 => by
    cases b with
    | true => exact run_local f s s' l p h h1 h2
    | false => cases h
  | .ite b f g, s, s', l, p, h, h1, h2 => by
    cases b with
    | true => exact run_local f s s' l p h h1 h2
    | false => exact run_local g s s' l p h h1 h2
  | .opt δ o f, s, s', l, p, h, h1, h2 => by
    cases o with
    | none => cases h
    | some x => exact run_local (f x) s s' l p h h1 h2
  | .fail, _, _, _, _, h, _, _ => by cases h
end Rd
end Go.Abs
set_option linter.unusedVariables false
set_option linter.unusedSimpArgs false
namespace Go.Abs
open Go

def Ty.wrap (τ : Ty) (cs : List Value) : Value := if τ.isAgg then .agg cs.toArray else cs.headD undef

theorem Value.cells_one {v : Value} (h : v.oneCell' = true) : v.cells = #[v] := by cases v <;> simp [Value.oneCell'] at h <;> rfl

theorem Ty.size_one : ∀ {τ : Ty}, τ.isAgg = false → τ.size = 1
  | .int _, _ | .bool, _ | .str, _ | .list _, _ => rfl
  | .one _, h | .pair _ _, h => by simp [Ty.isAgg] at h

theorem wrap_cells {w : World} {S : Fp} {τ : Ty} {d : Nat} {x : τ.den} {cs : List Value} {F : Fp} (h : rep w S τ d x cs F) : (τ.wrap cs).cells.toList = cs := by
  unfold Ty.wrap
  cases ha : τ.isAgg with
  | true => simp [Value.cells]
  | false =>
    have hl := rep_len h
    rw [Ty.size_one ha] at hl
    match cs, hl with
    | [v], _ => simp [Value.cells_one (rep_one h v (by simp))]

section
variable (w : World) (S : Fp) (rt : Nat → RSt) (rv : Nat → Value)

def RAt (id ver : Nat) (p : List Step) (v : Value) : Prop :=
  match rt id with
  | .none => False
  | .dead => True
  | .frz _ _ => p = [] → v = rv id
  | .box _ _ => True
  | .hole r _ => ver ≤ r.ver ∧ (nix p = 0 → p = [] ∧ v = rv id)
  | .live r => ver ≤ r.ver ∧ (nix p = 0 → p = [] ∧ v = rv id) ∧
      (nix p ≠ 0 → r.ver = ver → nix p ≤ r.d ∧ ∃ e b o, walkV w (rv id) r.τ p = some (.list e, b, o) ∧ w.cell? ⟨b, o, none⟩ = some v)

def RPtr (id ver : Nat) (p : List Step) (σ : Ty) (v : Value) : Prop :=
  (∃ b o, v = .pointer (some ⟨b, o, none⟩)) ∧
  match rt id with
  | .none => False
  | .dead => True
  | .frz _ _ => True
  | .box _ _ => True
  | .hole r _ => ver ≤ r.ver ∧ (nix p ≤ 1 → ∃ b o, walkV w (rv id) r.τ p = some (σ, b, o) ∧ v = .pointer (some ⟨b, o, none⟩))
  | .live r => ver ≤ r.ver ∧ (nix p ≤ 1 ∨ r.ver = ver → nix p ≤ r.d + 1 ∧ ∃ b o, walkV w (rv id) r.τ p = some (σ, b, o) ∧ v = .pointer (some ⟨b, o, none⟩))

def RBp (id : Nat) (p : List Nat) (v : Value) : Prop :=
  match rt id with
  | .none => False
  | .box σ _ => ∃ b τ δ, rv id = .pointer (some ⟨b, 0, none⟩) ∧ fldPath σ p = some (τ, δ) ∧ v = .pointer (some ⟨b, δ, none⟩)
  | _ => True

def RSp (τ : Ty) (x : τ.den) (v : Value) : Prop :=
  ∃ b o arr, v = .pointer (some ⟨b, o, none⟩) ∧ S b ∧ Has w b arr ∧ o + τ.size ≤ arr.size ∧ rep w S τ 0 x (seg arr o τ.size) (fun _ => False)

mutual
/-- What a slot holds, in the machine. -/
def RSV : SV → Value → Prop
  | .val τ x, v => ∃ cs, rep w S τ 0 x cs (fun _ => False) ∧ v = τ.wrap cs
  | .nil, v => ∃ A, v = .slice A 0 0
  | .at id ver p, v => RAt w rt rv id ver p v
  | .ptr id ver p σ, v => RPtr w rt rv id ver p σ v
  | .sp τ x, v => RSp w S τ x v
  | .bp id p, v => RBp rt rv id p v
  | .agg vs, v => ∃ us, RSVs vs us ∧ v = .agg (us.flatMap fun u => u.cells.toList).toArray
  | .tup vs, v => ∃ us, RSVs vs us ∧ v = .tuple us.toArray
  | .fn f vs, v => ∃ us, RSVs vs us ∧ v = .func (.func f) #[] us.toArray
  | .undef, _ => True
def RSVs : List SV → List Value → Prop
  | [], us => us = []
  | v :: vs, us => ∃ u us', us = u :: us' ∧ RSV v u ∧ RSVs vs us'
end

mutual
/-- What a box holds. -/
def BRep : SV → Ty → List Value → Prop
  | .agg vs, σ, cs => σ.isAgg = true ∧ BRepL vs σ cs
  | .val τ x, σ, cs => τ = σ ∧ cs.length = σ.size ∧ RSV w S rt rv (.val τ x) (σ.wrap cs)
  | .nil, σ, cs => (∃ e, σ = .list e) ∧ ∃ A, cs = [.slice A 0 0]
  | .at id ver p, σ, cs => (∃ e, σ = .list e) ∧ ∃ v, cs = [v] ∧ v.oneCell' = true ∧ RSV w S rt rv (.at id ver p) v
  | .undef, σ, cs => cs.length = σ.size ∧ ∀ u ∈ cs, u.oneCell' = true
  | _, _, _ => False
def BRepL : List SV → Ty → List Value → Prop
  | [v], .one f, cs => BRep v f cs
  | v :: vs, .pair f r, cs => BRep v f (cs.take f.size) ∧ BRepL vs r (cs.drop f.size)
  | [v], .int k, cs => BRep v (.int k) cs
  | [v], .bool, cs => BRep v .bool cs
  | [v], .str, cs => BRep v .str cs
  | [v], .list e, cs => BRep v (.list e) cs
  | _, _, _ => False
end
end

/-- Where a function began. -/
structure Ctx where
  w0 : World
  Fin : Fp
  S0 : Fp
  fix : Nat → Option Value := fun _ => .none
  /-- what stands in the program's own variables, as it was laid -/
  gl : World → Fp → Prop := fun _ _ => True

/-- what was laid stays: it stands in blocks that nobody writes -/
def Ctx.Ok (C : Ctx) : Prop := (∀ b, C.S0 b → b < C.w0.heap.size ∧ ¬ C.Fin b) ∧ C.gl C.w0 C.S0 ∧
  ∀ (w w' : World) (S S' : Fp), C.gl w S → (∀ b, S b → S' b) → (∀ b, S b → w'.heap[b]? = w.heap[b]?) → C.gl w' S'

/-- A root out of which a slice is taken: laid anew, it is whole. -/
def Hole (w : World) (S : Fp) (v : Value) (r : Root) (p : List Step) (F : Fp) : Prop :=
  ∃ (e : Ty) (b o q : Nat) (arr : Array Value), nix p = 1 ∧ 1 ≤ r.d ∧ walkV w v r.τ p = some (.list e, b, o) ∧ Own q w b arr ∧ o + 1 ≤ arr.size ∧ F b ∧ (∀ b', F b' → b' < w.heap.size) ∧ (∃ y0, getP (.list r.τ) r.xs p = some ⟨.list e, y0⟩) ∧
    ∀ (w' : World) (S' : Fp) (arr' : Array Value) (y' : List e.den) (Fs' : Fp), (∀ b', S b' → S' b') → (∀ b', (F b' ∧ b' ≠ b) ∨ S b' → w'.heap[b']? = w.heap[b']?) → arr'.size = arr.size →
      (∀ i, i ≠ o → arr'[i]? = arr[i]?) → Own q w' b arr' → rep w' S' (.list e) r.d y' (seg arr' o 1) Fs' → (∀ b', F b' → ¬ Fs' b') →
      ∃ x', setP (.list r.τ) r.xs p ⟨.list e, y'⟩ = some x' ∧ rep w' S' (.list r.τ) (r.d + 1) x' [v] (fun b' => F b' ∨ Fs' b')

structure Mem (C : Ctx) (rt : Nat → RSt) (rv : Nat → Value) (F : Nat → Fp) (S G : Fp) (w : World) : Prop where
  live : ∀ id r, rt id = .live r → rep w S (.list r.τ) (r.d + 1) r.xs [rv id] (F id)
  frz : ∀ id τ xs, rt id = .frz τ xs → rep w S (.list τ) 0 xs [rv id] (fun _ => False)
  box : ∀ id σ c, rt id = .box σ c → ∃ b arr, rv id = .pointer (some ⟨b, 0, none⟩) ∧ Own 1 w b arr ∧ arr.size = σ.size ∧ (∀ b', F id b' ↔ b' = b) ∧ BRep w S rt rv c σ arr.toList
  hole : ∀ id r p, rt id = .hole r p → Hole w S (rv id) r p (F id)
  none : ∀ id b, F id b → (∃ r, rt id = .live r) ∨ (∃ σ c, rt id = .box σ c) ∨ ∃ r p, rt id = .hole r p
  dis : ∀ i j b, F i b → F j b → i = j
  sep : ∀ i b, F i b → ¬ S b ∧ ¬ G b
  gsep : ∀ b, G b → ¬ S b
  glt : ∀ b, G b → b < w.heap.size
  slt : ∀ b, S b → b < w.heap.size
  same : Same C.w0 w
  size : C.w0.heap.size ≤ w.heap.size
  frame : ∀ b, b < C.w0.heap.size → ¬ C.Fin b → w.heap[b]? = C.w0.heap[b]?
  own : ∀ i b, F i b ∨ G b → C.Fin b ∨ C.w0.heap.size ≤ b
  s0 : ∀ b, C.S0 b → S b
  shr : ∀ b, S b → C.S0 b ∨ C.Fin b ∨ C.w0.heap.size ≤ b
  ok : C.Ok

theorem Mem.glob {C : Ctx} {rt : Nat → RSt} {rv : Nat → Value} {F : Nat → Fp} {S G : Fp} {w : World} (m : Mem C rt rv F S G w) : C.gl w S :=
  m.ok.2.2 _ _ _ _ m.ok.2.1 m.s0 fun b hb => m.frame b (m.ok.1 b hb).1 (m.ok.1 b hb).2

theorem Mem.lt {C : Ctx} {rt : Nat → RSt} {rv : Nat → Value} {F : Nat → Fp} {S G : Fp} {w : World} (m : Mem C rt rv F S G w) {i b : Nat} (h : F i b) : b < w.heap.size := by
  rcases m.none i b h with ⟨r, hr⟩ | ⟨σ, c, hr⟩ | ⟨r, p, hr⟩
  · exact rep_lt (m.live i r hr) b h
  · obtain ⟨b', arr, _, h1, _, h2, _⟩ := m.box i σ c hr
    rw [(h2 b).1 h]
    exact h1.has.lt
  · obtain ⟨e, b0, o, qk, arr, _, _, _, _, _, _, hl, _, _⟩ := m.hole i r p hr
    exact hl b h

structure Rel (C : Ctx) (s : St) (tm : Array Value) (rv : Nat → Value) (F : Nat → Fp) (S G : Fp) (w : World) : Prop where
  mem : Mem C s.rt rv F S G w
  slots : ∀ i, RSV w S s.rt rv (s.sl i) (tm.getD i undef)

/-- What keeps the slots as they are. -/
structure Keep (w : World) (S : Fp) (rt : Nat → RSt) (rv : Nat → Value) (w' : World) (S' : Fp) (rt' : Nat → RSt) (rv' : Nat → Value) : Prop where
  shr : ∀ b, S b → S' b
  heap : ∀ b, S b → w'.heap[b]? = w.heap[b]?
  krv : ∀ id, rt id ≠ .none → rv' id = rv id
  ksome : ∀ id, rt id ≠ .none → rt' id ≠ .none
  live : ∀ id r', rt' id = .live r' → rt id ≠ .none → (∃ r, rt id = .live r ∧ r'.τ = r.τ ∧ (r'.ver = r.ver → r'.d = r.d) ∧ r.ver ≤ r'.ver ∧
    (r'.ver = r.ver → ∀ p σ b o, nix p ≤ r.d + 1 → walkV w (rv id) r.τ p = some (σ, b, o) → walkV w' (rv id) r.τ p = some (σ, b, o) ∧
      (nix p ≤ r.d → ∀ e v, σ = .list e → w.cell? ⟨b, o, none⟩ = some v → w'.cell? ⟨b, o, none⟩ = some v))) ∨ ∃ r q, rt id = .hole r q ∧ r'.τ = r.τ ∧ r.ver < r'.ver
  hole : ∀ id r q, rt' id = .hole r q → rt id ≠ .none → ∃ r0, (rt id = .live r0 ∨ ∃ q, rt id = .hole r0 q) ∧ r.τ = r0.τ ∧ r0.ver ≤ r.ver
  frz : ∀ id τ xs, rt' id = .frz τ xs → rt id ≠ .none → rt id = .frz τ xs ∨ (∃ r, rt id = .live r) ∨ ∃ r q, rt id = .hole r q
  kbox : ∀ id σ c, rt' id = .box σ c → rt id ≠ .none → ∃ c', rt id = .box σ c'

/-- a walk through one slice reads no cell -/
theorem walk_none {w w' : World} : ∀ {p : List Step} {τ : Ty} {b o : Nat}, nix p = 0 → walk w' τ b o p = walk w τ b o p
  | [], τ, b, o, _ => by simp [walk]
  | .fl k :: p, τ, b, o, h => by
    have e : ∀ w, walk w τ b o (.fl k :: p) = match τ.fldOff k with | some (σ, δ) => walk w σ b (o + δ) p | none => none := by intro w; cases τ <;> rfl
    rw [e, e]
    split
    · exact walk_none h
    · rfl
  | .ix i :: p, _, _, _, h => by simp [nix] at h

theorem walkV_one {w w' : World} {v : Value} {e : Ty} : ∀ {p : List Step}, nix p ≤ 1 → walkV w' v e p = walkV w v e p
  | [], _ => rfl
  | .fl _ :: _, _ => rfl
  | .ix i :: p, h => by
    simp only [nix] at h
    simp only [walkV]
    split
    · rw [walk_none (w := w) (w' := w') (by omega)]
    · rfl

theorem Hole.frame {w w' : World} {S S' : Fp} {v : Value} {r : Root} {p : List Step} {F F' : Fp} (h : Hole w S v r p F) (hF : ∀ b, F' b ↔ F b) (hS : ∀ b, S b → S' b) (hsz : w.heap.size ≤ w'.heap.size)
    (hw : ∀ b, F b ∨ S b → w'.heap[b]? = w.heap[b]?) : Hole w' S' v r p F' := by
  obtain ⟨e, b, o, qk, arr, h1, h2, h3, h4, h5, h6, h7, hg, h8⟩ := h
  refine ⟨e, b, o, qk, arr, h1, h2, by rw [walkV_one (w := w) (by omega)]; exact h3, h4.of_eq (hw b (.inl h6)), h5, (hF b).2 h6, fun b' hb => Nat.lt_of_lt_of_le (h7 b' ((hF b').1 hb)) hsz, hg, ?_⟩
  intro w2 S2 arr' y' Fs' k1 k2 k3 k4 k5 k6 k7
  obtain ⟨x', g1, g2⟩ := h8 w2 S2 arr' y' Fs' (fun b hb => k1 b (hS b hb)) (fun b' hb => by
    rcases hb with ⟨hb, hne⟩ | hb
    · exact (k2 b' (.inl ⟨(hF b').2 hb, hne⟩)).trans (hw b' (.inl hb))
    · exact (k2 b' (.inr (hS b' hb))).trans (hw b' (.inr hb))) k3 k4 k5 k6 (fun b' hb => k7 b' ((hF b').2 hb))
  exact ⟨x', g1, rep_iff g2 fun b' => by rw [hF]⟩

theorem Keep.refl (w : World) (S : Fp) (rt : Nat → RSt) (rv : Nat → Value) : Keep w S rt rv w S rt rv :=
  ⟨fun _ h => h, fun _ _ => rfl, fun _ _ => rfl, fun _ h => h, fun id r h _ => .inl ⟨r, h, rfl, fun _ => rfl, Nat.le_refl _, fun _ p σ b o _ h => ⟨h, fun _ _ _ _ h => h⟩⟩, fun id r q h _ => ⟨r, .inr ⟨q, h⟩, rfl, Nat.le_refl _⟩, fun _ _ _ h _ => .inl h, fun _ _ c h _ => ⟨c, h⟩⟩

theorem Keep.trans {w1 w2 w3 : World} {S1 S2 S3 : Fp} {rt1 rt2 rt3 : Nat → RSt} {rv1 rv2 rv3 : Nat → Value}
    (a : Keep w1 S1 rt1 rv1 w2 S2 rt2 rv2) (b : Keep w2 S2 rt2 rv2 w3 S3 rt3 rv3) : Keep w1 S1 rt1 rv1 w3 S3 rt3 rv3 where
  shr := fun x h => b.shr x (a.shr x h)
  heap := fun x h => (b.heap x (a.shr x h)).trans (a.heap x h)
  krv := fun id h => (b.krv id (a.ksome id h)).trans (a.krv id h)
  ksome := fun id h => b.ksome id (a.ksome id h)
  live := fun id r3 h3 h => by
    rcases b.live id r3 h3 (a.ksome id h) with ⟨r2, h2, e1, e2, e3, k2⟩ | ⟨r2, q2, h2, e1, e3⟩
    · rcases a.live id r2 h2 h with ⟨r1, h1, f1, f2, f3, k1⟩ | ⟨r1, q1, h1, f1, f3⟩
      · refine .inl ⟨r1, h1, e1.trans f1, fun hv => (e2 (by omega)).trans (f2 (by omega)), Nat.le_trans f3 e3, fun hv p σ x o hn hw => ?_⟩
        have f2 := f2 (by omega)
        obtain ⟨q1, q2⟩ := k1 (by omega) p σ x o hn hw
        have hk := k2 (by omega) p σ x o (by rw [f2]; exact hn) (by rw [f1, a.krv id h]; exact q1)
        rw [f1, a.krv id h, f2] at hk
        exact ⟨hk.1, fun hn' e v he hc => hk.2 hn' e v he (q2 hn' e v he hc)⟩
      · exact .inr ⟨r1, q1, h1, e1.trans f1, by omega⟩
    · obtain ⟨r1, h1, f1, f3⟩ := a.hole id r2 q2 h2 h
      rcases h1 with h1 | ⟨q1, h1⟩
      · exact .inl ⟨r1, h1, e1.trans f1, fun hv => by omega, by omega, fun hv => by omega⟩
      · exact .inr ⟨r1, q1, h1, e1.trans f1, by omega⟩
  hole := fun id r3 q3 h3 h => by
    obtain ⟨r2, h2, e1, e2⟩ := b.hole id r3 q3 h3 (a.ksome id h)
    rcases h2 with h2 | ⟨q2, h2⟩
    · rcases a.live id r2 h2 h with ⟨r1, h1, f1, f2, f3, k1⟩ | ⟨r1, q1, h1, f1, f3⟩
      · exact ⟨r1, .inl h1, e1.trans f1, by omega⟩
      · exact ⟨r1, .inr ⟨q1, h1⟩, e1.trans f1, by omega⟩
    · obtain ⟨r1, h1, f1, f3⟩ := a.hole id r2 q2 h2 h
      exact ⟨r1, h1, e1.trans f1, by omega⟩
  frz := fun id τ xs h3 h => by
    rcases b.frz id τ xs h3 (a.ksome id h) with h2 | ⟨r, h2⟩ | ⟨r, q, h2⟩
    · exact a.frz id τ xs h2 h
    · rcases a.live id r h2 h with ⟨r1, h1, _⟩ | ⟨r1, q1, h1, _⟩
      · exact .inr (.inl ⟨r1, h1⟩)
      · exact .inr (.inr ⟨r1, q1, h1⟩)
    · obtain ⟨r1, h1, _⟩ := a.hole id r q h2 h
      rcases h1 with h1 | ⟨q1, h1⟩
      · exact .inr (.inl ⟨r1, h1⟩)
      · exact .inr (.inr ⟨r1, q1, h1⟩)
  kbox := fun id σ c h3 h => by
    obtain ⟨c2, h2⟩ := b.kbox id σ c h3 (a.ksome id h)
    exact a.kbox id σ c2 h2 h

section
variable {w w' : World} {S S' : Fp} {rt rt' : Nat → RSt} {rv rv' : Nat → Value}

theorem RAt_keep (k : Keep w S rt rv w' S' rt' rv') {id ver : Nat} {p : List Step} {v : Value} (h : RAt w rt rv id ver p v) : RAt w' rt' rv' id ver p v := by
  have hn : rt id ≠ .none := fun e => by unfold RAt at h; rw [e] at h; exact h
  have hrv := k.krv id hn
  unfold RAt
  cases hr : rt' id with
  | none => exact absurd hr (k.ksome id hn)
  | dead => trivial
  | frz τ xs =>
    intro hp
    rw [hrv]
    rcases k.frz id τ xs hr hn with h0 | ⟨r, h0⟩ | ⟨r, q, h0⟩
    · unfold RAt at h; rw [h0] at h; exact h hp
    · unfold RAt at h; rw [h0] at h; exact (h.2.1 (by rw [hp]; rfl)).2
    · unfold RAt at h; rw [h0] at h; exact (h.2 (by rw [hp]; rfl)).2
  | hole r' q' =>
    obtain ⟨r, h0, e1, e2⟩ := k.hole id r' q' hr hn
    unfold RAt at h
    rcases h0 with h0 | ⟨q, h0⟩
    · rw [h0] at h; exact ⟨by have := h.1; omega, fun hp => by rw [hrv]; exact h.2.1 hp⟩
    · rw [h0] at h; exact ⟨by have := h.1; omega, fun hp => by rw [hrv]; exact h.2 hp⟩
  | live r' =>
    rcases k.live id r' hr hn with ⟨r, h0, e1, e2, e3, kl⟩ | ⟨r, q, h0, e1, e3⟩
    · unfold RAt at h
      rw [h0] at h
      refine ⟨Nat.le_trans h.1 e3, fun hp => by rw [hrv]; exact h.2.1 hp, fun hp hv => ?_⟩
      obtain ⟨hnx, e, b, o, hw, hc⟩ := h.2.2 hp (by have := h.1; omega)
      obtain ⟨q1, q2⟩ := kl (by have := h.1; omega) p _ b o (by omega) hw
      exact ⟨by rw [e2 (by have := h.1; omega)]; exact hnx, e, b, o, by rw [hrv, e1]; exact q1, q2 hnx e v rfl hc⟩
    · unfold RAt at h
      rw [h0] at h
      exact ⟨by have := h.1; omega, fun hp => by rw [hrv]; exact h.2 hp, fun hp hv => by have := h.1; omega⟩
  | box σ c => trivial

theorem RPtr_keep (k : Keep w S rt rv w' S' rt' rv') {id ver : Nat} {p : List Step} {σ : Ty} {v : Value} (h : RPtr w rt rv id ver p σ v) : RPtr w' rt' rv' id ver p σ v := by
  have hn : rt id ≠ .none := fun e => by unfold RPtr at h; rw [e] at h; exact h.2
  have hrv := k.krv id hn
  unfold RPtr at h ⊢
  obtain ⟨hpo, h⟩ := h
  refine ⟨hpo, ?_⟩
  cases hr : rt' id with
  | none => exact absurd hr (k.ksome id hn)
  | dead => trivial
  | frz τ xs => trivial
  | hole r' q' =>
    obtain ⟨r, h0, e1, e2⟩ := k.hole id r' q' hr hn
    rcases h0 with h0 | ⟨q, h0⟩
    · rw [h0] at h
      refine ⟨by have := h.1; omega, fun hp => ?_⟩
      obtain ⟨_, b, o, hw, hc⟩ := h.2 (.inl hp)
      exact ⟨b, o, by rw [hrv, e1, walkV_one (w := w) hp]; exact hw, hc⟩
    · rw [h0] at h
      refine ⟨by have := h.1; omega, fun hp => ?_⟩
      obtain ⟨b, o, hw, hc⟩ := h.2 hp
      exact ⟨b, o, by rw [hrv, e1, walkV_one (w := w) hp]; exact hw, hc⟩
  | live r' =>
    rcases k.live id r' hr hn with ⟨r, h0, e1, e2, e3, kl⟩ | ⟨r, q, h0, e1, e3⟩
    · rw [h0] at h
      refine ⟨Nat.le_trans h.1 e3, fun hp => ?_⟩
      by_cases h1 : nix p ≤ 1
      · obtain ⟨hnx, b, o, hw, hc⟩ := h.2 (.inl h1)
        exact ⟨by omega, b, o, by rw [hrv, e1, walkV_one (w := w) h1]; exact hw, hc⟩
      · have hv : r'.ver = ver := hp.resolve_left h1
        obtain ⟨hnx, b, o, hw, hc⟩ := h.2 (.inr (by have := h.1; omega))
        obtain ⟨q1, _⟩ := kl (by have := h.1; omega) p _ b o hnx hw
        exact ⟨by rw [e2 (by have := h.1; omega)]; exact hnx, b, o, by rw [hrv, e1]; exact q1, hc⟩
    · rw [h0] at h
      refine ⟨by have := h.1; omega, fun hp => ?_⟩
      have h1 : nix p ≤ 1 := hp.resolve_right (by have := h.1; omega)
      obtain ⟨b, o, hw, hc⟩ := h.2 h1
      exact ⟨by omega, b, o, by rw [hrv, e1, walkV_one (w := w) h1]; exact hw, hc⟩
  | box σ c => trivial

theorem RBp_keep (k : Keep w S rt rv w' S' rt' rv') {id : Nat} {p : List Nat} {v : Value} (h : RBp rt rv id p v) : RBp rt' rv' id p v := by
  have hn : rt id ≠ .none := fun e => by unfold RBp at h; rw [e] at h; exact h
  have hrv := k.krv id hn
  unfold RBp
  cases hr : rt' id with
  | none => exact absurd hr (k.ksome id hn)
  | box σ c =>
    obtain ⟨c', h0⟩ := k.kbox id σ c hr hn
    unfold RBp at h
    rw [h0] at h
    rw [hrv]
    exact h
  | _ => trivial

theorem RSp_keep (k : Keep w S rt rv w' S' rt' rv') {τ : Ty} {x : τ.den} {v : Value} (h : RSp w S τ x v) : RSp w' S' τ x v := by
  obtain ⟨b, o, arr, h1, h2, h3, h4, h5⟩ := h
  exact ⟨b, o, arr, h1, k.shr b h2, h3.of_eq (k.heap b h2), h4, rep_frame k.shr k.heap (fun _ h => h.elim) h5⟩

mutual
theorem RSV_keep (k : Keep w S rt rv w' S' rt' rv') : ∀ (sv : SV) (v : Value), RSV w S rt rv sv v → RSV w' S' rt' rv' sv v
  | .val τ x, v, h => by
    simp only [RSV] at h ⊢
    obtain ⟨cs, h1, h2⟩ := h
    exact ⟨cs, rep_frame k.shr k.heap (fun _ h => h.elim) h1, h2⟩
  | .nil, v, h => by simp only [RSV] at h ⊢; exact h
  | .at id ver p, v, h => by simp only [RSV] at h ⊢; exact RAt_keep k h
  | .ptr id ver p σ, v, h => by simp only [RSV] at h ⊢; exact RPtr_keep k h
  | .sp τ x, v, h => by simp only [RSV] at h ⊢; exact RSp_keep k h
  | .bp id p, v, h => by simp only [RSV] at h ⊢; exact RBp_keep k h
  | .agg vs, v, h => by
    simp only [RSV] at h ⊢
    obtain ⟨us, h1, h2⟩ := h
    exact ⟨us, RSVs_keep k vs us h1, h2⟩
  | .tup vs, v, h => by
    simp only [RSV] at h ⊢
    obtain ⟨us, h1, h2⟩ := h
    exact ⟨us, RSVs_keep k vs us h1, h2⟩
  | .fn f vs, v, h => by
    simp only [RSV] at h ⊢
    obtain ⟨us, h1, h2⟩ := h
    exact ⟨us, RSVs_keep k vs us h1, h2⟩
  | .undef, v, h => by simp only [RSV]
theorem RSVs_keep (k : Keep w S rt rv w' S' rt' rv') : ∀ (vs : List SV) (us : List Value), RSVs w S rt rv vs us → RSVs w' S' rt' rv' vs us
  | [], us, h => by simp only [RSVs] at h ⊢; exact h
  | v :: vs, us, h => by
    simp only [RSVs] at h ⊢
    obtain ⟨u, us', h1, h2, h3⟩ := h
    exact ⟨u, us', h1, RSV_keep k v u h2, RSVs_keep k vs us' h3⟩
end

mutual
theorem BRep_keep (k : Keep w S rt rv w' S' rt' rv') : ∀ (v : SV) (σ : Ty) (cs : List Value), BRep w S rt rv v σ cs → BRep w' S' rt' rv' v σ cs
  | .agg vs, σ, cs, h => by simp only [BRep] at h ⊢; exact ⟨h.1, BRepL_keep k vs σ cs h.2⟩
  | .val τ x, σ, cs, h => by simp only [BRep] at h ⊢; exact ⟨h.1, h.2.1, RSV_keep k _ _ h.2.2⟩
  | .nil, σ, cs, h => by simp only [BRep] at h ⊢; exact h
  | .at id ver p, σ, cs, h => by
    simp only [BRep] at h ⊢
    obtain ⟨h1, v, h2, h3, h4⟩ := h
    exact ⟨h1, v, h2, h3, RSV_keep k _ _ h4⟩
  | .ptr _ _ _ _, _, _, h | .sp _ _, _, _, h | .bp _ _, _, _, h | .tup _, _, _, h | .fn _ _, _, _, h => by simp [BRep] at h
  | .undef, σ, cs, h => by simp only [BRep] at h ⊢; exact h
theorem BRepL_keep (k : Keep w S rt rv w' S' rt' rv') : ∀ (vs : List SV) (σ : Ty) (cs : List Value), BRepL w S rt rv vs σ cs → BRepL w' S' rt' rv' vs σ cs
  | [], σ, cs, h => by simp [BRepL] at h
  | v :: vs, .pair f r, cs, h => by
    have e : ∀ w S rt rv, BRepL w S rt rv (v :: vs) (.pair f r) cs = (BRep w S rt rv v f (cs.take f.size) ∧ BRepL w S rt rv vs r (cs.drop f.size)) := by intros; cases vs <;> simp [BRepL]
    rw [e] at h ⊢
    exact ⟨BRep_keep k v f _ h.1, BRepL_keep k vs r _ h.2⟩
  | [v], .one f, cs, h => by simp only [BRepL] at h ⊢; exact BRep_keep k v f cs h
  | [v], .int _, cs, h => by simp only [BRepL] at h ⊢; exact BRep_keep k v _ cs h
  | [v], .bool, cs, h => by simp only [BRepL] at h ⊢; exact BRep_keep k v _ cs h
  | [v], .str, cs, h => by simp only [BRepL] at h ⊢; exact BRep_keep k v _ cs h
  | [v], .list _, cs, h => by simp only [BRepL] at h ⊢; exact BRep_keep k v _ cs h
  | _ :: _ :: _, .one _, cs, h | _ :: _ :: _, .int _, cs, h | _ :: _ :: _, .bool, cs, h | _ :: _ :: _, .str, cs, h | _ :: _ :: _, .list _, cs, h => by simp [BRepL] at h
end
end
end Go.Abs
set_option linter.unusedVariables false
set_option linter.unusedSimpArgs false
namespace Go.Abs
open Go

abbrev RL := List (Nat × RSt)

def taken (l : RL) (F : Nat → Fp) : Fp := fun b => ∃ id st, (id, st) ∈ l ∧ F id b
def ids (l : RL) : List Nat := l.map (·.1)

theorem putRs_sl : ∀ (l : RL) (s : St), (putRs l s).sl = s.sl
  | [], _ => rfl
  | (i, r) :: l, s => by rw [putRs, putRs_sl l]; rfl

theorem putRs_other : ∀ (l : RL) (s : St) (j : Nat), j ∉ ids l → (putRs l s).rt j = s.rt j
  | [], _, _, _ => rfl
  | (i, r) :: l, s, j, h => by
    simp [put_sl, put_rt, putR_sl, putR_rt, ids] at h
    rw [putRs, putRs_other l _ j (by simpa [put_sl, put_rt, putR_sl, putR_rt, ids] using h.2)]
    simp [put_sl, put_rt, putR_sl, putR_rt, h.1]

theorem putRs_mem : ∀ (l : RL) (s : St) (j : Nat) (st : RSt), (ids l).Nodup → (j, st) ∈ l → (putRs l s).rt j = st
  | (i, r) :: l, s, j, st, hn, h => by
    simp [put_sl, put_rt, putR_sl, putR_rt, ids] at hn
    rw [putRs]
    rcases List.mem_cons.1 h with h | h
    · cases h
      rw [putRs_other l _ _ (by simpa [put_sl, put_rt, putR_sl, putR_rt, ids] using hn.1)]
      simp [put_sl, put_rt, putR_sl, putR_rt]
    · exact putRs_mem l _ j st hn.2 h

theorem putRs_app : ∀ (l m : RL) (s : St), putRs (l ++ m) s = putRs m (putRs l s)
  | [], _, _ => rfl
  | (i, r) :: l, m, s => by simp only [List.cons_append, putRs]; exact putRs_app l m _

theorem mem_ids {l : RL} {i : Nat} : i ∈ ids l ↔ ∃ st, (i, st) ∈ l := by simp [put_sl, put_rt, putR_sl, putR_rt, ids]

theorem apartIds_spec {l m : RL} (h : apartIds l m = true) : ∀ i, i ∈ ids l → i ∉ ids m := by
  intro i hi hm
  obtain ⟨a, ha⟩ := mem_ids.1 hi
  obtain ⟨b, hb⟩ := mem_ids.1 hm
  have := List.all_eq_true.1 (List.all_eq_true.1 h _ ha) _ hb
  simp [put_sl, put_rt, putR_sl, putR_rt] at this

theorem nodup_app {l m : RL} (hl : (ids l).Nodup) (hm : (ids m).Nodup) (h : apartIds l m = true) : (ids (l ++ m)).Nodup := by
  simp only [ids, List.map_append]
  exact List.nodup_append.2 ⟨hl, hm, fun i hi j hj e => apartIds_spec h i hi (e ▸ hj)⟩

/-- What is taken is live. -/
def Takes (rt : Nat → RSt) (l : RL) : Prop := ∀ id st, (id, st) ∈ l → ∃ r, rt id = .live r ∧ (st = .dead ∨ st = .frz r.τ r.xs)

theorem Takes.app {rt : Nat → RSt} {l m : RL} (h : Takes rt l) (k : Takes rt m) : Takes rt (l ++ m) := fun id st hm => (List.mem_append.1 hm).elim (h id st) (k id st)

/-- the blocks that go on as owned, and those that nobody writes any more -/
structure Split (l : RL) (F : Nat → Fp) (Fl Sl : Fp) : Prop where
  fl : ∀ b, Fl b → taken l F b
  sl : ∀ b, Sl b → taken l F b
  apart : ∀ b, Fl b → ¬ Sl b
  frz : ∀ id τ xs, (id, .frz τ xs) ∈ l → ∀ b, F id b → Sl b

theorem taken_app {l m : RL} {F : Nat → Fp} {b : Nat} : taken (l ++ m) F b ↔ taken l F b ∨ taken m F b := by
  constructor
  · rintro ⟨id, st, hm, hb⟩
    exact (List.mem_append.1 hm).imp (fun h => ⟨id, st, h, hb⟩) (fun h => ⟨id, st, h, hb⟩)
  · rintro (⟨id, st, hm, hb⟩ | ⟨id, st, hm, hb⟩)
    · exact ⟨id, st, List.mem_append_left _ hm, hb⟩
    · exact ⟨id, st, List.mem_append_right _ hm, hb⟩

theorem taken_apart {C : Ctx} {rt : Nat → RSt} {rv : Nat → Value} {F : Nat → Fp} {S G : Fp} {w : World} (m : Mem C rt rv F S G w) {l k : RL} (h : apartIds l k = true) {b : Nat}
    (hl : taken l F b) (hk : taken k F b) : False := by
  obtain ⟨i, s, hi, hb⟩ := hl
  obtain ⟨j, t, hj, hc⟩ := hk
  have := m.dis i j b hb hc
  subst this
  exact apartIds_spec h i (mem_ids.2 ⟨s, hi⟩) (mem_ids.2 ⟨t, hj⟩)

theorem Split.app {C : Ctx} {rt : Nat → RSt} {rv : Nat → Value} {F : Nat → Fp} {S G : Fp} {w : World} (m : Mem C rt rv F S G w) {l k : RL} (h : apartIds l k = true)
    {A B A' B' : Fp} (a : Split l F A B) (a' : Split k F A' B') : Split (l ++ k) F (fun b => A b ∨ A' b) (fun b => B b ∨ B' b) where
  fl := fun b hb => taken_app.2 (hb.imp (a.fl b) (a'.fl b))
  sl := fun b hb => taken_app.2 (hb.imp (a.sl b) (a'.sl b))
  apart := by
    rintro b (hb | hb) (hc | hc)
    · exact a.apart b hb hc
    · exact taken_apart m h (a.fl b hb) (a'.sl b hc)
    · exact taken_apart m h (a.sl b hc) (a'.fl b hb)
    · exact a'.apart b hb hc
  frz := fun id τ xs hm b hb => (List.mem_append.1 hm).imp (fun hm => a.frz id τ xs hm b hb) (fun hm => a'.frz id τ xs hm b hb)

theorem Split.nil (F : Nat → Fp) : Split [] F (fun _ => False) (fun _ => False) :=
  ⟨fun _ h => h.elim, fun _ h => h.elim, fun _ h => h.elim, fun _ _ _ h => by cases h⟩

/-- Roots end or are frozen. -/
theorem consume {C : Ctx} {s : St} {rv : Nat → Value} {F : Nat → Fp} {S G : Fp} {w : World} (m : Mem C s.rt rv F S G w) {l : RL} (hn : (ids l).Nodup) (ht : Takes s.rt l)
    {Fl Sl : Fp} (sp : Split l F Fl Sl) :
    Mem C (putRs l s).rt rv (fun i b => F i b ∧ i ∉ ids l) (fun b => S b ∨ Sl b) (fun b => G b ∨ Fl b) w ∧ Keep w S s.rt rv w (fun b => S b ∨ Sl b) (putRs l s).rt rv := by
  have hin : ∀ {i}, i ∈ ids l → (∃ st, (putRs l s).rt i = st ∧ (i, st) ∈ l ∧ (st = .dead ∨ ∃ r, s.rt i = .live r ∧ st = .frz r.τ r.xs)) := by
    intro i hi
    obtain ⟨st, hst⟩ := mem_ids.1 hi
    obtain ⟨r, hr, hd⟩ := ht i st hst
    exact ⟨st, putRs_mem l s i st hn hst, hst, hd.imp id fun h => ⟨r, hr, h⟩⟩
  have hlive : ∀ id r, (putRs l s).rt id = .live r → id ∉ ids l ∧ s.rt id = .live r := by
    intro id r h
    by_cases hi : id ∈ ids l
    · obtain ⟨st, h1, h2, h3⟩ := hin hi
      rw [h] at h1
      subst h1
      rcases h3 with h3 | ⟨r', _, h3⟩ <;> cases h3
    · exact ⟨hi, by rw [← putRs_other l s id hi]; exact h⟩
  have htk : ∀ {b}, taken l F b → ∀ i, F i b → i ∈ ids l := by
    rintro b ⟨j, st, hj, hb⟩ i hi
    rw [m.dis i j b hi hb]
    exact mem_ids.2 ⟨st, hj⟩
  have hbox : ∀ id σ c, (putRs l s).rt id = .box σ c → id ∉ ids l ∧ s.rt id = .box σ c := by
    intro id σ c h
    by_cases hi : id ∈ ids l
    · obtain ⟨st, h1, h2, h3⟩ := hin hi
      rw [h] at h1
      subst h1
      rcases h3 with h3 | ⟨r', _, h3⟩ <;> cases h3
    · exact ⟨hi, by rw [← putRs_other l s id hi]; exact h⟩
  have hhole : ∀ id r q, (putRs l s).rt id = .hole r q → id ∉ ids l ∧ s.rt id = .hole r q := by
    intro id r q h
    by_cases hi : id ∈ ids l
    · obtain ⟨st, h1, h2, h3⟩ := hin hi
      rw [h] at h1
      subst h1
      rcases h3 with h3 | ⟨r', _, h3⟩ <;> cases h3
    · exact ⟨hi, by rw [← putRs_other l s id hi]; exact h⟩
  have K : Keep w S s.rt rv w (fun b => S b ∨ Sl b) (putRs l s).rt rv := by
    refine ⟨fun b hb => .inl hb, fun _ _ => rfl, fun _ _ => rfl, fun id h => ?_, fun id r' h hn' => ?_, fun id r q h hn' => ⟨r, .inr ⟨q, (hhole id r q h).2⟩, rfl, Nat.le_refl _⟩, fun id τ xs h hn' => ?_, fun id σ c h _ => ⟨c, (hbox id σ c h).2⟩⟩
    · by_cases hi : id ∈ ids l
      · obtain ⟨st, h1, h2, h3⟩ := hin hi
        rw [h1]
        rcases h3 with rfl | ⟨r, _, rfl⟩ <;> simp [put_sl, put_rt, putR_sl, putR_rt]
      · rw [putRs_other l s id hi]; exact h
    · obtain ⟨h1, h2⟩ := hlive id r' h
      exact .inl ⟨r', h2, rfl, fun _ => rfl, Nat.le_refl _, fun _ p σ b o _ hw => ⟨hw, fun _ _ _ _ h => h⟩⟩
    · by_cases hi : id ∈ ids l
      · obtain ⟨st, h1, h2, h3⟩ := hin hi
        rw [h] at h1
        subst h1
        rcases h3 with h3 | ⟨r, hr, h3⟩
        · cases h3
        · exact .inr (.inl ⟨r, hr⟩)
      · rw [putRs_other l s id hi] at h
        exact .inl h

  refine ⟨?_, K⟩
  · constructor
    · intro id r h
      obtain ⟨h1, h2⟩ := hlive id r h
      exact rep_iff (rep_mono (fun b hb => .inl hb) (m.live id r h2)) fun b => ⟨fun h => h.1, fun h => ⟨h, h1⟩⟩
    · intro id τ xs h
      by_cases hi : id ∈ ids l
      · obtain ⟨st, h1, h2, h3⟩ := hin hi
        rw [h] at h1
        subst h1
        rcases h3 with h3 | ⟨r, hr, h3⟩
        · cases h3
        · cases h3
          exact rep_mono (fun b hb => hb.imp (fun h => h) fun hb => sp.frz id _ _ h2 b hb) (rep_freeze (m.live id r hr))
      · rw [putRs_other l s id hi] at h
        exact rep_mono (fun b hb => .inl hb) (m.frz id τ xs h)
    · intro id σ c h
      obtain ⟨h1, h2⟩ := hbox id σ c h
      obtain ⟨b, arr, q1, q2, q3, q4, q6⟩ := m.box id σ c h2
      exact ⟨b, arr, q1, q2, q3, fun b' => ⟨fun h => (q4 b').1 h.1, fun h => ⟨(q4 b').2 h, h1⟩⟩, BRep_keep K _ _ _ q6⟩
    · intro id r q h
      obtain ⟨h1, h2⟩ := hhole id r q h
      exact (m.hole id r q h2).frame (fun b => ⟨fun h => h.1, fun h => ⟨h, h1⟩⟩) (fun b hb => .inl hb) (Nat.le_refl _) (fun _ _ => rfl)
    · rintro id b ⟨hb, hi⟩
      rcases m.none id b hb with ⟨r, hr⟩ | ⟨σ, c, hr⟩ | ⟨r, q, hr⟩
      · exact .inl ⟨r, by rw [putRs_other l s id hi]; exact hr⟩
      · exact .inr (.inl ⟨σ, c, by rw [putRs_other l s id hi]; exact hr⟩)
      · exact .inr (.inr ⟨r, q, by rw [putRs_other l s id hi]; exact hr⟩)
    · rintro i j b ⟨hb, _⟩ ⟨hc, _⟩
      exact m.dis i j b hb hc
    · rintro i b ⟨hb, hi⟩
      obtain ⟨h1, h2⟩ := m.sep i b hb
      exact ⟨fun h => h.elim h1 fun h => hi (htk (sp.sl b h) i hb), fun h => h.elim h2 fun h => hi (htk (sp.fl b h) i hb)⟩
    · rintro b (hb | hb) (hc | hc)
      · exact m.gsep b hb hc
      · obtain ⟨i, st, _, hi⟩ := sp.sl b hc
        exact (m.sep i b hi).2 hb
      · obtain ⟨i, st, _, hi⟩ := sp.fl b hb
        exact (m.sep i b hi).1 hc
      · exact sp.apart b hb hc
    · rintro b (hb | hb)
      · exact m.glt b hb
      · obtain ⟨i, st, _, hi⟩ := sp.fl b hb
        exact m.lt hi
    · rintro b (hb | hb)
      · exact m.slt b hb
      · obtain ⟨i, st, _, hi⟩ := sp.sl b hb
        exact m.lt hi
    · exact m.same
    · exact m.size
    · exact m.frame
    · rintro i b (⟨hb, _⟩ | hb | hb)
      · exact m.own i b (.inl hb)
      · exact m.own i b (.inr hb)
      · obtain ⟨i, st, _, hi⟩ := sp.fl b hb
        exact m.own i b (.inl hi)
    · exact fun b hb => .inl (m.s0 b hb)
    · rintro b (hb | hb)
      · exact m.shr b hb
      · obtain ⟨i, st, _, hi⟩ := sp.sl b hb
        exact .inr (m.own i b (.inl hi))
    · exact m.ok
/-- A root begins. -/
theorem newRoot {C : Ctx} {rt : Nat → RSt} {rv : Nat → Value} {F : Nat → Fp} {S G : Fp} {w : World} (m : Mem C rt rv F S G w) {id : Nat} (h0 : rt id = .none)
    {w' : World} (hw : ∀ b, ¬ G b → b < w.heap.size → w'.heap[b]? = w.heap[b]?) (hsz : w.heap.size ≤ w'.heap.size) (hsame : Same w w')
    {d ver : Nat} {τ : Ty} {xs : List τ.den} {v : Value} {Fn : Fp} (hr : rep w' S (.list τ) (d + 1) xs [v] Fn) (hF : ∀ b, Fn b → G b ∨ w.heap.size ≤ b) :
    Mem C (fun j => if j = id then .live ⟨d, τ, xs, ver⟩ else rt j) (fun j => if j = id then v else rv j) (fun j b => if j = id then Fn b else F j b) S (fun b => G b ∧ ¬ Fn b) w' ∧
    Keep w S rt rv w' S (fun j => if j = id then .live ⟨d, τ, xs, ver⟩ else rt j) (fun j => if j = id then v else rv j) := by
  have hS : ∀ b, S b → w'.heap[b]? = w.heap[b]? := fun b hb => hw b (fun hg => m.gsep b hg hb) (m.slt b hb)
  have hFi : ∀ i b, F i b → w'.heap[b]? = w.heap[b]? := fun i b hb => hw b (m.sep i b hb).2 (m.lt hb)
  have hno : ∀ b, ¬ F id b := fun b hb => by rcases m.none id b hb with ⟨r, hr⟩ | ⟨σ, c, hr⟩ | ⟨r, q, hr⟩ <;> (rw [h0] at hr; cases hr)
  have hFn : ∀ j b, F j b → ¬ Fn b := by
    intro j b hb hc
    rcases hF b hc with h | h
    · exact (m.sep j b hb).2 h
    · have := m.lt hb; omega
  have K : Keep w S rt rv w' S (fun j => if j = id then .live ⟨d, τ, xs, ver⟩ else rt j) (fun j => if j = id then v else rv j) := by
    refine ⟨fun _ h => h, hS, fun j hj => ?_, fun j hj => ?_, fun j r' h hn => ?_, fun j r q h hn => ?_, fun j τ xs h hn => ?_, fun j σ c h hn => ?_⟩
    · by_cases h : j = id
      · subst h; exact absurd h0 hj
      · simp [put_sl, put_rt, putR_sl, putR_rt, h]
    · by_cases h : j = id
      · simp [put_sl, put_rt, putR_sl, putR_rt, h]
      · simpa [put_sl, put_rt, putR_sl, putR_rt, h] using hj
    · by_cases hj : j = id
      · subst hj; exact absurd h0 hn
      · simp [put_sl, put_rt, putR_sl, putR_rt, hj] at h
        refine .inl ⟨r', h, rfl, fun _ => rfl, Nat.le_refl _, fun _ p σ b o hnx hwk => ?_⟩
        have hrep := m.live j r' h
        obtain ⟨y, hy, qk, arr, Fs, Fr, a1, _, a3, a4, a5, a6, a7, _⟩ := focV hrep hwk hnx
        have hFb : F j b := (a6 b).2 (.inr (.inr ⟨trivial, rfl⟩))
        exact ⟨walkV_frame hrep hwk hnx (hFi j), fun _ e v he hc => by
          have hb := hFi j b hFb
          simp only [World.cell?, hb] at hc ⊢
          exact hc⟩
    · by_cases hj : j = id
      · subst hj; simp [put_sl, put_rt, putR_sl, putR_rt] at h
      · simp [put_sl, put_rt, putR_sl, putR_rt, hj] at h; exact ⟨r, .inr ⟨q, h⟩, rfl, Nat.le_refl _⟩
    · by_cases hj : j = id
      · subst hj; simp [put_sl, put_rt, putR_sl, putR_rt] at h
      · simp [put_sl, put_rt, putR_sl, putR_rt, hj] at h; exact .inl h
    · by_cases hj : j = id
      · subst hj; simp [put_sl, put_rt, putR_sl, putR_rt] at h
      · simp [put_sl, put_rt, putR_sl, putR_rt, hj] at h; exact ⟨c, h⟩
  refine ⟨?_, K⟩
  · constructor
    · intro j r h
      by_cases hj : j = id
      · subst hj
        simp [put_sl, put_rt, putR_sl, putR_rt] at h
        subst h
        simpa using hr
      · simp [put_sl, put_rt, putR_sl, putR_rt, hj] at h ⊢
        exact rep_frame (fun _ h => h) hS (hFi j) (m.live j r h)
    · intro j τ xs h
      by_cases hj : j = id
      · subst hj; simp [put_sl, put_rt, putR_sl, putR_rt] at h
      · simp [put_sl, put_rt, putR_sl, putR_rt, hj] at h ⊢
        exact rep_frame (fun _ h => h) hS (fun _ h => h.elim) (m.frz j τ xs h)
    · intro j σ c h
      by_cases hj : j = id
      · subst hj; simp [put_sl, put_rt, putR_sl, putR_rt] at h
      · simp [put_sl, put_rt, putR_sl, putR_rt, hj] at h
        obtain ⟨b, arr, q1, q2, q3, q4, q6⟩ := m.box j σ c h
        exact ⟨b, arr, by simpa [put_sl, put_rt, putR_sl, putR_rt, hj] using q1, q2.of_eq (hFi j b ((q4 b).2 rfl)), q3, by simpa [put_sl, put_rt, putR_sl, putR_rt, hj] using q4, BRep_keep K _ _ _ q6⟩
    · intro j r q h
      by_cases hj : j = id
      · subst hj; simp [put_sl, put_rt, putR_sl, putR_rt] at h
      · simp [put_sl, put_rt, putR_sl, putR_rt, hj] at h ⊢
        exact (m.hole j r q h).frame (fun _ => Iff.rfl) (fun _ h => h) hsz (fun b hb => hb.elim (hFi j b) (hS b))
    · intro j b hb
      by_cases hj : j = id
      · subst hj; exact .inl ⟨⟨d, τ, xs, ver⟩, by simp [put_sl, put_rt, putR_sl, putR_rt]⟩
      · simp [put_sl, put_rt, putR_sl, putR_rt, hj] at hb ⊢
        exact m.none j b hb
    · intro i j b hi hj
      by_cases h1 : i = id <;> by_cases h2 : j = id
      · rw [h1, h2]
      · simp [put_sl, put_rt, putR_sl, putR_rt, h1, h2] at hi hj; exact absurd hi (hFn j b hj)
      · simp [put_sl, put_rt, putR_sl, putR_rt, h1, h2] at hi hj; exact absurd hj (hFn i b hi)
      · simp [put_sl, put_rt, putR_sl, putR_rt, h1, h2] at hi hj; exact m.dis i j b hi hj
    · intro j b hb
      by_cases hj : j = id
      · simp [put_sl, put_rt, putR_sl, putR_rt, hj] at hb
        refine ⟨?_, fun h => h.2 hb⟩
        intro hs
        rcases hF b hb with h | h
        · exact m.gsep b h hs
        · have := m.slt b hs; omega
      · simp [put_sl, put_rt, putR_sl, putR_rt, hj] at hb
        exact ⟨(m.sep j b hb).1, fun h => (m.sep j b hb).2 h.1⟩
    · exact fun b hb => m.gsep b hb.1
    · exact fun b hb => Nat.lt_of_lt_of_le (m.glt b hb.1) hsz
    · exact fun b hb => Nat.lt_of_lt_of_le (m.slt b hb) hsz
    · exact m.same.trans hsame
    · exact Nat.le_trans m.size hsz
    · exact fun b hb hf => (hw b (fun hg => by rcases m.own 0 b (.inr hg) with h | h; exact hf h; omega) (Nat.lt_of_lt_of_le hb m.size)).trans (m.frame b hb hf)
    · rintro j b (hb | hb)
      · by_cases hj : j = id
        · simp [put_sl, put_rt, putR_sl, putR_rt, hj] at hb
          rcases hF b hb with h | h
          · exact m.own j b (.inr h)
          · exact .inr (Nat.le_trans m.size h)
        · simp [put_sl, put_rt, putR_sl, putR_rt, hj] at hb; exact m.own j b (.inl hb)
      · exact m.own j b (.inr hb.1)
    · exact m.s0
    · exact m.shr
    · exact m.ok
end Go.Abs
set_option linter.unusedVariables false
set_option linter.unusedSimpArgs false
namespace Go.Abs
open Go

def zeroOk : Ty → List Value → Bool
  | .int k, cs => match cs with
    | [.int k' n] => decide (k' = k) && decide (n = 0)
    | _ => false
  | .bool, cs => match cs with
    | [.bool b] => !b
    | _ => false
  | .str, cs => match cs with
    | [.string s] => decide (s.size = 0)
    | _ => false
  | .list _, cs => match cs with
    | [.slice none 0 0] => true
    | _ => false
  | .one f, cs => zeroOk f cs
  | .pair f r, cs => zeroOk f (cs.take f.size) && zeroOk r (cs.drop f.size)

theorem zero_rep {w : World} {S : Fp} {d : Nat} : ∀ {τ : Ty} {cs : List Value}, zeroOk τ cs = true → rep w S τ d τ.dflt cs (fun _ => False)
  | .int k, cs, h => by
    unfold zeroOk at h
    split at h
    · simp at h; obtain ⟨rfl, rfl⟩ := h; exact ⟨rfl, fun _ h => h⟩
    · cases h
  | .bool, cs, h => by
    unfold zeroOk at h
    split at h
    · simp at h; subst h; exact ⟨rfl, fun _ h => h⟩
    · cases h
  | .str, cs, h => by
    unfold zeroOk at h
    split at h
    · rename_i s
      refine ⟨?_, fun _ h => h⟩
      have : s = ByteArray.empty := by
        cases s with
        | mk dat => simp [ByteArray.size] at h; subst h; rfl
      rw [this]; rfl
    · cases h
  | .list _, cs, h => by
    unfold zeroOk at h
    split at h
    · exact .inl ⟨⟨none, rfl⟩, rfl, fun _ h => h⟩
    · cases h
  | .one f, cs, h => zero_rep (τ := f) h
  | .pair f r, cs, h => by
    simp only [zeroOk, Bool.and_eq_true] at h
    exact ⟨_, _, zero_rep h.1, zero_rep h.2, fun _ h => h.elim, fun b => by simp⟩

structure Inf (P : Program) (t : TypeId) (τ : Ty) (i : TypeInfo) (z : Value) : Prop where
  info : P.info? t = some i
  size : i.size = τ.size
  zero : i.zero = some z
  ok : zeroOk τ z.cells.toList = true

/-- an array: so many fields of one kind -/
def arrT : Nat → Ty → Option Ty
  | 0, _ => none
  | 1, e => some (.one e)
  | n + 2, e => (arrT (n + 1) e).map (.pair e ·)

theorem arrT_agg : ∀ {n : Nat} {e τ : Ty}, arrT n e = some τ → τ.isAgg = true
  | 1, e, τ, h => by simp [arrT] at h; subst h; rfl
  | n + 2, e, τ, h => by
    simp only [arrT, Option.map_eq_some_iff] at h
    obtain ⟨r, _, rfl⟩ := h
    rfl
theorem arrT_fld : ∀ {n : Nat} {e τ : Ty} {k : Nat} {σ : Ty} {δ : Nat}, arrT n e = some τ → τ.fldOff k = some (σ, δ) → σ = e ∧ δ = k * e.size ∧ k < n
  | 1, e, τ, k, σ, δ, h, hk => by
    simp [arrT] at h; subst h
    cases k with
    | zero => simp [Ty.fldOff] at hk; obtain ⟨rfl, rfl⟩ := hk; exact ⟨rfl, by simp, by omega⟩
    | succ k => simp [Ty.fldOff] at hk
  | n + 2, e, τ, k, σ, δ, h, hk => by
    simp only [arrT, Option.map_eq_some_iff] at h
    obtain ⟨r, hr, rfl⟩ := h
    cases k with
    | zero => simp [Ty.fldOff] at hk; obtain ⟨rfl, rfl⟩ := hk; exact ⟨rfl, by simp, by omega⟩
    | succ k =>
      simp only [Ty.fldOff, Option.map_eq_some_iff] at hk
      obtain ⟨⟨σ', δ'⟩, hk, e'⟩ := hk
      simp only [Prod.mk.injEq] at e'
      obtain ⟨rfl, rfl⟩ := e'
      obtain ⟨rfl, rfl, h3⟩ := arrT_fld hr hk
      exact ⟨rfl, by rw [Nat.succ_mul]; omega, by omega⟩

mutual
/-- The type t is of the kind τ. -/
inductive TyOk (P : Program) : TypeId → Ty → Prop
  | int {t k i z} : P.underlying t = some (.int k) → Inf P t (.int k) i z → TyOk P t (.int k)
  | bool {t i z} : P.underlying t = some .bool → Inf P t .bool i z → TyOk P t .bool
  | str {t i z} : P.underlying t = some .string → Inf P t .str i z → TyOk P t .str
  | list {t te e i z} : P.underlying t = some (.slice te) → Inf P t (.list e) i z → TyOk P te e → TyOk P t (.list e)
  | struct {t fs τ i z} : P.underlying t = some (.struct fs) → Inf P t τ i z → τ.isAgg = true → FOk P fs.toList 0 τ → TyOk P t τ
  | array {t te n e τ i z} : P.underlying t = some (.array n te) → Inf P t τ i z → τ.isAgg = true → arrT n e = some τ → TyOk P te e → TyOk P t τ
inductive FOk (P : Program) : List Field → Nat → Ty → Prop
  | one {f o a} : f.offset = o → TyOk P f.type a → FOk P [f] o (.one a)
  | pair {f o a fs r} : f.offset = o → TyOk P f.type a → FOk P fs (o + a.size) r → FOk P (f :: fs) o (.pair a r)
end

theorem TyOk.inf {P : Program} {t : TypeId} {τ : Ty} (h : TyOk P t τ) : ∃ i z, Inf P t τ i z := by cases h <;> exact ⟨_, _, by assumption⟩

theorem TyOk.agg {P : Program} {t : TypeId} {τ : Ty} (h : TyOk P t τ) (w : World) : (isAgg t).run P w = .ok τ.isAgg w := by
  cases h with
  | int h _ => simp [isAgg, run_underlying h, Sem.run_bind, Ty.isAgg]
  | bool h _ => simp [isAgg, run_underlying h, Sem.run_bind, Ty.isAgg]
  | str h _ => simp [isAgg, run_underlying h, Sem.run_bind, Ty.isAgg]
  | list h _ _ => simp [isAgg, run_underlying h, Sem.run_bind, Ty.isAgg]
  | struct h _ ha _ => simp [isAgg, run_underlying h, Sem.run_bind, ha]
  | array h _ ha _ _ => simp [isAgg, run_underlying h, Sem.run_bind, ha]

theorem TyOk.size {P : Program} {t : TypeId} {τ : Ty} (h : TyOk P t τ) (w : World) : (sizeOf t).run P w = .ok τ.size w := by
  obtain ⟨i, z, h⟩ := h.inf
  simp [sizeOf, typeInfo, h.info, h.size]

theorem TyOk.zeroV {P : Program} {t : TypeId} {τ : Ty} (h : TyOk P t τ) (w : World) : ∃ z, (zeroValue t).run P w = .ok z w ∧ zeroOk τ z.cells.toList = true := by
  obtain ⟨i, z, h⟩ := h.inf
  exact ⟨z, by simp [zeroValue, typeInfo, h.info, h.zero], h.ok⟩

theorem TyOk.slice {P : Program} {t : TypeId} {e : Ty} (h : TyOk P t (.list e)) : ∃ te, P.underlying t = some (.slice te) ∧ TyOk P te e := by
  cases h with
  | list h1 _ h2 => exact ⟨_, h1, h2⟩
  | struct _ _ h _ => simp [Ty.isAgg] at h
  | array _ _ h _ _ => simp [Ty.isAgg] at h

theorem TyOk.string {P : Program} {t : TypeId} (h : TyOk P t .str) : P.underlying t = some .string := by
  cases h with
  | str h _ => exact h
  | struct _ _ h _ => simp [Ty.isAgg] at h
  | array _ _ h _ _ => simp [Ty.isAgg] at h

/-- an array's length -/
def arrInfo (P : Program) (t : TypeId) : Option Nat :=
  match P.underlying t with
  | some (.array n _) => some n
  | _ => none

theorem TyOk.aggs {P : Program} {t : TypeId} {τ : Ty} (h : TyOk P t τ) (ha : τ.isAgg = true) : (∃ fs, P.underlying t = some (.struct fs) ∧ FOk P fs.toList 0 τ) ∨ ∃ n te e, P.underlying t = some (.array n te) ∧ arrT n e = some τ ∧ TyOk P te e := by
  cases h with
  | struct h1 _ _ h2 => exact .inl ⟨_, h1, h2⟩
  | array h1 _ _ h2 h3 => exact .inr ⟨_, _, _, h1, h2, h3⟩
  | _ => simp [Ty.isAgg] at ha

theorem TyOk.strct {P : Program} {t : TypeId} {τ : Ty} (h : TyOk P t τ) (ha : τ.isAgg = true) (hn : arrInfo P t = none) : ∃ fs, P.underlying t = some (.struct fs) ∧ FOk P fs.toList 0 τ := by
  rcases h.aggs ha with h | ⟨n, te, e, h, _⟩
  · exact h
  · simp [arrInfo, h] at hn

theorem TyOk.arr {P : Program} {t : TypeId} {τ : Ty} {n : Nat} (h : TyOk P t τ) (ha : τ.isAgg = true) (hn : arrInfo P t = some n) : ∃ te e, P.underlying t = some (.array n te) ∧ arrT n e = some τ ∧ TyOk P te e := by
  rcases h.aggs ha with ⟨fs, h, _⟩ | ⟨m, te, e, h, h2⟩
  · simp [arrInfo, h] at hn
  · simp [arrInfo, h] at hn
    subst hn
    exact ⟨te, e, h, h2⟩

/-- a field of the type is a field of the kind -/
theorem FOk.field {P : Program} : ∀ {τ : Ty} {fs : List Field} {o k : Nat} {σ : Ty} {δ : Nat}, FOk P fs o τ → τ.fldOff k = some (σ, δ) →
    ∃ f, fs[k]? = some f ∧ f.offset = o + δ ∧ TyOk P f.type σ
  | .one a, fs, o, k, σ, δ, h, hk => by
    cases h with
    | one h1 h2 =>
      cases k with
      | zero => simp [Ty.fldOff] at hk; obtain ⟨rfl, rfl⟩ := hk; exact ⟨_, rfl, h1, h2⟩
      | succ k => simp [Ty.fldOff] at hk
  | .pair a r, fs, o, k, σ, δ, h, hk => by
    cases h with
    | pair h1 h2 h3 =>
      cases k with
      | zero => simp [Ty.fldOff] at hk; obtain ⟨rfl, rfl⟩ := hk; exact ⟨_, rfl, h1, h2⟩
      | succ k =>
        simp only [Ty.fldOff, Option.map_eq_some_iff] at hk
        obtain ⟨⟨σ', δ'⟩, hk, e⟩ := hk
        obtain ⟨rfl, rfl⟩ : σ' = σ ∧ a.size + δ' = δ := by simpa using e
        obtain ⟨f, g1, g2, g3⟩ := FOk.field h3 hk
        exact ⟨f, by simpa using g1, by rw [g2]; omega, g3⟩
  | .int _, _, _, _, _, _, h, _ | .bool, _, _, _, _, _, h, _ | .str, _, _, _, _, _, h, _ | .list _, _, _, _, _, _, h, _ => by cases h

def infOk (P : Program) (t : TypeId) (τ : Ty) : Option Ty :=
  match P.info? t with
  | some i => match i.zero with
    | some z => bif Nat.beq i.size τ.size && zeroOk τ z.cells.toList then some τ else none
    | none => none
  | none => none

theorem infOk_spec {P : Program} {t : TypeId} {τ σ : Ty} (h : infOk P t τ = some σ) : σ = τ ∧ ∃ i z, Inf P t τ i z := by
  unfold infOk at h
  split at h
  · rename_i i hi
    split at h
    · rename_i z hz
      cases hc : Nat.beq i.size τ.size && zeroOk τ z.cells.toList with
      | false => rw [hc] at h; cases h
      | true =>
        rw [hc] at h
        simp at hc
        cases h
        exact ⟨rfl, i, z, hi, hc.1, hz, hc.2⟩
    · cases h
  · cases h

def chkFs (g : TypeId → Option Ty) : List Field → Nat → Option Ty
  | [], _ => none
  | [f], o => (g f.type).bind fun a => bif Nat.beq f.offset o then some (.one a) else none
  | f :: fs, o => (g f.type).bind fun a => (chkFs g fs (o + a.size)).bind fun r => bif Nat.beq f.offset o then some (.pair a r) else none

/-- The kind of a type, as it is told. -/
def chkTy (P : Program) : Nat → TypeId → Option Ty
  | 0, _ => none
  | n + 1, t => match P.underlying t with
    | some (.int k) => infOk P t (.int k)
    | some .bool => infOk P t .bool
    | some .string => infOk P t .str
    | some (.slice te) => (chkTy P n te).bind fun e => infOk P t (.list e)
    | some (.struct fs) => (chkFs (chkTy P n) fs.toList 0).bind fun τ => infOk P t τ
    | some (.array m te) => (chkTy P n te).bind fun e => (arrT m e).bind fun τ => infOk P t τ
    | _ => none

theorem chkFs_spec {P : Program} {g : TypeId → Option Ty} (hg : ∀ t τ, g t = some τ → TyOk P t τ) : ∀ (fs : List Field) (o : Nat) (τ : Ty), chkFs g fs o = some τ → FOk P fs o τ ∧ τ.isAgg = true
  | [], _, _, h => by simp [chkFs] at h
  | [f], o, τ, h => by
    simp only [chkFs, Option.bind_eq_some_iff] at h
    obtain ⟨a, h1, h2⟩ := h
    cases hc : Nat.beq f.offset o with
    | false => rw [hc] at h2; cases h2
    | true =>
      rw [hc] at h2; cases h2
      exact ⟨.one (Nat.eq_of_beq_eq_true hc) (hg _ _ h1), rfl⟩
  | f :: f' :: fs, o, τ, h => by
    simp only [chkFs, Option.bind_eq_some_iff] at h
    obtain ⟨a, h1, r, h2, h3⟩ := h
    cases hc : Nat.beq f.offset o with
    | false => rw [hc] at h3; cases h3
    | true =>
      rw [hc] at h3; cases h3
      exact ⟨.pair (Nat.eq_of_beq_eq_true hc) (hg _ _ h1) (chkFs_spec hg (f' :: fs) _ r (by simpa [chkFs, Option.bind_eq_some_iff] using h2)).1, rfl⟩

theorem chkTy_spec {P : Program} : ∀ (n : Nat) (t : TypeId) (τ : Ty), chkTy P n t = some τ → TyOk P t τ
  | 0, _, _, h => by simp [chkTy] at h
  | n + 1, t, τ, h => by
    unfold chkTy at h
    split at h
    · rename_i hu; obtain ⟨rfl, i, z, hi⟩ := infOk_spec h; exact .int hu hi
    · rename_i hu; obtain ⟨rfl, i, z, hi⟩ := infOk_spec h; exact .bool hu hi
    · rename_i hu; obtain ⟨rfl, i, z, hi⟩ := infOk_spec h; exact .str hu hi
    · rename_i hu
      obtain ⟨e, h1, h2⟩ := Option.bind_eq_some_iff.1 h
      obtain ⟨rfl, i, z, hi⟩ := infOk_spec h2
      exact .list hu hi (chkTy_spec n _ _ h1)
    · rename_i hu
      obtain ⟨σ, h1, h2⟩ := Option.bind_eq_some_iff.1 h
      obtain ⟨rfl, i, z, hi⟩ := infOk_spec h2
      obtain ⟨g1, g2⟩ := chkFs_spec (chkTy_spec n) _ _ _ h1
      exact .struct hu hi g2 g1
    · rename_i hu
      obtain ⟨e, h1, h2⟩ := Option.bind_eq_some_iff.1 h
      obtain ⟨σ, h3, h4⟩ := Option.bind_eq_some_iff.1 h2
      obtain ⟨rfl, i, z, hi⟩ := infOk_spec h4
      exact .array hu hi (arrT_agg h3) h3 (chkTy_spec n _ _ h1)
    · cases h

def bytesOf (P : Program) (t : TypeId) : Nat :=
  match P.underlying t with
  | some (.slice te) => match P.info? te with
    | some i => i.bytes
    | none => 0
  | _ => 0

/-- What a type is, for the table. -/
def tyInfo (P : Program) (t : TypeId) : Option (Ty × Nat) := (chkTy P 9 t).map fun τ => (τ, bytesOf P t)
end Go.Abs
set_option linter.unusedVariables false
set_option linter.unusedSimpArgs false
namespace Go.Abs
open Go

theorem run_bind_some {α β : Type} {m : Rd α} {f : α → Rd β} {s : St} {l : List Nat} {q : β × List Nat} (h : (m.bind f).run s l = some q) :
    ∃ a l1, m.run s l = some (a, l1) ∧ (f a).run s l1 = some q := by
  rw [Rd.run_bind, Option.bind_eq_some_iff] at h
  obtain ⟨⟨a, l1⟩, h1, h2⟩ := h
  exact ⟨a, l1, h1, h2⟩

theorem chk_some {α : Type} {b : Bool} {m : Rd α} {s : St} {l : List Nat} {q : α × List Nat} (h : (Rd.chk b m).run s l = some q) : b = true ∧ m.run s l = some q := by
  simp only [Rd.run] at h
  cases b with
  | true => exact ⟨rfl, h⟩
  | false => cases h

theorem ret_some {α : Type} {a : α} {s : St} {l : List Nat} {q : α × List Nat} (h : (Rd.ret a).run s l = some q) : q = (a, l) := by
  simp only [Rd.run] at h; cases h; rfl

theorem fail_some {α : Type} {s : St} {l : List Nat} {q : α × List Nat} (h : (Rd.fail : Rd α).run s l = some q) : False := by simp [Rd.run] at h

theorem toTy_some {τ : Ty} {y : Dyn} {z : τ.den} (h : toTy τ y = some z) : y = ⟨τ, z⟩ := by
  obtain ⟨σ, x⟩ := y
  unfold toTy at h
  split at h
  · rename_i e
    simp only at e
    subst e
    cases h; rfl
  · cases h

theorem toTy_list {e σ : Ty} {xs : List σ.den} {z : List e.den} (h : toTy (.list e) ⟨.list σ, xs⟩ = some z) : ∃ q : σ = e, z = q ▸ xs := by
  have := toTy_some h
  cases this
  exact ⟨rfl, rfl⟩

section
variable {C : Ctx} {s : St} {rv : Nat → Value} {F : Nat → Fp} {S G : Fp} {w : World}

theorem list_cells (n : Option Addr) (a b : Nat) : (Value.slice n a b).cells.toList = [Value.slice n a b] := rfl

/-- What a root's value is. -/
theorem root_slice {S : Fp} {e : Ty} {d : Nat} {xs : List e.den} {v : Value} {F : Fp} (h : rep w S (.list e) d xs [v] F) : ∃ A c, v = .slice A xs.length c := by
  rcases h with ⟨h, rfl, _⟩ | ⟨b, o, c, _, _, h, _⟩
  · obtain ⟨A, h⟩ := h
    exact ⟨A, 0, by simpa using h⟩
  · exact ⟨_, _, by simpa using h⟩

theorem lay_sound (m : Mem C s.rt rv F S G w) : ∀ (τ : Ty) (d : Nat) (sv : SV) (l l' : List Nat) (x : τ.den) (tk : RL) (v : Value),
    (lay τ d sv).run s l = some ((x, tk), l') → RSV w S s.rt rv sv v →
    (ids tk).Nodup ∧ Takes s.rt tk ∧ ∃ Fl Sl, Split tk F Fl Sl ∧ rep w (fun b => S b ∨ Sl b) τ d x v.cells.toList Fl := by
  have plain : ∀ (τ : Ty) (d : Nat) (σ : Ty) (y : σ.den) (l l' : List Nat) (x : τ.den) (tk : RL) (v : Value),
      (match toTy τ ⟨σ, y⟩ with
        | some y => bif Nat.beq d 0 || τ.flat then Rd.ret (y, ([] : RL)) else .fail
        | none => .fail).run s l = some ((x, tk), l') → RSV w S s.rt rv (.val σ y) v →
      (ids tk).Nodup ∧ Takes s.rt tk ∧ ∃ Fl Sl, Split tk F Fl Sl ∧ rep w (fun b => S b ∨ Sl b) τ d x v.cells.toList Fl := by
    intro τ d σ y l l' x tk v h hv
    split at h
    · rename_i z hz
      have e := toTy_some hz
      cases e
      cases hc : Nat.beq d 0 || τ.flat with
      | false => rw [hc] at h; exact (fail_some h).elim
      | true =>
        rw [hc] at h
        have := ret_some h
        cases this
        simp only [RSV] at hv
        obtain ⟨cs, hr, rfl⟩ := hv
        refine ⟨by simp [ids], (fun _ _ h => by cases h), fun _ => False, fun _ => False, Split.nil F, ?_⟩
        rw [wrap_cells hr]
        rcases Bool.or_eq_true_iff.1 hc with hc | hc
        · obtain rfl := Nat.eq_of_beq_eq_true hc
          exact rep_mono (fun b hb => .inl hb) hr
        · exact rep_flat hc hr
    · exact (fail_some h).elim
  intro τ
  induction τ with
  | int k => 
    intro d sv l l' x tk v h hv
    cases sv <;> simp only [lay] at h <;> first | exact plain _ _ _ _ _ _ _ _ _ h hv | exact (fail_some h).elim
  | bool =>
    intro d sv l l' x tk v h hv
    cases sv <;> simp only [lay] at h <;> first | exact plain _ _ _ _ _ _ _ _ _ h hv | exact (fail_some h).elim
  | str =>
    intro d sv l l' x tk v h hv
    cases sv <;> simp only [lay] at h <;> first | exact plain _ _ _ _ _ _ _ _ _ h hv | exact (fail_some h).elim
  | list e _ =>
    intro d sv l l' x tk v h hv
    cases sv with
    | val σ y => simp only [lay] at h; exact plain _ _ _ _ _ _ _ _ _ h hv
    | nil =>
      simp only [lay] at h
      have := ret_some h
      cases this
      simp only [RSV] at hv
      obtain ⟨A, rfl⟩ := hv
      exact ⟨by simp [ids], (fun _ _ h => by cases h), fun _ => False, fun _ => False, Split.nil F, .inl ⟨⟨A, rfl⟩, rfl, fun _ h => h⟩⟩
    | «at» id ver p =>
      cases p with
      | cons a p => simp only [lay] at h; exact (fail_some h).elim
      | nil =>
        simp only [lay, Rd.run] at h
        simp only [RSV, RAt] at hv
        cases hr : s.rt id with
        | none => rw [hr] at h; exact (fail_some h).elim
        | dead => rw [hr] at h; exact (fail_some h).elim
        | box _ _ => rw [hr] at h; exact (fail_some h).elim
        | hole _ _ => rw [hr] at h; exact (fail_some h).elim
        | frz σ xs =>
          rw [hr] at h hv
          simp only at h
          split at h
          · rename_i z hz
            obtain ⟨q, hq⟩ := toTy_list hz
            cases hc : Nat.beq d 0 with
            | false => rw [hc] at h; exact (fail_some h).elim
            | true =>
              rw [hc] at h
              have := ret_some h
              cases this
              obtain rfl := Nat.eq_of_beq_eq_true hc
              obtain rfl := hv trivial
              subst q
              subst hq
              have h0 := m.frz id _ _ hr
              obtain ⟨A, c, e⟩ := root_slice h0
              refine ⟨by simp [ids], (fun _ _ h => by cases h), fun _ => False, fun _ => False, Split.nil F, ?_⟩
              rw [e]
              rw [e] at h0
              exact rep_mono (fun b hb => .inl hb) h0
          · exact (fail_some h).elim
        | live r =>
          rw [hr] at h hv
          simp only at h
          split at h
          · rename_i z hz
            obtain ⟨q, hq⟩ := toTy_list hz
            obtain rfl := (hv.2.1 rfl).2
            have h0 := m.live id _ hr
            obtain ⟨A, c, e⟩ := root_slice h0
            cases r with
            | mk rd rτ rxs rver =>
            simp only at q hq h h0
            subst q
            subst hq
            cases d with
            | zero =>
              simp only at h
              have := ret_some h
              cases this
              refine ⟨by simp [ids], ?_, fun _ => False, F id, ⟨fun _ h => h.elim, fun b hb => ⟨id, _, List.mem_singleton.2 rfl, hb⟩, fun _ h => h.elim, ?_⟩, ?_⟩
              · intro i st hi
                simp at hi
                obtain ⟨rfl, rfl⟩ := hi
                exact ⟨_, hr, .inr rfl⟩
              · intro i τ xs hi b hb
                simp at hi
                rw [hi.1] at hb
                exact hb
              · rw [e] at h0 ⊢
                exact rep_freeze h0
            | succ d =>
              simp only at h
              cases hc : Nat.ble d rd || rτ.flat with
              | false => rw [hc] at h; exact (fail_some h).elim
              | true =>
                rw [hc] at h
                have := ret_some h
                cases this
                have low : ∃ F', (∀ b, F' b → F id b) ∧ rep w (fun b => S b ∨ (F id b ∧ ¬ F' b)) (.list rτ) (d + 1) x [rv id] F' := by
                  by_cases hd : d ≤ rd
                  · exact rep_lower h0 (by omega)
                  · have hfl : rτ.flat = true := by
                      rcases Bool.or_eq_true_iff.1 hc with hc | hc
                      · exact absurd (Nat.le_of_ble_eq_true hc) hd
                      · exact hc
                    refine ⟨F id, fun _ h => h, rep_mono (fun b hb => .inl hb) ?_⟩
                    rcases h0 with h0 | ⟨b, o, c, arr, G', h1, h2, h3, h4, h5⟩
                    · exact .inl h0
                    · exact .inr ⟨b, o, c, arr, G', h1, h2, h3, reps_imp h4 fun x cs G _ _ h => rep_flat hfl h, .inr ⟨Nat.succ_pos _, (h5.resolve_left (fun q => Nat.succ_ne_zero _ q.1)).2⟩⟩
                obtain ⟨F', g1, g2⟩ := low
                refine ⟨by simp [ids], ?_, F', fun b => F id b ∧ ¬ F' b, ⟨fun b hb => ⟨id, _, List.mem_singleton.2 rfl, g1 b hb⟩, fun b hb => ⟨id, _, List.mem_singleton.2 rfl, hb.1⟩, fun b hb hc => hc.2 hb, ?_⟩, ?_⟩
                · intro i st hi
                  simp at hi
                  obtain ⟨rfl, rfl⟩ := hi
                  exact ⟨_, hr, .inl rfl⟩
                · intro i τ xs hi
                  simp at hi
                · rw [e] at g2 ⊢
                  exact g2
          · exact (fail_some h).elim
    | _ => simp only [lay] at h; exact (fail_some h).elim
  | one f ih =>
    intro d sv l l' x tk v h hv
    cases sv with
    | val σ y => simp only [lay] at h; exact plain _ _ _ _ _ _ _ _ _ h hv
    | agg vs =>
      match vs with
      | [] => simp only [lay] at h; exact (fail_some h).elim
      | [a] =>
        simp only [lay] at h
        obtain ⟨⟨y, l1⟩, l2, h1, h2⟩ := run_bind_some h
        have := ret_some h2
        cases this
        simp only [RSV, RSVs] at hv
        obtain ⟨us, ⟨u, us', rfl, hu, rfl⟩, rfl⟩ := hv
        obtain ⟨g1, g2, Fl, Sl, g3, g4⟩ := ih d a l _ y _ u h1 hu
        refine ⟨g1, g2, Fl, Sl, g3, ?_⟩
        simp [Value.cells]
        exact g4
      | _ :: _ :: _ => simp only [lay] at h; exact (fail_some h).elim
    | _ => simp only [lay] at h; exact (fail_some h).elim
  | pair f r ihf ihr =>
    intro d sv l l' x tk v h hv
    cases sv with
    | val σ y => simp only [lay] at h; exact plain _ _ _ _ _ _ _ _ _ h hv
    | agg vs =>
      match vs with
      | [] => simp only [lay] at h; exact (fail_some h).elim
      | a :: vs =>
        simp only [lay] at h
        obtain ⟨⟨y, t1⟩, l1, h1, h2⟩ := run_bind_some h
        obtain ⟨⟨z, t2⟩, l2, h3, h4⟩ := run_bind_some h2
        obtain ⟨h5, h6⟩ := chk_some h4
        have := ret_some h6
        cases this
        simp only [RSV, RSVs] at hv
        obtain ⟨us, ⟨u, us', rfl, hu, hus⟩, rfl⟩ := hv
        obtain ⟨g1, g2, Fl, Sl, g3, g4⟩ := ihf d a l l1 y t1 u h1 hu
        obtain ⟨k1, k2, Fl', Sl', k3, k4⟩ := ihr d (.agg vs) l1 _ z t2 (.agg (us'.flatMap fun u => u.cells.toList).toArray) h3 (by simp only [RSV]; exact ⟨us', hus, rfl⟩)
        have hlen := rep_len g4
        refine ⟨nodup_app g1 k1 h5, g2.app k2, _, _, g3.app m h5 k3, Fl, Fl', ?_, ?_, ?_, fun b => Iff.rfl⟩
        · have : (Value.agg (List.flatMap (fun u => u.cells.toList) (u :: us')).toArray).cells.toList = u.cells.toList ++ us'.flatMap fun u => u.cells.toList := by simp [Value.cells]
          rw [this, List.take_left' hlen]
          exact rep_mono (fun b hb => hb.imp (fun h => h) .inl) g4
        · have : (Value.agg (List.flatMap (fun u => u.cells.toList) (u :: us')).toArray).cells.toList = u.cells.toList ++ us'.flatMap fun u => u.cells.toList := by simp [Value.cells]
          rw [this, List.drop_left' hlen]
          simp only [Value.cells] at k4
          exact rep_mono (fun b hb => hb.imp (fun h => h) .inr) k4
        · intro b hb hc
          exact taken_apart m h5 (g3.fl b hb) (k3.fl b hc)
    | _ => simp only [lay] at h; exact (fail_some h).elim
end
end Go.Abs
set_option linter.unusedVariables false
set_option linter.unusedSimpArgs false
set_option linter.unnecessarySimpa false
namespace Go.Abs
open Go

/-- a struct that can be compared field by field -/
def cmpB (P : Program) (t : TypeId) : Bool :=
  match P.underlying t with
  | some (.struct fs) => !P.stoodInHeld t && (!P.eqGuardType P.depth t && fs.toList.all fun f => f.name != "_")
  | _ => false

structure EnvTy (P : Program) (E : Env) : Prop where
  ty : ∀ t τ b, E.ty t = some (τ, b) → tyInfo P t = some (τ, b)
  arr : ∀ t τ b, E.ty t = some (τ, b) → arrInfo P t = E.arr t
  cmp : ∀ t τ b, E.ty t = some (τ, b) → E.cmp t = true → τ.leafy = true ∧ cmpB P t = true

theorem EnvTy.ok {P : Program} {E : Env} (h : EnvTy P E) {t : TypeId} {τ : Ty} {b : Nat} (k : E.ty t = some (τ, b)) : TyOk P t τ ∧ b = bytesOf P t := by
  have := h.ty t τ b k
  unfold tyInfo at this
  obtain ⟨σ, h1, h2⟩ := Option.map_eq_some_iff.1 this
  cases h2
  exact ⟨chkTy_spec 9 t τ h1, rfl⟩

theorem tyOf_some {α : Type} {E : Env} {t : TypeId} {k : Ty → Nat → Rd α} {s : St} {l : List Nat} {q : α × List Nat} (h : (tyOf E t k).run s l = some q) :
    ∃ τ b, E.ty t = some (τ, b) ∧ (k τ b).run s l = some q := by
  unfold tyOf at h
  split at h
  · exact ⟨_, _, by assumption, h⟩
  · exact (fail_some h).elim

theorem asInt_some {α : Type} {sv : SV} {f : IntKind → Int → Rd α} {s : St} {l : List Nat} {q : α × List Nat} (h : (asInt sv f).run s l = some q) :
    ∃ (k : IntKind) (n : Int), sv = .val (.int k) n ∧ (f k n).run s l = some q := by
  unfold asInt at h
  split at h
  · exact ⟨_, _, rfl, h⟩
  · exact (fail_some h).elim

theorem asBool_some {α : Type} {sv : SV} {f : Bool → Rd α} {s : St} {l : List Nat} {q : α × List Nat} (h : (asBool sv f).run s l = some q) :
    ∃ (n : Bool), sv = .val .bool n ∧ (f n).run s l = some q := by
  unfold asBool at h
  split at h
  · exact ⟨_, rfl, h⟩
  · exact (fail_some h).elim

theorem int_beq (m n : Int) : (m == n) = decide (m = n) := by rw [Bool.eq_iff_iff]; simp
theorem int_bne (m n : Int) : (m != n) = !decide (m = n) := by simp [bne, int_beq]

section
variable {C : Ctx} {s : St} {rv : Nat → Value} {F : Nat → Fp} {S G : Fp} {w : World} {P : Program} {E : Env} {a : Act}

theorem rsv_int {rt : Nat → RSt} {k : IntKind} {n : Int} {v : Value} : RSV w S rt rv (.val (.int k) n) v ↔ v = .int k n := by
  simp only [RSV]
  constructor
  · rintro ⟨cs, ⟨rfl, _⟩, rfl⟩; rfl
  · rintro rfl; exact ⟨_, ⟨rfl, fun _ h => h⟩, rfl⟩
theorem rsv_bool {rt : Nat → RSt} {n : Bool} {v : Value} : RSV w S rt rv (.val .bool n) v ↔ v = .bool n := by
  simp only [RSV]
  constructor
  · rintro ⟨cs, ⟨rfl, _⟩, rfl⟩; rfl
  · rintro rfl; exact ⟨_, ⟨rfl, fun _ h => h⟩, rfl⟩
theorem rsv_str {rt : Nat → RSt} {n : ByteArray} {v : Value} : RSV w S rt rv (.val .str n) v ↔ v = .string n := by
  simp only [RSV]
  constructor
  · rintro ⟨cs, ⟨rfl, _⟩, rfl⟩; rfl
  · rintro rfl; exact ⟨_, ⟨rfl, fun _ h => h⟩, rfl⟩

theorem opd_sound (hs : ∀ i, RSV w S s.rt rv (s.sl i) (a.tmps.getD i undef)) {x : Operand} {sv : SV} {l l' : List Nat} (h : (opd x).run s l = some (sv, l')) :
    RSV w S s.rt rv sv (a.eval x) := by
  unfold opd at h
  split at h
  · simp only [Rd.run] at h; cases h; exact hs _
  · have := ret_some h; cases this; exact rsv_int.2 rfl
  · have := ret_some h; cases this; exact rsv_bool.2 rfl
  · have := ret_some h; cases this; exact rsv_str.2 rfl
  · have := ret_some h; cases this; simp only [RSV]; exact ⟨none, rfl⟩
  · have := ret_some h; cases this; simp only [RSV]; exact ⟨[], by simp only [RSVs], rfl⟩
  · exact (fail_some h).elim

theorem opList_sound (hs : ∀ i, RSV w S s.rt rv (s.sl i) (a.tmps.getD i undef)) : ∀ {xs : List Operand} {vs : List SV} {l l' : List Nat}, (opList xs).run s l = some (vs, l') →
    RSVs w S s.rt rv vs (xs.map a.eval)
  | [], vs, l, l', h => by
    simp only [opList] at h
    have := ret_some h; cases this
    simp only [RSVs, List.map_nil]
  | x :: xs, vs, l, l', h => by
    simp only [opList] at h
    obtain ⟨v, l1, h1, h2⟩ := run_bind_some h
    obtain ⟨us, l2, h3, h4⟩ := run_bind_some h2
    have := ret_some h4; cases this
    simp only [RSVs, List.map_cons]
    exact ⟨_, _, rfl, opd_sound hs h1, opList_sound hs h3⟩

theorem seg_one {arr : Array Value} {o : Nat} {v : Value} (h : arr[o]? = some v) : seg arr o 1 = [v] := by
  apply List.ext_getElem?
  intro j
  rw [seg_get]
  by_cases hj : j = 0
  · subst hj; simpa using h
  · rw [if_neg (by omega), List.getElem?_eq_none (by simp; omega)]

/-- a view's place -/
theorem view_rep (m : Mem C s.rt rv F S G w) {id : Nat} {r : Root} {p : List Step} {e : Ty} {b o : Nat} {v : Value} (hr : s.rt id = .live r) (hn : nix p ≤ r.d)
    (hw : walkV w (rv id) r.τ p = some (.list e, b, o)) (hc : w.cell? ⟨b, o, none⟩ = some v) :
    ∃ y Fs, getP (.list r.τ) r.xs p = some ⟨.list e, y⟩ ∧ (∀ b', Fs b' → F id b') ∧ rep w S (.list e) (depthP (r.d + 1) p) y [v] Fs := by
  obtain ⟨y, hy, qk, arr, Fs, Fr, a1, _, a3, a4, a5, a6, a7, _⟩ := focV (m.live id r hr) hw (by omega)
  refine ⟨y, Fs, hy, fun b' hb => (a6 b').2 (.inr (.inl hb)), ?_⟩
  rw [a1.cell] at hc
  have : seg arr o (Ty.list e).size = [v] := seg_one hc
  rwa [this] at a4

theorem content_sound (m : Mem C s.rt rv F S G w) {sv : SV} {y : Dyn} {l l' : List Nat} {v : Value} (h : (content sv).run s l = some (y, l')) (hv : RSV w S s.rt rv sv v) :
    ∃ Fx : Fp, (∀ b, Fx b → ∃ i, F i b) ∧ rep w (fun b => S b ∨ Fx b) y.1 0 y.2 v.cells.toList (fun _ => False) := by
  unfold content at h
  split at h
  · have := ret_some h; cases this
    simp only [RSV] at hv
    obtain ⟨cs, h1, rfl⟩ := hv
    rw [wrap_cells h1]
    exact ⟨fun _ => False, fun _ h => h.elim, rep_mono (fun b hb => .inl hb) h1⟩
  · rename_i id ver p
    simp only [Rd.run] at h
    simp only [RSV, RAt] at hv
    cases hr : s.rt id with
    | none => rw [hr] at h; exact (fail_some h).elim
    | dead => rw [hr] at h; exact (fail_some h).elim
    | box _ _ => rw [hr] at h; exact (fail_some h).elim
    | hole _ _ => rw [hr] at h; exact (fail_some h).elim
    | frz τ xs =>
      rw [hr] at h hv
      simp only at h
      split at h
      · have := ret_some h; cases this
        obtain rfl := hv rfl
        have h0 := m.frz id _ _ hr
        obtain ⟨A, c, e⟩ := root_slice h0
        refine ⟨fun _ => False, fun _ h => h.elim, ?_⟩
        rw [e] at h0 ⊢
        exact rep_mono (fun b hb => .inl hb) h0
      · exact (fail_some h).elim
    | live r =>
      rw [hr] at h hv
      simp only at h
      cases hc : Nat.beq (nix p) 0 || Nat.beq r.ver ver with
      | false => rw [hc] at h; exact (fail_some h).elim
      | true =>
        rw [hc] at h
        simp only [cond_true] at h
        split at h
        · rename_i y' hy
          have := ret_some h; cases this
          by_cases hp : nix p = 0
          · obtain ⟨rfl, rfl⟩ := hv.2.1 hp
            simp only [getP] at hy
            cases hy
            have h0 := m.live id _ hr
            obtain ⟨A, c, e⟩ := root_slice h0
            refine ⟨F id, fun b hb => ⟨id, hb⟩, ?_⟩
            rw [e] at h0 ⊢
            exact rep_freeze h0
          · have hver : r.ver = ver := by
              rcases Bool.or_eq_true_iff.1 hc with hc | hc
              · exact absurd (Nat.eq_of_beq_eq_true hc) hp
              · exact Nat.eq_of_beq_eq_true hc
            obtain ⟨hn, e, b, o, hw, hcell⟩ := hv.2.2 hp hver
            obtain ⟨y, Fs, g1, g2, g3⟩ := view_rep m hr hn hw hcell
            rw [g1] at hy
            cases hy
            obtain ⟨A, c, e'⟩ := root_slice g3
            refine ⟨Fs, fun b hb => ⟨id, g2 b hb⟩, ?_⟩
            rw [e'] at g3 ⊢
            exact rep_freeze g3
        · exact (fail_some h).elim
    
  · exact (fail_some h).elim

/-- a slice that is read -/
theorem content_list (m : Mem C s.rt rv F S G w) {sv : SV} {e : Ty} {xs : List e.den} {l l' : List Nat} {v : Value} (h : (content sv).run s l = some (⟨.list e, xs⟩, l')) (hv : RSV w S s.rt rv sv v) :
    ∃ A c, v = .slice A xs.length c ∧ ∃ Fx : Fp, (∀ b, Fx b → ∃ i, F i b) ∧ rep w (fun b => S b ∨ Fx b) (.list e) 0 xs [v] (fun _ => False) := by
  obtain ⟨Fx, h1, h2⟩ := content_sound m h hv
  have hl := rep_len h2
  match hcs : v.cells.toList, hl with
  | [u], _ =>
    rw [hcs] at h2
    obtain ⟨A, c, rfl⟩ := root_slice h2
    have : v = .slice A xs.length c := by
      cases v with
      | agg cs =>
        exfalso
        simp only [Value.cells] at hcs
        -- a slice is no struct: what is read is a slot's value
        unfold content at h
        split at h
        · have := ret_some h; cases this
          simp only [RSV, Ty.wrap, Ty.isAgg] at hv
          obtain ⟨cs', h3, h4⟩ := hv
          have := rep_one h3
          match cs', rep_len h3 with
          | [q], _ => simp at h4; rw [← h4] at this; simp [Value.oneCell'] at this
        · rename_i id ver p
          simp only [Rd.run] at h
          simp only [RSV, RAt] at hv
          cases hr : s.rt id with
          | none => rw [hr] at h; exact (fail_some h).elim
          | dead => rw [hr] at h; exact (fail_some h).elim
          | box _ _ => rw [hr] at h; exact (fail_some h).elim
          | hole _ _ => rw [hr] at h; exact (fail_some h).elim
          | frz τ xs =>
            rw [hr] at h hv
            simp only at h
            split at h
            · have e := hv rfl
              obtain ⟨A, c, e'⟩ := root_slice (m.frz id _ _ hr)
              rw [e'] at e; cases e
            · exact (fail_some h).elim
          | live r =>
            rw [hr] at h hv
            simp only at h
            cases hc : Nat.beq (nix p) 0 || Nat.beq r.ver ver with
            | false => rw [hc] at h; exact (fail_some h).elim
            | true =>
              by_cases hp : nix p = 0
              · obtain ⟨_, e⟩ := hv.2.1 hp
                obtain ⟨A, c, e'⟩ := root_slice (m.live id _ hr)
                rw [e'] at e; cases e
              · have hver : r.ver = ver := by
                  rcases Bool.or_eq_true_iff.1 hc with hc | hc
                  · exact absurd (Nat.eq_of_beq_eq_true hc) hp
                  · exact Nat.eq_of_beq_eq_true hc
                obtain ⟨hn, e, b, o, hw, hcell⟩ := hv.2.2 hp hver
                obtain ⟨y, Fs, g1, g2, g3⟩ := view_rep m hr hn hw hcell
                obtain ⟨A, c, e'⟩ := root_slice g3
                cases e'
        · exact (fail_some h).elim
      | _ => simpa [Value.cells] using hcs
    subst this
    exact ⟨A, c, rfl, Fx, h1, h2⟩

/-- What an operation that leaves the memory alone comes to. -/
def Quiet (P : Program) (o : Oper) (a : Act) (w : World) (S : Fp) (s : St) (rv : Nat → Value) (e : Eff) : Prop :=
  e.rts = [] ∧ ∃ v, (execOp a.eval o).run P w = .ok (.value v) w ∧ RSV w S s.rt rv e.v v

variable (hs : ∀ i, RSV w S s.rt rv (s.sl i) (a.tmps.getD i undef)) (hE : EnvTy P E)
theorem binOp_sound {op : BinOp} {x y sv : SV} {u v : Value} {l l' : List Nat} {t : TypeId} {p q : Operand} (h : (binOp op x y).run s l = some (sv, l')) (hx : RSV w S s.rt rv x u) (hy : RSV w S s.rt rv y v) :
    ∃ z, (do eqGuard op t p q u v; Go.binOp op t u v : Sem Value).run P w = .ok z w ∧ RSV w S s.rt rv sv z := by
  unfold binOp at h
  split at h
  · obtain rfl := rsv_int.1 hx
    obtain rfl := rsv_int.1 hy
    split at h
    · rename_i k m k' n e
      subst e
      cases op <;> simp only at h <;> first | exact (fail_some h).elim | skip
      case quo =>
        obtain ⟨h1, h2⟩ := chk_some h
        have := ret_some h2; cases this
        simp at h1
        exact ⟨_, by simp [eqGuard, Go.binOp, Op.intDiv, h1], rsv_int.2 rfl⟩
      case rem =>
        obtain ⟨h1, h2⟩ := chk_some h
        have := ret_some h2; cases this
        simp at h1
        exact ⟨_, by simp [eqGuard, Go.binOp, Op.intDiv, h1], rsv_int.2 rfl⟩
      case shr =>
        obtain ⟨h1, h2⟩ := chk_some h
        have := ret_some h2; cases this
        have h1' := of_decide_eq_true h1
        exact ⟨_, by simp [eqGuard, Go.binOp, Op.shift, Int.not_lt.2 h1', shrI], rsv_int.2 rfl⟩
      case and =>
        have := ret_some h; cases this
        exact ⟨_, by simp [eqGuard, Go.binOp, Op.intBits, andI], rsv_int.2 rfl⟩
      all_goals
        have := ret_some h; cases this
        first
          | (refine ⟨_, ?_, rsv_int.2 rfl⟩; simp [eqGuard, Go.binOp, Op.intArith]; done)
          | (refine ⟨_, ?_, rsv_bool.2 rfl⟩; simp [eqGuard, Go.binOp, Op.intCmp, int_beq, int_bne]; done)
    · exact (fail_some h).elim
  · obtain rfl := rsv_str.1 hx
    obtain rfl := rsv_str.1 hy
    cases op <;> simp only at h <;> first | exact (fail_some h).elim | skip
    case add =>
      rename_i b1 b2
      obtain ⟨h1, h2⟩ := chk_some h
      have := ret_some h2; cases this
      have h1' := of_decide_eq_true h1
      refine ⟨_, ?_, rsv_str.2 rfl⟩
      have hmax : ¬ (((b1.size + b2.size : Nat) : Int) > IntKind.i64.max) := by rw [show IntKind.i64.max = 9223372036854775807 from rfl]; omega
      simp only [eqGuard, Go.binOp, Op.stringOp, if_neg hmax]
      rfl
    all_goals
      have := ret_some h; cases this
      (refine ⟨_, ?_, rsv_bool.2 rfl⟩; simp [eqGuard, Go.binOp, Op.stringOp])
  · exact (fail_some h).elim

include hs

theorem op_move {o : Oper} {x : Operand} (ho : o.op = .move x ∨ o.op = .assign x) {e : Eff} {l l' : List Nat} (h : ((opd x).bind fun v => .ret ⟨v, []⟩).run s l = some (e, l')) : Quiet P o a w S s rv e := by
  obtain ⟨v, l1, h1, h2⟩ := run_bind_some h
  have := ret_some h2; cases this
  refine ⟨rfl, a.eval x, ?_, opd_sound hs h1⟩
  rcases ho with ho | ho <;> simp [execOp, ho]

theorem op_pick {o : Oper} {g : Nat} {x y : Operand} {t : Operand} (ho : o.op = .pick (.tmp g) x y) {e : Eff} {l l' : List Nat}
    (h : (Rd.br g fun c => (opd (bif c then x else y)).bind fun v => .ret (⟨v, []⟩ : Eff)).run s l = some (e, l')) : Quiet P o a w S s rv e := by
  simp only [Rd.run] at h
  split at h
  · rename_i b hb
    obtain ⟨v, l1, h1, h2⟩ := run_bind_some h
    have := ret_some h2; cases this
    have hg := hs g
    rw [hb] at hg
    have hg := rsv_bool.1 hg
    refine ⟨rfl, _, ?_, opd_sound hs h1⟩
    have he : a.eval (.tmp g) = .bool b := hg
    cases b <;> simp [execOp, ho, he, Go.asBool]
  · cases h

theorem op_not {o : Oper} {t : TypeId} {x : Operand} (ho : o.op = .unOp .not t x) {e : Eff} {l l' : List Nat}
    (h : ((opd x).bind fun v => asBool v fun b => .ret (⟨.val .bool (!b), []⟩ : Eff)).run s l = some (e, l')) : Quiet P o a w S s rv e := by
  obtain ⟨v, l1, h1, h2⟩ := run_bind_some h
  obtain ⟨b, rfl, h3⟩ := asBool_some h2
  have := ret_some h3; cases this
  have hx := rsv_bool.1 (opd_sound hs h1)
  exact ⟨rfl, _, by simp [execOp, ho, hx, Op.unary], rsv_bool.2 rfl⟩

theorem op_neg {o : Oper} {t : TypeId} {x : Operand} (ho : o.op = .unOp .neg t x) {e : Eff} {l l' : List Nat}
    (h : ((opd x).bind fun v => asInt v fun k n => .ret (⟨.val (.int k) (k.wrap (0 - n)), []⟩ : Eff)).run s l = some (e, l')) : Quiet P o a w S s rv e := by
  obtain ⟨v, l1, h1, h2⟩ := run_bind_some h
  obtain ⟨k, n, rfl, h3⟩ := asInt_some h2
  have := ret_some h3; cases this
  have hx := rsv_int.1 (opd_sound hs h1)
  exact ⟨rfl, _, by simp [execOp, ho, hx, Op.unary, Op.intArith], rsv_int.2 rfl⟩
end
end Go.Abs
set_option linter.unusedVariables false
set_option linter.unusedSimpArgs false
set_option linter.unnecessarySimpa false
set_option linter.unusedSectionVars false
namespace Go.Abs
open Go

theorem walk_append {w : World} : ∀ {p : List Step} {q : List Step} {τ : Ty} {b o : Nat}, walk w τ b o (p ++ q) = (walk w τ b o p).bind fun r => walk w r.1 r.2.1 r.2.2 q
  | [], q, τ, b, o => by
    have : walk w τ b o [] = some (τ, b, o) := by simp [walk]
    rw [this]; rfl
  | .fl k :: p, q, τ, b, o => by
    have e : ∀ p, walk w τ b o (.fl k :: p) = match τ.fldOff k with | some (σ, δ) => walk w σ b (o + δ) p | none => none := by intro p; cases τ <;> rfl
    rw [List.cons_append, e, e]
    split
    · exact walk_append
    · rfl
  | .ix i :: p, q, τ, b, o => by
    cases τ with
    | list e =>
      simp only [List.cons_append, walk]
      split
      · split
        · exact walk_append
        · rfl
      · rfl
    | _ => simp [walk]

theorem walkV_append {w : World} {v : Value} {e : Ty} {p q : List Step} (hp : p ≠ []) : walkV w v e (p ++ q) = (walkV w v e p).bind fun r => walk w r.1 r.2.1 r.2.2 q := by
  match p, hp with
  | .ix i :: p, _ =>
    simp only [List.cons_append, walkV]
    split
    · split
      · exact walk_append
      · rfl
    · rfl
  | .fl k :: p, _ => simp [walkV]

theorem nix_append : ∀ (p q : List Step), nix (p ++ q) = nix p + nix q
  | [], q => by simp [nix]
  | .ix _ :: p, q => by simp only [List.cons_append, nix, nix_append p q]; omega
  | .fl _ :: p, q => by simp only [List.cons_append, nix, nix_append p q]

theorem depth_nix : ∀ (p : List Step) (d : Nat), depthP d p = d - nix p
  | [], d => by simp [depthP, nix]
  | .ix _ :: p, d => by simp only [depthP, nix, depth_nix p]; omega
  | .fl _ :: p, d => by simp only [depthP, nix, depth_nix p]

theorem fldPath_append : ∀ (p q : List Nat) (σ : Ty), fldPath σ (p ++ q) = (fldPath σ p).bind fun r => (fldPath r.1 q).map fun t => (t.1, r.2 + t.2)
  | [], q, σ => by
    simp only [List.nil_append, fldPath, Option.bind_some]
    cases fldPath σ q <;> simp
  | k :: p, q, σ => by
    simp only [List.cons_append, fldPath]
    cases σ.fldOff k with
    | none => rfl
    | some r =>
      simp only [Option.bind_some, fldPath_append p q]
      cases fldPath r.1 p with
      | none => rfl
      | some t =>
        simp only [Option.bind_some, Option.map_some]
        cases fldPath t.1 q with
        | none => rfl
        | some u => simp [Nat.add_assoc]

section
variable {C : Ctx} {s : St} {rv : Nat → Value} {F : Nat → Fp} {S G : Fp} {w : World} {P : Program} {E : Env} {a : Act}

theorem rsvs_get {rt : Nat → RSt} : ∀ {vs : List SV} {us : List Value} {i : Nat} {v : SV}, RSVs w S rt rv vs us → vs[i]? = some v → ∃ u, us[i]? = some u ∧ RSV w S rt rv v u
  | [], us, i, v, h, hi => by simp at hi
  | x :: vs, us, i, v, h, hi => by
    simp only [RSVs] at h
    obtain ⟨u, us', rfl, h1, h2⟩ := h
    cases i with
    | zero => simp at hi; subst hi; exact ⟨u, rfl, h1⟩
    | succ i => simp at hi; obtain ⟨q, h3, h4⟩ := rsvs_get h2 hi; exact ⟨q, by simpa using h3, h4⟩

theorem rsvs_len {rt : Nat → RSt} : ∀ {vs : List SV} {us : List Value}, RSVs w S rt rv vs us → us.length = vs.length
  | [], us, h => by simp only [RSVs] at h; subst h; rfl
  | x :: vs, us, h => by
    simp only [RSVs] at h
    obtain ⟨u, us', rfl, h1, h2⟩ := h
    simp [rsvs_len h2]

theorem index_ok {i : Int} {n : Nat} (h : (decide (0 ≤ i) && decide (i < (n : Int))) = true) : 0 ≤ i ∧ i < n ∧ i.toNat < n := by
  simp at h; omega

theorem run_equal_bool {t : TypeId} (hu : P.underlying t = some .bool) (p q : Bool) : (Op.equal t (.bool p) (.bool q)).run P w = .ok (p == q) w := by
  have e : ∀ k, (Op.equalIn (k + 1) t (.bool p) (.bool q)).run P w = .ok (p == q) w := by
    intro k
    rw [Op.equalIn, Sem.run_bind, run_underlying hu]
    rfl
  exact e _

variable (m : Mem C s.rt rv F S G w) (hs : ∀ i, RSV w S s.rt rv (s.sl i) (a.tmps.getD i undef)) (hE : EnvTy P E)

include hs

theorem op_extract {n d : Nat} {o : Oper} {x : Operand} {i : Nat} (ho : o.op = .extract x i) {e : Eff} {l l' : List Nat}
    (h : (op E n d (.extract x i)).run s l = some (e, l')) : Quiet P o a w S s rv e := by
  simp only [op] at h
  obtain ⟨v, l1, h1, h2⟩ := run_bind_some h
  split at h2
  · rename_i vs
    split at h2
    · rename_i u hu
      have := ret_some h2; cases this
      have hx := opd_sound hs h1
      simp only [RSV] at hx
      obtain ⟨us, h3, h4⟩ := hx
      obtain ⟨q, h5, h6⟩ := rsvs_get h3 hu
      exact ⟨rfl, q, by simp [execOp, ho, h4, Instr.extract, h5], h6⟩
    · exact (fail_some h2).elim
  · exact (fail_some h2).elim

theorem op_makeFunc {n d : Nat} {o : Oper} {f : FuncId} {first caps : Array Operand} (ho : o.op = .makeFunc (.func f) first caps) {e : Eff} {l l' : List Nat}
    (h : (op E n d (.makeFunc (.func f) first caps)).run s l = some (e, l')) : Quiet P o a w S s rv e := by
  simp only [op] at h
  cases hf : first.isEmpty with
  | false => rw [hf] at h; exact (fail_some h).elim
  | true =>
    rw [hf] at h
    obtain ⟨vs, l1, h1, h2⟩ := run_bind_some h
    have := ret_some h2; cases this
    have hx := opList_sound hs h1
    have hf' : first = #[] := by simpa using hf
    subst hf'
    refine ⟨rfl, .func (.func f) #[] (caps.map a.eval), by simp [execOp, ho, Instr.makeFunc], ?_⟩
    simp only [RSV]
    exact ⟨_, hx, by congr 1; apply Array.ext'; simp⟩

theorem op_max {n d : Nat} {o : Oper} {c : Call} (ho : o.op = .call c) (hc : c.callee = .builtin .max) {e : Eff} {l l' : List Nat}
    (h : (op E n d (.call c)).run s l = some (e, l')) : Quiet P o a w S s rv e := by
  simp only [op, hc] at h
  split at h
  · rename_i x y hx
    have ha : c.args = #[x, y] := by apply Array.ext'; simpa using hx
    obtain ⟨v, l1, h1, h2⟩ := run_bind_some h
    obtain ⟨u, l2, h3, h4⟩ := run_bind_some h2
    obtain ⟨k, p, rfl, h5⟩ := asInt_some h4
    obtain ⟨k', q, rfl, h6⟩ := asInt_some h5
    split at h6
    · rename_i hk
      subst hk
      have := ret_some h6; cases this
      have hx := rsv_int.1 (opd_sound hs h1)
      have hy := rsv_int.1 (opd_sound hs h3)
      refine ⟨rfl, .int k (max p q), ?_, rsv_int.2 rfl⟩
      have key : (Builtin.max_ c.argTypes o.type #[.int k p, .int k q]).run P w = .ok (.int k (max p q)) w := by
        simp only [Builtin.max_, Builtin.max2, List.foldlM_cons, List.foldlM_nil, Sem.run_bind, Sem.run_pure, Result.andThen]
        congr 2
        split <;> omega
      simp [execOp, ho, resolve, hc, ha, invoke, builtin, hx, hy, key]
    · exact (fail_some h6).elim
  · exact (fail_some h).elim

theorem op_min {n d : Nat} {o : Oper} {c : Call} (ho : o.op = .call c) (hc : c.callee = .builtin .min) {e : Eff} {l l' : List Nat}
    (h : (op E n d (.call c)).run s l = some (e, l')) : Quiet P o a w S s rv e := by
  simp only [op, hc] at h
  split at h
  · rename_i x y hx
    have ha : c.args = #[x, y] := by apply Array.ext'; simpa using hx
    obtain ⟨v, l1, h1, h2⟩ := run_bind_some h
    obtain ⟨u, l2, h3, h4⟩ := run_bind_some h2
    obtain ⟨k, p, rfl, h5⟩ := asInt_some h4
    obtain ⟨k', q, rfl, h6⟩ := asInt_some h5
    split at h6
    · rename_i hk
      subst hk
      have := ret_some h6; cases this
      have hx := rsv_int.1 (opd_sound hs h1)
      have hy := rsv_int.1 (opd_sound hs h3)
      refine ⟨rfl, .int k (min p q), ?_, rsv_int.2 rfl⟩
      have key : (Builtin.min_ c.argTypes o.type #[.int k p, .int k q]).run P w = .ok (.int k (min p q)) w := by
        simp only [Builtin.min_, Builtin.min2, List.foldlM_cons, List.foldlM_nil, Sem.run_bind, Sem.run_pure, Result.andThen]
        congr 2
        split <;> omega
      simp [execOp, ho, resolve, hc, ha, invoke, builtin, hx, hy, key]
    · exact (fail_some h6).elim
  · exact (fail_some h).elim

include hE
theorem op_boolBin {n d : Nat} {o : Oper} {b : BinOp} {t ty : TypeId} {x y : Operand} (ho : o.op = .binOp b t x y ty) (hcmp : E.cmp t = false) {e : Eff} {l l' : List Nat}
    (h : (op E n d (.binOp b t x y ty)).run s l = some (e, l')) : Quiet P o a w S s rv e := by
  simp only [op] at h
  obtain ⟨u, l1, h1, h2⟩ := run_bind_some h
  obtain ⟨v, l2, h3, h4⟩ := run_bind_some h2
  have hx := opd_sound hs h1
  have hy := opd_sound hs h3
  rw [hcmp] at h4
  simp only [cond_false] at h4
  split at h4
  · rename_i p q
    obtain ⟨τ, bb, h5, h6⟩ := tyOf_some h4
    have hx := rsv_bool.1 hx
    have hy := rsv_bool.1 hy
    split at h6
    · have hu : P.underlying t = some .bool := by
        cases (hE.ok h5).1 with
        | bool h _ => exact h
        | struct _ _ h _ => simp [Ty.isAgg] at h
        | array _ _ h _ _ => simp [Ty.isAgg] at h
      split at h6
      · have := ret_some h6; cases this
        exact ⟨rfl, _, by simp [execOp, ho, hx, hy, eqGuard, Go.binOp, run_equal_bool hu], rsv_bool.2 rfl⟩
      · have := ret_some h6; cases this
        exact ⟨rfl, _, by simp [execOp, ho, hx, hy, eqGuard, Go.binOp, run_equal_bool hu], rsv_bool.2 rfl⟩
      · exact (fail_some h6).elim
    · exact (fail_some h6).elim
  · obtain ⟨z, l3, h5, h6⟩ := run_bind_some h4
    have := ret_some h6; cases this
    obtain ⟨q, h7, h8⟩ := binOp_sound (t := t) (p := x) (q := y) (P := P) h5 hx hy
    refine ⟨rfl, q, ?_, h8⟩
    have h7' : Sem.run P (eqGuard b t x y (a.eval x) (a.eval y) >>= fun _ => Go.binOp b t (a.eval x) (a.eval y)) w = .ok q w := h7
    simp only [execOp, ho]
    rw [show (do let x ← (do eqGuard b t x y (a.eval x) (a.eval y); Go.binOp b t (a.eval x) (a.eval y)); pure (Next.value x) : Sem Next) =
      (eqGuard b t x y (a.eval x) (a.eval y) >>= fun _ => Go.binOp b t (a.eval x) (a.eval y)) >>= fun x => pure (Next.value x) from rfl, Sem.run_bind, h7']
    rfl

theorem op_index {n d : Nat} {o : Oper} {t : TypeId} {x i : Operand} (ho : o.op = .index t x i) {e : Eff} {l l' : List Nat} (h : (op E n d (.index t x i)).run s l = some (e, l')) : Quiet P o a w S s rv e := by
  simp only [op] at h
  obtain ⟨τ, bb, h5, h6⟩ := tyOf_some h
  split at h6
  · obtain ⟨u, l1, h1, h2⟩ := run_bind_some h6
    obtain ⟨v, l2, h3, h4⟩ := run_bind_some h2
    obtain ⟨k, j, rfl, h7⟩ := asInt_some h4
    have hx := opd_sound hs h1
    have hy := rsv_int.1 (opd_sound hs h3)
    split at h7
    · rename_i str
      obtain ⟨h8, h9⟩ := chk_some h7
      have := ret_some h9; cases this
      have hx := rsv_str.1 hx
      obtain ⟨g1, g2, g3⟩ := index_ok h8
      have hu := (hE.ok h5).1.string
      have hb : str[j.toNat]? = some str.data[j.toNat] := by
        rw [getElem?_pos str j.toNat g3]; rfl
      refine ⟨rfl, _, ?_, rsv_int.2 rfl⟩
      have hbt : bt str j = (str.data[j.toNat].toNat : Int) := by
        unfold bt
        rw [List.getD_eq_getElem?_getD, List.getElem?_eq_getElem (by simpa using g3)]
        simp
      simp [execOp, ho, hx, hy, Instr.index, asIntOf, run_underlying hu, g1, hb, hbt]
    · exact (fail_some h7).elim
  · exact (fail_some h6).elim

theorem op_len {n d : Nat} {o : Oper} {c : Call} (ho : o.op = .call c) (hc : c.callee = .builtin .len) (m : Mem C s.rt rv F S G w) {e : Eff} {l l' : List Nat}
    (h : (op E n d (.call c)).run s l = some (e, l')) : Quiet P o a w S s rv e := by
  simp only [op, hc] at h
  split at h
  · rename_i x hx
    split at h
    · rename_i t ts ht
      obtain ⟨τ, bb, h5, h6⟩ := tyOf_some h
      have ha : c.args = #[x] := by apply Array.ext'; simpa using hx
      have hat : c.argTypes[0]? = some t := by rw [← Array.getElem?_toList, ht]; rfl
      split at h6
      · have hu := (hE.ok h5).1.string
        obtain ⟨u, l1, h1, h2⟩ := run_bind_some h6
        split at h2
        · have := ret_some h2; cases this
          have hx := rsv_str.1 (opd_sound hs h1)
          exact ⟨rfl, _, by simp [execOp, ho, resolve, hc, ha, invoke, builtin, Builtin.len_, hat, hx, run_underlying hu, goInt], rsv_int.2 rfl⟩
        · exact (fail_some h2).elim
      · obtain ⟨te, hu, _⟩ := (hE.ok h5).1.slice
        obtain ⟨u, l1, h1, h2⟩ := run_bind_some h6
        have hx := opd_sound hs h1
        split at h2
        · have := ret_some h2; cases this
          simp only [RSV] at hx
          obtain ⟨A, hx⟩ := hx
          exact ⟨rfl, _, by simp [execOp, ho, resolve, hc, ha, invoke, builtin, Builtin.len_, hat, hx, run_underlying hu, goInt], rsv_int.2 rfl⟩
        · obtain ⟨y, l2, h3, h4⟩ := run_bind_some h2
          split at h4
          · have := ret_some h4; cases this
            obtain ⟨A, cc, hv, _⟩ := content_list m h3 hx
            exact ⟨rfl, _, by simp [execOp, ho, resolve, hc, ha, invoke, builtin, Builtin.len_, hat, hv, run_underlying hu, goInt], rsv_int.2 rfl⟩
          · exact (fail_some h4).elim
      · exact (fail_some h6).elim
    · exact (fail_some h).elim
  · exact (fail_some h).elim
end
end Go.Abs
set_option linter.unusedVariables false
set_option linter.unusedSimpArgs false
set_option linter.unnecessarySimpa false
set_option linter.unusedSectionVars false
namespace Go.Abs
open Go
section
variable {C : Ctx} {s : St} {rv : Nat → Value} {F : Nat → Fp} {S G : Fp} {w : World} {P : Program} {E : Env} {a : Act}

/-- a slice with an element has a block -/
theorem list_block {d : Nat} {e : Ty} {xs : List e.den} {v : Value} {F : Fp} {i : Nat} (h : rep w S (.list e) d xs [v] F) (hi : i < xs.length) :
    ∃ b o c arr G, v = .slice (some ⟨b, o, none⟩) xs.length c ∧ Has w b arr ∧ o + i * e.size + e.size ≤ arr.size ∧ rep w S e (d - 1) xs[i] (seg arr (o + i * e.size) e.size) G ∧
      (d = 0 → S b ∧ ∀ b', ¬ G b') := by
  rcases h with h | ⟨b, o, c, arr, G, h1, h2, h3, h4, h5⟩
  · rw [h.2.1] at hi; simp at hi
  · obtain ⟨Gi, q1, q2, q3⟩ := h4
    have hsz : o + i * e.size + e.size ≤ arr.size := by
      have : (i + 1) * e.size ≤ c * e.size := Nat.mul_le_mul_right _ (by omega)
      rw [Nat.add_mul] at this; omega
    refine ⟨b, o, c, arr, Gi i, by simpa using h1, ?_, hsz, q1 i hi, ?_⟩
    · rcases h5 with h5 | h5
      · exact h5.2.1
      · exact h5.2.1.has
    · rintro rfl
      rcases h5 with h5 | h5
      · exact ⟨h5.2.2.1, rep_none (.inl rfl) (q1 i hi)⟩
      · exact absurd h5.1 (by omega)

variable (m : Mem C s.rt rv F S G w) (hs : ∀ i, RSV w S s.rt rv (s.sl i) (a.tmps.getD i undef)) (hE : EnvTy P E)

theorem run_indexAt {t te : TypeId} {e : Ty} (hu : P.underlying t = some (.slice te)) (ht : TyOk P te e) {b o n c : Nat} {k : IntKind} {i : Int} (h0 : 0 ≤ i) (h1 : i < n) :
    (Instr.indexAt t (.slice (some ⟨b, o, none⟩) n c) (.int k i)).run P w = .ok (.pointer (some ⟨b, o + i.toNat * e.size, none⟩)) w := by
  simp [Instr.indexAt, asIntOf, run_underlying hu, h0, h1, ht.size, add0]

theorem run_fieldAt {t : TypeId} {σ τ : Ty} {f δ : Nat} (ht : TyOk P t σ) (hna : arrInfo P t = none) (hf : σ.fldOff f = some (τ, δ)) {b o : Nat} :
    (Instr.fieldAt t (.pointer (some ⟨b, o, none⟩)) f).run P w = .ok (.pointer (some ⟨b, o + δ, none⟩)) w := by
  have ha : σ.isAgg = true := by cases σ <;> first | rfl | (simp [Ty.fldOff] at hf)
  obtain ⟨fs, hu, hF⟩ := ht.strct ha hna
  obtain ⟨fl, g1, g2, g3⟩ := hF.field hf
  have hz : τ.size ≠ 0 := by have := τ.size_pos; omega
  have g1' : fs[f]? = some fl := by rw [← Array.getElem?_toList]; exact g1
  simp [Instr.fieldAt, run_underlying hu, g1', Instr.sureAddr, fieldPlace, g3.size, hz, g2, add0]

theorem pickIx_some {α : Type} {i : Int} {k : Nat → Rd α} {s : St} {q : α × List Nat} : ∀ {n c : Nat} {l : List Nat}, (pickIx i k n c).run s l = some q → ∃ m, m < c + n ∧ i = (m : Int) ∧ (k m).run s l = some q
  | 0, c, l, h => (fail_some h).elim
  | n + 1, c, l, h => by
    simp only [pickIx, Rd.run] at h
    by_cases hc : i = (c : Int)
    · rw [decide_eq_true hc] at h
      exact ⟨c, by omega, hc, h⟩
    · rw [decide_eq_false hc] at h
      obtain ⟨m, h1, h2, h3⟩ := pickIx_some h
      exact ⟨m, by omega, h2, h3⟩

include m
theorem fieldOf_sound {σ : Ty} {f : Nat} {u : SV} {v0 : Value} {e : Eff} {l l' : List Nat} (h2 : (fieldOf σ f u).run s l = some (e, l')) (hx : RSV w S s.rt rv u v0) :
    ∃ b o τ δ, v0 = .pointer (some ⟨b, o, none⟩) ∧ σ.fldOff f = some (τ, δ) ∧ e.rts = [] ∧ RSV w S s.rt rv e.v (.pointer (some ⟨b, o + δ, none⟩)) := by
  unfold fieldOf at h2
  split at h2
  · rename_i id ver p τ0
    split at h2
    · rename_i hy
      subst hy
      split at h2
      · rename_i q hq
        obtain ⟨τ, δ⟩ := q
        have := ret_some h2; cases this
        simp only [RSV, RPtr] at hx
        obtain ⟨⟨b, o1, hv⟩, hx⟩ := hx
        refine ⟨b, o1, τ, δ, hv, hq, rfl, ?_⟩
        simp only [RSV, RPtr]
        refine ⟨⟨b, o1 + δ, rfl⟩, ?_⟩
        have hwalk : ∀ {b2 o2 : Nat} {e : Ty}, walkV w (rv id) e p = some (τ0, b2, o2) → v0 = .pointer (some ⟨b2, o2, none⟩) → walkV w (rv id) e (p ++ [.fl f]) = some (τ, b, o1 + δ) := by
          intro b2 o2 e hw hv2
          rw [hv] at hv2
          simp only [Value.pointer.injEq, Option.some.injEq, Addr.mk.injEq, and_true] at hv2
          obtain ⟨rfl, rfl⟩ := hv2
          have hpn : p ≠ [] := by rintro rfl; simp [walkV] at hw
          rw [walkV_append hpn, hw]
          have e : walk w τ0 b o1 [.fl f] = match τ0.fldOff f with | some (σ, δ) => walk w σ b (o1 + δ) [] | none => none := by cases τ0 <;> rfl
          simp only [Option.bind_some]
          rw [e, hq]
          simp [walk]
        have hnx : nix (p ++ [.fl f]) = nix p := by rw [nix_append]; simp [nix]
        cases hr : s.rt id with
        | none => rw [hr] at hx; exact hx
        | dead => trivial
        | frz _ _ => trivial
        | box _ _ => trivial
        | hole r q0 =>
          rw [hr] at hx
          refine ⟨hx.1, fun h => ?_⟩
          obtain ⟨b2, o2, hw, hv2⟩ := hx.2 (by rw [hnx] at h; exact h)
          exact ⟨b, o1 + δ, hwalk hw hv2, rfl⟩
        | live r =>
          rw [hr] at hx
          refine ⟨hx.1, fun h => ?_⟩
          rw [hnx] at h
          obtain ⟨hn, b2, o2, hw, hv2⟩ := hx.2 h
          exact ⟨by rw [hnx]; exact hn, b, o1 + δ, hwalk hw hv2, rfl⟩
      · exact (fail_some h2).elim
    · exact (fail_some h2).elim
  · rename_i τ y
    split at h2
    · rename_i he
      subst he
      split at h2
      · rename_i z hz
        have := ret_some h2; cases this
        simp only [RSV, RSp] at hx
        obtain ⟨b, o1, arr, g1, g2, g3, g4, g5⟩ := hx
        -- the field's offset
        have hk : ∃ σ δ, τ.fldOff f = some (σ, δ) := by
          have key : ∀ (τ : Ty) (f : Nat) (y : τ.den), τ.getF f y = some z → ∃ σ δ, τ.fldOff f = some (σ, δ) := by
            intro τ
            induction τ with
            | one a _ => intro f y hz; cases f <;> simp [Ty.getF] at hz; exact ⟨a, 0, rfl⟩
            | pair a r _ ih =>
              intro f y hz
              cases f with
              | zero => exact ⟨a, 0, rfl⟩
              | succ f => obtain ⟨σ, δ, h⟩ := ih f y.2 hz; exact ⟨σ, a.size + δ, by simp [Ty.fldOff, h]⟩
            | _ => intro f y hz; simp [Ty.getF] at hz
          exact key τ f y hz
        obtain ⟨σ, δ, hk⟩ := hk
        obtain ⟨y', Fs, Fr, k1, k2, k3, k4, k5, _⟩ := focusF g5 hk
        rw [k1] at hz
        cases hz
        rw [seg_seg k2] at k3
        refine ⟨b, o1, _, δ, g1, hk, rfl, ?_⟩
        simp only [RSV]
        exact ⟨b, o1 + δ, arr, rfl, g2, g3, by omega, rep_iff k3 fun b' => ⟨fun h => h.elim, fun h => (k5 b').2 (.inr h)⟩⟩
      · exact (fail_some h2).elim
    · exact (fail_some h2).elim
  · rename_i id p
    simp only [Rd.run] at h2
    simp only [RSV, RBp] at hx
    cases hr : s.rt id <;> simp only [hr] at h2 <;> try exact (fail_some h2).elim
    rename_i τ c
    rw [hr] at hx
    simp only at hx
    obtain ⟨b, τ', δ', g1, g2, g3⟩ := hx
    rw [g2] at h2
    simp only at h2
    split at h2
    · rename_i he
      subst he
      split at h2
      · rename_i q hq
        obtain ⟨τ2, δ⟩ := q
        have := ret_some h2; cases this
        refine ⟨b, δ', τ2, δ, g3, hq, rfl, ?_⟩
        simp only [RSV, RBp, hr]
        refine ⟨b, τ2, δ' + δ, g1, ?_, rfl⟩
        rw [fldPath_append, g2]
        simp [fldPath, hq]
      · exact (fail_some h2).elim
    · exact (fail_some h2).elim
  · exact (fail_some h2).elim

include hs hE

theorem op_indexAddr {n d : Nat} {o : Oper} {t : TypeId} {x i : Operand} (ho : o.op = .indexAddr t x i) {e : Eff} {l l' : List Nat} (h : (op E n d (.indexAddr t x i)).run s l = some (e, l')) : Quiet P o a w S s rv e := by
  simp only [op] at h
  obtain ⟨τ, bb, h5, h6⟩ := tyOf_some h
  have arrs : ∀ {τ : Ty} {bb : Nat}, E.ty t = some (τ, bb) → (arrAddr E t x i τ).run s l = some (e, l') → Quiet P o a w S s rv e := by
    intro τ bb h5 h6
    unfold arrAddr at h6
    cases hna : E.arr t with
    | none => rw [hna] at h6; exact (fail_some h6).elim
    | some mm =>
      rw [hna] at h6
      obtain ⟨u, l1, h1, h2⟩ := run_bind_some h6
      obtain ⟨v, l2, h3, h4⟩ := run_bind_some h2
      obtain ⟨k, j, rfl, h7⟩ := asInt_some h4
      have hx := opd_sound hs h1
      have hy := rsv_int.1 (opd_sound hs h3)
      obtain ⟨c, hc, rfl, h8⟩ := pickIx_some h7
      obtain ⟨b, o1, σ, δ, hv, hf, hr, hq⟩ := fieldOf_sound m h8 hx
      have ht := (hE.ok h5).1
      have ha : τ.isAgg = true := by cases τ <;> first | rfl | (simp [Ty.fldOff] at hf)
      obtain ⟨te, e1, hu, he, hte⟩ := ht.arr ha ((hE.arr _ _ _ h5).trans hna)
      obtain ⟨rfl, rfl, hlt⟩ := arrT_fld he hf
      refine ⟨hr, _, ?_, hq⟩
      have h0 : (0 : Int) ≤ (c : Int) := by omega
      have h1' : (c : Int) < (mm : Int) := by omega
      simp [execOp, ho, hv, hy, Instr.indexAt, asIntOf, run_underlying hu, Instr.sureAddr, Sem.run_bind, h0, h1', hte.size, add0, hlt]
  cases τ with
  | list e0 =>
    simp only at h6
    obtain ⟨u, l1, h1, h2⟩ := run_bind_some h6
    obtain ⟨v, l2, h3, h4⟩ := run_bind_some h2
    obtain ⟨k, j, rfl, h7⟩ := asInt_some h4
    have hx := opd_sound hs h1
    have hy := rsv_int.1 (opd_sound hs h3)
    obtain ⟨te, hu, hte⟩ := (hE.ok h5).1.slice
    -- shared memory
    have shared : ∀ (ys : List e0.den) (v : Value), a.eval x = v → rep w S (.list e0) 0 ys [v] (fun _ => False) → (decide (0 ≤ j) && decide (j < (ys.length : Int))) = true →
        e = ⟨.sp e0 (ys.getD j.toNat e0.dflt), []⟩ → Quiet P o a w S s rv e := by
      intro ys v hv hr hc he
      obtain ⟨g1, g2, g3⟩ := index_ok hc
      obtain ⟨b, ob, c, arr, G', q1, q2, q3, q4, q5⟩ := list_block hr g3
      obtain ⟨q6, q7⟩ := q5 rfl
      subst he
      refine ⟨rfl, .pointer (some ⟨b, ob + j.toNat * e0.size, none⟩), ?_, ?_⟩
      · simp [execOp, ho, hy, hv, q1, run_indexAt hu hte g1 g2]
      · simp only [RSV]
        refine ⟨b, _, arr, rfl, q6, q2, q3, ?_⟩
        rw [List.getD_eq_getElem?_getD, List.getElem?_eq_getElem g3]
        exact rep_iff q4 (fun b' => ⟨fun h => h.elim, fun h => absurd h (q7 b')⟩)
    split at h7
    · rename_i id ver p
      simp only [Rd.run] at h7
      simp only [RSV, RAt] at hx
      cases hr : s.rt id with
      | none => rw [hr] at h7; exact (fail_some h7).elim
      | dead => rw [hr] at h7; exact (fail_some h7).elim
      | box _ _ => rw [hr] at h7; exact (fail_some h7).elim
      | hole r q =>
        rw [hr] at h7 hx
        simp only at h7
        split at h7
        · rename_i jj q'
          split at h7
          · rename_i he
            obtain ⟨h8, h9⟩ := chk_some h7
            have := ret_some h9; cases this
            rw [Bool.and_eq_true] at h8
            have g1 := of_decide_eq_true h8.1
            have g2 := of_decide_eq_true h8.2
            have hv : a.eval x = rv id := (hx.2 rfl).2
            obtain ⟨e2, b2, o2, qk2, arr2, _, _, hw, _⟩ := m.hole id r _ hr
            simp only [walkV] at hw
            split at hw
            · rename_i b' o' n c hrv
              split at hw
              · rename_i hlt
                have g3 : j < (n : Int) := by omega
                subst he
                refine ⟨rfl, .pointer (some ⟨b', o' + j.toNat * r.τ.size, none⟩), ?_, ?_⟩
                · simp [execOp, ho, hy, hv, hrv, run_indexAt hu hte g1 g3]
                · simp only [RSV, RPtr, hr]
                  refine ⟨⟨_, _, rfl⟩, Nat.le_refl _, fun _ => ⟨b', _, ?_, rfl⟩⟩
                  simp only [walkV, hrv]
                  rw [if_pos (by omega)]
                  simp [walk]
              · cases hw
            · cases hw
          · exact (fail_some h7).elim
        · exact (fail_some h7).elim
      | frz e' ys =>
        rw [hr] at h7 hx
        simp only at h7
        split at h7
        · split at h7
          · rename_i he
            subst he
            obtain ⟨h8, h9⟩ := chk_some h7
            have := ret_some h9; cases this
            exact shared ys _ rfl (by rw [hx rfl]; exact m.frz id _ _ hr) h8 rfl
          · exact (fail_some h7).elim
        · exact (fail_some h7).elim
      | live r =>
        rw [hr] at h7 hx
        simp only at h7
        cases hc : Nat.beq (nix p) 0 || Nat.beq r.ver ver with
        | false => rw [hc] at h7; exact (fail_some h7).elim
        | true =>
          rw [hc] at h7
          simp only [cond_true] at h7
          split at h7
          · rename_i e' ys hg
            split at h7
            · rename_i he
              subst he
              obtain ⟨h8, h9⟩ := chk_some h7
              have := ret_some h9; cases this
              obtain ⟨g1, g2, g3⟩ := index_ok h8
              by_cases hp : nix p = 0
              · obtain ⟨rfl, hv⟩ := hx.2.1 hp
                simp only [getP] at hg
                have hrep := m.live id r hr
                obtain ⟨rd, rτ, rxs, rver⟩ := r
                cases hg
                obtain ⟨b, ob, c, arr, G', q1, q2, q3, q4, q5⟩ := list_block hrep g3
                refine ⟨rfl, .pointer (some ⟨b, ob + j.toNat * rτ.size, none⟩), ?_, ?_⟩
                · simp [execOp, ho, hy, hv, q1, run_indexAt hu hte g1 g2]
                · simp only [RSV, RPtr, hr]
                  refine ⟨⟨_, _, rfl⟩, Nat.le_refl _, fun _ => ⟨by simp [nix], b, _, ?_, rfl⟩⟩
                  simp only [List.nil_append, walkV, q1]
                  rw [if_pos g3]
                  simp [walk]
              · have hver : r.ver = ver := by
                  rcases Bool.or_eq_true_iff.1 hc with hc | hc
                  · exact absurd (Nat.eq_of_beq_eq_true hc) hp
                  · exact Nat.eq_of_beq_eq_true hc
                obtain ⟨hn, e1, b, o1, hw, hcell⟩ := hx.2.2 hp hver
                obtain ⟨y, Fs, k1, k2, k3⟩ := view_rep m hr hn hw hcell
                rw [k1] at hg
                cases hg
                obtain ⟨b2, ob, c, arr, G', q1, q2, q3, q4, q5⟩ := list_block k3 g3
                refine ⟨rfl, .pointer (some ⟨b2, ob + j.toNat * e'.size, none⟩), ?_, ?_⟩
                · simp [execOp, ho, hy, q1, run_indexAt hu hte g1 g2]
                · simp only [RSV, RPtr, hr]
                  refine ⟨⟨_, _, rfl⟩, Nat.le_refl _, fun _ => ⟨by rw [nix_append]; simp [nix]; omega, b2, _, ?_, rfl⟩⟩
                  rw [walkV_append (by rintro rfl; exact hp rfl), hw]
                  simp only [Option.bind_some, walk, hcell, q1]
                  rw [if_pos g3]
            · exact (fail_some h7).elim
          · exact (fail_some h7).elim
    · rename_i e' ys
      split at h7
      · rename_i he
        subst he
        obtain ⟨h8, h9⟩ := chk_some h7
        have := ret_some h9; cases this
        simp only [RSV] at hx
        obtain ⟨cs, g1, g2⟩ := hx
        have hl := rep_len g1
        match cs, hl with
        | [c], _ => exact shared ys _ g2 g1 h8 rfl
      · exact (fail_some h7).elim
    · exact (fail_some h7).elim
  | int _ => exact arrs h5 h6
  | bool => exact arrs h5 h6
  | str => exact arrs h5 h6
  | one _ => exact arrs h5 h6
  | pair _ _ => exact arrs h5 h6

theorem op_fieldAddr {n d : Nat} {o : Oper} {t : TypeId} {x : Operand} {f : Nat} (ho : o.op = .fieldAddr t x f) {e : Eff} {l l' : List Nat} (h : (op E n d (.fieldAddr t x f)).run s l = some (e, l')) : Quiet P o a w S s rv e := by
  simp only [op] at h
  cases hna : E.arr t with
  | some _ => rw [hna] at h; exact (fail_some h).elim
  | none =>
  rw [hna] at h
  obtain ⟨σ, bb, h5, h6⟩ := tyOf_some h
  obtain ⟨u, l1, h1, h2⟩ := run_bind_some h6
  have hx := opd_sound hs h1
  have ht := (hE.ok h5).1
  obtain ⟨b, o1, τ, δ, hv, hf, hr, hq⟩ := fieldOf_sound m h2 hx
  exact ⟨hr, _, by simp [execOp, ho, hv, run_fieldAt ht ((hE.arr _ _ _ h5).trans hna) hf], hq⟩

theorem op_nilCheck {n d : Nat} {o : Oper} {x : Operand} (ho : o.op = .nilCheck x) {e : Eff} {l l' : List Nat} (h : (op E n d (.nilCheck x)).run s l = some (e, l')) : Quiet P o a w S s rv e := by
  simp only [op] at h
  obtain ⟨u, l1, h1, h2⟩ := run_bind_some h
  have hx := opd_sound hs h1
  split at h2
  · rename_i id ver p τ0
    have := ret_some h2; cases this
    have hx' := hx
    simp only [RSV, RPtr] at hx
    obtain ⟨⟨b, o1, hv⟩, _⟩ := hx
    exact ⟨rfl, .pointer (some ⟨b, o1, none⟩), by simp [execOp, ho, hv], by rw [← hv]; exact hx'⟩
  · have := ret_some h2; cases this
    have hx' := hx
    simp only [RSV, RSp] at hx
    obtain ⟨b, o1, arr, g1, g2, g3, g4, g5⟩ := hx
    exact ⟨rfl, .pointer (some ⟨b, o1, none⟩), by simp [execOp, ho, g1], by rw [← g1]; exact hx'⟩
  · rename_i id p
    simp only [Rd.run] at h2
    have hx' := hx
    simp only [RSV, RBp] at hx
    cases hr : s.rt id <;> simp only [hr] at h2 <;> try exact (fail_some h2).elim
    have := ret_some h2; cases this
    rw [hr] at hx
    obtain ⟨b, τ', δ', g1, g2, g3⟩ := hx
    exact ⟨rfl, .pointer (some ⟨b, δ', none⟩), by simp [execOp, ho, g3], by rw [← g3]; exact hx'⟩
  · exact (fail_some h2).elim

end

/-! ### Boxes -/
section
variable {C : Ctx} {s : St} {rv : Nat → Value} {F : Nat → Fp} {S G : Fp} {w : World} {P : Program} {E : Env} {a : Act}
theorem fieldsOf_rsv {rt : Nat → RSt} : ∀ {τ : Ty} {x : τ.den} {cs : List Value}, rep w S τ 0 x cs (fun _ => False) →
    ∃ us, RSVs w S rt rv (fieldsOf τ x) us ∧ us.flatMap (fun u => u.cells.toList) = cs
  | .one f, x, cs, h => by
    refine ⟨[f.wrap cs], ?_, ?_⟩
    · simp only [fieldsOf, RSVs, RSV]
      exact ⟨_, _, rfl, ⟨cs, h, rfl⟩, rfl⟩
    · simp [wrap_cells (τ := f) h]
  | .pair f r, x, cs, h => by
    obtain ⟨F1, F2, h1, h2, h3, h4⟩ := h
    have e1 : rep w S f 0 x.1 (cs.take f.size) (fun _ => False) := rep_iff h1 fun b => ⟨fun h => h.elim, fun h => (h4 b).2 (.inl h)⟩
    have e2 : rep w S r 0 x.2 (cs.drop f.size) (fun _ => False) := rep_iff h2 fun b => ⟨fun h => h.elim, fun h => (h4 b).2 (.inr h)⟩
    obtain ⟨us, g1, g2⟩ := fieldsOf_rsv (rt := rt) e2
    refine ⟨f.wrap (cs.take f.size) :: us, ?_, ?_⟩
    · simp only [fieldsOf, RSVs, RSV]
      exact ⟨_, _, rfl, ⟨_, e1, rfl⟩, g1⟩
    · simp [wrap_cells e1, g2]
  | .int k, x, cs, h => ⟨[(Ty.int k).wrap cs], by simp only [fieldsOf, RSVs, RSV]; exact ⟨_, _, rfl, ⟨cs, h, rfl⟩, rfl⟩, by simp [wrap_cells h]⟩
  | .bool, x, cs, h => ⟨[Ty.bool.wrap cs], by simp only [fieldsOf, RSVs, RSV]; exact ⟨_, _, rfl, ⟨cs, h, rfl⟩, rfl⟩, by simp [wrap_cells h]⟩
  | .str, x, cs, h => ⟨[Ty.str.wrap cs], by simp only [fieldsOf, RSVs, RSV]; exact ⟨_, _, rfl, ⟨cs, h, rfl⟩, rfl⟩, by simp [wrap_cells h]⟩
  | .list e, x, cs, h => ⟨[(Ty.list e).wrap cs], by simp only [fieldsOf, RSVs, RSV]; exact ⟨_, _, rfl, ⟨cs, h, rfl⟩, rfl⟩, by simp [wrap_cells h]⟩

/-- the fields fit -/
theorem fieldsOf_fits : ∀ {τ : Ty} {x : τ.den} {k : Nat} {σ : Ty} {δ : Nat} , τ.fldOff k = some (σ, δ) → ∃ y, (fieldsOf τ x)[k]? = some (.val σ y)
  | .one f, x, 0, σ, δ, h => by simp [Ty.fldOff] at h; obtain ⟨rfl, rfl⟩ := h; exact ⟨x, rfl⟩
  | .one f, x, k + 1, σ, δ, h => by simp [Ty.fldOff] at h
  | .pair f r, x, 0, σ, δ, h => by simp [Ty.fldOff] at h; obtain ⟨rfl, rfl⟩ := h; exact ⟨x.1, rfl⟩
  | .pair f r, x, k + 1, σ, δ, h => by
    simp only [Ty.fldOff, Option.map_eq_some_iff] at h
    obtain ⟨⟨σ', δ'⟩, hk, e⟩ := h
    obtain ⟨rfl, rfl⟩ : σ' = σ ∧ f.size + δ' = δ := by simpa using e
    obtain ⟨y, hy⟩ := fieldsOf_fits (x := x.2) hk
    exact ⟨y, by simpa [fieldsOf] using hy⟩
  | .int _, _, _, _, _, h | .bool, _, _, _, _, h | .str, _, _, _, _, h | .list _, _, _, _, _, h => by simp [Ty.fldOff] at h

theorem brepL_pair {rt : Nat → RSt} {v : SV} {vs : List SV} {f r : Ty} {cs : List Value} :
    BRepL w S rt rv (v :: vs) (.pair f r) cs = (BRep w S rt rv v f (cs.take f.size) ∧ BRepL w S rt rv vs r (cs.drop f.size)) := by cases vs <;> simp [BRepL]

mutual
theorem BRep_len {rt : Nat → RSt} : ∀ {v : SV} {σ : Ty} {cs : List Value}, BRep w S rt rv v σ cs → cs.length = σ.size
  | .agg vs, σ, cs, h => by simp only [BRep] at h; exact BRepL_len h.2
  | .val τ x, σ, cs, h => by simp only [BRep] at h; exact h.2.1
  | .nil, σ, cs, h => by simp only [BRep] at h; obtain ⟨⟨e, rfl⟩, A, rfl⟩ := h; rfl
  | .at id ver p, σ, cs, h => by simp only [BRep] at h; obtain ⟨⟨e, rfl⟩, v, rfl, _⟩ := h; rfl
  | .ptr _ _ _ _, _, _, h | .sp _ _, _, _, h | .bp _ _, _, _, h | .tup _, _, _, h | .fn _ _, _, _, h => by simp [BRep] at h
  | .undef, σ, cs, h => by simp only [BRep] at h; exact h.1
theorem BRepL_len {rt : Nat → RSt} : ∀ {vs : List SV} {σ : Ty} {cs : List Value}, BRepL w S rt rv vs σ cs → cs.length = σ.size
  | [], σ, cs, h => by simp [BRepL] at h
  | v :: vs, .pair f r, cs, h => by
    rw [brepL_pair] at h
    have a := BRep_len h.1; have b := BRepL_len h.2
    have := r.size_pos
    simp at a b
    simp [Ty.size]; omega
  | [v], .one f, cs, h => by simp only [BRepL] at h; rw [BRep_len h]; rfl
  | [v], .int _, cs, h => by simp only [BRepL] at h; exact BRep_len h
  | [v], .bool, cs, h => by simp only [BRepL] at h; exact BRep_len h
  | [v], .str, cs, h => by simp only [BRepL] at h; exact BRep_len h
  | [v], .list _, cs, h => by simp only [BRepL] at h; exact BRep_len h
  | _ :: _ :: _, .one _, cs, h | _ :: _ :: _, .int _, cs, h | _ :: _ :: _, .bool, cs, h | _ :: _ :: _, .str, cs, h | _ :: _ :: _, .list _, cs, h => by simp [BRepL] at h
end

mutual
/-- what a box holds, read into a slot -/
theorem BRep_rsv {rt : Nat → RSt} : ∀ {v : SV} {σ : Ty} {cs : List Value}, BRep w S rt rv v σ cs → RSV w S rt rv v (σ.wrap cs) ∧ (σ.wrap cs).cells.toList = cs
  | .agg vs, σ, cs, h => by
    simp only [BRep] at h
    obtain ⟨us, h1, h2⟩ := BRepL_rsv h.2
    simp only [RSV, Ty.wrap, h.1, if_true]
    exact ⟨⟨us, h1, by rw [h2]⟩, by simp [Value.cells]⟩
  | .val τ x, σ, cs, h => by
    simp only [BRep] at h
    obtain ⟨rfl, h1, h2⟩ := h
    refine ⟨h2, ?_⟩
    simp only [RSV] at h2
    obtain ⟨cs', h3, h4⟩ := h2
    have e := wrap_cells h3
    unfold Ty.wrap at h4 ⊢
    cases ha : τ.isAgg with
    | true => simp [Value.cells]
    | false =>
      simp only [ha, if_false, Bool.false_eq_true] at h4 ⊢
      rw [Ty.size_one ha] at h1
      have l3 := rep_len h3
      rw [Ty.size_one ha] at l3
      match cs, h1, cs', l3 with
      | [c], _, [c'], _ =>
        simp at h4
        subst h4
        simp [Value.cells_one (rep_one h3 c (by simp))]
  | .nil, σ, cs, h => by
    simp only [BRep] at h
    obtain ⟨⟨e, rfl⟩, A, rfl⟩ := h
    simp [RSV, Ty.wrap, Ty.isAgg, Value.cells]
  | .at id ver p, σ, cs, h => by
    simp only [BRep] at h
    obtain ⟨⟨e, rfl⟩, v, rfl, h1, h2⟩ := h
    exact ⟨by simpa [Ty.wrap, Ty.isAgg] using h2, by simp [Ty.wrap, Ty.isAgg, Value.cells_one h1]⟩
  | .ptr _ _ _ _, _, _, h | .sp _ _, _, _, h | .bp _ _, _, _, h | .tup _, _, _, h | .fn _ _, _, _, h => by simp [BRep] at h
  | .undef, σ, cs, h => by
    simp only [BRep] at h
    refine ⟨by simp only [RSV], ?_⟩
    unfold Ty.wrap
    cases ha : σ.isAgg with
    | true => simp [Value.cells]
    | false =>
      have h1 := h.1
      rw [Ty.size_one ha] at h1
      match cs, h1, h.2 with
      | [c], _, h2 => simp [Value.cells_one (h2 c (by simp))]
theorem BRepL_rsv {rt : Nat → RSt} : ∀ {vs : List SV} {σ : Ty} {cs : List Value}, BRepL w S rt rv vs σ cs → ∃ us, RSVs w S rt rv vs us ∧ us.flatMap (fun u => u.cells.toList) = cs
  | [], σ, cs, h => by simp [BRepL] at h
  | v :: vs, .pair f r, cs, h => by
    rw [brepL_pair] at h
    obtain ⟨us, h1, h2⟩ := BRepL_rsv h.2
    obtain ⟨g1, g2⟩ := BRep_rsv h.1
    refine ⟨f.wrap (cs.take f.size) :: us, ?_, by simp [g2, h2]⟩
    simp only [RSVs]
    exact ⟨_, _, rfl, g1, h1⟩
  | [v], .one f, cs, h => by
    simp only [BRepL] at h
    obtain ⟨g1, g2⟩ := BRep_rsv h
    exact ⟨[f.wrap cs], by simp only [RSVs]; exact ⟨_, _, rfl, g1, rfl⟩, by simp [g2]⟩
  | [v], .int k, cs, h => by
    simp only [BRepL] at h
    obtain ⟨g1, g2⟩ := BRep_rsv h
    exact ⟨[(Ty.int k).wrap cs], by simp only [RSVs]; exact ⟨_, _, rfl, g1, rfl⟩, by simp [g2]⟩
  | [v], .bool, cs, h => by
    simp only [BRepL] at h
    obtain ⟨g1, g2⟩ := BRep_rsv h
    exact ⟨[Ty.bool.wrap cs], by simp only [RSVs]; exact ⟨_, _, rfl, g1, rfl⟩, by simp [g2]⟩
  | [v], .str, cs, h => by
    simp only [BRepL] at h
    obtain ⟨g1, g2⟩ := BRep_rsv h
    exact ⟨[Ty.str.wrap cs], by simp only [RSVs]; exact ⟨_, _, rfl, g1, rfl⟩, by simp [g2]⟩
  | [v], .list e, cs, h => by
    simp only [BRepL] at h
    obtain ⟨g1, g2⟩ := BRep_rsv h
    exact ⟨[(Ty.list e).wrap cs], by simp only [RSVs]; exact ⟨_, _, rfl, g1, rfl⟩, by simp [g2]⟩
  | _ :: _ :: _, .one _, cs, h | _ :: _ :: _, .int _, cs, h | _ :: _ :: _, .bool, cs, h | _ :: _ :: _, .str, cs, h | _ :: _ :: _, .list _, cs, h => by simp [BRepL] at h
end

theorem BRep_val {rt : Nat → RSt} {τ : Ty} {x : τ.den} {cs : List Value} (h : rep w S τ 0 x cs (fun _ => False)) : BRep w S rt rv (.val τ x) τ cs := by
  simp only [BRep, RSV]
  exact ⟨trivial, rep_len h, cs, h, rfl⟩

theorem BRep_val_rep {rt : Nat → RSt} {τ σ : Ty} {x : τ.den} {cs : List Value} (h : BRep w S rt rv (.val τ x) σ cs) : τ = σ ∧ rep w S τ 0 x cs (fun _ => False) := by
  have h0 := BRep_rsv h
  simp only [BRep] at h
  obtain ⟨rfl, h1, h2⟩ := h
  simp only [RSV] at h2
  obtain ⟨cs', h3, h4⟩ := h2
  have e := wrap_cells h3
  rw [← h4, h0.2] at e
  subst e
  exact ⟨rfl, h3⟩

theorem BRepL_expand {rt : Nat → RSt} : ∀ {τ : Ty} {x : τ.den} {cs : List Value}, rep w S τ 0 x cs (fun _ => False) → BRepL w S rt rv (fieldsOf τ x) τ cs
  | .one f, x, cs, h => by simp only [fieldsOf, BRepL]; exact BRep_val (τ := f) h
  | .pair f r, x, cs, h => by
    obtain ⟨F1, F2, h1, h2, h3, h4⟩ := h
    have e1 : rep w S f 0 x.1 (cs.take f.size) (fun _ => False) := rep_iff h1 fun b => ⟨fun h => h.elim, fun h => (h4 b).2 (.inl h)⟩
    have e2 : rep w S r 0 x.2 (cs.drop f.size) (fun _ => False) := rep_iff h2 fun b => ⟨fun h => h.elim, fun h => (h4 b).2 (.inr h)⟩
    simp only [fieldsOf]
    rw [brepL_pair]
    exact ⟨BRep_val e1, BRepL_expand e2⟩
  | .int k, x, cs, h => by simp only [fieldsOf, BRepL]; exact BRep_val h
  | .bool, x, cs, h => by simp only [fieldsOf, BRepL]; exact BRep_val h
  | .str, x, cs, h => by simp only [fieldsOf, BRepL]; exact BRep_val h
  | .list e, x, cs, h => by simp only [fieldsOf, BRepL]; exact BRep_val h

/-- one field -/
theorem BRepL_get {rt : Nat → RSt} : ∀ {σ : Ty} {vs : List SV} {cs : List Value} {k : Nat} {τ : Ty} {δ : Nat} {v : SV}, BRepL w S rt rv vs σ cs → σ.fldOff k = some (τ, δ) → vs[k]? = some v →
    BRep w S rt rv v τ ((cs.drop δ).take τ.size) ∧ δ + τ.size ≤ σ.size ∧
    ∀ (u : SV) (cs' : List Value), cs'.length = cs.length → (∀ i, i < δ ∨ δ + τ.size ≤ i → cs'[i]? = cs[i]?) → BRep w S rt rv u τ ((cs'.drop δ).take τ.size) → BRepL w S rt rv (vs.set k u) σ cs'
  | .one f, vs, cs, 0, τ, δ, v, h, hk, hv => by
    simp [Ty.fldOff] at hk
    obtain ⟨rfl, rfl⟩ := hk
    match vs, h with
    | [x], h =>
      simp at hv; subst hv
      simp only [BRepL] at h
      have hl := BRep_len h
      refine ⟨by rw [List.drop_zero, List.take_of_length_le (by omega)]; exact h, by simp [Ty.size], ?_⟩
      intro u cs' h1 h2 h3
      rw [List.drop_zero, List.take_of_length_le (by omega)] at h3
      simpa [BRepL] using h3
    | [], h => simp [BRepL] at h
    | _ :: _ :: _, h => simp [BRepL] at h
  | .one f, vs, cs, k + 1, τ, δ, v, h, hk, hv => by simp [Ty.fldOff] at hk
  | .pair f r, vs, cs, 0, τ, δ, v, h, hk, hv => by
    simp [Ty.fldOff] at hk
    obtain ⟨rfl, rfl⟩ := hk
    match vs, h with
    | x :: vs, h =>
      simp at hv; subst hv
      rw [brepL_pair] at h
      refine ⟨by simpa using h.1, by simp [Ty.size], ?_⟩
      intro u cs' h1 h2 h3
      simp only [List.set_cons_zero]
      rw [brepL_pair]
      refine ⟨by simpa using h3, ?_⟩
      have e : cs'.drop f.size = cs.drop f.size := by
        apply List.ext_getElem?
        intro i
        rw [List.getElem?_drop, List.getElem?_drop]
        exact h2 _ (by omega)
      rw [e]; exact h.2
    | [], h => simp [BRepL] at h
  | .pair f r, vs, cs, k + 1, τ, δ, v, h, hk, hv => by
    simp only [Ty.fldOff, Option.map_eq_some_iff] at hk
    obtain ⟨⟨σ', δ'⟩, hk, e⟩ := hk
    obtain ⟨rfl, rfl⟩ : σ' = τ ∧ f.size + δ' = δ := by simpa using e
    match vs, h with
    | x :: vs, h =>
      simp at hv
      rw [brepL_pair] at h
      obtain ⟨g1, g2, g3⟩ := BRepL_get h.2 hk hv
      refine ⟨by rw [take_drop_pair] at g1; exact g1, by simp [Ty.size]; omega, ?_⟩
      intro u cs' h1 h2 h3
      simp only [List.set_cons_succ]
      rw [brepL_pair]
      refine ⟨?_, g3 u _ (by simp [h1]) (fun i hi => by rw [List.getElem?_drop, List.getElem?_drop]; exact h2 _ (by omega)) (by rw [take_drop_pair]; exact h3)⟩
      have e : cs'.take f.size = cs.take f.size := by
        apply List.ext_getElem?
        intro i
        by_cases hi : i < f.size
        · rw [List.getElem?_take_of_lt hi, List.getElem?_take_of_lt hi]; exact h2 _ (by omega)
        · rw [List.getElem?_take_eq_none (by omega), List.getElem?_take_eq_none (by omega)]
      rw [e]; exact h.1
    | [], h => simp [BRepL] at h
  | .int _, _, _, _, _, _, _, _, hk, _ | .bool, _, _, _, _, _, _, _, hk, _ | .str, _, _, _, _, _, _, _, hk, _ | .list _, _, _, _, _, _, _, _, hk, _ => by simp [Ty.fldOff] at hk

/-- a place in a box: read, and laid anew -/
theorem BRep_path {rt : Nat → RSt} : ∀ (p : List Nat) {σ : Ty} {c : SV} {cs : List Value} {τ : Ty} {δ : Nat} {v : SV}, BRep w S rt rv c σ cs → fldPath σ p = some (τ, δ) → getSV c p = some v →
    BRep w S rt rv v τ ((cs.drop δ).take τ.size) ∧ δ + τ.size ≤ σ.size ∧
    ∀ (u c' : SV) (cs' : List Value), setSV c p u = some c' → cs'.length = cs.length → (∀ i, i < δ ∨ δ + τ.size ≤ i → cs'[i]? = cs[i]?) → BRep w S rt rv u τ ((cs'.drop δ).take τ.size) → BRep w S rt rv c' σ cs'
  | [], σ, c, cs, τ, δ, v, h, hp, hg => by
    simp [fldPath] at hp
    obtain ⟨rfl, rfl⟩ := hp
    simp [getSV] at hg
    subst hg
    have hl := BRep_len h
    refine ⟨by rw [List.drop_zero, List.take_of_length_le (by omega)]; exact h, by omega, ?_⟩
    intro u c' cs' h1 h2 h3 h4
    simp [setSV] at h1
    subst h1
    rw [List.drop_zero, List.take_of_length_le (by omega)] at h4
    exact h4
  | k :: p, σ, c, cs, τ, δ, v, h, hp, hg => by
    simp only [fldPath, Option.bind_eq_some_iff, Option.map_eq_some_iff] at hp
    obtain ⟨⟨σ1, δ1⟩, hk, ⟨⟨τ2, δ2⟩, hp, e⟩⟩ := hp
    obtain ⟨rfl, rfl⟩ : τ2 = τ ∧ δ1 + δ2 = δ := by simpa using e
    -- the fields
    have flds : ∀ (vs : List SV), BRepL w S rt rv vs σ cs → σ.isAgg = true → (vs[k]?).bind (fun v => getSV v p) = some v →
        BRep w S rt rv v τ2 ((cs.drop (δ1 + δ2)).take τ2.size) ∧ δ1 + δ2 + τ2.size ≤ σ.size ∧
        ∀ (u c' : SV) (cs' : List Value), ((vs[k]?).bind fun v => (setSV v p u).map fun v' => .agg (vs.set k v')) = some c' → cs'.length = cs.length →
          (∀ i, i < δ1 + δ2 ∨ δ1 + δ2 + τ2.size ≤ i → cs'[i]? = cs[i]?) → BRep w S rt rv u τ2 ((cs'.drop (δ1 + δ2)).take τ2.size) → BRep w S rt rv c' σ cs' := by
      intro vs hL ha hgv
      obtain ⟨x, hx, hgx⟩ := Option.bind_eq_some_iff.1 hgv
      obtain ⟨g1, g2, g3⟩ := BRepL_get hL hk hx
      obtain ⟨k1, k2, k3⟩ := BRep_path p g1 hp hgx
      have tt : ∀ l : List Value, (((l.drop δ1).take σ1.size).drop δ2).take τ2.size = (l.drop (δ1 + δ2)).take τ2.size := by
        intro l
        rw [List.drop_take, List.drop_drop, List.take_take, Nat.min_eq_left (by omega)]
      rw [tt] at k1
      refine ⟨k1, by omega, ?_⟩
      intro u c' cs' h1 h2 h3 h4
      rw [hx] at h1
      obtain ⟨v', h5, rfl⟩ := Option.map_eq_some_iff.1 h1
      have hlen := BRepL_len hL
      simp only [BRep]
      refine ⟨ha, g3 v' cs' h2 (fun i hi => h3 i (by omega)) (k3 u v' _ h5 (by simp [h2]) (fun i hi => ?_) (by rw [tt]; exact h4))⟩
      by_cases hi' : i < σ1.size
      · rw [List.getElem?_take_of_lt hi', List.getElem?_take_of_lt hi', List.getElem?_drop, List.getElem?_drop]
        exact h3 _ (by omega)
      · rw [List.getElem?_take_eq_none (by omega), List.getElem?_take_eq_none (by omega)]
    have ha : σ.isAgg = true := by cases σ <;> first | rfl | (simp [Ty.fldOff] at hk)
    cases c with
    | val τ' x =>
      obtain ⟨rfl, hr⟩ := BRep_val_rep h
      exact flds _ (BRepL_expand hr) ha hg
    | agg vs =>
      simp only [BRep] at h
      exact flds vs h.2 ha hg
    | _ => simp [getSV] at hg

mutual
/-- what can be stored -/
theorem stor_sound (m : Mem C s.rt rv F S G w) : ∀ {v : SV} {σ : Ty} {u : Value} {l l' : List Nat}, (stor v σ).run s l = some ((), l') → RSV w S s.rt rv v u → BRep w S s.rt rv v σ u.cells.toList
  | .val τ x, σ, u, l, l', h, hv => by
    simp only [stor] at h
    split at h
    · rename_i e
      subst e
      have hv' := hv
      simp only [RSV] at hv
      obtain ⟨cs, h1, rfl⟩ := hv
      rw [wrap_cells h1]
      exact BRep_val h1
    · exact (fail_some h).elim
  | .nil, σ, u, l, l', h, hv => by
    cases σ <;> simp only [stor] at h <;> try exact (fail_some h).elim
    simp only [RSV] at hv
    obtain ⟨A, rfl⟩ := hv
    simp only [BRep]
    exact ⟨⟨_, rfl⟩, A, rfl⟩
  | .at id ver p, σ, u, l, l', h, hv => by
    cases σ <;> simp only [stor] at h <;> try exact (fail_some h).elim
    rename_i e
    obtain ⟨y, l1, h1, h2⟩ := run_bind_some h
    split at h2
    · rename_i he
      obtain ⟨τ, xs⟩ := y
      simp only at he
      subst he
      obtain ⟨A, c, rfl, _⟩ := content_list m h1 hv
      simp only [BRep]
      exact ⟨⟨_, rfl⟩, _, rfl, rfl, hv⟩
    · exact (fail_some h2).elim
  | .agg vs, σ, u, l, l', h, hv => by
    simp only [stor] at h
    cases ha : σ.isAgg with
    | false => rw [ha] at h; exact (fail_some h).elim
    | true =>
      rw [ha] at h
      simp only [RSV] at hv
      obtain ⟨us, h1, rfl⟩ := hv
      simp only [BRep]
      refine ⟨ha, ?_⟩
      simpa [Value.cells] using storL_sound m h h1
  | .ptr _ _ _ _, _, _, _, _, h, _ | .sp _ _, _, _, _, _, h, _ | .bp _ _, _, _, _, _, h, _ | .tup _, _, _, _, _, h, _ | .fn _ _, _, _, _, _, h, _ | .undef, _, _, _, _, h, _ => by
    simp only [stor] at h; exact (fail_some h).elim
theorem storL_sound (m : Mem C s.rt rv F S G w) : ∀ {vs : List SV} {σ : Ty} {us : List Value} {l l' : List Nat}, (storL vs σ).run s l = some ((), l') → RSVs w S s.rt rv vs us →
    BRepL w S s.rt rv vs σ (us.flatMap fun u => u.cells.toList)
  | [], σ, us, l, l', h, hv => by simp only [storL] at h; exact (fail_some h).elim
  | v :: vs, .pair f r, us, l, l', h, hv => by
    have h' : ((stor v f).bind fun _ => storL vs r).run s l = some ((), l') := by cases vs <;> simpa only [storL] using h
    obtain ⟨_, l1, h1, h2⟩ := run_bind_some h'
    simp only [RSVs] at hv
    obtain ⟨u, us', rfl, h3, h4⟩ := hv
    have a := stor_sound m h1 h3
    have b := storL_sound m h2 h4
    have hl := BRep_len a
    rw [brepL_pair, List.flatMap_cons, List.take_left' hl, List.drop_left' hl]
    exact ⟨a, b⟩
  | [v], .one f, us, l, l', h, hv => by
    simp only [storL] at h
    simp only [RSVs] at hv
    obtain ⟨u, us', rfl, h3, rfl⟩ := hv
    simpa [BRepL] using stor_sound m h h3
  | _ :: _ :: _, .one _, us, l, l', h, hv => by simp only [storL] at h; exact (fail_some h).elim
  | [_], .int _, us, l, l', h, hv | [_], .bool, us, l, l', h, hv | [_], .str, us, l, l', h, hv | [_], .list _, us, l, l', h, hv => by simp only [storL] at h; exact (fail_some h).elim
  | _ :: _ :: _, .int _, us, l, l', h, hv | _ :: _ :: _, .bool, us, l, l', h, hv | _ :: _ :: _, .str, us, l, l', h, hv | _ :: _ :: _, .list _, us, l, l', h, hv => by simp only [storL] at h; exact (fail_some h).elim
end
end
end Go.Abs
set_option linter.unusedVariables false
set_option linter.unusedSimpArgs false
set_option linter.unnecessarySimpa false
set_option linter.unusedSectionVars false
namespace Go.Abs
open Go
section
variable {C : Ctx} {s : St} {rv : Nat → Value} {F : Nat → Fp} {S G : Fp} {w : World} {P : Program} {E : Env} {a : Act}

theorem walkV_fl {w : World} {v : Value} {e σ τ : Ty} {p : List Step} {b o k δ : Nat} (hw : walkV w v e p = some (σ, b, o)) (hk : σ.fldOff k = some (τ, δ)) :
    walkV w v e (p ++ [.fl k]) = some (τ, b, o + δ) := by
  have hpn : p ≠ [] := by rintro rfl; simp [walkV] at hw
  rw [walkV_append hpn, hw]
  have e' : walk w σ b o [.fl k] = match σ.fldOff k with | some (σ, δ) => walk w σ b (o + δ) [] | none => none := by cases σ <;> rfl
  simp only [Option.bind_some]
  rw [e', hk]
  simp [walk]

/-- what stands at a place, in slots -/
theorem sv_sound {id : Nat} {r : Root} {dd : Nat} (hr : s.rt id = .live r) {b : Nat} {arr : Array Value} (hb : Has w b arr) :
    ∀ (τ : Ty), (∀ (p : List Step) (o : Nat) (x : τ.den) (Fs : Fp), walkV w (rv id) r.τ p = some (τ, b, o) → dd = r.d + 1 - nix p → nix p ≤ r.d + 1 → nix p ≠ 0 → o + τ.size ≤ arr.size →
        rep w S τ dd x (seg arr o τ.size) Fs → RSV w S s.rt rv (svAt id r.ver dd τ p x) (τ.wrap (seg arr o τ.size))) ∧
      (∀ (p : List Step) (σ : Ty) (o k δ : Nat) (x : τ.den) (Fs : Fp), walkV w (rv id) r.τ p = some (σ, b, o) → (∀ j τ' δ', τ.fldOff j = some (τ', δ') → σ.fldOff (k + j) = some (τ', δ + δ')) →
        dd = r.d + 1 - nix p → nix p ≤ r.d + 1 → nix p ≠ 0 → o + δ + τ.size ≤ arr.size → rep w S τ dd x (seg arr (o + δ) τ.size) Fs →
        ∃ us, RSVs w S s.rt rv (svF id r.ver dd τ p k x) us ∧ us.flatMap (fun u => u.cells.toList) = seg arr (o + δ) τ.size) := by
  -- a plain value
  have plain : ∀ (τ : Ty) (o : Nat) (x : τ.den) (Fs : Fp), (τ.flat || Nat.beq dd 0) = true → rep w S τ dd x (seg arr o τ.size) Fs → RSV w S s.rt rv (.val τ x) (τ.wrap (seg arr o τ.size)) := by
    intro τ o x Fs hc hrep
    simp only [RSV]
    refine ⟨_, ?_, rfl⟩
    rcases Bool.or_eq_true_iff.1 hc with hc | hc
    · exact rep_iff (rep_flat (d' := 0) (S' := S) (w' := w) hc hrep) fun b => ⟨fun h => h.elim, fun h => absurd h (rep_none (.inr hc) hrep b)⟩
    · have h0 : dd = 0 := Nat.eq_of_beq_eq_true hc
      rw [h0] at hrep
      exact rep_iff hrep fun b => ⟨fun h => h.elim, fun h => absurd h (rep_none (.inl rfl) hrep b)⟩
  -- the value, of its fields
  have ofFields : ∀ (τ : Ty), τ.isAgg = true →
      (∀ (p : List Step) (σ : Ty) (o k δ : Nat) (x : τ.den) (Fs : Fp), walkV w (rv id) r.τ p = some (σ, b, o) → (∀ j τ' δ', τ.fldOff j = some (τ', δ') → σ.fldOff (k + j) = some (τ', δ + δ')) →
        dd = r.d + 1 - nix p → nix p ≤ r.d + 1 → nix p ≠ 0 → o + δ + τ.size ≤ arr.size → rep w S τ dd x (seg arr (o + δ) τ.size) Fs →
        ∃ us, RSVs w S s.rt rv (svF id r.ver dd τ p k x) us ∧ us.flatMap (fun u => u.cells.toList) = seg arr (o + δ) τ.size) →
      (∀ (p : List Step) (o : Nat) (x : τ.den) (Fs : Fp), walkV w (rv id) r.τ p = some (τ, b, o) → dd = r.d + 1 - nix p → nix p ≤ r.d + 1 → nix p ≠ 0 → o + τ.size ≤ arr.size →
        rep w S τ dd x (seg arr o τ.size) Fs → RSV w S s.rt rv (svAt id r.ver dd τ p x) (τ.wrap (seg arr o τ.size))) := by
    intro τ ha hf p o x Fs hw hd hn hn0 ho hrep
    unfold svAt svV
    cases hc : τ.flat || Nat.beq dd 0 with
    | true => exact plain τ o x Fs hc hrep
    | false =>
      obtain ⟨us, g1, g2⟩ := hf p τ o 0 0 x Fs hw (fun j τ' δ' h => by simpa using h) hd hn hn0 (by simpa using ho) (by simpa using hrep)
      have : RSV w S s.rt rv (.agg (svF id r.ver dd τ p 0 x)) (τ.wrap (seg arr o τ.size)) := by
        simp only [RSV, Ty.wrap, ha, if_true]
        exact ⟨us, g1, by rw [g2]; simp⟩
      cases τ <;> first | exact this | (simp [Ty.isAgg] at ha)
  have base : ∀ (τ : Ty), (∀ j, τ.fldOff j = none) → (∀ p k x, svF id r.ver dd τ p k x = [.undef]) →
      ∀ (p : List Step) (σ : Ty) (o k δ : Nat) (x : τ.den) (Fs : Fp), rep w S τ dd x (seg arr (o + δ) τ.size) Fs →
        ∃ us, RSVs w S s.rt rv (svF id r.ver dd τ p k x) us ∧ us.flatMap (fun u => u.cells.toList) = seg arr (o + δ) τ.size := by
    intro τ _ hu p σ o k δ x Fs hrep
    rw [hu]
    exact ⟨[τ.wrap (seg arr (o + δ) τ.size)], by simp only [RSVs, RSV]; exact ⟨_, _, rfl, trivial, rfl⟩, by simp [wrap_cells hrep]⟩
  intro τ
  induction τ with
  | int k =>
    refine ⟨fun p o x Fs hw hd hn hn0 ho hrep => ?_, fun p σ o k' δ x Fs hw hf hd hn hn0 ho hrep => base _ (fun j => by simp [Ty.fldOff]) (fun _ _ _ => rfl) p σ o k' δ x Fs hrep⟩
    have : svAt id r.ver dd (.int k) p x = .val (.int k) x := by simp [svAt, svV, Ty.flat]
    rw [this]; exact plain _ o x Fs rfl hrep
  | bool =>
    refine ⟨fun p o x Fs hw hd hn hn0 ho hrep => ?_, fun p σ o k' δ x Fs hw hf hd hn hn0 ho hrep => base _ (fun j => by simp [Ty.fldOff]) (fun _ _ _ => rfl) p σ o k' δ x Fs hrep⟩
    have : svAt id r.ver dd .bool p x = .val .bool x := by simp [svAt, svV, Ty.flat]
    rw [this]; exact plain _ o x Fs rfl hrep
  | str =>
    refine ⟨fun p o x Fs hw hd hn hn0 ho hrep => ?_, fun p σ o k' δ x Fs hw hf hd hn hn0 ho hrep => base _ (fun j => by simp [Ty.fldOff]) (fun _ _ _ => rfl) p σ o k' δ x Fs hrep⟩
    have : svAt id r.ver dd .str p x = .val .str x := by simp [svAt, svV, Ty.flat]
    rw [this]; exact plain _ o x Fs rfl hrep
  | list e _ =>
    refine ⟨fun p o x Fs hw hd hn hn0 ho hrep => ?_, fun p σ o k' δ x Fs hw hf hd hn hn0 ho hrep => base _ (fun j => by simp [Ty.fldOff]) (fun _ _ _ => rfl) p σ o k' δ x Fs hrep⟩
    unfold svAt svV
    cases hc : (Ty.list e).flat || Nat.beq dd 0 with
    | true => exact plain _ o x Fs hc hrep
    | false =>
      have hd0 : dd ≠ 0 := by
        rintro rfl
        simp at hc
      show RSV w S s.rt rv (.at id r.ver p) _
      have hl : seg arr o (Ty.list e).size = [(Ty.list e).wrap (seg arr o (Ty.list e).size)] := by
        have := rep_len hrep
        match hq : seg arr o (Ty.list e).size, this with
        | [u], _ => rfl
      simp only [RSV, RAt, hr]
      refine ⟨Nat.le_refl _, fun h => absurd h hn0, fun _ _ => ⟨by omega, e, b, o, hw, ?_⟩⟩
      rw [hb.cell]
      have : (seg arr o (Ty.list e).size)[0]? = some ((Ty.list e).wrap (seg arr o (Ty.list e).size)) := by rw [hl]; rfl
      rw [seg_get, if_pos (by simp [Ty.size])] at this
      simpa using this
  | one f ih =>
    have hf : ∀ (p : List Step) (σ : Ty) (o k δ : Nat) (x : (Ty.one f).den) (Fs : Fp), walkV w (rv id) r.τ p = some (σ, b, o) → (∀ j τ' δ', (Ty.one f).fldOff j = some (τ', δ') → σ.fldOff (k + j) = some (τ', δ + δ')) →
        dd = r.d + 1 - nix p → nix p ≤ r.d + 1 → nix p ≠ 0 → o + δ + (Ty.one f).size ≤ arr.size → rep w S (.one f) dd x (seg arr (o + δ) (Ty.one f).size) Fs →
        ∃ us, RSVs w S s.rt rv (svF id r.ver dd (.one f) p k x) us ∧ us.flatMap (fun u => u.cells.toList) = seg arr (o + δ) (Ty.one f).size := by
      intro p σ o k δ x Fs hw hfo hd hn hn0 ho hrep
      have hk := hfo 0 f 0 rfl
      simp only [Nat.add_zero] at hk
      have hx : nix (p ++ [.fl k]) = nix p := by rw [nix_append]; simp [nix]
      have hrep' : rep w S f dd x (seg arr (o + δ) f.size) Fs := hrep
      have := ih.1 (p ++ [.fl k]) (o + δ) x Fs (walkV_fl hw hk) (by rw [hx]; exact hd) (by rw [hx]; exact hn) (by rw [hx]; exact hn0) ho hrep'
      refine ⟨[f.wrap (seg arr (o + δ) f.size)], ?_, ?_⟩
      · simp only [svF, RSVs]
        exact ⟨_, _, rfl, this, rfl⟩
      · simp [wrap_cells hrep']; rfl
    exact ⟨ofFields (.one f) rfl hf, hf⟩
  | pair f r' ihf ihr =>
    have hf : ∀ (p : List Step) (σ : Ty) (o k δ : Nat) (x : (Ty.pair f r').den) (Fs : Fp), walkV w (rv id) r.τ p = some (σ, b, o) → (∀ j τ' δ', (Ty.pair f r').fldOff j = some (τ', δ') → σ.fldOff (k + j) = some (τ', δ + δ')) →
        dd = r.d + 1 - nix p → nix p ≤ r.d + 1 → nix p ≠ 0 → o + δ + (Ty.pair f r').size ≤ arr.size → rep w S (.pair f r') dd x (seg arr (o + δ) (Ty.pair f r').size) Fs →
        ∃ us, RSVs w S s.rt rv (svF id r.ver dd (.pair f r') p k x) us ∧ us.flatMap (fun u => u.cells.toList) = seg arr (o + δ) (Ty.pair f r').size := by
      intro p σ o k δ x Fs hw hfo hd hn hn0 ho hrep
      have hk := hfo 0 f 0 rfl
      simp only [Nat.add_zero] at hk
      have hx : nix (p ++ [.fl k]) = nix p := by rw [nix_append]; simp [nix]
      simp only [Ty.size] at ho
      obtain ⟨F1, F2, h1, h2, _, _⟩ := hrep
      have e1 : (seg arr (o + δ) (Ty.pair f r').size).take f.size = seg arr (o + δ) f.size := by
        have := seg_seg (c := arr) (o := o + δ) (n := (Ty.pair f r').size) (a := 0) (m := f.size) (by simp [Ty.size])
        simpa using this
      have e2 : (seg arr (o + δ) (Ty.pair f r').size).drop f.size = seg arr (o + (δ + f.size)) r'.size := by
        have := seg_seg (c := arr) (o := o + δ) (n := (Ty.pair f r').size) (a := f.size) (m := r'.size) (by simp [Ty.size])
        rw [List.take_of_length_le (by rw [List.length_drop, seg_len (by simp [Ty.size]; omega)]; simp [Ty.size])] at this
        rw [this, Nat.add_assoc]
      rw [e1] at h1
      rw [e2] at h2
      have a1 := ihf.1 (p ++ [.fl k]) (o + δ) x.1 F1 (walkV_fl hw hk) (by rw [hx]; exact hd) (by rw [hx]; exact hn) (by rw [hx]; exact hn0) (by omega) h1
      obtain ⟨us, a2, a3⟩ := ihr.2 p σ o (k + 1) (δ + f.size) x.2 F2 hw (fun j τ' δ' h => by
        have := hfo (j + 1) τ' (f.size + δ') (by simp [Ty.fldOff, h])
        rw [show k + 1 + j = k + (j + 1) by omega, this, Nat.add_assoc]) hd hn hn0 (by omega) h2
      refine ⟨f.wrap (seg arr (o + δ) f.size) :: us, ?_, ?_⟩
      · simp only [svF, RSVs]
        exact ⟨_, _, rfl, a1, a2⟩
      · rw [List.flatMap_cons, wrap_cells h1, a3, ← e1, ← e2, List.take_append_drop]
    exact ⟨ofFields (.pair f r') rfl hf, hf⟩

theorem run_loadAt {t : TypeId} {σ : Ty} (ht : TyOk P t σ) {b o : Nat} {arr : Array Value} (hb : Has w b arr) (ho : o + σ.size ≤ arr.size) :
    (Instr.loadAt t (.pointer (some ⟨b, o, none⟩))).run P w = .ok (σ.wrap (seg arr o σ.size)) w := by
  simp only [Instr.loadAt, Instr.sureAddr, Sem.run_bind, Sem.run_pure, Result.andThen_ok, loadVar, ht.agg]
  unfold Ty.wrap
  cases ha : σ.isAgg with
  | true => simp [Sem.run_bind, ht.size, run_load_seg hb ho]
  | false =>
    have h1 := Ty.size_one ha
    have hlt : o < arr.size := by omega
    have : seg arr o σ.size = [arr[o]] := by rw [h1]; exact seg_one (Array.getElem?_eq_getElem hlt)
    rw [this]
    simp [run_load, hb.cell, Array.getElem?_eq_getElem hlt]

variable (m : Mem C s.rt rv F S G w) (hs : ∀ i, RSV w S s.rt rv (s.sl i) (a.tmps.getD i undef)) (hE : EnvTy P E)
include m hs hE

theorem op_load {n d : Nat} {o : Oper} {t : TypeId} {x : Operand} (ho : o.op = .load t x) {e : Eff} {l l' : List Nat} (h : (op E n d (.load t x)).run s l = some (e, l')) : Quiet P o a w S s rv e := by
  simp only [op] at h
  obtain ⟨σ, bb, h5, h6⟩ := tyOf_some h
  obtain ⟨u, l1, h1, h2⟩ := run_bind_some h6
  have hx := opd_sound hs h1
  have ht := (hE.ok h5).1
  split at h2
  · rename_i id ver p τp
    simp only [live, Rd.run] at h2
    simp only [RSV, RPtr] at hx
    replace hx := hx.2
    cases hr : s.rt id <;> simp only [hr] at h2 <;> try exact (fail_some h2).elim
    rename_i r
    rw [hr] at hx
    cases hc : Nat.ble (nix p) 1 || Nat.beq r.ver ver with
    | false => rw [hc] at h2; exact (fail_some h2).elim
    | true =>
      rw [hc] at h2
      simp only [cond_true] at h2
      split at h2
      · rename_i τ y hg
        split at h2
        · rename_i hy
          subst hy
          have := ret_some h2; cases this
          have hcond : nix p ≤ 1 ∨ r.ver = ver := (Bool.or_eq_true_iff.1 hc).imp Nat.le_of_ble_eq_true Nat.eq_of_beq_eq_true
          obtain ⟨hn, b, o1, hw, hv⟩ := hx.2 hcond
          obtain ⟨y', hy', qk, arr, Fs, Fr, a1, _, a3, a4, _⟩ := focV (m.live id r hr) hw hn
          rw [hy'] at hg
          cases hg
          refine ⟨rfl, τp.wrap (seg arr o1 τp.size), by simp [execOp, ho, hv, run_loadAt ht a1 a3], ?_⟩
          have hn0 : nix p ≠ 0 := by
            cases p with
            | nil => simp [walkV] at hw
            | cons st p => cases st with
              | ix i => simp [nix]
              | fl k => simp [walkV] at hw
          exact (sv_sound hr a1 τp).1 p o1 y' Fs hw (depth_nix p _) hn hn0 a3 a4
        · exact (fail_some h2).elim
      · exact (fail_some h2).elim
  · rename_i τ y
    split at h2
    · rename_i he
      subst he
      have := ret_some h2; cases this
      simp only [RSV, RSp] at hx
      obtain ⟨b, o1, arr, g1, g2, g3, g4, g5⟩ := hx
      refine ⟨rfl, τ.wrap (seg arr o1 τ.size), by simp [execOp, ho, g1, run_loadAt ht g3 g4], ?_⟩
      simp only [RSV]
      exact ⟨_, g5, rfl⟩
    · exact (fail_some h2).elim
  · rename_i id p
    simp only [Rd.run] at h2
    simp only [RSV, RBp] at hx
    cases hr : s.rt id <;> simp only [hr] at h2 <;> try exact (fail_some h2).elim
    rename_i τ c
    rw [hr] at hx
    simp only at hx
    obtain ⟨b, τ', δ', g1, g2, g3⟩ := hx
    rw [g2] at h2
    simp only at h2
    split at h2
    · rename_i he
      subst he
      split at h2
      · rename_i v hv
        have := ret_some h2; cases this
        obtain ⟨b', arr, q1, q2, q3, q4, q6⟩ := m.box id τ c hr
        obtain rfl : b' = b := by rw [g1] at q1; cases q1; rfl
        obtain ⟨k1, k2, _⟩ := BRep_path p q6 g2 hv
        have hseg : (arr.toList.drop δ').take τ'.size = seg arr δ' τ'.size := rfl
        rw [hseg] at k1
        exact ⟨rfl, _, by simp [execOp, ho, g3, run_loadAt ht q2.has (show δ' + τ'.size ≤ arr.size by omega)], (BRep_rsv k1).1⟩
      · exact (fail_some h2).elim
    · exact (fail_some h2).elim
  · exact (fail_some h2).elim
end
end Go.Abs
set_option linter.unusedVariables false
set_option linter.unusedSimpArgs false
set_option linter.unnecessarySimpa false
set_option linter.unusedSectionVars false
namespace Go.Abs
open Go

def updRt (rt : Nat → RSt) (id : Nat) (x : RSt) : Nat → RSt := fun j => if j = id then x else rt j

theorem putRs_one (s : St) (id : Nat) (x : RSt) : (putRs [(id, x)] s).rt = updRt s.rt id x := by
  funext j
  simp [put_sl, put_rt, putR_sl, putR_rt, putRs, updRt]

theorem putRs_last (s : St) (l : RL) (id : Nat) (x : RSt) : (putRs (l ++ [(id, x)]) s).rt = updRt (putRs l s).rt id x := by
  rw [putRs_app, putRs_one]

section
variable {C : Ctx} {rt : Nat → RSt} {rv : Nat → Value} {F : Nat → Fp} {S G : Fp} {w w' : World}

/-- A box begins. -/
theorem newBox (m : Mem C rt rv F S G w) {id : Nat} (h0 : rt id = .none)
    (hw : ∀ b, b < w.heap.size → w'.heap[b]? = w.heap[b]?) (hsz : w.heap.size ≤ w'.heap.size) (hsame : Same w w')
    {σ : Ty} {c : SV} {b : Nat} {arr : Array Value} (hb : w.heap.size ≤ b) (ho : Own 1 w' b arr) (ha : arr.size = σ.size) (hr : BRep w S rt rv c σ arr.toList) :
    Mem C (updRt rt id (.box σ c)) (fun j => if j = id then .pointer (some ⟨b, 0, none⟩) else rv j) (fun j b' => if j = id then b' = b else F j b') S G w' ∧
    Keep w S rt rv w' S (updRt rt id (.box σ c)) (fun j => if j = id then .pointer (some ⟨b, 0, none⟩) else rv j) := by
  have hS : ∀ b, S b → w'.heap[b]? = w.heap[b]? := fun b hb => hw b (m.slt b hb)
  have hFi : ∀ i b, F i b → w'.heap[b]? = w.heap[b]? := fun i b hb => hw b (m.lt hb)
  have hno : ∀ b, ¬ F id b := fun b hb => by rcases m.none id b hb with ⟨r, hr⟩ | ⟨σ, c, hr⟩ | ⟨r, q, hr⟩ <;> (rw [h0] at hr; cases hr)
  have K : Keep w S rt rv w' S (updRt rt id (.box σ c)) (fun j => if j = id then .pointer (some ⟨b, 0, none⟩) else rv j) := by
    refine ⟨fun _ h => h, hS, fun j hj => ?_, fun j hj => ?_, fun j r' h hn => ?_, fun j r q h hn => ?_, fun j τ xs h hn => ?_, fun j σ c h hn => ?_⟩
    · by_cases h : j = id
      · subst h; exact absurd h0 hj
      · simp [put_sl, put_rt, putR_sl, putR_rt, h]
    · by_cases h : j = id
      · simp [put_sl, put_rt, putR_sl, putR_rt, updRt, h]
      · simpa [put_sl, put_rt, putR_sl, putR_rt, updRt, h] using hj
    · by_cases hj : j = id
      · subst hj; exact absurd h0 hn
      · simp [put_sl, put_rt, putR_sl, putR_rt, updRt, hj] at h
        refine .inl ⟨r', h, rfl, fun _ => rfl, Nat.le_refl _, fun _ p σ b o hnx hwk => ?_⟩
        have hrep := m.live j r' h
        obtain ⟨y, hy, qk, arr, Fs, Fr, a1, _, a3, a4, a5, a6, a7, _⟩ := focV hrep hwk hnx
        have hFb : F j b := (a6 b).2 (.inr (.inr ⟨trivial, rfl⟩))
        exact ⟨walkV_frame hrep hwk hnx (hFi j), fun _ e v he hc => by
          have hb := hFi j b hFb
          simp only [World.cell?, hb] at hc ⊢
          exact hc⟩
    · by_cases hj : j = id
      · subst hj; exact absurd h0 hn
      · simp [put_sl, put_rt, putR_sl, putR_rt, updRt, hj] at h; exact ⟨r, .inr ⟨q, h⟩, rfl, Nat.le_refl _⟩
    · by_cases hj : j = id
      · subst hj; exact absurd h0 hn
      · simp [put_sl, put_rt, putR_sl, putR_rt, updRt, hj] at h; exact .inl h
    · by_cases hj : j = id
      · subst hj; exact absurd h0 hn
      · simp [put_sl, put_rt, putR_sl, putR_rt, updRt, hj] at h; exact ⟨c, h⟩
  refine ⟨?_, K⟩
  constructor
  · intro j r h
    by_cases hj : j = id
    · subst hj; simp [put_sl, put_rt, putR_sl, putR_rt, updRt] at h
    · simp [put_sl, put_rt, putR_sl, putR_rt, updRt, hj] at h
      simp only [hj, if_false]
      exact rep_frame (fun _ h => h) hS (hFi j) (m.live j r h)
  · intro j τ xs h
    by_cases hj : j = id
    · subst hj; simp [put_sl, put_rt, putR_sl, putR_rt, updRt] at h
    · simp [put_sl, put_rt, putR_sl, putR_rt, updRt, hj] at h
      simp only [hj, if_false]
      exact rep_frame (fun _ h => h) hS (fun _ h => h.elim) (m.frz j τ xs h)
  · intro j σ' c' h
    by_cases hj : j = id
    · subst hj
      simp [put_sl, put_rt, putR_sl, putR_rt, updRt] at h
      obtain ⟨rfl, rfl⟩ := h
      exact ⟨b, arr, by simp, ho, ha, fun b' => by simp, BRep_keep K _ _ _ hr⟩
    · simp [put_sl, put_rt, putR_sl, putR_rt, updRt, hj] at h
      obtain ⟨b1, arr1, q1, q2, q3, q4, q6⟩ := m.box j σ' c' h
      exact ⟨b1, arr1, by simpa [put_sl, put_rt, putR_sl, putR_rt, hj] using q1, q2.of_eq (hFi j b1 ((q4 b1).2 rfl)), q3, by simpa [put_sl, put_rt, putR_sl, putR_rt, hj] using q4, BRep_keep K _ _ _ q6⟩
  · intro j r q h
    by_cases hj : j = id
    · subst hj; simp [put_sl, put_rt, putR_sl, putR_rt, updRt] at h
    · simp [put_sl, put_rt, putR_sl, putR_rt, updRt, hj] at h
      simp only [hj, if_false]
      exact (m.hole j r q h).frame (fun _ => Iff.rfl) (fun _ h => h) hsz (fun b hb => hb.elim (hFi j b) (hS b))
  · intro j b' hb'
    by_cases hj : j = id
    · subst hj; exact .inr (.inl ⟨σ, c, by simp [put_sl, put_rt, putR_sl, putR_rt, updRt]⟩)
    · simp only [hj, if_false] at hb'
      simpa [put_sl, put_rt, putR_sl, putR_rt, updRt, hj] using m.none j b' hb'
  · intro i j b' hi hj
    by_cases h1 : i = id <;> by_cases h2 : j = id
    · rw [h1, h2]
    · simp only [h1, h2, if_true, if_false] at hi hj; subst hi; have := m.lt hj; omega
    · simp only [h1, h2, if_true, if_false] at hi hj; subst hj; have := m.lt hi; omega
    · simp only [h1, h2, if_false] at hi hj; exact m.dis i j b' hi hj
  · intro j b' hb'
    by_cases hj : j = id
    · simp only [hj, if_true] at hb'
      subst hb'
      exact ⟨fun h => by have := m.slt _ h; omega, fun h => by have := m.glt _ h; omega⟩
    · simp only [hj, if_false] at hb'; exact m.sep j b' hb'
  · exact m.gsep
  · exact fun b hb => Nat.lt_of_lt_of_le (m.glt b hb) hsz
  · exact fun b hb => Nat.lt_of_lt_of_le (m.slt b hb) hsz
  · exact m.same.trans hsame
  · exact Nat.le_trans m.size hsz
  · exact fun b hb hf => (hw b (Nat.lt_of_lt_of_le hb m.size)).trans (m.frame b hb hf)
  · rintro j b' (hb' | hb')
    · by_cases hj : j = id
      · simp only [hj, if_true] at hb'; subst hb'; exact .inr (Nat.le_trans m.size hb)
      · simp only [hj, if_false] at hb'; exact m.own j b' (.inl hb')
    · exact m.own j b' (.inr hb')
  · exact m.s0
  · exact m.shr
  · exact m.ok

/-- A block of one root changes. -/
theorem keepOthers (m : Mem C rt rv F S G w) {id : Nat} (hw : ∀ b, ¬ F id b → b < w.heap.size → w'.heap[b]? = w.heap[b]?) :
    (∀ b, S b → w'.heap[b]? = w.heap[b]?) ∧ (∀ j, j ≠ id → ∀ b, F j b → w'.heap[b]? = w.heap[b]?) ∧
    (∀ j, j ≠ id → ∀ r, rt j = .live r → ∀ p σ b o, nix p ≤ r.d + 1 → walkV w (rv j) r.τ p = some (σ, b, o) → walkV w' (rv j) r.τ p = some (σ, b, o) ∧
      (nix p ≤ r.d → ∀ e v, σ = .list e → w.cell? ⟨b, o, none⟩ = some v → w'.cell? ⟨b, o, none⟩ = some v)) := by
  have hS : ∀ b, S b → w'.heap[b]? = w.heap[b]? := fun b hb => hw b (fun h => (m.sep id b h).1 hb) (m.slt b hb)
  have hF : ∀ j, j ≠ id → ∀ b, F j b → w'.heap[b]? = w.heap[b]? := fun j hj b hb => hw b (fun h => hj (m.dis j id b hb h)) (m.lt hb)
  refine ⟨hS, hF, fun j hj r hr p σ b o hn hwk => ?_⟩
  have hrep := m.live j r hr
  obtain ⟨y, hy, qk, arr, Fs, Fr, a1, _, a3, a4, a5, a6, a7, _⟩ := focV hrep hwk hn
  have hFb : F j b := (a6 b).2 (.inr (.inr ⟨trivial, rfl⟩))
  exact ⟨walkV_frame hrep hwk hn (hF j hj), fun _ e v he hc => by
    have hb := hF j hj b hFb
    simp only [World.cell?, hb] at hc ⊢
    exact hc⟩

/-- A box is written. -/
theorem setBox (m : Mem C rt rv F S G w) {id : Nat} {σ : Ty} {c c' : SV} (h0 : rt id = .box σ c) {b : Nat} {arr' : Array Value} (hrv : rv id = .pointer (some ⟨b, 0, none⟩))
    (hw : ∀ k, k ≠ b → w'.heap[k]? = w.heap[k]?) (hsz : w'.heap.size = w.heap.size) (hsame : Same w w') (ho : Own 1 w' b arr') (ha : arr'.size = σ.size)
    (hr : BRep w S rt rv c' σ arr'.toList) :
    Mem C (updRt rt id (.box σ c')) rv F S G w' ∧ Keep w S rt rv w' S (updRt rt id (.box σ c')) rv := by
  obtain ⟨b1, arr, q1, q2, q3, q4, q6⟩ := m.box id σ c h0
  obtain rfl : b1 = b := by rw [hrv] at q1; cases q1; rfl
  obtain ⟨hS, hF, hwk⟩ := keepOthers (w' := w') m (id := id) (fun k hk _ => hw k (fun e => hk ((q4 k).2 e)))
  have K : Keep w S rt rv w' S (updRt rt id (.box σ c')) rv := by
    refine ⟨fun _ h => h, hS, fun j hj => rfl, fun j hj => ?_, fun j r' h hn => ?_, fun j r q h hn => ?_, fun j τ xs h hn => ?_, fun j σ' c'' h hn => ?_⟩
    · by_cases h : j = id
      · simp [put_sl, put_rt, putR_sl, putR_rt, updRt, h]
      · simpa [put_sl, put_rt, putR_sl, putR_rt, updRt, h] using hj
    · by_cases hj : j = id
      · subst hj; simp [put_sl, put_rt, putR_sl, putR_rt, updRt] at h
      · simp [put_sl, put_rt, putR_sl, putR_rt, updRt, hj] at h
        exact .inl ⟨r', h, rfl, fun _ => rfl, Nat.le_refl _, fun _ p σ b o hnx hwk' => hwk j hj r' h p σ b o hnx hwk'⟩
    · by_cases hj : j = id
      · subst hj; simp [put_sl, put_rt, putR_sl, putR_rt, updRt] at h
      · simp [put_sl, put_rt, putR_sl, putR_rt, updRt, hj] at h; exact ⟨r, .inr ⟨q, h⟩, rfl, Nat.le_refl _⟩
    · by_cases hj : j = id
      · subst hj; simp [put_sl, put_rt, putR_sl, putR_rt, updRt] at h
      · simp [put_sl, put_rt, putR_sl, putR_rt, updRt, hj] at h; exact .inl h
    · by_cases hj : j = id
      · subst hj
        simp [put_sl, put_rt, putR_sl, putR_rt, updRt] at h
        obtain ⟨rfl, rfl⟩ := h
        exact ⟨c, h0⟩
      · simp [put_sl, put_rt, putR_sl, putR_rt, updRt, hj] at h; exact ⟨c'', h⟩
  refine ⟨?_, K⟩
  constructor
  · intro j r h
    by_cases hj : j = id
    · subst hj; simp [put_sl, put_rt, putR_sl, putR_rt, updRt] at h
    · simp [put_sl, put_rt, putR_sl, putR_rt, updRt, hj] at h
      exact rep_frame (fun _ h => h) hS (hF j hj) (m.live j r h)
  · intro j τ xs h
    by_cases hj : j = id
    · subst hj; simp [put_sl, put_rt, putR_sl, putR_rt, updRt] at h
    · simp [put_sl, put_rt, putR_sl, putR_rt, updRt, hj] at h
      exact rep_frame (fun _ h => h) hS (fun _ h => h.elim) (m.frz j τ xs h)
  · intro j σ' c'' h
    by_cases hj : j = id
    · subst hj
      simp [put_sl, put_rt, putR_sl, putR_rt, updRt] at h
      obtain ⟨rfl, rfl⟩ := h
      exact ⟨b1, arr', hrv, ho, ha, q4, BRep_keep K _ _ _ hr⟩
    · simp [put_sl, put_rt, putR_sl, putR_rt, updRt, hj] at h
      obtain ⟨b2, arr2, z1, z2, z3, z4, z6⟩ := m.box j σ' c'' h
      exact ⟨b2, arr2, z1, z2.of_eq (hF j hj b2 ((z4 b2).2 rfl)), z3, z4, BRep_keep K _ _ _ z6⟩
  · intro j r q h
    by_cases hj : j = id
    · subst hj; simp [put_sl, put_rt, putR_sl, putR_rt, updRt] at h
    · simp [put_sl, put_rt, putR_sl, putR_rt, updRt, hj] at h
      exact (m.hole j r q h).frame (fun _ => Iff.rfl) (fun _ h => h) (by omega) (fun b hb => hb.elim (hF j hj b) (hS b))
  · intro j b' hb'
    by_cases hj : j = id
    · subst hj; exact .inr (.inl ⟨σ, c', by simp [put_sl, put_rt, putR_sl, putR_rt, updRt]⟩)
    · simpa [put_sl, put_rt, putR_sl, putR_rt, updRt, hj] using m.none j b' hb'
  · exact m.dis
  · exact m.sep
  · exact m.gsep
  · exact fun b hb => by rw [hsz]; exact m.glt b hb
  · exact fun b hb => by rw [hsz]; exact m.slt b hb
  · exact m.same.trans hsame
  · rw [hsz]; exact m.size
  · intro k hk hf
    by_cases e : k = b1
    · exfalso
      subst e
      rcases m.own id k (.inl ((q4 k).2 rfl)) with h | h
      · exact hf h
      · omega
    · exact (hw k e).trans (m.frame k hk hf)
  · exact m.own
  · exact m.s0
  · exact m.shr
  · exact m.ok

/-- A root's content changes. -/
theorem setRoot (m : Mem C rt rv F S G w) {id : Nat} {r r' : Root} (h0 : rt id = .live r ∨ ((∃ q, rt id = .hole r q) ∧ r.ver < r'.ver)) {S' F' : Fp} (hSS : ∀ b, S b → S' b) (hS' : ∀ b, S' b → S b ∨ (F id b ∧ ¬ F' b))
    (hw : ∀ k, ¬ F id k → k < w.heap.size → w'.heap[k]? = w.heap[k]?) (hsz : w.heap.size ≤ w'.heap.size) (hsame : Same w w')
    (hτ : r'.τ = r.τ) (hd : r'.ver = r.ver → r'.d = r.d) (hv : r.ver ≤ r'.ver)
    (hr : rep w' S' (.list r'.τ) (r'.d + 1) r'.xs [rv id] F') (hF' : ∀ b, F' b → F id b ∨ G b ∨ w.heap.size ≤ b)
    (hk : r'.ver = r.ver → ∀ p σ b o, nix p ≤ r.d + 1 → walkV w (rv id) r.τ p = some (σ, b, o) → walkV w' (rv id) r.τ p = some (σ, b, o) ∧
      (nix p ≤ r.d → ∀ e v, σ = .list e → w.cell? ⟨b, o, none⟩ = some v → w'.cell? ⟨b, o, none⟩ = some v)) :
    Mem C (updRt rt id (.live r')) rv (fun j b => if j = id then F' b else F j b) S' (fun b => G b ∧ ¬ F' b) w' ∧ Keep w S rt rv w' S' (updRt rt id (.live r')) rv := by
  obtain ⟨hS, hF, hwk⟩ := keepOthers (w' := w') m (id := id) hw
  have hlt : ∀ b, F id b → b < w.heap.size := fun b hb => m.lt hb
  have K : Keep w S rt rv w' S' (updRt rt id (.live r')) rv := by
    refine ⟨hSS, hS, fun j hj => rfl, fun j hj => ?_, fun j r'' h hn => ?_, fun j r q h hn => ?_, fun j τ xs h hn => ?_, fun j σ' c'' h hn => ?_⟩
    · by_cases h : j = id
      · simp [put_sl, put_rt, putR_sl, putR_rt, updRt, h]
      · simpa [put_sl, put_rt, putR_sl, putR_rt, updRt, h] using hj
    · by_cases hj : j = id
      · subst hj
        simp [put_sl, put_rt, putR_sl, putR_rt, updRt] at h
        subst h
        rcases h0 with h0 | ⟨⟨q, h0⟩, h1⟩
        · exact .inl ⟨r, h0, hτ, hd, hv, hk⟩
        · exact .inr ⟨r, q, h0, hτ, h1⟩
      · simp [put_sl, put_rt, putR_sl, putR_rt, updRt, hj] at h
        exact .inl ⟨r'', h, rfl, fun _ => rfl, Nat.le_refl _, fun _ p σ b o hnx hwk' => hwk j hj r'' h p σ b o hnx hwk'⟩
    · by_cases hj : j = id
      · subst hj; simp [put_sl, put_rt, putR_sl, putR_rt, updRt] at h
      · simp [put_sl, put_rt, putR_sl, putR_rt, updRt, hj] at h; exact ⟨r, .inr ⟨q, h⟩, rfl, Nat.le_refl _⟩
    · by_cases hj : j = id
      · subst hj; simp [put_sl, put_rt, putR_sl, putR_rt, updRt] at h
      · simp [put_sl, put_rt, putR_sl, putR_rt, updRt, hj] at h; exact .inl h
    · by_cases hj : j = id
      · subst hj; simp [put_sl, put_rt, putR_sl, putR_rt, updRt] at h
      · simp [put_sl, put_rt, putR_sl, putR_rt, updRt, hj] at h; exact ⟨c'', h⟩
  -- the others' blocks
  have hFF : ∀ j b, j ≠ id → F j b → ¬ F' b := by
    intro j b hj hb hc
    rcases hF' b hc with h | h | h
    · exact hj (m.dis j id b hb h)
    · exact (m.sep j b hb).2 h
    · have := m.lt hb; omega
  have hF'S : ∀ b, F' b → ¬ S' b := by
    intro b hb hs
    rcases hS' b hs with h | h
    · rcases hF' b hb with h' | h' | h'
      · exact (m.sep id b h').1 h
      · exact m.gsep b h' h
      · have := m.slt b h; omega
    · exact h.2 hb
  refine ⟨?_, K⟩
  constructor
  · intro j r'' h
    by_cases hj : j = id
    · subst hj
      simp [put_sl, put_rt, putR_sl, putR_rt, updRt] at h
      subst h
      simpa using hr
    · simp [put_sl, put_rt, putR_sl, putR_rt, updRt, hj] at h
      simp only [hj, if_false]
      exact rep_frame hSS hS (hF j hj) (m.live j r'' h)
  · intro j τ xs h
    by_cases hj : j = id
    · subst hj; simp [put_sl, put_rt, putR_sl, putR_rt, updRt] at h
    · simp [put_sl, put_rt, putR_sl, putR_rt, updRt, hj] at h
      exact rep_frame hSS hS (fun _ h => h.elim) (m.frz j τ xs h)
  · intro j σ' c'' h
    by_cases hj : j = id
    · subst hj; simp [put_sl, put_rt, putR_sl, putR_rt, updRt] at h
    · simp [put_sl, put_rt, putR_sl, putR_rt, updRt, hj] at h
      obtain ⟨b2, arr2, z1, z2, z3, z4, z6⟩ := m.box j σ' c'' h
      exact ⟨b2, arr2, z1, z2.of_eq (hF j hj b2 ((z4 b2).2 rfl)), z3, by simpa [put_sl, put_rt, putR_sl, putR_rt, hj] using z4, BRep_keep K _ _ _ z6⟩
  · intro j r q h
    by_cases hj : j = id
    · subst hj; simp [put_sl, put_rt, putR_sl, putR_rt, updRt] at h
    · simp [put_sl, put_rt, putR_sl, putR_rt, updRt, hj] at h
      simp only [hj, if_false]
      exact (m.hole j r q h).frame (fun _ => Iff.rfl) hSS hsz (fun b hb => hb.elim (hF j hj b) (hS b))
  · intro j b' hb'
    by_cases hj : j = id
    · subst hj; exact .inl ⟨r', by simp [put_sl, put_rt, putR_sl, putR_rt, updRt]⟩
    · simp only [hj, if_false] at hb'
      simpa [put_sl, put_rt, putR_sl, putR_rt, updRt, hj] using m.none j b' hb'
  · intro i j b' hi hj
    by_cases h1 : i = id <;> by_cases h2 : j = id
    · rw [h1, h2]
    · simp only [h1, h2, if_true, if_false] at hi hj; exact absurd hi (hFF j b' h2 hj)
    · simp only [h1, h2, if_true, if_false] at hi hj; exact absurd hj (hFF i b' h1 hi)
    · simp only [h1, h2, if_false] at hi hj; exact m.dis i j b' hi hj
  · intro j b' hb'
    by_cases hj : j = id
    · simp only [hj, if_true] at hb'
      exact ⟨hF'S b' hb', fun h => h.2 hb'⟩
    · simp only [hj, if_false] at hb'
      refine ⟨fun h => ?_, fun h => (m.sep j b' hb').2 h.1⟩
      rcases hS' b' h with h | h
      · exact (m.sep j b' hb').1 h
      · exact hj (m.dis j id b' hb' h.1)
  · intro b hb hs
    rcases hS' b hs with h | h
    · exact m.gsep b hb.1 h
    · exact (m.sep id b h.1).2 hb.1
  · exact fun b hb => Nat.lt_of_lt_of_le (m.glt b hb.1) hsz
  · intro b hb
    rcases hS' b hb with h | h
    · exact Nat.lt_of_lt_of_le (m.slt b h) hsz
    · exact Nat.lt_of_lt_of_le (hlt b h.1) hsz
  · exact m.same.trans hsame
  · exact Nat.le_trans m.size hsz
  · intro k hk' hf
    have : ¬ F id k := by
      intro h
      rcases m.own id k (.inl h) with h | h
      · exact hf h
      · omega
    exact (hw k this (Nat.lt_of_lt_of_le hk' m.size)).trans (m.frame k hk' hf)
  · rintro j b' (hb' | hb')
    · by_cases hj : j = id
      · simp only [hj, if_true] at hb'
        rcases hF' b' hb' with h | h | h
        · exact m.own id b' (.inl h)
        · exact m.own id b' (.inr h)
        · exact .inr (Nat.le_trans m.size h)
      · simp only [hj, if_false] at hb'; exact m.own j b' (.inl hb')
    · exact m.own j b' (.inr hb'.1)
  · exact fun b hb => hSS b (m.s0 b hb)
  · intro b hb
    rcases hS' b hb with h | h
    · exact m.shr b h
    · exact .inr (m.own id b (.inl h.1))
  · exact m.ok
end
end Go.Abs
