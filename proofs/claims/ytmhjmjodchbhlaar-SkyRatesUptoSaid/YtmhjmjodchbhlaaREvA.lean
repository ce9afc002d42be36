/- An evaluator of the translated code over plain data: definitions alone. Nothing is claimed here; the soundness is proved in the texts that follow. -/
import Derived.WalkKit
import Derived.ProofKit
import Derived.KernelRfl
set_option linter.unusedVariables false
set_option linter.unusedSimpArgs false
namespace Go.Ev

/-- Plain data: no memory in it. -/
inductive D where
  | bool (b : Bool)
  | int (k : IntKind) (n : Int)
  | str (s : ByteArray)
  | agg (t : TypeId) (ds : List D)
  | sl (e : TypeId) (ds : List D)
  | ptr (x : D)
  | np
  deriving Inhabited

abbrev Key := Nat × Nat

/-- Values of the evaluator: data, and references into its own store. -/
inductive V where
  | d (x : D)
  | agg (t : TypeId) (vs : List V)
  | p (k : Key) (ver : Nat) (i : Nat) (path : List (TypeId × Nat))
  | rs (e : TypeId) (k : Key) (ver : Nat) (off len : Nat) (full : Bool)
  | mp (k : Key) (ver : Nat)
  | nils (e : TypeId)
  | fn (f : FuncId) (caps : List V)
  | tup (vs : List V)
  | und
  | jk
  deriving Inhabited

structure Blk where
  ver : Nat
  e : TypeId
  vs : List V
  live : Bool

abbrev Store := Key → Blk
def keq (k k' : Key) : Bool := k.1 == k'.1 && k.2 == k'.2
def upd (st : Store) (k : Key) (b : Blk) : Store := fun k' => bif keq k' k then b else st k'
def empty : Store := fun _ => ⟨0, 0, [], false⟩
def newBlk (st : Store) (k : Key) (e : TypeId) (vs : List V) : Store := upd st k ⟨(st k).ver + 1, e, vs, true⟩

/-- What the evaluator asks of a type. -/
inductive TK where
  | one
  | sl (e : TypeId)
  | agg (n : Nat) (arr : Bool)
  | bad
  deriving DecidableEq, Inhabited

def szOf (P : Program) (t : TypeId) : Nat := P.cellsOf t
def offsOk (P : Program) : Nat → List Field → Bool
  | _, [] => true
  | acc, f :: fs => f.offset == acc && decide (0 < szOf P f.type) && offsOk P (acc + szOf P f.type) fs
/-- The sizes of a type's components. -/
def comps (P : Program) (t : TypeId) : Option (List Nat) :=
  match P.underlying t with
  | some (.struct fs) => if offsOk P 0 fs.toList && (fs.toList.map fun f => szOf P f.type).sum == szOf P t && decide (0 < szOf P t) then some (fs.toList.map fun f => szOf P f.type) else none
  | some (.array n e) => if decide (0 < szOf P e) && n * szOf P e == szOf P t && decide (2 ≤ n) then some (List.replicate n (szOf P e)) else none
  | _ => none
def nth {α : Type} : List α → Nat → Option α
  | [], _ => none
  | x :: _, 0 => some x
  | _ :: xs, n + 1 => nth xs n
/-- The types of a type's components. -/
def compTs (P : Program) (t : TypeId) : List TypeId :=
  match P.underlying t with
  | some (.struct fs) => fs.toList.map (·.type)
  | some (.array n e) => List.replicate n e
  | _ => []
def compT (P : Program) (t : TypeId) (i : Nat) : Option TypeId := nth (compTs P t) i
def tk (P : Program) (t : TypeId) : TK :=
  match P.underlying t with
  | some (.struct _) => match comps P t with | some l => .agg l.length false | none => .bad
  | some (.array ..) => match comps P t with | some l => .agg l.length true | none => .bad
  | some (.slice e) => if szOf P t == 1 && decide (0 < szOf P e) && (P.info? e).isSome then .sl e else .bad
  | some _ => if szOf P t == 1 then .one else .bad
  | none => .bad

def V.get : List V → Nat → V
  | [], _ => .und
  | v :: _, 0 => v
  | _ :: vs, n + 1 => V.get vs n
def V.put : List V → Nat → V → List V
  | [], _, _ => []
  | _ :: vs, 0, x => x :: vs
  | v :: vs, n + 1, x => v :: V.put vs n x
def putD (env : List V) (d : Option Tmp) (x : V) : List V := match d with | some t => V.put env t x | none => env

def constT (P : Program) (t : TypeId) : Value → V
  | .bool b => .d (.bool b)
  | .int k n => .d (.int k n)
  | .string s => .d (.str s)
  | .pointer none => .d .np
  | .map none => .jk
  | .slice a n c => match a with
    | none => if n = 0 ∧ c = 0 then (match tk P t with | .sl e => .nils e | _ => .und) else .und
    | some _ => .und
  | _ => .und
def evalT (P : Program) (env : List V) (t : TypeId) : Operand → V
  | .tmp i => V.get env i
  | .const v => constT P t v
  | .func f => .fn f []
  | .global _ => .und
def evArgs (P : Program) (env : List V) : List TypeId → List Operand → List V
  | [], [] => []
  | [], o :: os => evalT P env 0 o :: evArgs P env [] os
  | _ :: _, [] => []
  | t :: ts, o :: os => evalT P env t o :: evArgs P env ts os
def pad : List V → Nat → List V
  | [], 0 => []
  | [], n + 1 => .und :: pad [] n
  | x :: xs, 0 => x :: xs
  | x :: xs, n + 1 => x :: pad xs n
def setN {α : Type} : List α → Nat → α → List α
  | [], _, _ => []
  | _ :: xs, 0, y => y :: xs
  | x :: xs, n + 1, y => x :: setN xs n y

/-- Data alone, no store asked. -/
def V.toD : V → Option D
  | .d x => some x
  | .agg t vs => (V.toDs vs).map (D.agg t)
  | _ => none
where V.toDs : List V → Option (List D)
  | [] => some []
  | v :: vs => match V.toD v, V.toDs vs with
    | some x, some xs => some (x :: xs)
    | _, _ => none
def allD : List V → Option (List D)
  | [] => some []
  | .d x :: vs => (allD vs).map (x :: ·)
  | _ :: _ => none
def mkAgg (t : TypeId) (vs : List V) : V := match allD vs with | some ds => .d (.agg t ds) | none => .agg t vs

def getPath : V → List (TypeId × Nat) → Option V
  | v, [] => some v
  | .d (.agg t ds), (t', i) :: r => if t = t' then match nth ds i with | some x => getPath (.d x) r | none => none else none
  | .agg t vs, (t', i) :: r => if t = t' then match nth vs i with | some x => getPath x r | none => none else none
  | _, _ :: _ => none
def setPath : V → List (TypeId × Nat) → V → Option V
  | _, [], x => some x
  | .d (.agg t ds), (t', i) :: r, x =>
    if t = t' then match nth ds i with
      | some c => match setPath (.d c) r x with
        | some (.d y) => some (.d (.agg t (setN ds i y)))
        | some y => some (.agg t (setN (ds.map V.d) i y))
        | none => none
      | none => none
    else none
  | .agg t vs, (t', i) :: r, x =>
    if t = t' then match nth vs i with
      | some c => match setPath c r x with
        | some y => some (mkAgg t (setN vs i y))
        | none => none
      | none => none
    else none
  | _, _ :: _, _ => none

/-- The value fits a variable of the type. -/
def hasT (P : Program) (t : TypeId) : V → Bool
  | .d (.agg t' _) | .agg t' _ => t' == t && (match tk P t with | .agg _ _ => true | _ => false)
  | .und | .tup _ => false
  | _ => match tk P t with | .one | .sl _ => true | _ => false

def bitsI (op : BinOp) (k : IntKind) (x y : Int) : Int :=
  let a := BitVec.ofInt k.bits x
  let b := BitVec.ofInt k.bits y
  k.wrap (match op with
    | .and => a &&& b
    | .or => a ||| b
    | .xor => a ^^^ b
    | _ => a &&& ~~~b : BitVec k.bits).toNat
def shlI (k : IntKind) (x y : Int) : Int := k.wrap (x * 2 ^ (min y.toNat k.bits))
def shrI (k : IntKind) (x y : Int) : Int := x.fdiv (2 ^ (min y.toNat k.bits))

/-- What kind of values are compared, and what strings are. -/
inductive EK where
  | int | bool | str | agg | ptr | bad
  deriving DecidableEq, Inhabited
def ek (P : Program) (t : TypeId) : EK := match P.underlying t with
  | some (.int _) => .int
  | some .bool => .bool
  | some .string => .str
  | some (.pointer _) => .ptr
  | some (.struct fs) => if !P.stoodInHeld t && !P.eqGuardType P.depth t && fs.toList.all (fun f => f.name != "_") then .agg else .bad
  | _ => .bad
def and2 : Option Bool → Option Bool → Option Bool
  | some a, some b => some (a && b)
  | _, _ => none
/-- Equality of data of a type. -/
def eqD (P : Program) : Nat → TypeId → D → D → Option Bool
  | 0, _, _, _ => none
  | n + 1, t, x, y => match ek P t, x, y with
    | .int, .int k a, .int k' b => if k = k' then some (decide (a = b)) else none
    | .bool, .bool a, .bool b => some (a == b)
    | .str, .str a, .str b => some (a.toList == b.toList)
    | .agg, .agg t1 xs, .agg t2 ys => if t1 = t ∧ t2 = t then match tk P t with
        | .agg _ false => eqDs n (compTs P t) xs ys
        | _ => none
      else none
    | _, _, _ => none
where eqDs (n : Nat) : List TypeId → List D → List D → Option Bool
  | [], [], [] => some true
  | e :: es, x :: xs, y :: ys => if hasT P e (.d x) ∧ hasT P e (.d y) then and2 (eqD P n e x y) (eqDs n es xs ys) else none
  | _, _, _ => none
/-- A byte of a string. -/
def strAt (s : ByteArray) (n : Int) : Option V := match (if 0 ≤ n then s[n.toNat]? else none) with
  | some b => some (.d (.int .u8 b.toNat))
  | none => none
def strCut (s : ByteArray) (lo hi mx : Option Int) : Option V := match mx with
  | some _ => none
  | none => if 0 ≤ lo.getD 0 ∧ lo.getD 0 ≤ hi.getD s.size ∧ hi.getD s.size ≤ s.size then some (.d (.str (s.extract (lo.getD 0).toNat (hi.getD s.size).toNat))) else none

/-- Equality of data that can be compared. -/
def D.eqb : D → D → Option Bool
  | .bool a, .bool b => some (a == b)
  | .int k a, .int k' b => if k = k' then some (decide (a = b)) else none
  | .str a, .str b => some (decide (a = b))
  | .agg t xs, .agg t' ys => if t = t' then D.eqbs xs ys else none
  | _, _ => none
where D.eqbs : List D → List D → Option Bool
  | [], [] => some true
  | x :: xs, y :: ys => match D.eqb x y with
    | some true => D.eqbs xs ys
    | some false => some false
    | none => none
  | _, _ => none

def evBin (P : Program) (op : BinOp) (t : TypeId) : V → V → Option V
  | .d (.int k a), .d (.int k' b) =>
    match op with
    | .shl => if b < 0 then none else some (.d (.int k (shlI k a b)))
    | .shr => if b < 0 then none else some (.d (.int k (shrI k a b)))
    | op => if k = k' then
      match op with
      | .add => some (.d (.int k (k.wrap (a + b))))
      | .sub => some (.d (.int k (k.wrap (a - b))))
      | .mul => some (.d (.int k (k.wrap (a * b))))
      | .quo => if b = 0 then none else some (.d (.int k (k.wrap (a.tdiv b))))
      | .rem => if b = 0 then none else some (.d (.int k (a.tmod b)))
      | .and | .or | .xor | .andNot => some (.d (.int k (bitsI op k a b)))
      | .eql => some (.d (.bool (decide (a = b))))
      | .neq => some (.d (.bool (!decide (a = b))))
      | .lss => some (.d (.bool (decide (a < b))))
      | .leq => some (.d (.bool (decide (a ≤ b))))
      | .gtr => some (.d (.bool (decide (a > b))))
      | .geq => some (.d (.bool (decide (a ≥ b))))
      | _ => none
      else none
  | .d (.bool a), .d (.bool b) =>
    match op with
    | .eql => if P.underlying t matches some .bool then some (.d (.bool (a == b))) else none
    | .neq => if P.underlying t matches some .bool then some (.d (.bool (!(a == b)))) else none
    | _ => none
  | .d (.str a), .d (.str b) =>
    match op with
    | .add => if ((a.size + b.size : Nat) : Int) > IntKind.i64.max then none else some (.d (.str (a ++ b)))
    | .eql => some (.d (.bool (a.toList == b.toList)))
    | .neq => some (.d (.bool (!(a.toList == b.toList))))
    | .lss => some (.d (.bool (Go.Op.bytesLess a.toList b.toList)))
    | .leq => some (.d (.bool (Go.Op.bytesLess a.toList b.toList || a.toList == b.toList)))
    | .gtr => some (.d (.bool (!(Go.Op.bytesLess a.toList b.toList || a.toList == b.toList))))
    | .geq => some (.d (.bool (!(Go.Op.bytesLess a.toList b.toList))))
    | _ => none
  | .d (.agg t1 xs), .d (.agg t2 ys) =>
    match op with
    | .eql => match eqD P 20 t (.agg t1 xs) (.agg t2 ys) with | some q => some (.d (.bool q)) | none => none
    | .neq => match eqD P 20 t (.agg t1 xs) (.agg t2 ys) with | some q => some (.d (.bool (!q))) | none => none
    | _ => none
  | _, _ => none

/-- Whether an operand is the literal nil of a slice. -/
def isNilC : Operand → Bool
  | .const (.slice none _ _) => true
  | _ => false
def evNil (op : BinOp) (v : V) : Option V := match op with
  | .eql => match v with
    | .d (.sl _ ds) => if 0 < ds.length then some (.d (.bool false)) else none
    | .rs _ _ _ _ len _ => if 0 < len then some (.d (.bool false)) else none
    | _ => none
  | .neq => match v with
    | .d (.sl _ ds) => if 0 < ds.length then some (.d (.bool true)) else none
    | .rs _ _ _ _ len _ => if 0 < len then some (.d (.bool true)) else none
    | _ => none
  | _ => none
/-- Whether an operand is the literal nil of a pointer. -/
def isNilP : Operand → Bool
  | .const (.pointer none) => true
  | _ => false
def evNilP (op : BinOp) (v : V) : Option V := match v with
  | .d .np => match op with
    | .eql => some (.d (.bool true))
    | .neq => some (.d (.bool false))
    | _ => none
  | .d (.ptr _) | .p .. => match op with
    | .eql => some (.d (.bool false))
    | .neq => some (.d (.bool true))
    | _ => none
  | _ => none
def evBinO (P : Program) (ρ : TypeId → Operand → V) (op : BinOp) (t : TypeId) (x y : Operand) : Option V :=
  if isNilC y = true then (match tk P t with | .sl _ => evNil op (ρ t x) | _ => none) else if isNilP y = true then (match ek P t with | .ptr => evNilP op (ρ t x) | _ => none) else evBin P op t (ρ t x) (ρ t y)
def evUn (op : UnOp) : V → Option V
  | .d (.int k n) => match op with
    | .neg => some (.d (.int k (k.wrap (0 - n))))
    | .xor => some (.d (.int k (bitsI .xor k (if k.signed then -1 else k.max) n)))
    | _ => none
  | .d (.bool b) => match op with
    | .not => some (.d (.bool (!b)))
    | _ => none
  | _ => none

/-- The kind of a type of whole numbers. -/
def intK (P : Program) (t : TypeId) : Option IntKind := match P.underlying t with | some (.int k) => some k | _ => none

def evConv (P : Program) (src dst : TypeId) : V → Option V
  | .d (.int _ n) => match intK P src, intK P dst with
    | some _, some k => some (.d (.int k (k.wrap n)))
    | _, _ => none
  | _ => none

def optI : Option V → Option (Option Int)
  | none => some none
  | some (.d (.int _ n)) => some (some n)
  | some _ => none

/-- xs[lo:hi] and xs[lo:hi:mx] of a slice. -/
def evSlice (x : V) (lo hi mx : Option Int) : Option V :=
  match x with
  | .d (.sl e ds) =>
    let l := lo.getD 0; let h := hi.getD ds.length
    if 0 ≤ l ∧ l ≤ h ∧ h ≤ ds.length then
      (match mx with
       | none => some (.d (.sl e ((ds.take h.toNat).drop l.toNat)))
       | some m => if h ≤ m ∧ m ≤ ds.length then (if m = 0 then some (.nils e) else some (.d (.sl e ((ds.take h.toNat).drop l.toNat)))) else none)
    else none
  | .rs er k ver off len full =>
    let l := lo.getD 0; let h := hi.getD len
    if 0 ≤ l ∧ l ≤ h ∧ h ≤ len then
      (match mx with
       | none => some (.rs er k ver (off + l.toNat) (h.toNat - l.toNat) full)
       | some m => if h ≤ m ∧ m ≤ len then some (.rs er k ver (off + l.toNat) (h.toNat - l.toNat) false) else none)
    else none
  | _ => none

/-- The type of a slice's elements. -/
def elemT : V → Option TypeId
  | .d (.sl e _) => some e
  | .rs e _ _ _ _ _ => some e
  | _ => none
def lenV : V → Option Nat
  | .d (.sl _ ds) => some ds.length
  | .rs _ _ _ _ len _ => some len
  | .nils _ => some 0
  | _ => none

def minI (a b : Int) : Int := if b < a then b else a
def maxI (a b : Int) : Int := if b > a then b else a
def foldI (f : Int → Int → Int) (k : IntKind) : List V → Option Int → Option V
  | [], some a => some (.d (.int k a))
  | .d (.int k' b) :: r, some a => if k' = k then foldI f k r (some (f a b)) else none
  | _, _ => none

def evPureB (P : Program) (b : Builtin) (ts : List TypeId) (xs : List V) : Option V :=
  match b with
  | .len => match xs, ts with
    | [.d (.str s)], [t] => if ek P t = .str then some (.d (.int .i64 s.size)) else none
    | [x], [t] => match tk P t, lenV x with
      | .sl _, some n => some (.d (.int .i64 n))
      | _, _ => none
    | _, _ => none
  | .min => match xs with
    | .d (.int k a) :: r => foldI minI k r (some a)
    | _ => none
  | .max => match xs with
    | .d (.int k a) :: r => foldI maxI k r (some a)
    | _ => none
  | _ => none

def capsOk : List V → Bool
  | [] => true
  | .p .. :: r => capsOk r
  | .d (.ptr _) :: r => capsOk r
  | _ => false

/-- Operations that ask nothing of the store. -/
def evPure (P : Program) (ρ : TypeId → Operand → V) (ty : TypeId) : Op → Option V
  | .move x | .assign x => some (ρ ty x)
  | .pick c a b => match ρ 0 c with | .d (.bool q) => some (if q then ρ ty a else ρ ty b) | _ => none
  | .binOp op t x y _ => evBin P op t (ρ t x) (ρ t y)
  | .unOp op t x => evUn op (ρ t x)
  | .convert s t x => evConv P s t (ρ s x)
  | .makeFunc (.func f) first caps => if first.isEmpty && capsOk (caps.toList.map (ρ 0)) then some (.fn f (caps.toList.map (ρ 0))) else none
  | .slice t x lo hi mx => match tk P t, optI (lo.map (ρ 0)), optI (hi.map (ρ 0)), optI (mx.map (ρ 0)) with
    | .sl e, some l, some h, some m => if elemT (ρ t x) = some e ∧ (m.isSome = true → h.isSome = true) then evSlice (ρ t x) l h m else none
    | .one, some l, some h, some m => if ek P t = .str then match ρ t x with
        | .d (.str s) => strCut s l h m
        | _ => none
      else none
    | _, _, _, _ => none
  | .fieldAddr t x f => match tk P t, ρ 0 x with
    | .agg n false, .p k ver i path => if f < n then some (.p k ver i (path ++ [(t, f)])) else none
    | .agg _ false, .d (.ptr (.agg t' ds)) => if t' = t then match nth ds f with | some y => some (.d (.ptr y)) | none => none else none
    | _, _ => none
  | .field t x f => match compT P t f, tk P t with
    | some e, .agg _ false => match ρ t x with
      | .d (.agg t' ds) => if t' = t then match nth ds f with | some y => if hasT P e (.d y) then some (.d y) else none | none => none else none
      | .agg t' vs => if t' = t then match nth vs f with | some y => if hasT P e y then some y else none | none => none else none
      | _ => none
    | _, _ => none
  | .indexAddr t x i => match tk P t, ρ t x, ρ 0 i with
    | .sl e, .d (.sl e' ds), .d (.int _ n) => if e = e' ∧ 0 ≤ n ∧ n < ds.length then (ds[n.toNat]?).map (fun y => V.d (.ptr y)) else none
    | .sl e, .rs er k ver off len _, .d (.int _ n) => if e = er ∧ 0 ≤ n ∧ n < len then some (.p k ver (off + n.toNat) []) else none
    | .agg m true, .p k ver j path, .d (.int _ n) => if 0 ≤ n ∧ n < m then some (.p k ver j (path ++ [(t, n.toNat)])) else none
    | _, _, _ => none
  | .index t x i => match ρ t x, ρ 0 i with
    | .d (.str s), .d (.int _ n) => if ek P t = .str then strAt s n else none
    | .d (.agg t' ds), .d (.int _ n) => match tk P t, compT P t 0 with
      | .agg m true, some e => if t' = t ∧ 0 ≤ n ∧ n < m then match ds[n.toNat]? with
          | some y => if hasT P e (.d y) then some (.d y) else none
          | none => none
        else none
      | _, _ => none
    | .agg t' vs, .d (.int _ n) => match tk P t, compT P t 0 with
      | .agg m true, some e => if t' = t ∧ 0 ≤ n ∧ n < m then match vs[n.toNat]? with
          | some y => if hasT P e y then some y else none
          | none => none
        else none
      | _, _ => none
    | _, _ => none
  | .extract x i => match ρ 0 x with | .tup vs => nth vs i | _ => none
  | .nilCheck x => match ρ 0 x with
    | .p k ver i path => some (.p k ver i path)
    | .d (.ptr x) => some (.d (.ptr x))
    | .fn f caps => some (.fn f caps)
    | _ => none
  | _ => none

/-- The zero of a type: read off the type's own zero cells. -/
def zeroOne : Value → Option V
  | .bool b => some (.d (.bool b))
  | .int k n => some (.d (.int k n))
  | .string s => some (.d (.str s))
  | .pointer none => some (.d .np)
  | _ => none
def zeroGo (P : Program) (z : TypeId → List Value → Option V) (t : TypeId) : Nat → List Nat → List Value → Option (List V)
  | _, [], [] => some []
  | _, [], _ :: _ => none
  | i, s :: sz, cs => if s ≤ cs.length then match compT P t i with
      | some e => match z e (cs.take s), zeroGo P z t (i + 1) sz (cs.drop s) with
        | some v, some vs => if s = szOf P e then some (v :: vs) else none
        | _, _ => none
      | none => none
    else none
def zeroAt (P : Program) : Nat → TypeId → List Value → Option V
  | 0, _, _ => none
  | n + 1, t, cs => match tk P t with
    | .sl e => match cs with | [.slice none 0 0] => some (.nils e) | _ => none
    | .one => match cs with | [v] => (match zeroOne v with | some z => some z | none => if v.oneCell' then some .jk else none) | _ => none
    | .agg m _ => match comps P t with
      | some sz => (zeroGo P (zeroAt P n) t 0 sz cs).map (mkAgg t)
      | none => none
    | .bad => none
def zeroV (P : Program) (t : TypeId) : Option V :=
  match (P.info? t).bind (·.zero) with
  | some z => zeroAt P 9 t z.cells.toList
  | none => none

def V.isAgg : V → Bool
  | .d (.agg _ _) | .agg _ _ => true
  | _ => false
def isAggV : Value → Bool
  | .agg _ => true
  | _ => false
/-- The zero of a type as a value. -/
def zeroW (P : Program) (t : TypeId) : Option V := match (P.info? t).bind (·.zero), zeroV P t with
  | some zv, some z => if isAggV zv = z.isAgg then some z else none
  | _, _ => none

def setParts (P : Program) (ρ : TypeId → Operand → V) (t : TypeId) : List V → List (Nat × Operand) → Option (List V)
  | vs, [] => some vs
  | vs, (i, o) :: r => match compT P t i with
    | some e => if i < vs.length ∧ hasT P e (ρ e o) then setParts P ρ t (setN vs i (ρ e o)) r else none
    | none => none
def setElems (P : Program) (ρ : TypeId → Operand → V) (e : TypeId) : List V → List (Nat × Operand) → Option (List V)
  | vs, [] => some vs
  | vs, (i, o) :: r => if i < vs.length ∧ hasT P e (ρ e o) then setElems P ρ e (setN vs i (ρ e o)) r else none
def aggParts : V → Option (TypeId × List V)
  | .d (.agg t ds) => some (t, ds.map V.d)
  | .agg t vs => some (t, vs)
  | _ => none

/-- The elements that a slice shows. -/
def elemsOf (st : Store) : V → Option (TypeId × List V)
  | .d (.sl e ds) => some (e, ds.map V.d)
  | .nils e => some (e, [])
  | .rs er k ver off len _ => if (st k).ver = ver ∧ (st k).live = true ∧ off + len ≤ (st k).vs.length then some (er, ((st k).vs.drop off).take len) else none
  | _ => none

def maxRow : Nat := 140737488355328

structure Spec where
  run : List D → Option (List D)
abbrev Specs := List (FuncId × Spec)
def look : Specs → FuncId → Option Spec
  | [], _ => none
  | (g, s) :: r, f => if f = g then some s else look r f

/-- A value as data, the rows of the store read as they stand. -/
def V.view (st : Store) : V → Option D
  | .d x => some x
  | .agg t vs => (views st vs).map (D.agg t)
  | .nils e => some (.sl e [])
  | .rs er k ver off len full => match elemsOf st (.rs er k ver off len full) with
    | some (e, vs) => (V.toD.V.toDs vs).map (D.sl e)
    | none => none
  | _ => none
where views (st : Store) : List V → Option (List D)
  | [] => some []
  | v :: vs => match V.view st v, views st vs with
    | some x, some xs => some (x :: xs)
    | _, _ => none
/-- A value handed to a contract: a pointer into the store stands for what it points to. -/
def V.arg (st : Store) : V → Option D
  | .p k ver i path => if (st k).ver = ver ∧ (st k).live = true then match nth (st k).vs i with
    | some v => match getPath v path with
      | some x => (V.view st x).map D.ptr
      | none => none
    | none => none
    else none
  | v => V.view st v
def V.args (st : Store) : List V → Option (List D)
  | [] => some []
  | v :: vs => match V.arg st v, V.args st vs with
    | some x, some xs => some (x :: xs)
    | _, _ => none
/-- No reference into the store. -/
def V.pure : V → Bool
  | .d _ | .nils _ => true
  | .agg _ vs => pures vs
  | _ => false
where pures : List V → Bool
  | [] => true
  | v :: vs => V.pure v && pures vs
/-- No slice in it. -/
def D.flat : D → Bool
  | .sl _ _ => false
  | .ptr _ => false
  | .agg _ ds => flats ds
  | _ => true
where flats : List D → Bool
  | [] => true
  | x :: xs => D.flat x && flats xs
def retV : List V → V
  | [v] => v
  | vs => .tup vs

inductive X where
  | normal
  | exit (id : Nat)
  | ret
  deriving DecidableEq

abbrev Caller := FuncId → List V → Nat → Store → Option (V × Store)

/-- What an append does to a slice that is nil or a whole row of the store. -/
def appendTo (P : Program) (lv : Nat) (d : Tmp) (st : Store) (e : TypeId) (s : V) (new : List V) : Option (V × Store) := match s with
  | .nils e2 => if e2 = e ∧ new.length * P.bytesOf e ≤ maxRow then
      some (.rs e (lv, d) ((st (lv, d)).ver + 1) 0 new.length true, newBlk st (lv, d) e new) else none
  | .rs er k ver off len full => if (st k).ver = ver ∧ (st k).live = true ∧ er = e ∧ off = 0 ∧ len = (st k).vs.length ∧ full = true ∧ len + new.length ≤ maxRow ∧ (len + new.length) * P.bytesOf e ≤ maxRow then
      some (.rs e k (ver + 1) 0 (len + new.length) true, upd st k ⟨ver + 1, e, (st k).vs ++ new, true⟩) else none
  | _ => none

/-- The types of a map's keys and elements. -/
def mapT (P : Program) (t : TypeId) : Option (TypeId × TypeId) := match P.underlying t with
  | some (.map k e) => some (k, e)
  | _ => none
/-- What a block of a map has in the place of a type: nothing lies there. -/
def mapE (t : TypeId) : TypeId := 1000000 + t
def hintOk : Option V → Bool
  | none => true
  | some (.d (.int _ _)) => true
  | _ => false
def keyOk : EK → D → Bool
  | .int, .int _ _ => true
  | .bool, .bool _ => true
  | .str, .str _ => true
  | _, _ => false
def sameK : D → D → Option Bool
  | .int k a, .int k' b => if k = k' then some (decide (a = b)) else none
  | .bool a, .bool b => some (decide (a = b))
  | .str a, .str b => some (decide (a = b))
  | _, _ => none
/-- What a map has under a key. -/
def mget : List V → D → Option (Option V)
  | [], _ => some none
  | [_], _ => none
  | k :: v :: r, x => match k with
    | .d q => match sameK x q with
      | some true => some (some v)
      | some false => mget r x
      | none => none
    | _ => none
def consP (k u : V) : Option (List V) → Option (List V)
  | some l => some (k :: u :: l)
  | none => none
def mput : List V → D → V → Option (List V)
  | [], x, v => some [.d x, v]
  | [_], _, _ => none
  | k :: u :: r, x, v => match k with
    | .d q => match sameK x q with
      | some true => some (k :: v :: r)
      | some false => consP k u (mput r x v)
      | none => none
    | _ => none
def lookV (ok : Bool) : Option V → V → V
  | some v, _ => bif ok then .tup [v, .d (.bool true)] else v
  | none, z => bif ok then .tup [z, .d (.bool false)] else z
def evLookup (P : Program) (st : Store) (t : TypeId) (ok : Bool) (m i : V) : Option (V × Store) := match mapT P t with
  | some (kt, et) => match m with
    | .mp k ver => match i with
      | .d q => if (st k).ver = ver ∧ (st k).live = true ∧ keyOk (ek P kt) q = true then
          match mget (st k).vs q with
          | some r => match zeroW P et with
            | some z => some (lookV ok r z, st)
            | none => none
          | none => none
        else none
      | _ => none
    | _ => none
  | none => none
def evPut (P : Program) (st : Store) (t : TypeId) (m i : V) (x : TypeId → V) : Option (V × Store) := match mapT P t with
  | some (kt, et) => match m with
    | .mp k ver => match i with
      | .d q => if (st k).ver = ver ∧ (st k).live = true ∧ keyOk (ek P kt) q = true ∧ hasT P et (x et) = true then
          match mput (st k).vs q (x et) with
          | some vs => some (.tup [], upd st k ⟨(st k).ver, (st k).e, vs, true⟩)
          | none => none
        else none
      | _ => none
    | _ => none
  | none => none

/-- Operations that ask the store. -/
def evStore (P : Program) (ρ : TypeId → Operand → V) (lv : Nat) (dst : Option Tmp) (st : Store) : Op → Option (V × Store)
  | .alloc t => match dst, zeroV P t with
    | some d, some z => some (.p (lv, d) ((st (lv, d)).ver + 1) 0 [], newBlk st (lv, d) t [z])
    | _, _ => none
  | .box t x => match dst with
    | some d => if hasT P t (ρ t x) then some (.p (lv, d) ((st (lv, d)).ver + 1) 0 [], newBlk st (lv, d) t [ρ t x]) else none
    | none => none
  | .build t parts => match (zeroV P t).bind aggParts with
    | some (t', zs) => if t' = t then (setParts P ρ t zs parts.toList).map fun vs => (mkAgg t vs, st) else none
    | none => none
  | .buildSlice t len parts => match dst, tk P t with
    | some d, .sl e => match zeroV P e with
      | some z => if len * szOf P e ≤ 2 ^ 24 then match setElems P ρ e (List.replicate len z) parts.toList with
          | some vs => some (.rs e (lv, d) ((st (lv, d)).ver + 1) 0 len true, newBlk st (lv, d) e vs)
          | none => none
        else none
      | none => none
    | _, _ => none
  | .makeSlice t l c => match dst, tk P t, ρ 0 l, ρ 0 c with
    | some d, .sl e, .d (.int .i64 n), .d (.int .i64 m) => match zeroV P e with
      | some z => if 0 ≤ n ∧ n ≤ m ∧ m.toNat * P.bytesOf e ≤ maxRow ∧ m.toNat ≤ maxRow then
          some (.rs e (lv, d) ((st (lv, d)).ver + 1) 0 n.toNat true, newBlk st (lv, d) e (List.replicate n.toNat z)) else none
      | none => none
    | _, _, _, _ => none
  | .makeMap t r => match dst, mapT P t with
    | some d, some _ => if szOf P (mapE t) = 0 ∧ hintOk (r.map (ρ 0)) = true then some (.mp (lv, d) ((st (lv, d)).ver + 1), newBlk st (lv, d) (mapE t) []) else none
    | _, _ => none
  | .lookup t x i ok => evLookup P st t ok (ρ 0 x) (ρ 0 i)
  | .mapUpdate t m k x => evPut P st t (ρ 0 m) (ρ 0 k) (fun e => ρ e x)
  | .insert t m k x => evPut P st t (ρ 0 m) (ρ 0 k) (fun e => ρ e x)
  | .load t a => match ρ 0 a with
    | .d (.ptr x) => if hasT P t (.d x) then some (.d x, st) else none
    | .p k ver i path => if (st k).ver = ver ∧ (st k).live = true then match nth (st k).vs i with
        | some v => match getPath v path with
          | some x => if hasT P t x then some (x, st) else none
          | none => none
        | none => none
      else none
    | _ => none
  | .store t a x => match ρ 0 a with
    | .p k ver i path => if (st k).ver = ver ∧ (st k).live = true then match nth (st k).vs i with
        | some v => match getPath v path with
          | some old => if hasT P t old ∧ hasT P t (ρ t x) then match setPath v path (ρ t x) with
              | some v' => some (.tup [], upd st k ⟨(st k).ver, (st k).e, setN (st k).vs i v', true⟩)
              | none => none
            else none
          | none => none
        | none => none
      else none
    | _ => none
  | .call { callee := .builtin .append, args, argTypes } => match args.toList, argTypes.toList, dst with
    | [s, x], [t, t'], some d => match tk P t, zeroV P (match tk P t with | .sl e => e | _ => 0), elemsOf st (ρ t x) with
      | .sl e, some _, some (e', new) => if t' = t ∧ e' = e ∧ new.length ≤ maxRow then
          appendTo P lv d st e (ρ t s) new
        else none
      | _, _, _ => none
    | _, _, _ => none
  | _ => none

def noTup : List V → Bool
  | [] => true
  | .tup _ :: _ => false
  | _ :: r => noTup r

/-- A call by name or through a value. -/
def evCall (Γ : Specs) (call : Caller) (lv : Nat) (st : Store) (f : V) (xs : List V) : Option (V × Store) :=
  match f with
  | .fn g caps => match look Γ g with
    | some s => if capsOk caps then match V.args st (xs ++ caps) with
        | some ds => match s.run ds with
          | some rs => if V.pure.pures (xs ++ caps) || D.flat.flats rs then some (retV (rs.map V.d), st) else none
          | none => none
        | none => none
      else none
    | none => if noTup xs && capsOk caps then call g (xs ++ caps) lv st else none
  | _ => none

/-- The level of a call: each place of a call has its own. -/
def subL (lv : Nat) (dst : Option Tmp) : Nat := match dst with
  | some d => lv * 4096 + d + 1
  | none => lv * 4096
def pureO (st : Store) : Option V → Option (V × Store)
  | some v => some (v, st)
  | none => none
def evOp (P : Program) (Γ : Specs) (call : Caller) (lv : Nat) (dst : Option Tmp) (ty : TypeId) (env : List V) (st : Store) : Op → Option (V × Store)
  | .move x => some (evalT P env ty x, st)
  | .assign x => some (evalT P env ty x, st)
  | .pick c a b => pureO st (evPure P (evalT P env) ty (.pick c a b))
  | .alloc t => evStore P (evalT P env) lv dst st (.alloc t)
  | .box t x => evStore P (evalT P env) lv dst st (.box t x)
  | .build t ps => evStore P (evalT P env) lv dst st (.build t ps)
  | .buildSlice t n ps => evStore P (evalT P env) lv dst st (.buildSlice t n ps)
  | .load t a => evStore P (evalT P env) lv dst st (.load t a)
  | .store t a x => evStore P (evalT P env) lv dst st (.store t a x)
  | .makeMap t r => evStore P (evalT P env) lv dst st (.makeMap t r)
  | .lookup t x i ok => evStore P (evalT P env) lv dst st (.lookup t x i ok)
  | .mapUpdate t m k x => evStore P (evalT P env) lv dst st (.mapUpdate t m k x)
  | .insert t m k x => evStore P (evalT P env) lv dst st (.insert t m k x)
  | .nilCheck x => pureO st (evPure P (evalT P env) ty (.nilCheck x))
  | .binOp op t x y u => pureO st (evBinO P (evalT P env) op t x y)
  | .unOp op t x => pureO st (evUn op (evalT P env t x))
  | .convert s t x => pureO st (evConv P s t (evalT P env s x))
  | .makeFunc f a c => pureO st (evPure P (evalT P env) ty (.makeFunc f a c))
  | .makeSlice t l c => evStore P (evalT P env) lv dst st (.makeSlice t l c)
  | .slice t x l h m => pureO st (evPure P (evalT P env) ty (.slice t x l h m))
  | .fieldAddr t x f => pureO st (evPure P (evalT P env) ty (.fieldAddr t x f))
  | .field t x f => pureO st (evPure P (evalT P env) ty (.field t x f))
  | .indexAddr t x i => pureO st (evPure P (evalT P env) ty (.indexAddr t x i))
  | .index t x i => pureO st (evPure P (evalT P env) ty (.index t x i))
  | .extract x i => pureO st (evPure P (evalT P env) ty (.extract x i))
  | .call c => match c.callee with
    | .builtin b => match b with
      | .append => evStore P (evalT P env) lv dst st (.call c)
      | b => pureO st (evPureB P b c.argTypes.toList (evArgs P env c.argTypes.toList c.args.toList))
    | .value f => evCall Γ call (subL lv dst) st (evalT P env 0 f) (evArgs P env c.argTypes.toList c.args.toList)
    | .invoke .. => none
  | _ => none
def putR (env : List V) (dst : Option Tmp) : Option (V × Store) → Option (List V × Store)
  | some (v, st') => some (putD env dst v, st')
  | none => none
def thenO : Option (List V × Store) → (List V → Store → Option (List V × Store)) → Option (List V × Store)
  | some (env, st), k => k env st
  | none, _ => none
/-- Is the guarded operation wanted? -/
def condR (v : V) (want : Bool) (a b : Option (List V × Store)) : Option (List V × Store) :=
  match v with
  | .d (.bool q) => if q = want then a else b
  | .tup [] => b
  | _ => none
def dstAt (ops : List Oper) (j : Nat) : Option Tmp := match nth ops j with | some o => o.dst | none => none

def evOps (P : Program) (Γ : Specs) (call : Caller) (lv : Nat) (ops : List Oper) : List Oper → List V → Store → Option (List V × Store)
  | [], env, st => some (env, st)
  | o :: r, env, st => match o.guard with
    | none => thenO (putR env o.dst (evOp P Γ call lv o.dst o.type env st o.op)) (evOps P Γ call lv ops r)
    | some (j, want) => match dstAt ops j with
      | some t => condR (V.get env t) want
          (thenO (putR env o.dst (evOp P Γ call lv o.dst o.type env st o.op)) (evOps P Γ call lv ops r))
          (evOps P Γ call lv ops r (putD env o.dst (.tup [])) st)
      | none => none

def mask : List Bool → List V → List V
  | true :: m, v :: vs => v :: mask m vs
  | false :: m, _ :: vs => .und :: mask m vs
  | [], vs => vs
  | _ :: _, [] => []
abbrev Out := Option (X × List V × Store)
abbrev Run := List V → Store → Out
def seqR : Out → Run → Out
  | some (.normal, env, st), k => k env st
  | some (.exit i, env, st), _ => some (.exit i, env, st)
  | some (.ret, env, st), _ => some (.ret, env, st)
  | none, _ => none
def blkR (id : Nat) : Out → Out
  | some (.exit i, env, st) => if i = id then some (.normal, env, st) else some (.exit i, env, st)
  | some (.normal, env, st) => some (.normal, env, st)
  | some (.ret, env, st) => some (.ret, env, st)
  | none => none
def normR : Option (List V × Store) → Out
  | some (env, st) => some (.normal, env, st)
  | none => none
def iter (f : Run) (m : List Bool) : Nat → Run
  | 0, _, _ => none
  | n + 1, env, st => seqR (f (mask m env) st) (iter f m n)

abbrev Masks := List (Nat × List Bool)
def maskOf : Masks → Nat → List Bool
  | [], _ => []
  | (i, m) :: r, id => if id = i then m else maskOf r id
/-- Regions whose order is open and in which nothing is entered. -/
def ncOf (ms : Masks) (id : Nat) : Bool := match maskOf ms (2000000 + id) with
  | [] => false
  | _ => true
def noCall : Caller := fun _ _ _ _ => none
def callOf (ms : Masks) (id : Nat) (call : Caller) : Caller := bif ncOf ms id then noCall else call

/-- Where a value points: into the store, or elsewhere. -/
def keyOfV : V → Option (Option Key)
  | .p k .. => some (some k)
  | .rs _ k .. => some (some k)
  | .mp k _ => some (some k)
  | .d _ => some none
  | _ => none
def apartV (u v : V) : Bool := match keyOfV u, keyOfV v with
  | some (some k), some (some k') => !keq k k'
  | some none, some _ => true
  | some (some _), some none => true
  | _, _ => false
def sel : List Bool → List V → List V
  | true :: m, v :: vs => v :: sel m vs
  | false :: m, _ :: vs => sel m vs
  | [], _ => []
  | _ :: _, [] => []
def apartL (v : V) : List V → Bool
  | [] => true
  | u :: r => apartV v u && apartL v r
def apartAll : List V → Bool
  | [] => true
  | v :: r => apartL v r && apartAll r
def freeAll : List V → Bool
  | [] => true
  | .und :: r => freeAll r
  | _ :: _ => false
/-- A region in whose open order loads and stores may change places: what they point to must lie apart. -/
def drawR (ms : Masks) (id : Nat) (env : List V) (o : Option (List V × Store)) : Option (List V × Store) := match maskOf ms (3000000 + id) with
  | [] => o
  | m => if apartAll (sel m env) = true ∧ freeAll (sel (maskOf ms (4000000 + id)) env) = true then o else none

def evC (P : Program) (Γ : Specs) (call : Caller) (L : Nat) (ms : Masks) (lv : Nat) : Nat → Code → Run
  | _, .skip, env, st => some (.normal, env, st)
  | _, .label _, env, st => some (.normal, env, st)
  | _, .ret, env, st => some (.ret, mask (maskOf ms 1000000) env, st)
  | _, .exit id, env, st => some (.exit id, mask (maskOf ms (1000001 + id)) env, st)
  | _, .region id ops draw, env, st => normR (bif draw then drawR ms id env (evOps P Γ (callOf ms id call) lv ops.toList ops.toList env st) else evOps P Γ call lv ops.toList ops.toList env st)
  | i, .seq a b, env, st => seqR (evC P Γ call L ms lv i a env st) (evC P Γ call L ms lv i b)
  | i, .cond c a b, env, st => match evalT P env 0 c with
    | .d (.bool q) => if q = true then evC P Γ call L ms lv i a env st else evC P Γ call L ms lv i b env st
    | _ => none
  | _, .block id a, env, st => blkR id (evC P Γ call L ms lv id a env st)
  | i, .loop body, env, st => iter (evC P Γ call L ms lv i body) (maskOf ms i) L env st
  | _, _, _, _ => none

def consV (v : V) (vs : List V) : Option (List V) := match v with
  | .tup _ => none
  | v => some (v :: vs)
def resV (P : Program) (st : Store) (env : List V) : List ResultVar → Option (List V)
  | [] => some []
  | .tmp t :: r => match resV P st env r with | some vs => consV (V.get env t) vs | none => none
  | .cell a t :: r => match V.get env a with
    | .p k ver i path => match path with
      | [] => if (st k).ver = ver ∧ (st k).live = true then match nth (st k).vs i, resV P st env r with
        | some v, some vs => if hasT P t v then some (v :: vs) else none
        | _, _ => none
        else none
      | _ => none
    | _ => none

/-- Functions that the evaluator enters: found in the program, their drawn regions in order. -/
structure Entry where
  fn : Func
  ms : Masks
abbrev Table := FuncId → Option Entry

def retS (st : Store) : Option (List V) → Option (V × Store)
  | some vs => some (retV vs, st)
  | none => none
def outR (P : Program) (res : List ResultVar) : Out → Option (V × Store)
  | some (.ret, env, st) => retS st (resV P st env res)
  | some (.normal, env, st) => retS st (resV P st env res)
  | some (.exit _, _, _) => none
  | none => none
def evF (P : Program) (Γ : Specs) (T : Table) (L : Nat) : Nat → Caller
  | 0, _, _, _, _ => none
  | c + 1, f, xs, lv, st => match T f with
    | some en => match en.fn.body with
      | some code => outR P en.fn.results.toList (evC P Γ (evF P Γ T L c) L en.ms lv 0 code (pad xs en.fn.ntmps) st)
      | none => none
    | none => none

/-- A value as data at the end of a call: rows within rows too. -/
def mapO {α β : Type} (f : α → Option β) : List α → Option (List β)
  | [] => some []
  | v :: vs => match f v, mapO f vs with
    | some x, some xs => some (x :: xs)
    | _, _ => none
def V.fin (st : Store) : Nat → V → Option D
  | 0, _ => none
  | n + 1, v => match v with
    | .d x => some x
    | .agg t vs => (mapO (V.fin st n) vs).map (D.agg t)
    | .nils e => some (.sl e [])
    | .rs er k ver off len full => match elemsOf st (.rs er k ver off len full) with
      | some (e, vs) => (mapO (V.fin st n) vs).map (D.sl e)
      | none => none
    | _ => none

def oneL {α : Type} : Option α → Option (List α)
  | some x => some [x]
  | none => none
def topR : Option (V × Store) → Option (List D)
  | some (.tup [_], _) => none
  | some (.tup vs, st) => mapO (V.fin st 9) vs
  | some (v, st) => oneL (V.fin st 9 v)
  | none => none
def evTop (P : Program) (Γ : Specs) (T : Table) (L c : Nat) (f : FuncId) (xs : List D) : Option (List D) :=
  topR (evF P Γ T L c f (xs.map V.d) 0 empty)

/-- A proof that the simplifier does not take for a computation. -/
theorem nr {p : Prop} (h : p) : p := h
section
variable (c : Prop) [Decidable c]
theorem putR_ite (env : List V) (d : Option Tmp) (a b : Option (V × Store)) : putR env d (if c then a else b) = if c then putR env d a else putR env d b := by split <;> rfl
theorem thenO_ite (k : List V → Store → Option (List V × Store)) (a b : Option (List V × Store)) : thenO (if c then a else b) k = if c then thenO a k else thenO b k := by split <;> rfl
theorem seqR_ite (k : Run) (a b : Out) : seqR (if c then a else b) k = if c then seqR a k else seqR b k := by split <;> rfl
theorem blkR_ite (id : Nat) (a b : Out) : blkR id (if c then a else b) = if c then blkR id a else blkR id b := by split <;> rfl
theorem normR_ite (a b : Option (List V × Store)) : normR (if c then a else b) = if c then normR a else normR b := by split <;> rfl
theorem outR_ite (P : Program) (res : List ResultVar) (a b : Out) : outR P res (if c then a else b) = if c then outR P res a else outR P res b := by split <;> rfl
theorem topR_ite (a b : Option (V × Store)) : topR (if c then a else b) = if c then topR a else topR b := by split <;> rfl
theorem pureO_ite (st : Store) (a b : Option V) : pureO st (if c then a else b) = if c then pureO st a else pureO st b := by split <;> rfl
end
section
variable (P : Program) (Γ : Specs) (call : Caller) (lv : Nat) (env : List V) (st : Store) (v : V) (dst : Option Tmp) (ty : TypeId)
theorem putR_s : putR env dst (some (v, st)) = some (putD env dst v, st) := nr rfl
theorem putR_0 : putR env dst none = none := nr rfl
theorem thenO_s (k : List V → Store → Option (List V × Store)) : thenO (some (env, st)) k = k env st := nr rfl
theorem thenO_0 (k : List V → Store → Option (List V × Store)) : thenO none k = none := nr rfl
theorem seqR_n (k : Run) : seqR (some (.normal, env, st)) k = k env st := nr rfl
theorem seqR_e (k : Run) (i : Nat) : seqR (some (.exit i, env, st)) k = some (.exit i, env, st) := nr rfl
theorem seqR_r (k : Run) : seqR (some (.ret, env, st)) k = some (.ret, env, st) := nr rfl
theorem seqR_0 (k : Run) : seqR none k = none := nr rfl
theorem blkR_e (id i : Nat) : blkR id (some (.exit i, env, st)) = if i = id then some (.normal, env, st) else some (.exit i, env, st) := nr rfl
theorem blkR_n (id : Nat) : blkR id (some (.normal, env, st)) = some (.normal, env, st) := nr rfl
theorem blkR_r (id : Nat) : blkR id (some (.ret, env, st)) = some (.ret, env, st) := nr rfl
theorem blkR_0 (id : Nat) : blkR id none = none := nr rfl
theorem normR_s : normR (some (env, st)) = some (.normal, env, st) := nr rfl
theorem normR_0 : normR none = none := nr rfl
theorem outR_r (res : List ResultVar) : outR P res (some (.ret, env, st)) = retS st (resV P st env res) := nr rfl
theorem outR_n (res : List ResultVar) : outR P res (some (.normal, env, st)) = retS st (resV P st env res) := nr rfl
theorem outR_0 (res : List ResultVar) : outR P res none = none := nr rfl
theorem retS_s (vs : List V) : retS st (some vs) = some (retV vs, st) := nr rfl
theorem retS_0 : retS st none = none := nr rfl
theorem pureO_s : pureO st (some v) = some (v, st) := nr rfl
theorem pureO_0 : pureO st none = none := nr rfl
theorem topR_0 : topR none = none := nr rfl
theorem topR_t (x y : V) (vs : List V) : topR (some (.tup (x :: y :: vs), st)) = mapO (V.fin st 9) (x :: y :: vs) := nr rfl
theorem topR_t0 : topR (some (.tup [], st)) = some [] := nr rfl
theorem oneL_0 {α : Type} : oneL (none : Option α) = none := nr rfl
theorem oneL_s {α : Type} (x : α) : oneL (some x) = some [x] := nr rfl
theorem topR_d (x : D) : topR (some (.d x, st)) = some [x] := nr rfl
theorem topR_nils (e : TypeId) : topR (some (.nils e, st)) = some [.sl e []] := nr rfl
theorem topR_agg (t : TypeId) (vs : List V) : topR (some (.agg t vs, st)) = oneL (V.fin st 9 (.agg t vs)) := nr rfl
theorem topR_rs (er : TypeId) (k : Key) (ver off len : Nat) (full : Bool) : topR (some (.rs er k ver off len full, st)) = oneL (V.fin st 9 (.rs er k ver off len full)) := nr rfl
theorem evOp_move (x : Operand) : evOp P Γ call lv dst ty env st (.move x) = some (evalT P env ty x, st) := nr rfl
theorem evOp_assign (x : Operand) : evOp P Γ call lv dst ty env st (.assign x) = some (evalT P env ty x, st) := nr rfl
theorem evOp_pick (a b c : Operand) : evOp P Γ call lv dst ty env st (.pick a b c) = pureO st (evPure P (evalT P env) ty (.pick a b c)) := nr rfl
theorem evOp_alloc (t : TypeId) : evOp P Γ call lv dst ty env st (.alloc t) = evStore P (evalT P env) lv dst st (.alloc t) := nr rfl
theorem evOp_box (t : TypeId) (x : Operand) : evOp P Γ call lv dst ty env st (.box t x) = evStore P (evalT P env) lv dst st (.box t x) := nr rfl
theorem evOp_build (t : TypeId) (ps : Array (Nat × Operand)) : evOp P Γ call lv dst ty env st (.build t ps) = evStore P (evalT P env) lv dst st (.build t ps) := nr rfl
theorem evOp_buildSlice (t : TypeId) (n : Nat) (ps : Array (Nat × Operand)) : evOp P Γ call lv dst ty env st (.buildSlice t n ps) = evStore P (evalT P env) lv dst st (.buildSlice t n ps) := nr rfl
theorem evOp_load (t : TypeId) (x : Operand) : evOp P Γ call lv dst ty env st (.load t x) = evStore P (evalT P env) lv dst st (.load t x) := nr rfl
theorem evOp_store (t : TypeId) (a x : Operand) : evOp P Γ call lv dst ty env st (.store t a x) = evStore P (evalT P env) lv dst st (.store t a x) := nr rfl
theorem evOp_makeMap (t : TypeId) (r : Option Operand) : evOp P Γ call lv dst ty env st (.makeMap t r) = evStore P (evalT P env) lv dst st (.makeMap t r) := nr rfl
theorem evOp_lookup (t : TypeId) (x i : Operand) (ok : Bool) : evOp P Γ call lv dst ty env st (.lookup t x i ok) = evLookup P st t ok (evalT P env 0 x) (evalT P env 0 i) := nr rfl
theorem evOp_mapUpdate (t : TypeId) (m k x : Operand) : evOp P Γ call lv dst ty env st (.mapUpdate t m k x) = evPut P st t (evalT P env 0 m) (evalT P env 0 k) (fun e => evalT P env e x) := nr rfl
theorem evOp_insert (t : TypeId) (m k x : Operand) : evOp P Γ call lv dst ty env st (.insert t m k x) = evPut P st t (evalT P env 0 m) (evalT P env 0 k) (fun e => evalT P env e x) := nr rfl
theorem evOp_nilCheck (x : Operand) : evOp P Γ call lv dst ty env st (.nilCheck x) = pureO st (evPure P (evalT P env) ty (.nilCheck x)) := nr rfl
theorem evOp_binOp (op : BinOp) (t : TypeId) (x y : Operand) (u : TypeId) : evOp P Γ call lv dst ty env st (.binOp op t x y u) = pureO st (evBinO P (evalT P env) op t x y) := nr rfl
theorem evOp_unOp (op : UnOp) (t : TypeId) (x : Operand) : evOp P Γ call lv dst ty env st (.unOp op t x) = pureO st (evUn op (evalT P env t x)) := nr rfl
theorem evOp_convert (s t : TypeId) (x : Operand) : evOp P Γ call lv dst ty env st (.convert s t x) = pureO st (evConv P s t (evalT P env s x)) := nr rfl
theorem evOp_makeFunc (f : Fn) (a c : Array Operand) : evOp P Γ call lv dst ty env st (.makeFunc f a c) = pureO st (evPure P (evalT P env) ty (.makeFunc f a c)) := nr rfl
theorem evOp_makeSlice (t : TypeId) (l c : Operand) : evOp P Γ call lv dst ty env st (.makeSlice t l c) = evStore P (evalT P env) lv dst st (.makeSlice t l c) := nr rfl
theorem evOp_slice (t : TypeId) (x : Operand) (l h m : Option Operand) : evOp P Γ call lv dst ty env st (.slice t x l h m) = pureO st (evPure P (evalT P env) ty (.slice t x l h m)) := nr rfl
theorem evOp_fieldAddr (t : TypeId) (x : Operand) (f : Nat) : evOp P Γ call lv dst ty env st (.fieldAddr t x f) = pureO st (evPure P (evalT P env) ty (.fieldAddr t x f)) := nr rfl
theorem evOp_field (t : TypeId) (x : Operand) (f : Nat) : evOp P Γ call lv dst ty env st (.field t x f) = pureO st (evPure P (evalT P env) ty (.field t x f)) := nr rfl
theorem evOp_indexAddr (t : TypeId) (x i : Operand) : evOp P Γ call lv dst ty env st (.indexAddr t x i) = pureO st (evPure P (evalT P env) ty (.indexAddr t x i)) := nr rfl
theorem evOp_index (t : TypeId) (x i : Operand) : evOp P Γ call lv dst ty env st (.index t x i) = pureO st (evPure P (evalT P env) ty (.index t x i)) := nr rfl
theorem evOp_extract (x : Operand) (i : Nat) : evOp P Γ call lv dst ty env st (.extract x i) = pureO st (evPure P (evalT P env) ty (.extract x i)) := nr rfl
theorem evOp_call (f : Operand) (args : Array Operand) (ts : Array TypeId) : evOp P Γ call lv dst ty env st (.call { callee := .value f, args, argTypes := ts }) = evCall Γ call (subL lv dst) st (evalT P env 0 f) (evArgs P env ts.toList args.toList) := nr rfl
theorem evOp_append (args : Array Operand) (ts : Array TypeId) : evOp P Γ call lv dst ty env st (.call { callee := .builtin .append, args, argTypes := ts }) = evStore P (evalT P env) lv dst st (.call { callee := .builtin .append, args, argTypes := ts }) := nr rfl
theorem evOp_len (args : Array Operand) (ts : Array TypeId) : evOp P Γ call lv dst ty env st (.call { callee := .builtin .len, args, argTypes := ts }) = pureO st (evPureB P .len ts.toList (evArgs P env ts.toList args.toList)) := nr rfl
theorem evOp_min (args : Array Operand) (ts : Array TypeId) : evOp P Γ call lv dst ty env st (.call { callee := .builtin .min, args, argTypes := ts }) = pureO st (evPureB P .min ts.toList (evArgs P env ts.toList args.toList)) := nr rfl
theorem evOp_max (args : Array Operand) (ts : Array TypeId) : evOp P Γ call lv dst ty env st (.call { callee := .builtin .max, args, argTypes := ts }) = pureO st (evPureB P .max ts.toList (evArgs P env ts.toList args.toList)) := nr rfl
theorem condR_b (q want : Bool) (a b : Option (List V × Store)) : condR (.d (.bool q)) want a b = if q = want then a else b := nr rfl
theorem condR_t (want : Bool) (a b : Option (List V × Store)) : condR (.tup []) want a b = b := nr rfl
end
end Go.Ev
