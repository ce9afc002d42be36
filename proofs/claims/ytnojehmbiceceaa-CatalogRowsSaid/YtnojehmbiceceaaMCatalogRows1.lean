/- Parts of one proof, joined: EvA, EvR, EvB. -/
import Derived.WalkKit
import Derived.ProofKit
import Derived.KernelRfl
section
set_option linter.unusedVariables false
set_option linter.unusedSimpArgs false
namespace Go.Ev

/-- Plain data: no memory in it. -/
inductive D where
  | bool (b : Bool)
  | int (k : IntKind) (n : Int)
  | str (s : ByteArray)
  | agg (t : TypeId) (ds : List D)
  | sl (e : TypeId) (ds : List D)
  | ptr (x : D)
  | np
  deriving Inhabited

abbrev Key := Nat × Nat

/-- Values of the evaluator: data, and references into its own store. -/
inductive V where
  | d (x : D)
  | agg (t : TypeId) (vs : List V)
  | p (k : Key) (ver : Nat) (i : Nat) (path : List (TypeId × Nat))
  | rs (e : TypeId) (k : Key) (ver : Nat) (off len : Nat) (full : Bool)
  | mp (k : Key) (ver : Nat)
  | nils (e : TypeId)
  | nila (e : TypeId)
  | nilm
  | fn (f : FuncId) (caps : List V)
  | tup (vs : List V)
  | und
  | jk
  deriving Inhabited

structure Blk where
  ver : Nat
  e : TypeId
  vs : List V
  live : Bool

abbrev Store := Key → Blk
def keq (k k' : Key) : Bool := k.1 == k'.1 && k.2 == k'.2
def upd (st : Store) (k : Key) (b : Blk) : Store := fun k' => bif keq k' k then b else st k'
def empty : Store := fun _ => ⟨0, 0, [], false⟩
def newBlk (st : Store) (k : Key) (e : TypeId) (vs : List V) : Store := upd st k ⟨(st k).ver + 1, e, vs, true⟩

/-- What the evaluator asks of a type. -/
inductive TK where
  | one
  | sl (e : TypeId)
  | agg (n : Nat) (arr : Bool)
  | bad
  deriving DecidableEq, Inhabited

def szOf (P : Program) (t : TypeId) : Nat := P.cellsOf t
def offsOk (P : Program) : Nat → List Field → Bool
  | _, [] => true
  | acc, f :: fs => f.offset == acc && decide (0 < szOf P f.type) && offsOk P (acc + szOf P f.type) fs
/-- The sizes of a type's components. -/
def comps (P : Program) (t : TypeId) : Option (List Nat) :=
  match P.underlying t with
  | some (.struct fs) => if offsOk P 0 fs.toList && (fs.toList.map fun f => szOf P f.type).sum == szOf P t && decide (0 < szOf P t) then some (fs.toList.map fun f => szOf P f.type) else none
  | some (.array n e) => if decide (0 < szOf P e) && n * szOf P e == szOf P t && decide (2 ≤ n) then some (List.replicate n (szOf P e)) else none
  | _ => none
def nth {α : Type} : List α → Nat → Option α
  | [], _ => none
  | x :: _, 0 => some x
  | _ :: xs, n + 1 => nth xs n
/-- The types of a type's components. -/
def compTs (P : Program) (t : TypeId) : List TypeId :=
  match P.underlying t with
  | some (.struct fs) => fs.toList.map (·.type)
  | some (.array n e) => List.replicate n e
  | _ => []
def compT (P : Program) (t : TypeId) (i : Nat) : Option TypeId := nth (compTs P t) i
def tk (P : Program) (t : TypeId) : TK :=
  match P.underlying t with
  | some (.struct _) => match comps P t with | some l => .agg l.length false | none => .bad
  | some (.array ..) => match comps P t with | some l => .agg l.length true | none => .bad
  | some (.slice e) => if szOf P t == 1 && decide (0 < szOf P e) && (P.info? e).isSome then .sl e else .bad
  | some _ => if szOf P t == 1 then .one else .bad
  | none => .bad

def V.get : List V → Nat → V
  | [], _ => .und
  | v :: _, 0 => v
  | _ :: vs, n + 1 => V.get vs n
def V.put : List V → Nat → V → List V
  | [], _, _ => []
  | _ :: vs, 0, x => x :: vs
  | v :: vs, n + 1, x => v :: V.put vs n x
def putD (env : List V) (d : Option Tmp) (x : V) : List V := match d with | some t => V.put env t x | none => env

def constT (P : Program) (t : TypeId) : Value → V
  | .bool b => .d (.bool b)
  | .int k n => .d (.int k n)
  | .string s => .d (.str s)
  | .pointer none => .d .np
  | .map none => .nilm
  | .slice a n c => match a with
    | none => if n = 0 ∧ c = 0 then (match tk P t with | .sl e => .nils e | _ => .und) else .und
    | some _ => .und
  | _ => .und
def evalT (P : Program) (env : List V) (t : TypeId) : Operand → V
  | .tmp i => V.get env i
  | .const v => constT P t v
  | .func f => .fn f []
  | .global _ => .und
def evArgs (P : Program) (env : List V) : List TypeId → List Operand → List V
  | [], [] => []
  | [], o :: os => evalT P env 0 o :: evArgs P env [] os
  | _ :: _, [] => []
  | t :: ts, o :: os => evalT P env t o :: evArgs P env ts os
def pad : List V → Nat → List V
  | [], 0 => []
  | [], n + 1 => .und :: pad [] n
  | x :: xs, 0 => x :: xs
  | x :: xs, n + 1 => x :: pad xs n
def setN {α : Type} : List α → Nat → α → List α
  | [], _, _ => []
  | _ :: xs, 0, y => y :: xs
  | x :: xs, n + 1, y => x :: setN xs n y

/-- Data alone, no store asked. -/
def V.toD : V → Option D
  | .d x => some x
  | .agg t vs => (V.toDs vs).map (D.agg t)
  | _ => none
where V.toDs : List V → Option (List D)
  | [] => some []
  | v :: vs => match V.toD v, V.toDs vs with
    | some x, some xs => some (x :: xs)
    | _, _ => none
def allD : List V → Option (List D)
  | [] => some []
  | .d x :: vs => (allD vs).map (x :: ·)
  | _ :: _ => none
def mkAgg (t : TypeId) (vs : List V) : V := match allD vs with | some ds => .d (.agg t ds) | none => .agg t vs

def getPath : V → List (TypeId × Nat) → Option V
  | v, [] => some v
  | .d (.agg t ds), (t', i) :: r => if t = t' then match nth ds i with | some x => getPath (.d x) r | none => none else none
  | .agg t vs, (t', i) :: r => if t = t' then match nth vs i with | some x => getPath x r | none => none else none
  | _, _ :: _ => none
def setPath : V → List (TypeId × Nat) → V → Option V
  | _, [], x => some x
  | .d (.agg t ds), (t', i) :: r, x =>
    if t = t' then match nth ds i with
      | some c => match setPath (.d c) r x with
        | some (.d y) => some (.d (.agg t (setN ds i y)))
        | some y => some (.agg t (setN (ds.map V.d) i y))
        | none => none
      | none => none
    else none
  | .agg t vs, (t', i) :: r, x =>
    if t = t' then match nth vs i with
      | some c => match setPath c r x with
        | some y => some (mkAgg t (setN vs i y))
        | none => none
      | none => none
    else none
  | _, _ :: _, _ => none

/-- The value fits a variable of the type. -/
def hasT (P : Program) (t : TypeId) : V → Bool
  | .d (.agg t' _) | .agg t' _ => t' == t && (match tk P t with | .agg _ _ => true | _ => false)
  | .und | .tup _ => false
  | _ => match tk P t with | .one | .sl _ => true | _ => false

def bitsI (op : BinOp) (k : IntKind) (x y : Int) : Int :=
  let a := BitVec.ofInt k.bits x
  let b := BitVec.ofInt k.bits y
  k.wrap (match op with
    | .and => a &&& b
    | .or => a ||| b
    | .xor => a ^^^ b
    | _ => a &&& ~~~b : BitVec k.bits).toNat
def shlI (k : IntKind) (x y : Int) : Int := k.wrap (x * 2 ^ (min y.toNat k.bits))
def shrI (k : IntKind) (x y : Int) : Int := x.fdiv (2 ^ (min y.toNat k.bits))

/-- What kind of values are compared, and what strings are. -/
inductive EK where
  | int | bool | str | agg | ptr | bad
  deriving DecidableEq, Inhabited
def ek (P : Program) (t : TypeId) : EK := match P.underlying t with
  | some (.int _) => .int
  | some .bool => .bool
  | some .string => .str
  | some (.pointer _) => .ptr
  | some (.struct fs) => if !P.stoodInHeld t && !P.eqGuardType P.depth t && fs.toList.all (fun f => f.name != "_") then .agg else .bad
  | _ => .bad
def and2 : Option Bool → Option Bool → Option Bool
  | some a, some b => some (a && b)
  | _, _ => none
/-- Equality of data of a type. -/
def eqD (P : Program) : Nat → TypeId → D → D → Option Bool
  | 0, _, _, _ => none
  | n + 1, t, x, y => match ek P t, x, y with
    | .int, .int k a, .int k' b => if k = k' then some (decide (a = b)) else none
    | .bool, .bool a, .bool b => some (a == b)
    | .str, .str a, .str b => some (a.toList == b.toList)
    | .agg, .agg t1 xs, .agg t2 ys => if t1 = t ∧ t2 = t then match tk P t with
        | .agg _ false => eqDs n (compTs P t) xs ys
        | _ => none
      else none
    | _, _, _ => none
where eqDs (n : Nat) : List TypeId → List D → List D → Option Bool
  | [], [], [] => some true
  | e :: es, x :: xs, y :: ys => if hasT P e (.d x) ∧ hasT P e (.d y) then and2 (eqD P n e x y) (eqDs n es xs ys) else none
  | _, _, _ => none
/-- A byte of a string. -/
def strAt (s : ByteArray) (n : Int) : Option V := match (if 0 ≤ n then s[n.toNat]? else none) with
  | some b => some (.d (.int .u8 b.toNat))
  | none => none
def strCut (s : ByteArray) (lo hi mx : Option Int) : Option V := match mx with
  | some _ => none
  | none => if 0 ≤ lo.getD 0 ∧ lo.getD 0 ≤ hi.getD s.size ∧ hi.getD s.size ≤ s.size then some (.d (.str (s.extract (lo.getD 0).toNat (hi.getD s.size).toNat))) else none

/-- Equality of data that can be compared. -/
def D.eqb : D → D → Option Bool
  | .bool a, .bool b => some (a == b)
  | .int k a, .int k' b => if k = k' then some (decide (a = b)) else none
  | .str a, .str b => some (decide (a = b))
  | .agg t xs, .agg t' ys => if t = t' then D.eqbs xs ys else none
  | _, _ => none
where D.eqbs : List D → List D → Option Bool
  | [], [] => some true
  | x :: xs, y :: ys => match D.eqb x y with
    | some true => D.eqbs xs ys
    | some false => some false
    | none => none
  | _, _ => none

def evBin (P : Program) (op : BinOp) (t : TypeId) : V → V → Option V
  | .d (.int k a), .d (.int k' b) =>
    match op with
    | .shl => if b < 0 then none else some (.d (.int k (shlI k a b)))
    | .shr => if b < 0 then none else some (.d (.int k (shrI k a b)))
    | op => if k = k' then
      match op with
      | .add => some (.d (.int k (k.wrap (a + b))))
      | .sub => some (.d (.int k (k.wrap (a - b))))
      | .mul => some (.d (.int k (k.wrap (a * b))))
      | .quo => if b = 0 then none else some (.d (.int k (k.wrap (a.tdiv b))))
      | .rem => if b = 0 then none else some (.d (.int k (a.tmod b)))
      | .and | .or | .xor | .andNot => some (.d (.int k (bitsI op k a b)))
      | .eql => some (.d (.bool (decide (a = b))))
      | .neq => some (.d (.bool (!decide (a = b))))
      | .lss => some (.d (.bool (decide (a < b))))
      | .leq => some (.d (.bool (decide (a ≤ b))))
      | .gtr => some (.d (.bool (decide (a > b))))
      | .geq => some (.d (.bool (decide (a ≥ b))))
      | _ => none
      else none
  | .d (.bool a), .d (.bool b) =>
    match op with
    | .eql => if P.underlying t matches some .bool then some (.d (.bool (a == b))) else none
    | .neq => if P.underlying t matches some .bool then some (.d (.bool (!(a == b)))) else none
    | _ => none
  | .d (.str a), .d (.str b) =>
    match op with
    | .add => if ((a.size + b.size : Nat) : Int) > IntKind.i64.max then none else some (.d (.str (a ++ b)))
    | .eql => some (.d (.bool (a.toList == b.toList)))
    | .neq => some (.d (.bool (!(a.toList == b.toList))))
    | .lss => some (.d (.bool (Go.Op.bytesLess a.toList b.toList)))
    | .leq => some (.d (.bool (Go.Op.bytesLess a.toList b.toList || a.toList == b.toList)))
    | .gtr => some (.d (.bool (!(Go.Op.bytesLess a.toList b.toList || a.toList == b.toList))))
    | .geq => some (.d (.bool (!(Go.Op.bytesLess a.toList b.toList))))
    | _ => none
  | .d (.agg t1 xs), .d (.agg t2 ys) =>
    match op with
    | .eql => match eqD P 20 t (.agg t1 xs) (.agg t2 ys) with | some q => some (.d (.bool q)) | none => none
    | .neq => match eqD P 20 t (.agg t1 xs) (.agg t2 ys) with | some q => some (.d (.bool (!q))) | none => none
    | _ => none
  | _, _ => none

/-- Whether an operand is the literal nil of a slice. -/
def isNilC : Operand → Bool
  | .const (.slice none _ _) => true
  | _ => false
def evNil (op : BinOp) (v : V) : Option V := match op with
  | .eql => match v with
    | .d (.sl _ ds) => if 0 < ds.length then some (.d (.bool false)) else none
    | .rs _ _ _ _ len _ => if 0 < len then some (.d (.bool false)) else none
    | .nils _ => some (.d (.bool true))
    | _ => none
  | .neq => match v with
    | .d (.sl _ ds) => if 0 < ds.length then some (.d (.bool true)) else none
    | .rs _ _ _ _ len _ => if 0 < len then some (.d (.bool true)) else none
    | .nils _ => some (.d (.bool false))
    | _ => none
  | _ => none
/-- Whether an operand is the literal nil of a pointer. -/
def isNilP : Operand → Bool
  | .const (.pointer none) => true
  | _ => false
def evNilP (op : BinOp) (v : V) : Option V := match v with
  | .d .np => match op with
    | .eql => some (.d (.bool true))
    | .neq => some (.d (.bool false))
    | _ => none
  | .d (.ptr _) | .p .. => match op with
    | .eql => some (.d (.bool false))
    | .neq => some (.d (.bool true))
    | _ => none
  | _ => none
def evBinO (P : Program) (ρ : TypeId → Operand → V) (op : BinOp) (t : TypeId) (x y : Operand) : Option V :=
  if isNilC y = true then (match tk P t with | .sl _ => evNil op (ρ t x) | _ => none) else if isNilP y = true then (match ek P t with | .ptr => evNilP op (ρ t x) | _ => none) else evBin P op t (ρ t x) (ρ t y)
def evUn (op : UnOp) : V → Option V
  | .d (.int k n) => match op with
    | .neg => some (.d (.int k (k.wrap (0 - n))))
    | .xor => some (.d (.int k (bitsI .xor k (if k.signed then -1 else k.max) n)))
    | _ => none
  | .d (.bool b) => match op with
    | .not => some (.d (.bool (!b)))
    | _ => none
  | _ => none

/-- The kind of a type of whole numbers. -/
def intK (P : Program) (t : TypeId) : Option IntKind := match P.underlying t with | some (.int k) => some k | _ => none

def evConv (P : Program) (src dst : TypeId) : V → Option V
  | .d (.int _ n) => match intK P src, intK P dst with
    | some _, some k => some (.d (.int k (k.wrap n)))
    | _, _ => none
  | _ => none

def optI : Option V → Option (Option Int)
  | none => some none
  | some (.d (.int _ n)) => some (some n)
  | some _ => none

/-- xs[lo:hi] and xs[lo:hi:mx] of a slice. -/
def evSlice (x : V) (lo hi mx : Option Int) : Option V :=
  match x with
  | .d (.sl e ds) =>
    let l := lo.getD 0; let h := hi.getD ds.length
    if 0 ≤ l ∧ l ≤ h ∧ h ≤ ds.length then
      (match mx with
       | none => some (.d (.sl e ((ds.take h.toNat).drop l.toNat)))
       | some m => if h ≤ m ∧ m ≤ ds.length then (if m = 0 then some (.nila e) else some (.d (.sl e ((ds.take h.toNat).drop l.toNat)))) else none)
    else none
  | .rs er k ver off len full =>
    let l := lo.getD 0; let h := hi.getD len
    if 0 ≤ l ∧ l ≤ h ∧ h ≤ len then
      (match mx with
       | none => some (.rs er k ver (off + l.toNat) (h.toNat - l.toNat) full)
       | some m => if h ≤ m ∧ m ≤ len then some (.rs er k ver (off + l.toNat) (h.toNat - l.toNat) false) else none)
    else none
  | .nils e => if lo.getD 0 = 0 ∧ hi.getD 0 = 0 ∧ mx = none then some (.nils e) else none
  | _ => none

/-- The type of a slice's elements. -/
def elemT : V → Option TypeId
  | .d (.sl e _) => some e
  | .rs e _ _ _ _ _ => some e
  | .nils e => some e
  | _ => none
def lenV : V → Option Nat
  | .d (.sl _ ds) => some ds.length
  | .rs _ _ _ _ len _ => some len
  | .nils _ => some 0
  | .nila _ => some 0
  | _ => none

def minI (a b : Int) : Int := if b < a then b else a
def maxI (a b : Int) : Int := if b > a then b else a
def foldI (f : Int → Int → Int) (k : IntKind) : List V → Option Int → Option V
  | [], some a => some (.d (.int k a))
  | .d (.int k' b) :: r, some a => if k' = k then foldI f k r (some (f a b)) else none
  | _, _ => none

def evPureB (P : Program) (b : Builtin) (ts : List TypeId) (xs : List V) : Option V :=
  match b with
  | .len => match xs, ts with
    | [.d (.str s)], [t] => if ek P t = .str then some (.d (.int .i64 s.size)) else none
    | [x], [t] => match tk P t, lenV x with
      | .sl _, some n => some (.d (.int .i64 n))
      | _, _ => none
    | _, _ => none
  | .min => match xs with
    | .d (.int k a) :: r => foldI minI k r (some a)
    | _ => none
  | .max => match xs with
    | .d (.int k a) :: r => foldI maxI k r (some a)
    | _ => none
  | _ => none

def capsOk : List V → Bool
  | [] => true
  | .p .. :: r => capsOk r
  | .d (.ptr _) :: r => capsOk r
  | _ => false

/-- Operations that ask nothing of the store. -/
def evPure (P : Program) (ρ : TypeId → Operand → V) (ty : TypeId) : Op → Option V
  | .move x | .assign x => some (ρ ty x)
  | .pick c a b => match ρ 0 c with | .d (.bool q) => some (if q then ρ ty a else ρ ty b) | _ => none
  | .binOp op t x y _ => evBin P op t (ρ t x) (ρ t y)
  | .unOp op t x => evUn op (ρ t x)
  | .convert s t x => evConv P s t (ρ s x)
  | .makeFunc (.func f) first caps => if first.isEmpty && capsOk (caps.toList.map (ρ 0)) then some (.fn f (caps.toList.map (ρ 0))) else none
  | .slice t x lo hi mx => match tk P t, optI (lo.map (ρ 0)), optI (hi.map (ρ 0)), optI (mx.map (ρ 0)) with
    | .sl e, some l, some h, some m => if elemT (ρ t x) = some e ∧ (m.isSome = true → h.isSome = true) then evSlice (ρ t x) l h m else none
    | .one, some l, some h, some m => if ek P t = .str then match ρ t x with
        | .d (.str s) => strCut s l h m
        | _ => none
      else none
    | _, _, _, _ => none
  | .fieldAddr t x f => match tk P t, ρ 0 x with
    | .agg n false, .p k ver i path => if f < n then some (.p k ver i (path ++ [(t, f)])) else none
    | .agg _ false, .d (.ptr (.agg t' ds)) => if t' = t then match nth ds f with | some y => some (.d (.ptr y)) | none => none else none
    | _, _ => none
  | .field t x f => match compT P t f, tk P t with
    | some e, .agg _ false => match ρ t x with
      | .d (.agg t' ds) => if t' = t then match nth ds f with | some y => if hasT P e (.d y) then some (.d y) else none | none => none else none
      | .agg t' vs => if t' = t then match nth vs f with | some y => if hasT P e y then some y else none | none => none else none
      | _ => none
    | _, _ => none
  | .indexAddr t x i => match tk P t, ρ t x, ρ 0 i with
    | .sl e, .d (.sl e' ds), .d (.int _ n) => if e = e' ∧ 0 ≤ n ∧ n < ds.length then (ds[n.toNat]?).map (fun y => V.d (.ptr y)) else none
    | .sl e, .rs er k ver off len _, .d (.int _ n) => if e = er ∧ 0 ≤ n ∧ n < len then some (.p k ver (off + n.toNat) []) else none
    | .agg m true, .p k ver j path, .d (.int _ n) => if 0 ≤ n ∧ n < m then some (.p k ver j (path ++ [(t, n.toNat)])) else none
    | _, _, _ => none
  | .index t x i => match ρ t x, ρ 0 i with
    | .d (.str s), .d (.int _ n) => if ek P t = .str then strAt s n else none
    | .d (.agg t' ds), .d (.int _ n) => match tk P t, compT P t 0 with
      | .agg m true, some e => if t' = t ∧ 0 ≤ n ∧ n < m then match ds[n.toNat]? with
          | some y => if hasT P e (.d y) then some (.d y) else none
          | none => none
        else none
      | _, _ => none
    | .agg t' vs, .d (.int _ n) => match tk P t, compT P t 0 with
      | .agg m true, some e => if t' = t ∧ 0 ≤ n ∧ n < m then match vs[n.toNat]? with
          | some y => if hasT P e y then some y else none
          | none => none
        else none
      | _, _ => none
    | _, _ => none
  | .extract x i => match ρ 0 x with | .tup vs => nth vs i | _ => none
  | .nilCheck x => match ρ 0 x with
    | .p k ver i path => some (.p k ver i path)
    | .d (.ptr x) => some (.d (.ptr x))
    | .fn f caps => some (.fn f caps)
    | _ => none
  | _ => none

/-- The zero of a type: read off the type's own zero cells. -/
def zeroOne : Value → Option V
  | .bool b => some (.d (.bool b))
  | .int k n => some (.d (.int k n))
  | .string s => some (.d (.str s))
  | .pointer none => some (.d .np)
  | _ => none
/-- The zero of a variable whose content is not looked at; of a map it is the nil map. -/
def zeroJ (v : Value) : Option V := match v with
  | .map none => some .nilm
  | v => if v.oneCell' then some .jk else none
def zeroGo (P : Program) (z : TypeId → List Value → Option V) (t : TypeId) : Nat → List Nat → List Value → Option (List V)
  | _, [], [] => some []
  | _, [], _ :: _ => none
  | i, s :: sz, cs => if s ≤ cs.length then match compT P t i with
      | some e => match z e (cs.take s), zeroGo P z t (i + 1) sz (cs.drop s) with
        | some v, some vs => if s = szOf P e then some (v :: vs) else none
        | _, _ => none
      | none => none
    else none
def zeroAt (P : Program) : Nat → TypeId → List Value → Option V
  | 0, _, _ => none
  | n + 1, t, cs => match tk P t with
    | .sl e => match cs with | [.slice none 0 0] => some (.nils e) | _ => none
    | .one => match cs with | [v] => (match zeroOne v with | some z => some z | none => zeroJ v) | _ => none
    | .agg m _ => match comps P t with
      | some sz => (zeroGo P (zeroAt P n) t 0 sz cs).map (mkAgg t)
      | none => none
    | .bad => none
def zeroV (P : Program) (t : TypeId) : Option V :=
  match (P.info? t).bind (·.zero) with
  | some z => zeroAt P 9 t z.cells.toList
  | none => none

def V.isAgg : V → Bool
  | .d (.agg _ _) | .agg _ _ => true
  | _ => false
def isAggV : Value → Bool
  | .agg _ => true
  | _ => false
/-- The zero of a type as a value. -/
def zeroW (P : Program) (t : TypeId) : Option V := match (P.info? t).bind (·.zero), zeroV P t with
  | some zv, some z => if isAggV zv = z.isAgg then some z else none
  | _, _ => none

def setParts (P : Program) (ρ : TypeId → Operand → V) (t : TypeId) : List V → List (Nat × Operand) → Option (List V)
  | vs, [] => some vs
  | vs, (i, o) :: r => match compT P t i with
    | some e => if i < vs.length ∧ hasT P e (ρ e o) then setParts P ρ t (setN vs i (ρ e o)) r else none
    | none => none
def setElems (P : Program) (ρ : TypeId → Operand → V) (e : TypeId) : List V → List (Nat × Operand) → Option (List V)
  | vs, [] => some vs
  | vs, (i, o) :: r => if i < vs.length ∧ hasT P e (ρ e o) then setElems P ρ e (setN vs i (ρ e o)) r else none
def aggParts : V → Option (TypeId × List V)
  | .d (.agg t ds) => some (t, ds.map V.d)
  | .agg t vs => some (t, vs)
  | _ => none

/-- The elements that a slice shows. -/
def elemsOf (st : Store) : V → Option (TypeId × List V)
  | .d (.sl e ds) => some (e, ds.map V.d)
  | .nils e => some (e, [])
  | .nila e => some (e, [])
  | .rs er k ver off len _ => if (st k).ver = ver ∧ (st k).live = true ∧ off + len ≤ (st k).vs.length then some (er, ((st k).vs.drop off).take len) else none
  | _ => none

def maxRow : Nat := 140737488355328

structure Spec where
  run : List D → Option (List D)
abbrev Specs := List (FuncId × Spec)
def look : Specs → FuncId → Option Spec
  | [], _ => none
  | (g, s) :: r, f => if f = g then some s else look r f

/-- A value as data, the rows of the store read as they stand. -/
def V.view (st : Store) : V → Option D
  | .d x => some x
  | .agg t vs => (views st vs).map (D.agg t)
  | .nils e => some (.sl e [])
  | .nila e => some (.sl e [])
  | .rs er k ver off len full => match elemsOf st (.rs er k ver off len full) with
    | some (e, vs) => (V.toD.V.toDs vs).map (D.sl e)
    | none => none
  | _ => none
where views (st : Store) : List V → Option (List D)
  | [] => some []
  | v :: vs => match V.view st v, views st vs with
    | some x, some xs => some (x :: xs)
    | _, _ => none
/-- A value handed to a contract: a pointer into the store stands for what it points to. -/
def V.arg (st : Store) : V → Option D
  | .p k ver i path => if (st k).ver = ver ∧ (st k).live = true then match nth (st k).vs i with
    | some v => match getPath v path with
      | some x => (V.view st x).map D.ptr
      | none => none
    | none => none
    else none
  | v => V.view st v
def V.args (st : Store) : List V → Option (List D)
  | [] => some []
  | v :: vs => match V.arg st v, V.args st vs with
    | some x, some xs => some (x :: xs)
    | _, _ => none
/-- No reference into the store. -/
def V.pure : V → Bool
  | .d _ | .nils _ | .nila _ => true
  | .agg _ vs => pures vs
  | _ => false
where pures : List V → Bool
  | [] => true
  | v :: vs => V.pure v && pures vs
/-- No slice in it. -/
def D.flat : D → Bool
  | .sl _ _ => false
  | .ptr _ => false
  | .agg _ ds => flats ds
  | _ => true
where flats : List D → Bool
  | [] => true
  | x :: xs => D.flat x && flats xs
def retV : List V → V
  | [v] => v
  | vs => .tup vs

inductive X where
  | normal
  | exit (id : Nat)
  | ret
  deriving DecidableEq

abbrev Caller := FuncId → List V → Nat → Store → Option (V × Store)

/-- Where a new row goes: each operation has one place of its own; at the high levels it has a row of places, and takes the first that was never used. -/
def fkS (st : Store) (lv d : Nat) : Nat → Nat → Key
  | 0, n => (lv, d + 4096 * n)
  | f + 1, n => if (st (lv, d + 4096 * n)).ver = 0 then (lv, d + 4096 * n) else fkS st lv d f (n + 1)
def fk (st : Store) (lv d : Nat) : Key := if lv < 1000000000000000000000000000000 then (lv, d) else fkS st lv d 1000000 0
theorem fk_lo {st : Store} {lv d : Nat} (h : lv < 1000000000000000000000000000000) : fk st lv d = (lv, d) := by unfold fk; rw [if_pos h]
/-- A slice without cells: its elements' type. -/
def nilE : V → Option TypeId
  | .nils e => some e
  | .nila e => some e
  | _ => none
/-- What an append does to a slice that is nil or a whole row of the store. -/
def appendTo (P : Program) (lv : Nat) (d : Tmp) (st : Store) (e : TypeId) (s : V) (new : List V) : Option (V × Store) := match nilE s with
  | some e2 => if e2 = e ∧ new.length * P.bytesOf e ≤ maxRow then
      some (.rs e (fk st lv d) ((st (fk st lv d)).ver + 1) 0 new.length true, newBlk st (fk st lv d) e new) else none
  | none => match s with
  | .rs er k ver off len full => if (st k).ver = ver ∧ (st k).live = true ∧ er = e ∧ off = 0 ∧ len = (st k).vs.length ∧ full = true ∧ len + new.length ≤ maxRow ∧ (len + new.length) * P.bytesOf e ≤ maxRow then
      some (.rs e k (ver + 1) 0 (len + new.length) true, upd st k ⟨ver + 1, e, (st k).vs ++ new, true⟩) else none
  | _ => none

/-- The types of a map's keys and elements. -/
def mapT (P : Program) (t : TypeId) : Option (TypeId × TypeId) := match P.underlying t with
  | some (.map k e) => some (k, e)
  | _ => none
/-- What a block of a map has in the place of a type: nothing lies there. -/
def mapE (t : TypeId) : TypeId := 1000000 + t
def hintOk : Option V → Bool
  | none => true
  | some (.d (.int _ _)) => true
  | _ => false
def keyOk : EK → D → Bool
  | .int, .int _ _ => true
  | .bool, .bool _ => true
  | .str, .str _ => true
  | _, _ => false
def sameK : D → D → Option Bool
  | .int k a, .int k' b => if k = k' then some (decide (a = b)) else none
  | .bool a, .bool b => some (decide (a = b))
  | .str a, .str b => some (decide (a = b))
  | _, _ => none
/-- What a map has under a key. -/
def mget : List V → D → Option (Option V)
  | [], _ => some none
  | [_], _ => none
  | k :: v :: r, x => match k with
    | .d q => match sameK x q with
      | some true => some (some v)
      | some false => mget r x
      | none => none
    | _ => none
def consP (k u : V) : Option (List V) → Option (List V)
  | some l => some (k :: u :: l)
  | none => none
def mput : List V → D → V → Option (List V)
  | [], x, v => some [.d x, v]
  | [_], _, _ => none
  | k :: u :: r, x, v => match k with
    | .d q => match sameK x q with
      | some true => some (k :: v :: r)
      | some false => consP k u (mput r x v)
      | none => none
    | _ => none
def lookV (ok : Bool) : Option V → V → V
  | some v, _ => bif ok then .tup [v, .d (.bool true)] else v
  | none, z => bif ok then .tup [z, .d (.bool false)] else z
def evLookup (P : Program) (st : Store) (t : TypeId) (ok : Bool) (m i : V) : Option (V × Store) := match mapT P t with
  | some (kt, et) => match m with
    | .mp k ver => match i with
      | .d q => if (st k).ver = ver ∧ (st k).live = true ∧ keyOk (ek P kt) q = true then
          match mget (st k).vs q with
          | some r => match zeroW P et with
            | some z => some (lookV ok r z, st)
            | none => none
          | none => none
        else none
      | _ => none
    | _ => none
  | none => none
def evPut (P : Program) (st : Store) (t : TypeId) (m i : V) (x : TypeId → V) : Option (V × Store) := match mapT P t with
  | some (kt, et) => match m with
    | .mp k ver => match i with
      | .d q => if (st k).ver = ver ∧ (st k).live = true ∧ keyOk (ek P kt) q = true ∧ hasT P et (x et) = true then
          match mput (st k).vs q (x et) with
          | some vs => some (.tup [], upd st k ⟨(st k).ver, (st k).e, vs, true⟩)
          | none => none
        else none
      | _ => none
    | _ => none
  | none => none

/-- Operations that ask the store. -/
def evStore (P : Program) (ρ : TypeId → Operand → V) (lv : Nat) (dst : Option Tmp) (st : Store) : Op → Option (V × Store)
  | .alloc t => match dst, zeroV P t with
    | some d, some z => some (.p (lv, d) ((st (lv, d)).ver + 1) 0 [], newBlk st (lv, d) t [z])
    | _, _ => none
  | .box t x => match dst with
    | some d => if hasT P t (ρ t x) then some (.p (lv, d) ((st (lv, d)).ver + 1) 0 [], newBlk st (lv, d) t [ρ t x]) else none
    | none => none
  | .build t parts => match (zeroV P t).bind aggParts with
    | some (t', zs) => if t' = t then (setParts P ρ t zs parts.toList).map fun vs => (mkAgg t vs, st) else none
    | none => none
  | .buildSlice t len parts => match dst, tk P t with
    | some d, .sl e => match zeroV P e with
      | some z => if len * szOf P e ≤ 2 ^ 24 then match setElems P ρ e (List.replicate len z) parts.toList with
          | some vs => some (.rs e (fk st lv d) ((st (fk st lv d)).ver + 1) 0 len true, newBlk st (fk st lv d) e vs)
          | none => none
        else none
      | none => none
    | _, _ => none
  | .makeSlice t l c => match dst, tk P t, ρ 0 l, ρ 0 c with
    | some d, .sl e, .d (.int .i64 n), .d (.int .i64 m) => match zeroV P e with
      | some z => if 0 ≤ n ∧ n ≤ m ∧ m.toNat * P.bytesOf e ≤ maxRow ∧ m.toNat ≤ maxRow then
          some (.rs e (fk st lv d) ((st (fk st lv d)).ver + 1) 0 n.toNat true, newBlk st (fk st lv d) e (List.replicate n.toNat z)) else none
      | none => none
    | _, _, _, _ => none
  | .makeMap t r => match dst, mapT P t with
    | some d, some _ => if szOf P (mapE t) = 0 ∧ hintOk (r.map (ρ 0)) = true then some (.mp (lv, d) ((st (lv, d)).ver + 1), newBlk st (lv, d) (mapE t) []) else none
    | _, _ => none
  | .lookup t x i ok => evLookup P st t ok (ρ 0 x) (ρ 0 i)
  | .mapUpdate t m k x => evPut P st t (ρ 0 m) (ρ 0 k) (fun e => ρ e x)
  | .insert t m k x => evPut P st t (ρ 0 m) (ρ 0 k) (fun e => ρ e x)
  | .load t a => match ρ 0 a with
    | .d (.ptr x) => if hasT P t (.d x) then some (.d x, st) else none
    | .p k ver i path => if (st k).ver = ver ∧ (st k).live = true then match nth (st k).vs i with
        | some v => match getPath v path with
          | some x => if hasT P t x then some (x, st) else none
          | none => none
        | none => none
      else none
    | _ => none
  | .store t a x => match ρ 0 a with
    | .p k ver i path => if (st k).ver = ver ∧ (st k).live = true then match nth (st k).vs i with
        | some v => match getPath v path with
          | some old => if hasT P t old ∧ hasT P t (ρ t x) then match setPath v path (ρ t x) with
              | some v' => some (.tup [], upd st k ⟨(st k).ver, (st k).e, setN (st k).vs i v', true⟩)
              | none => none
            else none
          | none => none
        | none => none
      else none
    | _ => none
  | .call { callee := .builtin .append, args, argTypes } => match args.toList, argTypes.toList, dst with
    | [s, x], [t, t'], some d => match tk P t, zeroV P (match tk P t with | .sl e => e | _ => 0), elemsOf st (ρ t x) with
      | .sl e, some _, some (e', new) => if t' = t ∧ e' = e ∧ new.length ≤ maxRow then
          appendTo P lv d st e (ρ t s) new
        else none
      | _, _, _ => none
    | _, _, _ => none
  | .call { callee := .builtin .clear, args, argTypes } => match args.toList, argTypes.toList with
    | [x], [t] => match ρ t x, tk P t with
      | .rs er k ver off len _, .sl e => match zeroV P e with
        | some z => if (st k).ver = ver ∧ (st k).live = true ∧ er = e ∧ off + len ≤ (st k).vs.length then
            some (.tup [], upd st k ⟨ver, e, (st k).vs.take off ++ List.replicate len z ++ (st k).vs.drop (off + len), true⟩) else none
        | none => none
      | _, _ => none
    | _, _ => none
  | _ => none

def noTup : List V → Bool
  | [] => true
  | .tup _ :: _ => false
  | _ :: r => noTup r

/-- A call by name or through a value. -/
def evCall (Γ : Specs) (call : Caller) (lv : Nat) (st : Store) (f : V) (xs : List V) : Option (V × Store) :=
  match f with
  | .fn g caps => match look Γ g with
    | some s => if capsOk caps then match V.args st (xs ++ caps) with
        | some ds => match s.run ds with
          | some rs => if V.pure.pures (xs ++ caps) || D.flat.flats rs then some (retV (rs.map V.d), st) else none
          | none => none
        | none => none
      else none
    | none => if noTup xs && capsOk caps then call g (xs ++ caps) lv st else none
  | _ => none

/-- The level of a call: each place of a call has its own. -/
def subL (lv : Nat) (dst : Option Tmp) : Nat := match dst with
  | some d => lv * 4096 + d + 1
  | none => lv * 4096
def pureO (st : Store) : Option V → Option (V × Store)
  | some v => some (v, st)
  | none => none
/-- Whether the length of a map may be asked (it reads the store): a list of contracts says so by a number that is no function's. -/
def lenOn (Γ : Specs) (t : TypeId) : Bool := (Γ.map (·.1)).contains (1000000000 + t)
def evLen (P : Program) (Γ : Specs) (st : Store) (ts : List TypeId) (xs : List V) : Option V := match xs with
  | [.mp k ver] => match ts with
    | [t] => match mapT P t with
      | some _ => if lenOn Γ t = true ∧ (st k).ver = ver ∧ (st k).live = true then some (.d (.int .i64 ((st k).vs.length / 2 : Nat))) else none
      | none => none
    | _ => none
  | xs => evPureB P .len ts xs
def evOp (P : Program) (Γ : Specs) (call : Caller) (lv : Nat) (dst : Option Tmp) (ty : TypeId) (env : List V) (st : Store) : Op → Option (V × Store)
  | .move x => some (evalT P env ty x, st)
  | .assign x => some (evalT P env ty x, st)
  | .pick c a b => pureO st (evPure P (evalT P env) ty (.pick c a b))
  | .alloc t => evStore P (evalT P env) lv dst st (.alloc t)
  | .box t x => evStore P (evalT P env) lv dst st (.box t x)
  | .build t ps => evStore P (evalT P env) lv dst st (.build t ps)
  | .buildSlice t n ps => evStore P (evalT P env) lv dst st (.buildSlice t n ps)
  | .load t a => evStore P (evalT P env) lv dst st (.load t a)
  | .store t a x => evStore P (evalT P env) lv dst st (.store t a x)
  | .makeMap t r => evStore P (evalT P env) lv dst st (.makeMap t r)
  | .lookup t x i ok => evStore P (evalT P env) lv dst st (.lookup t x i ok)
  | .mapUpdate t m k x => evStore P (evalT P env) lv dst st (.mapUpdate t m k x)
  | .insert t m k x => evStore P (evalT P env) lv dst st (.insert t m k x)
  | .nilCheck x => pureO st (evPure P (evalT P env) ty (.nilCheck x))
  | .binOp op t x y u => pureO st (evBinO P (evalT P env) op t x y)
  | .unOp op t x => pureO st (evUn op (evalT P env t x))
  | .convert s t x => pureO st (evConv P s t (evalT P env s x))
  | .makeFunc f a c => pureO st (evPure P (evalT P env) ty (.makeFunc f a c))
  | .makeSlice t l c => evStore P (evalT P env) lv dst st (.makeSlice t l c)
  | .slice t x l h m => pureO st (evPure P (evalT P env) ty (.slice t x l h m))
  | .fieldAddr t x f => pureO st (evPure P (evalT P env) ty (.fieldAddr t x f))
  | .field t x f => pureO st (evPure P (evalT P env) ty (.field t x f))
  | .indexAddr t x i => pureO st (evPure P (evalT P env) ty (.indexAddr t x i))
  | .index t x i => pureO st (evPure P (evalT P env) ty (.index t x i))
  | .extract x i => pureO st (evPure P (evalT P env) ty (.extract x i))
  | .call c => match c.callee with
    | .builtin b => match b with
      | .append => evStore P (evalT P env) lv dst st (.call c)
      | .clear => evStore P (evalT P env) lv dst st (.call c)
      | .len => pureO st (evLen P Γ st c.argTypes.toList (evArgs P env c.argTypes.toList c.args.toList))
      | b => pureO st (evPureB P b c.argTypes.toList (evArgs P env c.argTypes.toList c.args.toList))
    | .value f => evCall Γ call (subL lv dst) st (evalT P env 0 f) (evArgs P env c.argTypes.toList c.args.toList)
    | .invoke .. => none
  | _ => none
def putR (env : List V) (dst : Option Tmp) : Option (V × Store) → Option (List V × Store)
  | some (v, st') => some (putD env dst v, st')
  | none => none
def thenO : Option (List V × Store) → (List V → Store → Option (List V × Store)) → Option (List V × Store)
  | some (env, st), k => k env st
  | none, _ => none
/-- Is the guarded operation wanted? -/
def condR (v : V) (want : Bool) (a b : Option (List V × Store)) : Option (List V × Store) :=
  match v with
  | .d (.bool q) => if q = want then a else b
  | .tup [] => b
  | _ => none
def dstAt (ops : List Oper) (j : Nat) : Option Tmp := match nth ops j with | some o => o.dst | none => none

def evOps (P : Program) (Γ : Specs) (call : Caller) (lv : Nat) (ops : List Oper) : List Oper → List V → Store → Option (List V × Store)
  | [], env, st => some (env, st)
  | o :: r, env, st => match o.guard with
    | none => thenO (putR env o.dst (evOp P Γ call lv o.dst o.type env st o.op)) (evOps P Γ call lv ops r)
    | some (j, want) => match dstAt ops j with
      | some t => condR (V.get env t) want
          (thenO (putR env o.dst (evOp P Γ call lv o.dst o.type env st o.op)) (evOps P Γ call lv ops r))
          (evOps P Γ call lv ops r (putD env o.dst (.tup [])) st)
      | none => none

def mask : List Bool → List V → List V
  | true :: m, v :: vs => v :: mask m vs
  | false :: m, _ :: vs => .und :: mask m vs
  | [], vs => vs
  | _ :: _, [] => []
abbrev Out := Option (X × List V × Store)
abbrev Run := List V → Store → Out
def seqR : Out → Run → Out
  | some (.normal, env, st), k => k env st
  | some (.exit i, env, st), _ => some (.exit i, env, st)
  | some (.ret, env, st), _ => some (.ret, env, st)
  | none, _ => none
def blkR (id : Nat) : Out → Out
  | some (.exit i, env, st) => if i = id then some (.normal, env, st) else some (.exit i, env, st)
  | some (.normal, env, st) => some (.normal, env, st)
  | some (.ret, env, st) => some (.ret, env, st)
  | none => none
def normR : Option (List V × Store) → Out
  | some (env, st) => some (.normal, env, st)
  | none => none
def iter (f : Run) (m : List Bool) : Nat → Run
  | 0, _, _ => none
  | n + 1, env, st => seqR (f (mask m env) st) (iter f m n)

abbrev Masks := List (Nat × List Bool)
def maskOf : Masks → Nat → List Bool
  | [], _ => []
  | (i, m) :: r, id => if id = i then m else maskOf r id
/-- Regions whose order is open and in which nothing is entered. -/
def ncOf (ms : Masks) (id : Nat) : Bool := match maskOf ms (2000000 + id) with
  | [] => false
  | _ => true
def noCall : Caller := fun _ _ _ _ => none
def callOf (ms : Masks) (id : Nat) (call : Caller) : Caller := bif ncOf ms id then noCall else call

/-- Where a value points: into the store, or elsewhere. -/
def keyOfV : V → Option (Option Key)
  | .p k .. => some (some k)
  | .rs _ k .. => some (some k)
  | .mp k _ => some (some k)
  | .d _ => some none
  | _ => none
def apartV (u v : V) : Bool := match keyOfV u, keyOfV v with
  | some (some k), some (some k') => !keq k k'
  | some none, some _ => true
  | some (some _), some none => true
  | _, _ => false
def sel : List Bool → List V → List V
  | true :: m, v :: vs => v :: sel m vs
  | false :: m, _ :: vs => sel m vs
  | [], _ => []
  | _ :: _, [] => []
def apartL (v : V) : List V → Bool
  | [] => true
  | u :: r => apartV v u && apartL v r
def apartAll : List V → Bool
  | [] => true
  | v :: r => apartL v r && apartAll r
def freeAll : List V → Bool
  | [] => true
  | .und :: r => freeAll r
  | _ :: _ => false
/-- Variables made in the region itself: where they will lie. -/
def andL : List Bool → List Bool → List Bool
  | a :: m, b :: u => (a && b) :: andL m u
  | _, _ => []
def anyL : List Bool → Bool
  | [] => false
  | true :: _ => true
  | false :: r => anyL r
def aenvG (lv : Nat) : Nat → List Bool → List V → List V
  | i, true :: al, _ :: vs => .p (lv, i) 0 0 [] :: aenvG lv (i + 1) al vs
  | i, false :: al, v :: vs => v :: aenvG lv (i + 1) al vs
  | _, [], vs => vs
  | _, _ :: _, [] => []
def aenv (lv : Nat) (al : List Bool) (env : List V) : List V := bif anyL al then aenvG lv 0 al env else env
/-- A region in whose open order loads and stores may change places: what they point to must lie apart. -/
def drawA (ms : Masks) (id lv : Nat) (env : List V) (o : Option (List V × Store)) : Option (List V × Store) := match maskOf ms (3000000 + id) with
  | [] => o
  | m => if apartAll (sel m (aenv lv (andL m (maskOf ms (4000000 + id))) env)) = true ∧ freeAll (sel (maskOf ms (4000000 + id)) env) = true then o else none
/-- Where the flagged places are, no row lies. -/
def deadAll (lv : Nat) (st : Store) : List Bool → Nat → Bool
  | [], _ => true
  | true :: r, i => !(st (lv, i)).live && deadAll lv st r (i + 1)
  | false :: r, i => deadAll lv st r (i + 1)
/-- The same, and where a variable may be made ahead of loads and calls: it must not have been there before. -/
def drawR (ms : Masks) (id : Nat) (lv : Nat) (env : List V) (st : Store) (o : Option (List V × Store)) : Option (List V × Store) := if lv < 1000000000000000000000000000000 then (match maskOf ms (5000000 + id) with
  | [] => drawA ms id lv env o
  | f => if deadAll lv st f 0 = true then drawA ms id lv env o else none) else none

/-- Rows that die at the start of a region whose order is open: their places are used anew in it. -/
def killAt (st : Store) (k : Key) : Store := upd st k ⟨(st k).ver, (st k).e, (st k).vs, false⟩
def killL (lv : Nat) : List Bool → Nat → Store → Store
  | [], _, st => st
  | true :: r, i, st => killL lv r (i + 1) (killAt st (lv, i))
  | false :: r, i, st => killL lv r (i + 1) st
def killR (ms : Masks) (id : Nat) (lv : Nat) (st : Store) : Store := killL lv (maskOf ms (5000000 + id)) 0 st
theorem killAt_i (st : Store) (k : Key) : killAt st k = upd st k ⟨(st k).ver, (st k).e, (st k).vs, false⟩ := rfl

/-- Whether cells that are nil stay so where rows are turned to data. -/
def kpOf (ms : Masks) (i : Nat) : Bool := match maskOf ms (8000000 + i) with
  | [] => false
  | _ => true
/-- Rows that lie in a row or in a variable are turned to data: their places (flagged) are given up. -/
def keyIn (lv : Nat) (K : List Bool) (k : Key) : Bool := k.1 == lv && K.getD k.2 false
def refsIn (lv : Nat) (K : List Bool) : V → Bool
  | .d _ | .nils _ | .nila _ => true
  | .agg _ vs => refsIns vs
  | .rs _ k _ _ _ _ => keyIn lv K k
  | _ => false
where refsIns : List V → Bool
  | [] => true
  | v :: vs => refsIn lv K v && refsIns vs
def keepL : List V → List D → List V
  | .nils e :: vs, _ :: ds => .nils e :: keepL vs ds
  | _ :: vs, d :: ds => .d d :: keepL vs ds
  | _, _ => []
def frzK (kp : Bool) (st0 st : Store) (lv : Nat) (K : List Bool) (k : Key) : Option Store :=
  if (st0 k).live = true ∧ keyIn lv K k = false ∧ refsIn.refsIns lv K (st0 k).vs = true then match V.view.views st0 (st0 k).vs with
    | some ds => some (upd st k ⟨(st0 k).ver, (st0 k).e, bif kp then keepL (st0 k).vs ds else ds.map V.d, true⟩)
    | none => none
  else none
def frzT (kp : Bool) (st0 st : Store) (lv : Nat) (K : List Bool) : V → Option Store
  | .nils _ => some st
  | .rs _ k ver _ _ _ => if (st0 k).ver = ver then frzK kp st0 st lv K k else none
  | .p k ver _ _ => if (st0 k).ver = ver then frzK kp st0 st lv K k else none
  | _ => none
def frzL (kp : Bool) (st0 : Store) (lv : Nat) (K : List Bool) : List Bool → List V → Store → Option Store
  | true :: m, v :: vs, st => match frzT kp st0 st lv K v with | some st' => frzL kp st0 lv K m vs st' | none => none
  | false :: m, _ :: vs, st => frzL kp st0 lv K m vs st
  | [], _, st => some st
  | _ :: _, [], st => some st
def frzO (kp : Bool) (lv : Nat) (m K : List Bool) : Out → Out
  | some (.normal, env, st) => match frzL kp st lv K m env st with | some st' => some (.normal, env, killL lv K 0 st') | none => none
  | some (.exit i, env, st) => some (.exit i, env, st)
  | some (.ret, env, st) => some (.ret, env, st)
  | none => none
def frzF (ms : Masks) (lv i : Nat) (f : Run) : Run := match maskOf ms (6000000 + i) with
  | [] => f
  | m => fun env st => frzO (kpOf ms i) lv m (maskOf ms (7000000 + i)) (f env st)
/-- The same ahead of the first round. -/
def frzI (ms : Masks) (lv i : Nat) (env : List V) (st : Store) (k : Store → Out) : Out := match maskOf ms (6000000 + i) with
  | [] => k st
  | m => match frzL (kpOf ms i) st lv (maskOf ms (7000000 + i)) m env st with | some st' => k (killL lv (maskOf ms (7000000 + i)) 0 st') | none => none

def evC (P : Program) (Γ : Specs) (call : Caller) (L : Nat) (ms : Masks) (lv : Nat) : Nat → Code → Run
  | _, .skip, env, st => some (.normal, env, st)
  | _, .label _, env, st => some (.normal, env, st)
  | _, .ret, env, st => some (.ret, mask (maskOf ms 1000000) env, st)
  | _, .exit id, env, st => some (.exit id, mask (maskOf ms (1000001 + id)) env, st)
  | _, .region id ops draw, env, st => normR (bif draw then drawR ms id lv env (killR ms id lv st) (evOps P Γ (callOf ms id call) lv ops.toList ops.toList env (killR ms id lv st)) else evOps P Γ call lv ops.toList ops.toList env st)
  | i, .seq a b, env, st => seqR (evC P Γ call L ms lv i a env st) (evC P Γ call L ms lv i b)
  | i, .cond c a b, env, st => match evalT P env 0 c with
    | .d (.bool q) => if q = true then evC P Γ call L ms lv i a env st else evC P Γ call L ms lv i b env st
    | _ => none
  | _, .block id a, env, st => blkR id (evC P Γ call L ms lv id a env st)
  | i, .loop body, env, st => frzI ms lv i env st fun st' => iter (frzF ms lv i (evC P Γ call L ms lv i body)) (maskOf ms i) L env st'
  | _, _, _, _ => none

def consV (v : V) (vs : List V) : Option (List V) := match v with
  | .tup _ => none
  | v => some (v :: vs)
def resV (P : Program) (st : Store) (env : List V) : List ResultVar → Option (List V)
  | [] => some []
  | .tmp t :: r => match resV P st env r with | some vs => consV (V.get env t) vs | none => none
  | .cell a t :: r => match V.get env a with
    | .p k ver i path => match path with
      | [] => if (st k).ver = ver ∧ (st k).live = true then match nth (st k).vs i, resV P st env r with
        | some v, some vs => if hasT P t v then some (v :: vs) else none
        | _, _ => none
        else none
      | _ => none
    | _ => none

/-- Functions that the evaluator enters: found in the program, their drawn regions in order. -/
structure Entry where
  fn : Func
  ms : Masks
abbrev Table := FuncId → Option Entry

def retS (st : Store) : Option (List V) → Option (V × Store)
  | some vs => some (retV vs, st)
  | none => none
def outR (P : Program) (res : List ResultVar) : Out → Option (V × Store)
  | some (.ret, env, st) => retS st (resV P st env res)
  | some (.normal, env, st) => retS st (resV P st env res)
  | some (.exit _, _, _) => none
  | none => none
def evF (P : Program) (Γ : Specs) (T : Table) (L : Nat) : Nat → Caller
  | 0, _, _, _, _ => none
  | c + 1, f, xs, lv, st => match T f with
    | some en => match en.fn.body with
      | some code => outR P en.fn.results.toList (evC P Γ (evF P Γ T L c) L en.ms lv 0 code (pad xs en.fn.ntmps) st)
      | none => none
    | none => none

/-- A value as data at the end of a call: rows within rows too. -/
def mapO {α β : Type} (f : α → Option β) : List α → Option (List β)
  | [] => some []
  | v :: vs => match f v, mapO f vs with
    | some x, some xs => some (x :: xs)
    | _, _ => none
def V.fin (st : Store) : Nat → V → Option D
  | 0, _ => none
  | n + 1, v => match v with
    | .d x => some x
    | .agg t vs => (mapO (V.fin st n) vs).map (D.agg t)
    | .nils e => some (.sl e [])
    | .nila e => some (.sl e [])
    | .rs er k ver off len full => match elemsOf st (.rs er k ver off len full) with
      | some (e, vs) => (mapO (V.fin st n) vs).map (D.sl e)
      | none => none
    | _ => none

def oneL {α : Type} : Option α → Option (List α)
  | some x => some [x]
  | none => none
def topR : Option (V × Store) → Option (List D)
  | some (.tup [_], _) => none
  | some (.tup vs, st) => mapO (V.fin st 9) vs
  | some (v, st) => oneL (V.fin st 9 v)
  | none => none
def evTop (P : Program) (Γ : Specs) (T : Table) (L c : Nat) (f : FuncId) (xs : List D) : Option (List D) :=
  topR (evF P Γ T L c f (xs.map V.d) 0 empty)

/-- A proof that the simplifier does not take for a computation. -/
theorem nr {p : Prop} (h : p) : p := h
section
variable (c : Prop) [Decidable c]
theorem putR_ite (env : List V) (d : Option Tmp) (a b : Option (V × Store)) : putR env d (if c then a else b) = if c then putR env d a else putR env d b := by split <;> rfl
theorem thenO_ite (k : List V → Store → Option (List V × Store)) (a b : Option (List V × Store)) : thenO (if c then a else b) k = if c then thenO a k else thenO b k := by split <;> rfl
theorem seqR_ite (k : Run) (a b : Out) : seqR (if c then a else b) k = if c then seqR a k else seqR b k := by split <;> rfl
theorem blkR_ite (id : Nat) (a b : Out) : blkR id (if c then a else b) = if c then blkR id a else blkR id b := by split <;> rfl
theorem normR_ite (a b : Option (List V × Store)) : normR (if c then a else b) = if c then normR a else normR b := by split <;> rfl
theorem outR_ite (P : Program) (res : List ResultVar) (a b : Out) : outR P res (if c then a else b) = if c then outR P res a else outR P res b := by split <;> rfl
theorem topR_ite (a b : Option (V × Store)) : topR (if c then a else b) = if c then topR a else topR b := by split <;> rfl
theorem pureO_ite (st : Store) (a b : Option V) : pureO st (if c then a else b) = if c then pureO st a else pureO st b := by split <;> rfl
end
section
variable (P : Program) (Γ : Specs) (call : Caller) (lv : Nat) (env : List V) (st : Store) (v : V) (dst : Option Tmp) (ty : TypeId)
theorem putR_s : putR env dst (some (v, st)) = some (putD env dst v, st) := nr rfl
theorem putR_0 : putR env dst none = none := nr rfl
theorem thenO_s (k : List V → Store → Option (List V × Store)) : thenO (some (env, st)) k = k env st := nr rfl
theorem thenO_0 (k : List V → Store → Option (List V × Store)) : thenO none k = none := nr rfl
theorem seqR_n (k : Run) : seqR (some (.normal, env, st)) k = k env st := nr rfl
theorem seqR_e (k : Run) (i : Nat) : seqR (some (.exit i, env, st)) k = some (.exit i, env, st) := nr rfl
theorem seqR_r (k : Run) : seqR (some (.ret, env, st)) k = some (.ret, env, st) := nr rfl
theorem seqR_0 (k : Run) : seqR none k = none := nr rfl
theorem blkR_e (id i : Nat) : blkR id (some (.exit i, env, st)) = if i = id then some (.normal, env, st) else some (.exit i, env, st) := nr rfl
theorem blkR_n (id : Nat) : blkR id (some (.normal, env, st)) = some (.normal, env, st) := nr rfl
theorem blkR_r (id : Nat) : blkR id (some (.ret, env, st)) = some (.ret, env, st) := nr rfl
theorem blkR_0 (id : Nat) : blkR id none = none := nr rfl
theorem normR_s : normR (some (env, st)) = some (.normal, env, st) := nr rfl
theorem normR_0 : normR none = none := nr rfl
theorem outR_r (res : List ResultVar) : outR P res (some (.ret, env, st)) = retS st (resV P st env res) := nr rfl
theorem outR_n (res : List ResultVar) : outR P res (some (.normal, env, st)) = retS st (resV P st env res) := nr rfl
theorem outR_0 (res : List ResultVar) : outR P res none = none := nr rfl
theorem retS_s (vs : List V) : retS st (some vs) = some (retV vs, st) := nr rfl
theorem retS_0 : retS st none = none := nr rfl
theorem pureO_s : pureO st (some v) = some (v, st) := nr rfl
theorem pureO_0 : pureO st none = none := nr rfl
theorem topR_0 : topR none = none := nr rfl
theorem topR_t (x y : V) (vs : List V) : topR (some (.tup (x :: y :: vs), st)) = mapO (V.fin st 9) (x :: y :: vs) := nr rfl
theorem topR_t0 : topR (some (.tup [], st)) = some [] := nr rfl
theorem oneL_0 {α : Type} : oneL (none : Option α) = none := nr rfl
theorem oneL_s {α : Type} (x : α) : oneL (some x) = some [x] := nr rfl
theorem topR_d (x : D) : topR (some (.d x, st)) = some [x] := nr rfl
theorem topR_nils (e : TypeId) : topR (some (.nils e, st)) = some [.sl e []] := nr rfl
theorem topR_agg (t : TypeId) (vs : List V) : topR (some (.agg t vs, st)) = oneL (V.fin st 9 (.agg t vs)) := nr rfl
theorem topR_rs (er : TypeId) (k : Key) (ver off len : Nat) (full : Bool) : topR (some (.rs er k ver off len full, st)) = oneL (V.fin st 9 (.rs er k ver off len full)) := nr rfl
theorem evOp_move (x : Operand) : evOp P Γ call lv dst ty env st (.move x) = some (evalT P env ty x, st) := nr rfl
theorem evOp_assign (x : Operand) : evOp P Γ call lv dst ty env st (.assign x) = some (evalT P env ty x, st) := nr rfl
theorem evOp_pick (a b c : Operand) : evOp P Γ call lv dst ty env st (.pick a b c) = pureO st (evPure P (evalT P env) ty (.pick a b c)) := nr rfl
theorem evOp_alloc (t : TypeId) : evOp P Γ call lv dst ty env st (.alloc t) = evStore P (evalT P env) lv dst st (.alloc t) := nr rfl
theorem evOp_box (t : TypeId) (x : Operand) : evOp P Γ call lv dst ty env st (.box t x) = evStore P (evalT P env) lv dst st (.box t x) := nr rfl
theorem evOp_build (t : TypeId) (ps : Array (Nat × Operand)) : evOp P Γ call lv dst ty env st (.build t ps) = evStore P (evalT P env) lv dst st (.build t ps) := nr rfl
theorem evOp_buildSlice (t : TypeId) (n : Nat) (ps : Array (Nat × Operand)) : evOp P Γ call lv dst ty env st (.buildSlice t n ps) = evStore P (evalT P env) lv dst st (.buildSlice t n ps) := nr rfl
theorem evOp_load (t : TypeId) (x : Operand) : evOp P Γ call lv dst ty env st (.load t x) = evStore P (evalT P env) lv dst st (.load t x) := nr rfl
theorem evOp_store (t : TypeId) (a x : Operand) : evOp P Γ call lv dst ty env st (.store t a x) = evStore P (evalT P env) lv dst st (.store t a x) := nr rfl
theorem evOp_makeMap (t : TypeId) (r : Option Operand) : evOp P Γ call lv dst ty env st (.makeMap t r) = evStore P (evalT P env) lv dst st (.makeMap t r) := nr rfl
theorem evOp_lookup (t : TypeId) (x i : Operand) (ok : Bool) : evOp P Γ call lv dst ty env st (.lookup t x i ok) = evLookup P st t ok (evalT P env 0 x) (evalT P env 0 i) := nr rfl
theorem evOp_mapUpdate (t : TypeId) (m k x : Operand) : evOp P Γ call lv dst ty env st (.mapUpdate t m k x) = evPut P st t (evalT P env 0 m) (evalT P env 0 k) (fun e => evalT P env e x) := nr rfl
theorem evOp_insert (t : TypeId) (m k x : Operand) : evOp P Γ call lv dst ty env st (.insert t m k x) = evPut P st t (evalT P env 0 m) (evalT P env 0 k) (fun e => evalT P env e x) := nr rfl
theorem evOp_nilCheck (x : Operand) : evOp P Γ call lv dst ty env st (.nilCheck x) = pureO st (evPure P (evalT P env) ty (.nilCheck x)) := nr rfl
theorem evOp_binOp (op : BinOp) (t : TypeId) (x y : Operand) (u : TypeId) : evOp P Γ call lv dst ty env st (.binOp op t x y u) = pureO st (evBinO P (evalT P env) op t x y) := nr rfl
theorem evOp_unOp (op : UnOp) (t : TypeId) (x : Operand) : evOp P Γ call lv dst ty env st (.unOp op t x) = pureO st (evUn op (evalT P env t x)) := nr rfl
theorem evOp_convert (s t : TypeId) (x : Operand) : evOp P Γ call lv dst ty env st (.convert s t x) = pureO st (evConv P s t (evalT P env s x)) := nr rfl
theorem evOp_makeFunc (f : Fn) (a c : Array Operand) : evOp P Γ call lv dst ty env st (.makeFunc f a c) = pureO st (evPure P (evalT P env) ty (.makeFunc f a c)) := nr rfl
theorem evOp_makeSlice (t : TypeId) (l c : Operand) : evOp P Γ call lv dst ty env st (.makeSlice t l c) = evStore P (evalT P env) lv dst st (.makeSlice t l c) := nr rfl
theorem evOp_slice (t : TypeId) (x : Operand) (l h m : Option Operand) : evOp P Γ call lv dst ty env st (.slice t x l h m) = pureO st (evPure P (evalT P env) ty (.slice t x l h m)) := nr rfl
theorem evOp_fieldAddr (t : TypeId) (x : Operand) (f : Nat) : evOp P Γ call lv dst ty env st (.fieldAddr t x f) = pureO st (evPure P (evalT P env) ty (.fieldAddr t x f)) := nr rfl
theorem evOp_field (t : TypeId) (x : Operand) (f : Nat) : evOp P Γ call lv dst ty env st (.field t x f) = pureO st (evPure P (evalT P env) ty (.field t x f)) := nr rfl
theorem evOp_indexAddr (t : TypeId) (x i : Operand) : evOp P Γ call lv dst ty env st (.indexAddr t x i) = pureO st (evPure P (evalT P env) ty (.indexAddr t x i)) := nr rfl
theorem evOp_index (t : TypeId) (x i : Operand) : evOp P Γ call lv dst ty env st (.index t x i) = pureO st (evPure P (evalT P env) ty (.index t x i)) := nr rfl
theorem evOp_extract (x : Operand) (i : Nat) : evOp P Γ call lv dst ty env st (.extract x i) = pureO st (evPure P (evalT P env) ty (.extract x i)) := nr rfl
theorem evOp_call (f : Operand) (args : Array Operand) (ts : Array TypeId) : evOp P Γ call lv dst ty env st (.call { callee := .value f, args, argTypes := ts }) = evCall Γ call (subL lv dst) st (evalT P env 0 f) (evArgs P env ts.toList args.toList) := nr rfl
theorem evOp_append (args : Array Operand) (ts : Array TypeId) : evOp P Γ call lv dst ty env st (.call { callee := .builtin .append, args, argTypes := ts }) = evStore P (evalT P env) lv dst st (.call { callee := .builtin .append, args, argTypes := ts }) := nr rfl
theorem evOp_clear (args : Array Operand) (ts : Array TypeId) : evOp P Γ call lv dst ty env st (.call { callee := .builtin .clear, args, argTypes := ts }) = evStore P (evalT P env) lv dst st (.call { callee := .builtin .clear, args, argTypes := ts }) := nr rfl
theorem evOp_len (args : Array Operand) (ts : Array TypeId) : evOp P Γ call lv dst ty env st (.call { callee := .builtin .len, args, argTypes := ts }) = pureO st (evLen P Γ st ts.toList (evArgs P env ts.toList args.toList)) := nr rfl
theorem evLen_d (ts : List TypeId) (x : D) : evLen P Γ st ts [.d x] = evPureB P .len ts [.d x] := nr rfl
theorem evLen_rs (ts : List TypeId) (e : TypeId) (k : Key) (ver off len : Nat) (full : Bool) : evLen P Γ st ts [.rs e k ver off len full] = evPureB P .len ts [.rs e k ver off len full] := nr rfl
theorem evLen_nils (ts : List TypeId) (e : TypeId) : evLen P Γ st ts [.nils e] = evPureB P .len ts [.nils e] := nr rfl
theorem evLen_nila (ts : List TypeId) (e : TypeId) : evLen P Γ st ts [.nila e] = evPureB P .len ts [.nila e] := nr rfl
theorem evLen_mp (t : TypeId) (k : Key) (ver : Nat) : evLen P Γ st [t] [.mp k ver] = (match mapT P t with | some _ => if lenOn Γ t = true ∧ (st k).ver = ver ∧ (st k).live = true then some (.d (.int .i64 ((st k).vs.length / 2 : Nat))) else none | none => none) := nr rfl
theorem evOp_min (args : Array Operand) (ts : Array TypeId) : evOp P Γ call lv dst ty env st (.call { callee := .builtin .min, args, argTypes := ts }) = pureO st (evPureB P .min ts.toList (evArgs P env ts.toList args.toList)) := nr rfl
theorem evOp_max (args : Array Operand) (ts : Array TypeId) : evOp P Γ call lv dst ty env st (.call { callee := .builtin .max, args, argTypes := ts }) = pureO st (evPureB P .max ts.toList (evArgs P env ts.toList args.toList)) := nr rfl
theorem condR_b (q want : Bool) (a b : Option (List V × Store)) : condR (.d (.bool q)) want a b = if q = want then a else b := nr rfl
theorem condR_t (want : Bool) (a b : Option (List V × Store)) : condR (.tup []) want a b = b := nr rfl
end
end Go.Ev
end
section
set_option linter.unusedVariables false
set_option linter.unusedSimpArgs false
set_option linter.unusedSectionVars false
namespace Go.Ev
/-! ### the steps of a run, each when its turn comes -/
section
variable (P : Program) (Γ : Specs) (call : Caller) (L : Nat) (ms : Masks) (lv : Nat) (ops : List Oper) (env : List V) (st : Store)
def guardV (j : Nat) : V := match dstAt ops j with | some t => V.get env t | none => .und
def runG (dst : Option Tmp) (op : Op) (ty : TypeId) (r : List Oper) : Unit → Option (List V × Store) := fun _ => thenO (putR env dst (evOp P Γ call lv dst ty env st op)) (evOps P Γ call lv ops r)
def skipG (dst : Option Tmp) (r : List Oper) : Unit → Option (List V × Store) := fun _ => evOps P Γ call lv ops r (putD env dst (.tup [])) st
def condL (v : V) (want : Bool) (a b : Unit → Option (List V × Store)) : Option (List V × Store) := condR v want (a ()) (b ())
theorem evOps_nil : evOps P Γ call lv ops [] env st = some (env, st) := nr rfl
theorem evOps_plain (dst : Option Tmp) (op : Op) (ty : TypeId) (pos : String) (after : Array Edge) (r : List Oper) :
    evOps P Γ call lv ops (⟨dst, op, ty, pos, after, none⟩ :: r) env st = thenO (putR env dst (evOp P Γ call lv dst ty env st op)) (evOps P Γ call lv ops r) := nr rfl
theorem evOps_guard (dst : Option Tmp) (op : Op) (ty : TypeId) (pos : String) (after : Array Edge) (j : Nat) (want : Bool) (r : List Oper) :
    evOps P Γ call lv ops (⟨dst, op, ty, pos, after, some (j, want)⟩ :: r) env st = condL (guardV ops env j) want (runG P Γ call lv ops env st dst op ty r) (skipG P Γ call lv ops env st dst r) := by
  simp only [evOps, condL, guardV, runG, skipG]
  cases dstAt ops j <;> rfl
theorem runG_eq (dst : Option Tmp) (op : Op) (ty : TypeId) (r : List Oper) : runG P Γ call lv ops env st dst op ty r () = thenO (putR env dst (evOp P Γ call lv dst ty env st op)) (evOps P Γ call lv ops r) := nr rfl
theorem skipG_eq (dst : Option Tmp) (r : List Oper) : skipG P Γ call lv ops env st dst r () = evOps P Γ call lv ops r (putD env dst (.tup [])) st := nr rfl
theorem condL_tt (a b : Unit → Option (List V × Store)) : condL (.d (.bool true)) true a b = a () := nr rfl
theorem condL_ff (a b : Unit → Option (List V × Store)) : condL (.d (.bool false)) false a b = a () := nr rfl
theorem condL_tf (a b : Unit → Option (List V × Store)) : condL (.d (.bool true)) false a b = b () := nr rfl
theorem condL_ft (a b : Unit → Option (List V × Store)) : condL (.d (.bool false)) true a b = b () := nr rfl
theorem condL_u (w : Bool) (a b : Unit → Option (List V × Store)) : condL (.tup []) w a b = b () := nr rfl
def condC (v : V) (a b : Run) (env : List V) (st : Store) : Out := match v with
  | .d (.bool q) => if q = true then a env st else b env st
  | _ => none
theorem condC_t (a b : Run) : condC (.d (.bool true)) a b env st = a env st := nr rfl
theorem condC_f (a b : Run) : condC (.d (.bool false)) a b env st = b env st := nr rfl
theorem evC_skip (i : Nat) : evC P Γ call L ms lv i .skip env st = some (.normal, env, st) := nr rfl
theorem evC_ret (i : Nat) : evC P Γ call L ms lv i .ret env st = some (.ret, mask (maskOf ms 1000000) env, st) := nr rfl
theorem evC_exit (i id : Nat) : evC P Γ call L ms lv i (.exit id) env st = some (.exit id, mask (maskOf ms (1000001 + id)) env, st) := nr rfl
theorem evC_label (i l : Nat) : evC P Γ call L ms lv i (.label l) env st = some (.normal, env, st) := nr rfl
theorem evC_region (i id : Nat) (l : List Oper) : evC P Γ call L ms lv i (.region id l.toArray false) env st = normR (evOps P Γ call lv l l env st) := nr rfl
theorem evC_draw (i id : Nat) (l : List Oper) : evC P Γ call L ms lv i (.region id l.toArray true) env st = normR (drawR ms id lv env (killR ms id lv st) (evOps P Γ (callOf ms id call) lv l l env (killR ms id lv st))) := nr rfl
theorem evC_seq (i : Nat) (a b : Code) : evC P Γ call L ms lv i (.seq a b) env st = seqR (evC P Γ call L ms lv i a env st) (evC P Γ call L ms lv i b) := nr rfl
theorem evC_cond (i : Nat) (c : Operand) (a b : Code) : evC P Γ call L ms lv i (.cond c a b) env st = condC (evalT P env 0 c) (evC P Γ call L ms lv i a) (evC P Γ call L ms lv i b) env st := nr rfl
theorem evC_block (i id : Nat) (a : Code) : evC P Γ call L ms lv i (.block id a) env st = blkR id (evC P Γ call L ms lv id a env st) := nr rfl
theorem evC_loop (i : Nat) (a : Code) : evC P Γ call L ms lv i (.loop a) env st = frzI ms lv i env st fun st' => iter (frzF ms lv i (evC P Γ call L ms lv i a)) (maskOf ms i) L env st' := nr rfl
theorem iter_wf {τ : Type} (f : Run) (m : List Bool) (I : τ → Prop) (hd : τ → List V) (s : τ → Store) (R : τ → Out) (μ : τ → Nat)
    (H : ∀ x, I x → ∀ k : Run, (∀ y env', I y → μ y < μ x → mask m env' = hd y → k env' (s y) = R y) → seqR (f (hd x) (s x)) k = R x) :
    ∀ n x env, I x → μ x < n → mask m env = hd x → iter f m n env (s x) = R x := by
  intro n
  induction n with
  | zero => intro x env _ h; omega
  | succ n ih =>
    intro x env hI hn he
    rw [iter, he]
    exact H x hI _ fun y env' h1 h2 h3 => ih y env' h1 (by omega) h3
theorem iter_rel {τ : Type} (f : Run) (m : List Bool) (I : τ → Prop) (hd : τ → List V) (s : τ → Store) (Q : τ → Out → Prop) (μ : τ → Nat)
    (H : ∀ x, I x → ∀ k : Run, (∀ y env', I y → μ y < μ x → mask m env' = hd y → Q y (k env' (s y))) → Q x (seqR (f (hd x) (s x)) k)) :
    ∀ n x env, I x → μ x < n → mask m env = hd x → Q x (iter f m n env (s x)) := by
  intro n
  induction n with
  | zero => intro x env _ h; omega
  | succ n ih =>
    intro x env hI hn he
    rw [iter, he]
    exact H x hI _ fun y env' h1 h2 h3 => ih y env' h1 (by omega) h3
theorem iter_s (f : Run) (m : List Bool) (n : Nat) : iter f m (n + 1) env st = seqR (f (mask m env) st) (iter f m n) := nr rfl
theorem evF_s (T : Table) (c : Nat) (f : FuncId) (xs : List V) (fn : Func) (msk : Masks) (code : Code) (hT : T f = some ⟨fn, msk⟩) (hb : fn.body = some code) :
    evF P Γ T L (c + 1) f xs lv st = outR P fn.results.toList (evC P Γ (evF P Γ T L c) L msk lv 0 code (pad xs fn.ntmps) st) := by
  simp only [evF, hT, hb]
end
def finS (st : Store) (n : Nat) : Option (TypeId × List V) → Option D
  | some (e, vs) => (mapO (V.fin st n) vs).map (D.sl e)
  | none => none
theorem fin_d (st : Store) (n : Nat) (x : D) : V.fin st (n + 1) (.d x) = some x := nr rfl
theorem fin_nila (st : Store) (n : Nat) (e : TypeId) : V.fin st (n + 1) (.nila e) = some (.sl e []) := nr rfl
theorem fin_nils (st : Store) (n : Nat) (e : TypeId) : V.fin st (n + 1) (.nils e) = some (.sl e []) := nr rfl
theorem fin_agg_ (st : Store) (n : Nat) (t : TypeId) (vs : List V) : V.fin st (n + 1) (.agg t vs) = (mapO (V.fin st n) vs).map (D.agg t) := nr rfl
theorem fin_rs (st : Store) (n : Nat) (er : TypeId) (k : Key) (ver off len : Nat) (full : Bool) : V.fin st (n + 1) (.rs er k ver off len full) = finS st n (elemsOf st (.rs er k ver off len full)) := nr rfl
theorem finS_s (st : Store) (n : Nat) (e : TypeId) (vs : List V) : finS st n (some (e, vs)) = (mapO (V.fin st n) vs).map (D.sl e) := nr rfl
theorem mapO_fin {α : Type} (st : Store) (n : Nat) (g : α → D) : ∀ l : List α, mapO (V.fin st (n + 1)) (l.map fun x => V.d (g x)) = some (l.map g)
  | [] => rfl
  | x :: r => by simp only [List.map_cons, mapO, fin_d, mapO_fin st n g r]
theorem upd_upd (st : Store) (k : Key) (a b : Blk) : upd (upd st k a) k b = upd st k b := by funext j; unfold upd; cases keq j k <;> rfl
/-- The bodies of a function's loops, the outer ones first. -/
def loops : Code → List Code
  | .loop b => b :: loops b
  | .seq a b => loops a ++ loops b
  | .cond _ a b => loops a ++ loops b
  | .block _ a => loops a
  | _ => []
def loopN (fn : Func) (n : Nat) : Code := match fn.body with
  | some c => match nth (loops c) n with
    | some b => b
    | none => .skip
  | none => .skip
theorem argv_d (st : Store) (x : D) : V.arg st (.d x) = some x := nr rfl
theorem argv_nila (st : Store) (e : TypeId) : V.arg st (.nila e) = some (.sl e []) := nr rfl
theorem argv_nils (st : Store) (e : TypeId) : V.arg st (.nils e) = some (.sl e []) := nr rfl
theorem argv_agg (st : Store) (t : TypeId) (vs : List V) : V.arg st (.agg t vs) = V.view st (.agg t vs) := nr rfl
theorem argv_rs (st : Store) (er : TypeId) (k : Key) (ver off len : Nat) (full : Bool) : V.arg st (.rs er k ver off len full) = V.view st (.rs er k ver off len full) := nr rfl
def argP (st : Store) (v : Option V) (path : List (TypeId × Nat)) : Option D := match v with
  | some v => match getPath v path with
    | some x => (V.view st x).map D.ptr
    | none => none
  | none => none
theorem argv_p (st : Store) (k : Key) (ver i : Nat) (path : List (TypeId × Nat)) : V.arg st (.p k ver i path) = if (st k).ver = ver ∧ (st k).live = true then argP st (nth (st k).vs i) path else none := nr rfl
/-- Functions to be entered, by number. -/
def tableOf (l : List (FuncId × Entry)) : Table := fun f => match l with
  | [] => none
  | (g, e) :: r => if f = g then some e else tableOf r f
end Go.Ev
end
section
set_option linter.unusedVariables false
set_option linter.unusedSimpArgs false
set_option linter.unusedSectionVars false
namespace Go.Ev
open Go.RowKit

/-- The cells of a block from an offset on. -/
def cellsAt (w : World) (b o : Nat) (cs : List Value) : Prop :=
  ∃ c e fz, w.heap[b]? = some (.cells c e fz) ∧ ∀ j, j < cs.length → c[o + j]? = cs[j]?

/-- Plain data stands for cells; all memory that it names lies in blocks of S. -/
def Fl (P : Program) (S : Nat → Prop) (w : World) : D → List Value → Prop
  | .bool b, cs => cs = [.bool b]
  | .int k n, cs => cs = [.int k n]
  | .str s, cs => cs = [.string s]
  | .agg t ds, cs => ∃ css : List (List Value), cs = css.flatten ∧ comps P t = some (css.map List.length) ∧ fls ds css
  | .sl e ds, cs => ∃ A cap, cs = [.slice A ds.length cap] ∧ (ds = [] ∨ ∃ (b o : Nat) (css : List (List Value)), A = some ⟨b, o, none⟩ ∧ S b ∧ ds.length ≤ cap ∧
      (∀ c ∈ css, c.length = szOf P e) ∧ cellsAt w b o css.flatten ∧ fls ds css)
  | .ptr x, cs => ∃ (b o : Nat) (xs : List Value), cs = [.pointer (some ⟨b, o, none⟩)] ∧ S b ∧ cellsAt w b o xs ∧ Fl P S w x xs
  | .np, cs => cs = [.pointer none]
where fls : List D → List (List Value) → Prop
  | [], css => css = []
  | d :: ds, css => ∃ c r, css = c :: r ∧ Fl P S w d c ∧ fls ds r

/-- The places of the evaluator's rows: block and capacity. -/
abbrev Sig := Key → Option (Nat × Nat)

def pathOff (P : Program) : List (TypeId × Nat) → Option Nat
  | [] => some 0
  | (t, i) :: r => match comps P t, pathOff P r with
    | some l, some n => if i < l.length then some ((l.take i).sum + n) else none
    | _, _ => none

def RelC (P : Program) (S : Nat → Prop) (σ : Sig) (st : Store) (w : World) : V → List Value → Prop
  | .d x, cs => Fl P S w x cs
  | .agg t vs, cs => ∃ css : List (List Value), cs = css.flatten ∧ comps P t = some (css.map List.length) ∧ rels vs css
  | .p k ver i path, cs => ∃ A, cs = [.pointer (some A)] ∧ ver ≤ (st k).ver ∧ (ver = (st k).ver → (st k).live = true →
      0 < szOf P (st k).e ∧ ∃ b cap off, σ k = some (b, cap) ∧ pathOff P path = some off ∧ A = ⟨b, i * szOf P (st k).e + off, none⟩)
  | .rs er k ver off len full, cs => ∃ A c, cs = [.slice A len c] ∧ len ≤ c ∧ (0 < len → ∃ a, A = some a) ∧ ver ≤ (st k).ver ∧ (ver = (st k).ver → (st k).live = true →
      (st k).e = er ∧ 0 < szOf P er ∧ (σ k = none → off = 0 ∧ c = 0) ∧ ∀ b cap, σ k = some (b, cap) → (c = 0 ∨ A = some ⟨b, off * szOf P (st k).e, none⟩) ∧ off + c ≤ cap ∧ (full = true → off + c = cap))
  | .mp k ver, cs => ∃ r, cs = [.map (some r)] ∧ ver ≤ (st k).ver ∧ (ver = (st k).ver → (st k).live = true → szOf P (st k).e = 0 ∧ ∃ cap, σ k = some (r, cap))
  | .nils e, cs => cs = [.slice none 0 0]
  | .nila e, cs => ∃ A, cs = [.slice A 0 0]
  | .nilm, cs => cs = [.map none]
  | .fn f caps, cs => ∃ vals : List Value, cs = [.func (.func f) #[] vals.toArray] ∧ rels caps (vals.map fun v => [v])
  | .tup _, _ => False
  | .und, _ => False
  | .jk, cs => ∃ x : Value, cs = [x] ∧ x.oneCell' = true
where rels : List V → List (List Value) → Prop
  | [], css => css = []
  | v :: vs, css => ∃ c r, css = c :: r ∧ RelC P S σ st w v c ∧ rels vs r

/-- A value that is no list of results. -/
def RelN (P : Program) (S : Nat → Prop) (σ : Sig) (st : Store) (w : World) (v : V) (val : Value) : Prop :=
  v = .und ∨ (v.isAgg = true ∧ ∃ cs : List Value, val = .agg cs.toArray ∧ RelC P S σ st w v cs) ∨ (v.isAgg = false ∧ RelC P S σ st w v [val])
def RelNs (P : Program) (S : Nat → Prop) (σ : Sig) (st : Store) (w : World) : List V → List Value → Prop
  | [], vals => vals = []
  | v :: vs, vals => ∃ x r, vals = x :: r ∧ RelN P S σ st w v x ∧ RelNs P S σ st w vs r
def RelV (P : Program) (S : Nat → Prop) (σ : Sig) (st : Store) (w : World) (v : V) (val : Value) : Prop :=
  match v with
  | .tup vs => ∃ vals : List Value, val = .tuple vals.toArray ∧ RelNs P S σ st w vs vals
  | v => RelN P S σ st w v val

/-- The entries of a map. -/
def MapRel (P : Program) (S : Nat → Prop) (σ : Sig) (st : Store) (w : World) : List V → List MapEntry → Prop
  | [], es => es = []
  | [_], _ => False
  | k :: v :: r, es => ∃ e q, es = e :: q ∧ RelN P S σ st w k e.key ∧ RelN P S σ st w v e.val ∧ MapRel P S σ st w r q
/-- What lies where a row or a map of the store has its place. -/
def Holds (P : Program) (S : Nat → Prop) (σ : Sig) (st : Store) (w : World) (bl : Blk) (cap : Nat) (o : Obj) : Prop :=
  (0 < szOf P bl.e ∧ ∃ (cur : Array Value) (css : List (List Value)), o = .cells cur bl.e (0, 0) ∧
    cur.size = cap * szOf P bl.e ∧ bl.vs.length ≤ cap ∧ cap ≤ maxLen ∧ cur.toList.take (bl.vs.length * szOf P bl.e) = css.flatten ∧
    (∀ c ∈ css, c.length = szOf P bl.e) ∧ RelC.rels P S σ st w bl.vs css) ∨
  (szOf P bl.e = 0 ∧ ∃ (es : Array MapEntry) (clock : Nat), o = .map es clock ∧ MapRel P S σ st w bl.vs es.toList ∧ MapKept.Stamped es clock)
/-- The rows and maps of the store as they lie. -/
structure OwnB (P : Program) (B0 : Nat) (S : Nat → Prop) (σ : Sig) (st : Store) (w : World) (k : Key) : Prop where
  none : σ k = .none → (st k).vs = [] ∧ 0 < szOf P (st k).e
  some : ∀ b cap, σ k = .some (b, cap) → B0 ≤ b ∧ b < w.heap.size ∧ ¬ S b ∧ ∃ o, w.heap[b]? = .some o ∧ Holds P S σ st w (st k) cap o
theorem OwnB.row {P : Program} {B0 : Nat} {S : Nat → Prop} {σ : Sig} {st : Store} {w : World} {k : Key} (h : OwnB P B0 S σ st w k) (hpos : 0 < szOf P (st k).e) : (σ k = .none → (st k).vs = []) ∧
    ∀ b cap, σ k = .some (b, cap) → B0 ≤ b ∧ b < w.heap.size ∧ ¬ S b ∧ ∃ (cur : Array Value) (css : List (List Value)), w.heap[b]? = .some (.cells cur (st k).e (0, 0)) ∧
    cur.size = cap * szOf P (st k).e ∧ (st k).vs.length ≤ cap ∧ cap ≤ maxLen ∧ cur.toList.take ((st k).vs.length * szOf P (st k).e) = css.flatten ∧
    (∀ c ∈ css, c.length = szOf P (st k).e) ∧ RelC.rels P S σ st w (st k).vs css := by
  refine ⟨fun hn => (h.none hn).1, fun b cap hs => ?_⟩
  obtain ⟨h1, h2, h3, o, h4, h5⟩ := h.some b cap hs
  rcases h5 with ⟨_, cur, css, rfl, g⟩ | ⟨h0, _⟩
  · exact ⟨h1, h2, h3, cur, css, h4, g⟩
  · omega
structure Inv (P : Program) (B0 : Nat) (S : Nat → Prop) (σ : Sig) (st : Store) (w : World) : Prop where
  base : B0 ≤ w.heap.size
  safe : ∀ b, S b → b < w.heap.size
  own : ∀ k, (st k).live = true → OwnB P B0 S σ st w k
  inj : ∀ k k', (st k).live = true → (st k').live = true → k ≠ k' → ∀ b c b' c', σ k = .some (b, c) → σ k' = .some (b', c') → b ≠ b'

/-- What values in hand survive. -/
structure Evo (B0 : Nat) (S : Nat → Prop) (σ : Sig) (st : Store) (w : World) (S' : Nat → Prop) (σ' : Sig) (st' : Store) (w' : World) : Prop where
  size : w.heap.size ≤ w'.heap.size
  less : ∀ b, S' b → S b ∨ B0 ≤ b
  more : ∀ b, S b → S' b
  keep : ∀ b, S b → w'.heap[b]? = w.heap[b]?
  ver : ∀ k, (st k).ver ≤ (st' k).ver
  same : ∀ k, (st k).ver = (st' k).ver → (st' k).live = true → (st k).live = true ∧ σ' k = σ k ∧ (st' k).e = (st k).e

theorem Evo.refl {B0 : Nat} (S : Nat → Prop) (σ : Sig) (st : Store) (w : World) : Evo B0 S σ st w S σ st w :=
  ⟨Nat.le_refl _, fun _ h => .inl h, fun _ h => h, fun _ _ => rfl, fun _ => Nat.le_refl _, fun _ _ h => ⟨h, rfl, rfl⟩⟩
theorem Evo.trans {B0 : Nat} {S S1 S2 : Nat → Prop} {σ σ1 σ2 : Sig} {st st1 st2 : Store} {w w1 w2 : World} (h : Evo B0 S σ st w S1 σ1 st1 w1) (h' : Evo B0 S1 σ1 st1 w1 S2 σ2 st2 w2) :
    Evo B0 S σ st w S2 σ2 st2 w2 where
  size := Nat.le_trans h.size h'.size
  less b hb := (h'.less b hb).elim (h.less b) .inr
  more b hb := h'.more b (h.more b hb)
  keep b hb := (h'.keep b (h.more b hb)).trans (h.keep b hb)
  ver k := Nat.le_trans (h.ver k) (h'.ver k)
  same k hv hl := by
    have h1 := h.ver k
    have h2 := h'.ver k
    obtain ⟨l1, s1, e1⟩ := h'.same k (by omega) hl
    obtain ⟨l0, s0, e0⟩ := h.same k (by omega) l1
    exact ⟨l0, s1.trans s0, e1.trans e0⟩

theorem cellsAt.keep {w w' : World} {b o : Nat} {cs : List Value} (h : cellsAt w b o cs) (hk : w'.heap[b]? = w.heap[b]?) : cellsAt w' b o cs := by
  obtain ⟨c, e, fz, h1, h2⟩ := h
  exact ⟨c, e, fz, hk.trans h1, h2⟩

section mono
variable {P : Program} {S S' : Nat → Prop} {w w' : World} (hS : ∀ b, S b → S' b) (hw : ∀ b, S b → w'.heap[b]? = w.heap[b]?)
include hS hw
mutual
theorem Fl.mono : ∀ (x : D) (cs : List Value), Fl P S w x cs → Fl P S' w' x cs
  | .bool b, cs, h => h
  | .int k n, cs, h => h
  | .str s, cs, h => h
  | .agg t ds, cs, h => by
    obtain ⟨css, h1, h2, h3⟩ := h
    exact ⟨css, h1, h2, Fl.monos ds css h3⟩
  | .sl e ds, cs, h => by
    obtain ⟨A, cap, h1, h2⟩ := h
    refine ⟨A, cap, h1, ?_⟩
    rcases h2 with h2 | ⟨b, o, css, hA, hb, hc, hl, hat, hf⟩
    · exact .inl h2
    · exact .inr ⟨b, o, css, hA, hS b hb, hc, hl, hat.keep (hw b hb), Fl.monos ds css hf⟩
  | .ptr x, cs, h => by
    obtain ⟨b, o, xs, h1, h2, h3, h4⟩ := h
    exact ⟨b, o, xs, h1, hS b h2, h3.keep (hw b h2), Fl.mono x xs h4⟩
  | .np, cs, h => h
theorem Fl.monos : ∀ (ds : List D) (css : List (List Value)), Fl.fls P S w ds css → Fl.fls P S' w' ds css
  | [], css, h => h
  | d :: ds, css, h => by
    obtain ⟨c, r, h1, h2, h3⟩ := h
    exact ⟨c, r, h1, Fl.mono d c h2, Fl.monos ds r h3⟩
end
end mono

section evo
variable {P : Program} {B0 : Nat} {S S' : Nat → Prop} {σ σ' : Sig} {st st' : Store} {w w' : World} (hE : Evo B0 S σ st w S' σ' st' w')
include hE
mutual
theorem RelC.mono : ∀ (v : V) (cs : List Value), RelC P S σ st w v cs → RelC P S' σ' st' w' v cs
  | .d x, cs, h => Fl.mono hE.more hE.keep x cs h
  | .agg t vs, cs, h => by
    obtain ⟨css, h1, h2, h3⟩ := h
    exact ⟨css, h1, h2, RelC.monos vs css h3⟩
  | .p k ver i path, cs, h => by
    obtain ⟨A, h1, h2, h3⟩ := h
    refine ⟨A, h1, Nat.le_trans h2 (hE.ver k), fun hv hl => ?_⟩
    have hk := hE.ver k
    obtain ⟨l0, s0, e0⟩ := hE.same k (by omega) hl
    obtain ⟨g0, b, cap, off, g1, g2, g3⟩ := h3 (by omega) l0
    exact ⟨by rw [e0]; exact g0, b, cap, off, s0.trans g1, g2, by rw [e0]; exact g3⟩
  | .rs er k ver off len full, cs, h => by
    obtain ⟨A, c, h1, g1, g2, h2, h3⟩ := h
    refine ⟨A, c, h1, g1, g2, Nat.le_trans h2 (hE.ver k), fun hv hl => ?_⟩
    have hk := hE.ver k
    obtain ⟨l0, s0, e0⟩ := hE.same k (by omega) hl
    have := h3 (by omega) l0
    rw [s0, e0]
    exact this
  | .mp k ver, cs, h => by
    obtain ⟨r, h1, h2, h3⟩ := h
    refine ⟨r, h1, Nat.le_trans h2 (hE.ver k), fun hv hl => ?_⟩
    have hk := hE.ver k
    obtain ⟨l0, s0, e0⟩ := hE.same k (by omega) hl
    obtain ⟨g0, cap, g1⟩ := h3 (by omega) l0
    exact ⟨by rw [e0]; exact g0, cap, s0.trans g1⟩
  | .nils e, cs, h => h
  | .nila e, cs, h => h
  | .nilm, cs, h => h
  | .jk, cs, h => h
  | .fn f caps, cs, h => by
    obtain ⟨vals, h1, h2⟩ := h
    exact ⟨vals, h1, RelC.monos caps _ h2⟩
  | .tup _, _, h => h
  | .und, _, h => h
theorem RelC.monos : ∀ (vs : List V) (css : List (List Value)), RelC.rels P S σ st w vs css → RelC.rels P S' σ' st' w' vs css
  | [], css, h => h
  | v :: vs, css, h => by
    obtain ⟨c, r, h1, h2, h3⟩ := h
    exact ⟨c, r, h1, RelC.mono v c h2, RelC.monos vs r h3⟩
end
theorem RelN.mono {v : V} {val : Value} (h : RelN P S σ st w v val) : RelN P S' σ' st' w' v val := by
  rcases h with h | ⟨h1, cs, h2, h3⟩ | ⟨h1, h2⟩
  · exact .inl h
  · exact .inr (.inl ⟨h1, cs, h2, RelC.mono hE v cs h3⟩)
  · exact .inr (.inr ⟨h1, RelC.mono hE v _ h2⟩)
theorem RelNs.mono : ∀ {vs : List V} {vals : List Value}, RelNs P S σ st w vs vals → RelNs P S' σ' st' w' vs vals
  | [], _, h => h
  | v :: vs, _, h => by
    obtain ⟨x, r, h1, h2, h3⟩ := h
    exact ⟨x, r, h1, RelN.mono hE h2, RelNs.mono h3⟩
theorem MapRel.mono : ∀ {vs : List V} {es : List MapEntry}, MapRel P S σ st w vs es → MapRel P S' σ' st' w' vs es
  | [], _, h => h
  | [_], _, h => h.elim
  | k :: v :: r, _, h => by
    obtain ⟨e, q, h1, h2, h3, h4⟩ := h
    exact ⟨e, q, h1, RelN.mono hE h2, RelN.mono hE h3, MapRel.mono h4⟩
theorem Holds.mono {bl : Blk} {cap : Nat} {o : Obj} (h : Holds P S σ st w bl cap o) : Holds P S' σ' st' w' bl cap o := by
  rcases h with ⟨h0, cur, css, h1, h2, h3, h4, h5, h6, h7⟩ | ⟨h0, es, clock, h1, h2, hs⟩
  · exact .inl ⟨h0, cur, css, h1, h2, h3, h4, h5, h6, RelC.monos hE _ _ h7⟩
  · exact .inr ⟨h0, es, clock, h1, MapRel.mono hE h2, hs⟩
theorem RelV.mono {v : V} {val : Value} (h : RelV P S σ st w v val) : RelV P S' σ' st' w' v val := by
  cases v <;> first
    | exact RelN.mono hE h
    | (obtain ⟨vals, h1, h2⟩ := h; exact ⟨vals, h1, RelNs.mono hE h2⟩)
end evo

/-! ### types -/
theorem underlying_info {P : Program} {t : TypeId} {d : TypeDesc} (h : P.underlying t = some d) : ∃ i, P.info? t = some i := by
  unfold Program.underlying at h
  cases hi : P.info? t with
  | none => rw [hi] at h; simp at h
  | some i => exact ⟨i, rfl⟩
theorem szOf_info {P : Program} {t : TypeId} {i : TypeInfo} (h : P.info? t = some i) : szOf P t = i.size := by simp [szOf, Program.cellsOf, h]
theorem bytesOf_info {P : Program} {t : TypeId} {i : TypeInfo} (h : P.info? t = some i) : P.bytesOf t = i.bytes := by simp [Program.bytesOf, h]

theorem tk_sl {P : Program} {t e : TypeId} (h : tk P t = .sl e) : P.underlying t = some (.slice e) ∧ szOf P t = 1 ∧ 0 < szOf P e ∧ ∃ i, P.info? e = some i := by
  unfold tk at h
  split at h
  · split at h <;> cases h
  · split at h <;> cases h
  · rename_i e' hu
    split at h
    · rename_i hc
      cases h
      simp only [Bool.and_eq_true, beq_iff_eq, decide_eq_true_eq] at hc
      exact ⟨hu, hc.1.1, hc.1.2, Option.isSome_iff_exists.1 hc.2⟩
    · cases h
  · split at h <;> cases h
  · cases h
theorem tk_agg {P : Program} {t : TypeId} {n : Nat} {r : Bool} (h : tk P t = .agg n r) : (∃ l, comps P t = some l ∧ l.length = n) ∧ ((∃ fs, P.underlying t = some (.struct fs) ∧ r = false) ∨ ∃ m e, P.underlying t = some (.array m e) ∧ r = true) := by
  unfold tk at h
  split at h
  · rename_i fs hu
    split at h
    · rename_i l hl; cases h; exact ⟨⟨l, hl, rfl⟩, .inl ⟨fs, hu, rfl⟩⟩
    · cases h
  · rename_i m e hu
    split at h
    · rename_i l hl; cases h; exact ⟨⟨l, hl, rfl⟩, .inr ⟨m, e, hu, rfl⟩⟩
    · cases h
  · split at h <;> cases h
  · split at h <;> cases h
  · cases h
theorem tk_one {P : Program} {t : TypeId} (h : tk P t = .one) : szOf P t = 1 ∧ ∃ d, P.underlying t = some d ∧ (∀ fs, d ≠ .struct fs) ∧ (∀ m e, d ≠ .array m e) := by
  unfold tk at h
  split at h
  · split at h <;> cases h
  · split at h <;> cases h
  · split at h <;> cases h
  · rename_i d h1 h2 h3 hu
    split at h
    · rename_i hc
      refine ⟨by simpa using hc, d, hu, fun fs e => ?_, fun m e' e => ?_⟩
      · subst e; exact h1 _ rfl
      · subst e; exact h2 _ _ rfl
    · cases h
  · cases h
theorem offsOk_spec {P : Program} : ∀ (fs : List Field) (acc : Nat), offsOk P acc fs = true → (∀ f, f ∈ fs → 0 < szOf P f.type) ∧
    ∀ (i : Nat) (f : Field), fs[i]? = some f → f.offset = acc + ((fs.map fun f => szOf P f.type).take i).sum
  | [], acc, _ => ⟨fun f h => (by cases h), fun i f h => (by simp at h)⟩
  | g :: fs, acc, h => by
    simp only [offsOk, Bool.and_eq_true, beq_iff_eq, decide_eq_true_eq] at h
    obtain ⟨h1, h2⟩ := offsOk_spec fs _ h.2
    refine ⟨fun f hf => ?_, fun i f hi => ?_⟩
    · rcases List.mem_cons.1 hf with rfl | hf
      · exact h.1.2
      · exact h1 f hf
    · cases i with
      | zero => simp at hi; subst hi; simp [h.1.1]
      | succ i =>
        simp at hi
        have := h2 i f hi
        simp only [List.map_cons, List.take_succ_cons, List.sum_cons]
        omega
theorem comps_struct {P : Program} {t : TypeId} {fs : Array Field} {l : List Nat} (hu : P.underlying t = some (.struct fs)) (h : comps P t = some l) :
    l = (fs.toList.map fun f => szOf P f.type) ∧ offsOk P 0 fs.toList = true ∧ l.sum = szOf P t ∧ 0 < szOf P t := by
  unfold comps at h
  rw [hu] at h
  simp only at h
  split at h
  · rename_i hc
    cases h
    simp only [Bool.and_eq_true, beq_iff_eq, decide_eq_true_eq] at hc
    exact ⟨rfl, hc.1.1, hc.1.2, hc.2⟩
  · cases h
theorem sum_replicate' (n s : Nat) : (List.replicate n s).sum = n * s := by
  induction n with
  | zero => simp
  | succ n ih => simp [List.replicate_succ, ih, Nat.succ_mul]; omega
theorem comps_array {P : Program} {t e : TypeId} {n : Nat} {l : List Nat} (hu : P.underlying t = some (.array n e)) (h : comps P t = some l) :
    l = List.replicate n (szOf P e) ∧ 0 < szOf P e ∧ 2 ≤ n ∧ l.sum = szOf P t := by
  unfold comps at h
  rw [hu] at h
  simp only at h
  split at h
  · rename_i hc
    cases h
    simp only [Bool.and_eq_true, beq_iff_eq, decide_eq_true_eq] at hc
    exact ⟨rfl, hc.1.1, hc.2, by rw [sum_replicate']; exact hc.1.2⟩
  · cases h
theorem comps_cases {P : Program} {t : TypeId} {l : List Nat} (h : comps P t = some l) : (∃ fs, P.underlying t = some (.struct fs)) ∨ ∃ n e, P.underlying t = some (.array n e) := by
  cases hu : P.underlying t with
  | none => unfold comps at h; rw [hu] at h; cases h
  | some d => cases d <;> first
    | exact .inl ⟨_, rfl⟩
    | exact .inr ⟨_, _, rfl⟩
    | (unfold comps at h; rw [hu] at h; cases h)
theorem comps_sum {P : Program} {t : TypeId} {l : List Nat} (h : comps P t = some l) : l.sum = szOf P t := by
  rcases comps_cases h with ⟨fs, hu⟩ | ⟨n, e, hu⟩
  · exact (comps_struct hu h).2.2.1
  · exact (comps_array hu h).2.2.2
theorem comps_szpos {P : Program} {t : TypeId} {l : List Nat} (h : comps P t = some l) : 0 < szOf P t := by
  rcases comps_cases h with ⟨fs, hu⟩ | ⟨n, e, hu⟩
  · exact (comps_struct hu h).2.2.2
  · obtain ⟨rfl, h1, h2, h3⟩ := comps_array hu h
    rw [← h3, sum_replicate']
    exact Nat.mul_pos (by omega) h1
theorem comps_pos {P : Program} {t : TypeId} {l : List Nat} (h : comps P t = some l) : ∀ s ∈ l, 0 < s := by
  rcases comps_cases h with ⟨fs, hu⟩ | ⟨n, e, hu⟩
  · obtain ⟨rfl, ho, _⟩ := comps_struct hu h
    intro s hs
    obtain ⟨f, hf, rfl⟩ := List.mem_map.1 hs
    exact (offsOk_spec _ _ ho).1 f hf
  · obtain ⟨rfl, h0, _⟩ := comps_array hu h
    intro s hs
    rw [List.eq_of_mem_replicate hs]; exact h0
theorem nth_eq {α : Type} : ∀ (l : List α) (i : Nat), nth l i = l[i]?
  | [], _ => by simp [nth]
  | _ :: _, 0 => by simp [nth]
  | _ :: xs, n + 1 => by simp [nth, nth_eq xs n]
/-- The type and the place of a component. -/
theorem comps_at {P : Program} {t e : TypeId} {l : List Nat} {i : Nat} (h : comps P t = some l) (hc : compT P t i = some e) (hi : i < l.length) : l[i]? = some (szOf P e) := by
  rcases comps_cases h with ⟨fs, hu⟩ | ⟨n, e', hu⟩
  · obtain ⟨rfl, ho, _⟩ := comps_struct hu h
    unfold compT compTs at hc
    rw [hu, nth_eq] at hc
    simp only [List.getElem?_map, Option.map_eq_some_iff] at hc
    obtain ⟨f, hf, rfl⟩ := hc
    simp only [List.getElem?_map, hf, Option.map_some]
  · obtain ⟨rfl, h0, _⟩ := comps_array hu h
    unfold compT compTs at hc
    rw [hu, nth_eq] at hc
    simp at hi
    simp [List.getElem?_replicate, hi] at hc ⊢
    rw [hc]

theorem length_flatten' (css : List (List Value)) : css.flatten.length = (css.map List.length).sum := by
  induction css with
  | nil => rfl
  | cons c r ih => simp [ih]
theorem length_flatten_eq {css : List (List Value)} {s : Nat} (h : ∀ c ∈ css, c.length = s) : css.flatten.length = css.length * s := by
  induction css with
  | nil => simp
  | cons c r ih =>
    have := ih (fun c' hc' => h c' (by simp [hc']))
    have := h c (by simp)
    simp only [List.flatten_cons, List.length_append, List.length_cons, Nat.succ_mul]
    omega

theorem fls_length {P : Program} {S : Nat → Prop} {w : World} : ∀ {ds : List D} {css : List (List Value)}, Fl.fls P S w ds css → css.length = ds.length
  | [], _, h => by cases h; rfl
  | d :: ds, _, h => by obtain ⟨c, r, rfl, _, h3⟩ := h; simp [fls_length h3]
theorem rels_length {P : Program} {S : Nat → Prop} {σ : Sig} {st : Store} {w : World} : ∀ {vs : List V} {css : List (List Value)}, RelC.rels P S σ st w vs css → css.length = vs.length
  | [], _, h => by cases h; rfl
  | v :: vs, _, h => by obtain ⟨c, r, rfl, _, h3⟩ := h; simp [rels_length h3]
theorem relNs_length {P : Program} {S : Nat → Prop} {σ : Sig} {st : Store} {w : World} : ∀ {vs : List V} {vals : List Value}, RelNs P S σ st w vs vals → vals.length = vs.length
  | [], _, h => by cases h; rfl
  | v :: vs, _, h => by obtain ⟨c, r, rfl, _, h3⟩ := h; simp [relNs_length h3]
theorem setN_eq {α : Type} : ∀ (l : List α) (i : Nat) (x : α), setN l i x = l.set i x
  | [], _, _ => by simp [setN]
  | _ :: _, 0, _ => by simp [setN]
  | _ :: xs, n + 1, x => by simp [setN, setN_eq xs n]
theorem get_eq : ∀ (l : List V) (i : Nat), V.get l i = l.getD i .und
  | [], _ => by simp [V.get]
  | _ :: _, 0 => by simp [V.get]
  | _ :: xs, n + 1 => by simp [V.get, get_eq xs n]
theorem put_eq : ∀ (l : List V) (i : Nat) (x : V), V.put l i x = l.set i x
  | [], _, _ => by simp [V.put]
  | _ :: _, 0, _ => by simp [V.put]
  | _ :: xs, n + 1, x => by simp [V.put, put_eq xs n]
theorem fls_at {P : Program} {S : Nat → Prop} {w : World} : ∀ {ds : List D} {css : List (List Value)} {i : Nat} {d : D}, Fl.fls P S w ds css → ds[i]? = some d → ∃ c, css[i]? = some c ∧ Fl P S w d c
  | [], _, _, _, _, h => by simp at h
  | x :: ds, _, i, d, h, hi => by
    obtain ⟨c, r, rfl, h2, h3⟩ := h
    cases i with
    | zero => simp at hi; subst hi; exact ⟨c, rfl, h2⟩
    | succ i => simp at hi; simpa using fls_at h3 hi
theorem rels_at {P : Program} {S : Nat → Prop} {σ : Sig} {st : Store} {w : World} : ∀ {vs : List V} {css : List (List Value)} {i : Nat} {v : V}, RelC.rels P S σ st w vs css → vs[i]? = some v → ∃ c, css[i]? = some c ∧ RelC P S σ st w v c
  | [], _, _, _, _, h => by simp at h
  | x :: ds, _, i, d, h, hi => by
    obtain ⟨c, r, rfl, h2, h3⟩ := h
    cases i with
    | zero => simp at hi; subst hi; exact ⟨c, rfl, h2⟩
    | succ i => simp at hi; simpa using rels_at h3 hi
theorem rels_set {P : Program} {S : Nat → Prop} {σ : Sig} {st : Store} {w : World} : ∀ {vs : List V} {css : List (List Value)} {i : Nat} {v : V} {c : List Value}, RelC.rels P S σ st w vs css → RelC P S σ st w v c → RelC.rels P S σ st w (vs.set i v) (css.set i c)
  | [], _, _, _, _, h, _ => by cases h; simp [RelC.rels]
  | x :: ds, _, i, d, c', h, hc => by
    obtain ⟨c, r, rfl, h2, h3⟩ := h
    cases i with
    | zero => exact ⟨c', r, rfl, hc, h3⟩
    | succ i => exact ⟨c, r.set i c', rfl, h2, rels_set h3 hc⟩
theorem rels_map {P : Program} {S : Nat → Prop} {σ : Sig} {st : Store} {w : World} : ∀ {ds : List D} {css : List (List Value)}, Fl.fls P S w ds css → RelC.rels P S σ st w (ds.map V.d) css
  | [], _, h => h
  | d :: ds, _, h => by obtain ⟨c, r, rfl, h2, h3⟩ := h; exact ⟨c, r, rfl, h2, rels_map h3⟩
theorem rels_append {P : Program} {S : Nat → Prop} {σ : Sig} {st : Store} {w : World} : ∀ {vs us : List V} {css dss : List (List Value)}, RelC.rels P S σ st w vs css → RelC.rels P S σ st w us dss → RelC.rels P S σ st w (vs ++ us) (css ++ dss)
  | [], _, _, _, h, h' => by cases h; exact h'
  | v :: vs, _, _, _, h, h' => by obtain ⟨c, r, rfl, h2, h3⟩ := h; exact ⟨c, r ++ _, rfl, h2, rels_append h3 h'⟩
theorem rels_drop {P : Program} {S : Nat → Prop} {σ : Sig} {st : Store} {w : World} : ∀ {vs : List V} {css : List (List Value)} (n : Nat), RelC.rels P S σ st w vs css → RelC.rels P S σ st w (vs.drop n) (css.drop n)
  | [], _, n, h => by cases h; simp [RelC.rels]
  | v :: vs, _, n, h => by
    obtain ⟨c, r, rfl, h2, h3⟩ := h
    cases n with
    | zero => exact ⟨c, r, rfl, h2, h3⟩
    | succ n => exact rels_drop n h3
theorem rels_take {P : Program} {S : Nat → Prop} {σ : Sig} {st : Store} {w : World} : ∀ {vs : List V} {css : List (List Value)} (n : Nat), RelC.rels P S σ st w vs css → RelC.rels P S σ st w (vs.take n) (css.take n)
  | [], _, n, h => by cases h; simp [RelC.rels]
  | v :: vs, _, n, h => by
    obtain ⟨c, r, rfl, h2, h3⟩ := h
    cases n with
    | zero => rfl
    | succ n => exact ⟨c, r.take n, rfl, h2, rels_take n h3⟩
theorem fls_drop {P : Program} {S : Nat → Prop} {w : World} : ∀ {ds : List D} {css : List (List Value)} (n : Nat), Fl.fls P S w ds css → Fl.fls P S w (ds.drop n) (css.drop n)
  | [], _, n, h => by cases h; simp [Fl.fls]
  | v :: vs, _, n, h => by
    obtain ⟨c, r, rfl, h2, h3⟩ := h
    cases n with
    | zero => exact ⟨c, r, rfl, h2, h3⟩
    | succ n => exact fls_drop n h3
theorem fls_take {P : Program} {S : Nat → Prop} {w : World} : ∀ {ds : List D} {css : List (List Value)} (n : Nat), Fl.fls P S w ds css → Fl.fls P S w (ds.take n) (css.take n)
  | [], _, n, h => by cases h; simp [Fl.fls]
  | v :: vs, _, n, h => by
    obtain ⟨c, r, rfl, h2, h3⟩ := h
    cases n with
    | zero => rfl
    | succ n => exact ⟨c, r.take n, rfl, h2, fls_take n h3⟩
end Go.Ev
end
