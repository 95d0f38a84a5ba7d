/- A part of the proof: texts ECore, ERel, EBase, EOps1, EOps2, EOps3, EOps4, EOps5, EOps6, EOps7, EOps8, EMem, EOps9, EOps10: see the last part's opening words. -/
import Derived.Orders
import Derived.Tactics
import Derived.Laws.StructEq
import Derived.Laws.BytesString
set_option linter.unusedVariables false
set_option linter.unusedSimpArgs false
set_option linter.unnecessarySimpa false
namespace Go.E

/-! leaf types, data, modes -/
inductive ST where
  | int (k : IntKind) | bool | str | any
  deriving DecidableEq, Repr, Inhabited
inductive LT where
  | sc (s : ST) | sl (es : List LT)
  deriving Repr, Inhabited
inductive T where
  | i (n : Int) | b (x : Bool) | s (x : ByteArray) | l (rows : List (List T)) | x (v : Value)
  deriving Inhabited
def T.int : T → Int | .i n => n | _ => 0
def T.bool : T → Bool | .b y => y | _ => false
def T.str : T → ByteArray | .s y => y | _ => .empty
def T.rows : T → List (List T) | .l r => r | _ => []
mutual
def LT.beq : LT → LT → Bool
  | .sc a, .sc b => decide (a = b)
  | .sl a, .sl b => LT.beqs a b
  | _, _ => false
def LT.beqs : List LT → List LT → Bool
  | [], [] => true
  | a :: as, b :: bs => LT.beq a b && LT.beqs as bs
  | _, _ => false
end
abbrev Key := List Nat
def keyEq : Key → Key → Bool
  | [], [] => true
  | a :: as, b :: bs => Nat.beq a b && keyEq as bs
  | _, _ => false
inductive M where
  | U | F | O (ms : List M)
  deriving Inhabited, Repr
abbrev Dep := Key × Nat
inductive St where
  | sc | nl | sn (deps : List Dep) | al (k : Key) (n : Nat) | og | dead
  deriving Inhabited, Repr
structure Leaf where
  st : St
  lt : LT
  d : T
  deriving Inhabited
inductive Ent where
  | one (l : Leaf) | agg (ls : List Leaf) | tup (es : List Ent)
  | ptr (k : Key) (n i off : Nat)
  | rp (deps : List Dep) (lts : List LT) (row : List T)
  | fn (f : FuncId) (caps : List Ent)
  | und | junk
  deriving Inhabited
inductive Ch where
  | box (ls : List Leaf) | row (es : List LT) (ms : List M) (rows : List (List T)) | fz (es : List LT) (rows : List (List T)) | gone
  deriving Inhabited
structure KE where
  ch : Ch
  idv : Nat
  cv : Nat
  deriving Inhabited
structure S where
  s : Nat → Ent
  k : Key → KE

/-! results -/
inductive R3 (α : Type) where
  | ok (a : α) | out | bad
  deriving Inhabited

/-- arguments as the one who is called sees them -/
inductive AL where
  | sc (s : ST) (d : T) | fz (es : List LT) (rows : List (List T)) | own (es : List LT) (ms : List M) (rows : List (List T)) | nl (es : List LT)
  deriving Inhabited
inductive Arg where
  | one (l : AL) | agg (ls : List AL)
  | rpt (lts : List LT) (row : List T)   -- a pointer to what is read alone
  | bx (ls : List AL)                    -- a pointer to a variable that is handed over, with what it owns
  | fn (f : FuncId) (caps : List Arg)
  deriving Inhabited
/-- what comes back: a leaf; 'par i j': what parameter i's leaf j owns still; 'org': a leaf of a box that was read alone, as it was -/
inductive RL where
  | sc (s : ST) (d : T) | fz (es : List LT) (rows : List (List T)) | own (k : Key) (es : List LT) (ms : List M) (rows : List (List T)) | nl (es : List LT)
  | par (i j : Nat) | org
  deriving Inhabited
inductive RE where
  | one (l : RL) | agg (ls : List RL)
  | bx (k : Key) (ls : List RL)   -- a pointer to a new variable
  | none
  deriving Inhabited
/-- a result: the results' entries; what each parameter's leaf that was owned holds now (none: it is gone); for a box its leaves -/
structure Ret where
  rs : List RE
  owns : List (List (Option (List LT × List M × List (List T))))
  bxs : List (Option (List RL))      -- for each parameter that is a variable handed over: what it holds now
  deriving Inhabited
/-! local programs -/
inductive Prog where
  | ret | fail | out
  | chk (c : Bool) (p : Prog)
  | lim (c : Bool) (p : Prog)
  | br (c : Bool) (p q : Prog)
  | getS (t : Nat) (k : Ent → Prog)
  | setS (t : Nat) (e : Ent) (p : Prog)
  | getK (k : Key) (c : KE → Prog)
  | setK (k : Key) (e : KE) (p : Prog)
  | call (f : FuncId) (args : List Arg) (k : Ret → Prog)

structure Tr where
  rs : List Nat := []
  ws : List Nat := []
  rk : List Key := []
  wk : List Key := []
  deriving Inhabited

def S.setS (σ : S) (t : Nat) (e : Ent) : S := { σ with s := fun u => cond (Nat.beq u t) e (σ.s u) }
def S.setK (σ : S) (k : Key) (e : KE) : S := { σ with k := fun u => cond (keyEq u k) e (σ.k u) }

def R3.bind {α β : Type} (r : R3 α) (k : α → R3 β) : R3 β := match r with | .ok a => k a | _ => .bad
variable (cf : FuncId → List Arg → R3 Ret)
def Prog.run {α : Type} : Prog → S → Tr → (S → Tr → R3 α) → R3 α
  | .ret, σ, tr, K => K σ tr
  | .fail, _, _, _ => .bad
  | .out, _, _, _ => .bad
  | .chk c p, σ, tr, K => cond c (p.run σ tr K) .bad
  | .lim _ p, σ, tr, K => p.run σ tr K
  | .br c p q, σ, tr, K => cond c (p.run σ tr K) (q.run σ tr K)
  | .getS t k, σ, tr, K => (k (σ.s t)).run σ { tr with rs := t :: tr.rs } K
  | .setS t e p, σ, tr, K => p.run (σ.setS t e) { tr with ws := t :: tr.ws } K
  | .getK k c, σ, tr, K => (c (σ.k k)).run σ { tr with rk := k :: tr.rk } K
  | .setK k e p, σ, tr, K => p.run (σ.setK k e) { tr with wk := k :: tr.wk } K
  | .call f args k, σ, tr, K => (cf f args).bind fun r => (k r).run σ tr K

/-! what E is told of the program -/
inductive TK where
  | sc (s : ST) | slice (elem : TypeId) | struct (fs : List (Nat × TypeId)) | array (n : Nat) (elem : TypeId) | ptr (elem : TypeId) | other
  deriving Inhabited
structure TI where
  kind : TK
  lts : List LT
  bytes : Nat
  flat : Bool
  deriving Inhabited
/-- how an argument is handed on: read alone, or with what it owns -/
inductive PM where
  | R | O
  deriving Inhabited, DecidableEq, Repr
structure Sig where
  pms : List (List PM)      -- for each parameter, for each of its leaves (of a pointer: of the leaves behind it)
  deriving Inhabited
structure Ctx where
  ty : TypeId → Option TI
  fn : FuncId → Option Func
  sig : FuncId → Sig
  own : FuncId → Nat → Bool -- whether a nil slice that is moved to this slot is a chunk (no rows)
  cut : FuncId → Nat → Bool -- whether the slice operation that writes this slot cuts what is owned

def zeroD : LT → T
  | .sc (.int _) => .i 0 | .sc .bool => .b false | .sc .str => .s .empty | .sc .any => .x .nilIface | .sl _ => .l []
def zeroLeaf : LT → Leaf
  | .sl es => ⟨.nl, .sl es, .l []⟩
  | .sc .any => ⟨.dead, .sc .any, .l []⟩
  | lt => ⟨.sc, lt, zeroD lt⟩
def litLeaf : Value → Option Leaf
  | .bool b => some ⟨.sc, .sc .bool, .b b⟩
  | .int k n => if k.min ≤ n ∧ n ≤ k.max then some ⟨.sc, .sc (.int k), .i n⟩ else none
  | .string s => if s.size < 9223372036854775808 then some ⟨.sc, .sc .str, .s s⟩ else none
  | .slice none 0 0 => some ⟨.nl, .sl [], .l []⟩
  | _ => none

def dflt : T := .i 0
def leafOf (deps : List Dep) (lt : LT) (d : T) : Leaf :=
  match lt with
  | .sl _ => ⟨.sn deps, lt, d⟩
  | _ => ⟨.sc, lt, d⟩
def isAggK : TK → Bool
  | .struct _ | .array _ _ => true
  | _ => false
def mkEnt (agg : Bool) (ls : List Leaf) : Ent :=
  cond agg (.agg ls) (match ls with | [l] => .one l | _ => .junk)
def leavesOf : Ent → Option (List Leaf)
  | .one l => some [l]
  | .agg ls => some ls
  | _ => none

def joinM : Nat → M → M → Option M
  | _, .U, m => some m
  | _, m, .U => some m
  | _, .F, .F => some .F
  | n + 1, .O a, .O b => (go n a b).map .O
  | _, _, _ => none
  where go : Nat → List M → List M → Option (List M)
  | n, x :: xs, y :: ys => do some ((← joinM n x y) :: (← go n xs ys))
  | _, [], [] => some []
  | _, _, _ => none
def joinMs (a b : List M) : Option (List M) := joinM.go 4 a b

section ops
variable (Γ : Ctx)

def ofOpt {α : Type} (o : Option α) (k : α → Prog) : Prog := match o with | some a => k a | none => .fail
def tyOf (t : TypeId) (k : TI → Prog) : Prog := ofOpt (Γ.ty t) k

def rd (x : Operand) (k : Ent → Prog) : Prog :=
  match x with
  | .tmp t => .getS t k
  | .const (.pointer none) => k .junk
  | .const (.agg cs) => ofOpt (cs.toList.mapM litLeaf) fun ls => k (.agg ls)
  | .const v => ofOpt (litLeaf v) fun l => k (.one l)
  | .func f => k (.fn f [])
  | .global _ => .fail

def depsOk (ds : List Dep) (p : Prog) : Prog :=
  match ds with
  | [] => p
  | (k, n) :: ds => .getK k fun ke => .chk (Nat.beq ke.cv n) (depsOk ds p)

/-- a slice that is read: its elements' leaves, its rows, what it hangs on -/
def viewSl (l : Leaf) (k : List LT → List (List T) → List Dep → Prog) : Prog :=
  match l.lt, l.st with
  | .sl es, .nl => k es [] []
  | .sl es, .sn deps => depsOk deps (k es l.d.rows deps)
  | .sl es, .og => k es l.d.rows []
  | .sl _, .al key n => .getK key fun ke => .chk (Nat.beq ke.idv n) (match ke.ch with
      | .row es _ rows => k es rows [(key, ke.cv)]
      | .fz es rows => k es rows []
      | _ => .fail)
  | _, _ => .fail

def scal (e : Ent) (k : ST → T → Prog) : Prog :=
  match e with
  | .one ⟨.sc, .sc s, d⟩ => k s d
  | _ => .fail
def one1 (e : Ent) (k : Leaf → Prog) : Prog := match e with | .one l => k l | _ => .fail

/-- what goes into rows ('es': the rows' leaf types): it is frozen; with its modes -/
def absorb : List LT → List Leaf → (List M → List T → Prog) → Prog
  | [], [], k => k [] []
  | e :: es, l :: ls, k =>
    match e, l.lt, l.st with
    | .sc s, .sc s', .sc => if s = s' then absorb es ls fun ms ds => k (.F :: ms) (l.d :: ds) else .fail
    | .sl _, _, .nl => absorb es ls fun ms ds => k (.U :: ms) (.l [] :: ds)
    | .sl _, lt, .sn [] => cond (LT.beq e lt) (absorb es ls fun ms ds => k (.F :: ms) (l.d :: ds)) .fail
    | .sl es', _, .al key n => .getK key fun ke => .chk (Nat.beq ke.idv n) (match ke.ch with
        | .fz es'' rows => cond (LT.beqs es' es'') (absorb es ls fun ms ds => k (.F :: ms) (.l rows :: ds)) .fail
        | .row es'' _ rows => cond (LT.beqs es' es'') (.setK key { ke with ch := .fz es'' rows } (absorb es ls fun ms ds => k (.F :: ms) (.l rows :: ds))) .fail
        | _ => .fail)
    | _, _, _ => .fail
  | _, _, _ => .fail

def mkRow (dst : Nat) (es : List LT) (ms : List M) (rows : List (List T)) : Prog :=
  .getK [dst + 2000000] fun ke => .setK [dst + 2000000] ⟨.row es ms rows, ke.idv + 1, ke.cv + 1⟩ (.setS dst (.one ⟨.al [dst + 2000000] (ke.idv + 1), .sl es, .l []⟩) .ret)
/-- a chunk is read alone from now on -/
def freezeK (key : Key) (k : Prog) : Prog := .getK key fun ke => match ke.ch with
  | .row es _ rows => .setK key { ke with ch := .fz es rows } k
  | _ => .fail
def mkRowF (fz : Bool) (dst : Nat) (es : List LT) (ms : List M) (rows : List (List T)) : Prog :=
  .getK [dst + 2000000] fun ke => .setK [dst + 2000000] ⟨.row es ms rows, ke.idv + 1, ke.cv + 1⟩ (.setS dst (.one ⟨.al [dst + 2000000] (ke.idv + 1), .sl es, .l []⟩) (cond fz (freezeK [dst + 2000000] .ret) .ret))
def mkBox (dst : Nat) (ls : List Leaf) : Prog :=
  .getK [dst + 2000000] fun ke => .setK [dst + 2000000] ⟨.box ls, ke.idv + 1, ke.cv + 1⟩ (.setS dst (.ptr [dst + 2000000] (ke.idv + 1) 0 0) .ret)

def modeLeaf (key : Key) (cv : Nat) (lt : LT) (m : M) (d : T) : Leaf :=
  match lt, m with
  | .sl _, .O _ => ⟨.sn [(key, cv)], lt, d⟩
  | .sl _, _ => ⟨.sn [], lt, d⟩
  | _, _ => ⟨.sc, lt, d⟩
def unOg (l : Leaf) : Leaf := match l.st with | .og => { l with st := .sn [] } | _ => l
def rowLeaves (key : Key) (cv off size : Nat) (es : List LT) (ms : List M) (row : List T) : List Leaf :=
  (List.range size).map fun j => modeLeaf key cv (es.getD (off + j) default) (ms.getD (off + j) .F) (row.getD (off + j) dflt)
def frozenLeaves (deps : List Dep) (size : Nat) (es : List LT) (row : List T) : List Leaf :=
  (List.range size).map fun j => leafOf deps (es.getD j default) (row.getD j dflt)

def setMany (row : List T) (off : Nat) : List T → List T
  | [] => row
  | d :: ds => setMany (row.set off d) (off + 1) ds
def setModes (ms : List M) (off : Nat) : List M → Option (List M)
  | [] => some ms
  | m :: r => match joinM 4 (ms.getD off .U) m with
    | some x => setModes (ms.set off x) (off + 1) r
    | none => none

def bytesRows (s : ByteArray) : List (List T) := s.data.toList.map fun b => [T.i b.toNat]
def rowsBytes (rows : List (List T)) : ByteArray := ⟨(rows.map fun r => UInt8.ofNat (r.getD 0 dflt).int.toNat).toArray⟩

def bvBack (k : IntKind) (r : BitVec k.bits) : T := .i (k.wrap r.toNat)
def binInt (op : BinOp) (k : IntKind) (x y : Int) (K : ST → T → Prog) : Prog :=
  match op with
  | .add => K (.int k) (.i (k.wrap (x + y)))
  | .sub => K (.int k) (.i (k.wrap (x - y)))
  | .mul => K (.int k) (.i (k.wrap (x * y)))
  | .quo => .chk (!decide (y = 0)) (K (.int k) (.i (k.wrap (x.tdiv y))))
  | .rem => .chk (!decide (y = 0)) (K (.int k) (.i (x.tmod y)))
  | .and => K (.int k) (bvBack k (BitVec.ofInt k.bits x &&& BitVec.ofInt k.bits y))
  | .or => K (.int k) (bvBack k (BitVec.ofInt k.bits x ||| BitVec.ofInt k.bits y))
  | .xor => K (.int k) (bvBack k (BitVec.ofInt k.bits x ^^^ BitVec.ofInt k.bits y))
  | .andNot => K (.int k) (bvBack k (BitVec.ofInt k.bits x &&& ~~~ BitVec.ofInt k.bits y))
  | .eql => K .bool (.b (x == y))
  | .neq => K .bool (.b (x != y))
  | .lss => K .bool (.b (decide (x < y)))
  | .leq => K .bool (.b (decide (x ≤ y)))
  | .gtr => K .bool (.b (decide (x > y)))
  | .geq => K .bool (.b (decide (x ≥ y)))
  | _ => .fail
def binStr (op : BinOp) (x y : ByteArray) (K : ST → T → Prog) : Prog :=
  let eq := x.toList == y.toList
  let lt := Op.bytesLess x.toList y.toList
  match op with
  | .add => .chk (decide (x.size + y.size < 9223372036854775808)) (K .str (.s (x ++ y)))
  | .eql => K .bool (.b eq)
  | .neq => K .bool (.b (!eq))
  | .lss => K .bool (.b lt)
  | .leq => K .bool (.b (lt || eq))
  | .gtr => K .bool (.b (!(lt || eq)))
  | .geq => K .bool (.b (!lt))
  | _ => .fail
/-- equality of leaves that hold scalars -/
def eqSc : ST → T → T → Option Bool
  | .int _, x, y => some (x.int == y.int)
  | .bool, x, y => some (x.bool == y.bool)
  | .str, x, y => some (x.str.toList == y.str.toList)
  | .any, _, _ => none
def eqLeaves : List LT → List Leaf → List Leaf → Option Bool
  | [], [], [] => some true
  | .sc c :: lts, ⟨.sc, .sc a, x⟩ :: ls, ⟨.sc, .sc b, y⟩ :: rs =>
    if c = a ∧ c = b then
      match eqSc c x y, eqLeaves lts ls rs with
      | some b, some r => some (b && r)
      | _, _ => none
    else none
  | _, _, _ => none
def isBoolK : TK → Bool | .sc .bool => true | _ => false
def binE (ti : TI) (op : BinOp) (x y : Ent) (K : ST → T → Prog) : Prog :=
  match x, y with
  | .one ⟨.sc, .sc (.int k), a⟩, .one ⟨.sc, .sc (.int k'), b⟩ =>
    match op with
    | .shl => .chk (decide (0 ≤ b.int)) (K (.int k) (.i (k.wrap (a.int * 2 ^ (min b.int.toNat k.bits)))))
    | .shr => .chk (decide (0 ≤ b.int)) (K (.int k) (.i (a.int.fdiv (2 ^ (min b.int.toNat k.bits)))))
    | _ => if k = k' then binInt op k a.int b.int K else .fail
  | .one ⟨.sc, .sc .str, a⟩, .one ⟨.sc, .sc .str, b⟩ => binStr op a.str b.str K
  | .one ⟨.sc, .sc .bool, a⟩, .one ⟨.sc, .sc .bool, b⟩ =>
    cond (isBoolK ti.kind) (match op with
    | .eql => K .bool (.b (a.bool == b.bool))
    | .neq => K .bool (.b (!(a.bool == b.bool)))
    | _ => .fail) .fail
  | .agg ls, .agg rs =>
    cond ti.flat (match op with
    | .eql => ofOpt (eqLeaves ti.lts ls rs) fun r => K .bool (.b r)
    | .neq => ofOpt (eqLeaves ti.lts ls rs) fun r => K .bool (.b (!r))
    | _ => .fail) .fail
  | _, _ => .fail

def put (dst : Option Nat) (e : Ent) : Prog := match dst with | some d => .setS d e .ret | none => .ret
def putNil (own : Nat → Bool) (dst : Option Nat) (e : Ent) : Prog :=
  match dst, e with
  | some d0, .one ⟨.nl, .sl es, _⟩ => cond (own d0 && !es.isEmpty) (mkRow d0 es (es.map fun _ => .F) []) (put dst e)
  | _, _ => put dst e
def putSc (dst : Option Nat) (s : ST) (d : T) : Prog := put dst (.one ⟨.sc, .sc s, d⟩)

def maxCells : Nat := 140737488355328    -- 2 ^ 47
def maxRow : Nat := 1099511627776    -- 2 ^ 40


def flatLs (es : List LT) : Bool := es.all fun t => match t with | .sc _ => true | _ => false
/-! calls: what is handed on -/
/-- a variable's name at the one who is called: [parameter, bxJ] -/
def bxJ : Nat := 999999
structure Lend where
  key : Key
  idv : Nat
  es : List LT
  i : Nat
  j : Nat
structure Pass where
  args : List Arg
  lends : List Lend
  deps : List Dep

def passLeaf (i j : Nat) (m : PM) (l : Leaf) (c : Pass) (k : AL → Pass → Prog) : Prog :=
  match l.lt, l.st with
  | .sc s, .sc => k (.sc s l.d) c
  | .sl es, .nl => k (.nl es) c
  | .sl es, .sn deps => match m with
    | .R => depsOk deps (k (.fz es l.d.rows) { c with deps := deps ++ c.deps })
    | .O => .fail
  | .sl es0, .al key n => .getK key fun ke => .chk (Nat.beq ke.idv n) (match ke.ch, m with
    | .fz es rows, .R => .chk (LT.beqs es0 es) (k (.fz es rows) c)
    | .row es _ rows, .R => .chk (LT.beqs es0 es) (k (.fz es rows) { c with deps := (key, ke.cv) :: c.deps })
    | .row es ms rows, .O => .chk (LT.beqs es0 es && Nat.blt j bxJ) (k (.own es ms rows) { c with lends := ⟨key, n, es, i, j⟩ :: c.lends })
    | _, _ => .fail)
  | _, _ => .fail
def passLeaves (i : Nat) : Nat → List PM → List Leaf → Pass → (List AL → Pass → Prog) → Prog
  | _, _, [], c, k => k [] c
  | j, ms, l :: ls, c, k => passLeaf i j (ms.headD .R) l c fun a c => passLeaves i (j + 1) (ms.drop 1) ls c fun as c => k (a :: as) c
/-- leaves that are read alone -/
def readLeaves : List Leaf → Pass → (List LT → List T → Pass → Prog) → Prog
  | [], c, k => k [] [] c
  | l :: ls, c, k =>
    match l.lt, l.st with
    | .sc s, .sc => readLeaves ls c fun lts ds c => k (.sc s :: lts) (l.d :: ds) c
    | _, _ => viewSl l fun es rows deps => readLeaves ls { c with deps := deps ++ c.deps } fun lts ds c => k (.sl es :: lts) (.l rows :: ds) c
def passPtr (sz : Option Nat) (e : Ent) (c : Pass) (k : Arg → Pass → Prog) : Prog :=
  let cutT {α : Type} (l : List α) : List α := match sz with | some n => l.take n | none => l
  match e with
  | .ptr key n r off => .getK key fun ke => .chk (Nat.beq ke.idv n) (match ke.ch with
    | .box ls => readLeaves (cutT (ls.drop off)) { c with deps := (key, ke.cv) :: c.deps } fun lts ds c => k (.rpt lts ds) c
    | .row es _ rows => .chk (decide (r < rows.length)) (k (.rpt (cutT (es.drop off)) (cutT ((rows.getD r []).drop off))) { c with deps := (key, ke.cv) :: c.deps })
    | .fz es rows => .chk (decide (r < rows.length)) (k (.rpt (cutT (es.drop off)) (cutT ((rows.getD r []).drop off))) c)
    | _ => .fail)
  | .rp deps lts row => depsOk deps (k (.rpt (cutT lts) (cutT row)) { c with deps := deps ++ c.deps })
  | _ => .fail
/-- a leaf of a variable that is handed over: what it owns goes along -/
def passLeafB (i j : Nat) (l : Leaf) (c : Pass) (k : AL → Pass → Prog) : Prog :=
  match l.lt, l.st with
  | .sl _, .al key _ => .getK key fun ke => match ke.ch with
    | .row _ _ _ => passLeaf i j .O l c k
    | _ => passLeaf i j .R l c k
  | _, _ => passLeaf i j .R l c k
def passLeavesB (i : Nat) : Nat → List Leaf → Pass → (List AL → Pass → Prog) → Prog
  | _, [], c, k => k [] c
  | j, l :: ls, c, k => passLeafB i j l c fun a c => passLeavesB i (j + 1) ls c fun as c => k (a :: as) c
def passBox (i sz : Nat) (e : Ent) (c : Pass) (k : Arg → Pass → Prog) : Prog :=
  match e with
  | .ptr key n _ off => .getK key fun ke => .chk (Nat.beq ke.idv n) (match ke.ch with
    | .box ls => .chk (Nat.beq off 0 && Nat.beq ls.length sz && Nat.ble sz 1000) (passLeavesB i 0 ls { c with lends := ⟨key, n, [], i, bxJ⟩ :: c.lends } fun as c => k (.bx as) c)
    | _ => .fail)
  | _ => .fail
def passCaps : List Ent → Pass → (List Arg → Pass → Prog) → Prog   -- what a closure caught: read alone
  | [], c, k => k [] c
  | e :: es, c, k => passPtr none e c fun a c => passCaps es c fun as c => k (a :: as) c
def passOne (i : Nat) (pm : List PM) (e : Ent) (c : Pass) (k : Arg → Pass → Prog) : Prog :=
  match e with
  | .one l => passLeaf i 0 (pm.headD .R) l c fun a c => k (.one a) c
  | .agg ls => passLeaves i 0 pm ls c fun as c => k (.agg as) c
  | .fn f caps => passCaps caps c fun as c => k (.fn f as) c
  | e => cond (pm.any fun m => match m with | .O => true | .R => false) (passBox i pm.length e c k) (passPtr (cond pm.isEmpty none (some pm.length)) e c k)
def passAll (pms : List (List PM)) : Nat → List Ent → Pass → (List Arg → Pass → Prog) → Prog
  | _, [], c, k => k [] c
  | i, e :: es, c, k => passOne i (pms.getD i []) e c fun a c => passAll pms (i + 1) es c fun as c => k (a :: as) c

/-- lent keys unlike each other, and nothing that is read hangs on one -/
def apartOk (deps : List Dep) : List Lend → Bool
  | [] => true
  | x :: xs => !(xs.any fun y => keyEq x.key y.key || (Nat.beq x.i y.i && Nat.beq x.j y.j)) && !(deps.any fun d => keyEq x.key d.1) && apartOk deps xs

def findLend (i j : Nat) : List Lend → Option Lend
  | [] => none
  | l :: ls => cond (Nat.beq l.i i && Nat.beq l.j j) (some l) (findLend i j ls)
def ownOf (r : Ret) (i j : Nat) : Option (List LT × List M × List (List T)) := (r.owns.getD i []).getD j none

/-- behind the call: what was lent comes back; 'nd': nothing that was read hangs on what is owned -/
def bxOf (r : Ret) (i : Nat) : Option (List RL) := r.bxs.getD i none
def deadL (l : Leaf) : Leaf := { l with st := .dead, d := .l [] }
def giveBack (nd : Bool) (r : Ret) : List Lend → Prog → Prog
  | [], p => p
  | l :: ls, p => .getK l.key fun ke => cond (Nat.beq l.j bxJ)
    (match ke.ch with
    | .box old => (match bxOf r l.i with
      | some rls => .chk (Nat.beq rls.length old.length) (.setK l.key ⟨.box (old.map deadL), ke.idv, ke.cv + 1⟩ (giveBack nd r ls p))
      | none => .fail)
    | _ => .fail)
    (match ownOf r l.i l.j with
    | some (es, ms, rows) => .chk (LT.beqs l.es es && (flatLs es || nd)) (.setK l.key ⟨.row es ms rows, ke.idv, ke.cv + 1⟩ (giveBack nd r ls p))
    | none => .setK l.key ⟨.gone, ke.idv + 1, ke.cv + 1⟩ (giveBack nd r ls p))

/-- a leaf that comes back; 'key': the name of a chunk that is new -/
def backLeaf (c : Pass) (key : Key) (l : RL) (k : Leaf → Prog) : Prog :=
  match l with
  | .sc s d => k ⟨.sc, .sc s, d⟩
  | .fz es rows => k ⟨.sn c.deps, .sl es, .l rows⟩
  | .nl es => k ⟨.nl, .sl es, .l []⟩
  | .own _ es ms rows => .chk (flatLs es || c.deps.isEmpty) (.getK key fun ke => .setK key ⟨.row es ms rows, ke.idv + 1, ke.cv + 1⟩ (k ⟨.al key (ke.idv + 1), .sl es, .l []⟩))
  | .par i j => ofOpt (findLend i j c.lends) fun l => k ⟨.al l.key l.idv, .sl l.es, .l []⟩
  | .org => .fail
def backLeaves (c : Pass) (dst q : Nat) : Nat → List RL → (List Leaf → Prog) → Prog
  | _, [], k => k []
  | j, l :: ls, k => backLeaf c [dst + 2000000, q, j] l fun x => backLeaves c dst q (j + 1) ls fun xs => k (x :: xs)
def backRes (c : Pass) (dst : Nat) : Nat → List RE → (List Ent → Prog) → Prog
  | _, [], k => k []
  | q, e :: es, k =>
    match e with
    | .one l => backLeaf c [dst + 2000000, q, 0] l fun x => backRes c dst (q + 1) es fun xs => k (.one x :: xs)
    | .agg ls => backLeaves c dst q 0 ls fun x => backRes c dst (q + 1) es fun xs => k (.agg x :: xs)
    | .bx _ ls => backLeaves c dst q 0 ls fun x => .chk (Nat.beq x.length ls.length && Nat.ble ls.length 1000) (.getK [dst + 2000000, q, bxJ] fun ke =>
        .setK [dst + 2000000, q, bxJ] ⟨.box x, ke.idv + 1, ke.cv + 1⟩ (backRes c dst (q + 1) es fun xs => k (.ptr [dst + 2000000, q, bxJ] (ke.idv + 1) 0 0 :: xs)))
    | _ => .fail
/-- what the variables hold that were handed over -/
def backBoxes (c : Pass) (dst : Nat) (r : Ret) : List Lend → Prog → Prog
  | [], p => p
  | l :: ls, p => cond (Nat.beq l.j bxJ)
    (match bxOf r l.i with
    | some rls => backLeaves c dst (1000 + l.i) 0 rls fun xs => .getK l.key fun ke => match ke.ch with
      | .box old => .chk (Nat.beq ke.idv l.idv && Nat.beq xs.length old.length) (.setK l.key ⟨.box xs, ke.idv, ke.cv + 1⟩ (backBoxes c dst r ls p))
      | _ => .fail
    | none => .fail)
    (backBoxes c dst r ls p)
def oneEnt (xs : List Ent) : Ent := match xs with | [x] => x | _ => .tup xs
def callStep (f : FuncId) (dst : Option Nat) (es : List Ent) : Prog :=
  .chk (Γ.fn f).isSome (passAll (Γ.sig f).pms 0 es ⟨[], [], []⟩ fun args c =>
  .chk (apartOk c.deps c.lends) (.call f args fun r =>
    giveBack c.deps.isEmpty r c.lends (backBoxes c (match dst with | some d => d | none => 2000000 + f) r c.lends (match dst with
      | none => .ret
      | some d => backRes c d 0 r.rs fun xs => .setS d (oneEnt xs) .ret))))

def rdAll : List Operand → (List Ent → Prog) → Prog
  | [], k => k []
  | x :: xs, k => rd x fun e => rdAll xs fun es => k (e :: es)

def scOnly (es : List LT) : Bool := es.all fun l => match l with | .sc .any => false | _ => true
def partsOf (es : List LT) : List (Nat × Operand) → (List (Nat × List M × List T) → Prog) → Prog
  | [], k => k []
  | (i, x) :: ps, k => rd x fun e => ofOpt (leavesOf e) fun ls => absorb es ls fun ms ds => partsOf es ps fun r => k ((i, ms, ds) :: r)
def fillRows (n : Nat) : List (Nat × List M × List T) → List M → List (List T) → Option (List M × List (List T))
  | [], ms, rows => some (ms, rows)
  | (i, m, ds) :: ps, ms, rows => if i < rows.length && ds.length == n then (joinMs ms m).bind fun ms => fillRows n ps ms (rows.set i ds) else none
def partLeaves : List (Nat × Operand) → (List (Nat × List Leaf) → Prog) → Prog
  | [], k => k []
  | (i, x) :: ps, k => rd x fun e => ofOpt (leavesOf e) fun ls => partLeaves ps fun r => k ((i, ls) :: r)
def fillLeaves (Γ : Ctx) (fs : List (Nat × TypeId)) : List (Nat × List Leaf) → List Leaf → Option (List Leaf)
  | [], acc => some acc
  | (i, ls) :: ps, acc => match fs[i]? with
    | some (off, ft) => match Γ.ty ft with
      | some tf => cond (Nat.beq ls.length tf.lts.length && Nat.ble (off + ls.length) acc.length) (fillLeaves Γ fs ps (acc.take off ++ ls ++ acc.drop (off + ls.length))) none
      | none => none
    | none => none
/-- a constant has no leaf type of its own: the variable's -/
def retype : List LT → List Leaf → List Leaf
  | lt :: lts, l :: ls => (match l.st, lt with | .nl, .sl _ => { l with lt := lt } | _, _ => l) :: retype lts ls
  | _, ls => ls

def oneOrFail (ls : List Leaf) : Ent := match ls with | [l] => .one l | _ => .junk
def retypeEnt (lts : List LT) : Ent → Ent
  | .one l => oneOrFail (retype lts [l])
  | .agg ls => .agg (retype lts ls)
  | e => e
def appendSrc (esT : List LT) (lx : Leaf) (k : List (List T) → List Dep → Prog) : Prog :=
  match lx.st, lx.lt with
  | .sc, .sc .str => .chk (LT.beqs esT [.sc (.int .u8)]) (k (bytesRows lx.d.str) [])
  | .nl, _ => k [] []
  | _, _ => viewSl lx fun es rows deps => .chk (LT.beqs esT es && (flatLs esT || deps.isEmpty)) (k rows deps)
def appendFin (dst : Nat) (esT : List LT) (old new : List (List T)) : Prog :=
  .chk (Nat.ble esT.length 1000 && decide ((old.length + new.length) * esT.length ≤ maxRow)) (mkRow dst esT (esT.map fun _ => .F) (old ++ new))
def appendStep (dst : Nat) (esT : List LT) (s x : Ent) : Prog :=
  one1 s fun ls => one1 x fun lx => appendSrc esT lx fun new deps =>
  match ls.st with
  | .nl => appendFin dst esT [] new
  | .al key n => .chk (!(deps.any fun d => keyEq d.1 key)) <| .getK key fun ke => .chk (Nat.beq ke.idv n) (match ke.ch with
      | .row es _ rows => .chk (LT.beqs esT es) (.setK key ⟨.gone, ke.idv + 1, ke.cv + 1⟩ (appendFin dst esT rows new))
      | _ => .fail)
  | _ => .fail

def isStrK : TK → Bool | .sc .str => true | _ => false
def isSliceK : TK → Bool | .slice _ => true | _ => false
def sliceBound (e : Option Ent) (d : Int) (k : Int → Prog) : Prog := match e with
    | none => k d
    | some e => scal e fun s t => match s with | .int _ => k t.int | _ => .fail
def sliceStep (ti : TI) (cut : Bool) (dst : Nat) (x : Ent) (lo hi : Option Ent) : Prog :=
  one1 x fun l =>
  match l.st, l.lt with
  | .sc, .sc .str =>
    let n : Int := l.d.str.size
    .chk (isStrK ti.kind) <| sliceBound hi n fun h => sliceBound lo 0 fun a => .chk (decide (0 ≤ h ∧ h ≤ n)) (.chk (decide (0 ≤ a ∧ a ≤ h))
      (putSc (some dst) .str (.s (l.d.str.extract a.toNat h.toNat))))
  | _, _ => viewSl l fun es rows deps =>
    let n : Int := rows.length
    .chk (match ti.lts with | [.sl tes] => isSliceK ti.kind && Nat.beq es.length tes.length | _ => false) <| sliceBound hi n fun h => sliceBound lo 0 fun a => .chk (decide (0 ≤ h ∧ h ≤ n)) (.chk (decide (0 ≤ a ∧ a ≤ h))
      (cond cut
        (match l.st, lo with
         | .al key _, none => .getK key fun ke => match ke.ch with
            | .row es ms rows => .setK key ⟨.gone, ke.idv + 1, ke.cv + 1⟩ (mkRow dst es ms (rows.take h.toNat))
            | _ => .fail
         | _, _ => .fail)
        (.setS dst (.one ⟨.sn deps, .sl es, .l ((rows.take h.toNat).drop a.toNat)⟩) .ret)))

def intT (n : Int) : T := .i n
def i64 : ST := .int .i64
def minI (x y : Int) : Int := if y < x then y else x
def maxI (x y : Int) : Int := if y > x then y else x
def minmax (f : Int → Int → Int) : List Ent → Option (IntKind × Int)
  | [.one ⟨.sc, .sc (.int k), x⟩, .one ⟨.sc, .sc (.int k'), y⟩] => if k = k' then some (k, f x.int y.int) else none
  | _ => none

def isByteK : TK → Bool | .sc (.int .u8) => true | _ => false
def convStep (dst : Nat) (tsrc tdst : TI) (x : Ent) : Prog :=
  match tsrc.kind, tdst.kind with
  | .sc (.int _), .sc (.int k) => scal x fun s d => match s with
    | .int _ => putSc (some dst) (.int k) (.i (k.wrap d.int))
    | _ => .fail
  | .sc .str, .sc .str => scal x fun s d => match s with
    | .str => putSc (some dst) .str d
    | _ => .fail
  | .sc .str, .slice el => tyOf Γ el fun te => .chk (isByteK te.kind) (scal x fun s d => match s, tdst.lts with
    | .str, [.sl [.sc (.int .u8)]] => .chk (decide (d.str.size ≤ maxCells)) (.setS dst (.one ⟨.sn [], .sl [.sc (.int .u8)], .l (bytesRows d.str)⟩) .ret)
    | _, _ => .fail)
  | .slice el, .sc .str => tyOf Γ el fun te => .chk (isByteK te.kind) (one1 x fun l => viewSl l fun es rows _ => match es with
    | [.sc (.int .u8)] => putSc (some dst) .str (.s (rowsBytes rows))
    | _ => .fail)
  | _, _ => .fail

def movePut (f : FuncId) (t : TypeId) (dst : Option Nat) (e : Ent) : Prog :=
  match e with
  | .tup _ => put dst e
  | e => tyOf Γ t fun ti => putNil (Γ.own f) dst (retypeEnt ti.lts e)
def flatEnt : Ent → Bool | .tup _ => false | .fn _ _ => false | _ => true
def opStep (f : FuncId) (o : Oper) : Prog :=
  let dst := o.dst
  let wd := ofOpt o.dst
  match o.op with
  | .move x | .assign x => rd x fun e => movePut Γ f o.type dst e
  | .pick c a b => rd c fun c => rd a fun a => rd b fun b => scal c fun sc c =>
      match sc with
      | .bool => .br c.bool (scal a fun s x => putSc dst s x) (scal b fun s x => putSc dst s x)
      | _ => .fail
  | .alloc t => wd fun d0 => tyOf Γ t fun ti => mkBox d0 (ti.lts.map zeroLeaf)
  | .box t x => wd fun d0 => tyOf Γ t fun ti => rd x fun e => ofOpt (leavesOf e) fun ls => mkBox d0 (retype ti.lts ls)
  | .build t ps => tyOf Γ t fun ti => match ti.kind with
      | .struct fs => partLeaves ps.toList fun r => ofOpt (fillLeaves Γ fs r (ti.lts.map zeroLeaf)) fun ls => put dst (.agg (retype ti.lts ls))
      | _ => .fail
  | .buildSlice t n ps => wd fun d0 => tyOf Γ t fun ti => match ti.kind, ti.lts with
      | .slice _, [.sl es] => .chk (scOnly es && Nat.ble (n * es.length) 16777216) <| partsOf es ps.toList fun r =>
          ofOpt (fillRows es.length r (es.map fun _ => .F) (List.replicate n (es.map zeroD))) fun (ms, rows) => mkRowF (!Γ.own f d0) d0 es ms rows
      | _, _ => .fail
  | .load t a => tyOf Γ t fun ti => rd a fun e =>
      let size := ti.lts.length
      let agg := isAggK ti.kind
      match e with
      | .ptr key n r off => .getK key fun ke => .chk (Nat.beq ke.idv n) (match ke.ch with
          | .box ls => .chk (Nat.ble (off + size) ls.length) (put dst (mkEnt agg (((ls.drop off).take size).map unOg)))
          | .row es ms rows => .chk (Nat.ble (off + size) es.length) (.chk (decide (r < rows.length)) (put dst (mkEnt agg (rowLeaves key ke.cv off size es ms (rows.getD r [])))))
          | .fz es rows => .chk (Nat.ble (off + size) es.length) (.chk (decide (r < rows.length)) (put dst (mkEnt agg (frozenLeaves [] size (es.drop off) ((rows.getD r []).drop off)))))
          | .gone => .fail)
      | .rp deps lts row => .chk (Nat.ble size lts.length) (depsOk deps (put dst (mkEnt agg (frozenLeaves deps size lts row))))
      | _ => .fail
  | .store t a x => tyOf Γ t fun ti => rd a fun e => rd x fun v => ofOpt (leavesOf v) fun ls =>
      match e with
      | .ptr key n r off => .getK key fun ke => .chk (Nat.beq ke.idv n) (match ke.ch with
          | .box old => .chk (Nat.beq ls.length ti.lts.length && Nat.ble (off + ls.length) old.length) (.setK key ⟨.box (old.take off ++ retype ti.lts ls ++ old.drop (off + ls.length)), ke.idv, ke.cv + 1⟩ (put dst .und))
          | .row es0 _ _ => .chk (Nat.beq ls.length ti.lts.length && Nat.ble (off + ls.length) es0.length) <| absorb ((es0.drop off).take ls.length) ls fun m ds => .getK key fun ke => .chk (Nat.beq ke.idv n) <| match ke.ch with
              | .row es ms rows => .chk (LT.beqs es0 es && decide (r < rows.length)) (ofOpt (setModes ms off m) fun ms =>
                  .setK key ⟨.row es ms (rows.set r (setMany (rows.getD r []) off ds)), ke.idv, ke.cv + 1⟩ (put dst .und))
              | _ => .fail
          | _ => .fail)
      | _ => .fail
  | .nilCheck x => rd x fun e => match e with
      | .ptr k n _ _ => .getK k fun ke => .chk (Nat.beq ke.idv n) (put dst e)
      | .rp ds _ _ => depsOk ds (put dst e)
      | _ => .fail
  | .binOp op t x y _ => tyOf Γ t fun ti => rd x fun x => rd y fun y => binE ti op x y fun s d => putSc dst s d
  | .unOp op _ x => rd x fun x => scal x fun s d => match op, s with
      | .not, .bool => putSc dst .bool (.b (!d.bool))
      | .neg, .int k => putSc dst (.int k) (.i (k.wrap (0 - d.int)))
      | .xor, .int k => putSc dst (.int k) (bvBack k (BitVec.ofInt k.bits (if k.signed then -1 else k.max) ^^^ BitVec.ofInt k.bits d.int))
      | _, _ => .fail
  | .convert s t x => wd fun d0 => tyOf Γ s fun ts => tyOf Γ t fun tt => rd x fun e => convStep Γ d0 ts tt e
  | .makeSlice t l c => wd fun d0 => tyOf Γ t fun ti => rd l fun l => rd c fun c => scal l fun sl l => scal c fun sc c => match sl, sc, ti.kind, ti.lts with
      | .int .i64, .int .i64, .slice el, [.sl es] => tyOf Γ el fun te =>
          .chk (scOnly es && decide (0 ≤ l.int ∧ l.int ≤ c.int)) (.chk (decide (c.int * te.bytes ≤ maxCells)) (mkRow d0 es (es.map fun _ => .F) (List.replicate l.int.toNat (es.map zeroD))))
      | _, _, _, _ => .fail
  | .slice t x lo hi none => wd fun d0 => tyOf Γ t fun ti => rd x fun x =>
      let go (lo : Option Ent) (hi : Option Ent) := sliceStep ti (Γ.cut f d0) d0 x lo hi
      match lo, hi with
      | none, none => go none none
      | some a, none => rd a fun a => go (some a) none
      | none, some b => rd b fun b => go none (some b)
      | some a, some b => rd a fun a => rd b fun b => go (some a) (some b)
  | .fieldAddr t x i => tyOf Γ t fun ti => rd x fun e => match ti.kind with
      | .struct fs => ofOpt fs[i]? fun (off, _) => match e with
          | .ptr k n r o => .getK k fun ke => .chk (Nat.beq ke.idv n) (put dst (.ptr k n r (o + off)))
          | .rp deps lts row => .chk (Nat.ble off lts.length) (depsOk deps (put dst (.rp deps (lts.drop off) (row.drop off))))
          | _ => .fail
      | _ => .fail
  | .field t x i => tyOf Γ t fun ti => rd x fun e => match ti.kind, e with
      | .struct fs, .agg ls => ofOpt fs[i]? fun (off, ft) => tyOf Γ ft fun tf => .chk (Nat.ble (off + tf.lts.length) ls.length) (put dst (mkEnt (isAggK tf.kind) ((ls.drop off).take tf.lts.length)))
      | _, _ => .fail
  | .indexAddr t x i => tyOf Γ t fun ti => rd x fun e => rd i fun ie => scal ie fun si ix => match si, ti.kind, ti.lts, e with
      | .int _, .slice _, [.sl tes], .one l => (match l.st with
          | .al key n => .getK key fun ke => .chk (Nat.beq ke.idv n) (match ke.ch with
              | .row es _ rows => .chk (Nat.beq es.length tes.length) (.chk (decide (0 ≤ ix.int ∧ ix.int < rows.length)) (put dst (.ptr key n ix.int.toNat 0)))
              | .fz es rows => .chk (Nat.beq es.length tes.length) (.chk (decide (0 ≤ ix.int ∧ ix.int < rows.length)) (put dst (.ptr key n ix.int.toNat 0)))
              | _ => .fail)
          | _ => viewSl l fun es rows deps => .chk (Nat.beq es.length tes.length) (.chk (decide (0 ≤ ix.int ∧ ix.int < rows.length)) (put dst (.rp deps es (rows.getD ix.int.toNat [])))))
      | _, _, _, _ => .fail
  | .index t x i => tyOf Γ t fun ti => rd x fun x => rd i fun i => scal x fun sx d => scal i fun si ix => match si, sx, ti.kind with
      | .int _, .str, .sc .str => .chk (decide (0 ≤ ix.int ∧ ix.int < d.str.size)) (putSc dst (.int .u8) (.i (d.str.data.toList.getD ix.int.toNat 0).toNat))
      | _, _, _ => .fail
  | .extract x i => rd x fun e => match e with
      | .tup es => ofOpt es[i]? fun e => put dst e
      | _ => .fail
  | .makeFunc (.func g) first caps => cond (first.isEmpty) (rdAll caps.toList fun es => .chk (es.all flatEnt) (put dst (.fn g es))) .fail
  | .call c => match c.callee with
      | .value g => rd g fun g => rdAll c.args.toList fun es => match g with
          | .fn g caps => callStep Γ g dst (es ++ caps)
          | _ => .fail
      | .builtin .len => ofOpt c.argTypes[0]? fun t => tyOf Γ t fun ti => rdAll c.args.toList fun es => match es with
          | [.one l] => (match l.st, l.lt with
              | .sc, .sc .str => .chk (isStrK ti.kind) (putSc dst i64 (.i l.d.str.size))
              | _, _ => .chk (isSliceK ti.kind) (viewSl l fun _ rows _ => .lim (decide (rows.length ≤ maxCells)) (putSc dst i64 (.i rows.length))))
          | _ => .fail
      | .builtin .min => rdAll c.args.toList fun es => ofOpt (minmax minI es) fun (k, v) => putSc dst (.int k) (.i v)
      | .builtin .max => rdAll c.args.toList fun es => ofOpt (minmax maxI es) fun (k, v) => putSc dst (.int k) (.i v)
      | .builtin .append => wd fun d0 => rdAll c.args.toList fun es => match es, c.argTypes.toList with
          | [s, x], [t, tx] => tyOf Γ t fun ti => tyOf Γ tx fun tk => match ti.kind, ti.lts with
              | .slice _, [.sl lts] => .chk (isSliceK tk.kind || isStrK tk.kind) (appendStep d0 lts s x)
              | _, _ => .fail
          | _, _ => .fail
      | _ => .fail
  | _ => .fail

/-! liveness: bit masks of slots -/
def bit (t : Nat) : Nat := 1 <<< t
def useOp (m : Nat) : Operand → Nat
  | .tmp t => m ||| bit t
  | _ => m
def liveOps (ops : Array Oper) : List Oper → Nat → Nat
  | [], m => m
  | o :: os, m =>
    let m := liveOps ops os m
    let m := match o.dst with
      | some d => m ^^^ (m &&& bit d)
      | none => m
    let m := o.op.operands.toList.foldl useOp m
    match o.guard with
    | some (i, _) => (match (ops[i]?).bind (·.dst) with | some d => m ||| bit d | none => m)
    | none => m
def exMask (ex : List (Nat × Nat)) (id : Nat) : Nat := match ex.find? (fun p => Nat.beq p.1 id) with | some p => p.2 | none => 0
def lin (ret : Nat) : List (Nat × Nat) → Code → Nat → Nat
  | _, .region _ ops _, m => liveOps ops ops.toList m
  | ex, .seq a b, m => lin ret ex a (lin ret ex b m)
  | ex, .cond c a b, m => useOp (lin ret ex a m ||| lin ret ex b m) c
  | ex, .block id b, m => lin ret ((id, m) :: ex) b m
  | ex, .loop b, _ => lin ret ex b (lin ret ex b 0)
  | ex, .exit id, _ => exMask ex id
  | _, .ret, _ => ret
  | _, _, m => m

/-! what is kept at a loop's head and at an exit -/
structure Pack where
  es : List (Nat × Ent)
  ks : List (Key × Ch)
  deriving Inhabited
inductive Ctl where
  | normal | exit (id : Nat) | ret
  deriving Inhabited

def depsLive (σ : S) (ds : List Dep) : Bool := ds.all fun d => Nat.beq (σ.k d.1).cv d.2
def zeroDeps (ds : List Dep) : List Dep := ds.map fun d => (d.1, 0)
def normLeaf (σ : S) (l : Leaf) : Leaf :=
  match l.st with
  | .sn ds => cond (depsLive σ ds) { l with st := .sn (zeroDeps ds) } { l with st := .dead, d := .l [] }
  | .al k n => cond (Nat.beq (σ.k k).idv n) { l with st := .al k 0 } { l with st := .dead, d := .l [] }
  | _ => l
def normEnt (σ : S) : Nat → Ent → Ent
  | _, .one l => .one (normLeaf σ l)
  | _, .agg ls => .agg (ls.map (normLeaf σ))
  | n + 1, .tup es => .tup (es.map (normEnt σ n))
  | _, .ptr k n i off => cond (Nat.beq (σ.k k).idv n) (.ptr k 0 i off) .junk
  | _, .rp ds lts row => cond (depsLive σ ds) (.rp (zeroDeps ds) lts row) .junk
  | n + 1, .fn f caps => .fn f (caps.map (normEnt σ n))
  | _, .und => .und
  | _, _ => .junk
def leafKeys (l : Leaf) : List Key := match l.st with
  | .sn ds => ds.map (·.1)
  | .al k _ => [k]
  | _ => []
def entKeys : Nat → Ent → List Key
  | _, .one l => leafKeys l
  | _, .agg ls => ls.flatMap leafKeys
  | n + 1, .tup es => es.flatMap (entKeys n)
  | _, .ptr k _ _ _ => [k]
  | _, .rp ds _ _ => ds.map (·.1)
  | n + 1, .fn _ caps => caps.flatMap (entKeys n)
  | _, _ => []
def addKeys (ks new : List Key) : List Key := new.foldl (fun ks k => cond (ks.any (keyEq k)) ks (ks ++ [k])) ks
def chKeys : Ch → List Key
  | .box ls => ls.flatMap leafKeys
  | _ => []
/-- names at a loop's head: parameters' chunks keep theirs; the others are numbered -/
def numKey (k : Key) : Nat → List Key → Key
  | _, [] => k
  | i, u :: us => cond (keyEq k u) [1000000, i] (numKey k (i + 1) us)
def parB (np : Nat) : Key → Bool
  | i :: _ => Nat.blt i np
  | [] => false
def renKey (np : Nat) (ks : List Key) (k : Key) : Key := cond (parB np k) k (numKey k 0 ks)
def inKs (ks : List Key) (k : Key) : Bool := ks.any (keyEq k)
def renDeps (np : Nat) (ks : List Key) (ds : List Dep) : List Dep := ds.map fun d => (renKey np ks d.1, d.2)
def renLeaf (np : Nat) (ks : List Key) (l : Leaf) : Leaf :=
  match l.st with
  | .sn ds => cond (ds.all fun d => inKs ks d.1) { l with st := .sn (renDeps np ks ds) } { l with st := .dead, d := .l [] }
  | .al k n => cond (inKs ks k) { l with st := .al (renKey np ks k) n } { l with st := .dead, d := .l [] }
  | _ => l
def renEnt (np : Nat) (ks : List Key) : Nat → Ent → Ent
  | _, .one l => .one (renLeaf np ks l)
  | _, .agg ls => .agg (ls.map (renLeaf np ks))
  | n + 1, .tup es => .tup (es.map (renEnt np ks n))
  | _, .ptr k n i off => cond (inKs ks k) (.ptr (renKey np ks k) n i off) .junk
  | _, .rp ds lts row => cond (ds.all fun d => inKs ks d.1) (.rp (renDeps np ks ds) lts row) .junk
  | n + 1, .fn f caps => .fn f (caps.map (renEnt np ks n))
  | _, .und => .und
  | _, _ => .junk
def normCh (σ : S) : Ch → Ch
  | .box ls => .box (ls.map (normLeaf σ))
  | c => c
def renCh (np : Nat) (ks : List Key) : Ch → Ch
  | .box ls => .box (ls.map (renLeaf np ks))
  | c => c
def bitsOf (n m : Nat) : List Nat := (List.range n).filter fun t => Nat.testBit m t
/-- 'np': how many parameters, 'n': how many slots, 'm': which are kept -/
def packS (np n m : Nat) (σ : S) : Pack :=
  let es := (bitsOf n m).map fun t => (t, normEnt σ 3 (σ.s t))
  let ks := addKeys [] (es.flatMap fun e => entKeys 3 e.2)
  let ks2 := addKeys ks (ks.flatMap fun k => chKeys (normCh σ (σ.k k).ch))
  ⟨es.map fun e => (e.1, renEnt np ks2 3 e.2), ks2.map fun k => (renKey np ks2 k, renCh np ks2 (normCh σ (σ.k k).ch))⟩
def findEnt (t : Nat) : List (Nat × Ent) → Ent
  | [] => .junk
  | (u, e) :: r => cond (Nat.beq t u) e (findEnt t r)
def findCh (k : Key) : List (Key × Ch) → KE
  | [] => ⟨.gone, 0, 0⟩
  | (u, c) :: r => cond (keyEq k u) ⟨c, 0, 0⟩ (findCh k r)
def unpackS (p : Pack) : S := ⟨fun t => findEnt t p.es, fun k => findCh k p.ks⟩

/-! regions -/
def litB (b : Bool) : Ent := .one ⟨.sc, .sc .bool, .b b⟩
variable (cf : FuncId → List Arg → R3 Ret)
def indepTr (a b : Tr) : Bool :=
  !(a.ws.any fun t => b.ws.any (Nat.beq t) || b.rs.any (Nat.beq t)) && !(b.ws.any fun t => a.rs.any (Nat.beq t)) &&
  !(a.wk.any fun t => b.wk.any (keyEq t) || b.rk.any (keyEq t)) && !(b.wk.any fun t => a.rk.any (keyEq t))
def befMask (acc : List Nat) (o : Oper) : Nat := o.after.toList.foldl (fun s e => cond (Region.binds .any e) (s ||| 2 ^ e.on ||| acc.getD e.on 0) s) 0
def befGo : List Oper → List Nat → List Nat
  | [], acc => acc
  | o :: os, acc => befGo os (acc ++ [befMask acc o])
def afterOk : Nat → List Oper → Bool
  | _, [] => true
  | j, o :: os => (o.after.toList.all fun e => !Region.binds .any e || Nat.blt e.on j) && afterOk (j + 1) os
/-- each run and those behind it that need not be behind it leave each other alone -/
def drawRow (bf : List Nat) (i : Nat) (ti : Tr) : Nat → List Tr → Bool
  | _, [] => true
  | j, tj :: ts => (Nat.testBit (bf.getD j 0) i || indepTr ti tj) && drawRow bf i ti (j + 1) ts
def drawAll (bf : List Nat) : Nat → List Tr → Bool
  | _, [] => true
  | i, ti :: ts => drawRow bf i ti (i + 1) ts && drawAll bf (i + 1) ts
def drawOk (ops : Array Oper) (trs : List Tr) : Bool := afterOk 0 ops.toList && drawAll (befGo ops.toList []) 0 trs
def dstOk (np nt : Nat) (o : Oper) : Bool := match o.dst with | some d => Nat.blt d nt | none => true
def lookAsm (g : Nat) : List (Nat × Bool) → Option Bool
  | [] => none
  | (u, b) :: r => cond (Nat.beq g u) (some b) (lookAsm g r)
def dropAsm (ws : List Nat) : List (Nat × Bool) → List (Nat × Bool)
  | [] => []
  | (u, b) :: r => cond (ws.any (Nat.beq u)) (dropAsm ws r) ((u, b) :: dropAsm ws r)
/-- a choice whose condition is known -/
def opStepA (f : FuncId) (asm : List (Nat × Bool)) (o : Oper) : Prog :=
  match o.op with
  | .pick (.tmp c) a b => (match lookAsm c asm with
    | some v => .getS c fun _ => rd a fun a => rd b fun b => cond v (scal a fun s x => putSc o.dst s x) (scal b fun s x => putSc o.dst s x)
    | none => opStep Γ f o)
  | _ => opStep Γ f o
/-- 'asm': what is known of conditions that guard -/
def runOps {α : Type} (f np nt : Nat) (ops : Array Oper) : List Oper → S → List Tr → List (Nat × Bool) → (S → List Tr → List (Nat × Bool) → R3 α) → R3 α
  | [], σ, trs, asm, K => K σ trs.reverse asm
  | o :: os, σ, trs, asm, K =>
    cond (dstOk np nt o) (
      let step (tr0 : Tr) (asm : List (Nat × Bool)) : R3 α := (opStepA Γ f asm o).run cf σ tr0 fun σ tr => runOps f np nt ops os σ (tr :: trs) (dropAsm tr.ws asm) K
      let skip (g : Nat) (asm : List (Nat × Bool)) : R3 α := (put o.dst .und).run cf σ { rs := [g] } fun σ tr => runOps f np nt ops os σ (tr :: trs) (dropAsm tr.ws asm) K
      match o.guard with
      | none => step {} asm
      | some (i, want) =>
        match (ops[i]?).bind (·.dst) with
        | none => .bad
        | some g =>
          match lookAsm g asm with
          | some b => cond (b == want) (step { rs := [g] } asm) (skip g asm)
          | none =>
            match σ.s g with
            | .und => skip g asm
            | .one ⟨.sc, .sc .bool, d⟩ => cond (d.bool == want) (step { rs := [g] } ((g, want) :: asm)) (skip g ((g, !want) :: asm))
            | _ => .bad) .bad
def asmS (σ : S) : List (Nat × Bool) → S
  | [] => σ
  | (g, b) :: r => (asmS σ r).setS g (litB b)

/-! code -/
structure Fi where
  f : FuncId
  np : Nat
  nt : Nat
  ret : Nat    -- what is live behind the return
def execC {α : Type} (lf : List (Nat × Nat) → Code → Pack → R3 (Ctl × Pack)) (fi : Fi) : List (Nat × Nat) → Nat → Code → S → (Ctl → S → R3 α) → R3 α
  | _, _, .skip, σ, K => K .normal σ
  | _, _, .region _ ops dr, σ, K => runOps Γ cf fi.f fi.np fi.nt ops ops.toList σ [] [] fun σ trs asm => cond (!dr || drawOk ops trs) (K .normal (asmS σ asm)) .bad
  | ex, af, .seq a b, σ, K => execC lf fi ex (lin fi.ret ex b af) a σ fun c σ => match c with
      | .normal => execC lf fi ex af b σ K
      | c => K c σ
  | ex, af, .cond c a b, σ, K =>
    match c with
    | .tmp t => (match σ.s t with
      | .one ⟨.sc, .sc .bool, d⟩ => cond d.bool (execC lf fi ex af a σ K) (execC lf fi ex af b σ K)
      | _ => .bad)
    | .const (.bool true) => execC lf fi ex af a σ K
    | .const (.bool false) => execC lf fi ex af b σ K
    | _ => .bad
  | ex, af, .block id b, σ, K => execC lf fi ((id, af) :: ex) af b σ fun c σ => match c with
      | .exit id' => cond (Nat.beq id' id) (K .normal σ) (K (.exit id') σ)
      | c => K c σ
  | ex, _, .loop b, σ, K => (lf ex b (packS fi.np fi.nt (lin fi.ret ex b (lin fi.ret ex b 0)) σ)).bind fun cp => K cp.1 (unpackS cp.2)
  | _, _, .exit id, σ, K => K (.exit id) σ
  | _, _, .ret, σ, K => K .ret σ
  | _, _, _, _, _ => .bad
def loopE (fi : Fi) : Nat → List (Nat × Nat) → Code → Pack → R3 (Ctl × Pack)
  | 0, _, _, _ => .bad
  | n + 1, ex, b, p =>
    let m := lin fi.ret ex b (lin fi.ret ex b 0)
    execC Γ cf (loopE fi n) fi ex m b (unpackS p) fun c σ => match c with
      | .normal => loopE fi n ex b (packS fi.np fi.nt m σ)
      | .exit id => .ok (.exit id, packS fi.np fi.nt (exMask ex id) σ)
      | .ret => .ok (.ret, packS fi.np fi.nt fi.ret σ)

/-! functions -/
def leafIn (i j : Nat) : AL → Leaf
  | .sc s d => ⟨.sc, .sc s, d⟩
  | .fz es rows => ⟨.sn [], .sl es, .l rows⟩
  | .own es _ _ => ⟨.al [i, j] 0, .sl es, .l []⟩
  | .nl es => ⟨.nl, .sl es, .l []⟩
def leavesIn (i : Nat) : Nat → List AL → List Leaf
  | _, [] => []
  | j, a :: as => leafIn i j a :: leavesIn i (j + 1) as
def capIn : Arg → Ent
  | .rpt lts row => .rp [] lts row
  | _ => .junk
def entIn (i : Nat) : Arg → Ent
  | .one a => .one (leafIn i 0 a)
  | .agg as => .agg (leavesIn i 0 as)
  | .rpt lts row => .rp [] lts row
  | .bx _ => .ptr [i, bxJ] 0 0 0
  | .fn f caps => .fn f (caps.map capIn)
def alChs (i : Nat) : Nat → List AL → List (Key × Ch)
  | _, [] => []
  | j, a :: as => match a with
    | .own es ms rows => ([i, j], .row es ms rows) :: alChs i (j + 1) as
    | _ => alChs i (j + 1) as
def chsIn (i : Nat) : Arg → List (Key × Ch)
  | .one a => alChs i 0 [a]
  | .agg as => alChs i 0 as
  | .bx as => ([i, bxJ], .box (leavesIn i 0 as)) :: alChs i 0 as
  | _ => []
def entsIn : Nat → List Arg → List (Nat × Ent)
  | _, [] => []
  | i, a :: as => (i, entIn i a) :: entsIn (i + 1) as
def chsAll : Nat → List Arg → List (Key × Ch)
  | _, [] => []
  | i, a :: as => chsIn i a ++ chsAll (i + 1) as
def startS (args : List Arg) : Pack := ⟨entsIn 0 args, chsAll 0 args⟩

/-- a leaf that goes out; 'np': how many parameters -/
def leafOut (σ : S) (np : Nat) (l : Leaf) : Option RL :=
  match l.lt, l.st with
  | .sc s, .sc => some (.sc s l.d)
  | .sl es, .nl => some (.nl es)
  | .sl es, .sn ds => match ds with | [] => some (.fz es l.d.rows) | _ => none
  | .sl es0, .al k n =>
    let ke := σ.k k
    cond (Nat.beq ke.idv n) (match ke.ch with
      | .fz es rows => cond (LT.beqs es0 es) (some (.fz es rows)) none
      | .row es ms rows => cond (LT.beqs es0 es) (match k with
          | [i, j] => cond (Nat.blt i np) (some (.par i j)) (some (.own k es ms rows))
          | _ => cond (Nat.blt (k.headD 0) np) none (some (.own k es ms rows))) none
      | _ => none) none
  | _, _ => none
def leavesOut (σ : S) (np : Nat) : List Leaf → Option (List RL)
  | [] => some []
  | l :: ls => match leafOut σ np l, leavesOut σ np ls with
    | some r, some rs => some (r :: rs)
    | _, _ => none
def entOut (σ : S) (np : Nat) : Ent → Option RE
  | .one l => (leafOut σ np l).map .one
  | .agg ls => (leavesOut σ np ls).map .agg
  | .ptr k n _ off => cond (Nat.beq (σ.k k).idv n && Nat.beq off 0 && !Nat.blt (k.headD 0) np) (match (σ.k k).ch with
    | .box ls => (leavesOut σ np ls).map (.bx k)
    | _ => none) none
  | _ => none
def entsOut (σ : S) (np : Nat) : List Ent → Option (List RE)
  | [] => some []
  | l :: ls => match entOut σ np l, entsOut σ np ls with
    | some r, some rs => some (r :: rs)
    | _, _ => none
def ownsOut (σ : S) (i : Nat) : Nat → List AL → List (Option (List LT × List M × List (List T)))
  | _, [] => []
  | j, a :: as => (match a with
    | .own .. => (match (σ.k [i, j]).ch with | .row es ms rows => some (es, ms, rows) | _ => none)
    | _ => none) :: ownsOut σ i (j + 1) as
def ownOut (σ : S) (i : Nat) (a : Arg) : List (Option (List LT × List M × List (List T))) :=
  match a with | .one a => ownsOut σ i 0 [a] | .agg as => ownsOut σ i 0 as | .bx as => ownsOut σ i 0 as | _ => []
def ownsAll (σ : S) : Nat → List Arg → List (List (Option (List LT × List M × List (List T))))
  | _, [] => []
  | i, a :: as => ownOut σ i a :: ownsAll σ (i + 1) as
/-- what variables hold in the end -/
def bxsOut (σ : S) (np : Nat) : Nat → List Arg → Option (List (Option (List RL)))
  | _, [] => some []
  | i, .bx _ :: as => (match (σ.k [i, bxJ]).ch with
    | .box ls => (match leavesOut σ np ls, bxsOut σ np (i + 1) as with
      | some r, some rs => some (some r :: rs)
      | _, _ => none)
    | _ => none)
  | i, _ :: as => (bxsOut σ np (i + 1) as).map (none :: ·)
def keysOfL (rl : RL) : List Key := match rl with | .own k _ _ _ => [k] | _ => []
def keysOfB (o : Option (List RL)) : List Key := match o with | some ls => ls.flatMap keysOfL | none => []
/-- chunks that go out must not go out twice -/
def keysOfR : RE → List Key
  | .one (.own k _ _ _) => [k]
  | .agg ls => ls.filterMap fun l => match l with | .own k _ _ _ => some k | _ => none
  | .bx k ls => k :: ls.flatMap keysOfL
  | _ => []
def nodupKeys : List Key → Bool
  | [] => true
  | k :: ks => !(ks.any (keyEq k)) && nodupKeys ks
def resE (σ : S) : List ResultVar → Option (List Ent)
  | [] => some []
  | .tmp t :: rs => (resE σ rs).map fun es => σ.s t :: es
  | .cell a t :: rs => match Γ.ty t, σ.s a with
    | some ti, .ptr k m _ off => cond (Nat.beq (σ.k k).idv m) (match (σ.k k).ch with
        | .box ls => cond (Nat.ble (off + ti.lts.length) ls.length) ((resE σ rs).map fun es => mkEnt (isAggK ti.kind) ((ls.drop off).take ti.lts.length) :: es) none
        | _ => none) none
    | _, _ => none
def retOf (fn : Func) (args : List Arg) (σ : S) : R3 Ret :=
  let np := args.length
  match resE Γ σ fn.results.toList with
  | none => .bad
  | some es =>
    match entsOut σ np es with
    | some rs => (match bxsOut σ np 0 args with
      | some bs => cond (nodupKeys (rs.flatMap keysOfR ++ bs.flatMap keysOfB)) (.ok ⟨rs, ownsAll σ 0 args, bs⟩) .bad
      | none => .bad)
    | none => .bad
def retMask (fn : Func) : Nat := fn.results.foldl (fun m r => match r with | .tmp t => m ||| bit t | .cell t _ => m ||| bit t) 0
/-- parameters that own, or are variables, stay live to the end -/
def isOwn : AL → Bool | .own .. => true | _ => false
def parMask (args : List Arg) : Nat := args.zipIdx.foldl (fun m (a, i) => cond (match a with | .one l => isOwn l | .agg ls => ls.any isOwn | .bx _ => true | _ => false) (m ||| bit i) m) 0
def callE (prim : FuncId → Option (List Arg → R3 Ret)) : Nat → FuncId → List Arg → R3 Ret
  | 0, _, _ => .bad
  | n + 1, f, args =>
    match prim f with
    | some g => g args
    | none =>
      match Γ.fn f with
      | none => .bad
      | some fn =>
        match fn.body with
        | none => .bad
        | some c =>
          let fi : Fi := ⟨f, args.length, fn.ntmps, retMask fn ||| parMask args⟩
          cond (Nat.ble args.length 1000000 && Nat.ble args.length fn.ntmps) (execC Γ (callE prim n) (loopE Γ (callE prim n) fi n) fi [] fi.ret c (unpackS (startS args)) fun ctl σ => match ctl with
            | .exit _ => .bad
            | _ => retOf Γ fn args σ) .bad
end ops
end Go.E

namespace Go.E
open Go

abbrev Foot := Nat → Nat → Prop
def Foot.or (A B : Foot) : Foot := fun b o => A b o ∨ B b o
def Foot.apart (A B : Foot) : Prop := ∀ b o, A b o → B b o → False
def cellAt (w : World) (b o : Nat) : Option Value := w.cell? ⟨b, o, none⟩

def Single (v : Value) : Prop := (∀ cs, v ≠ .agg cs) ∧ (∀ vs, v ≠ .tuple vs)
theorem Single.cells {v : Value} (h : Single v) : v.cells = #[v] := by
  cases v <;> first | rfl | exact absurd rfl (h.1 _)

def ScR : ST → Value → T → Prop
  | .int k, c, d => ∃ n, c = .int k n ∧ d = .i n ∧ k.min ≤ n ∧ n ≤ k.max
  | .bool, c, d => ∃ b, c = .bool b ∧ d = .b b
  | .str, c, d => ∃ s, c = .string s ∧ d = .s s ∧ s.size < 9223372036854775808
  | .any, c, d => d = .x c ∧ Single c

mutual
def LeafR (w : World) (S : Foot) : LT → Value → T → Prop
  | .sc s, c, d => ScR s c d
  | .sl es, c, d => ∃ a cap rows, d = .l rows ∧ c = .slice a rows.length cap ∧ rows.length ≤ cap ∧ rows.length ≤ maxCells ∧
      (rows = [] ∨ ∃ b o, a = some ⟨b, o, none⟩ ∧ ∀ i (h : i < rows.length), RowR w S S es b (o + i * es.length) rows[i])
def RowR (w : World) (A S : Foot) : List LT → Nat → Nat → List T → Prop
  | [], _, _, row => row = []
  | e :: es, b, o, row => ∃ d rest v, row = d :: rest ∧ A b o ∧ cellAt w b o = some v ∧ LeafR w S e v d ∧ RowR w A S es b (o + 1) rest
end

theorem ScR.single {s : ST} {c : Value} {d : T} (h : ScR s c d) : Single c := by
  cases s
  · obtain ⟨n, rfl, -⟩ := h; exact ⟨fun _ h => (nomatch h), fun _ h => (nomatch h)⟩
  · obtain ⟨n, rfl, -⟩ := h; exact ⟨fun _ h => (nomatch h), fun _ h => (nomatch h)⟩
  · obtain ⟨n, rfl, -⟩ := h; exact ⟨fun _ h => (nomatch h), fun _ h => (nomatch h)⟩
  · exact h.2
theorem LeafR.single {w : World} {S : Foot} {lt : LT} {c : Value} {d : T} (h : LeafR w S lt c d) : Single c := by
  cases lt with
  | sc s => unfold LeafR at h; exact h.single
  | sl es => unfold LeafR at h; obtain ⟨a, cap, rows, -, rfl, -⟩ := h; exact ⟨fun _ h => (nomatch h), fun _ h => (nomatch h)⟩

mutual
theorem LeafR.mono {w w' : World} {S S' : Foot} (hs : ∀ b o, S b o → S' b o) (hw : ∀ b o, S b o → cellAt w' b o = cellAt w b o) :
    ∀ (lt : LT) {c : Value} {d : T}, LeafR w S lt c d → LeafR w' S' lt c d
  | .sc s, c, d, h => by unfold LeafR at *; exact h
  | .sl es, c, d, h => by
    unfold LeafR at h ⊢
    obtain ⟨a, cap, rows, h1, h2, h3, h4, h6⟩ := h
    refine ⟨a, cap, rows, h1, h2, h3, h4, ?_⟩
    rcases h6 with h6 | ⟨b, o, ha, h6⟩
    · exact .inl h6
    · exact .inr ⟨b, o, ha, fun i hi => RowR.mono hs hw hs hw es (h6 i hi)⟩
theorem RowR.mono {w w' : World} {A A' S S' : Foot} (ha : ∀ b o, A b o → A' b o) (hwa : ∀ b o, A b o → cellAt w' b o = cellAt w b o)
    (hs : ∀ b o, S b o → S' b o) (hw : ∀ b o, S b o → cellAt w' b o = cellAt w b o) :
    ∀ (es : List LT) {b o : Nat} {row : List T}, RowR w A S es b o row → RowR w' A' S' es b o row
  | [], b, o, row, h => by unfold RowR at *; exact h
  | e :: es, b, o, row, h => by
    unfold RowR at h ⊢
    obtain ⟨d, rest, v, h1, h2, h3, h4, h5⟩ := h
    exact ⟨d, rest, v, h1, ha _ _ h2, (hwa _ _ h2).trans h3, LeafR.mono hs hw e h4, RowR.mono ha hwa hs hw es h5⟩
end

theorem keyEq_iff : ∀ (a b : Key), keyEq a b = true ↔ a = b
  | [], [] => by simp [keyEq]
  | [], _ :: _ => by simp [keyEq]
  | _ :: _, [] => by simp [keyEq]
  | a :: as, b :: bs => by simp [keyEq, keyEq_iff as bs]
theorem keyEq_self (a : Key) : keyEq a a = true := (keyEq_iff a a).2 rfl

/-! rows that are owned; variables -/
def noO (ms : List M) : Prop := ∀ m ∈ ms, ∀ x, m ≠ .O x
def Block (w : World) (b : Nat) (c : Array Value) (el : TypeId) (fz : Nat × Nat) : Prop := w.heap[b]? = some (.cells c el fz)
def RowOwn (w : World) (I : Foot) (es : List LT) (rows : List (List T)) (h : Value) (F : Foot) : Prop :=
  es ≠ [] ∧ rows.length ≤ maxCells ∧
  ((h = .slice none 0 0 ∧ rows = [] ∧ ∀ b o, ¬ F b o) ∨
   ∃ b cap c el fz, h = .slice (some ⟨b, 0, none⟩) rows.length cap ∧ rows.length ≤ cap ∧ True ∧
     Block w b c el fz ∧ c.size = cap * es.length ∧ (∀ o, o ≤ c.size → ¬ (fz.1 ≤ o ∧ o < fz.2)) ∧
     (∀ b' o, F b' o ↔ b' = b ∧ o < c.size) ∧
     ∀ i (hi : i < rows.length), RowR w (fun _ _ => True) I es b (i * es.length) rows[i])

/-- the machine's side of names: what a name's header (or address) is, and the cells it owns -/
structure Gh where
  h : Key → Value
  F : Key → Foot
def Live : Ch → Prop
  | .box _ => True
  | .row _ _ _ => True
  | _ => False
def depFoot (κ : Key → KE) (g : Gh) (I : Foot) (ds : List Dep) : Foot := fun b o => I b o ∨ ∃ d ∈ ds, Live (κ d.1).ch ∧ g.F d.1 b o
def Cur (κ : Key → KE) (ds : List Dep) : Prop := ∀ d ∈ ds, (κ d.1).cv = d.2
def Old (κ : Key → KE) (ds : List Dep) : Prop := ∀ d ∈ ds, d.2 ≤ (κ d.1).cv
def isSl : LT → Prop | .sl _ => True | _ => False

def LfR (κ : Key → KE) (g : Gh) (w : World) (I : Foot) (l : Leaf) (v : Value) : Prop :=
  Single v ∧ match l.st with
  | .sc => ∃ s, l.lt = .sc s ∧ ScR s v l.d
  | .nl => isSl l.lt ∧ v = .slice none 0 0 ∧ l.d = .l []
  | .sn ds => isSl l.lt ∧ Old κ ds ∧ (Cur κ ds → LeafR w (depFoot κ g I ds) l.lt v l.d)
  | .og => isSl l.lt ∧ LeafR w I l.lt v l.d
  | .al k n => isSl l.lt ∧ n ≤ (κ k).idv ∧ ((κ k).idv = n → v = g.h k)
  | .dead => True
def LfsR (κ : Key → KE) (g : Gh) (w : World) (I : Foot) : List Leaf → List Value → Prop
  | [], [] => True
  | l :: ls, v :: vs => LfR κ g w I l v ∧ LfsR κ g w I ls vs
  | _, _ => False
/-- the address of element i, leaf off, behind a header or an address -/
def addrIn (esz : Nat) (h : Value) (i off : Nat) : Option (Nat × Nat) :=
  match h with
  | .pointer (some ⟨b, o, none⟩) => some (b, o + off)
  | .slice (some ⟨b, o, none⟩) _ _ => some (b, o + i * esz + off)
  | _ => none
def chEsz : Ch → Nat
  | .row es _ _ => es.length
  | .fz es _ => es.length
  | _ => 0
def Ent0R (κ : Key → KE) (g : Gh) (w : World) (I : Foot) : Ent → Value → Prop
  | .one l, v => LfR κ g w I l v
  | .agg ls, v => ∃ cs, v = .agg cs ∧ LfsR κ g w I ls cs.toList
  | .ptr k n i off, v => Single v ∧ n ≤ (κ k).idv ∧ ((κ k).idv = n → ∃ b o, v = .pointer (some ⟨b, o, none⟩) ∧ addrIn (chEsz (κ k).ch) (g.h k) i off = some (b, o))
  | .rp ds lts row, v => Single v ∧ Old κ ds ∧ (Cur κ ds → ∃ b o, v = .pointer (some ⟨b, o, none⟩) ∧ RowR w (depFoot κ g I ds) (depFoot κ g I ds) lts b o row)
  | .und, v => v = undef
  | .junk, _ => True
  | _, _ => False
def Ents0R (κ : Key → KE) (g : Gh) (w : World) (I : Foot) : List Ent → List Value → Prop
  | [], [] => True
  | l :: ls, v :: vs => Ent0R κ g w I l v ∧ Ents0R κ g w I ls vs
  | _, _ => False
def EntR (κ : Key → KE) (g : Gh) (w : World) (I : Foot) : Ent → Value → Prop
  | .tup es, v => ∃ vs, v = .tuple vs ∧ Ents0R κ g w I es vs.toList
  | .fn f caps, v => ∃ vs, v = .func (.func f) #[] vs ∧ Ents0R κ g w I caps vs.toList
  | e, v => Ent0R κ g w I e v
def BoxOwn (κ : Key → KE) (g : Gh) (w : World) (I : Foot) (ls : List Leaf) (h : Value) (F : Foot) : Prop :=
  ∃ b o c el fz, h = .pointer (some ⟨b, o, none⟩) ∧ Block w b c el fz ∧ o + ls.length ≤ c.size ∧
    (∀ j, j < ls.length → ¬ (fz.1 ≤ o + j ∧ o + j < fz.2)) ∧ (∀ b' o', F b' o' ↔ b' = b ∧ o ≤ o' ∧ o' < o + ls.length) ∧
    LfsR κ g w I ls ((c.toList.drop o).take ls.length)
def ChR (κ : Key → KE) (g : Gh) (w : World) (I : Foot) (k : Key) : Ch → Prop
  | .box ls => BoxOwn κ g w I ls (g.h k) (g.F k)
  | .row es ms rows => RowOwn w I es rows (g.h k) (g.F k) ∧ noO ms
  | .fz es rows => LeafR w I (.sl es) (g.h k) (.l rows)
  | .gone => True
def isPar (np : Nat) : Key → Prop
  | i :: _ => i < np
  | [] => False
/-- what is fixed while a function runs: how many slots and parameters; the parameters' names and what they own; cells that the one who calls keeps ('A'; of them 'B' is read alone) -/
structure Fr where
  nt : Nat
  np : Nat
  big : np ≤ 1000000
  H : Key → Value
  FF : Key → Foot
  A : Foot
  B : Foot
def Im (n : Fr) (I : Foot) : Foot := fun b o => I b o ∨ n.A b o
structure RX (n : Fr) (κ : Key → KE) (g : Gh) (I : Foot) (w : World) : Prop where
  par : ∀ k, isPar n.np k → Live (κ k).ch → g.h k = n.H k ∧ g.F k = n.FF k
  frm : ∀ k, Live (κ k).ch → Foot.apart (g.F k) n.A
  awf : ∀ b o, n.A b o → ∃ v, cellAt w b o = some v
  ia : ∀ b o, I b o → n.A b o → n.B b o
structure R (n : Fr) (σ : S) (g : Gh) (I : Foot) (a : Act) (w : World) : Prop where
  size : a.tmps.size = n.nt
  nd : a.defers = []
  slots : ∀ t, EntR σ.k g w I (σ.s t) (a.tmps.getD t undef)
  chs : ∀ k, ChR σ.k g w I k (σ.k k).ch
  sep : ∀ k k', Live (σ.k k).ch → Live (σ.k k').ch → k ≠ k' → Foot.apart (g.F k) (g.F k')
  imm : ∀ k, Live (σ.k k).ch → Foot.apart (g.F k) I
  iwf : ∀ b o, I b o → ∃ v, cellAt w b o = some v
  x : RX n σ.k g I w

/-- what a step leaves as it was -/
def KeepObj (I : Foot) (b : Nat) (x y : Obj) : Prop :=
  match x with
  | .cells c el fz => ∃ c', y = .cells c' el fz ∧ c'.size = c.size ∧ ∀ o, I b o → c'[o]? = c[o]?
  | _ => y = x
structure Keeps (I : Foot) (w w' : World) : Prop where
  size : w.heap.size ≤ w'.heap.size
  obj : ∀ b x, w.heap[b]? = some x → ∃ y, w'.heap[b]? = some y ∧ KeepObj I b x y
  os : w'.os = w.os
  output : w'.output = w.output
  tape : w'.tape = w.tape

theorem KeepObj.refl (I : Foot) (b : Nat) (x : Obj) : KeepObj I b x x := by
  cases x <;> first | exact ⟨_, rfl, rfl, fun _ _ => rfl⟩ | rfl
theorem Keeps.refl (I : Foot) (w : World) : Keeps I w w := ⟨Nat.le_refl _, fun _ _ h => ⟨_, h, .refl _ _ _⟩, rfl, rfl, rfl⟩
theorem KeepObj.trans {I J : Foot} {b : Nat} {x y z : Obj} (hij : ∀ o, I b o → J b o) (h : KeepObj I b x y) (h' : KeepObj J b y z) : KeepObj I b x z := by
  cases x <;> simp only [KeepObj] at h ⊢ <;> try (subst h; simpa [KeepObj] using h')
  obtain ⟨c', rfl, h1, h2⟩ := h
  simp only [KeepObj] at h'
  obtain ⟨c'', rfl, h3, h4⟩ := h'
  exact ⟨c'', rfl, h3.trans h1, fun o ho => (h4 o (hij o ho)).trans (h2 o ho)⟩
theorem Keeps.trans {I J : Foot} {w w' w'' : World} (hij : ∀ b o, I b o → J b o) (h : Keeps I w w') (h' : Keeps J w' w'') : Keeps I w w'' :=
  ⟨Nat.le_trans h.size h'.size, fun b x hx => by
    obtain ⟨y, hy, h1⟩ := h.obj b x hx
    obtain ⟨z, hz, h2⟩ := h'.obj b y hy
    exact ⟨z, hz, h1.trans (hij b) h2⟩, h'.os.trans h.os, h'.output.trans h.output, h'.tape.trans h.tape⟩
theorem Keeps.cell {I : Foot} {w w' : World} (h : Keeps I w w') {b o : Nat} (hi : I b o) (hv : ∃ v, cellAt w b o = some v) : cellAt w' b o = cellAt w b o := by
  obtain ⟨v, hv⟩ := hv
  unfold cellAt World.cell? at hv ⊢
  simp only at hv ⊢
  cases hx : w.heap[b]? with
  | none => simp [hx] at hv
  | some x =>
    obtain ⟨y, hy, hk⟩ := h.obj b x hx
    cases x with
    | cells c el fz =>
      obtain ⟨c', rfl, -, h2⟩ := hk
      simp [hy, h2 o hi]
    | _ => simp [hx] at hv

theorem RX.step {n : Fr} {κ κ' : Key → KE} {g g' : Gh} {I I' : Foot} {w w' : World} (h : RX n κ g I w) (hk : Keeps n.A w w')
    (hl : ∀ k, Live (κ' k).ch → (Live (κ k).ch ∧ g'.h k = g.h k ∧ g'.F k = g.F k) ∨ (¬ isPar n.np k ∧ Foot.apart (g'.F k) n.A)) (hi : ∀ b o, I' b o → I b o ∨ ¬ n.A b o) : RX n κ' g' I' w' where
  par k hp hv := by
    rcases hl k hv with ⟨h1, h2, h3⟩ | ⟨h1, -⟩
    · rw [h2, h3]; exact h.par k hp h1
    · exact absurd hp h1
  frm k hv := by
    rcases hl k hv with ⟨h1, h2, h3⟩ | ⟨-, h1⟩
    · rw [h3]; exact h.frm k h1
    · exact h1
  awf b o ha := by
    obtain ⟨v, hv⟩ := h.awf b o ha
    exact ⟨v, (hk.cell ha ⟨v, hv⟩).trans hv⟩
  ia b o h1 h2 := (hi b o h1).elim (fun h3 => h.ia b o h3 h2) fun h3 => absurd h2 h3
/-! how things go on -/
structure Evo (κ : Key → KE) (g : Gh) (w : World) (I : Foot) (κ' : Key → KE) (g' : Gh) (w' : World) (I' : Foot) : Prop where
  cv : ∀ k, (κ k).cv ≤ (κ' k).cv
  idv : ∀ k, (κ k).idv ≤ (κ' k).idv
  foot : ∀ k, (κ' k).cv = (κ k).cv → Live (κ k).ch → ∀ b o, g.F k b o → ((Live (κ' k).ch ∧ g'.F k b o) ∨ I' b o) ∧ cellAt w' b o = cellAt w b o
  head : ∀ k, (κ' k).idv = (κ k).idv → g'.h k = g.h k ∧ chEsz (κ' k).ch = chEsz (κ k).ch
  imm : ∀ b o, I b o → I' b o ∧ cellAt w' b o = cellAt w b o

section evo
variable {κ κ' : Key → KE} {g g' : Gh} {w w' : World} {I I' : Foot}
theorem Evo.cur (e : Evo κ g w I κ' g' w' I') {ds : List Dep} (ho : Old κ ds) (hc : Cur κ' ds) : Cur κ ds := fun d hd => by
  have h1 := e.cv d.1; have h2 := ho d hd; have h3 := hc d hd; omega
theorem Evo.old (e : Evo κ g w I κ' g' w' I') {ds : List Dep} (ho : Old κ ds) : Old κ' ds := fun d hd => Nat.le_trans (ho d hd) (e.cv d.1)
theorem Evo.dep (e : Evo κ g w I κ' g' w' I') {ds : List Dep} (ho : Old κ ds) (hc : Cur κ' ds) :
    ∀ b o, depFoot κ g I ds b o → depFoot κ' g' I' ds b o ∧ cellAt w' b o = cellAt w b o := by
  intro b o h
  rcases h with h | ⟨d, hd, hl, hf⟩
  · exact ⟨.inl (e.imm b o h).1, (e.imm b o h).2⟩
  · have h1 := e.cur ho hc d hd
    obtain ⟨h2, h3⟩ := e.foot d.1 ((hc d hd).trans h1.symm) hl b o hf
    exact ⟨h2.elim (fun h => .inr ⟨d, hd, h.1, h.2⟩) .inl, h3⟩
theorem Evo.leaf (e : Evo κ g w I κ' g' w' I') {lt : LT} {v : Value} {d : T} (h : LeafR w I lt v d) : LeafR w' I' lt v d :=
  LeafR.mono (fun b o h => (e.imm b o h).1) (fun b o h => (e.imm b o h).2) lt h
theorem Evo.lf (e : Evo κ g w I κ' g' w' I') {l : Leaf} {v : Value} (h : LfR κ g w I l v) : LfR κ' g' w' I' l v := by
  obtain ⟨hs, h⟩ := h
  refine ⟨hs, ?_⟩
  cases hst : l.st with
  | sc => simpa [hst] using h
  | nl => simpa [hst] using h
  | sn ds =>
    simp only [hst] at h ⊢
    obtain ⟨h1, h2, h3⟩ := h
    exact ⟨h1, e.old h2, fun hc => LeafR.mono (fun b o hb => (e.dep h2 hc b o hb).1) (fun b o hb => (e.dep h2 hc b o hb).2) _ (h3 (e.cur h2 hc))⟩
  | al k n =>
    simp only [hst] at h ⊢
    obtain ⟨h1, h2, h3⟩ := h
    have := e.idv k
    refine ⟨h1, Nat.le_trans h2 this, fun hc => ?_⟩
    have h4 : (κ k).idv = n := by omega
    rw [(e.head k (hc.trans h4.symm)).1]; exact h3 h4
  | og => simp only [hst] at h ⊢; exact ⟨h.1, e.leaf h.2⟩
  | dead => trivial
theorem Evo.lfs (e : Evo κ g w I κ' g' w' I') : ∀ {ls : List Leaf} {vs : List Value}, LfsR κ g w I ls vs → LfsR κ' g' w' I' ls vs
  | [], [], _ => trivial
  | _ :: _, _ :: _, h => ⟨e.lf h.1, e.lfs h.2⟩
  | [], _ :: _, h => h.elim
  | _ :: _, [], h => h.elim
theorem Evo.ent0 (e : Evo κ g w I κ' g' w' I') {x : Ent} {v : Value} (h : Ent0R κ g w I x v) : Ent0R κ' g' w' I' x v := by
  cases x with
  | one l => exact e.lf h
  | agg ls => obtain ⟨cs, h1, h2⟩ := h; exact ⟨cs, h1, e.lfs h2⟩
  | ptr k n i off =>
    obtain ⟨h0, h1, h2⟩ := h
    have := e.idv k
    refine ⟨h0, Nat.le_trans h1 this, fun hc => ?_⟩
    have h4 : (κ k).idv = n := by omega
    obtain ⟨h5, h6⟩ := e.head k (hc.trans h4.symm)
    rw [h5, h6]; exact h2 h4
  | rp ds lts row =>
    obtain ⟨h0, h1, h2⟩ := h
    refine ⟨h0, e.old h1, fun hc => ?_⟩
    obtain ⟨b, o, h3, h4⟩ := h2 (e.cur h1 hc)
    exact ⟨b, o, h3, RowR.mono (fun b o hb => (e.dep h1 hc b o hb).1) (fun b o hb => (e.dep h1 hc b o hb).2) (fun b o hb => (e.dep h1 hc b o hb).1) (fun b o hb => (e.dep h1 hc b o hb).2) _ h4⟩
  | und => exact h
  | junk => trivial
  | tup _ => exact h.elim
  | fn _ _ => exact h.elim
theorem Evo.ents0 (e : Evo κ g w I κ' g' w' I') : ∀ {ls : List Ent} {vs : List Value}, Ents0R κ g w I ls vs → Ents0R κ' g' w' I' ls vs
  | [], [], _ => trivial
  | _ :: _, _ :: _, h => ⟨e.ent0 h.1, e.ents0 h.2⟩
  | [], _ :: _, h => h.elim
  | _ :: _, [], h => h.elim
theorem Evo.ent (e : Evo κ g w I κ' g' w' I') {x : Ent} {v : Value} (h : EntR κ g w I x v) : EntR κ' g' w' I' x v := by
  cases x with
  | tup es => obtain ⟨vs, h1, h2⟩ := h; exact ⟨vs, h1, e.ents0 h2⟩
  | fn f es => obtain ⟨vs, h1, h2⟩ := h; exact ⟨vs, h1, e.ents0 h2⟩
  | one l => exact e.ent0 (x := .one l) h
  | agg l => exact e.ent0 (x := .agg l) h
  | ptr k n i off => exact e.ent0 (x := .ptr k n i off) h
  | rp ds lts row => exact e.ent0 (x := .rp ds lts row) h
  | und => exact h
  | junk => trivial
theorem Evo.refl : Evo κ g w I κ g w I :=
  ⟨fun _ => Nat.le_refl _, fun _ => Nat.le_refl _, fun _ _ hl _ _ hf => ⟨.inl ⟨hl, hf⟩, rfl⟩, fun _ _ => ⟨rfl, rfl⟩, fun _ _ h => ⟨h, rfl⟩⟩
theorem Evo.trans {κ'' : Key → KE} {g'' : Gh} {w'' : World} {I'' : Foot} (e : Evo κ g w I κ' g' w' I') (e' : Evo κ' g' w' I' κ'' g'' w'' I'') :
    Evo κ g w I κ'' g'' w'' I'' where
  cv k := Nat.le_trans (e.cv k) (e'.cv k)
  idv k := Nat.le_trans (e.idv k) (e'.idv k)
  foot k hc hl b o hf := by
    have h1 := e.cv k; have h2 := e'.cv k
    obtain ⟨h3, h4⟩ := e.foot k (by omega) hl b o hf
    rcases h3 with ⟨h5, h6⟩ | h5
    · obtain ⟨h7, h8⟩ := e'.foot k (by omega) h5 b o h6
      exact ⟨h7, h8.trans h4⟩
    · exact ⟨.inr (e'.imm b o h5).1, (e'.imm b o h5).2.trans h4⟩
  head k hc := by
    have h1 := e.idv k; have h2 := e'.idv k
    obtain ⟨h3, h4⟩ := e.head k (by omega)
    obtain ⟨h5, h6⟩ := e'.head k (by omega)
    exact ⟨h5.trans h3, h6.trans h4⟩
  imm b o h := ⟨(e'.imm b o (e.imm b o h).1).1, (e'.imm b o (e.imm b o h).1).2.trans (e.imm b o h).2⟩
end evo
end Go.E


namespace Go.E
open Go

/-- what must hold behind a local program -/
def Prog.wp (cf : FuncId → List Arg → R3 Ret) : Prog → S → Tr → (S → Tr → Prop) → Prop
  | .ret, σ, tr, Q => Q σ tr
  | .fail, _, _, _ => False
  | .out, _, _, _ => True
  | .chk c p, σ, tr, Q => c = true ∧ p.wp cf σ tr Q
  | .lim c p, σ, tr, Q => c = true → p.wp cf σ tr Q
  | .br c p q, σ, tr, Q => if c then p.wp cf σ tr Q else q.wp cf σ tr Q
  | .getS t k, σ, tr, Q => (k (σ.s t)).wp cf σ { tr with rs := t :: tr.rs } Q
  | .setS t e p, σ, tr, Q => p.wp cf (σ.setS t e) { tr with ws := t :: tr.ws } Q
  | .getK k c, σ, tr, Q => (c (σ.k k)).wp cf σ { tr with rk := k :: tr.rk } Q
  | .setK k e p, σ, tr, Q => p.wp cf (σ.setK k e) { tr with wk := k :: tr.wk } Q
  | .call f args k, σ, tr, Q => match cf f args with
    | .ok r => (k r).wp cf σ tr Q
    | .out => True
    | .bad => False

theorem Prog.wp_of_run {cf : FuncId → List Arg → R3 Ret} {α : Type} : ∀ (p : Prog) (σ : S) (tr : Tr) (K : S → Tr → R3 α),
    p.run cf σ tr K ≠ .bad → p.wp cf σ tr fun σ tr => K σ tr ≠ .bad
  | .ret, σ, tr, K, h => h
  | .fail, _, _, _, h => (h rfl).elim
  | .out, _, _, _, _ => trivial
  | .chk c p, σ, tr, K, h => by
    cases c
    · exact (h rfl).elim
    · exact ⟨rfl, Prog.wp_of_run p σ tr K h⟩
  | .lim c p, σ, tr, K, h => fun _ => Prog.wp_of_run p σ tr K h
  | .br c p q, σ, tr, K, h => by
    cases c
    · exact Prog.wp_of_run q σ tr K h
    · exact Prog.wp_of_run p σ tr K h
  | .getS t k, σ, tr, K, h => Prog.wp_of_run (k (σ.s t)) σ _ K h
  | .setS t e p, σ, tr, K, h => Prog.wp_of_run p _ _ K h
  | .getK k c, σ, tr, K, h => Prog.wp_of_run (c (σ.k k)) σ _ K h
  | .setK k e p, σ, tr, K, h => Prog.wp_of_run p _ _ K h
  | .call f args k, σ, tr, K, h => by
    simp only [Prog.run, R3.bind] at h
    simp only [Prog.wp]
    cases hc : cf f args with
    | ok r => simp only [hc] at h; exact Prog.wp_of_run (k r) σ tr K h
    | out => trivial
    | bad => simp [hc] at h
theorem Prog.wp_mono {cf : FuncId → List Arg → R3 Ret} {Q Q' : S → Tr → Prop} (hq : ∀ σ tr, Q σ tr → Q' σ tr) : ∀ (p : Prog) (σ : S) (tr : Tr),
    p.wp cf σ tr Q → p.wp cf σ tr Q'
  | .ret, σ, tr, h => hq _ _ h
  | .fail, _, _, h => h
  | .out, _, _, _ => trivial
  | .chk c p, σ, tr, h => ⟨h.1, Prog.wp_mono hq p σ tr h.2⟩
  | .lim c p, σ, tr, h => fun hc => Prog.wp_mono hq p σ tr (h hc)
  | .br c p q, σ, tr, h => by
    cases c
    · exact Prog.wp_mono hq q σ tr (by simpa [Prog.wp] using h)
    · exact Prog.wp_mono hq p σ tr (by simpa [Prog.wp] using h)
  | .getS t k, σ, tr, h => Prog.wp_mono hq (k (σ.s t)) σ _ h
  | .setS t e p, σ, tr, h => Prog.wp_mono hq p _ _ h
  | .getK k c, σ, tr, h => Prog.wp_mono hq (c (σ.k k)) σ _ h
  | .setK k e p, σ, tr, h => Prog.wp_mono hq p _ _ h
  | .call f args k, σ, tr, h => by
    simp only [Prog.wp] at h ⊢
    cases hc : cf f args with
    | ok r => simp only [hc] at h ⊢; exact Prog.wp_mono hq (k r) σ tr h
    | out => trivial
    | bad => simp [hc] at h

/-! what the table says of the program -/
def zeroV : LT → Value → Prop
  | .sc (.int k), v => v = .int k 0
  | .sc .bool, v => v = .bool false
  | .sc .str, v => v = .string .empty
  | .sc .any, v => Single v
  | .sl _, v => v = .slice none 0 0
def zeroVs : List LT → List Value → Prop
  | [], [] => True
  | l :: ls, v :: vs => zeroV l v ∧ zeroVs ls vs
  | _, _ => False
def KindOk (Γ : Ctx) (P : Program) (ti : TI) : TK → TypeDesc → Prop
  | .sc (.int k), d => d = .int k ∧ ti.lts = [.sc (.int k)]
  | .sc .bool, d => d = .bool ∧ ti.lts = [.sc .bool]
  | .sc .str, d => d = .string ∧ ti.lts = [.sc .str]
  | .sc .any, _ => False
  | .slice e, d => d = .slice e ∧ ∃ te, Γ.ty e = some te ∧ ti.lts = [.sl te.lts] ∧ te.lts ≠ []
  | .struct fs, d => ∃ fields, d = .struct fields ∧ fs = fields.toList.map (fun f => (f.offset, f.type)) ∧
      ∀ f ∈ fields.toList, ∃ i, P.info? f.type = some i ∧ i.size ≠ 0
  | .array n e, d => d = .array n e
  | .ptr e, d => d = .pointer e ∧ ti.lts = [.sc .any]
  | .other, d => (∀ fs, d ≠ .struct fs) ∧ (∀ n e, d ≠ .array n e) ∧ ti.lts = [.sc .any]
def FlatFs (P : Program) : Nat → List Field → List LT → Prop
  | _, [], [] => True
  | j, f :: fs, lt :: lts => f.name ≠ "_" ∧ f.offset = j ∧ (match lt with
      | .sc (.int k) => P.underlying f.type = some (.int k)
      | .sc .bool => P.underlying f.type = some .bool
      | .sc .str => P.underlying f.type = some .string
      | _ => False) ∧ FlatFs P (j + 1) fs lts
  | _, _, _ => False
def FlatOk (P : Program) (t : TypeId) (lts : List LT) : Prop :=
  ∃ fields, P.underlying t = some (.struct fields) ∧ P.stoodInHeld t = false ∧ P.eqGuardType P.depth t = false ∧ FlatFs P 0 fields.toList lts
structure TyOk (Γ : Ctx) (P : Program) (t : TypeId) (ti : TI) : Prop where
  und : ∃ d, P.underlying t = some d ∧ KindOk Γ P ti ti.kind d
  flat : ti.flat = true → FlatOk P t ti.lts
  info : ∃ i, P.info? t = some i ∧ i.size = ti.lts.length ∧ ti.bytes = i.bytes ∧ ti.lts.length ≤ i.bytes ∧ i.bytes ≤ 24 * ti.lts.length ∧ ∃ z, i.zero = some z ∧ zeroVs ti.lts z.cells.toList
structure CtxOk (Γ : Ctx) (P : Program) : Prop where
  ty : ∀ t ti, Γ.ty t = some ti → TyOk Γ P t ti
  fn : ∀ f fn, Γ.fn f = some fn → P.funcs[f]? = some fn
  enter : ∀ f fn, Γ.fn f = some fn → fn.body.isNone = false ∧ (fn.name == "runtime.NumGoroutine") = false
  mixed : P.follows .mixedOrders = true


theorem dst_ok {np nt : Nat} {o : Oper} {d : Nat} (hd : dstOk np nt o = true) (h : o.dst = some d) : d < nt ∧ (np ≤ 1000000 → ∀ r, ¬ isPar np ((d + 2000000) :: r)) := by
  unfold dstOk at hd
  rw [h] at hd
  have h2 : d < nt := by simpa [Nat.blt_eq] using hd
  exact ⟨h2, fun hb r hr => by simp only [isPar] at hr; omega⟩

/-! one operation -/
def Goal (P : Program) (o : Oper) (a : Act) (w : World) (K : Act → World → Prop) (Q : Exit → Act → World → Prop) : Prop :=
  o.wp P a w K Q ∨ (o.asks P a w ∧ LetsOut Q)
theorem goal_value {P : Program} {o : Oper} {a : Act} {w w' : World} {K : Act → World → Prop} {Q : Exit → Act → World → Prop} {v : Value}
    (h : (execOp a.eval o).run P w = .ok (.value v) w') (hk : K (a.put o.dst v) w') : Goal P o a w K Q := by
  refine .inl ?_
  unfold Oper.wp
  rw [h]
  exact hk
theorem goal_skip {P : Program} {o : Oper} {a : Act} {w w' : World} {K : Act → World → Prop} {Q : Exit → Act → World → Prop}
    (h : (execOp a.eval o).run P w = .ok .skip w') (hk : K (a.put o.dst undef) w') : Goal P o a w K Q := by
  refine .inl ?_
  unfold Oper.wp
  rw [h]
  exact hk

section run
variable {Γ : Ctx} {P : Program} {w : World} {t : TypeId} {ti : TI}
theorem run_underlying {d : TypeDesc} (h : P.underlying t = some d) : (underlying t).run P w = .ok d w := by
  simp [underlying, h, go_sem]
end run

section slots
variable {n : Fr} {σ : S} {g : Gh} {I : Foot} {a : Act} {w : World}
theorem getD_set (xs : Array Value) (i j : Nat) (v u : Value) (hi : i < xs.size) : (xs.setIfInBounds i v).getD j u = if j = i then v else xs.getD j u := by
  by_cases h : j = i
  · subst h; simp [hi]
  · simp [h, Array.getElem?_setIfInBounds_ne (Ne.symm h)]
/-- a slot gets a value; nothing else turns -/
theorem R.put (hR : R n σ g I a w) {d : Nat} (hd : d < n.nt) {e : Ent} {v : Value} (he : EntR σ.k g w I e v) :
    R n (σ.setS d e) g I (a.put (some d) v) w where
  size := by simp [Act.put, hR.size]
  nd := hR.nd
  slots t := by
    have h1 : (a.put (some d) v).tmps.getD t undef = if t = d then v else a.tmps.getD t undef := getD_set _ _ _ _ _ (by rw [hR.size]; exact hd)
    rw [h1]
    by_cases h : t = d
    · subst h
      simp only [S.setS, Nat.beq_refl, cond_true, if_true]
      exact he
    · have h2 : Nat.beq t d = false := by cases hb : Nat.beq t d; rfl; exact absurd (Nat.eq_of_beq_eq_true hb) h
      simp only [S.setS, h2, cond_false, if_neg h]
      exact hR.slots t
  chs := hR.chs
  sep := hR.sep
  imm := hR.imm
  iwf := hR.iwf
  x := hR.x
end slots
end Go.E

namespace Go.E
open Go

section
variable {Γ : Ctx} {P : Program} {cf : FuncId → List Arg → R3 Ret}
variable {n : Fr} {σ : S} {g : Gh} {I : Foot} {a : Act} {w : World}

/-- what the rest of a step may count on -/
def Post (P : Program) (n : Fr) (I : Foot) (w : World) (Q : S → Tr → Prop) (K : Act → World → Prop) : Prop :=
  ∀ σ' tr' g' I' a' w', Q σ' tr' → R n σ' g' I' a' w' → (∀ b o, I b o → I' b o) → Keeps (Im n I) w w' → K a' w'

/-! operands -/
theorem single_of {v : Value} (h : ∀ cs, v ≠ .agg cs) (h' : ∀ vs, v ≠ .tuple vs) : Single v := ⟨h, h'⟩
theorem litLeaf_ok {v : Value} {l : Leaf} (κ : Key → KE) (h : litLeaf v = some l) : LfR κ g w I l v := by
  unfold litLeaf at h
  split at h
  · cases h; exact ⟨⟨fun _ h => (nomatch h), fun _ h => (nomatch h)⟩, .bool, rfl, _, rfl, rfl⟩
  · split at h
    · rename_i hh; cases h; exact ⟨⟨fun _ h => (nomatch h), fun _ h => (nomatch h)⟩, .int _, rfl, _, rfl, rfl, hh⟩
    · cases h
  · split at h
    · rename_i hh; cases h; exact ⟨⟨fun _ h => (nomatch h), fun _ h => (nomatch h)⟩, .str, rfl, _, rfl, rfl, hh⟩
    · cases h
  · cases h; exact ⟨⟨fun _ h => (nomatch h), fun _ h => (nomatch h)⟩, trivial, rfl, rfl⟩
  · cases h
theorem litLeaves_ok (κ : Key → KE) : ∀ {vs : List Value} {ls : List Leaf}, vs.mapM litLeaf = some ls → LfsR κ g w I ls vs
  | [], ls, h => by simp at h; subst h; trivial
  | v :: vs, ls, h => by
    simp only [List.mapM_cons, Option.bind_eq_bind, Option.bind_eq_some_iff, Option.pure_def, Option.some.injEq] at h
    obtain ⟨l, h1, ls', h2, rfl⟩ := h
    exact ⟨litLeaf_ok κ h1, litLeaves_ok κ h2⟩
theorem rd_wp {x : Operand} {k : Ent → Prog} {tr : Tr} {Q : S → Tr → Prop} (hR : R n σ g I a w) (h : (rd x k).wp cf σ tr Q) :
    ∃ e tr', EntR σ.k g w I e (a.eval x) ∧ (k e).wp cf σ tr' Q := by
  unfold rd at h
  split at h
  · exact ⟨_, _, hR.slots _, h⟩
  · exact ⟨.junk, tr, trivial, h⟩
  · unfold ofOpt at h
    split at h
    · rename_i ls hl; exact ⟨.agg ls, tr, ⟨_, rfl, litLeaves_ok _ hl⟩, h⟩
    · exact h.elim
  · unfold ofOpt at h
    split at h
    · rename_i l hl; exact ⟨.one l, tr, litLeaf_ok _ hl, h⟩
    · exact h.elim
  · rename_i f; exact ⟨.fn f [], tr, ⟨#[], rfl, trivial⟩, h⟩
  · exact h.elim
theorem ofOpt_wp {α : Type} {o : Option α} {k : α → Prog} {tr : Tr} {Q : S → Tr → Prop} (h : (ofOpt o k).wp cf σ tr Q) :
    ∃ x, o = some x ∧ (k x).wp cf σ tr Q := by
  unfold ofOpt at h
  split at h
  · exact ⟨_, rfl, h⟩
  · exact h.elim
theorem scal_wp {e : Ent} {k : ST → T → Prog} {tr : Tr} {Q : S → Tr → Prop} {v : Value} (he : EntR σ.k g w I e v) (h : (scal e k).wp cf σ tr Q) :
    ∃ s d, e = .one ⟨.sc, .sc s, d⟩ ∧ ScR s v d ∧ (k s d).wp cf σ tr Q := by
  unfold scal at h
  split at h
  · obtain ⟨-, s', hs, hv⟩ := he
    cases hs
    exact ⟨_, _, rfl, hv, h⟩
  · exact h.elim
theorem one1_wp {e : Ent} {k : Leaf → Prog} {tr : Tr} {Q : S → Tr → Prop} {v : Value} (he : EntR σ.k g w I e v) (h : (one1 e k).wp cf σ tr Q) :
    ∃ l, e = .one l ∧ LfR σ.k g w I l v ∧ (k l).wp cf σ tr Q := by
  unfold one1 at h
  split at h
  · exact ⟨_, rfl, he, h⟩
  · exact h.elim

/-- the end of a step that yields a value and leaves the world -/
theorem end_put {o : Oper} {e : Ent} {v : Value} {tr : Tr} {Q : S → Tr → Prop} {K : Act → World → Prop} {Qm : Exit → Act → World → Prop}
    (hd : dstOk n.np n.nt o = true) (hR : R n σ g I a w) (hK : Post P n I w Q K)
    (hrun : (execOp a.eval o).run P w = .ok (.value v) w) (he : EntR σ.k g w I e v) (h : (put o.dst e).wp cf σ tr Q) : Goal P o a w K Qm := by
  refine goal_value hrun ?_
  unfold put at h
  cases hds : o.dst with
  | none =>
    simp only [hds] at h ⊢
    exact hK _ _ g I _ _ h hR (fun _ _ h => h) (Keeps.refl _ _)
  | some d =>
    simp only [hds] at h ⊢
    exact hK _ _ g I _ _ h (hR.put (dst_ok hd hds).1 he) (fun _ _ h => h) (Keeps.refl _ _)
theorem end_sc {o : Oper} {s : ST} {d : T} {v : Value} {tr : Tr} {Q : S → Tr → Prop} {K : Act → World → Prop} {Qm : Exit → Act → World → Prop}
    (hd : dstOk n.np n.nt o = true) (hR : R n σ g I a w) (hK : Post P n I w Q K)
    (hrun : (execOp a.eval o).run P w = .ok (.value v) w) (he : ScR s v d) (h : (putSc o.dst s d).wp cf σ tr Q) : Goal P o a w K Qm :=
  end_put hd hR hK hrun (e := .one ⟨.sc, .sc s, d⟩) ⟨he.single, s, rfl, he⟩ h

end
end Go.E

namespace Go.E
open Go

theorem wrap_range (k : IntKind) (x : Int) : k.min ≤ k.wrap x ∧ k.wrap x ≤ k.max := by
  have e8 : (2 : Int) ^ 8 = 256 := by decide
  have e7 : (2 : Int) ^ 7 = 128 := by decide
  have e16 : (2 : Int) ^ 16 = 65536 := by decide
  have e15 : (2 : Int) ^ 15 = 32768 := by decide
  have e32 : (2 : Int) ^ 32 = 4294967296 := by decide
  have e31 : (2 : Int) ^ 31 = 2147483648 := by decide
  have e64 : (2 : Int) ^ 64 = 18446744073709551616 := by decide
  have e63 : (2 : Int) ^ 63 = 9223372036854775808 := by decide
  cases k <;> simp only [IntKind.wrap, IntKind.min, IntKind.max, IntKind.bits, IntKind.signed, Bool.true_and, Bool.false_and, if_true, Bool.false_eq_true, if_false, Nat.reduceSub, e8, e7, e16, e15, e32, e31, e64, e63, decide_eq_true_eq] <;> (try split) <;> omega
theorem sc_int {k : IntKind} {x : Int} : ScR (.int k) (.int k (k.wrap x)) (.i (k.wrap x)) := ⟨_, rfl, rfl, (wrap_range k x).1, (wrap_range k x).2⟩
theorem sc_bool {b : Bool} : ScR .bool (.bool b) (.b b) := ⟨_, rfl, rfl⟩
theorem kmin_neg (k : IntKind) : k.min ≤ 0 ∧ 0 ≤ k.max := by
  cases k <;> simp [IntKind.min, IntKind.max, IntKind.bits, IntKind.signed]
theorem tmod_range {k : IntKind} {x y : Int} (h : k.min ≤ x ∧ x ≤ k.max) : k.min ≤ x.tmod y ∧ x.tmod y ≤ k.max := by
  have h0 := kmin_neg k
  have h1 : (x.tmod y).natAbs ≤ x.natAbs := by rw [Int.natAbs_tmod]; exact Nat.mod_le _ _
  rcases Int.le_total 0 x with hx | hx
  · have h2 := Int.tmod_nonneg y hx
    omega
  · have h3 := Int.tmod_nonneg y (show 0 ≤ -x by omega)
    rw [Int.neg_tmod] at h3
    omega
theorem fdiv_range {k : IntKind} {x : Int} {m : Nat} (h : k.min ≤ x ∧ x ≤ k.max) : k.min ≤ x.fdiv (2 ^ m) ∧ x.fdiv (2 ^ m) ≤ k.max := by
  have h0 := kmin_neg k
  have hp : (0 : Int) < 2 ^ m := Int.pow_pos (by decide)
  rw [Int.fdiv_eq_ediv_of_nonneg _ (by omega)]
  rcases Int.le_total 0 x with hx | hx
  · have h2 := Int.ediv_nonneg hx (show (0 : Int) ≤ 2 ^ m by omega)
    have h3 := Int.ediv_le_self (2 ^ m) hx
    omega
  · have h2 : x ≤ x / 2 ^ m := by
      rw [Int.le_ediv_iff_mul_le hp]
      have h1 : (0 : Int) ≤ 2 ^ m - 1 := by omega
      have := Int.mul_nonneg (show 0 ≤ -x by omega) h1
      have e : -x * (2 ^ m - 1) = x - x * 2 ^ m := by rw [Int.mul_sub, Int.neg_mul]; omega
      omega
    have h3 : x / 2 ^ m ≤ 0 := by
      have := Int.ediv_le_ediv hp hx
      simpa using this
    omega

section
variable {P : Program} {w : World} {ρ : Operand → Value} {o : Oper}
theorem run_move {x : Operand} (hop : o.op = .move x ∨ o.op = .assign x) : (execOp ρ o).run P w = .ok (.value (ρ x)) w := by
  rcases hop with hop | hop <;> simp [execOp, hop, go_sem]
theorem run_pick {c x y : Operand} {b : Bool} (hop : o.op = .pick c x y) (hb : ρ c = .bool b) :
    (execOp ρ o).run P w = .ok (.value (if b = true then ρ x else ρ y)) w := by
  simp [execOp, hop, hb, asBool, go_sem]
theorem run_nilCheck {x : Operand} {b o' : Nat} (hop : o.op = .nilCheck x) (hv : ρ x = .pointer (some ⟨b, o', none⟩)) :
    (execOp ρ o).run P w = .ok (.value (ρ x)) w := by
  simp [execOp, hop, hv, go_sem]
theorem run_extract {x : Operand} {i : Nat} {vs : Array Value} {v : Value} (hop : o.op = .extract x i) (hv : ρ x = .tuple vs) (h : vs[i]? = some v) :
    (execOp ρ o).run P w = .ok (.value v) w := by
  simp [execOp, hop, hv, Instr.extract, h, go_sem]
end

section
variable {Γ : Ctx} {P : Program} {cf : FuncId → List Arg → R3 Ret}
variable {n : Fr} {σ : S} {g : Gh} {I : Foot} {a : Act} {w : World}

theorem retype_ok (κ : Key → KE) : ∀ {lts : List LT} {ls : List Leaf} {vs : List Value}, LfsR κ g w I ls vs → LfsR κ g w I (retype lts ls) vs
  | [], ls, vs, h => by unfold retype; exact h
  | lt :: lts, [], vs, h => by unfold retype; exact h
  | lt :: lts, l :: ls, [], h => h.elim
  | lt :: lts, l :: ls, v :: vs, h => by
    unfold retype
    refine ⟨?_, retype_ok κ h.2⟩
    split
    · rename_i e1
      obtain ⟨h1, h2⟩ := h.1
      refine ⟨h1, ?_⟩
      simp only [e1] at h2 ⊢
      exact ⟨trivial, h2.2⟩
    · exact h.1
theorem oneOrFail_ok {κ : Key → KE} {ls : List Leaf} {v : Value} (h : LfsR κ g w I ls [v]) : EntR κ g w I (oneOrFail ls) v := by
  unfold oneOrFail
  split
  · exact h.1
  · trivial
theorem mkEnt_ok {κ : Key → KE} {ls : List Leaf} {cs : Array Value} (h : LfsR κ g w I ls cs.toList) : EntR κ g w I (mkEnt true ls) (.agg cs) := ⟨cs, rfl, h⟩
theorem mkEnt_ok1 {κ : Key → KE} {ls : List Leaf} {v : Value} (h : LfsR κ g w I ls [v]) : EntR κ g w I (mkEnt false ls) v := by
  unfold mkEnt
  simp only [cond_false]
  split
  · exact h.1
  · trivial

theorem tyOf_wp {t : TypeId} {k : TI → Prog} {tr : Tr} {Q : S → Tr → Prop} (hΓ : CtxOk Γ P) (h : (tyOf Γ t k).wp cf σ tr Q) :
    ∃ ti, Γ.ty t = some ti ∧ TyOk Γ P t ti ∧ (k ti).wp cf σ tr Q := by
  obtain ⟨ti, h1, h2⟩ := ofOpt_wp h
  exact ⟨ti, h1, hΓ.ty t ti h1, h2⟩

variable {o : Oper} {f : FuncId} {tr : Tr} {Q : S → Tr → Prop} {K : Act → World → Prop} {Qm : Exit → Act → World → Prop}

theorem retypeEnt_ok {lts : List LT} {κ : Key → KE} {e : Ent} {v : Value} (h : EntR κ g w I e v) : EntR κ g w I (retypeEnt lts e) v := by
  unfold retypeEnt
  split
  · exact oneOrFail_ok (retype_ok _ ⟨h, trivial⟩)
  · obtain ⟨cs, h3, h4⟩ := h
    exact ⟨cs, h3, retype_ok _ h4⟩
  · exact h

theorem op_pick (hd : dstOk n.np n.nt o = true) (hR : R n σ g I a w) (hK : Post P n I w Q K) {c x y : Operand} (hop : o.op = .pick c x y)
    (h : (opStep Γ f o).wp cf σ tr Q) : Goal P o a w K Qm := by
  simp only [opStep, hop] at h
  obtain ⟨ec, t1, hc, h⟩ := rd_wp hR h
  obtain ⟨ex, t2, hx, h⟩ := rd_wp hR h
  obtain ⟨ey, t3, hy, h⟩ := rd_wp hR h
  obtain ⟨s, d, rfl, hv, h⟩ := scal_wp hc h
  split at h
  · obtain ⟨b, hb, rfl⟩ := hv
    have hrun := run_pick (P := P) (w := w) (ρ := a.eval) hop hb
    simp only [Prog.wp, T.bool] at h
    cases b
    · simp only [Bool.false_eq_true, if_false] at h hrun
      obtain ⟨s, d, rfl, hv, h⟩ := scal_wp hy h
      exact end_sc hd hR hK hrun hv h
    · simp only [if_true] at h hrun
      obtain ⟨s, d, rfl, hv, h⟩ := scal_wp hx h
      exact end_sc hd hR hK hrun hv h
  · exact h.elim

theorem depsOk_wp {ds : List Dep} {p : Prog} : ∀ {tr : Tr}, (depsOk ds p).wp cf σ tr Q → Cur σ.k ds ∧ ∃ tr', p.wp cf σ tr' Q := by
  induction ds with
  | nil => intro tr h; exact ⟨fun _ h => (nomatch h), tr, h⟩
  | cons d ds ih =>
    intro tr h
    obtain ⟨k, m⟩ := d
    obtain ⟨h1, h2⟩ := h
    obtain ⟨h3, h4⟩ := ih h2
    refine ⟨fun x hx => ?_, h4⟩
    rcases List.mem_cons.1 hx with rfl | hx
    · exact Nat.eq_of_beq_eq_true h1
    · exact h3 x hx
theorem op_nilCheck (hd : dstOk n.np n.nt o = true) (hR : R n σ g I a w) (hK : Post P n I w Q K) {x : Operand} (hop : o.op = .nilCheck x)
    (h : (opStep Γ f o).wp cf σ tr Q) : Goal P o a w K Qm := by
  simp only [opStep, hop] at h
  obtain ⟨e, t1, he, h⟩ := rd_wp hR h
  have key : ∀ b o', a.eval x = .pointer (some ⟨b, o', none⟩) → (execOp a.eval o).run P w = .ok (.value (a.eval x)) w := fun b o' hv => run_nilCheck hop hv
  split at h
  · obtain ⟨h1, h2⟩ := h
    obtain ⟨b, o', hv, -⟩ := he.2.2 (Nat.eq_of_beq_eq_true h1)
    exact end_put hd hR hK (key b o' hv) he h2
  · obtain ⟨h1, t2, h2⟩ := depsOk_wp h
    obtain ⟨b, o', hv, -⟩ := he.2.2 h1
    exact end_put hd hR hK (key b o' hv) he h2
  · exact h.elim

theorem op_extract (hd : dstOk n.np n.nt o = true) (hR : R n σ g I a w) (hK : Post P n I w Q K) {x : Operand} {i : Nat} (hop : o.op = .extract x i)
    (h : (opStep Γ f o).wp cf σ tr Q) : Goal P o a w K Qm := by
  simp only [opStep, hop] at h
  obtain ⟨e, t1, he, h⟩ := rd_wp hR h
  split at h
  · rename_i es
    obtain ⟨vs, hv, hs⟩ := he
    obtain ⟨x', hx, h⟩ := ofOpt_wp h
    have key : ∀ (es : List Ent) (vs : List Value) (i : Nat), Ents0R σ.k g w I es vs → es[i]? = some x' → ∃ v, vs[i]? = some v ∧ Ent0R σ.k g w I x' v := by
      intro es
      induction es with
      | nil => intro vs i _ h; simp at h
      | cons e es ih =>
        intro vs i h1 h2
        cases vs with
        | nil => exact h1.elim
        | cons v vs =>
          cases i with
          | zero => simp at h2; subst h2; exact ⟨v, rfl, h1.1⟩
          | succ i => simpa using ih vs i h1.2 (by simpa using h2)
    obtain ⟨v, hv1, hv2⟩ := key es vs.toList i hs hx
    have hv1' : vs[i]? = some v := by simpa using hv1
    have hrun := run_extract (P := P) (w := w) (ρ := a.eval) hop hv hv1'
    refine end_put hd hR hK hrun (e := x') ?_ h
    cases x' <;> first | exact hv2 | exact hv2.elim
  · exact h.elim
end
end Go.E

namespace Go.E
open Go

section
variable {P : Program} {w : World} {ρ : Operand → Value} {o : Oper}
theorem guard_int {op : BinOp} {t : TypeId} {x y : Operand} {k k' : IntKind} {i j : Int} : (eqGuard op t x y (.int k i) (.int k' j)).run P w = .ok () w := by
  cases op <;> simp [eqGuard, go_sem]
theorem guard_str {op : BinOp} {t : TypeId} {x y : Operand} {i j : ByteArray} : (eqGuard op t x y (.string i) (.string j)).run P w = .ok () w := by
  cases op <;> simp [eqGuard, go_sem]
theorem guard_bool {op : BinOp} {t : TypeId} {x y : Operand} {i j : Bool} : (eqGuard op t x y (.bool i) (.bool j)).run P w = .ok () w := by
  cases op <;> simp [eqGuard, go_sem]
theorem run_binOp {op : BinOp} {t t' : TypeId} {x y : Operand} {v : Value} (hop : o.op = .binOp op t x y t')
    (hg : (eqGuard op t x y (ρ x) (ρ y)).run P w = .ok () w) (hv : (binOp op t (ρ x) (ρ y)).run P w = .ok v w) :
    (execOp ρ o).run P w = .ok (.value v) w := by
  simp only [execOp, hop]
  rw [Sem.run_bind, Sem.run_bind, hg]
  simp [hv]
theorem run_unOp {op : UnOp} {t : TypeId} {x : Operand} {v : Value} (hop : o.op = .unOp op t x) (hv : (Op.unary op (ρ x)).run P w = .ok v w) :
    (execOp ρ o).run P w = .ok (.value v) w := by
  simp only [execOp, hop]
  rw [Sem.run_bind, hv]
  simp
theorem pureRun {α : Type} (x : α) : (pure x : Sem α).run P w = .ok x w := rfl
end

section
variable {Γ : Ctx} {P : Program} {cf : FuncId → List Arg → R3 Ret}
variable {n : Fr} {σ : S} {g : Gh} {I : Foot} {a : Act} {w : World}
variable {o : Oper} {f : FuncId} {tr : Tr} {Q : S → Tr → Prop} {K : Act → World → Prop} {Qm : Exit → Act → World → Prop}

theorem binInt_ok {op : BinOp} {k : IntKind} {x y : Int} {C : ST → T → Prog} (t : TypeId) (hx : k.min ≤ x ∧ x ≤ k.max)
    (h : (binInt op k x y C).wp cf σ tr Q) (h1 : op ≠ .shl) (h2 : op ≠ .shr) :
    ∃ s d v, (binOp op t (.int k x) (.int k y)).run P w = .ok v w ∧ ScR s v d ∧ (C s d).wp cf σ tr Q := by
  cases op <;> simp only [binInt] at h <;> try (exact h.elim)
  case add => exact ⟨_, _, _, by simp only [binOp, ne_eq, not_true_eq_false, if_false, Op.intArith]; rfl, sc_int, h⟩
  case sub => exact ⟨_, _, _, by simp only [binOp, ne_eq, not_true_eq_false, if_false, Op.intArith]; rfl, sc_int, h⟩
  case mul => exact ⟨_, _, _, by simp only [binOp, ne_eq, not_true_eq_false, if_false, Op.intArith]; rfl, sc_int, h⟩
  case quo =>
    obtain ⟨h0, h⟩ := h
    have hy : y ≠ 0 := by simpa using h0
    exact ⟨_, _, _, by simp only [binOp, ne_eq, not_true_eq_false, if_false, Op.intDiv, hy]; rfl, sc_int, h⟩
  case rem =>
    obtain ⟨h0, h⟩ := h
    have hy : y ≠ 0 := by simpa using h0
    exact ⟨.int k, .i (x.tmod y), .int k (x.tmod y), by simp only [binOp, ne_eq, not_true_eq_false, if_false, Op.intDiv, hy]; rfl, ⟨_, rfl, rfl, (tmod_range hx).1, (tmod_range hx).2⟩, h⟩
  case and => exact ⟨_, _, _, by simp only [binOp, ne_eq, not_true_eq_false, if_false, Op.intBits]; rfl, sc_int, h⟩
  case or => exact ⟨_, _, _, by simp only [binOp, ne_eq, not_true_eq_false, if_false, Op.intBits]; rfl, sc_int, h⟩
  case xor => exact ⟨_, _, _, by simp only [binOp, ne_eq, not_true_eq_false, if_false, Op.intBits]; rfl, sc_int, h⟩
  case andNot => exact ⟨_, _, _, by simp only [binOp, ne_eq, not_true_eq_false, if_false, Op.intBits]; rfl, sc_int, h⟩
  case eql => exact ⟨_, _, _, by simp only [binOp, ne_eq, not_true_eq_false, if_false, Op.intCmp]; rfl, sc_bool, h⟩
  case neq => exact ⟨_, _, _, by simp only [binOp, ne_eq, not_true_eq_false, if_false, Op.intCmp]; rfl, sc_bool, h⟩
  case lss => exact ⟨_, _, _, by simp only [binOp, ne_eq, not_true_eq_false, if_false, Op.intCmp]; rfl, sc_bool, h⟩
  case leq => exact ⟨_, _, _, by simp only [binOp, ne_eq, not_true_eq_false, if_false, Op.intCmp]; rfl, sc_bool, h⟩
  case gtr => exact ⟨_, _, _, by simp only [binOp, ne_eq, not_true_eq_false, if_false, Op.intCmp]; rfl, sc_bool, h⟩
  case geq => exact ⟨_, _, _, by simp only [binOp, ne_eq, not_true_eq_false, if_false, Op.intCmp]; rfl, sc_bool, h⟩
theorem i64max : IntKind.i64.max = 9223372036854775807 := by decide
theorem binStr_ok {op : BinOp} {x y : ByteArray} {C : ST → T → Prog} (t : TypeId)
    (h : (binStr op x y C).wp cf σ tr Q) :
    ∃ s d v, (binOp op t (.string x) (.string y)).run P w = .ok v w ∧ ScR s v d ∧ (C s d).wp cf σ tr Q := by
  cases op <;> simp only [binStr] at h <;> try (exact h.elim)
  case add =>
    obtain ⟨h0, h⟩ := h
    have h1 : x.size + y.size < 9223372036854775808 := by simpa using h0
    have h2 : ¬ (((x.size + y.size : Nat) : Int) > IntKind.i64.max) := by rw [i64max]; omega
    exact ⟨.str, _, .string (x ++ y), by simp only [binOp, Op.stringOp, h2, if_false]; rfl, ⟨_, rfl, rfl, by rw [ByteArray.size_append]; exact h1⟩, h⟩
  case eql => exact ⟨_, _, _, by simp only [binOp, Op.stringOp]; rfl, sc_bool, h⟩
  case neq => exact ⟨_, _, _, by simp only [binOp, Op.stringOp]; rfl, sc_bool, h⟩
  case lss => exact ⟨_, _, _, by simp only [binOp, Op.stringOp]; rfl, sc_bool, h⟩
  case leq => exact ⟨_, _, _, by simp only [binOp, Op.stringOp]; rfl, sc_bool, h⟩
  case gtr => exact ⟨_, _, _, by simp only [binOp, Op.stringOp]; rfl, sc_bool, h⟩
  case geq => exact ⟨_, _, _, by simp only [binOp, Op.stringOp]; rfl, sc_bool, h⟩
end
end Go.E


namespace Go.E
open Go

section
variable {P : Program} {w : World} {ρ : Operand → Value} {o : Oper}
theorem run_part {t : TypeId} {cs : Array Value} {off : Nat} {v : Value} {d : TypeDesc} (hu : P.underlying t = some d) (hd : (∀ fs, d ≠ .struct fs) ∧ ∀ n e, d ≠ .array n e)
    (hv : cs[off]? = some v) : (part t cs off).run P w = .ok v w := by
  have h1 : (isAgg t).run P w = .ok false w := by
    simp only [isAgg, Sem.run_bind, run_underlying hu, Result.andThen_ok]
    cases d <;> first | rfl | exact absurd rfl (hd.1 _) | exact absurd rfl (hd.2 _ _)
  simp [part, h1, hv]
end

section
variable {Γ : Ctx} {P : Program} {cf : FuncId → List Arg → R3 Ret}
variable {n : Fr} {σ : S} {g : Gh} {I : Foot} {a : Act} {w : World}
variable {o : Oper} {f : FuncId} {tr : Tr} {Q : S → Tr → Prop} {K : Act → World → Prop} {Qm : Exit → Act → World → Prop}

/-- equality of flat structs -/
theorem eqSc_ok {s : ST} {x y : T} {u v : Value} {b : Bool} {t : TypeId} {d : Nat} (hty : match LT.sc s with
      | .sc (.int k) => P.underlying t = some (.int k)
      | .sc .bool => P.underlying t = some .bool
      | .sc .str => P.underlying t = some .string
      | _ => False) (hu : ScR s u x) (hv : ScR s v y) (h : eqSc s x y = some b) :
    (Op.equalIn (d + 1) t u v).run P w = .ok b w ∧ ∃ dd, P.underlying t = some dd ∧ (∀ fs, dd ≠ .struct fs) ∧ ∀ n e, dd ≠ .array n e := by
  cases s with
  | int k =>
    obtain ⟨i, rfl, rfl, -⟩ := hu
    obtain ⟨i', rfl, rfl, -⟩ := hv
    simp only [eqSc, T.int, Option.some.injEq] at h
    subst h
    exact ⟨run_equalIn_int w d _ _ _ _ _ hty, _, hty, fun _ h => (nomatch h), fun _ _ h => (nomatch h)⟩
  | bool =>
    obtain ⟨i, rfl, rfl⟩ := hu
    obtain ⟨i', rfl, rfl⟩ := hv
    simp only [eqSc, T.bool, Option.some.injEq] at h
    subst h
    exact ⟨run_equalIn_bool' w d _ _ _ hty, _, hty, fun _ h => (nomatch h), fun _ _ h => (nomatch h)⟩
  | str =>
    obtain ⟨i, rfl, rfl, -⟩ := hu
    obtain ⟨i', rfl, rfl, -⟩ := hv
    simp only [eqSc, T.str, Option.some.injEq] at h
    subst h
    exact ⟨run_equalIn_string w d _ _ _ hty, _, hty, fun _ h => (nomatch h), fun _ _ h => (nomatch h)⟩
  | any => exact hty.elim
theorem eqLeaves_ok {κ : Key → KE} {d : Nat} {xs ys : Array Value} : ∀ (fs : List Field) (lts : List LT) (j : Nat) (ls rs : List Leaf) (r : Bool), FlatFs P j fs lts →
    LfsR κ g w I ls (xs.toList.drop j) → LfsR κ g w I rs (ys.toList.drop j) → eqLeaves lts ls rs = some r →
    (Op.eqFields (d + 1) xs ys fs).run P w = .ok r w
  | [], [], j, ls, rs, r, hf, hl, hr, he => by
    cases ls <;> cases rs <;> simp [eqLeaves] at he
    subst he; simp [Op.eqFields]
  | [], _ :: _, j, ls, rs, r, hf, hl, hr, he => hf.elim
  | f :: fs, [], j, ls, rs, r, hf, hl, hr, he => hf.elim
  | f :: fs, lt :: lts, j, ls, rs, r, hf, hl, hr, he => by
    unfold eqLeaves at he
    split at he
    · contradiction
    · rename_i c lts' a' x ls' b' y rs' e1
      cases e1
      split at he
      · rename_i hab
        obtain ⟨rfl, rfl⟩ := hab
        split at he
        · rename_i b r' h1 h2
          cases he
          obtain ⟨hname, hoff, hty, hf⟩ := hf
          cases hx : xs.toList.drop j with
          | nil => rw [hx] at hl; exact hl.elim
          | cons u us =>
            cases hy : ys.toList.drop j with
            | nil => rw [hy] at hr; exact hr.elim
            | cons v vs =>
              rw [hx] at hl; rw [hy] at hr
              have hx1 : xs[j]? = some u := by
                have : (xs.toList.drop j)[0]? = some u := by rw [hx]; rfl
                simpa using this
              have hy1 : ys[j]? = some v := by
                have : (ys.toList.drop j)[0]? = some v := by rw [hy]; rfl
                simpa using this
              have hx2 : xs.toList.drop (j + 1) = us := by rw [← List.drop_drop, hx]; rfl
              have hy2 : ys.toList.drop (j + 1) = vs := by rw [← List.drop_drop, hy]; rfl
              obtain ⟨-, s1', e1, hu⟩ := hl.1
              obtain ⟨-, s2', e2, hv⟩ := hr.1
              cases e1; cases e2
              obtain ⟨hb, dd, hu', hdd⟩ := eqSc_ok (P := P) (w := w) (d := d) hty hu hv h1
              have ih := eqLeaves_ok (d := d) (xs := xs) (ys := ys) fs lts (j + 1) ls' rs' r' hf (by rw [hx2]; exact hl.2) (by rw [hy2]; exact hr.2) h2
              simp only [Op.eqFields, ne_eq, hname, not_false_eq_true, if_true, Sem.run_bind, hoff, run_part hu' hdd hx1, run_part hu' hdd hy1, Result.andThen_ok, hb]
              cases b
              · simp
              · simpa using ih
        · cases he
      · cases he
    · cases he

theorem equal_agg {κ : Key → KE} {t : TypeId} {ti : TI} {ls rs : List Leaf} {r : Bool} {xs ys : Array Value} (hf : FlatOk P t ti.lts) (hl : LfsR κ g w I ls xs.toList) (hr : LfsR κ g w I rs ys.toList)
    (he : eqLeaves ti.lts ls rs = some r) : (Op.equal t (.agg xs) (.agg ys)).run P w = .ok r w ∧
      ∀ op x y, (eqGuard op t x y (.agg xs) (.agg ys)).run P w = .ok () w := by
  obtain ⟨fields, h1, h2, h3, h4⟩ := hf
  constructor
  · have hfo : P.fieldsOf t = fields := by simp [Program.fieldsOf, h1]
    show (Op.equalIn (9999 + 1) t (.agg xs) (.agg ys)).run P w = .ok r w
    rw [run_equalIn_struct (P := P) w 9999 t xs ys (by rw [hfo]; exact h1) h2, hfo]
    exact eqLeaves_ok (d := 9998) fields.toList ti.lts 0 ls rs r h4 (by simpa using hl) (by simpa using hr) he
  · intro op x y
    cases op <;> simp [eqGuard, h3, go_sem]

theorem op_binOp (hΓ : CtxOk Γ P) (hd : dstOk n.np n.nt o = true) (hR : R n σ g I a w) (hK : Post P n I w Q K) {op : BinOp} {t t' : TypeId} {x y : Operand} (hop : o.op = .binOp op t x y t')
    (h : (opStep Γ f o).wp cf σ tr Q) : Goal P o a w K Qm := by
  simp only [opStep, hop] at h
  obtain ⟨ti, -, hty, h⟩ := tyOf_wp hΓ h
  obtain ⟨ex, t1, hx, h⟩ := rd_wp hR h
  obtain ⟨ey, t2, hy, h⟩ := rd_wp hR h
  unfold binE at h
  split at h
  · skip
    rename_i k u k' v _
    have hu : ScR (.int k) (a.eval x) u := by obtain ⟨-, s, e, hu⟩ := hx; cases e; exact hu
    have hv : ScR (.int k') (a.eval y) v := by obtain ⟨-, s, e, hu⟩ := hy; cases e; exact hu
    obtain ⟨i, hi, rfl, hi1⟩ := hu
    obtain ⟨j, hj, rfl, hj1⟩ := hv
    have hgd : (eqGuard op t x y (a.eval x) (a.eval y)).run P w = .ok () w := by rw [hi, hj]; exact guard_int
    split at h
    · obtain ⟨h0, h⟩ := h
      have h1 : ¬ j < 0 := by have := of_decide_eq_true h0; simp only [T.int] at this; omega
      refine end_sc hd hR hK (run_binOp hop hgd (v := .int k (k.wrap (i * 2 ^ (min j.toNat k.bits)))) ?_) sc_int h
      rw [hi, hj]; simp [binOp, Op.shift, h1]
    · obtain ⟨h0, h⟩ := h
      have h1 : ¬ j < 0 := by have := of_decide_eq_true h0; simp only [T.int] at this; omega
      refine end_sc hd hR hK (s := .int k) (run_binOp hop hgd (v := .int k (i.fdiv (2 ^ (min j.toNat k.bits)))) ?_) ⟨_, rfl, rfl, fdiv_range hi1⟩ h
      rw [hi, hj]; simp [binOp, Op.shift, h1]
    · rename_i hs1 hs2
      split at h
      · rename_i hk
        subst hk
        obtain ⟨s, d, v, h1, h2, h3⟩ := binInt_ok (P := P) (w := w) t hi1 h (fun e => hs1 e) (fun e => hs2 e)
        exact end_sc hd hR hK (run_binOp hop hgd (by rw [hi, hj]; exact h1)) h2 h3
      · exact h.elim
  · obtain ⟨-, s, e, hu⟩ := hx
    cases e
    obtain ⟨-, s, e, hv⟩ := hy
    cases e
    obtain ⟨i, hi, rfl, hi1⟩ := hu
    obtain ⟨j, hj, rfl, hj1⟩ := hv
    have hgd : (eqGuard op t x y (a.eval x) (a.eval y)).run P w = .ok () w := by rw [hi, hj]; exact guard_str
    obtain ⟨s, d, v, h1, h2, h3⟩ := binStr_ok (P := P) (w := w) t h
    exact end_sc hd hR hK (run_binOp hop hgd (by rw [hi, hj]; exact h1)) h2 h3
  · obtain ⟨-, s, e, hu⟩ := hx
    cases e
    obtain ⟨-, s, e, hv⟩ := hy
    cases e
    obtain ⟨i, hi, rfl⟩ := hu
    obtain ⟨j, hj, rfl⟩ := hv
    have hgd : (eqGuard op t x y (a.eval x) (a.eval y)).run P w = .ok () w := by rw [hi, hj]; exact guard_bool
    cases hb : isBoolK ti.kind with
    | false => simp only [hb, cond_false] at h; exact h.elim
    | true =>
      simp only [hb, cond_true] at h
      have hub : P.underlying t = some .bool := by
        obtain ⟨d, h1, h2⟩ := hty.und
        unfold isBoolK at hb
        split at hb
        · rename_i hk; rw [hk] at h2; rw [h1, h2.1]
        · cases hb
      have heq : (Op.equal t (.bool i) (.bool j)).run P w = .ok (i == j) w := run_equalIn_bool' w 9999 t i j hub
      split at h
      · exact end_sc hd hR hK (run_binOp hop hgd (v := .bool (i == j)) (by rw [hi, hj]; simp [binOp, heq])) sc_bool h
      · exact end_sc hd hR hK (run_binOp hop hgd (v := .bool (!(i == j))) (by rw [hi, hj]; simp [binOp, heq])) sc_bool h
      · exact h.elim
  · rename_i ls rs
    obtain ⟨xs, hxs, hl⟩ := hx
    obtain ⟨ys, hys, hr⟩ := hy
    cases hb : ti.flat with
    | false => simp only [hb, cond_false] at h; exact h.elim
    | true =>
      simp only [hb, cond_true] at h
      split at h
      · obtain ⟨r, he, h⟩ := ofOpt_wp h
        obtain ⟨h1, h2⟩ := equal_agg (hty.flat hb) hl hr he
        exact end_sc hd hR hK (run_binOp hop (by rw [hxs, hys]; exact h2 _ _ _) (v := .bool r) (by rw [hxs, hys]; simp [binOp, h1])) sc_bool h
      · obtain ⟨r, he, h⟩ := ofOpt_wp h
        obtain ⟨h1, h2⟩ := equal_agg (hty.flat hb) hl hr he
        exact end_sc hd hR hK (run_binOp hop (by rw [hxs, hys]; exact h2 _ _ _) (v := .bool (!r)) (by rw [hxs, hys]; simp [binOp, h1])) sc_bool h
      · exact h.elim
  · exact h.elim

theorem op_unOp (hd : dstOk n.np n.nt o = true) (hR : R n σ g I a w) (hK : Post P n I w Q K) {op : UnOp} {t : TypeId} {x : Operand} (hop : o.op = .unOp op t x)
    (h : (opStep Γ f o).wp cf σ tr Q) : Goal P o a w K Qm := by
  simp only [opStep, hop] at h
  obtain ⟨ex, t1, hx, h⟩ := rd_wp hR h
  obtain ⟨s, d, rfl, hv, h⟩ := scal_wp hx h
  split at h
  · obtain ⟨b, hb, rfl⟩ := hv
    exact end_sc hd hR hK (run_unOp hop (by rw [hb]; rfl)) sc_bool h
  · obtain ⟨i, hi, rfl, -⟩ := hv
    exact end_sc hd hR hK (run_unOp hop (by rw [hi]; rfl)) sc_int h
  · obtain ⟨i, hi, rfl, -⟩ := hv
    exact end_sc hd hR hK (run_unOp hop (by rw [hi]; rfl)) sc_int h
  · exact h.elim
end
end Go.E

namespace Go.E
open Go

section
variable {w : World} {I S A : Foot}
theorem RowR.top {w : World} {I S A : Foot} (hs : ∀ b o, I b o → S b o) : ∀ {es : List LT} {b o : Nat} {row : List T},
    RowR w (fun _ _ => True) I es b o row → (∀ j, j < es.length → A b (o + j)) → RowR w A S es b o row
  | [], b, o, row, h, _ => by unfold RowR at *; exact h
  | e :: es, b, o, row, h, ha => by
    unfold RowR at h ⊢
    obtain ⟨d, rest, v, h1, -, h3, h4, h5⟩ := h
    exact ⟨d, rest, v, h1, by simpa using ha 0 (by simp), h3, LeafR.mono hs (fun _ _ _ => rfl) e h4,
      RowR.top hs h5 fun j hj => by have := ha (j + 1) (by simp; omega); rwa [show o + 1 + j = o + (j + 1) from by omega]⟩
theorem RowOwn.leaf {es : List LT} {rows : List (List T)} {h : Value} {F : Foot} (hr : RowOwn w I es rows h F) (hs : ∀ b o, I b o → S b o) (hf : ∀ b o, F b o → S b o) :
    LeafR w S (.sl es) h (.l rows) := by
  obtain ⟨h0, h1, h2⟩ := hr
  unfold LeafR
  rcases h2 with ⟨rfl, rfl, -⟩ | ⟨b, cap, c, el, fz, rfl, h3, h4, h5, h6, -, h7, h8⟩
  · exact ⟨none, 0, [], rfl, rfl, Nat.le_refl _, Nat.zero_le _, .inl rfl⟩
  · refine ⟨some ⟨b, 0, none⟩, cap, rows, rfl, rfl, h3, h1, .inr ⟨b, 0, rfl, fun i hi => ?_⟩⟩
    rw [Nat.zero_add]
    refine RowR.top hs (h8 i hi) fun j hj => hf _ _ ((h7 b _).2 ⟨rfl, ?_⟩)
    rw [h6]
    have : (i + 1) * es.length ≤ cap * es.length := Nat.mul_le_mul_right _ (by omega)
    rw [Nat.add_mul] at this
    omega
end

section
variable {Γ : Ctx} {P : Program} {cf : FuncId → List Arg → R3 Ret}
variable {n : Fr} {σ : S} {g : Gh} {I : Foot} {a : Act} {w : World}
variable {o : Oper} {f : FuncId} {tr : Tr} {Q : S → Tr → Prop} {K : Act → World → Prop} {Qm : Exit → Act → World → Prop}

theorem depFoot_nil (κ : Key → KE) : ∀ b o, I b o → depFoot κ g I [] b o := fun _ _ h => .inl h
theorem cur_nil (κ : Key → KE) : Cur κ [] := fun _ h => (nomatch h)
theorem old_nil (κ : Key → KE) : Old κ [] := fun _ h => (nomatch h)
theorem viewSl_wp (hR : R n σ g I a w) {l : Leaf} {v : Value} {k : List LT → List (List T) → List Dep → Prog} (hl : LfR σ.k g w I l v) (h : (viewSl l k).wp cf σ tr Q) :
    ∃ es rows deps tr', (k es rows deps).wp cf σ tr' Q ∧ LeafR w (depFoot σ.k g I deps) (.sl es) v (.l rows) ∧ Cur σ.k deps ∧ Old σ.k deps := by
  obtain ⟨st, lt, d⟩ := l
  obtain ⟨hs, hl⟩ := hl
  unfold viewSl at h
  simp only at h hl
  cases lt with
  | sc s => cases st <;> exact h.elim
  | sl es =>
    cases st with
    | sc => exact h.elim
    | dead => exact h.elim
    | nl =>
      obtain ⟨-, rfl, rfl⟩ := hl
      refine ⟨es, [], [], tr, h, ?_, cur_nil _, old_nil _⟩
      unfold LeafR
      exact ⟨none, 0, [], rfl, rfl, Nat.le_refl _, Nat.zero_le _, .inl rfl⟩
    | sn ds =>
      obtain ⟨-, h1, h2⟩ := hl
      obtain ⟨h3, tr', h4⟩ := depsOk_wp h
      have h5 := h2 h3
      obtain ⟨x, y, rows, rfl, h6⟩ := by unfold LeafR at h5; exact h5
      exact ⟨es, _, ds, tr', h4, h2 h3, h3, h1⟩
    | og =>
      obtain ⟨-, h2⟩ := hl
      have h5 := h2
      obtain ⟨x, y, rows, rfl, h6⟩ := by unfold LeafR at h5; exact h5
      exact ⟨es, _, [], tr, h, LeafR.mono (depFoot_nil _) (fun _ _ _ => rfl) _ h2, cur_nil _, old_nil _⟩
    | al key m =>
      obtain ⟨-, h1, h2⟩ := hl
      obtain ⟨h3, h⟩ := h
      have h4 := h2 (Nat.eq_of_beq_eq_true h3)
      subst h4
      have hch := hR.chs key
      split at h
      · rename_i es' ms rows e
        rw [e] at hch
        refine ⟨es', rows, _, _, h, hch.1.leaf (fun _ _ h => .inl h) (fun b o' hf => .inr ⟨_, List.mem_singleton.2 rfl, by simp only [e]; trivial, hf⟩), ?_, ?_⟩
        · intro d hd; rw [List.mem_singleton.1 hd]
        · intro d hd; rw [List.mem_singleton.1 hd]; exact Nat.le_refl _
      · rename_i es' rows e
        rw [e] at hch
        exact ⟨es', rows, [], _, h, LeafR.mono (depFoot_nil _) (fun _ _ _ => rfl) _ hch, cur_nil _, old_nil _⟩
      · exact h.elim
end
end Go.E

namespace Go.E
open Go

section
variable {P : Program} {w : World} {I S A : Foot}
/-- the values that cells hold -/
def LeavesR (w : World) (S : Foot) : List LT → List Value → List T → Prop
  | [], [], [] => True
  | e :: es, v :: vs, d :: ds => LeafR w S e v d ∧ LeavesR w S es vs ds
  | _, _, _ => False
def CellsAt (w : World) (b o : Nat) : List Value → Prop
  | [] => True
  | v :: vs => cellAt w b o = some v ∧ CellsAt w b (o + 1) vs
theorem RowR.vals : ∀ {es : List LT} {b o : Nat} {row : List T}, RowR w A S es b o row → ∃ vs, LeavesR w S es vs row ∧ CellsAt w b o vs
  | [], b, o, row, h => by unfold RowR at h; subst h; exact ⟨[], trivial, trivial⟩
  | e :: es, b, o, row, h => by
    unfold RowR at h
    obtain ⟨d, rest, v, rfl, -, h3, h4, h5⟩ := h
    obtain ⟨vs, h6, h7⟩ := RowR.vals h5
    exact ⟨v :: vs, ⟨h4, h6⟩, h3, h7⟩
theorem LeavesR.len : ∀ {es : List LT} {vs : List Value} {ds : List T}, LeavesR w S es vs ds → vs.length = es.length ∧ ds.length = es.length
  | [], [], [], _ => ⟨rfl, rfl⟩
  | _ :: es, _ :: vs, _ :: ds, h => by have := LeavesR.len h.2; simp; omega
  | [], _ :: _, _, h => h.elim
  | [], [], _ :: _, h => h.elim
  | _ :: _, [], _, h => h.elim
  | _ :: _, _ :: _, [], h => h.elim
theorem LeavesR.drop : ∀ {es : List LT} {vs : List Value} {ds : List T} (k : Nat), LeavesR w S es vs ds → LeavesR w S (es.drop k) (vs.drop k) (ds.drop k)
  | es, vs, ds, 0, h => h
  | [], [], [], k + 1, h => trivial
  | _ :: es, _ :: vs, _ :: ds, k + 1, h => LeavesR.drop k h.2
  | [], _ :: _, _, _ + 1, h => h.elim
  | [], [], _ :: _, _ + 1, h => h.elim
  | _ :: _, [], _, _ + 1, h => h.elim
  | _ :: _, _ :: _, [], _ + 1, h => h.elim
theorem CellsAt.drop : ∀ {vs : List Value} {b o : Nat} (k : Nat), CellsAt w b o vs → CellsAt w b (o + k) (vs.drop k)
  | vs, b, o, 0, h => h
  | [], b, o, k + 1, h => trivial
  | v :: vs, b, o, k + 1, h => by
    have := CellsAt.drop k h.2
    rwa [show o + 1 + k = o + (k + 1) from by omega] at this
theorem CellsAt.take : ∀ {vs : List Value} {b o : Nat} (k : Nat), CellsAt w b o vs → CellsAt w b o (vs.take k)
  | vs, b, o, 0, h => trivial
  | [], b, o, k + 1, h => trivial
  | v :: vs, b, o, k + 1, h => ⟨h.1, CellsAt.take k h.2⟩
theorem addr_add (b o k : Nat) : Addr.add ⟨b, o, none⟩ k = ⟨b, o + k, none⟩ := by
  unfold Addr.add
  split
  · rename_i h; subst h; rfl
  · rfl
theorem run_load {b o : Nat} {v : Value} (h : cellAt w b o = some v) : (load ⟨b, o, none⟩).run P w = .ok v w := by
  unfold cellAt at h
  simp [load, Sem.run, h]
theorem run_loadCellsFrom {b o : Nat} : ∀ (vs : List Value) (i : Nat) (acc : Array Value), CellsAt w b (o + i) vs →
    (loadCellsFrom ⟨b, o, none⟩ i vs.length acc).run P w = .ok (acc ++ vs.toArray) w
  | [], i, acc, h => by simp [loadCellsFrom]
  | v :: vs, i, acc, h => by
    simp only [List.length_cons, loadCellsFrom, Sem.run_bind, addr_add, run_load h.1, Result.andThen_ok]
    rw [run_loadCellsFrom vs (i + 1) (acc.push v) (by have := h.2; rwa [show o + i + 1 = o + (i + 1) from by omega] at this)]
    simp
theorem run_loadCells {b o : Nat} {vs : List Value} (h : CellsAt w b o vs) : (loadCells ⟨b, o, none⟩ vs.length).run P w = .ok vs.toArray w := by
  unfold loadCells
  rw [run_loadCellsFrom vs 0 #[] (by simpa using h)]
  simp
end

section
variable {Γ : Ctx} {P : Program} {w : World}
theorem run_isAgg {t : TypeId} {ti : TI} (h : TyOk Γ P t ti) : (isAgg t).run P w = .ok (isAggK ti.kind) w := by
  obtain ⟨d, h1, h2⟩ := h.und
  simp only [isAgg, Sem.run_bind, run_underlying h1, Result.andThen_ok]
  cases hk : ti.kind with
  | sc s => rw [hk] at h2; cases s <;> first | (obtain ⟨rfl, -⟩ := h2; rfl) | exact h2.elim
  | slice e => rw [hk] at h2; obtain ⟨rfl, -⟩ := h2; rfl
  | struct fs => rw [hk] at h2; obtain ⟨fields, rfl, -⟩ := h2; rfl
  | array m e => rw [hk] at h2; cases h2; rfl
  | ptr e => rw [hk] at h2; obtain ⟨rfl, -⟩ := h2; rfl
  | other =>
    rw [hk] at h2
    cases d <;> first | rfl | exact absurd rfl (h2.1 _) | exact absurd rfl (h2.2.1 _ _)
theorem run_sizeOf {t : TypeId} {ti : TI} (h : TyOk Γ P t ti) : (sizeOf t).run P w = .ok ti.lts.length w := by
  obtain ⟨i, h1, h2, -⟩ := h.info
  simp [sizeOf, typeInfo, h1, h2, go_sem]
theorem run_loadVar {t : TypeId} {ti : TI} (h : TyOk Γ P t ti) {b o : Nat} {vs : List Value} (hv : CellsAt w b o vs) (hn : vs.length = ti.lts.length) :
    (isAggK ti.kind = true → (loadVar t ⟨b, o, none⟩).run P w = .ok (.agg vs.toArray) w) ∧
    (isAggK ti.kind = false → ∀ v, vs = [v] → (loadVar t ⟨b, o, none⟩).run P w = .ok v w) := by
  constructor
  · intro ha
    simp only [loadVar, Sem.run_bind, run_isAgg h, ha, Result.andThen_ok, if_true, run_sizeOf h]
    rw [← hn]
    simp [run_loadCells hv]
  · rintro ha v rfl
    simp only [loadVar, Sem.run_bind, run_isAgg h, ha, Result.andThen_ok, Bool.false_eq_true, if_false]
    exact run_load hv.1
theorem notAgg_len {t : TypeId} {ti : TI} (h : TyOk Γ P t ti) (ha : isAggK ti.kind = false) : ti.lts.length = 1 := by
  obtain ⟨d, h1, h2⟩ := h.und
  cases hk : ti.kind with
  | sc s => rw [hk] at h2; cases s <;> first | (rw [h2.2]; rfl) | exact h2.elim
  | slice e => rw [hk] at h2; obtain ⟨-, te, -, h3, -⟩ := h2; rw [h3]; rfl
  | struct fs => rw [hk] at ha; cases ha
  | array m e => rw [hk] at ha; cases ha
  | ptr e => rw [hk] at h2; rw [h2.2]; rfl
  | other => rw [hk] at h2; rw [h2.2.2]; rfl
theorem run_load_op {ρ : Operand → Value} {o : Oper} {t : TypeId} {x : Operand} {b o' : Nat} {v : Value} (hop : o.op = .load t x) (hx : ρ x = .pointer (some ⟨b, o', none⟩))
    (h : (loadVar t ⟨b, o', none⟩).run P w = .ok v w) : (execOp ρ o).run P w = .ok (.value v) w := by
  have h1 : (Instr.loadAt t (ρ x)).run P w = .ok v w := by
    simp only [Instr.loadAt, hx, Instr.sureAddr, pure_bind]
    exact h
  simp only [execOp, hop]
  rw [Sem.run_bind, h1]
  rfl
end

section
variable {Γ : Ctx} {P : Program} {cf : FuncId → List Arg → R3 Ret}
variable {n : Fr} {σ : S} {g : Gh} {I : Foot} {a : Act} {w : World}
variable {o : Oper} {f : FuncId} {tr : Tr} {Q : S → Tr → Prop} {K : Act → World → Prop} {Qm : Exit → Act → World → Prop}

theorem LfsR.drop {κ : Key → KE} : ∀ {ls : List Leaf} {vs : List Value} (k : Nat), LfsR κ g w I ls vs → LfsR κ g w I (ls.drop k) (vs.drop k)
  | ls, vs, 0, h => h
  | [], [], k + 1, h => trivial
  | _ :: ls, _ :: vs, k + 1, h => LfsR.drop k h.2
  | [], _ :: _, _ + 1, h => h.elim
  | _ :: _, [], _ + 1, h => h.elim
theorem LfsR.take {κ : Key → KE} : ∀ {ls : List Leaf} {vs : List Value} (k : Nat), LfsR κ g w I ls vs → LfsR κ g w I (ls.take k) (vs.take k)
  | ls, vs, 0, h => trivial
  | [], [], k + 1, h => trivial
  | _ :: ls, _ :: vs, k + 1, h => ⟨h.1, LfsR.take k h.2⟩
  | [], _ :: _, _ + 1, h => h.elim
  | _ :: _, [], _ + 1, h => h.elim
theorem LfsR.len {κ : Key → KE} : ∀ {ls : List Leaf} {vs : List Value}, LfsR κ g w I ls vs → vs.length = ls.length
  | [], [], h => rfl
  | _ :: ls, _ :: vs, h => by have := LfsR.len h.2; simp; omega
  | [], _ :: _, h => h.elim
  | _ :: _, [], h => h.elim
theorem unOg_ok {κ : Key → KE} {l : Leaf} {v : Value} (h : LfR κ g w I l v) : LfR κ g w I (unOg l) v := by
  unfold unOg
  split
  · rename_i e
    obtain ⟨h1, h2⟩ := h
    simp only [e] at h2
    exact ⟨h1, h2.1, old_nil _, fun _ => LeafR.mono (depFoot_nil _) (fun _ _ _ => rfl) _ h2.2⟩
  · exact h
theorem unOgs_ok {κ : Key → KE} : ∀ {ls : List Leaf} {vs : List Value}, LfsR κ g w I ls vs → LfsR κ g w I (ls.map unOg) vs
  | [], [], h => trivial
  | _ :: ls, _ :: vs, h => ⟨unOg_ok h.1, unOgs_ok h.2⟩
  | [], _ :: _, h => h.elim
  | _ :: _, [], h => h.elim
theorem leafOf_ok {κ : Key → KE} {deps : List Dep} {lt : LT} {v : Value} {d : T} (ho : Old κ deps) (hi : ∀ b o, I b o → depFoot κ g I deps b o)
    (h : LeafR w (depFoot κ g I deps) lt v d) : LfR κ g w I (leafOf deps lt d) v := by
  unfold leafOf
  cases lt with
  | sl es => exact ⟨h.single, trivial, ho, fun _ => h⟩
  | sc s => refine ⟨h.single, s, rfl, ?_⟩; unfold LeafR at h; exact h
theorem getD_map_range {α β : Type} (f : Nat → α) (n : Nat) : (List.range n).map f = (List.range' 0 n).map f := by rw [List.range_eq_range']
/-- leaves built by place are related to the first values -/
theorem byPlace_ok {κ : Key → KE} {S : Foot} {mk : LT → T → Leaf} (hmk : ∀ lt v d, LeafR w S lt v d → LfR κ g w I (mk lt d) v) :
    ∀ (size : Nat) {es : List LT} {vs : List Value} {ds : List T}, LeavesR w S es vs ds → size ≤ es.length →
    LfsR κ g w I ((List.range size).map fun j => mk (es.getD j default) (ds.getD j dflt)) (vs.take size)
  | 0, es, vs, ds, h, hn => trivial
  | size + 1, [], _, _, h, hn => by simp at hn
  | size + 1, e :: es, [], ds, h, hn => h.elim
  | size + 1, e :: es, v :: vs, [], h, hn => h.elim
  | size + 1, e :: es, v :: vs, d :: ds, h, hn => by
    rw [List.range_succ_eq_map, List.map_cons, List.map_map]
    exact ⟨hmk _ _ _ h.1, byPlace_ok hmk size h.2 (by simpa using hn)⟩

theorem getD_drop {α : Type} (l : List α) (k j : Nat) (d : α) : (l.drop k).getD j d = l.getD (k + j) d := by
  simp [List.getD, List.getElem?_drop]
theorem modeLeaf_ok {κ : Key → KE} {key : Key} {cv : Nat} {lt : LT} {m : M} {v : Value} {d : T} (hm : ∀ x, m ≠ .O x) (h : LeafR w I lt v d) :
    LfR κ g w I (modeLeaf key cv lt m d) v := by
  unfold modeLeaf
  cases lt with
  | sc s =>
    have h' := h
    unfold LeafR at h'
    cases m <;> exact ⟨h.single, s, rfl, h'⟩
  | sl es =>
    have h' : LfR κ g w I ⟨.sn [], .sl es, d⟩ v := ⟨h.single, trivial, old_nil _, fun _ => LeafR.mono (depFoot_nil _) (fun _ _ _ => rfl) _ h⟩
    cases m with
    | O x => exact absurd rfl (hm x)
    | U => exact h'
    | F => exact h'
theorem noO_getD {ms : List M} (h : noO ms) (j : Nat) : ∀ x, ms.getD j .F ≠ .O x := by
  intro x
  rw [List.getD]
  cases hj : ms[j]? with
  | none => simp
  | some m => simpa using h m (List.mem_of_getElem? hj) x
theorem rowLeaves_ok {κ : Key → KE} {key : Key} {cv off size : Nat} {es : List LT} {ms : List M} {row : List T} {vs : List Value} (hm : noO ms)
    (h : LeavesR w I es vs row) (hn : off + size ≤ es.length) : LfsR κ g w I (rowLeaves key cv off size es ms row) ((vs.drop off).take size) := by
  have aux : ∀ (size k : Nat) (es : List LT) (vs : List Value) (ds : List T), LeavesR w I es vs ds → size ≤ es.length →
      LfsR κ g w I ((List.range size).map fun j => modeLeaf key cv (es.getD j default) (ms.getD (k + j) .F) (ds.getD j dflt)) (vs.take size) := by
    intro size
    induction size with
    | zero => intro k es vs ds _ _; trivial
    | succ size ih =>
      intro k es vs ds h hn
      match es, vs, ds, h with
      | e :: es, v :: vs, d :: ds, h =>
        rw [List.range_succ_eq_map, List.map_cons, List.map_map]
        refine ⟨modeLeaf_ok (noO_getD hm _) h.1, ?_⟩
        have := ih (k + 1) es vs ds h.2 (by simpa using hn)
        simpa [Function.comp_def, Nat.add_assoc, Nat.add_comm 1] using this
      | [], _, _, _ => simp at hn
  have := aux size off (es.drop off) (vs.drop off) (row.drop off) (h.drop off) (by rw [List.length_drop]; omega)
  simpa only [getD_drop, rowLeaves] using this

theorem op_load (hΓ : CtxOk Γ P) (hd : dstOk n.np n.nt o = true) (hR : R n σ g I a w) (hK : Post P n I w Q K) {t : TypeId} {x : Operand} (hop : o.op = .load t x)
    (h : (opStep Γ f o).wp cf σ tr Q) : Goal P o a w K Qm := by
  simp only [opStep, hop] at h
  obtain ⟨ti, -, hty, h⟩ := tyOf_wp hΓ h
  obtain ⟨e, t1, he, h⟩ := rd_wp hR h
  -- the end, once the leaves and the cells are told
  have fin : ∀ (b o' : Nat) (vs : List Value) (ls : List Leaf) (t' : Tr), a.eval x = .pointer (some ⟨b, o', none⟩) → CellsAt w b o' vs → vs.length = ti.lts.length →
      LfsR σ.k g w I ls vs → (put o.dst (mkEnt (isAggK ti.kind) ls)).wp cf σ t' Q → Goal P o a w K Qm := by
    intro b o' vs ls t' hx hc hn hl hp
    cases ha : isAggK ti.kind with
    | true =>
      rw [ha] at hp
      exact end_put hd hR hK (run_load_op hop hx ((run_loadVar hty hc hn).1 ha)) (mkEnt_ok (by simpa using hl)) hp
    | false =>
      rw [ha] at hp
      have hn1 := notAgg_len hty ha
      rw [hn1] at hn
      match vs, hn with
      | [v], _ => exact end_put hd hR hK (run_load_op hop hx ((run_loadVar hty hc (by simpa using hn1.symm)).2 ha v rfl)) (mkEnt_ok1 hl) hp
  split at h
  · rename_i key m r off
    obtain ⟨hs, h1, h2⟩ := he
    obtain ⟨h3, h⟩ := h
    obtain ⟨b, o', hx, haddr⟩ := h2 (Nat.eq_of_beq_eq_true h3)
    have hch := hR.chs key
    split at h
    · rename_i ls e
      rw [e] at hch haddr
      obtain ⟨h4, h⟩ := h
      obtain ⟨bb, oo, c, el, fz, hh, hblk, hsz, -, -, hls⟩ := hch
      rw [hh] at haddr
      simp only [addrIn, Option.some.injEq, Prod.mk.injEq] at haddr
      obtain ⟨rfl, rfl⟩ := haddr
      have h5 : off + ti.lts.length ≤ ls.length := Nat.le_of_ble_eq_true h4
      have hcells : ∀ (vs : List Value) (k : Nat), (∀ j (hj : j < vs.length), c[k + j]? = some vs[j]) → CellsAt w bb k vs := by
        intro vs
        induction vs with
        | nil => intro k _; trivial
        | cons v vs ih =>
          intro k hk
          refine ⟨?_, ih (k + 1) fun j hj => ?_⟩
          · have := hk 0 (by simp)
            unfold cellAt World.cell?
            rw [hblk]; simpa using this
          · have := hk (j + 1) (by simpa using hj)
            rwa [show k + (j + 1) = k + 1 + j from by omega] at this
      refine fin bb (oo + off) (((c.toList.drop oo).take ls.length).drop off |>.take ti.lts.length) _ _ hx (hcells _ _ fun j hj => ?_) ?_ (unOgs_ok (LfsR.take _ (LfsR.drop _ hls))) h
      · have hj' : j < ti.lts.length ∧ off + j < ls.length ∧ oo + (off + j) < c.size := by
          simp only [List.length_take, List.length_drop, Array.length_toList] at hj
          omega
        simp only [List.getElem_take, List.getElem_drop, Array.getElem_toList]
        rw [show oo + off + j = oo + (off + j) from by omega]
        exact Array.getElem?_eq_getElem hj'.2.2
      · simp only [List.length_take, List.length_drop, Array.length_toList]
        omega
    · rename_i es ms rows e
      rw [e] at hch haddr
      obtain ⟨h4, h5, h⟩ := h
      have h4 : off + ti.lts.length ≤ es.length := Nat.le_of_ble_eq_true h4
      have h5 : r < rows.length := of_decide_eq_true h5
      obtain ⟨⟨-, -, hown⟩, hno⟩ := hch
      rcases hown with ⟨-, rfl, -⟩ | ⟨bb, cap, c, el, fz, hh, -, -, -, -, -, -, hrows⟩
      · simp at h5
      · rw [hh] at haddr
        simp only [addrIn, chEsz, Option.some.injEq, Prod.mk.injEq, Nat.zero_add] at haddr
        obtain ⟨rfl, rfl⟩ := haddr
        obtain ⟨vs, h6, h7⟩ := (hrows r h5).vals
        have e1 : rows.getD r [] = rows[r] := by simp [h5]
        rw [e1] at h
        refine fin bb _ _ _ _ hx ((h7.drop off).take _) ?_ (rowLeaves_ok hno h6 h4) h
        rw [List.length_take, List.length_drop, h6.len.1]
        omega
    · rename_i es rows e
      rw [e] at hch haddr
      obtain ⟨h4, h5, h⟩ := h
      have h4 : off + ti.lts.length ≤ es.length := Nat.le_of_ble_eq_true h4
      have h5 : r < rows.length := of_decide_eq_true h5
      simp only [ChR] at hch
      unfold LeafR at hch
      obtain ⟨aa, cap, rows', e', hh, -, -, hrows⟩ := hch
      cases e'
      rcases hrows with rfl | ⟨bb, oo, rfl, hrows⟩
      · simp at h5
      · rw [hh] at haddr
        simp only [addrIn, chEsz, Option.some.injEq, Prod.mk.injEq] at haddr
        obtain ⟨rfl, rfl⟩ := haddr
        obtain ⟨vs, h6, h7⟩ := (hrows r h5).vals
        have e1 : rows.getD r [] = rows[r] := by simp [h5]
        rw [e1] at h
        refine fin bb _ _ _ _ hx ((h7.drop off).take _) ?_ (byPlace_ok (fun lt v d hl => leafOf_ok (old_nil _) (depFoot_nil _) (LeafR.mono (depFoot_nil _) (fun _ _ _ => rfl) _ hl)) _ (h6.drop off) (by rw [List.length_drop]; omega)) h
        rw [List.length_take, List.length_drop, h6.len.1]
        omega
    · exact h.elim
  · rename_i deps lts row
    obtain ⟨hs, h1, h2⟩ := he
    obtain ⟨h3, h⟩ := h
    obtain ⟨h4, t', h⟩ := depsOk_wp h
    obtain ⟨b, o', hx, hrow⟩ := h2 h4
    obtain ⟨vs, h5, h6⟩ := hrow.vals
    have hle : ti.lts.length ≤ lts.length := Nat.le_of_ble_eq_true h3
    refine fin b o' (vs.take ti.lts.length) _ _ hx (h6.take _) ?_ (byPlace_ok (fun lt v d hl => leafOf_ok h1 (fun _ _ h => .inl h) hl) _ h5 hle) h
    rw [List.length_take, h5.len.1]
    omega
  · exact h.elim
end
end Go.E

namespace Go.E
open Go

section
variable {Γ : Ctx} {P : Program} {w : World} {ρ : Operand → Value} {o : Oper}
theorem run_fieldAddr {t : TypeId} {x : Operand} {i b o' : Nat} {fields : Array Field} {fd : Field} {j : TypeInfo} (hop : o.op = .fieldAddr t x i) (hx : ρ x = .pointer (some ⟨b, o', none⟩))
    (hu : P.underlying t = some (.struct fields)) (hf : fields[i]? = some fd) (hi : P.info? fd.type = some j) (h0 : j.size ≠ 0) :
    (execOp ρ o).run P w = .ok (.value (.pointer (some ⟨b, o' + fd.offset, none⟩))) w := by
  have h1 : (Instr.fieldAt t (ρ x) i).run P w = .ok (.pointer (some ⟨b, o' + fd.offset, none⟩)) w := by
    have h2 : (sizeOf fd.type).run P w = .ok j.size w := by simp [sizeOf, typeInfo, hi, go_sem]
    simp only [Instr.fieldAt, hx, Instr.sureAddr, Sem.run_bind, run_underlying hu, Result.andThen_ok, hf, pure_bind, fieldPlace, h2, h0, if_false, addr_add]
    rfl
  simp only [execOp, hop]
  rw [Sem.run_bind, h1]
  rfl
theorem run_field {t : TypeId} {x : Operand} {i : Nat} {fields : Array Field} {fd : Field} {cs : Array Value} {v : Value} (hop : o.op = .field t x i) (hx : ρ x = .agg cs)
    (hu : P.underlying t = some (.struct fields)) (hf : fields[i]? = some fd) (hp : (part fd.type cs fd.offset).run P w = .ok v w) :
    (execOp ρ o).run P w = .ok (.value v) w := by
  have h1 : (Instr.field t (ρ x) i).run P w = .ok v w := by
    simp only [Instr.field, hx, asAgg, Sem.run_bind, run_underlying hu, Result.andThen_ok, hf, pure_bind]
    exact hp
  simp only [execOp, hop]
  rw [Sem.run_bind, h1]
  rfl
theorem run_indexAddr {t e : TypeId} {x ix : Operand} {b o' len cap : Nat} {k : IntKind} {i : Int} {sz : Nat} (hop : o.op = .indexAddr t x ix)
    (hx : ρ x = .slice (some ⟨b, o', none⟩) len cap) (hi : ρ ix = .int k i) (hu : P.underlying t = some (.slice e)) (hs : (sizeOf e).run P w = .ok sz w) (h : 0 ≤ i ∧ i < len) :
    (execOp ρ o).run P w = .ok (.value (.pointer (some ⟨b, o' + i.toNat * sz, none⟩))) w := by
  have h1 : (Instr.indexAt t (ρ x) (ρ ix)).run P w = .ok (.pointer (some ⟨b, o' + i.toNat * sz, none⟩)) w := by
    simp only [Instr.indexAt, hx, hi, asIntOf, Sem.run_bind, run_underlying hu, Result.andThen_ok, pure_bind, h, and_self, if_true, hs, addr_add, Sem.run_pure]
  simp only [execOp, hop]
  rw [Sem.run_bind, h1]
  rfl
theorem run_index {t : TypeId} {x ix : Operand} {k : IntKind} {i : Int} {s : ByteArray} (hop : o.op = .index t x ix)
    (hx : ρ x = .string s) (hi : ρ ix = .int k i) (hu : P.underlying t = some .string) (h : 0 ≤ i ∧ i < s.size) :
    (execOp ρ o).run P w = .ok (.value (.int .u8 (s.data.toList.getD i.toNat 0).toNat)) w := by
  have hlt : i.toNat < s.size := by omega
  have hs : s[i.toNat]? = some (s.data.toList.getD i.toNat 0) := by
    rw [getElem?_pos s i.toNat hlt]
    have : i.toNat < s.data.toList.length := by simpa using hlt
    rw [List.getD, List.getElem?_eq_getElem this]
    rfl
  have h1 : (Instr.index t (ρ x) (ρ ix)).run P w = .ok (.int .u8 (s.data.toList.getD i.toNat 0).toNat) w := by
    simp only [Instr.index, hx, hi, asIntOf, Sem.run_bind, run_underlying hu, Result.andThen_ok, pure_bind, h.1, if_true, hs, Sem.run_pure]
  simp only [execOp, hop]
  rw [Sem.run_bind, h1]
  rfl
theorem run_makeFunc {fn : FuncId} {cs : Array Operand} (hop : o.op = .makeFunc (.func fn) #[] cs) :
    (execOp ρ o).run P w = .ok (.value (.func (.func fn) #[] (cs.map ρ))) w := by
  simp only [execOp, hop]
  rw [Sem.run_bind]
  simp [Instr.makeFunc]
theorem run_builtin {b : Builtin} {c : Call} {v : Value} (hop : o.op = .call c) (hc : c.callee = .builtin b)
    (h : (builtin b c.argTypes o.type (c.args.map fun | .const _ => true | _ => false) (c.args.map ρ)).run P w = .ok (.value v) w) :
    (execOp ρ o).run P w = .ok (.value v) w := by
  simp only [execOp, hop]
  rw [Sem.run_bind]
  simp only [resolve, hc]
  exact h
end

section
variable {Γ : Ctx} {P : Program} {cf : FuncId → List Arg → R3 Ret}
variable {n : Fr} {σ : S} {g : Gh} {I : Foot} {a : Act} {w : World}
variable {o : Oper} {f : FuncId} {tr : Tr} {Q : S → Tr → Prop} {K : Act → World → Prop} {Qm : Exit → Act → World → Prop}

def EntsR (κ : Key → KE) (g : Gh) (w : World) (I : Foot) : List Ent → List Value → Prop
  | [], [] => True
  | l :: ls, v :: vs => EntR κ g w I l v ∧ EntsR κ g w I ls vs
  | _, _ => False
theorem rdAll_wp (hR : R n σ g I a w) : ∀ {xs : List Operand} {k : List Ent → Prog} {tr : Tr}, (rdAll xs k).wp cf σ tr Q →
    ∃ es tr', EntsR σ.k g w I es (xs.map a.eval) ∧ (k es).wp cf σ tr' Q
  | [], k, tr, h => ⟨[], tr, trivial, h⟩
  | x :: xs, k, tr, h => by
    obtain ⟨e, t1, he, h⟩ := rd_wp hR h
    obtain ⟨es, t2, hes, h⟩ := rdAll_wp hR (xs := xs) h
    exact ⟨e :: es, t2, ⟨he, hes⟩, h⟩

theorem kind_struct {t : TypeId} {ti : TI} {fs : List (Nat × TypeId)} (h : TyOk Γ P t ti) (hk : ti.kind = .struct fs) :
    ∃ fields, P.underlying t = some (.struct fields) ∧ ∀ (i off : Nat) (ft : TypeId), fs[i]? = some (off, ft) → ∃ fd j, fields[i]? = some fd ∧ fd.offset = off ∧ fd.type = ft ∧ P.info? ft = some j ∧ j.size ≠ 0 := by
  obtain ⟨d, h1, h2⟩ := h.und
  rw [hk] at h2
  obtain ⟨fields, rfl, rfl, h3⟩ := h2
  refine ⟨fields, h1, fun i off ft hi => ?_⟩
  simp only [List.getElem?_map, Option.map_eq_some_iff, Prod.mk.injEq] at hi
  obtain ⟨fd, hfd, rfl, rfl⟩ := hi
  obtain ⟨j, hj, hj0⟩ := h3 fd (List.mem_of_getElem? hfd)
  exact ⟨fd, j, by simpa using hfd, rfl, rfl, hj, hj0⟩
theorem kind_slice {t e : TypeId} {ti : TI} (h : TyOk Γ P t ti) (hk : ti.kind = .slice e) :
    P.underlying t = some (.slice e) ∧ ∃ te, Γ.ty e = some te ∧ ti.lts = [.sl te.lts] ∧ te.lts ≠ [] := by
  obtain ⟨d, h1, h2⟩ := h.und
  rw [hk] at h2
  obtain ⟨rfl, h3⟩ := h2
  exact ⟨h1, h3⟩
theorem kind_str {t : TypeId} {ti : TI} (h : TyOk Γ P t ti) (hk : ti.kind = .sc .str) : P.underlying t = some .string := by
  obtain ⟨d, h1, h2⟩ := h.und
  rw [hk] at h2
  rw [h1, h2.1]
theorem isStrK_eq {k : TK} (h : isStrK k = true) : k = .sc .str := by
  unfold isStrK at h
  split at h
  · rfl
  · cases h
theorem isSliceK_eq {k : TK} (h : isSliceK k = true) : ∃ e, k = .slice e := by
  unfold isSliceK at h
  split at h
  · exact ⟨_, rfl⟩
  · cases h

theorem op_fieldAddr (hΓ : CtxOk Γ P) (hd : dstOk n.np n.nt o = true) (hR : R n σ g I a w) (hK : Post P n I w Q K) {t : TypeId} {x : Operand} {i : Nat} (hop : o.op = .fieldAddr t x i)
    (h : (opStep Γ f o).wp cf σ tr Q) : Goal P o a w K Qm := by
  simp only [opStep, hop] at h
  obtain ⟨ti, -, hty, h⟩ := tyOf_wp hΓ h
  obtain ⟨e, t1, he, h⟩ := rd_wp hR h
  split at h
  · rename_i fs hk
    obtain ⟨⟨off, ft⟩, hfs, h⟩ := ofOpt_wp h
    obtain ⟨fields, hu, hfd⟩ := kind_struct hty hk
    obtain ⟨fd, j, h1, rfl, rfl, h2, h3⟩ := hfd i off ft hfs
    split at h
    · rename_i k m r oo _
      obtain ⟨hs, h4, h5⟩ := he
      obtain ⟨h6, h⟩ := h
      obtain ⟨b, o', hx, ha⟩ := h5 (Nat.eq_of_beq_eq_true h6)
      refine end_put hd hR hK (run_fieldAddr hop hx hu h1 h2 h3) (e := .ptr k m r (oo + fd.offset)) ⟨⟨fun _ h => (nomatch h), fun _ h => (nomatch h)⟩, h4, fun _ => ⟨b, o' + fd.offset, rfl, ?_⟩⟩ h
      unfold addrIn at ha ⊢
      split at ha
      · cases ha; simp [Nat.add_assoc]
      · cases ha; simp [Nat.add_assoc]
      · cases ha
    · rename_i deps lts row _
      obtain ⟨hs, h4, h5⟩ := he
      obtain ⟨h8, h⟩ := h
      obtain ⟨h6, t2, h⟩ := depsOk_wp h
      obtain ⟨b, o', hx, ha⟩ := h5 h6
      refine end_put hd hR hK (run_fieldAddr hop hx hu h1 h2 h3) (e := .rp deps (lts.drop fd.offset) (row.drop fd.offset)) ⟨⟨fun _ h => (nomatch h), fun _ h => (nomatch h)⟩, h4, fun _ => ⟨b, o' + fd.offset, rfl, ?_⟩⟩ h
      have drop : ∀ (k : Nat) {es : List LT} {o : Nat} {row : List T}, k ≤ es.length → RowR w (depFoot σ.k g I deps) (depFoot σ.k g I deps) es b o row → RowR w (depFoot σ.k g I deps) (depFoot σ.k g I deps) (es.drop k) b (o + k) (row.drop k) := by
        intro k
        induction k with
        | zero => intro es o row _ h; exact h
        | succ k ih =>
          intro es o row hk h
          cases es with
          | nil => simp at hk
          | cons e es =>
            unfold RowR at h
            obtain ⟨d, rest, v, rfl, -, -, -, h⟩ := h
            have := ih (by simpa using hk) h
            rwa [show o + 1 + k = o + (k + 1) from by omega] at this
      exact drop _ (Nat.le_of_ble_eq_true h8) ha
    · exact h.elim
  · exact h.elim

theorem op_field (hΓ : CtxOk Γ P) (hd : dstOk n.np n.nt o = true) (hR : R n σ g I a w) (hK : Post P n I w Q K) {t : TypeId} {x : Operand} {i : Nat} (hop : o.op = .field t x i)
    (h : (opStep Γ f o).wp cf σ tr Q) : Goal P o a w K Qm := by
  simp only [opStep, hop] at h
  obtain ⟨ti, -, hty, h⟩ := tyOf_wp hΓ h
  obtain ⟨e, t1, he, h⟩ := rd_wp hR h
  split at h
  · rename_i fs ls hk
    obtain ⟨⟨off, ft⟩, hfs, h⟩ := ofOpt_wp h
    obtain ⟨tf, -, htf, h⟩ := tyOf_wp hΓ h
    obtain ⟨fields, hu, hfd⟩ := kind_struct hty hk
    obtain ⟨fd, j, h1, rfl, rfl, h2, h3⟩ := hfd i off ft hfs
    obtain ⟨cs, hx, hls⟩ := he
    obtain ⟨h4, h⟩ := h
    have h4 : fd.offset + tf.lts.length ≤ ls.length := Nat.le_of_ble_eq_true h4
    have hlen := hls.len
    cases ha : isAggK tf.kind with
    | true =>
      rw [ha] at h
      refine end_put hd hR hK (run_field hop hx hu h1 (v := .agg (cs.extract fd.offset (fd.offset + tf.lts.length))) ?_) (mkEnt_ok ?_) h
      · simp [part, run_isAgg htf, ha, run_sizeOf htf]
      · have := (hls.drop fd.offset).take tf.lts.length
        simpa [Array.toList_extract, List.extract_eq_take_drop, Nat.add_sub_cancel_left] using this
    | false =>
      rw [ha] at h
      have h1' := notAgg_len htf ha
      have hlt : fd.offset < cs.size := by simp at hlen; omega
      refine end_put hd hR hK (run_field hop hx hu h1 (v := cs[fd.offset]) ?_) (mkEnt_ok1 ?_) h
      · simp [part, run_isAgg htf, ha, hlt]
      · have := (hls.drop fd.offset).take tf.lts.length
        rw [h1'] at this ⊢
        have e : (List.drop fd.offset cs.toList).take 1 = [cs[fd.offset]] := by
          rw [List.drop_eq_getElem_cons (by simpa using hlt)]
          rfl
        rwa [e] at this
  · exact h.elim

theorem op_indexAddr (hΓ : CtxOk Γ P) (hd : dstOk n.np n.nt o = true) (hR : R n σ g I a w) (hK : Post P n I w Q K) {t : TypeId} {x i : Operand} (hop : o.op = .indexAddr t x i)
    (h : (opStep Γ f o).wp cf σ tr Q) : Goal P o a w K Qm := by
  simp only [opStep, hop] at h
  obtain ⟨ti, -, hty, h⟩ := tyOf_wp hΓ h
  obtain ⟨e, t1, he, h⟩ := rd_wp hR h
  obtain ⟨ei, t2, hei, h⟩ := rd_wp hR h
  obtain ⟨s, d, rfl, hv, h⟩ := scal_wp hei h
  split at h
  · rename_i _ el tes l hk htes _ _
    obtain ⟨ix, hix, rfl, -⟩ := hv
    obtain ⟨hu, te, hte, hl, -⟩ := kind_slice hty hk
    have hsz := run_sizeOf (w := w) (hΓ.ty _ _ hte)
    rw [htes] at hl
    simp only [List.cons.injEq, LT.sl.injEq, and_true] at hl
    subst hl
    -- the end
    have fin : ∀ (es : List LT) (rows : List (List T)) (S : Foot), LeafR w S (.sl es) (a.eval x) (.l rows) → es.length = te.lts.length → 0 ≤ ix ∧ ix < rows.length →
        ∃ b oo len cap, a.eval x = .slice (some ⟨b, oo, none⟩) len cap ∧ (execOp a.eval o).run P w = .ok (.value (.pointer (some ⟨b, oo + ix.toNat * es.length, none⟩))) w ∧
          ∀ (hi : ix.toNat < rows.length), RowR w S S es b (oo + ix.toNat * es.length) rows[ix.toNat] := by
      intro es rows S hleaf hlen hb
      unfold LeafR at hleaf
      obtain ⟨aa, cap, rows', e1, hv, -, -, hrows⟩ := hleaf
      cases e1
      rcases hrows with rfl | ⟨b, oo, rfl, hrows⟩
      · simp at hb; omega
      · refine ⟨b, oo, _, _, hv, ?_, fun hi => hrows _ hi⟩
        rw [hlen]
        exact run_indexAddr hop hv hix hu hsz hb
    split at h
    · rename_i key m hst
      obtain ⟨hs, hl⟩ := he
      simp only [hst] at hl
      obtain ⟨-, h1, h2⟩ := hl
      obtain ⟨h3, h⟩ := h
      have hid := Nat.eq_of_beq_eq_true h3
      have hval := h2 hid
      have hch := hR.chs key
      split at h
      · rename_i es ms rows e
        rw [e] at hch
        obtain ⟨h4, h5, h⟩ := h
        obtain ⟨b, oo, len, cap, hv, hrun, -⟩ := fin es rows (fun _ _ => True) (by rw [hval]; exact LeafR.mono (fun _ _ _ => trivial) (fun _ _ _ => rfl) _ (hch.1.leaf (S := fun _ _ => True) (fun _ _ _ => trivial) (fun _ _ _ => trivial)))
          (Nat.eq_of_beq_eq_true h4) (of_decide_eq_true h5)
        refine end_put hd hR hK hrun (e := .ptr key m ix.toNat 0) ⟨⟨fun _ h => (nomatch h), fun _ h => (nomatch h)⟩, h1, fun _ => ⟨b, _, rfl, ?_⟩⟩ h
        rw [← hval, hv, e]
        simp [addrIn, chEsz]
      · rename_i es rows e
        rw [e] at hch
        obtain ⟨h4, h5, h⟩ := h
        obtain ⟨b, oo, len, cap, hv, hrun, -⟩ := fin es rows I (by rw [hval]; exact hch) (Nat.eq_of_beq_eq_true h4) (of_decide_eq_true h5)
        refine end_put hd hR hK hrun (e := .ptr key m ix.toNat 0) ⟨⟨fun _ h => (nomatch h), fun _ h => (nomatch h)⟩, h1, fun _ => ⟨b, _, rfl, ?_⟩⟩ h
        rw [← hval, hv, e]
        simp [addrIn, chEsz]
      · exact h.elim
    · obtain ⟨es, rows, deps, t', h, h1, h2, h3⟩ := viewSl_wp hR he h
      obtain ⟨h4, h5, h⟩ := h
      have hb := of_decide_eq_true h5
      simp only [T.int] at hb
      obtain ⟨b, oo, len, cap, hv, hrun, hrow⟩ := fin es rows _ h1 (Nat.eq_of_beq_eq_true h4) hb
      have hlt : ix.toNat < rows.length := by omega
      refine end_put hd hR hK hrun (e := .rp deps es (rows.getD ix.toNat [])) ⟨⟨fun _ h => (nomatch h), fun _ h => (nomatch h)⟩, h3, fun _ => ⟨b, _, rfl, ?_⟩⟩ h
      have e1 : rows.getD ix.toNat [] = rows[ix.toNat] := by simp [hlt]
      rw [e1]
      exact hrow hlt
  · exact h.elim

theorem op_index (hΓ : CtxOk Γ P) (hd : dstOk n.np n.nt o = true) (hR : R n σ g I a w) (hK : Post P n I w Q K) {t : TypeId} {x i : Operand} (hop : o.op = .index t x i)
    (h : (opStep Γ f o).wp cf σ tr Q) : Goal P o a w K Qm := by
  simp only [opStep, hop] at h
  obtain ⟨ti, -, hty, h⟩ := tyOf_wp hΓ h
  obtain ⟨e, t1, he, h⟩ := rd_wp hR h
  obtain ⟨ei, t2, hei, h⟩ := rd_wp hR h
  obtain ⟨s, d, rfl, hv, h⟩ := scal_wp he h
  obtain ⟨s', d', rfl, hv', h⟩ := scal_wp hei h
  split at h
  · have hk : ti.kind = .sc .str := by assumption
    obtain ⟨str, hs, rfl, -⟩ := hv
    obtain ⟨ix, hix, rfl, -⟩ := hv'
    obtain ⟨h1, h⟩ := h
    have h1 := of_decide_eq_true h1
    simp only [T.int, T.str] at h1
    refine end_sc hd hR hK (s := .int .u8) (run_index hop hs hix (kind_str hty hk) h1) ⟨_, rfl, rfl, ?_⟩ h
    have := UInt8.toNat_lt (str.data.toList.getD ix.toNat 0)
    simp only [IntKind.min, IntKind.max, IntKind.bits, IntKind.signed]
    constructor
    · simp
    · simp only [Bool.false_eq_true, if_false]
      omega
  · exact h.elim

theorem op_makeFunc (hd : dstOk n.np n.nt o = true) (hR : R n σ g I a w) (hK : Post P n I w Q K) {fn : FuncId} {fs cs : Array Operand} (hop : o.op = .makeFunc (.func fn) fs cs)
    (h : (opStep Γ f o).wp cf σ tr Q) : Goal P o a w K Qm := by
  simp only [opStep, hop] at h
  cases he : fs.isEmpty with
  | false => simp only [he, cond_false] at h; exact h.elim
  | true =>
    simp only [he, cond_true] at h
    have hfs : fs = #[] := by simpa using he
    subst hfs
    obtain ⟨es, t', hes, h⟩ := rdAll_wp hR h
    obtain ⟨h1, h⟩ := h
    refine end_put hd hR hK (run_makeFunc hop) (e := .fn fn es) ⟨_, rfl, ?_⟩ h
    have aux : ∀ (es : List Ent) (vs : List Value), EntsR σ.k g w I es vs → es.all flatEnt = true → Ents0R σ.k g w I es vs := by
      intro es
      induction es with
      | nil => intro vs h _; cases vs with | nil => trivial | cons => exact h.elim
      | cons e es ih =>
        intro vs h hf
        cases vs with
        | nil => exact h.elim
        | cons v vs =>
          simp only [List.all_cons, Bool.and_eq_true] at hf
          refine ⟨?_, ih vs h.2 hf.2⟩
          have h1 := h.1
          cases e <;> first | exact h1 | (simp [flatEnt] at hf)
    simpa using aux es _ hes h1
end
end Go.E

namespace Go.E
open Go

section
variable {Γ : Ctx} {P : Program} {w : World} {ρ : Operand → Value} {o : Oper}
theorem run_len_str {t : TypeId} {ts : Array TypeId} {ty : TypeId} {s : ByteArray} (ht : ts[0]? = some t) (hu : P.underlying t = some .string) :
    (Builtin.len_ ts ty #[.string s]).run P w = .ok (.int .i64 s.size) w := by
  simp [Builtin.len_, ht, run_underlying hu, goInt]
theorem run_len_slice {t e : TypeId} {ts : Array TypeId} {ty : TypeId} {a : Option Addr} {len cap : Nat} (ht : ts[0]? = some t) (hu : P.underlying t = some (.slice e)) :
    (Builtin.len_ ts ty #[.slice a len cap]).run P w = .ok (.int .i64 len) w := by
  simp [Builtin.len_, ht, run_underlying hu, goInt]
theorem run_builtin_len {c : Call} {v : Value} (hop : o.op = .call c) (hc : c.callee = .builtin .len)
    (h : (Builtin.len_ c.argTypes o.type (c.args.map ρ)).run P w = .ok v w) :
    (execOp ρ o).run P w = .ok (.value v) w := by
  refine run_builtin hop hc ?_
  simp only [builtin]
  rw [Sem.run_bind, h]
  rfl
theorem run_bound {v : Value} {k : IntKind} {i : Int} {y : Nat} {code : BoundsCode} (hv : v = .int k i) (h : 0 ≤ i ∧ i ≤ y) :
    (Instr.sliceBound v y code).run P w = .ok i.toNat w := by
  subst hv
  simp [Instr.sliceBound, asIntOf, h]
def OptIs (o : Option Value) (d x : Int) : Prop := (o = none ∧ x = d) ∨ ∃ k, o = some (.int k x)
theorem run_bounds {sl : Bool} {len cap : Nat} {lo hi : Option Value} {l h : Int} (hlo : OptIs lo 0 l) (hhi : OptIs hi len h) (h1 : 0 ≤ h ∧ h ≤ len) (h2 : 0 ≤ l ∧ l ≤ h) (hc : len ≤ cap) :
    (Instr.sliceBounds sl len cap lo hi none).run P w = .ok (l.toNat, h.toNat, cap) w := by
  have h3 : 0 ≤ h ∧ h ≤ (cap : Int) := ⟨h1.1, by omega⟩
  have h4 : 0 ≤ l ∧ l ≤ (h.toNat : Int) := ⟨h2.1, by omega⟩
  rcases hlo with ⟨rfl, rfl⟩ | ⟨k, rfl⟩ <;> rcases hhi with ⟨rfl, rfl⟩ | ⟨k', rfl⟩
  · simp [Instr.sliceBounds]
  · simp [Instr.sliceBounds, run_bound rfl h3]
  · simp only [Instr.sliceBounds, pure_bind, Sem.run_bind]
    simp only [Sem.run_pure, Result.andThen_ok]
    have h5 : 0 ≤ l ∧ l ≤ (len : Int) := by omega
    simp [run_bound rfl h5]
  · simp only [Instr.sliceBounds, pure_bind, Sem.run_bind]
    simp [run_bound rfl h3, run_bound rfl h4]
theorem run_slice_str {t : TypeId} {x : Operand} {lo hi : Option Operand} {s : ByteArray} {l h : Int} (hop : o.op = .slice t x lo hi none) (hx : ρ x = .string s)
    (hu : P.underlying t = some .string) (hlo : OptIs (lo.map ρ) 0 l) (hhi : OptIs (hi.map ρ) s.size h) (h1 : 0 ≤ h ∧ h ≤ s.size) (h2 : 0 ≤ l ∧ l ≤ h) :
    (execOp ρ o).run P w = .ok (.value (.string (s.extract l.toNat h.toNat))) w := by
  have h3 : (Instr.sliceAt t (ρ x) (lo.map ρ) (hi.map ρ) none).run P w = .ok (.string (s.extract l.toNat h.toNat)) w := by
    simp only [Instr.sliceAt, Sem.run_bind, run_underlying hu, Result.andThen_ok, Instr.slice, hx]
    simp [run_bounds (P := P) (w := w) (sl := false) hlo hhi h1 h2 (Nat.le_refl _)]
  simp only [execOp, hop]
  rw [Sem.run_bind, show (none : Option Operand).map ρ = none from rfl, h3]
  rfl
theorem run_slice_sl {t e : TypeId} {x : Operand} {lo hi : Option Operand} {aa : Option Addr} {len cap sz : Nat} {l h : Int} (hop : o.op = .slice t x lo hi none) (hx : ρ x = .slice aa len cap)
    (hu : P.underlying t = some (.slice e)) (hs : (sizeOf e).run P w = .ok sz w) (hlo : OptIs (lo.map ρ) 0 l) (hhi : OptIs (hi.map ρ) len h) (h1 : 0 ≤ h ∧ h ≤ len) (h2 : 0 ≤ l ∧ l ≤ h) (hc : len ≤ cap) :
    (execOp ρ o).run P w = .ok (.value (.slice (if cap = l.toNat then aa else aa.map (·.add (l.toNat * sz))) (h.toNat - l.toNat) (cap - l.toNat))) w := by
  have h3 : (Instr.sliceAt t (ρ x) (lo.map ρ) (hi.map ρ) none).run P w = .ok (.slice (if cap = l.toNat then aa else aa.map (·.add (l.toNat * sz))) (h.toNat - l.toNat) (cap - l.toNat)) w := by
    simp only [Instr.sliceAt, Sem.run_bind, run_underlying hu, Result.andThen_ok, Instr.slice, hx]
    simp [run_bounds (P := P) (w := w) (sl := true) hlo hhi h1 h2 hc, hs]
  simp only [execOp, hop]
  rw [Sem.run_bind, show (none : Option Operand).map ρ = none from rfl, h3]
  rfl
end

section
variable {Γ : Ctx} {P : Program} {cf : FuncId → List Arg → R3 Ret}
variable {n : Fr} {σ : S} {g : Gh} {I : Foot} {a : Act} {w : World}
variable {o : Oper} {f : FuncId} {tr : Tr} {Q : S → Tr → Prop} {K : Act → World → Prop} {Qm : Exit → Act → World → Prop}

theorem entsR_one {κ : Key → KE} {e : Ent} {vs : List Value} (h : EntsR κ g w I [e] vs) : ∃ v, vs = [v] ∧ EntR κ g w I e v := by
  match vs, h with
  | [v], h => exact ⟨v, rfl, h.1⟩
theorem leafSl {S : Foot} {es : List LT} {v : Value} {rows : List (List T)} (h : LeafR w S (.sl es) v (.l rows)) :
    ∃ aa cap, v = .slice aa rows.length cap ∧ rows.length ≤ cap ∧ rows.length ≤ maxCells ∧
      (rows = [] ∨ ∃ b o, aa = some ⟨b, o, none⟩ ∧ ∀ i (h : i < rows.length), RowR w S S es b (o + i * es.length) rows[i]) := by
  unfold LeafR at h
  obtain ⟨aa, cap, rows', e1, hv, h1, h2, h3⟩ := h
  cases e1
  exact ⟨aa, cap, hv, h1, h2, h3⟩
theorem leafSl_mk {S : Foot} {es : List LT} {aa : Option Addr} {cap : Nat} {rows : List (List T)} (h1 : rows.length ≤ cap) (h2 : rows.length ≤ maxCells)
    (h3 : rows = [] ∨ ∃ b o, aa = some ⟨b, o, none⟩ ∧ ∀ i (h : i < rows.length), RowR w S S es b (o + i * es.length) rows[i]) : LeafR w S (.sl es) (.slice aa rows.length cap) (.l rows) := by
  unfold LeafR
  exact ⟨aa, cap, rows, rfl, rfl, h1, h2, h3⟩

theorem end_setS {e : Ent} {v : Value} {d0 : Nat} (hdst : o.dst = some d0) (hd : dstOk n.np n.nt o = true) (hR : R n σ g I a w) (hK : Post P n I w Q K)
    (hrun : (execOp a.eval o).run P w = .ok (.value v) w) (he : EntR σ.k g w I e v) (h : (Prog.setS d0 e .ret).wp cf σ tr Q) : Goal P o a w K Qm :=
  end_put hd hR hK hrun he (by unfold put; rw [hdst]; exact h)
theorem op_len (hΓ : CtxOk Γ P) (hd : dstOk n.np n.nt o = true) (hR : R n σ g I a w) (hK : Post P n I w Q K) {c : Call} (hop : o.op = .call c) (hc : c.callee = .builtin .len)
    (h : (opStep Γ f o).wp cf σ tr Q) : Goal P o a w K Qm := by
  simp only [opStep, hop, hc] at h
  obtain ⟨t, ht, h⟩ := ofOpt_wp h
  obtain ⟨ti, -, hty, h⟩ := tyOf_wp hΓ h
  obtain ⟨es, t1, hes, h⟩ := rdAll_wp hR h
  split at h
  · rename_i l _ _
    obtain ⟨v, hv, hl⟩ := entsR_one hes
    have hargs : c.args.map a.eval = #[v] := by
      apply Array.toList_inj.1; simpa using hv
    split at h
    · rename_i hst hlt
      obtain ⟨hk, h⟩ := h
      obtain ⟨hs, hl⟩ := hl
      simp only [hst] at hl
      obtain ⟨s, e1, hl⟩ := hl
      rw [hlt] at e1
      cases e1
      obtain ⟨s, rfl, hd', hsz⟩ := hl
      rw [hd'] at h
      refine end_sc hd hR hK (s := .int .i64) (run_builtin_len hop hc (by rw [hargs]; exact run_len_str ht (kind_str hty (isStrK_eq hk)))) ⟨_, rfl, rfl, ?_⟩ h
      have e1 : IntKind.i64.min = -9223372036854775808 := by decide
      rw [e1, i64max]
      simp only [T.str]
      omega
    · obtain ⟨hk, h⟩ := h
      obtain ⟨es, rows, deps, t', h, hleaf, -, -⟩ := viewSl_wp hR hl h
      obtain ⟨aa, cap, rfl, h1, h2, -⟩ := leafSl hleaf
      obtain ⟨e, hk⟩ := isSliceK_eq hk
      obtain ⟨hu, -⟩ := kind_slice hty hk
      have h := h (decide_eq_true h2)
      refine end_sc hd hR hK (s := .int .i64) (run_builtin_len hop hc (by rw [hargs]; exact run_len_slice ht hu)) ⟨_, rfl, rfl, ?_⟩ h
      have e1 : IntKind.i64.min = -9223372036854775808 := by decide
      unfold maxCells at h2
      rw [e1, i64max]
      omega
  · exact h.elim

/-- a bound of a slice expression -/
theorem bound_ok (hR : R n σ g I a w) {e : Ent} {v : Value} {k : Int → Prog} (he : EntR σ.k g w I e v)
    (h : (scal e fun s t => match s with | .int _ => k t.int | _ => .fail).wp cf σ tr Q) : ∃ kd x, v = .int kd x ∧ (k x).wp cf σ tr Q := by
  obtain ⟨s, d, rfl, hv, h⟩ := scal_wp he h
  split at h
  · obtain ⟨x, hx, rfl, -⟩ := hv
    exact ⟨_, x, hx, h⟩
  · exact h.elim

theorem bounds_wp (hR : R n σ g I a w) (lo hi : Option Operand) {elo ehi : Option Ent} {nn : Nat} {k : Int → Int → Prog}
    (hlo : ∀ x, lo = some x → ∃ e, elo = some e ∧ EntR σ.k g w I e (a.eval x)) (hlo' : lo = none → elo = none)
    (hhi : ∀ x, hi = some x → ∃ e, ehi = some e ∧ EntR σ.k g w I e (a.eval x)) (hhi' : hi = none → ehi = none)
    (h : (sliceBound ehi nn fun h => sliceBound elo 0 fun a => k h a).wp cf σ tr Q) :
    ∃ l hh, OptIs (lo.map a.eval) 0 l ∧ OptIs (hi.map a.eval) nn hh ∧ (k hh l).wp cf σ tr Q := by
  have one : ∀ (x : Option Operand) (e : Option Ent) (d : Int) (k : Int → Prog), (∀ y, x = some y → ∃ e', e = some e' ∧ EntR σ.k g w I e' (a.eval y)) → (x = none → e = none) →
      (sliceBound e d k).wp cf σ tr Q → ∃ v, OptIs (x.map a.eval) d v ∧ (k v).wp cf σ tr Q := by
    intro x e d k h1 h2 h
    cases x with
    | none => rw [h2 rfl] at h; exact ⟨d, .inl ⟨rfl, rfl⟩, h⟩
    | some y =>
      obtain ⟨e', rfl, he⟩ := h1 y rfl
      obtain ⟨kd, v, hv, h⟩ := bound_ok hR he h
      exact ⟨v, .inr ⟨kd, by simp [hv]⟩, h⟩
  obtain ⟨hh, h1, h⟩ := one hi ehi nn _ hhi hhi' h
  obtain ⟨l, h2, h⟩ := one lo elo 0 _ hlo hlo' h
  exact ⟨l, hh, h2, h1, h⟩

/-- a part of a row that is read -/
theorem leaf_part {S : Foot} {es : List LT} {aa : Option Addr} {cap : Nat} {rows : List (List T)} {l h : Nat} (hl : LeafR w S (.sl es) (.slice aa rows.length cap) (.l rows)) (h1 : h ≤ rows.length) (h2 : l ≤ h) :
    LeafR w S (.sl es) (.slice (if cap = l then aa else aa.map (·.add (l * es.length))) (h - l) (cap - l)) (.l ((rows.take h).drop l)) := by
  obtain ⟨aa', cap', e1, h3, h4, h5⟩ := leafSl hl
  cases e1
  have hlen : ((rows.take h).drop l).length = h - l := by simp; omega
  rw [← hlen]
  refine leafSl_mk (by omega) (by omega) ?_
  by_cases hz : h = l
  · left; apply List.length_eq_zero_iff.1; omega
  · rcases h5 with rfl | ⟨b, o, rfl, h5⟩
    · simp at h1; omega
    · right
      have hne : cap ≠ l := by omega
      refine ⟨b, o + l * es.length, by simp [hne, addr_add], fun i hi => ?_⟩
      have hi' : i + l < rows.length := by omega
      have := h5 (l + i) (by omega)
      have e1 : (List.drop l (List.take h rows))[i] = rows[l + i] := by
        simp [List.getElem_drop, List.getElem_take]
      rw [e1, Nat.add_assoc, ← Nat.add_mul]
      exact this

theorem op_slice_read (hΓ : CtxOk Γ P) (hd : dstOk n.np n.nt o = true) (hR : R n σ g I a w) (hK : Post P n I w Q K) {t : TypeId} {ti : TI} {x : Operand} {lo hi : Option Operand} {d0 : Nat} (hop : o.op = .slice t x lo hi none)
    (hdst : o.dst = some d0) (hty : TyOk Γ P t ti) {e : Ent} (he : EntR σ.k g w I e (a.eval x)) {elo ehi : Option Ent}
    (hlo : ∀ x, lo = some x → ∃ e, elo = some e ∧ EntR σ.k g w I e (a.eval x)) (hlo' : lo = none → elo = none)
    (hhi : ∀ x, hi = some x → ∃ e, ehi = some e ∧ EntR σ.k g w I e (a.eval x)) (hhi' : hi = none → ehi = none)
    (h : (sliceStep ti false d0 e elo ehi).wp cf σ tr Q) : Goal P o a w K Qm := by
  unfold sliceStep at h
  obtain ⟨l, rfl, hl, h⟩ := one1_wp he h
  simp only at h
  split at h
  · rename_i hst hlt
    obtain ⟨hk, h⟩ := h
    obtain ⟨hs, hl⟩ := hl
    simp only [hst] at hl
    obtain ⟨s, e1, hl⟩ := hl
    rw [hlt] at e1
    cases e1
    obtain ⟨s, hx, hd', hsz⟩ := hl
    rw [hd'] at h
    obtain ⟨lv, hv, h1, h2, h3, h4, h⟩ := bounds_wp hR lo hi hlo hlo' hhi hhi' h
    have h3 := of_decide_eq_true h3
    have h4 := of_decide_eq_true h4
    have hrun := run_slice_str (w := w) hop hx (kind_str hty (isStrK_eq hk)) h1 h2 h3 h4
    rw [← hdst] at h
    refine end_sc hd hR hK (s := .str) hrun ⟨_, rfl, rfl, ?_⟩ h
    simp only [ByteArray.size_extract]
    omega
  · obtain ⟨es, rows, deps, t', h, hleaf, h1, h2⟩ := viewSl_wp hR hl h
    obtain ⟨hk, h⟩ := h
    split at hk
    · rename_i tes htes
      simp only [Bool.and_eq_true] at hk
      obtain ⟨hk, hlen⟩ := hk
      have hlen := Nat.eq_of_beq_eq_true hlen
      obtain ⟨el, hk⟩ := isSliceK_eq hk
      obtain ⟨hu, te, hte, hl', -⟩ := kind_slice hty hk
      rw [htes] at hl'
      simp only [List.cons.injEq, LT.sl.injEq, and_true] at hl'
      subst hl'
      obtain ⟨aa, cap, hv, hcap, -, -⟩ := leafSl hleaf
      obtain ⟨lv, hv', hb1, hb2, hb3, hb4, h⟩ := bounds_wp hR lo hi hlo hlo' hhi hhi' h
      have hb3 := of_decide_eq_true hb3
      have hb4 := of_decide_eq_true hb4
      have hrun := run_slice_sl hop hv hu (run_sizeOf (w := w) (hΓ.ty _ _ hte)) hb1 hb2 hb3 hb4 hcap
      rw [← hlen] at hrun
      simp only [cond_false] at h
      rw [hv] at hleaf
      have hfin := leaf_part (l := lv.toNat) (h := hv'.toNat) hleaf (by omega) (by omega)
      exact end_setS (e := .one ⟨.sn deps, .sl es, .l ((rows.take hv'.toNat).drop lv.toNat)⟩) hdst hd hR hK hrun ⟨hfin.single, trivial, h2, fun _ => hfin⟩ h
    · cases hk

theorem run_convert {ρ : Operand → Value} {s t : TypeId} {x : Operand} {v : Value} {w' : World} (hop : o.op = .convert s t x) (h : (convert s t (ρ x)).run P w = .ok v w') :
    (execOp ρ o).run P w = .ok (.value v) w' := by
  simp only [execOp, hop]
  rw [Sem.run_bind, h]
  rfl
theorem rowsBytes_ok {S : Foot} : ∀ (rows : List (List T)) (b o : Nat), (∀ i (h : i < rows.length), RowR w S S [.sc (.int .u8)] b (o + i * 1) rows[i]) →
    ∃ ns : List Int, CellsAt w b o (ns.map (Value.int .u8)) ∧ ns.length = rows.length ∧ rowsBytes rows = ⟨(ns.map fun n => UInt8.ofNat n.toNat).toArray⟩
  | [], b, o, _ => ⟨[], trivial, rfl, rfl⟩
  | r :: rs, b, o, h => by
    have h0 := h 0 (by simp)
    unfold RowR at h0
    obtain ⟨d, rest, v, e1, -, hc, hl, -⟩ := h0
    unfold LeafR at hl
    obtain ⟨x, rfl, rfl, -⟩ := hl
    obtain ⟨ns, h1, h2, h3⟩ := rowsBytes_ok rs b (o + 1) fun i hi => by
      have := h (i + 1) (by simpa using hi)
      rw [show o + 1 + i * 1 = o + (i + 1) * 1 from by omega]
      simpa using this
    refine ⟨x :: ns, ⟨by simpa using hc, h1⟩, by simp [h2], ?_⟩
    simp only [List.getElem_cons_zero] at e1
    unfold rowsBytes at h3 ⊢
    have h3 := List.toArray_inj (ByteArray.mk.inj h3)
    rw [List.map_cons, List.map_cons, h3, e1]
    rfl
theorem foldl_push (ns : List Int) : ∀ (acc : ByteArray), ns.foldl (fun r n => r.push (UInt8.ofNat n.toNat)) acc = ⟨(acc.data.toList ++ ns.map fun n => UInt8.ofNat n.toNat).toArray⟩ := by
  induction ns with
  | nil => intro acc; simp
  | cons n ns ih =>
    intro acc
    simp only [List.foldl_cons, ih]
    obtain ⟨data⟩ := acc
    simp [ByteArray.push]
theorem bytes_string {S : Foot} {v : Value} {rows : List (List T)} (h : LeafR w S (.sl [.sc (.int .u8)]) v (.l rows)) :
    (Conv.bytesToString v).run P w = .ok (.string (rowsBytes rows)) w ∧ (rowsBytes rows).size = rows.length := by
  obtain ⟨aa, cap, rfl, h1, h2, h3⟩ := leafSl h
  have hsz : (rowsBytes rows).size = rows.length := by simp [rowsBytes, ByteArray.size]
  refine ⟨?_, hsz⟩
  rcases h3 with rfl | ⟨b, o, rfl, h3⟩
  · cases aa with
    | none => simp [Conv.bytesToString, rowsBytes]; rfl
    | some aa =>
      have := run_bytesToString (P := P) w aa 0 cap [] (by simp [loadCells, loadCellsFrom])
      exact this.trans rfl
  · obtain ⟨ns, h4, h5, h6⟩ := rowsBytes_ok rows b o (by simpa using h3)
    have := run_bytesToString (P := P) w ⟨b, o, none⟩ rows.length cap ns (by
      have := run_loadCells (P := P) h4
      simpa [h5] using this)
    rw [this, h6, foldl_push]
    simp
theorem isByteK_eq {k : TK} (h : isByteK k = true) : k = .sc (.int .u8) := by
  unfold isByteK at h
  split at h
  · rfl
  · cases h
theorem op_convert_read (hΓ : CtxOk Γ P) (hd : dstOk n.np n.nt o = true) (hR : R n σ g I a w) (hK : Post P n I w Q K) {s t : TypeId} {ts tt : TI} {x : Operand} {d0 : Nat} (hop : o.op = .convert s t x)
    (hdst : o.dst = some d0) (hts : TyOk Γ P s ts) (htt : TyOk Γ P t tt) {e : Ent} (he : EntR σ.k g w I e (a.eval x)) (hno : ¬ (ts.kind = .sc .str ∧ ∃ el, tt.kind = .slice el))
    (h : (convStep Γ d0 ts tt e).wp cf σ tr Q) : Goal P o a w K Qm := by
  obtain ⟨ds, hus, hks⟩ := hts.und
  obtain ⟨dt, hut, hkt⟩ := htt.und
  unfold convStep at h
  split at h
  · rename_i k k' e1 e2
    rw [e1] at hks; rw [e2] at hkt
    obtain ⟨rfl, -⟩ := hks
    obtain ⟨rfl, -⟩ := hkt
    obtain ⟨st, d, rfl, hv, h⟩ := scal_wp he h
    split at h
    · rw [← hdst] at h
      obtain ⟨i, hv, rfl, -⟩ := hv
      exact end_sc hd hR hK (s := .int k') (v := .int k' (k'.wrap i)) (run_convert hop (by rw [hv]; simp [convert, run_underlying hus, run_underlying hut, Conv.intToInt])) sc_int h
    · exact h.elim
  · rename_i e1 e2
    rw [e1] at hks; rw [e2] at hkt
    obtain ⟨rfl, -⟩ := hks
    obtain ⟨rfl, -⟩ := hkt
    obtain ⟨st, d, rfl, hv, h⟩ := scal_wp he h
    split at h
    · rw [← hdst] at h
      have hv' := hv
      obtain ⟨i, hv, rfl, -⟩ := hv
      exact end_sc hd hR hK (s := .str) (v := .string i) (run_convert hop (by rw [hv]; simp [convert, run_underlying hus, run_underlying hut])) (by rw [← hv]; exact hv') h
    · exact h.elim
  · rename_i e1 e2; exact absurd ⟨e1, _, e2⟩ hno
  · rename_i el e1 e2
    rw [e1] at hks; rw [e2] at hkt
    obtain ⟨rfl, -⟩ := hks
    obtain ⟨rfl, -⟩ := hkt
    obtain ⟨te, -, hte, h⟩ := tyOf_wp hΓ h
    obtain ⟨hb, h⟩ := h
    obtain ⟨de, hue, hke⟩ := hte.und
    rw [isByteK_eq hb] at hke
    obtain ⟨rfl, -⟩ := hke
    obtain ⟨l, rfl, hl, h⟩ := one1_wp he h
    obtain ⟨es, rows, deps, t', h, hleaf, -, -⟩ := viewSl_wp hR hl h
    split at h
    · rw [← hdst] at h
      obtain ⟨h1, h2⟩ := bytes_string (P := P) hleaf
      obtain ⟨aa, cap, hv, hc1, hc2, -⟩ := leafSl hleaf
      refine end_sc hd hR hK (s := .str) (run_convert hop (v := .string (rowsBytes rows)) ?_) ⟨_, rfl, rfl, ?_⟩ h
      · rw [hv] at h1 ⊢
        rw [run_convert_bytes_string (P := P) w s t el aa _ _ hus hue hut]
        exact h1
      · unfold maxCells at hc2
        omega
    · exact h.elim
  · exact h.elim
end
end Go.E

namespace Go.E
open Go

theorem Keeps.weaken {A B : Foot} {w w' : World} (h : Keeps A w w') (hab : ∀ b o, B b o → A b o) : Keeps B w w' :=
  ⟨h.size, fun b x hx => by
    obtain ⟨y, hy, hk⟩ := h.obj b x hx
    refine ⟨y, hy, ?_⟩
    cases x <;> simp only [KeepObj] at hk ⊢ <;> try exact hk
    obtain ⟨c', h1, h2, h3⟩ := hk
    exact ⟨c', h1, h2, fun o ho => h3 o (hab b o ho)⟩, h.os, h.output, h.tape⟩
def Gh.set (g : Gh) (k : Key) (h : Value) (F : Foot) : Gh := ⟨fun u => if u = k then h else g.h u, fun u => if u = k then F else g.F u⟩
@[simp] theorem Gh.set_h (g : Gh) (k : Key) (h : Value) (F : Foot) : (g.set k h F).h k = h := by simp [Gh.set]
@[simp] theorem Gh.set_F (g : Gh) (k : Key) (h : Value) (F : Foot) : (g.set k h F).F k = F := by simp [Gh.set]
theorem Gh.set_h' (g : Gh) {k u : Key} (h : Value) (F : Foot) (hu : u ≠ k) : (g.set k h F).h u = g.h u := by simp [Gh.set, hu]
theorem Gh.set_F' (g : Gh) {k u : Key} (h : Value) (F : Foot) (hu : u ≠ k) : (g.set k h F).F u = g.F u := by simp [Gh.set, hu]
theorem setK_same (σ : S) (k : Key) (e : KE) : (σ.setK k e).k k = e := by simp [S.setK, keyEq_self]
theorem setK_other (σ : S) {k u : Key} (e : KE) (h : u ≠ k) : (σ.setK k e).k u = σ.k u := by
  have : keyEq u k = false := by
    cases hb : keyEq u k
    · rfl
    · exact absurd ((keyEq_iff _ _).1 hb) h
  simp [S.setK, this]

section
variable {P : Program} {w w' : World} {I I' A : Foot} {κ κ' : Key → KE} {g g' : Gh}

theorem block_cell {b o : Nat} {c : Array Value} {el : TypeId} {fz : Nat × Nat} (h : Block w b c el fz) : cellAt w b o = c[o]? := by
  unfold Block at h
  simp [cellAt, World.cell?, h]
theorem Keeps.block {b : Nat} {c : Array Value} {el : TypeId} {fz : Nat × Nat} (h : Keeps A w w') (hb : Block w b c el fz) :
    ∃ c', Block w' b c' el fz ∧ c'.size = c.size ∧ ∀ o, A b o → c'[o]? = c[o]? := by
  obtain ⟨y, hy, hk⟩ := h.obj b _ hb
  obtain ⟨c', rfl, h1, h2⟩ := hk
  exact ⟨c', hy, h1, h2⟩
theorem live_cell {n : Fr} {σ : S} {a : Act} (hR : R n σ g I a w) {k : Key} (hl : Live (σ.k k).ch) {b o : Nat} (hf : g.F k b o) : ∃ v, cellAt w b o = some v := by
  have h := hR.chs k
  cases hc : (σ.k k).ch with
  | gone => rw [hc] at hl; exact hl.elim
  | fz es rows => rw [hc] at hl; exact hl.elim
  | box ls =>
    rw [hc] at h
    obtain ⟨b', o', c, el, fz, -, h1, h2, -, h3, -⟩ := h
    obtain ⟨rfl, h4, h5⟩ := (h3 b o).1 hf
    rw [block_cell h1]
    exact ⟨_, Array.getElem?_eq_getElem (by omega)⟩
  | row es ms rows =>
    rw [hc] at h
    obtain ⟨⟨-, -, h⟩, -⟩ := h
    rcases h with ⟨-, -, h⟩ | ⟨b', cap, c, el, fz, -, -, -, h1, h2, -, h3, -⟩
    · exact (h _ _ hf).elim
    · obtain ⟨rfl, h4⟩ := (h3 b o).1 hf
      rw [block_cell h1]
      exact ⟨_, Array.getElem?_eq_getElem h4⟩
theorem cell_lt {b o : Nat} (h : ∃ v, cellAt w b o = some v) : b < w.heap.size := by
  obtain ⟨v, h⟩ := h
  unfold cellAt World.cell? at h
  simp only at h
  split at h
  · rename_i hb
    exact (Array.getElem?_eq_some_iff.1 hb).1
  · cases h

theorem RowOwn.keep {es : List LT} {rows : List (List T)} {h : Value} {F : Foot} (hr : RowOwn w I es rows h F) (hk : Keeps A w w') (hA : ∀ b o, F b o → A b o)
    (hI : ∀ b o, I b o → I' b o ∧ cellAt w' b o = cellAt w b o) : RowOwn w' I' es rows h F := by
  obtain ⟨h0, h1, h2⟩ := hr
  refine ⟨h0, h1, ?_⟩
  rcases h2 with h2 | ⟨b, cap, c, el, fz, h2, h3, h4, h5, h6, h7, h8, h9⟩
  · exact .inl h2
  · right
    obtain ⟨c', h10, h11, h12⟩ := hk.block h5
    have hcc : c' = c := by
      apply Array.ext h11
      intro i hi1 hi2
      have := h12 i (hA _ _ ((h8 b i).2 ⟨rfl, hi2⟩))
      rw [Array.getElem?_eq_getElem hi1, Array.getElem?_eq_getElem hi2] at this
      exact Option.some.inj this
    subst hcc
    refine ⟨b, cap, c', el, fz, h2, h3, h4, h10, h6, h7, h8, fun i hi => ?_⟩
    refine RowR.mono (A := fun b' _ => b' = b) (fun _ _ _ => trivial) ?_ (fun b o h => (hI b o h).1) (fun b o h => (hI b o h).2) es
      (RowR.top (fun _ _ h => h) (h9 i hi) fun _ _ => rfl)
    rintro b' o rfl
    rw [block_cell h10, block_cell h5]
theorem BoxOwn.keep {ls : List Leaf} {h : Value} {F : Foot} (e : Evo κ g w I κ' g' w' I') (hr : BoxOwn κ g w I ls h F) (hk : Keeps A w w') (hA : ∀ b o, F b o → A b o) :
    BoxOwn κ' g' w' I' ls h F := by
  obtain ⟨b, o, c, el, fz, h1, h2, h3, h4, h5, h6⟩ := hr
  obtain ⟨c', h7, h8, h9⟩ := hk.block h2
  refine ⟨b, o, c', el, fz, h1, h7, by omega, h4, h5, ?_⟩
  have : (c'.toList.drop o).take ls.length = (c.toList.drop o).take ls.length := by
    apply List.ext_getElem?
    intro i
    by_cases hi : i < ls.length
    · rw [List.getElem?_take_of_lt hi, List.getElem?_take_of_lt hi, List.getElem?_drop, List.getElem?_drop, Array.getElem?_toList, Array.getElem?_toList]
      exact h9 _ (hA _ _ ((h5 b (o + i)).2 ⟨rfl, by omega, by omega⟩))
    · rw [List.getElem?_eq_none (by simp; omega), List.getElem?_eq_none (by simp; omega)]
  rw [this]
  exact e.lfs h6
theorem ChR.keep {k : Key} {ch : Ch} (e : Evo κ g w I κ' g' w' I') (hk : Keeps A w w') (hA : Live ch → ∀ b o, g.F k b o → A b o) (h1 : g'.h k = g.h k) (h2 : g'.F k = g.F k)
    (h : ChR κ g w I k ch) : ChR κ' g' w' I' k ch := by
  cases ch with
  | gone => trivial
  | fz es rows => simp only [ChR] at h ⊢; rw [h1]; exact e.leaf h
  | box ls => simp only [ChR] at h ⊢; rw [h1, h2]; exact h.keep e hk (hA trivial)
  | row es ms rows => simp only [ChR] at h ⊢; rw [h1, h2]; exact ⟨h.1.keep hk (hA trivial) e.imm, h.2⟩
end

section
variable {n : Fr} {σ : S} {g : Gh} {I : Foot} {a : Act} {w w' : World}
theorem Keeps.all_cell {w w' : World} (h : Keeps (fun _ _ => True) w w') {b o : Nat} (hv : ∃ v, cellAt w b o = some v) : cellAt w' b o = cellAt w b o := h.cell trivial hv

/-- a chunk is made anew, of memory that is new -/
theorem evo_new (hR : R n σ g I a w) (k : Key) (e : KE) (h : Value) (F : Foot) (h1 : (σ.k k).idv < e.idv) (h2 : (σ.k k).cv < e.cv) (hk : Keeps (fun _ _ => True) w w') :
    Evo σ.k g w I (σ.setK k e).k (g.set k h F) w' I where
  cv u := by by_cases hu : u = k; subst hu; rw [setK_same]; omega; rw [setK_other _ _ hu]; exact Nat.le_refl _
  idv u := by by_cases hu : u = k; subst hu; rw [setK_same]; omega; rw [setK_other _ _ hu]; exact Nat.le_refl _
  foot u hc hl b o hf := by
    by_cases hu : u = k
    · subst hu; rw [setK_same] at hc; omega
    · rw [setK_other _ _ hu, Gh.set_F' _ _ _ hu]
      exact ⟨.inl ⟨hl, hf⟩, hk.all_cell (live_cell hR hl hf)⟩
  head u hc := by
    by_cases hu : u = k
    · subst hu; rw [setK_same] at hc; omega
    · rw [setK_other _ _ hu, Gh.set_h' _ _ _ hu]
      exact ⟨rfl, rfl⟩
  imm b o h := ⟨h, hk.all_cell (hR.iwf b o h)⟩
theorem R.newChunk (hR : R n σ g I a w) (k : Key) (e : KE) (h : Value) (F : Foot) (h1 : (σ.k k).idv < e.idv) (h2 : (σ.k k).cv < e.cv) (hk : Keeps (fun _ _ => True) w w')
    (hkp : ¬ isPar n.np k) (hF : ∀ b o, F b o → w.heap.size ≤ b) (hch : ChR (σ.setK k e).k (g.set k h F) w' I k e.ch) : R n (σ.setK k e) (g.set k h F) I a w' := by
  have ev := evo_new hR k e h F h1 h2 hk
  refine ⟨hR.size, hR.nd, fun t => ev.ent (hR.slots t), fun u => ?_, fun u v hu hv huv => ?_, fun u hu => ?_, fun b o hi => ?_, hR.x.step (hk.weaken fun _ _ _ => trivial) (fun u hu => ?_) (fun _ _ h => .inl h)⟩
  · by_cases huk : u = k
    · subst huk; rw [setK_same]; exact hch
    · rw [setK_other _ _ huk]
      exact ChR.keep ev hk (fun _ _ _ _ => trivial) (Gh.set_h' _ _ _ huk) (Gh.set_F' _ _ _ huk) (hR.chs u)
  · intro b o hfu hfv
    by_cases huk : u = k
    · subst huk
      have hvk : v ≠ u := fun e => huv e.symm
      rw [Gh.set_F] at hfu
      rw [Gh.set_F' _ _ _ hvk] at hfv
      rw [setK_other _ _ hvk] at hv
      have := cell_lt (live_cell hR hv hfv)
      have := hF _ _ hfu
      omega
    · rw [Gh.set_F' _ _ _ huk] at hfu
      rw [setK_other _ _ huk] at hu
      by_cases hvk : v = k
      · subst hvk
        rw [Gh.set_F] at hfv
        have := cell_lt (live_cell hR hu hfu)
        have := hF _ _ hfv
        omega
      · rw [Gh.set_F' _ _ _ hvk] at hfv
        rw [setK_other _ _ hvk] at hv
        exact hR.sep u v hu hv huv b o hfu hfv
  · intro b o hfu hi
    by_cases huk : u = k
    · subst huk
      rw [Gh.set_F] at hfu
      have := cell_lt (hR.iwf b o hi)
      have := hF _ _ hfu
      omega
    · rw [Gh.set_F' _ _ _ huk] at hfu
      rw [setK_other _ _ huk] at hu
      exact hR.imm u hu b o hfu hi
  · obtain ⟨v, hv⟩ := hR.iwf b o hi
    exact ⟨v, (hk.all_cell ⟨v, hv⟩).trans hv⟩
  · by_cases huk : u = k
    · subst huk
      refine .inr ⟨hkp, ?_⟩
      rw [Gh.set_F]
      intro b o hf ha
      have := cell_lt (hR.x.awf b o ha)
      have := hF _ _ hf
      omega
    · rw [setK_other _ _ huk] at hu
      exact .inl ⟨hu, Gh.set_h' _ _ _ huk, Gh.set_F' _ _ _ huk⟩
/-- nothing turns but for memory that nobody holds -/
theorem R.world (hR : R n σ g I a w) (hk : Keeps (fun _ _ => True) w w') : R n σ g I a w' := by
  have ev : Evo σ.k g w I σ.k g w' I := ⟨fun _ => Nat.le_refl _, fun _ => Nat.le_refl _, fun u _ hl b o hf => ⟨.inl ⟨hl, hf⟩, hk.all_cell (live_cell hR hl hf)⟩, fun _ _ => ⟨rfl, rfl⟩,
    fun b o h => ⟨h, hk.all_cell (hR.iwf b o h)⟩⟩
  refine ⟨hR.size, hR.nd, fun t => ev.ent (hR.slots t), fun u => ChR.keep ev hk (fun _ _ _ _ => trivial) rfl rfl (hR.chs u), hR.sep, hR.imm, fun b o hi => ?_, hR.x.step (hk.weaken fun _ _ _ => trivial) (fun _ h => .inl ⟨h, rfl, rfl⟩) (fun _ _ h => .inl h)⟩
  obtain ⟨v, hv⟩ := hR.iwf b o hi
  exact ⟨v, (hk.all_cell ⟨v, hv⟩).trans hv⟩

/-! the world's own steps -/
theorem keeps_drawn (w : World) (m : Nat) : Keeps (fun _ _ => True) w { w with drawn := m } := ⟨Nat.le_refl _, fun b x h => ⟨x, h, .refl _ _ _⟩, rfl, rfl, rfl⟩
def World.pushed (w : World) (o : Obj) : World := { w with heap := w.heap.push o }
theorem keeps_push (w : World) (o : Obj) : Keeps (fun _ _ => True) w (World.pushed w o) :=
  ⟨by simp [World.pushed], fun b x h => ⟨x, by
    have hlt := (Array.getElem?_eq_some_iff.1 h).1
    simp only [World.pushed, Array.getElem?_push_lt hlt]
    rw [← h, Array.getElem?_eq_getElem hlt], .refl _ _ _⟩, rfl, rfl, rfl⟩
theorem pushed_block (w : World) (c : Array Value) (el : TypeId) (fz : Nat × Nat) : Block (World.pushed w (.cells c el fz)) w.heap.size c el fz := by
  unfold Block World.pushed
  simp only [Array.getElem?_push_size]
theorem run_newRow {P : Program} {el : TypeId} {c : Array Value} : (newRow el c).run P w = .ok ⟨w.heap.size, 0, none⟩ (World.pushed w (.cells c el)) := by
  simp only [newRow, newObj]
  rfl
end
end Go.E

namespace Go.E
open Go

mutual
theorem LT.beq_eq : ∀ {a b : LT}, LT.beq a b = true → a = b
  | .sc a, .sc b, h => by unfold LT.beq at h; rw [of_decide_eq_true h]
  | .sl a, .sl b, h => by unfold LT.beq at h; rw [LT.beqs_eq h]
  | .sc _, .sl _, h => by unfold LT.beq at h; cases h
  | .sl _, .sc _, h => by unfold LT.beq at h; cases h
theorem LT.beqs_eq : ∀ {a b : List LT}, LT.beqs a b = true → a = b
  | [], [], h => rfl
  | a :: as, b :: bs, h => by
    unfold LT.beqs at h
    simp only [Bool.and_eq_true] at h
    rw [LT.beq_eq h.1, LT.beqs_eq h.2]
  | [], _ :: _, h => by unfold LT.beqs at h; cases h
  | _ :: _, [], h => by unfold LT.beqs at h; cases h
end

section
variable {n : Fr} {σ : S} {g : Gh} {I : Foot} {a : Act} {w w' : World}
/-- a chunk of rows is read alone from now on -/
theorem R.freeze (hR : R n σ g I a w) {key : Key} {es : List LT} {ms : List M} {rows : List (List T)} (hc : (σ.k key).ch = .row es ms rows) :
    R n (σ.setK key { σ.k key with ch := .fz es rows }) g (fun b o => I b o ∨ g.F key b o) a w ∧
    Evo σ.k g w I (σ.setK key { σ.k key with ch := .fz es rows }).k g w (fun b o => I b o ∨ g.F key b o) := by
  have ev : Evo σ.k g w I (σ.setK key { σ.k key with ch := .fz es rows }).k g w (fun b o => I b o ∨ g.F key b o) := by
    refine ⟨fun u => ?_, fun u => ?_, fun u hcv hl b o hf => ?_, fun u hid => ?_, fun b o h => ⟨.inl h, rfl⟩⟩
    · by_cases hu : u = key
      · subst hu; rw [setK_same]; exact Nat.le_refl _
      · rw [setK_other _ _ hu]; exact Nat.le_refl _
    · by_cases hu : u = key
      · subst hu; rw [setK_same]; exact Nat.le_refl _
      · rw [setK_other _ _ hu]; exact Nat.le_refl _
    · by_cases hu : u = key
      · subst hu; exact ⟨.inr (.inr hf), rfl⟩
      · rw [setK_other _ _ hu]; exact ⟨.inl ⟨hl, hf⟩, rfl⟩
    · by_cases hu : u = key
      · subst hu; rw [setK_same, hc]; exact ⟨rfl, rfl⟩
      · rw [setK_other _ _ hu]; exact ⟨rfl, rfl⟩
  refine ⟨⟨hR.size, hR.nd, fun t => ev.ent (hR.slots t), fun u => ?_, fun u v hu hv huv => ?_, fun u hu => ?_, fun b o hi => ?_, hR.x.step (Keeps.refl _ _) (fun u hu => ?_) (fun b o hb => ?_)⟩, ev⟩
  · by_cases huk : u = key
    · subst huk
      rw [setK_same]
      have := hR.chs u
      rw [hc] at this
      exact this.1.leaf (fun _ _ h => .inl h) (fun _ _ h => .inr h)
    · rw [setK_other _ _ huk]
      exact ChR.keep ev (Keeps.refl (fun _ _ => True) w) (fun _ _ _ _ => trivial) rfl rfl (hR.chs u)
  · have hu' : u ≠ key := by rintro rfl; rw [setK_same] at hu; exact hu
    have hv' : v ≠ key := by rintro rfl; rw [setK_same] at hv; exact hv
    rw [setK_other _ _ hu'] at hu
    rw [setK_other _ _ hv'] at hv
    exact hR.sep u v hu hv huv
  · have hu' : u ≠ key := by rintro rfl; rw [setK_same] at hu; exact hu
    rw [setK_other _ _ hu'] at hu
    intro b o hf hi
    rcases hi with hi | hi
    · exact hR.imm u hu b o hf hi
    · exact hR.sep u key hu (by rw [hc]; trivial) hu' b o hf hi
  · rcases hi with hi | hi
    · exact hR.iwf b o hi
    · exact live_cell hR (by rw [hc]; trivial) hi
  · have hu' : u ≠ key := by rintro rfl; rw [setK_same] at hu; exact hu
    rw [setK_other _ _ hu'] at hu
    exact .inl ⟨hu, rfl, rfl⟩
  · exact hb.imp id fun hf ha => hR.x.frm key (by rw [hc]; trivial) b o hf ha

variable {cf : FuncId → List Arg → R3 Ret} {Q : S → Tr → Prop}
theorem LeavesR.mono {I I' : Foot} (h : ∀ b o, I b o → I' b o ∧ cellAt w' b o = cellAt w b o) : ∀ {es : List LT} {vs : List Value} {ds : List T}, LeavesR w I es vs ds → LeavesR w' I' es vs ds
  | [], [], [], _ => trivial
  | e :: es, v :: vs, d :: ds, hh => ⟨LeafR.mono (fun b o hb => (h b o hb).1) (fun b o hb => (h b o hb).2) e hh.1, LeavesR.mono h hh.2⟩
  | [], _ :: _, _, h => h.elim
  | [], [], _ :: _, h => h.elim
  | _ :: _, [], _, h => h.elim
  | _ :: _, _ :: _, [], h => h.elim
theorem noO_cons {m : M} {ms : List M} (h : ∀ x, m ≠ .O x) (h' : noO ms) : noO (m :: ms) := by
  intro y hy x
  rcases List.mem_cons.1 hy with rfl | hy
  · exact h x
  · exact h' y hy x
/-- what goes into rows is related in what is never written again -/
theorem absorb_wp : ∀ {es : List LT} {ls : List Leaf} {vs : List Value} {σ : S} {I : Foot} {k : List M → List T → Prog} {tr : Tr}, R n σ g I a w → LfsR σ.k g w I ls vs →
    (absorb es ls k).wp cf σ tr Q → ∃ σ' I' tr' ms ds, R n σ' g I' a w ∧ Evo σ.k g w I σ'.k g w I' ∧ noO ms ∧ LeavesR w I' es vs ds ∧ σ'.s = σ.s ∧ (k ms ds).wp cf σ' tr' Q
  | [], [], [], σ, I, k, tr, hR, hl, h => ⟨σ, I, tr, [], [], hR, Evo.refl, fun _ h => (nomatch h), trivial, rfl, h⟩
  | [], [], _ :: _, σ, I, k, tr, hR, hl, h => hl.elim
  | [], _ :: _, vs, σ, I, k, tr, hR, hl, h => h.elim
  | _ :: _, [], vs, σ, I, k, tr, hR, hl, h => h.elim
  | e :: es, l :: ls, [], σ, I, k, tr, hR, hl, h => hl.elim
  | e :: es, l :: ls, v :: vs, σ, I, k, tr, hR, hl, h => by
    obtain ⟨st, lt, d⟩ := l
    -- one leaf, related at once
    have step : ∀ (m : M) (d : T) (σ₁ : S) (I₁ : Foot) (tr₁ : Tr), R n σ₁ g I₁ a w → Evo σ.k g w I σ₁.k g w I₁ → σ₁.s = σ.s → (∀ x, m ≠ .O x) → LeafR w I₁ e v d →
        (absorb es ls fun ms ds => k (m :: ms) (d :: ds)).wp cf σ₁ tr₁ Q →
        ∃ σ' I' tr' ms ds, R n σ' g I' a w ∧ Evo σ.k g w I σ'.k g w I' ∧ noO ms ∧ LeavesR w I' (e :: es) (v :: vs) ds ∧ σ'.s = σ.s ∧ (k ms ds).wp cf σ' tr' Q := by
      intro m d σ₁ I₁ tr₁ hR₁ ev hs hm hleaf h
      obtain ⟨σ', I', tr', ms, ds, h1, h2, h3, h4, h5, h6⟩ := absorb_wp hR₁ (ev.lfs hl.2) h
      exact ⟨σ', I', tr', m :: ms, d :: ds, h1, ev.trans h2, noO_cons hm h3, ⟨h2.leaf hleaf, h4⟩, h5.trans hs, h6⟩
    obtain ⟨hs, hl1⟩ := hl.1
    unfold absorb at h
    simp only at h hl1
    split at h
    · rename_i s s' _ _ _
      split at h
      · rename_i hss
        subst hss
        obtain ⟨s', e1, hv⟩ := hl1
        cases e1
        exact step .F d σ I tr hR Evo.refl rfl (fun _ h => (nomatch h)) (by unfold LeafR; exact hv) h
      · exact h.elim
    · obtain ⟨-, rfl, -⟩ := hl1
      exact step .U (.l []) σ I tr hR Evo.refl rfl (fun _ h => (nomatch h)) (by unfold LeafR; exact ⟨none, 0, [], rfl, rfl, Nat.le_refl _, Nat.zero_le _, .inl rfl⟩) h
    · rename_i es'
      cases hb : LT.beq (.sl es') lt with
      | false => rw [hb] at h; exact h.elim
      | true =>
        rw [hb] at h
        have hlt := LT.beq_eq hb
        subst hlt
        obtain ⟨-, -, h1⟩ := hl1
        have h2 := h1 (cur_nil _)
        exact step .F d σ I tr hR Evo.refl rfl (fun _ h => (nomatch h)) (LeafR.mono (fun b o hb => hb.elim id (fun ⟨d, hd, _⟩ => (nomatch hd))) (fun _ _ _ => rfl) _ h2) h
    · rename_i es' key m
      obtain ⟨-, h1, h2⟩ := hl1
      obtain ⟨h3, h⟩ := h
      have hv := h2 (Nat.eq_of_beq_eq_true h3)
      subst hv
      have hch := hR.chs key
      split at h
      · rename_i es'' rows e1
        rw [e1] at hch
        cases hb : LT.beqs es' es'' with
        | false => rw [hb] at h; exact h.elim
        | true =>
          rw [hb] at h
          have := LT.beqs_eq hb
          subst this
          exact step .F (.l rows) σ I _ hR Evo.refl rfl (fun _ h => (nomatch h)) hch h
      · rename_i es'' ms rows e1
        rw [e1] at hch
        cases hb : LT.beqs es' es'' with
        | false => rw [hb] at h; exact h.elim
        | true =>
          rw [hb] at h
          have := LT.beqs_eq hb
          subst this
          obtain ⟨h4, h5⟩ := hR.freeze e1
          refine step .F (.l rows) _ _ _ h4 h5 rfl (fun _ h => (nomatch h)) (hch.1.leaf (fun _ _ h => .inl h) (fun _ _ h => .inr h)) h
      · exact h.elim
    · exact h.elim
end
end Go.E

namespace Go.E
open Go

section
variable {w : World} {I S A : Foot}
theorem RowR.of_vals : ∀ {es : List LT} {b o : Nat} {vs : List Value} {row : List T}, LeavesR w I es vs row → CellsAt w b o vs → RowR w (fun _ _ => True) I es b o row
  | [], b, o, [], [], _, _ => by unfold RowR; rfl
  | e :: es, b, o, v :: vs, d :: ds, h, hc => by
    unfold RowR
    exact ⟨d, ds, v, rfl, trivial, hc.1, h.1, RowR.of_vals h.2 hc.2⟩
  | [], _, _, _ :: _, _, h, _ => h.elim
  | [], _, _, [], _ :: _, h, _ => h.elim
  | _ :: _, _, _, [], _, h, _ => h.elim
  | _ :: _, _, _, _ :: _, [], h, _ => h.elim
/-- rows, one behind the other -/
def RowsV (w : World) (I : Foot) (es : List LT) : List (List T) → List Value → Prop
  | [], _ => True
  | r :: rs, cs => LeavesR w I es (cs.take es.length) r ∧ RowsV w I es rs (cs.drop es.length)
theorem CellsAt.of_block {b : Nat} {c : Array Value} {el : TypeId} {fz : Nat × Nat} (hb : Block w b c el fz) : ∀ (vs : List Value) (k : Nat), (∀ j (hj : j < vs.length), c[k + j]? = some vs[j]) → CellsAt w b k vs
  | [], _, _ => trivial
  | v :: vs, k, h => by
    refine ⟨?_, CellsAt.of_block hb vs (k + 1) fun j hj => ?_⟩
    · rw [block_cell hb]; exact (h 0 (by simp))
    · have := h (j + 1) (by simpa using hj)
      rwa [show k + (j + 1) = k + 1 + j from by omega] at this
theorem RowsV.row {b : Nat} {c : Array Value} {el : TypeId} {fz : Nat × Nat} {es : List LT} (hb : Block w b c el fz) : ∀ (rows : List (List T)) (k : Nat), RowsV w I es rows (c.toList.drop k) → k + rows.length * es.length ≤ c.size →
    ∀ i (hi : i < rows.length), RowR w (fun _ _ => True) I es b (k + i * es.length) rows[i]
  | [], _, _, _, i, hi => by simp at hi
  | r :: rs, k, h, hn, i, hi => by
    have hn' : k + es.length + rs.length * es.length ≤ c.size := by simp only [List.length_cons, Nat.add_mul] at hn; omega
    cases i with
    | zero =>
      refine RowR.of_vals (vs := (c.toList.drop k).take es.length) (by simpa using h.1) (CellsAt.of_block hb _ _ fun j hj => ?_)
      simp only [List.length_take, List.length_drop, Array.length_toList] at hj
      simp only [List.getElem_take, List.getElem_drop, Array.getElem_toList, Nat.zero_mul, Nat.add_zero]
      exact Array.getElem?_eq_getElem (by omega)
    | succ i =>
      have h2 := h.2
      rw [List.drop_drop] at h2
      have := RowsV.row hb rs (k + es.length) h2 hn' i (by simpa using hi)
      rw [show k + (i + 1) * es.length = k + es.length + i * es.length from by rw [Nat.add_mul]; omega]
      simpa using this
theorem RowsV.mono {w w' : World} {I I' : Foot} (h : ∀ b o, I b o → I' b o ∧ cellAt w' b o = cellAt w b o) {es : List LT} : ∀ {rows : List (List T)} {cs : List Value}, RowsV w I es rows cs → RowsV w' I' es rows cs
  | [], _, _ => trivial
  | _ :: _, _, hh => ⟨hh.1.mono h, RowsV.mono h hh.2⟩
theorem RowsV.app {es : List LT} : ∀ {rows rows' : List (List T)} {cs cs' : List Value}, RowsV w I es rows cs → cs.length = rows.length * es.length → RowsV w I es rows' cs' → RowsV w I es (rows ++ rows') (cs ++ cs')
  | [], rows', cs, cs', h, hn, h' => by
    have : cs = [] := List.length_eq_zero_iff.1 (by simpa using hn)
    subst this; exact h'
  | r :: rs, rows', cs, cs', h, hn, h' => by
    simp only [List.length_cons, Nat.add_mul, Nat.one_mul] at hn
    have hle : es.length ≤ cs.length := by omega
    refine ⟨?_, ?_⟩
    · rw [List.take_append_of_le_length hle]; exact h.1
    · rw [List.drop_append_of_le_length hle]
      exact RowsV.app h.2 (by rw [List.length_drop]; omega) h'
theorem RowsV.tail {es : List LT} : ∀ {rows : List (List T)} {cs cs' : List Value}, RowsV w I es rows cs → RowsV w I es rows (cs ++ cs')
  | [], cs, cs', h => trivial
  | r :: rs, cs, cs', h => by
    have hlen := h.1.len.1
    have hle : es.length ≤ cs.length := by rw [List.length_take] at hlen; omega
    refine ⟨?_, ?_⟩
    · rw [List.take_append_of_le_length hle]; exact h.1
    · rw [List.drop_append_of_le_length hle]; exact RowsV.tail h.2
end

section
variable {Γ : Ctx} {P : Program} {cf : FuncId → List Arg → R3 Ret}
variable {n : Fr} {σ : S} {g : Gh} {I : Foot} {a : Act} {w w' : World}
variable {o : Oper} {f : FuncId} {tr : Tr} {Q : S → Tr → Prop} {K : Act → World → Prop} {Qm : Exit → Act → World → Prop}

/-- the end of a step that makes a variable -/
theorem end_box {d0 : Nat} {c : Array Value} {el : TypeId} {ls : List Leaf} (hdst : o.dst = some d0) (hd : dstOk n.np n.nt o = true) (hR : R n σ g I a w) (hK : Post P n I w Q K)
    (hrun : (execOp a.eval o).run P w = .ok (.value (.pointer (some ⟨w.heap.size, 0, none⟩))) (World.pushed w (.cells c el))) (hl : LfsR σ.k g w I ls c.toList)
    (h : (mkBox d0 ls).wp cf σ tr Q) : Goal P o a w K Qm := by
  refine goal_value hrun ?_
  rw [hdst]
  obtain ⟨hdn, hkp⟩ := dst_ok hd hdst
  let F : Foot := fun b o' => b = w.heap.size ∧ o' < c.size
  have hk := keeps_push w (.cells c el)
  have ev := evo_new hR [d0 + 2000000] ⟨.box ls, (σ.k [d0 + 2000000]).idv + 1, (σ.k [d0 + 2000000]).cv + 1⟩ (.pointer (some ⟨w.heap.size, 0, none⟩)) F (by simp) (by simp) hk
  have hlen := hl.len
  have hbox : BoxOwn (σ.setK [d0 + 2000000] ⟨.box ls, (σ.k [d0 + 2000000]).idv + 1, (σ.k [d0 + 2000000]).cv + 1⟩).k (g.set [d0 + 2000000] (.pointer (some ⟨w.heap.size, 0, none⟩)) F) (World.pushed w (.cells c el)) I ls (.pointer (some ⟨w.heap.size, 0, none⟩)) F := by
    refine ⟨w.heap.size, 0, c, el, (0, 0), rfl, pushed_block w c el (0, 0), by simp at hlen; omega, fun j hj => by omega, fun b' o' => ?_, ?_⟩
    · simp only [F, Nat.zero_le, true_and, Nat.zero_add]
      simp at hlen
      rw [hlen]
    · rw [List.drop_zero, ← hlen, List.take_length]
      exact ev.lfs hl
  have hR' := hR.newChunk [d0 + 2000000] ⟨.box ls, (σ.k [d0 + 2000000]).idv + 1, (σ.k [d0 + 2000000]).cv + 1⟩ (.pointer (some ⟨w.heap.size, 0, none⟩)) F (by simp) (by simp) hk (hkp n.big _) (fun b o' hf => by rw [hf.1]; exact Nat.le_refl _)
    (by simp only [ChR, Gh.set_h, Gh.set_F]; exact hbox)
  refine hK _ _ _ I _ _ h (hR'.put hdn (e := .ptr [d0 + 2000000] ((σ.k [d0 + 2000000]).idv + 1) 0 0) ⟨⟨fun _ h => (nomatch h), fun _ h => (nomatch h)⟩, ?_, fun _ => ⟨w.heap.size, 0, rfl, ?_⟩⟩) (fun _ _ h => h) (hk.weaken fun _ _ _ => trivial)
  · rw [setK_same]; exact Nat.le_refl _
  · rw [Gh.set_h]; rfl
/-- the end of a step that makes rows -/
theorem end_row {d0 : Nat} {c : Array Value} {el : TypeId} {fz : Nat × Nat} {es : List LT} {ms : List M} {rows : List (List T)} {b cap : Nat} (hdst : o.dst = some d0) (hd : dstOk n.np n.nt o = true) (hR : R n σ g I a w) (hK : Post P n I w Q K)
    (hk : Keeps (fun _ _ => True) w w') (hb : w.heap.size ≤ b) (hblk : Block w' b c el fz) (hfz : ∀ o', o' ≤ c.size → ¬ (fz.1 ≤ o' ∧ o' < fz.2))
    (hrun : (execOp a.eval o).run P w = .ok (.value (.slice (some ⟨b, 0, none⟩) rows.length cap)) w') (hes : es ≠ []) (h1 : rows.length ≤ maxCells) (h2 : rows.length ≤ cap) (h3 : True)
    (h4 : c.size = cap * es.length) (hm : noO ms) (hrows : RowsV w I es rows c.toList) (h : (mkRow d0 es ms rows).wp cf σ tr Q) : Goal P o a w K Qm := by
  refine goal_value hrun ?_
  rw [hdst]
  obtain ⟨hdn, hkp⟩ := dst_ok hd hdst
  let F : Foot := fun b' o' => b' = b ∧ o' < c.size
  let e : KE := ⟨.row es ms rows, (σ.k [d0 + 2000000]).idv + 1, (σ.k [d0 + 2000000]).cv + 1⟩
  have hrow : RowOwn w' I es rows (.slice (some ⟨b, 0, none⟩) rows.length cap) F := by
    refine ⟨hes, h1, .inr ⟨b, cap, c, el, fz, rfl, h2, h3, hblk, h4, hfz, fun _ _ => Iff.rfl, fun i hi => ?_⟩⟩
    have h5 : RowsV w' I es rows c.toList := hrows.mono fun b o hi => ⟨hi, hk.all_cell (hR.iwf b o hi)⟩
    have h6 : rows.length * es.length ≤ c.size := by rw [h4]; exact Nat.mul_le_mul_right _ h2
    simpa using RowsV.row hblk rows 0 (by simpa using h5) (by omega) i hi
  have hR' := hR.newChunk [d0 + 2000000] e (.slice (some ⟨b, 0, none⟩) rows.length cap) F (by simp [e]) (by simp [e]) hk (hkp n.big _) (fun b' o' hf => by rw [hf.1]; exact hb)
    (by simp only [e, ChR, Gh.set_h, Gh.set_F]; exact ⟨hrow, hm⟩)
  refine hK _ _ _ I _ _ h (hR'.put hdn (e := .one ⟨.al [d0 + 2000000] ((σ.k [d0 + 2000000]).idv + 1), .sl es, .l []⟩) ⟨⟨fun _ h => (nomatch h), fun _ h => (nomatch h)⟩, trivial, ?_, fun _ => ?_⟩) (fun _ _ h => h) (hk.weaken fun _ _ _ => trivial)
  · rw [setK_same]; exact Nat.le_refl _
  · rw [Gh.set_h]

theorem zero_lfs {κ : Key → KE} : ∀ {lts : List LT} {vs : List Value}, zeroVs lts vs → LfsR κ g w I (lts.map zeroLeaf) vs
  | [], [], _ => trivial
  | lt :: lts, v :: vs, h => by
    refine ⟨?_, zero_lfs h.2⟩
    have h1 := h.1
    cases lt with
    | sl es => cases h1; exact ⟨⟨fun _ h => (nomatch h), fun _ h => (nomatch h)⟩, trivial, rfl, rfl⟩
    | sc s =>
      cases s with
      | int k => cases h1; exact ⟨⟨fun _ h => (nomatch h), fun _ h => (nomatch h)⟩, .int k, rfl, 0, rfl, rfl, kmin_neg k⟩
      | bool => cases h1; exact ⟨⟨fun _ h => (nomatch h), fun _ h => (nomatch h)⟩, .bool, rfl, false, rfl, rfl⟩
      | str => cases h1; exact ⟨⟨fun _ h => (nomatch h), fun _ h => (nomatch h)⟩, .str, rfl, .empty, rfl, rfl, by decide⟩
      | any => exact ⟨h1, trivial⟩
  | [], _ :: _, h => h.elim
  | _ :: _, [], h => h.elim
theorem zero_leaves : ∀ {lts : List LT} {vs : List Value}, zeroVs lts vs → lts.all (fun l => match l with | .sc .any => false | _ => true) = true → LeavesR w I lts vs (lts.map zeroD)
  | [], [], _, _ => trivial
  | lt :: lts, v :: vs, h, ha => by
    simp only [List.all_cons, Bool.and_eq_true] at ha
    refine ⟨?_, zero_leaves h.2 ha.2⟩
    have h1 := h.1
    unfold LeafR
    cases lt with
    | sl es => cases h1; exact ⟨none, 0, [], rfl, rfl, Nat.le_refl _, Nat.zero_le _, .inl rfl⟩
    | sc s =>
      cases s with
      | int k => cases h1; exact ⟨0, rfl, rfl, kmin_neg k⟩
      | bool => cases h1; exact ⟨false, rfl, rfl⟩
      | str => cases h1; exact ⟨.empty, rfl, rfl, by decide⟩
      | any => simp at ha
  | [], _ :: _, h, _ => h.elim
  | _ :: _, [], h, _ => h.elim
theorem run_zeroValue {t : TypeId} {ti : TI} (h : TyOk Γ P t ti) : ∃ z, (zeroValue t).run P w = .ok z w ∧ zeroVs ti.lts z.cells.toList := by
  obtain ⟨i, h1, -, -, -, -, z, hz, h2⟩ := h.info
  exact ⟨z, by simp [zeroValue, typeInfo, h1, hz, go_sem], h2⟩

theorem op_alloc (hΓ : CtxOk Γ P) (hd : dstOk n.np n.nt o = true) (hR : R n σ g I a w) (hK : Post P n I w Q K) {t : TypeId} (hop : o.op = .alloc t)
    (h : (opStep Γ f o).wp cf σ tr Q) : Goal P o a w K Qm := by
  simp only [opStep, hop] at h
  obtain ⟨d0, hdst, h⟩ := ofOpt_wp h
  obtain ⟨ti, -, hty, h⟩ := tyOf_wp hΓ h
  obtain ⟨z, hz, hzs⟩ := run_zeroValue (w := w) hty
  refine end_box hdst hd hR hK (c := z.cells) (el := t) ?_ (zero_lfs hzs) h
  have h1 : (Instr.alloc t true (.tuple #[])).run P w = .ok (.pointer (some ⟨w.heap.size, 0, none⟩)) (World.pushed w (.cells z.cells t)) := by
    simp only [Instr.alloc, Sem.run_bind, hz, Result.andThen_ok, newVar, run_newRow]
    rfl
  simp only [execOp, hop]
  rw [Sem.run_bind, h1]
  rfl
theorem entCells {κ : Key → KE} {e : Ent} {v : Value} {ls : List Leaf} (he : EntR κ g w I e v) (h : leavesOf e = some ls) : LfsR κ g w I ls v.cells.toList := by
  cases e with
  | one l =>
    cases h
    have h1 : LfR κ g w I l v := he
    rw [h1.1.cells]
    exact ⟨h1, trivial⟩
  | agg ls' =>
    cases h
    obtain ⟨cs, rfl, h1⟩ := he
    exact h1
  | _ => cases h
theorem op_box (hΓ : CtxOk Γ P) (hd : dstOk n.np n.nt o = true) (hR : R n σ g I a w) (hK : Post P n I w Q K) {t : TypeId} {x : Operand} (hop : o.op = .box t x)
    (h : (opStep Γ f o).wp cf σ tr Q) : Goal P o a w K Qm := by
  simp only [opStep, hop] at h
  obtain ⟨d0, hdst, h⟩ := ofOpt_wp h
  obtain ⟨ti, -, hty, h⟩ := tyOf_wp hΓ h
  obtain ⟨e, t1, he, h⟩ := rd_wp hR h
  obtain ⟨ls, hls, h⟩ := ofOpt_wp h
  refine end_box hdst hd hR hK (c := (a.eval x).cells) (el := t) ?_ (retype_ok _ (entCells he hls)) h
  have h1 : (Instr.box t (a.eval x)).run P w = .ok (.pointer (some ⟨w.heap.size, 0, none⟩)) (World.pushed w (.cells (a.eval x).cells t)) := by
    simp only [Instr.box, Sem.run_bind, newVar, run_newRow, Result.andThen_ok]
    rfl
  simp only [execOp, hop]
  rw [Sem.run_bind, h1]
  rfl
end
end Go.E

